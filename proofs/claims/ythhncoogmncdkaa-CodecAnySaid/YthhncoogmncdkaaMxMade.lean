/- What matrix.made does with each function that it is handed. No condition. -/
import Derived.Test.YthhncoogmncdkaaProg
import Derived.Test.YthhncoogmncdkaaHK
import Derived.Test.YthhncoogmncdkaaKit
import Derived.Test.YthhncoogmncdkaaCopy
import Derived.Test.YthhncoogmncdkaaWApart
import Derived.Deep.RegionHeld3
namespace Go.Proofs.Ythhncoogmncdkaa
open Go Go.RowKit Go.Proofs.YthhncoogmncdkaaW.PrintWords Go.Proofs.YthhncoogmncdkaaW.PrintLast Go.Proofs.YthhncoogmncdkaaW.PrintMore
theorem mk_info : (Try.prog.info? 5).map (fun i => (i.zero, i.size, i.bytes)) = some (some (.int .u8 0), 1, 1) := by kernel_rfl
theorem mk_info2 : (Try.prog.info? 23).map (fun i => (i.zero, i.size, i.bytes)) = some (some (.slice none 0 0), 1, 24) := by kernel_rfl
/-- the rows of a matrix, each in a block of its own -/
def inn (W : World) (g n : Nat) (b : Nat → Nat) (M : Nat → List Int) (m : Nat) : Prop :=
  (∀ i, i < n → W.heap[b i]? = some (.cells (encs (Value.int .u8) (M i)).toArray 5 (0, 0)) ∧ (M i).length = m ∧ g < b i) ∧ ∀ i j, i < n → j < n → b i = b j → i = j
theorem inn.keep {W W' : World} {g n : Nat} {b : Nat → Nat} {M : Nat → List Int} {m : Nat} (h : inn W g n b M m) (hk : ∀ k, k < n → W'.heap[b k]? = W.heap[b k]?) : inn W' g n b M m :=
  ⟨fun i hi => ⟨(hk i hi).trans (h.1 i hi).1, (h.1 i hi).2⟩, h.2⟩
theorem inn.below {W W' : World} {g n : Nat} {b : Nat → Nat} {M : Nat → List Int} {m : Nat} (h : inn W g n b M m) (hb : Below W.heap.size W W') : inn W' g n b M m :=
  h.keep fun k hk => hb.block _ (blk_lt (h.1 k hk).1)
theorem inn.snoc {W : World} {g n nb : Nat} {b : Nat → Nat} {M : Nat → List Int} {m : Nat} (h : inn W g n b M m) (hn : ∀ k, k < n → b k < nb) (h1 : W.heap[nb]? = some (.cells (encs (Value.int .u8) (M n)).toArray 5 (0, 0))) (h2 : (M n).length = m) (h3 : g < nb) : inn W g (n + 1) (fun k => if k = n then nb else b k) M m := by
  refine ⟨fun i hi => ?_, fun i j hi hj e => ?_⟩
  · by_cases e : i = n
    · subst e; simp only [if_true]; exact ⟨h1, h2, h3⟩
    · simp only [if_neg e]; exact h.1 i (by omega)
  · by_cases e1 : i = n
    · by_cases e2 : j = n
      · omega
      · simp only [if_pos e1, if_neg e2] at e
        have := hn j (by omega); omega
    · by_cases e2 : j = n
      · simp only [if_neg e1, if_pos e2] at e
        have := hn i (by omega); omega
      · simp only [if_neg e1, if_neg e2] at e
        exact h.2 i j (by omega) (by omega) e
theorem far_cell {w : World} {p q : Addr} (h : q.block ≠ p.block) (v : Value) : (w.setCell p v).cell? q = w.cell? q := by unfold World.cell?; rw [Below.heap_setCell w p v q.block h]
def mrow (G : Nat → Int) (cols j : Nat) : List Int := (List.range j).map G ++ List.replicate (cols - j) 0
theorem mrow_len (G : Nat → Int) {cols j : Nat} (h : j ≤ cols) : (mrow G cols j).length = cols := by simp [mrow]; omega
theorem mrow_set (G : Nat → Int) {cols j : Nat} (h : j < cols) : (mrow G cols j).set j (G j) = mrow G cols (j + 1) := by
  unfold mrow
  rw [List.set_append_right _ _ (by simp), List.length_map, List.length_range, Nat.sub_self, List.range_succ, List.map_append]
  obtain ⟨q, hq⟩ : ∃ q, cols - j = q + 1 := ⟨cols - j - 1, by omega⟩
  rw [hq, List.replicate_succ, List.set_cons_zero, show cols - (j + 1) = q by omega]
  simp
theorem mrow_all (G : Nat → Int) (cols : Nat) : mrow G cols cols = (List.range cols).map G := by simp [mrow]
theorem mrow_zero (G : Nat → Int) (cols : Nat) : madeCells #[Value.int .u8 0] cols = (encs (Value.int .u8) (mrow G cols 0)).toArray := by
  rw [← Array.toArray_toList (xs := madeCells #[Value.int .u8 0] cols), toList_madeCells_one]
  simp [encs, mrow]
def Rows (W : World) (g n : Nat) (b : Nat → Nat) (M : Nat → List Int) (m : Nat) : Prop := (∃ cs : Array Value, W.heap[g]? = some (.cells cs 23 (0, 0)) ∧ cs.size = n ∧ ∀ i, i < n → cs[i]? = some (.slice (some ⟨b i, 0, none⟩) m m)) ∧ inn W g n b M m
theorem find_b {b : Nat → Nat} {n i : Nat} (hi : i < n) (h : ∀ i j, i < n → j < n → b i = b j → i = j) : ((List.range n).find? (fun j => b j == b i)).getD 0 = i := by
  cases e : (List.range n).find? (fun j => b j == b i) with
  | none =>
    have := List.find?_eq_none.1 e i (List.mem_range.2 hi)
    simp at this
  | some j =>
    have h1 := List.find?_some e
    have h2 := List.mem_of_find?_eq_some e
    rw [beq_iff_eq] at h1
    exact h j i (List.mem_range.1 h2) hi h1
theorem Rows.S {W : World} {g n base : Nat} {b : Nat → Nat} {M : Nat → List Int} {m : Nat} (h : Rows W g n b M m) (hg : base ≤ g) (hn : n ≤ 1000000) (hm : m ≤ 1000000) : Kd.S (Kd.slice 5 (Kd.int .u8)) 23 W base (fun _ => True) (.slice (some ⟨g, 0, none⟩) n n) ((List.range n).map M) := by
  obtain ⟨⟨cs, hcs, hsz, hat⟩, hin, hap⟩ := h
  have ecs : cs = ((List.range n).map (fun i => Value.slice (some ⟨b i, 0, none⟩) m m)).toArray := by
    apply Array.ext_getElem?
    intro i
    by_cases hi : i < n
    · rw [hat i hi]; simp [hi]
    · rw [Array.getElem?_eq_none (by omega), Array.getElem?_eq_none (by simp; omega)]
  subst ecs
  refine ⟨fun k => ((List.range n).find? (fun j => b j == k)).getD 0, fun k _ => trivial, _, (show W.ownsRow base 23 1 _ _ _ from by simpa using own_of_block hcs hg (by simp [maxLen]; omega)), by simp [Kd.tag, Kd.slice], fun j p hj => ?_⟩
  have hjn : j < n := by
    have := (List.getElem?_eq_some_iff.1 hj).1
    simpa using this
  have hp : p = (M j, j) := by
    have := (List.getElem?_eq_some_iff.1 hj).2
    rw [← this]; simp
  subst hp
  have hd : (((List.range n).map (fun i => Value.slice (some ⟨b i, 0, none⟩) m m)).drop (j * (Kd.tag (fun k => ((List.range n).find? (fun j => b j == k)).getD 0) (Kd.slice 5 (Kd.int .u8))).sz)).take (Kd.tag (fun k => ((List.range n).find? (fun j => b j == k)).getD 0) (Kd.slice 5 (Kd.int .u8))).sz = [Value.slice (some ⟨b j, 0, none⟩) m m] := by
    show (List.drop (j * 1) _).take 1 = _
    rw [Nat.mul_one, List.drop_eq_getElem_cons (by simpa using hjn)]
    simp
  rw [hd]
  obtain ⟨h1, h2, h3⟩ := hin j hjn
  refine ⟨_, rfl, ?_⟩
  have hown := own_of_block (base := base) h1 (by omega) (by simp [encs, maxLen]; omega)
  have hlen : (encs (Value.int .u8) (M j)).length = m := by simp [encs, h2]
  rw [hlen] at hown
  refine Kd.R_of_own (h1 := fun _ => rfl) (by rw [h2]; exact hown) (fun k hk => ?_)
  have : k = b j := by simpa [Value.ownBlock, eq_comm] using hk
  subst this
  exact ⟨⟨trivial, by simp [Value.ownBlock]; omega⟩, find_b hjn hap⟩
set_option maxHeartbeats 4000000 in
theorem made_One (rows cols : Nat) (G : Nat → Nat → Int) (w : World) (hr : rows ≤ 100) (hc : cols ≤ 100) 
    (hcall : ∀ (i j : Nat) (W : World), i < rows → j < cols → Below w.heap.size w W → Calls Try.prog 53 #[.int .i64 i, .int .i64 j] W (fun e w' => e = .returned (.int .u8 (G i j)) ∧ Below W.heap.size W w')) :
    Calls Try.prog 52 #[.int .i64 rows, .int .i64 cols, .func (.func 53) #[] #[]] w fun e w' => ∃ b, e = .returned (.slice (some ⟨w.heap.size, 0, none⟩) rows rows) ∧ Rows w' w.heap.size rows b (fun i => (List.range cols).map (G i)) cols ∧ Below w.heap.size w w' := by
  have hm1 := print_make_of 24 23 (.slice none 0 0) 24 Try.underlying24 mk_info2 rfl (by omega) rows (by omega) w
  have e2 : (madeCells #[Value.slice none 0 0] rows).size = rows := by
    rw [← Array.length_toList, toList_madeCells_one, List.length_replicate]
  generalize madeCells #[Value.slice none 0 0] rows = C0 at hm1 e2
  have E2 := Lib.hid e2
  have HC := Lib.hid hcall
  clear e2 hcall
  go_enter Try.func52, Try.ntmps52
  go_wp2_with fail
  go_loopg [14] rows (fun g s14 wx => ∃ (i : Nat) (b : Nat → Nat) (cs : Array Value), i + g = rows ∧ s14 = .int .i64 i ∧ Aside0 (cs.size = rows ∧ wx.heap[w.heap.size]? = some (.cells cs 23 (0, 0)) ∧ ∀ k, k < i → cs[k]? = some (.slice (some ⟨b k, 0, none⟩) cols cols)) ∧ Aside0 (inn wx w.heap.size i b (fun i => (List.range cols).map (G i)) cols) ∧ Aside0 (Below w.heap.size w wx))
  case atStart => exact ⟨0, fun _ => 0, C0, by omega, rfl, ⟨E2.out, blk_new w _, fun k hk => absurd hk (by omega)⟩, ⟨fun i hi => absurd hi (by omega), fun i j hi => absurd hi (by omega)⟩, ⟨below_alloc (Below.refl _ _) _⟩⟩
  case round =>
    clear hm1
    obtain ⟨i, b, cs, hig, rfl, HO, HR, HB⟩ := hrel
    cases gk with
    | zero =>
      obtain rfl : i = rows := by omega
      go_wp2_with fail
      go_ret
      exact ⟨b, rfl, ⟨⟨cs, HO.out.2.1, HO.out.1, HO.out.2.2⟩, HR.out⟩, HB.out⟩
    | succ g =>
      have hi : (i : Int) < (rows : Int) := by omega
      have hm2 := print_make 23 5 .u8 1 Try.underlying23 mk_info (by omega) cols (by omega) wr
      have ez := mrow_zero (G i) cols
      generalize madeCells #[Value.int .u8 0] cols = C1 at hm2 ez
      have HG := Lib.hid (blk_alloc HO.out.2.1 (.cells C1 5))
      obtain ⟨v0, hv0⟩ : ∃ v0, cs[i]? = some v0 := ⟨cs[i]'(by have := HO.out.1; omega), by simp⟩
      have hx : (wr.alloc (.cells C1 5)).cell? ⟨w.heap.size, i, none⟩ = some v0 := (blk_cell HG.out i).trans hv0
      have hf := blk_frozen HG.out i
      have HN := Lib.hid (blk_new wr (.cells C1 5))
      have HIN := Lib.hid (HR.out.below (below_alloc (Below.refl _ _) (.cells C1 5)))
      have HBn := Lib.hid (show ∀ k, k < i → b k < wr.heap.size from fun k hk => blk_lt (HR.out.1 k hk).1)
      have HB2 := Lib.hid (below_alloc HB.out (.cells C1 5))
      have HGl := Lib.hid (blk_lt HO.out.2.1)
      have EZ := Lib.hid ez
      clear hv0 HR HB ez
      go_wp2_with fail
      have hO2 := blk_set HG.out i (.slice (some ⟨wr.heap.size, 0, none⟩) cols cols)
      have hN2 := blk_far HN.out (p := ⟨w.heap.size, i, none⟩) (by have := HGl.out; show wr.heap.size ≠ w.heap.size; omega) (.slice (some ⟨wr.heap.size, 0, none⟩) cols cols)
      have hI2 := HIN.out.keep (W' := (wr.alloc (.cells C1 5)).setCell ⟨w.heap.size, i, none⟩ (.slice (some ⟨wr.heap.size, 0, none⟩) cols cols)) (fun k hk => Below.heap_setCell _ _ _ _ (by have := (HIN.out.1 k hk).2.2; show b k ≠ w.heap.size; omega))
      have hB3 := below_set (j := i) (v := .slice (some ⟨wr.heap.size, 0, none⟩) cols cols) HB2.out (Nat.le_refl _)
      clear hx hf hm2 HG HN HIN HB2
      generalize (wr.alloc (.cells C1 5)).setCell ⟨w.heap.size, i, none⟩ (.slice (some ⟨wr.heap.size, 0, none⟩) cols cols) = w2 at hO2 hN2 hI2 hB3 ⊢
      generalize wr.heap.size = nb at HBn HGl hO2 hN2 hB3 ⊢
      rw [EZ.out] at hN2
      clear EZ
      have HCS := Lib.hid HO.out.1
      have HCB := Lib.hid HO.out.2.2
      have HO2 := Lib.hid hO2
      have HN2 := Lib.hid hN2
      have HI2 := Lib.hid hI2
      have HB3 := Lib.hid hB3
      clear hO2 hN2 hI2 hB3 HO
      go_loopg [27] cols (fun g2 s27 wx => ∃ j : Nat, j + g2 = cols ∧ s27 = .int .i64 j ∧ Aside0 (wx.heap[w.heap.size]? = some (.cells (cs.setIfInBounds i (.slice (some ⟨nb, 0, none⟩) cols cols)) 23 (0, 0))) ∧ Aside0 (wx.heap[nb]? = some (.cells (encs (Value.int .u8) (mrow (G i) cols j)).toArray 5 (0, 0))) ∧ Aside0 (inn wx w.heap.size i b (fun i => (List.range cols).map (G i)) cols) ∧ Aside0 (Below w.heap.size w wx))
      case atStart => exact ⟨0, by omega, rfl, ⟨HO2.out⟩, ⟨HN2.out⟩, ⟨HI2.out⟩, ⟨HB3.out⟩⟩
      case round =>
        clear HO2 HN2 HI2 HB3
        obtain ⟨j, hjg, rfl, HO, HN, HI, HB⟩ := hrel
        cases gk with
        | zero =>
          obtain rfl : j = cols := by omega
          go_wp2_with fail
          go_roundg g
          case measure => omega
          case rel =>
            refine ⟨i + 1, fun k => if k = i then nb else b k, _, by omega, by go_num, ⟨?_, HO.out, fun k hk => ?_⟩, ⟨HI.out.snoc HBn.out (by rw [← mrow_all]; exact HN.out) (by simp) HGl.out⟩, ⟨HB.out⟩⟩
            · rw [Array.size_setIfInBounds]; exact HCS.out
            · by_cases e : k = i
              · subst e; rw [Array.getElem?_setIfInBounds_self_of_lt (by have := HCS.out; omega)]; simp
              · rw [Array.getElem?_setIfInBounds_ne (fun h => e h.symm)]; show cs[k]? = some (.slice (some ⟨if k = i then nb else b k, 0, none⟩) _ _); rw [if_neg e]; exact HCB.out k (by omega)
        | succ g2 =>
          have hj : (j : Int) < (cols : Int) := by omega
          have hcs : (cs.setIfInBounds i (.slice (some ⟨nb, 0, none⟩) cols cols))[i]? = some (.slice (some ⟨nb, 0, none⟩) cols cols) := Array.getElem?_setIfInBounds_self_of_lt (by have := HCS.out; omega)
          have hx1 : wr.cell? ⟨w.heap.size, i, none⟩ = some (.slice (some ⟨nb, 0, none⟩) cols cols) := (blk_cell HO.out i).trans hcs
          have HC1 := Lib.hid (HC.out i j)
          clear hcs
          have hm : (encs (Value.int .u8) (mrow (G i) cols j)).toArray[j]? = some (.int .u8 ((mrow (G i) cols j)[j]'(by rw [mrow_len _ (by omega)]; omega))) := by
            rw [List.getElem?_toArray]; simp [encs]
          have HM := Lib.hid hm
          clear hm
          go_wp2_with fail
          go_region_held3 (fun w' => w'.cell? ⟨w.heap.size, i, none⟩ = some (.slice (some ⟨nb, 0, none⟩) cols cols)) (first | go_keep | assumption | (rw [far_cell (by have := HGl.out; show w.heap.size ≠ nb; omega)]; assumption)) (first | ((go_at_call 53; refine (HC1.out _ (by omega) (by omega) (below_drew HB.out)).mono ?_; rintro e w' ⟨rfl, hb⟩; have hx2 : w'.cell? ⟨w.heap.size, i, none⟩ = some (.slice (some ⟨nb, 0, none⟩) cols cols) := (hb.cell (p := ⟨w.heap.size, i, none⟩) (blk_lt HO.out)).trans hx1; have hN2 := (hb.block _ (blk_lt HN.out)).trans HN.out; have hy2 := (blk_cell hN2 j).trans HM.out; have hz2 := blk_frozen hN2 j; have HB4 := Lib.hid hb; clear hb; replace hN2 := Lib.hid hN2)))
          have HW := Lib.hid (below_step (below_drew (Below.refl wr.heap.size wr)) HB4.out)
          have HB5 := Lib.hid (below_step (below_drew HB.out) HB4.out)
          have HO5 := Lib.hid (blk_far ((HW.out.block _ (blk_lt HO.out)).trans HO.out) (p := ⟨nb, j, none⟩) (by have := HGl.out; show w.heap.size ≠ nb; omega) (.int .u8 (G i j)))
          have HI5 := Lib.hid ((HI.out.below HW.out).keep (W' := w'.setCell ⟨nb, j, none⟩ (.int .u8 (G i j))) (fun k hk => Below.heap_setCell _ _ _ _ (by have := HBn.out k hk; show b k ≠ nb; omega)))
          have HN5 := Lib.hid (blk_put (cs' := (encs (Value.int .u8) (mrow (G i) cols (j + 1))).toArray) hN2.out j (.int .u8 (G i j)) (by rw [← mrow_set (G i) (by omega)]; simp [encs]))
          clear hx2 hy2 hz2 hx1
          go_wp2_with fail
          go_roundg g2
          case measure => omega
          case rel => exact ⟨j + 1, by omega, by go_num, ⟨HO5.out⟩, ⟨HN5.out⟩, ⟨HI5.out⟩, ⟨below_set HB5.out (by have := HGl.out; omega)⟩⟩
set_option maxHeartbeats 4000000 in
theorem made_Cauchy (rows cols : Nat) (G : Nat → Nat → Int) (w : World) (hr : rows ≤ 100) (hc : cols ≤ 100) (cap0 : Addr)
    (hcall : ∀ (i j : Nat) (W : World), i < rows → j < cols → Below w.heap.size w W → Calls Try.prog 54 #[.int .i64 i, .int .i64 j, .pointer (some cap0)] W (fun e w' => e = .returned (.int .u8 (G i j)) ∧ Below W.heap.size W w')) :
    Calls Try.prog 52 #[.int .i64 rows, .int .i64 cols, .func (.func 54) #[] #[.pointer (some cap0)]] w fun e w' => ∃ b, e = .returned (.slice (some ⟨w.heap.size, 0, none⟩) rows rows) ∧ Rows w' w.heap.size rows b (fun i => (List.range cols).map (G i)) cols ∧ Below w.heap.size w w' := by
  have hm1 := print_make_of 24 23 (.slice none 0 0) 24 Try.underlying24 mk_info2 rfl (by omega) rows (by omega) w
  have e2 : (madeCells #[Value.slice none 0 0] rows).size = rows := by
    rw [← Array.length_toList, toList_madeCells_one, List.length_replicate]
  generalize madeCells #[Value.slice none 0 0] rows = C0 at hm1 e2
  have E2 := Lib.hid e2
  have HC := Lib.hid hcall
  clear e2 hcall
  go_enter Try.func52, Try.ntmps52
  go_wp2_with fail
  go_loopg [14] rows (fun g s14 wx => ∃ (i : Nat) (b : Nat → Nat) (cs : Array Value), i + g = rows ∧ s14 = .int .i64 i ∧ Aside0 (cs.size = rows ∧ wx.heap[w.heap.size]? = some (.cells cs 23 (0, 0)) ∧ ∀ k, k < i → cs[k]? = some (.slice (some ⟨b k, 0, none⟩) cols cols)) ∧ Aside0 (inn wx w.heap.size i b (fun i => (List.range cols).map (G i)) cols) ∧ Aside0 (Below w.heap.size w wx))
  case atStart => exact ⟨0, fun _ => 0, C0, by omega, rfl, ⟨E2.out, blk_new w _, fun k hk => absurd hk (by omega)⟩, ⟨fun i hi => absurd hi (by omega), fun i j hi => absurd hi (by omega)⟩, ⟨below_alloc (Below.refl _ _) _⟩⟩
  case round =>
    clear hm1
    obtain ⟨i, b, cs, hig, rfl, HO, HR, HB⟩ := hrel
    cases gk with
    | zero =>
      obtain rfl : i = rows := by omega
      go_wp2_with fail
      go_ret
      exact ⟨b, rfl, ⟨⟨cs, HO.out.2.1, HO.out.1, HO.out.2.2⟩, HR.out⟩, HB.out⟩
    | succ g =>
      have hi : (i : Int) < (rows : Int) := by omega
      have hm2 := print_make 23 5 .u8 1 Try.underlying23 mk_info (by omega) cols (by omega) wr
      have ez := mrow_zero (G i) cols
      generalize madeCells #[Value.int .u8 0] cols = C1 at hm2 ez
      have HG := Lib.hid (blk_alloc HO.out.2.1 (.cells C1 5))
      obtain ⟨v0, hv0⟩ : ∃ v0, cs[i]? = some v0 := ⟨cs[i]'(by have := HO.out.1; omega), by simp⟩
      have hx : (wr.alloc (.cells C1 5)).cell? ⟨w.heap.size, i, none⟩ = some v0 := (blk_cell HG.out i).trans hv0
      have hf := blk_frozen HG.out i
      have HN := Lib.hid (blk_new wr (.cells C1 5))
      have HIN := Lib.hid (HR.out.below (below_alloc (Below.refl _ _) (.cells C1 5)))
      have HBn := Lib.hid (show ∀ k, k < i → b k < wr.heap.size from fun k hk => blk_lt (HR.out.1 k hk).1)
      have HB2 := Lib.hid (below_alloc HB.out (.cells C1 5))
      have HGl := Lib.hid (blk_lt HO.out.2.1)
      have EZ := Lib.hid ez
      clear hv0 HR HB ez
      go_wp2_with fail
      have hO2 := blk_set HG.out i (.slice (some ⟨wr.heap.size, 0, none⟩) cols cols)
      have hN2 := blk_far HN.out (p := ⟨w.heap.size, i, none⟩) (by have := HGl.out; show wr.heap.size ≠ w.heap.size; omega) (.slice (some ⟨wr.heap.size, 0, none⟩) cols cols)
      have hI2 := HIN.out.keep (W' := (wr.alloc (.cells C1 5)).setCell ⟨w.heap.size, i, none⟩ (.slice (some ⟨wr.heap.size, 0, none⟩) cols cols)) (fun k hk => Below.heap_setCell _ _ _ _ (by have := (HIN.out.1 k hk).2.2; show b k ≠ w.heap.size; omega))
      have hB3 := below_set (j := i) (v := .slice (some ⟨wr.heap.size, 0, none⟩) cols cols) HB2.out (Nat.le_refl _)
      clear hx hf hm2 HG HN HIN HB2
      generalize (wr.alloc (.cells C1 5)).setCell ⟨w.heap.size, i, none⟩ (.slice (some ⟨wr.heap.size, 0, none⟩) cols cols) = w2 at hO2 hN2 hI2 hB3 ⊢
      generalize wr.heap.size = nb at HBn HGl hO2 hN2 hB3 ⊢
      rw [EZ.out] at hN2
      clear EZ
      have HCS := Lib.hid HO.out.1
      have HCB := Lib.hid HO.out.2.2
      have HO2 := Lib.hid hO2
      have HN2 := Lib.hid hN2
      have HI2 := Lib.hid hI2
      have HB3 := Lib.hid hB3
      clear hO2 hN2 hI2 hB3 HO
      go_loopg [27] cols (fun g2 s27 wx => ∃ j : Nat, j + g2 = cols ∧ s27 = .int .i64 j ∧ Aside0 (wx.heap[w.heap.size]? = some (.cells (cs.setIfInBounds i (.slice (some ⟨nb, 0, none⟩) cols cols)) 23 (0, 0))) ∧ Aside0 (wx.heap[nb]? = some (.cells (encs (Value.int .u8) (mrow (G i) cols j)).toArray 5 (0, 0))) ∧ Aside0 (inn wx w.heap.size i b (fun i => (List.range cols).map (G i)) cols) ∧ Aside0 (Below w.heap.size w wx))
      case atStart => exact ⟨0, by omega, rfl, ⟨HO2.out⟩, ⟨HN2.out⟩, ⟨HI2.out⟩, ⟨HB3.out⟩⟩
      case round =>
        clear HO2 HN2 HI2 HB3
        obtain ⟨j, hjg, rfl, HO, HN, HI, HB⟩ := hrel
        cases gk with
        | zero =>
          obtain rfl : j = cols := by omega
          go_wp2_with fail
          go_roundg g
          case measure => omega
          case rel =>
            refine ⟨i + 1, fun k => if k = i then nb else b k, _, by omega, by go_num, ⟨?_, HO.out, fun k hk => ?_⟩, ⟨HI.out.snoc HBn.out (by rw [← mrow_all]; exact HN.out) (by simp) HGl.out⟩, ⟨HB.out⟩⟩
            · rw [Array.size_setIfInBounds]; exact HCS.out
            · by_cases e : k = i
              · subst e; rw [Array.getElem?_setIfInBounds_self_of_lt (by have := HCS.out; omega)]; simp
              · rw [Array.getElem?_setIfInBounds_ne (fun h => e h.symm)]; show cs[k]? = some (.slice (some ⟨if k = i then nb else b k, 0, none⟩) _ _); rw [if_neg e]; exact HCB.out k (by omega)
        | succ g2 =>
          have hj : (j : Int) < (cols : Int) := by omega
          have hcs : (cs.setIfInBounds i (.slice (some ⟨nb, 0, none⟩) cols cols))[i]? = some (.slice (some ⟨nb, 0, none⟩) cols cols) := Array.getElem?_setIfInBounds_self_of_lt (by have := HCS.out; omega)
          have hx1 : wr.cell? ⟨w.heap.size, i, none⟩ = some (.slice (some ⟨nb, 0, none⟩) cols cols) := (blk_cell HO.out i).trans hcs
          have HC1 := Lib.hid (HC.out i j)
          clear hcs
          have hm : (encs (Value.int .u8) (mrow (G i) cols j)).toArray[j]? = some (.int .u8 ((mrow (G i) cols j)[j]'(by rw [mrow_len _ (by omega)]; omega))) := by
            rw [List.getElem?_toArray]; simp [encs]
          have HM := Lib.hid hm
          clear hm
          go_wp2_with fail
          go_region_held3 (fun w' => w'.cell? ⟨w.heap.size, i, none⟩ = some (.slice (some ⟨nb, 0, none⟩) cols cols)) (first | go_keep | assumption | (rw [far_cell (by have := HGl.out; show w.heap.size ≠ nb; omega)]; assumption)) (first | ((go_at_call 54; refine (HC1.out _ (by omega) (by omega) (below_drew HB.out)).mono ?_; rintro e w' ⟨rfl, hb⟩; have hx2 : w'.cell? ⟨w.heap.size, i, none⟩ = some (.slice (some ⟨nb, 0, none⟩) cols cols) := (hb.cell (p := ⟨w.heap.size, i, none⟩) (blk_lt HO.out)).trans hx1; have hN2 := (hb.block _ (blk_lt HN.out)).trans HN.out; have hy2 := (blk_cell hN2 j).trans HM.out; have hz2 := blk_frozen hN2 j; have HB4 := Lib.hid hb; clear hb; replace hN2 := Lib.hid hN2)))
          have HW := Lib.hid (below_step (below_drew (Below.refl wr.heap.size wr)) HB4.out)
          have HB5 := Lib.hid (below_step (below_drew HB.out) HB4.out)
          have HO5 := Lib.hid (blk_far ((HW.out.block _ (blk_lt HO.out)).trans HO.out) (p := ⟨nb, j, none⟩) (by have := HGl.out; show w.heap.size ≠ nb; omega) (.int .u8 (G i j)))
          have HI5 := Lib.hid ((HI.out.below HW.out).keep (W' := w'.setCell ⟨nb, j, none⟩ (.int .u8 (G i j))) (fun k hk => Below.heap_setCell _ _ _ _ (by have := HBn.out k hk; show b k ≠ nb; omega)))
          have HN5 := Lib.hid (blk_put (cs' := (encs (Value.int .u8) (mrow (G i) cols (j + 1))).toArray) hN2.out j (.int .u8 (G i j)) (by rw [← mrow_set (G i) (by omega)]; simp [encs]))
          clear hx2 hy2 hz2 hx1
          go_wp2_with fail
          go_roundg g2
          case measure => omega
          case rel => exact ⟨j + 1, by omega, by go_num, ⟨HO5.out⟩, ⟨HN5.out⟩, ⟨HI5.out⟩, ⟨below_set HB5.out (by have := HGl.out; omega)⟩⟩
end Go.Proofs.Ythhncoogmncdkaa
