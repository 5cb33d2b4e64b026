-- written by the session's own program (wip/prt.py) over the kit's print: not print.sh's own text
import Derived.Test.YtmmbojeikppinaaPEx0
import Derived.Test.YtmmbojeikppinaaPEx3
import Derived.Test.YtmmbojeikppinaaPEx7
namespace Go.Proofs.Ytmmbojeikppinaa.PE
open Go.RowKit Go.Proofs.YtmmbojeikppinaaW.PrintWords Go.Proofs.YtmmbojeikppinaaW.PrintLast Go.Proofs.YtmmbojeikppinaaW.PrintMore
attribute [local go_sem] max2_int min2_int max_two min_two max_three min_three max_four min_four   -- for this text's walks alone
set_option linter.unusedVariables false
set_option linter.unusedSimpArgs false

/-! ### delta_All: function 11 -/
theorem delta_All.i1 : (Try.prog.info? 5).map (fun i => (i.zero, i.size, i.bytes)) = some (some (.int .u8 0), 1, 1) := by kernel_rfl
theorem delta_All.i2 : (Try.prog.info? 23).map (fun i => (i.zero, i.size, i.bytes)) = some (some (.slice none 0 0), 1, 24) := by kernel_rfl
/-- the cells are numbers below k, each once -/
def delta_All.okc (k : Int) (l : List Int) : Prop := (∀ x ∈ l, 0 ≤ x ∧ x < k) ∧ l.Nodup
instance delta_All.dec1 (k : Int) (l : List Int) : Decidable (delta_All.okc k l) := by unfold delta_All.okc; infer_instance
def delta_All.add (K : Nat) (k r : Int) (parity : List (List Int)) (cells : List Int) (deltas : List (List Int)) (i : Int) : Option (List Int × Int) :=
  (codec_Row.f k r (wrap64 (k + i))).bind fun row => if row.2 ≠ 0 then some ([], row.2) else if cells = [] then (if (rd_L1 parity i).length ≤ 65536 then some (List.replicate (rd_L1 parity i).length 0, 0) else none) else if cells.length ≤ 1000 ∧ ∀ x ∈ cells, 0 ≤ x ∧ x < row.1.length then kernel_Dot.f K (cells.map (rd row.1)) deltas else none
def delta_All.sum (K : Nat) (add : Int → Option (List Int × Int)) : List (List Int) → Int → List (List Int) → Option (List (List Int) × Int)
  | [], _, out => some (out, 0)
  | p :: ps, i, out => (add i).bind fun c => if c.2 ≠ 0 then some ([], c.2) else (kernel_Xor.f K p c.1).bind fun d => if d.2 ≠ 0 then some ([], d.2) else delta_All.sum K add ps (i + 1) (out ++ [d.1])
def delta_All.f (K : Nat) (k r : Int) (parity : List (List Int)) (cells : List Int) (deltas : List (List Int)) : Option (List (List Int) × Int) :=
  (delta_asked.f k r parity).bind fun e => if e ≠ 0 then some ([], e) else if (cells.length : Int) > k then some ([], 2) else if delta_All.okc k cells then (if deltas.length ≠ cells.length then some ([], 40) else if deltas.length ≤ 1000 ∧ parity.length ≤ 1000 then (delta_alike.f (deltas ++ parity)).bind fun b => if b = true then delta_All.sum K (delta_All.add K k r parity cells deltas) parity 0 [] else some ([], 40) else none) else some ([], 2)
theorem delta_All.add_mono {K : Nat} {k r : Int} {parity : List (List Int)} {cells : List Int} {deltas : List (List Int)} (i : Int) : LeO (delta_All.add K k r parity cells deltas i) (delta_All.add (K + 1) k r parity cells deltas i) :=
  LeO.bind (LeO.refl _) (fun _ => LeO.ite (LeO.refl _) (LeO.ite (LeO.refl _) (LeO.ite (kernel_Dot.mono _ _ _) (LeO.refl _))))
theorem delta_All.sum_mono {K : Nat} {add add' : Int → Option (List Int × Int)} (ha : ∀ i, LeO (add i) (add' i)) : ∀ (l : List (List Int)) (i : Int) (out : List (List Int)), LeO (delta_All.sum K add l i out) (delta_All.sum (K + 1) add' l i out)
  | [], _, _ => LeO.refl _
  | _ :: ps, i, _ => LeO.bind (ha i) (fun _ => LeO.ite (LeO.refl _) (LeO.bind (kernel_Xor.mono _ _ _) (fun _ => LeO.ite (LeO.refl _) (delta_All.sum_mono ha ps _ _))))
theorem delta_All.mono : ∀ a0 a1 a2 a3 a4 k, LeO (delta_All.f k a0 a1 a2 a3 a4) (delta_All.f (k + 1) a0 a1 a2 a3 a4) := fun _ _ _ _ _ _ =>
  LeO.bind (LeO.refl _) (fun _ => LeO.ite (LeO.refl _) (LeO.ite (LeO.refl _) (LeO.ite (LeO.ite (LeO.refl _) (LeO.ite (LeO.bind (LeO.refl _) (fun _ => LeO.ite (delta_All.sum_mono (fun _ => delta_All.add_mono _) _ _ _) (LeO.refl _))) (LeO.refl _))) (LeO.refl _))))
/-- is a number in a list -/
def delta_All.idx (x : Int) : List Int → Int → Int
  | [], _ => -1
  | y :: ys, i => if x = y then i else delta_All.idx x ys (i + 1)
theorem delta_All.idx_drop {x : Int} {l : List Int} {i : Nat} (h : i < l.length) : delta_All.idx x (l.drop i) i = if x = rd l i then (i : Int) else delta_All.idx x (l.drop (i + 1)) ((i + 1 : Nat) : Int) := by
  rw [List.drop_eq_getElem_cons h, delta_All.idx]
  have : rd l (i : Int) = l[i] := by simp [rd, h]
  rw [this] <;> rfl
theorem delta_All.idx_any (x : Int) : ∀ (l : List Int) (i : Int), 0 ≤ i → decide (delta_All.idx x l i ≥ 0) = decide (x ∈ l)
  | [], _, _ => by simp [delta_All.idx]
  | y :: ys, i, h => by
    rw [delta_All.idx]
    by_cases e : x = y
    · rw [if_pos e]; simp [e, h]
    · rw [if_neg e, delta_All.idx_any x ys (i + 1) (by omega)]
      simp [e]
theorem delta_All.contains (A : Option Addr) (c : Nat) (l : List Int) (x : Int) (w : World) (hr : Kd.C (Kd.int .i64) w A l.length l) (hc : l.length ≤ c) :
    Calls Try.prog 24 #[.slice A l.length c, .int .i64 x] w fun e w' => e = .returned (.bool (decide (x ∈ l))) ∧ w' = w := by
  have HR := Lib.hid hr
  have HA := Lib.hid (delta_All.idx_any x l 0 (Int.le_refl _))
  have hl : l.length ≤ 9223372036854775807 := hr.2.1
  clear hr
  have hI : Calls Try.prog 40 #[.slice A l.length c, .int .i64 x] w fun e w' => e = .returned (.int .i64 (delta_All.idx x l 0)) ∧ w' = w := by
    go_enter Try.func40, Try.ntmps40
    go_wp2_with fail
    go_loopg [5, 8] l.length (fun g s5 s8 wx => ∃ n : Nat, n + g = l.length ∧ s8 = .int .i64 n ∧ wx = w ∧ Aside0 (delta_All.idx x l 0 = delta_All.idx x (l.drop n) n))
    case atStart => exact ⟨0, by omega, rfl, rfl, ⟨rfl⟩⟩
    case round =>
      obtain ⟨n, hng, rfl, rfl, HI⟩ := hrel
      cases gk with
      | zero =>
        obtain rfl : n = l.length := by omega
        go_wp2_with fail
        go_ret
        exact ⟨by rw [HI.out, List.drop_length]; rfl, rfl⟩
      | succ g =>
        have hn : n < l.length := by omega
        obtain ⟨ad, e1, hx⟩ := Kd.at_int HR.out (n : Int) (by omega) (by omega)
        rw [Int.toNat_natCast] at hx
        cases e1
        have hd := delta_All.idx_drop (x := x) hn
        by_cases e : x = rd l n
        case pos =>
          rw [if_pos e] at hd
          have HD := Lib.hid hd
          have eb : (x == rd l n) = true := beq_iff_eq.mpr e
          clear hd e
          go_wp2_with fail
          go_ret
          exact ⟨by rw [HI.out, HD.out]; rfl, rfl⟩
        case neg =>
          rw [if_neg e] at hd
          have HD := Lib.hid hd
          have eb : (x == rd l n) = false := beq_eq_false_iff_ne.mpr e
          clear hd e
          go_wp2_with fail
          go_roundg g
          case measure => omega
          case rel => exact ⟨n + 1, by omega, by go_num, rfl, ⟨by rw [HI.out, HD.out] <;> rfl⟩⟩
  have HI := Lib.hid hI
  clear hI
  go_enter Try.func24, Try.ntmps24
  go_wp2_with fail
  refine HI.out.mono ?_
  rintro e w1 ⟨rfl, rfl⟩
  go_wp2_with fail
  go_ret
  exact ⟨by rw [← HA.out]; rfl, rfl⟩
/-- slices.Grow of nil -/
theorem delta_All.grow (n : Nat) (hn : n ≤ 100000) (w : World) : Calls Try.prog 41 #[.slice none 0 0, .int .i64 n] w fun e w' => ∃ v, e = .returned v ∧ Kd.R (Kd.raw 1) 23 w' w.heap.size (fun _ => True) v ([] : List (List Value)) ∧ Below w.heap.size w w' := by
  have h1 : ¬ (n : Int) < 0 := by omega
  have d1 : decide ((n : Int) < 0) = false := decide_eq_false h1
  have hw : wrap64 ((n : Int) - 0) = (n : Int) := by unfold wrap64; omega
  by_cases h0 : n = 0
  · subst h0
    clear hw h1
    go_enter Try.func41, Try.ntmps41
    go_wp2_with fail
    go_ret
    exact ⟨_, rfl, Kd.R_nil _ _ _ _ _, Below.refl _ _⟩
  have d2 : decide ((n : Int) > 0) = true := decide_eq_true (by omega)
  have hpos : (0 : Int) < (n : Int) := by omega
  have hb1 : (n : Int) ≤ 100000 := by omega
  have hw2 : wrap64 (n : Int) = (n : Int) := by unfold wrap64; omega
  have HN := Lib.hid hn
  have H0 := Lib.hid h0
  clear hn h0
  go_enter Try.func41, Try.ntmps41
  go_wp2_with ((with_reducible refine gate_builtin (b := .append) (xs := #[.tmp 20, .tmp 21]) rfl ?_); at_builtin; refine Kd.R_append_zeros (Kd.raw 1) (w0 := w) w.heap.size rfl (.tmp 20) (.tmp 21) 27 3 23 (.slice none 0 0) 24 rfl Try.underlying27 Try.underlying3 delta_All.i2 rfl (by decide) (by omega) (.slice none 0 0) ([] : List (List Value)) [.slice none 0 0] (n : Int) (fun _ => True) rfl rfl ⟨rfl, rfl, fun u hu => by simp [Value.cells] at hu; subst hu; rfl⟩ (fun _ _ => trivial) (Kd.R_nil _ _ _ _ _) (by omega) (Below.refl _ _) (Nat.le_refl _) (by have := HN.out; simp; omega) ?_; intro v1 w1 ho hb hg hat; have HO := Lib.hid ho; have HB := Lib.hid hb; clear ho hb hg hat; obtain ⟨g_, cap_, hv_, -, -, -⟩ := Kd.R_form HO.out (by have := H0.out; simp; omega); subst hv_)
  go_ret
  exact ⟨_, rfl, by have := Kd.R_take (m := 0) HO.out (Nat.zero_le _); simpa using this, HB.out⟩
/-- slices.Concat of two -/
theorem delta_All.concat (g : Nat) (A1 : Option Addr) (c1 : Nat) (l1 : List (List Int)) (A2 : Option Addr) (c2 : Nat) (l2 : List (List Int)) (w : World) (hg : w.heap[g]? = some (.cells #[.slice A1 l1.length c1, .slice A2 l2.length c2] 27 (0, 0)))
    (hr1 : Kd.C (Kd.slice 5 (Kd.int .u8)) w A1 l1.length l1) (hr2 : Kd.C (Kd.slice 5 (Kd.int .u8)) w A2 l2.length l2) (hl1 : l1.length ≤ 1000) (hl2 : l2.length ≤ 1000) :
    Calls Try.prog 25 #[.slice (some ⟨g, 0, none⟩) 2 2] w fun e w' => ∃ A c, e = .returned (.slice A (l1 ++ l2).length c) ∧ (l1 ++ l2).length ≤ c ∧ Kd.C (Kd.slice 5 (Kd.int .u8)) w' A (l1 ++ l2).length (l1 ++ l2) ∧ Below w.heap.size w w' := by
  obtain ⟨n1, -, q1, vs1, rfl, hv1⟩ := RowsC.of_C hr1
  obtain ⟨n2, -, q2, vs2, rfl, hv2⟩ := RowsC.of_C hr2
  have hx0 : w.cell? ⟨g, 0, none⟩ = some (.slice A1 l1.length c1) := (blk_cell hg 0).trans rfl
  have hx1 : w.cell? ⟨g, 1, none⟩ = some (.slice A2 l2.length c2) := (blk_cell hg 1).trans rfl
  have HG := Lib.hid hg
  have Q1 := Lib.hid q1
  have Q2 := Lib.hid q2
  have V1 := Lib.hid hv1
  have V2 := Lib.hid hv2
  have L1 := Lib.hid hl1
  have L2 := Lib.hid hl2
  have hb1 : (l1.length : Int) ≤ 1000 := by omega
  have hb2 : (l2.length : Int) ≤ 1000 := by omega
  have hs0 : 0 ≤ (l1.length : Int) + (l2.length : Int) := by omega
  clear hg hr1 hr2 q1 q2 hv1 hv2 hl1 hl2
  go_enter Try.func25, Try.ntmps25
  go_wp2_with fail
  refine wp_loop_rounds 3 ?_
  rw [rounds_succ]
  go_wp2_with fail
  rw [rounds_succ]
  go_wp2_with fail
  rw [rounds_succ]
  go_wp2_with fail
  have hG := delta_All.grow (l1.length + l2.length) (by have := L1.out; have := L2.out; omega) w
  rw [Int.natCast_add] at hG
  refine hG.mono ?_
  clear hG
  rintro e' w1 ⟨v1, rfl, ho, hb⟩
  have HO := Lib.hid ho
  have HB := Lib.hid hb
  have hy0 : w1.cell? ⟨g, 0, none⟩ = some (.slice A1 l1.length c1) := (blk_cell (blk_below HG.out hb) 0).trans rfl
  have hy1 : w1.cell? ⟨g, 1, none⟩ = some (.slice A2 l2.length c2) := (blk_cell (blk_below HG.out hb) 1).trans rfl
  clear ho hb hx0 hx1
  go_wp2_with fail
  refine wp_loop_rounds 3 ?_
  rw [rounds_succ]
  go_wp2_with ((with_reducible refine gate_builtin (b := .append) (xs := #[.tmp 31, .tmp 32]) rfl ?_); at_builtin; refine Kd.R_append_rows (Kd.raw 1) (w0 := w) w.heap.size rfl (.tmp 31) (.tmp 32) 27 23 (.slice none 0 0) 24 rfl Try.underlying27 delta_All.i2 rfl (by decide) (by omega) _ ([] : List (List Value)) (vs1.map (fun v => [v])) A1 _ _ (fun _ => True) (fun _ => False) rfl rfl HO.out (Kd.C_below (d := Kd.raw 1) Q1.out HB.out) (fun _ _ h => h) (fun _ h => h.elim) (fun _ _ => trivial) HB.out HB.out.size (by have := L1.out; have := L2.out; have := V1.out.1; have := V2.out.1; simp; omega) ?_; clear HO; intro v2 w2 ho hb hg hat; clear HB; have HO := Lib.hid ho; have HB := Lib.hid hb; clear ho hb hg hat)
  have hz1 : w2.cell? ⟨g, 1, none⟩ = some (.slice A2 l2.length c2) := (blk_cell (blk_below HG.out HB.out) 1).trans rfl
  clear hy0 hy1
  rw [rounds_succ]
  go_wp2_with ((with_reducible refine gate_builtin (b := .append) (xs := #[.tmp 31, .tmp 32]) rfl ?_); at_builtin; refine Kd.R_append_rows (Kd.raw 1) (w0 := w) w.heap.size rfl (.tmp 31) (.tmp 32) 27 23 (.slice none 0 0) 24 rfl Try.underlying27 delta_All.i2 rfl (by decide) (by omega) _ ([] ++ vs1.map (fun v => [v])) (vs2.map (fun v => [v])) A2 _ _ (fun _ => True) (fun _ => False) rfl rfl HO.out (Kd.C_below (d := Kd.raw 1) Q2.out HB.out) (fun _ _ h => h) (fun _ h => h.elim) (fun _ _ => trivial) HB.out HB.out.size (by have := L1.out; have := L2.out; have := V1.out.1; have := V2.out.1; simp; omega) ?_; clear HO; intro v3 w3 ho hb hg hat; clear HB; have HO := Lib.hid ho; have HB := Lib.hid hb; clear ho hb hg hat)
  clear hz1
  rw [rounds_succ]
  go_wp2_with fail
  go_ret
  obtain ⟨A, c, rfl, hc, hC⟩ := RowsC.of_raw (vs := vs1 ++ vs2) (ys := l1 ++ l2) (by simpa using HO.out) ((V1.out.below HB.out).append (V2.out.below HB.out))
  exact ⟨A, c, rfl, hc, hC, HB.out⟩
set_option maxHeartbeats 2000000 in
/-- what is added to a parity cell -/
theorem delta_All.lit (K : Nat) (k r : Int) (gk gr gc gp gd : Nat) (Ac : Option Addr) (cc : Nat) (cells : List Int) (Ap : Option Addr) (cp : Nat) (parity : List (List Int)) (Ad : Option Addr) (cd : Nat) (deltas : List (List Int)) (i : Nat) (r1 : List Int) (r2 : Int) (W : World)
    (hk : W.cell? ⟨gk, 0, none⟩ = some (.int .i64 k)) (hr : W.cell? ⟨gr, 0, none⟩ = some (.int .i64 r)) (hc : W.cell? ⟨gc, 0, none⟩ = some (.slice Ac cells.length cc)) (hp : W.cell? ⟨gp, 0, none⟩ = some (.slice Ap parity.length cp)) (hd : W.cell? ⟨gd, 0, none⟩ = some (.slice Ad deltas.length cd))
    (hC : Kd.C (Kd.int .i64) W Ac cells.length cells) (hP : Kd.C (Kd.slice 5 (Kd.int .u8)) W Ap parity.length parity) (hD : Kd.C (Kd.slice 5 (Kd.int .u8)) W Ad deltas.length deltas) (hdc : deltas.length ≤ cd) (hi : i < parity.length) (h : delta_All.add K k r parity cells deltas i = some (r1, r2)) :
    Calls Try.prog 27 #[.int .i64 i, .pointer (some ⟨gk, 0, none⟩), .pointer (some ⟨gr, 0, none⟩), .pointer (some ⟨gc, 0, none⟩), .pointer (some ⟨gp, 0, none⟩), .pointer (some ⟨gd, 0, none⟩)] W fun e w' => ∃ v, e = .returned (.tuple #[v, .int .i64 r2]) ∧ Kd.R (Kd.int .u8) 5 w' W.heap.size (fun _ => True) v r1 ∧ Below W.heap.size W w' := by
  unfold delta_All.add at h
  obtain ⟨⟨row, re⟩, hrow, h⟩ := Option.bind_eq_some_iff.mp h
  have HROW := Lib.hid hrow
  have H := Lib.hid h
  have HC := Lib.hid hC
  have HP := Lib.hid hP
  have HD := Lib.hid hD
  have HDC := Lib.hid hdc
  have HI := Lib.hid hi
  have HCC := Lib.hid hc
  have HPP := Lib.hid hp
  have HDD := Lib.hid hd
  clear hrow h hC hP hD hdc hi hc hp hd
  go_enter Try.func27, Try.ntmps27
  go_wp2_with fail
  refine (codec_Row.calls k r (wrap64 (k + (i : Int))) row re _ HROW.out).mono ?_
  rintro e w1 ⟨v1, rfl, ho, hb⟩
  have HV := Lib.hid ho
  have HB := Lib.hid hb
  clear ho hb hk hr
  by_cases h0 : re = 0
  case neg =>
    have h := H.out
    try dsimp only at h
    rw [if_pos h0] at h
    injection h with h; injection h with ha hc; subst ha hc
    have e1 : (re != 0) = true := bne_iff_ne.mpr h0
    clear h0 H
    go_wp2_with fail
    go_ret2
    exact ⟨_, rfl, Kd.R_nil _ _ _ _ _, HB.out⟩
  subst h0
  have hcc := pw_cell_below HB.out HCC.out
  by_cases h1 : cells = []
  case pos =>
    subst h1
    have h := H.out
    try dsimp only at h
    rw [if_neg (fun z => z rfl), if_pos rfl] at h
    by_cases h2 : (rd_L1 parity i).length ≤ 65536
    case neg => rw [if_neg h2] at h; cases h
    rw [if_pos h2] at h
    injection h with h; injection h with ha hc; subst ha hc
    have hpp := pw_cell_below HB.out HPP.out
    obtain ⟨ad, B1, d1, e1, hx, -, -⟩ := at_L1 (Kd.C_below HP.out HB.out) (i : Int) (by omega) (by have := HI.out; omega)
    rw [Int.toNat_natCast] at hx
    subst e1
    have hlt : (i : Int) < (parity.length : Int) := by have := HI.out; omega
    have hm1 := print_make 23 5 .u8 1 Try.underlying23 delta_All.i1 (by decide) (rd_L1 parity i).length (by omega) w1
    have HO := Lib.hid (own_made w1 W.heap.size 5 .u8 (rd_L1 parity i).length HB.out.size (by omega))
    have HB2 := Lib.hid (below_alloc HB.out (.cells (madeCells #[.int .u8 0] (rd_L1 parity i).length) 5))
    clear H h2
    go_wp2_with fail
    go_ret2
    refine ⟨_, rfl, Kd.R_of_own (h1 := fun _ => rfl) ?_ (fun _ _ => trivial), HB2.out⟩
    have := HO.out
    rw [List.length_replicate]
    exact this
  have h := H.out
  try dsimp only at h
  rw [if_neg (fun z => z rfl), if_neg h1] at h
  by_cases h2 : cells.length ≤ 1000 ∧ ∀ x ∈ cells, 0 ≤ x ∧ x < row.length
  case neg => rw [if_neg h2] at h; cases h
  rw [if_pos h2] at h
  have HDOT := Lib.hid h
  have e1 : ((cells.length : Int) == 0) = false := beq_eq_false_iff_ne.mpr (by have := List.length_pos_iff.mpr h1; omega)
  have HIN := Lib.hid h2.2
  have HLE := Lib.hid h2.1
  have HC1 := Lib.hid (Kd.C_below HC.out HB.out)
  obtain ⟨Av, cv, rfl⟩ := Kd.R_slice HV.out
  have HVC := Lib.hid (Kd.R_reads' HV.out).2.2
  clear h h1 h2 H HC
  go_wp2_with fail
  have HW := Lib.hid (Below.refl w1.heap.size w1)
  go_loopg [11, 13, 37] cells.length (fun gk s11 s13 s37 wx => ∃ j : Nat, j + gk = cells.length ∧ s37 = .int .i64 j ∧ Hid (Kd.R (Kd.int .u8) 5 wx w1.heap.size (fun _ => True) s11 ((cells.take j).map (rd row))) ∧ Hid (Below w1.heap.size w1 wx))
  case atStart => exact ⟨0, by omega, rfl, Lib.hid (Kd.R_nil _ _ _ _ _), HW⟩
  case round =>
    clear HW
    obtain ⟨j, hjg, rfl, HR, HW⟩ := hrel
    have hjl : (j : Int) ≤ (cells.length : Int) := by omega
    cases gk with
    | zero =>
      obtain rfl : j = cells.length := by omega
      rw [List.take_length] at HR
      obtain ⟨Ax, cx, rfl⟩ := Kd.R_slice HR.out
      have hdd := pw_cell_below (below_step HB.out HW.out) HDD.out
      clear hjl hjg hcc
      go_wp2_with fail
      have hcall := kernel_Dot.calls K Ax cx (cells.map (rd row)) Ad cd deltas r1 r2 _ (Kd.R_reads' HR.out).2.2 (Kd.R_reads' HR.out).2.1 (Kd.C_below HD.out (below_step HB.out HW.out)) HDC.out HDOT.out
      rw [List.length_map] at hcall
      refine hcall.mono ?_
      clear hcall
      rintro e w3 ⟨v3, rfl, ho, hb⟩
      have HO := Lib.hid (Kd.R_lower ho (below_size (below_step HB.out HW.out)))
      have HB3 := Lib.hid (below_step (below_step HB.out HW.out) hb)
      clear ho hb hdd
      go_wp2_with fail
      go_ret2
      exact ⟨_, rfl, HO.out, HB3.out⟩
    | succ d =>
      have hjn : j < cells.length := by omega
      have hlt : (j : Int) < (cells.length : Int) := by omega
      obtain ⟨ad, e2, hx⟩ := Kd.at_int (Kd.C_below HC1.out HW.out) (j : Int) (by omega) (by omega)
      rw [Int.toNat_natCast] at hx
      subst e2
      have hin := HIN.out (rd cells j) (by
        have : rd cells (j : Int) = cells[j] := by simp [rd, hjn]
        rw [this]; exact List.getElem_mem _)
      obtain ⟨hin0, hin1⟩ := hin
      obtain ⟨ad2, e3, hx2⟩ := Kd.at_int (Kd.C_below HVC.out HW.out) (rd cells j) hin0 hin1
      subst e3
      have hsn : (cells.take (j + 1)).map (rd row) = (cells.take j).map (rd row) ++ [rd row (rd cells j)] := by
        rw [List.take_succ_eq_append_getElem hjn, List.map_append, List.map_singleton]
        congr 2
        simp [rd, hjn]
      have HSN := Lib.hid hsn
      have hll : ((cells.take j).map (rd row)).length = j := by simp; omega
      have HLL := Lib.hid hll
      have hw : wrap64 ((j : Int) + 1) = ((j + 1 : Nat) : Int) := by have := HLE.out; unfold wrap64; omega
      have HWR := Lib.hid hw
      clear hsn hll hw hjl hcc
      go_wp2_with ((with_reducible refine gate_builtin (b := .append) (xs := #[.tmp 41, .tmp 46]) rfl ?_); at_builtin; refine Kd.R_append (Kd.int .u8) (w0 := w1) w1.heap.size rfl (.tmp 41) (.tmp 46) 23 5 (.int .u8 0) 1 rfl Try.underlying23 delta_All.i1 rfl (by decide) (by omega) _ _ (rd row (rd cells j)) [.int .u8 (rd row (rd cells j))] (fun _ => True) (fun _ => False) rfl rfl rfl (fun _ hk => hk.elim) (fun _ _ => trivial) HR.out HW.out HW.out.size (by have := HLL.out; have := HLE.out; omega) ?_; clear HR; intro v5 w5 ho hb hg hat; clear HW; have HR := Lib.hid ho; have HW := Lib.hid hb; clear ho hb hg hat)
      rw [← HSN.out] at HR
      go_roundg d
      case measure => omega
      case rel => exact ⟨j + 1, by omega, by first | rw [HWR.out] | (simp; done), HR, HW⟩
set_option maxHeartbeats 4000000 in
/-- parity cells, to each of which something is added -/
theorem delta_All.summed (K : Nat) (k r : Int) (gk_ gr gc gp gd : Nat) (Ac : Option Addr) (cc : Nat) (cells : List Int) (Ap : Option Addr) (cp : Nat) (parity : List (List Int)) (Ad : Option Addr) (cd : Nat) (deltas : List (List Int)) (r1 : List (List Int)) (r2 : Int) (W : World)
    (hk : W.cell? ⟨gk_, 0, none⟩ = some (.int .i64 k)) (hr : W.cell? ⟨gr, 0, none⟩ = some (.int .i64 r)) (hc : W.cell? ⟨gc, 0, none⟩ = some (.slice Ac cells.length cc)) (hp : W.cell? ⟨gp, 0, none⟩ = some (.slice Ap parity.length cp)) (hd : W.cell? ⟨gd, 0, none⟩ = some (.slice Ad deltas.length cd))
    (hC : Kd.C (Kd.int .i64) W Ac cells.length cells) (hP : Kd.C (Kd.slice 5 (Kd.int .u8)) W Ap parity.length parity) (hD : Kd.C (Kd.slice 5 (Kd.int .u8)) W Ad deltas.length deltas) (hdc : deltas.length ≤ cd) (hpl : parity.length ≤ 1000) (h : delta_All.sum K (delta_All.add K k r parity cells deltas) parity 0 [] = some (r1, r2)) :
    Calls Try.prog 26 #[.slice Ap parity.length cp, .func (.func 27) #[] #[.pointer (some ⟨gk_, 0, none⟩), .pointer (some ⟨gr, 0, none⟩), .pointer (some ⟨gc, 0, none⟩), .pointer (some ⟨gp, 0, none⟩), .pointer (some ⟨gd, 0, none⟩)]] W fun e w' => ∃ v, e = .returned (.tuple #[v, .int .i64 r2]) ∧ Kd.S (Kd.slice 5 (Kd.int .u8)) 23 w' W.heap.size (fun _ => True) v r1 ∧ Below W.heap.size W w' := by
  have H := Lib.hid h
  have HC := Lib.hid hC
  have HP := Lib.hid hP
  have HD := Lib.hid hD
  have HDC := Lib.hid hdc
  have HPL := Lib.hid hpl
  have HK := Lib.hid hk
  have HR := Lib.hid hr
  have HCC := Lib.hid hc
  have HPP := Lib.hid hp
  have HDD := Lib.hid hd
  have HB := Lib.hid (Below.refl W.heap.size W)
  clear h hC hP hD hdc hpl hk hr hc hp hd
  go_enter Try.func26, Try.ntmps26
  go_wp2_with fail
  go_loopg [6, 7, 8, 9, 10, 13] parity.length (fun gk s6 s7 s8 s9 s10 s13 wx => ∃ (i : Nat) (out : List (List Int)), i + gk = parity.length ∧ s13 = .int .i64 i ∧ Hid (out.length = i) ∧ Hid (delta_All.sum K (delta_All.add K k r parity cells deltas) (parity.drop i) i out = some (r1, r2)) ∧ Hid (Kd.S (Kd.slice 5 (Kd.int .u8)) 23 wx W.heap.size (fun _ => True) s6 out) ∧ Hid (Below W.heap.size W wx))
  case atStart => exact ⟨0, [], by omega, rfl, Lib.hid rfl, H, Lib.hid (Kd.S_nil _ _ _ _ _), HB⟩
  case round =>
    clear H HB
    obtain ⟨i, out, hig, rfl, HOL, H, HS, HB⟩ := hrel
    have hle : (i : Int) ≤ (parity.length : Int) := by omega
    cases gk with
    | zero =>
      obtain rfl : i = parity.length := by omega
      have h := H.out
      rw [List.drop_length, delta_All.sum] at h
      injection h with h; injection h with ha hc; subst ha hc
      clear H hle
      go_wp2_with fail
      go_ret2
      exact ⟨_, rfl, HS.out, HB.out⟩
    | succ d =>
      have hin : i < parity.length := by omega
      have hlt : (i : Int) < (parity.length : Int) := by omega
      have h := H.out
      rw [List.drop_eq_getElem_cons hin, delta_All.sum] at h
      obtain ⟨⟨c, ce⟩, hadd, h⟩ := Option.bind_eq_some_iff.mp h
      obtain ⟨ad, B1, d1, e1, hx, hdl, hrp⟩ := at_L1 (Kd.C_below HP.out HB.out) (i : Int) (by omega) (by omega)
      rw [Int.toNat_natCast] at hx
      subst e1
      have hpi : parity[i] = rd_L1 parity (i : Int) := by simp [rd_L1, hin]
      rw [hpi] at h
      have HADD := Lib.hid hadd
      have H2 := Lib.hid h
      have HRP := Lib.hid hrp
      have HDL := Lib.hid hdl
      have HIN := Lib.hid hin
      clear hadd h hrp hdl hpi hle H
      go_wp2_with fail
      refine (delta_All.lit K k r gk_ gr gc gp gd Ac cc cells (some ad) cp parity Ad cd deltas i c ce _ (pw_cell_below HB.out HK.out) (pw_cell_below HB.out HR.out) (pw_cell_below HB.out HCC.out) (pw_cell_below HB.out HPP.out) (pw_cell_below HB.out HDD.out) (Kd.C_below HC.out HB.out) (Kd.C_below HP.out HB.out) (Kd.C_below HD.out HB.out) HDC.out HIN.out HADD.out).mono ?_
      rintro e w1 ⟨v1, rfl, ho, hb⟩
      have HV := Lib.hid ho
      have HB1 := Lib.hid (below_step HB.out hb)
      have HW := Lib.hid hb
      clear ho hb hx HADD
      by_cases h0 : ce = 0
      case neg =>
        have h := H2.out
        try dsimp only at h
        rw [if_pos h0] at h
        injection h with h; injection h with ha hc; subst ha hc
        have e1 : (ce != 0) = true := bne_iff_ne.mpr h0
        clear h0 H2
        go_wp2_with fail
        go_ret2
        exact ⟨_, rfl, Kd.S_nil _ _ _ _ _, HB1.out⟩
      subst h0
      have h := H2.out
      try dsimp only at h
      rw [if_neg (fun z => z rfl)] at h
      obtain ⟨⟨y, ye⟩, hxor, h⟩ := Option.bind_eq_some_iff.mp h
      have HXOR := Lib.hid hxor
      have H3 := Lib.hid h
      obtain ⟨Av, cv, rfl⟩ := Kd.R_slice HV.out
      clear hxor h H2
      go_wp2_with fail
      refine (kernel_Xor.calls K B1 d1 (rd_L1 parity (i : Int)) Av cv c y ye _ (Kd.C_below HRP.out HW.out) HDL.out (Kd.R_reads' HV.out).2.2 (Kd.R_reads' HV.out).2.1 HXOR.out).mono ?_
      rintro e w2 ⟨v2, rfl, ho, hb⟩
      have HY := Lib.hid ho
      have HB2 := Lib.hid (below_step HB1.out hb)
      have HW2 := Lib.hid (below_step HW.out hb)
      have HSZ := Lib.hid HW.out.size
      clear ho hb HXOR
      by_cases h0 : ye = 0
      case neg =>
        have h := H3.out
        try dsimp only at h
        rw [if_pos h0] at h
        injection h with h; injection h with ha hc; subst ha hc
        have e1 : (ye != 0) = true := bne_iff_ne.mpr h0
        clear h0 H3
        go_wp2_with fail
        go_ret2
        exact ⟨_, rfl, Kd.S_nil _ _ _ _ _, HB2.out⟩
      subst h0
      have h := H3.out
      try dsimp only at h
      rw [if_neg (fun z => z rfl)] at h
      have HN := Lib.hid (show delta_All.sum K (delta_All.add K k r parity cells deltas) (parity.drop (i + 1)) ((i + 1 : Nat) : Int) (out ++ [y]) = some (r1, r2) from h)
      obtain ⟨Ay, cy, rfl⟩ := Kd.R_slice HY.out
      have hw : wrap64 ((i : Int) + 1) = ((i + 1 : Nat) : Int) := by have := HPL.out; unfold wrap64; omega
      have HWR := Lib.hid hw
      have HOLD := Lib.hid (Kd.S_mono (Kd.S_old HS.out HW2.out) (ok' := fun k_ => True ∧ ¬ wr.heap.size ≤ k_) (fun k_ hk_ => ⟨trivial, by have := hk_.2; omega⟩))
      have HLT := Lib.hid (Kd.S_lt HS.out)
      have HYM := Lib.hid (Kd.M_row (Kd.R_lower (Kd.R_mono (Kd.R_bound HY.out) (ok' := fun k_ => wr.heap.size ≤ k_) (fun k_ hk_ => Nat.le_trans HSZ.out hk_.2.1)) HB1.out.size))
      clear h H3 hw HS HY HV HW HW2
      go_wp2_with ((with_reducible refine gate_builtin (b := .append) (xs := #[.tmp 36, .tmp 38]) rfl ?_); at_builtin; refine Kd.S_append (Kd.slice 5 (Kd.int .u8)) (w0 := W) W.heap.size rfl (.tmp 36) (.tmp 38) 27 23 (.slice none 0 0) 24 rfl Try.underlying27 delta_All.i2 rfl (by decide) (by omega) _ out y [.slice Ay y.length cy] (fun _ => True) (fun k_ => wr.heap.size ≤ k_) rfl rfl HYM.out (fun k_ hk_ => ⟨trivial, fun e_ => by have := HLT.out k_ e_.symm; omega⟩) (fun _ _ => trivial) HOLD.out HB2.out HB2.out.size (by have := HOL.out; have := HPL.out; omega) ?_; intro v5 w5 ho hb hg hat; have HS := Lib.hid ho; have HB := Lib.hid hb; clear ho hb hg hat)
      go_roundg d
      case measure => omega
      case rel => exact ⟨i + 1, out ++ [y], by omega, by first | rw [HWR.out] | (simp; done), Lib.hid (by rw [List.length_append, HOL.out]; rfl), HN, HS, HB⟩
theorem delta_All.five (w : World) (o1 o2 o3 o4 o5 : Obj) : (((((w.alloc o1).alloc o2).alloc o3).alloc o4).alloc o5).heap[w.heap.size]? = some o1 ∧ (((((w.alloc o1).alloc o2).alloc o3).alloc o4).alloc o5).heap[w.heap.size + 1]? = some o2 ∧ (((((w.alloc o1).alloc o2).alloc o3).alloc o4).alloc o5).heap[w.heap.size + 2]? = some o3 ∧ (((((w.alloc o1).alloc o2).alloc o3).alloc o4).alloc o5).heap[w.heap.size + 3]? = some o4 ∧ (((((w.alloc o1).alloc o2).alloc o3).alloc o4).alloc o5).heap[w.heap.size + 4]? = some o5 ∧ Below w.heap.size w (((((w.alloc o1).alloc o2).alloc o3).alloc o4).alloc o5) :=
  ⟨blk_alloc (blk_alloc (blk_alloc (blk_alloc (heap_alloc_at _ _ rfl) _) _) _) _, blk_alloc (blk_alloc (blk_alloc (heap_alloc_at _ _ (by simp)) _) _) _, blk_alloc (blk_alloc (heap_alloc_at _ _ (by simp)) _) _, blk_alloc (heap_alloc_at _ _ (by simp)) _, heap_alloc_at _ _ (by simp), below_alloc (below_alloc (below_alloc (below_alloc (below_alloc (Below.refl _ _) _) _) _) _) _⟩
theorem delta_All.okc_snoc {k : Int} {l : List Int} {i : Nat} (hi : i < l.length) : delta_All.okc k (l.take (i + 1)) ↔ delta_All.okc k (l.take i) ∧ (0 ≤ rd l i ∧ rd l i < k ∧ rd l i ∉ l.take i) := by
  have hr : rd l (i : Int) = l[i] := by simp [rd, hi]
  rw [hr, List.take_succ_eq_append_getElem hi]
  unfold delta_All.okc
  rw [List.nodup_append]
  constructor
  · rintro ⟨h1, h2, h3, h4⟩
    have hl := h1 l[i] (List.mem_append_right _ (List.mem_singleton.2 rfl))
    exact ⟨⟨fun x hx => h1 x (List.mem_append_left _ hx), h2⟩, hl.1, hl.2, fun z => h4 _ z _ (List.mem_singleton.2 rfl) rfl⟩
  · rintro ⟨⟨h1, h2⟩, h3, h4, h5⟩
    refine ⟨fun x hx => ?_, h2, by simp, fun a ha b hb e => ?_⟩
    · rcases List.mem_append.1 hx with hx | hx
      · exact h1 x hx
      · simp at hx; subst hx; exact ⟨h3, h4⟩
    · simp at hb; subst hb; subst e; exact h5 ha
theorem delta_All.okc_take {k : Int} {l : List Int} (h : delta_All.okc k l) (i : Nat) : delta_All.okc k (l.take i) := ⟨fun x hx => h.1 x (List.mem_of_mem_take hx), h.2.sublist (List.take_sublist _ _)⟩
set_option maxHeartbeats 8000000 in
set_option maxRecDepth 100000 in
theorem delta_All.calls (k : Nat) (a0 a1 : Int) (A2 : Option Addr) (c2 : Nat) (l2 : List (List Int)) (A3 : Option Addr) (c3 : Nat) (l3 : List Int) (A4 : Option Addr) (c4 : Nat) (l4 : List (List Int)) (r1 : List (List Int)) (r2 : Int) (w : World) (hr2 : Kd.C (Kd.slice 5 (Kd.int .u8)) w A2 l2.length l2) (hc2 : l2.length ≤ c2) (hr3 : Kd.C (Kd.int .i64) w A3 l3.length l3) (hc3 : l3.length ≤ c3) (hr4 : Kd.C (Kd.slice 5 (Kd.int .u8)) w A4 l4.length l4) (hc4 : l4.length ≤ c4) (h : delta_All.f k a0 a1 l2 l3 l4 = some (r1, r2)) :
    Calls Try.prog 11 #[.int .i64 a0, .int .i64 a1, .slice A2 l2.length c2, .slice A3 l3.length c3, .slice A4 l4.length c4] w fun e w' => ∃ v0_ : Value, e = .returned (.tuple #[v0_, .int .i64 r2]) ∧ Kd.S (Kd.slice 5 (Kd.int .u8)) 23 w' w.heap.size (fun _ => True) v0_ r1 ∧ Below w.heap.size w w' := by
  unfold delta_All.f at h
  obtain ⟨e, he, h⟩ := Option.bind_eq_some_iff.mp h
  have HE := Lib.hid he
  have H := Lib.hid h
  have HR2 := Lib.hid hr2
  have HC2 := Lib.hid hc2
  have HR3 := Lib.hid hr3
  have HC3 := Lib.hid hc3
  have HR4 := Lib.hid hr4
  have HC4 := Lib.hid hc4
  have hm3 := hr3.2.1
  clear he h hr2 hc2 hr3 hc3 hr4 hc4
  obtain ⟨b1, b2, b3, b4, b5, hb⟩ := delta_All.five w (.cells #[.int .i64 a0] 3) (.cells #[.int .i64 a1] 3) (.cells #[.slice A2 l2.length c2] 27) (.cells #[.slice A3 l3.length c3] 31) (.cells #[.slice A4 l4.length c4] 27)
  have B1 := Lib.hid b1
  have B2 := Lib.hid b2
  have B3 := Lib.hid b3
  have B4 := Lib.hid b4
  have B5 := Lib.hid b5
  have HB := Lib.hid hb
  clear b1 b2 b3 b4 b5 hb
  go_enter Try.func11, Try.ntmps11
  go_wp2_with fail
  refine (delta_asked.calls a0 a1 A2 c2 l2 e _ (Kd.C_below HR2.out HB.out) HC2.out HE.out).mono ?_
  rintro en w1 ⟨rfl, hb⟩
  have b1 := blk_below B1.out hb
  have b2 := blk_below B2.out hb
  have b3 := blk_below B3.out hb
  have b4 := blk_below B4.out hb
  have b5 := blk_below B5.out hb
  replace B1 := Lib.hid b1
  replace B2 := Lib.hid b2
  replace B3 := Lib.hid b3
  replace B4 := Lib.hid b4
  replace B5 := Lib.hid b5
  replace HB := Lib.hid (below_step HB.out hb)
  clear hb b1 b2 b3 b4 b5
  by_cases h0 : e = 0
  case neg =>
    have h := H.out
    rw [if_pos h0] at h
    injection h with h; injection h with ha hc; subst ha hc
    have e1 : (e != 0) = true := bne_iff_ne.mpr h0
    clear h0 H
    go_wp2_with fail
    go_ret2
    exact ⟨_, rfl, Kd.S_nil _ _ _ _ _, HB.out⟩
  subst h0
  have h := H.out
  rw [if_neg (fun z => z rfl)] at h
  have y1 : w1.cell? ⟨w.heap.size, 0, none⟩ = some (.int .i64 a0) := (blk_cell B1.out 0).trans rfl
  have y4 : w1.cell? ⟨w.heap.size + 3, 0, none⟩ = some (.slice A3 l3.length c3) := (blk_cell B4.out 0).trans rfl
  by_cases h1 : (l3.length : Int) > a0
  case pos =>
    rw [if_pos h1] at h
    injection h with h; injection h with ha hc; subst ha hc
    have e1 : decide ((l3.length : Int) > a0) = true := decide_eq_true h1
    clear h1 H
    go_wp2_with fail
    go_ret2
    exact ⟨_, rfl, Kd.S_nil _ _ _ _ _, HB.out⟩
  rw [if_neg h1] at h
  have e1 : decide ((l3.length : Int) > a0) = false := decide_eq_false h1
  have H1 := Lib.hid h
  have HM3 := Lib.hid hm3
  clear h H h1 hm3
  go_wp2_with fail
  go_loopg [13, 14, 28] l3.length (fun gk s13 s14 s28 wx => ∃ i : Nat, i + gk = l3.length ∧ s28 = .int .i64 i ∧ Hid (delta_All.okc a0 (l3.take i)) ∧ w1 = wx)
  case atStart => exact ⟨0, by omega, rfl, Lib.hid ⟨fun x hx => by simp at hx, by simp⟩, rfl⟩
  case round =>
    obtain ⟨i, hig, rfl, HOK, rfl⟩ := hrel
    have hle : (i : Int) ≤ (l3.length : Int) := by omega
    cases gk with
    | succ d =>
      have hin : i < l3.length := by omega
      have hlt : (i : Int) < (l3.length : Int) := by omega
      have hic : (i : Int) ≤ (c3 : Int) := by have := HC3.out; omega
      obtain ⟨ad, e2, hx⟩ := Kd.at_int (Kd.C_below HR3.out HB.out) (i : Int) (by omega) (by omega)
      rw [Int.toNat_natCast] at hx
      subst e2
      have HIN := Lib.hid hin
      have hbad : ¬ (0 ≤ rd l3 i ∧ rd l3 i < a0 ∧ rd l3 i ∉ l3.take i) → r1 = [] ∧ r2 = 2 := fun z => by
        have h := H1.out
        rw [if_neg (fun hok => z ((delta_All.okc_snoc HIN.out).1 (delta_All.okc_take hok (i + 1))).2)] at h
        injection h with h; injection h with ha hc
        exact ⟨ha.symm, hc.symm⟩
      have HBAD := Lib.hid hbad
      clear hin hbad hle
      by_cases q1 : rd l3 i < 0
      case pos =>
        obtain ⟨rfl, rfl⟩ := HBAD.out (fun z => by omega)
        have f1 : decide (rd l3 i < 0) = true := decide_eq_true q1
        clear HBAD q1
        go_wp2_with fail
        go_ret2
        exact ⟨_, rfl, Kd.S_nil _ _ _ _ _, HB.out⟩
      have f1 : decide (rd l3 i < 0) = false := decide_eq_false q1
      by_cases q2 : rd l3 i ≥ a0
      case pos =>
        obtain ⟨rfl, rfl⟩ := HBAD.out (fun z => by omega)
        have f2 : decide (rd l3 i ≥ a0) = true := decide_eq_true q2
        have f3 : decide (a0 ≤ rd l3 i) = true := decide_eq_true q2
        clear HBAD q1 q2
        go_wp2_with fail
        go_ret2
        exact ⟨_, rfl, Kd.S_nil _ _ _ _ _, HB.out⟩
      have f2 : decide (rd l3 i ≥ a0) = false := decide_eq_false q2
      have f3 : decide (a0 ≤ rd l3 i) = false := decide_eq_false q2
      have Q1 := Lib.hid q1
      have Q2 := Lib.hid q2
      clear q1 q2
      go_wp2_with fail
      have hcall := delta_All.contains (some ad) c3 (l3.take i) (rd l3 i) w1 (Kd.C_take (Kd.C_below HR3.out HB.out) (by have := HIN.out; omega)) (by have := HC3.out; simp; omega)
      rw [List.length_take, Nat.min_eq_left (by have := HIN.out; omega)] at hcall
      refine hcall.mono ?_
      clear hcall
      by_cases q3 : rd l3 i ∈ l3.take i
      case pos =>
        rw [decide_eq_true q3]
        obtain ⟨rfl, rfl⟩ := HBAD.out (fun z => z.2.2 q3)
        rintro en w2 ⟨rfl, rfl⟩
        clear q3 HBAD
        go_wp2_with fail
        go_ret2
        exact ⟨_, rfl, Kd.S_nil _ _ _ _ _, HB.out⟩
      rw [decide_eq_false q3]
      rintro en w2 ⟨rfl, rfl⟩
      have HOK2 := Lib.hid ((delta_All.okc_snoc HIN.out).2 ⟨HOK.out, by have := Q1.out; omega, by have := Q2.out; omega, q3⟩)
      have hw : wrap64 ((i : Int) + 1) = ((i + 1 : Nat) : Int) := by have := HM3.out; have := HIN.out; unfold wrap64; omega
      have HWR := Lib.hid hw
      clear q3 HBAD hw
      go_wp2_with fail
      go_roundg d
      case measure => omega
      case rel => exact ⟨i + 1, by omega, by first | rw [HWR.out] | (simp; done), HOK2, rfl⟩
    | zero =>
      obtain rfl : i = l3.length := by omega
      have hok := HOK.out
      rw [List.take_length] at hok
      have h := H1.out
      rw [if_pos hok] at h
      have y3 : w1.cell? ⟨w.heap.size + 2, 0, none⟩ = some (.slice A2 l2.length c2) := (blk_cell B3.out 0).trans rfl
      have y5 : w1.cell? ⟨w.heap.size + 4, 0, none⟩ = some (.slice A4 l4.length c4) := (blk_cell B5.out 0).trans rfl
      clear hok hle hig
      by_cases h2 : l4.length ≠ l3.length
      case pos =>
        rw [if_pos h2] at h
        injection h with h; injection h with ha hc; subst ha hc
        have f1 : ((l4.length : Int) != (l3.length : Int)) = true := bne_iff_ne.mpr (by omega)
        clear h2 H1
        go_wp2_with fail
        go_ret2
        exact ⟨_, rfl, Kd.S_nil _ _ _ _ _, HB.out⟩
      rw [if_neg h2] at h
      have f1 : ((l4.length : Int) != (l3.length : Int)) = false := bne_eq_false_iff_eq.mpr (by omega)
      by_cases h3 : l4.length ≤ 1000 ∧ l2.length ≤ 1000
      case neg => rw [if_neg h3] at h; cases h
      rw [if_pos h3] at h
      obtain ⟨b, hb, h⟩ := Option.bind_eq_some_iff.mp h
      have HL := Lib.hid h3
      have HAL := Lib.hid hb
      have H2 := Lib.hid h
      clear h2 h3 hb h H1
      go_wp2_with fail
      have HB2 := Lib.hid (below_alloc HB.out (.cells #[.slice A4 l4.length c4, .slice A2 l2.length c2] 27))
      have hbw := below_alloc (Below.refl w1.heap.size w1) (.cells #[.slice A4 l4.length c4, .slice A2 l2.length c2] 27)
      refine (delta_All.concat w1.heap.size A4 c4 l4 A2 c2 l2 _ (blk_new w1 (.cells #[.slice A4 l4.length c4, .slice A2 l2.length c2] 27)) (Kd.C_below HR4.out HB2.out) (Kd.C_below HR2.out HB2.out) HL.out.1 HL.out.2).mono ?_
      rintro en w2 ⟨A, c, rfl, hc, hC, hb⟩
      have HBW := Lib.hid (below_step hbw hb)
      have HB3 := Lib.hid (below_step HB2.out hb)
      have HCC := Lib.hid hC
      have HCL := Lib.hid hc
      clear hb hbw hc hC HB2 y1 y3 y4 y5
      go_wp2_with fail
      have hcall := delta_alike.calls A c (l4 ++ l2) b _ HCC.out HCL.out HAL.out
      rw [List.length_append] at hcall
      refine hcall.mono ?_
      clear hcall
      rintro en w3 ⟨rfl, hb⟩
      replace HBW := Lib.hid (below_step HBW.out hb)
      replace HB3 := Lib.hid (below_step HB3.out hb)
      clear hb HCC HCL HAL
      have y3 : w3.cell? ⟨w.heap.size + 2, 0, none⟩ = some (.slice A2 l2.length c2) := (blk_cell (blk_below B3.out HBW.out) 0).trans rfl
      cases b with
      | false =>
        have h := H2.out
        rw [if_neg (by decide)] at h
        injection h with h; injection h with ha hc; subst ha hc
        clear H2
        go_wp2_with fail
        go_ret2
        exact ⟨_, rfl, Kd.S_nil _ _ _ _ _, HB3.out⟩
      | true =>
        have h := H2.out
        rw [if_pos rfl] at h
        have HS := Lib.hid h
        clear H2 h
        go_wp2_with fail
        refine (delta_All.summed k a0 a1 w.heap.size (w.heap.size + 1) (w.heap.size + 3) (w.heap.size + 2) (w.heap.size + 4) A3 c3 l3 A2 c2 l2 A4 c4 l4 r1 r2 _ ((blk_cell (blk_below B1.out HBW.out) 0).trans rfl) ((blk_cell (blk_below B2.out HBW.out) 0).trans rfl) ((blk_cell (blk_below B4.out HBW.out) 0).trans rfl) ((blk_cell (blk_below B3.out HBW.out) 0).trans rfl) ((blk_cell (blk_below B5.out HBW.out) 0).trans rfl) (Kd.C_below HR3.out HB3.out) (Kd.C_below HR2.out HB3.out) (Kd.C_below HR4.out HB3.out) HC4.out HL.out.2 HS.out).mono ?_
        rintro en w4 ⟨v4, rfl, ho, hb⟩
        have HO := Lib.hid (Kd.S_lower ho HB3.out.size)
        have HB4 := Lib.hid (below_step HB3.out hb)
        clear ho hb y3
        go_wp2_with fail
        go_ret2
        exact ⟨_, rfl, HO.out, HB4.out⟩

end Go.Proofs.Ytmmbojeikppinaa.PE
