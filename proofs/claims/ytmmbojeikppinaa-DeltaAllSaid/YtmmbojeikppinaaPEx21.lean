import Derived.Test.YtmmbojeikppinaaPEx0
import Derived.Test.YtmmbojeikppinaaPEx15
import Derived.Test.YtmmbojeikppinaaPEx12
import Derived.Test.YtmmbojeikppinaaMxSpo
import Derived.Test.YtmmbojeikppinaaCdLit
import Derived.Test.YtmmbojeikppinaaPEx9
import Derived.Test.YtmmbojeikppinaaDAlive
import Derived.Test.YtmmbojeikppinaaDSame
-- written by the session's own program (wip/prt.py) over the kit's print: not print.sh's own text
namespace Go.Proofs.Ytmmbojeikppinaa.PE
open Go.RowKit Go.Proofs.YtmmbojeikppinaaW.PrintWords Go.Proofs.YtmmbojeikppinaaW.PrintLast Go.Proofs.YtmmbojeikppinaaW.PrintMore
attribute [local go_sem] max2_int min2_int max_two min_two max_three min_three max_four min_four   -- for this text's walks alone
set_option linter.unusedVariables false
set_option linter.unusedSimpArgs false

/-! ### twoslotlaw05_spoil: function 18 -/
theorem twoslotlaw05_spoil.info : (Try.prog.info? 5).map (fun i => (i.zero, i.size, i.bytes)) = some (some (.int .u8 0), 1, 1) := by kernel_rfl
def twoslotlaw05_spoil.ok (M : List (List Int)) : Prop := M = [] ∨ (M.length ≤ 100 ∧ 0 < M.length ∧ 0 < (rw_ M 0).length ∧ (rw_ M 0).length ≤ 70000 ∧ ∀ r ∈ M, r.length = (rw_ M 0).length)
instance twoslotlaw05_spoil.dec1 (M : List (List Int)) : Decidable (twoslotlaw05_spoil.ok M) := by unfold twoslotlaw05_spoil.ok; infer_instance
def twoslotlaw05_spoil.f (M : List (List Int)) : Option Unit := if twoslotlaw05_spoil.ok M then some () else none
set_option maxHeartbeats 16000000 in
set_option maxRecDepth 100000 in
theorem twoslotlaw05_spoil.mat (Q : Nat → Prop) (base g cap m : Nat) (b c : Nat → Nat) (l0 : List (List Int)) (w0 w : World) (hB : Below w0.heap.size w0 w) (hb0 : w0.heap.size ≤ base) (hM : Mat w (fun k => base ≤ k ∧ Q k) g cap b c l0 m) (o1 : l0.length ≤ 100) (o3 : 0 < m) (o4 : m ≤ 70000) :
    Calls Try.prog 18 #[.slice (some ⟨g, 0, none⟩) l0.length cap] w fun e w' => e = .returned (.tuple #[]) ∧ Kept w w' (fun k => base ≤ k ∧ Q k) ∧ Below w0.heap.size w0 w' := by
  have HB := Lib.hid hB
  have HS := Lib.hid (Sp.start hM)
  have O1 := Lib.hid o1
  have O4 := Lib.hid o4
  have HBASE := Lib.hid (fun q (hq : q < l0.length) => Nat.le_trans hb0 (hM.own hq).1)
  have HQ := Lib.hid (fun q (hq : q < l0.length) => hM.own hq)
  clear hB hM o1 o4
  generalize l0.length = n at *
  go_enter Try.func18, Try.ntmps18
  go_wp2_with fail
  go_loopg [2] n (fun gk s2 wx => ∃ i : Nat, i + gk = n ∧ s2 = .int .i64 i ∧ Aside0 (Sp w wx (fun k => base ≤ k ∧ Q k) g cap n m i b c) ∧ Aside0 (Below w0.heap.size w0 wx))
  case atStart => exact ⟨0, by omega, rfl, ⟨HS.out⟩, ⟨HB.out⟩⟩
  case round =>
    clear HS HB
    obtain ⟨i, hig, rfl, HS, HB⟩ := hrel
    have hle : (i : Int) ≤ (n : Int) := by omega
    cases gk with
    | zero =>
      obtain rfl : i = n := by omega
      go_wp2_with fail
      first | go_end0 | ((try simp only [Exit.inBlock, Exit.then]); refine bodyPost_ret (results_none rfl _ _ _) rfl ?_)
      exact ⟨rfl, HS.out.2.2.2.2.2, HB.out⟩
    | succ d =>
      have hi1 : (i : Int) < (n : Int) := by omega
      go_wp2_with fail
      go_loopg [3] m (fun gk s3 wx => ∃ j : Nat, j + gk = m ∧ s3 = .int .i64 j ∧ Aside0 (Sp w wx (fun k => base ≤ k ∧ Q k) g cap n m i b c) ∧ Aside0 (Below w0.heap.size w0 wx))
      case atStart => exact ⟨0, by omega, rfl, ⟨HS.out⟩, ⟨HB.out⟩⟩
      case round =>
        clear HS HB
        obtain ⟨j, hjg, rfl, HS, HB⟩ := hrel
        have hlj : (j : Int) ≤ (m : Int) := by omega
        have hx1 := HS.out.out (q := i) (by omega)
        cases gk with
        | zero =>
          obtain rfl : j = m := by omega
          obtain ⟨r, hr1, hr2⟩ := HS.out.2.2.2.2.1 i (Nat.le_refl _) (by omega)
          have hown := hr2.R (HBASE.out i (by omega))
          rw [hr1] at hown
          have HO := Lib.hid hown
          have HR1 := Lib.hid hr1
          have HL8 := Lib.hid (lit8 (xs := [1, 2, 3, 4, 5, 6, 7, 8]) (blk_new wr (.cells #[.int .u8 1, .int .u8 2, .int .u8 3, .int .u8 4, .int .u8 5, .int .u8 6, .int .u8 7, .int .u8 8] 5)) rfl (by decide))
          clear hown hr1 hr2
          go_upto_region 8 with ((with_reducible refine gate_builtin (b := .append) (xs := #[.tmp 37, .tmp 38]) rfl ?_); at_builtin; refine Kd.R_append_rows (Kd.int .u8) (w0 := w0) w0.heap.size rfl (.tmp 37) (.tmp 38) 23 5 (.int .u8 0) 1 rfl Try.underlying23 twoslotlaw05_spoil.info rfl (by decide) (by omega) (.slice (some ⟨b i, 0, none⟩) j (c i)) r [1, 2, 3, 4, 5, 6, 7, 8] _ _ _ (fun _ => True) (fun _ => False) rfl rfl (Kd.R_below (Kd.R_mono HO.out (fun _ _ => trivial)) (below_alloc (Below.refl _ _) _)) ?aR (fun _ _ h => h) (fun _ h => h.elim) (fun _ _ => trivial) ?aB ?aS ?aL ?_; (case aR => exact HL8.out); (case aB => exact below_alloc HB.out _); (case aS => exact (below_alloc HB.out _).size); (case aL => have := HR1.out; have := O4.out; simp; omega); intro v1 w1 ho hb hg hat; have HO2 := Lib.hid ho; have HB2 := Lib.hid hb; have HG2 := Lib.hid hg; have HAT := Lib.hid hat; clear ho hb hg hat)
          obtain ⟨g1, cap1, rfl, hg1, hg2, -⟩ := Kd.R_form HO2.out (by simp)
          have hg3 : g1 = b i ∨ wr.heap.size < g1 := by
            rcases HAT.out with h | ⟨b', h, h'⟩
            · left; simpa [Value.ownBlock] using h
            · right
              have e : g1 = b' := by simpa [Value.ownBlock] using h
              rw [e]
              have : (wr.alloc (.cells #[.int .u8 1, .int .u8 2, .int .u8 3, .int .u8 4, .int .u8 5, .int .u8 6, .int .u8 7, .int .u8 8] 5)).heap.size = wr.heap.size + 1 := by simp
              omega
          obtain ⟨hv, hvl⟩ := RowV.of_R HO2.out
          obtain ⟨X, hX⟩ : ∃ X, w1.cell? ⟨g1, 0, none⟩ = some X := ⟨_, hv.cell (by simp [encs])⟩
          have hXf := hv.frozen 0
          have hp8 : (0 : Int) < ((r ++ [1, 2, 3, 4, 5, 6, 7, 8]).length : Int) := by simp; omega
          have HS2 := Lib.hid (HS.out.step (wy := w1.setCell ⟨g1, 0, none⟩ (.int .u8 9)) (by omega) (by have := HG2.out.size; simp at this ⊢; omega) (fun k hk hne => by
            rw [Below.heap_setCell _ ⟨g1, 0, none⟩ _ k (fun z => by have z' : k = g1 := z; rcases hg3 with h | h <;> omega), HG2.out.block k (by simp; omega) (by simpa [Value.ownBlock] using hne)]
            exact Below.heap_alloc _ _ k hk))
          have HB3 := Lib.hid (below_set (g := g1) (j := 0) (v := .int .u8 9) HB2.out hg1)
          clear hx1 hv hvl hg3 HO HL8 HS HB HO2 HB2 HG2 HAT
          go_wp2_with fail
          go_roundg d
          case measure => omega
          case rel => exact ⟨i + 1, by omega, by have := O1.out; rw [show wrap64 ((i : Int) + 1) = ((i + 1 : Nat) : Int) by unfold wrap64; omega], ⟨HS2.out⟩, ⟨HB3.out⟩⟩
        | succ d2 =>
          have hj1 : (j : Int) < (m : Int) := by omega
          obtain ⟨r, hr1, hr2⟩ := HS.out.2.2.2.2.1 i (Nat.le_refl _) (by omega)
          have hx2 : wr.cell? ⟨b i, j, none⟩ = some (.int .u8 (rd r (j : Int))) := by
            rw [hr2.cell (i := j) (by simp [encs]; omega)]
            simp [encs, rd, show j < r.length by omega]
          have hxf := hr2.frozen j
          clear hr1 hr2
          go_wp2_with fail
          go_still_tail 14, (by kernel_rfl)
          change wpList _ _ _ _ _ wr.drew
          have HS2 := Lib.hid ((HS.out.below (below_drew (Below.refl _ _))).store (i := i) (by omega) (j := j) (by omega) (Go.bits .xor .u8 (rd r (j : Int)) 85))
          have HB3 := Lib.hid (below_set (g := b i) (j := j) (v := .int .u8 (Go.bits .xor .u8 (rd r (j : Int)) 85)) (below_drew HB.out) (HBASE.out i (by omega)))
          replace hx2 : wr.drew.cell? ⟨b i, j, none⟩ = some (.int .u8 (rd r (j : Int))) := hx2
          replace hxf : wr.drew.frozen? ⟨b i, j, none⟩ = false := hxf
          clear hx1 HS HB
          go_wp2_with fail
          go_roundg d2
          case measure => omega
          case rel => exact ⟨j + 1, by omega, by have := O4.out; rw [show wrap64 ((j : Int) + 1) = ((j + 1 : Nat) : Int) by unfold wrap64; omega], ⟨HS2.out⟩, ⟨HB3.out⟩⟩
theorem twoslotlaw05_spoil.real (Q : Nat → Prop) (base : Nat) (v : Value) (l0 : List (List Int)) (w0 w : World) (hB : Below w0.heap.size w0 w) (hb0 : w0.heap.size ≤ base) (hS : Kd.S (Kd.slice 5 (Kd.int .u8)) 23 w base Q v l0) (h : twoslotlaw05_spoil.f l0 = some ()) :
    Calls Try.prog 18 #[v] w fun e w' => e = .returned (.tuple #[]) ∧ Kept w w' (fun k => base ≤ k ∧ Q k) ∧ Below w0.heap.size w0 w' := by
  unfold twoslotlaw05_spoil.f at h
  by_cases hok : twoslotlaw05_spoil.ok l0
  case neg => rw [if_neg hok] at h; cases h
  clear h
  have HB := Lib.hid hB
  rcases hok with rfl | ⟨o1, o2, o3, o4, o5⟩
  · obtain ⟨A, c, rfl, -, -⟩ := Kd.S_reads hS
    clear hB hS
    go_enter Try.func18, Try.ntmps18
    go_wp2_with fail
    go_loopg [2] 0 (fun gk s2 wx => s2 = .int .i64 0 ∧ wx = w)
    case atStart => exact ⟨rfl, rfl⟩
    case round =>
      obtain ⟨rfl, rfl⟩ := hrel
      go_wp2_with fail
      first | go_end0 | ((try simp only [Exit.inBlock, Exit.then]); refine bodyPost_ret (results_none rfl _ _ _) rfl ?_)
      exact ⟨rfl, Kept.refl _ _, HB.out⟩
  obtain ⟨g, cap, b, c, rfl, hcap, hM⟩ := Mat.of_SQ hS o5 o2 o3
  exact twoslotlaw05_spoil.mat Q base g cap _ b c l0 w0 w hB hb0 hM o1 o3 o4
set_option maxHeartbeats 16000000 in
set_option maxRecDepth 100000 in
theorem twoslotlaw05_spoil.nil (g : Nat) (v : Value) (ok : Nat → Prop) (base : Nat) (w0 w : World) (hB : Below w0.heap.size w0 w) (hb0 : w0.heap.size ≤ base) (hR : Kd.R (Kd.int .u8) 5 w base ok v []) (hg : w.heap[g]? = some (.cells #[v] 23 (0, 0))) (hgb : base ≤ g) :
    Calls Try.prog 18 #[.slice (some ⟨g, 0, none⟩) 1 1] w fun e w' => e = .returned (.tuple #[]) ∧ Kept w w' (fun k => base ≤ k) ∧ Below w0.heap.size w0 w' := by
  obtain ⟨A, c, rfl⟩ := Kd.R_slice hR
  have hbs : base ≤ w.heap.size := Nat.le_trans hgb (Nat.le_of_lt (blk_lt hg))
  have hR2 := Kd.R_mono (ok' := fun k => base ≤ k) (Kd.R_bound hR) (fun k hk => hk.2.1)
  have HB := Lib.hid hB
  have HR := Lib.hid (Kd.R_lower hR2 hb0)
  have HBS := Lib.hid hbs
  have HB0 := Lib.hid hb0
  have hx : w.cell? ⟨g, 0, none⟩ = some (.slice A 0 c) := blk_cell hg 0
  clear hB hR hg hgb hb0 hR2 hbs
  go_enter Try.func18, Try.ntmps18
  go_wp2_with fail
  go_loopg [2] 1 (fun gk s2 wx => (gk = 1 ∧ s2 = .int .i64 0 ∧ wx = w) ∨ (gk = 0 ∧ s2 = .int .i64 1 ∧ Aside0 (Kept w wx (fun k => base ≤ k)) ∧ Aside0 (Below w0.heap.size w0 wx)))
  case atStart => exact .inl ⟨rfl, rfl, rfl⟩
  case round =>
    rcases hrel with ⟨rfl, rfl, rfl⟩ | ⟨rfl, rfl, HK, HB2⟩
    case inr =>
      go_wp2_with fail
      first | go_end0 | ((try simp only [Exit.inBlock, Exit.then]); refine bodyPost_ret (results_none rfl _ _ _) rfl ?_)
      exact ⟨rfl, HK.out, HB2.out⟩
    go_wp2_with fail
    go_loopg [3] 0 (fun gk s3 wx => s3 = .int .i64 0 ∧ wr = wx)
    case atStart => exact ⟨rfl, rfl⟩
    case round =>
      obtain ⟨rfl, rfl⟩ := hrel
      have HL8 := Lib.hid (lit8 (xs := [1, 2, 3, 4, 5, 6, 7, 8]) (blk_new wr (.cells #[.int .u8 1, .int .u8 2, .int .u8 3, .int .u8 4, .int .u8 5, .int .u8 6, .int .u8 7, .int .u8 8] 5)) rfl (by decide))
      go_upto_region 8 with ((with_reducible refine gate_builtin (b := .append) (xs := #[.tmp 37, .tmp 38]) rfl ?_); at_builtin; refine Kd.R_append_rows (Kd.int .u8) (w0 := w0) w0.heap.size rfl (.tmp 37) (.tmp 38) 23 5 (.int .u8 0) 1 rfl Try.underlying23 twoslotlaw05_spoil.info rfl (by decide) (by omega) (.slice A 0 c) [] [1, 2, 3, 4, 5, 6, 7, 8] _ _ _ (fun k => base ≤ k) (fun _ => False) rfl rfl (Kd.R_below HR.out (below_alloc (Below.refl _ _) _)) ?aR (fun _ _ h => h) (fun _ h => h.elim) (fun k hk => ?aF) ?aB ?aS ?aL ?_; (case aR => exact HL8.out); (case aF => have h1 := HBS.out; simp at hk; omega); (case aB => exact below_alloc HB.out _); (case aS => exact (below_alloc HB.out _).size); (case aL => simp); intro v1 w1 ho hb hg hat; have HO2 := Lib.hid ho; have HB2 := Lib.hid hb; have HG2 := Lib.hid hg; clear ho hb hg hat)
      obtain ⟨g1, cap1, rfl, hg1, hg2, -⟩ := Kd.R_form HO2.out (by simp)
      have hg3 : base ≤ g1 := HO2.out.1 g1 (by simp [Value.ownBlock])
      obtain ⟨hv, hvl⟩ := RowV.of_R HO2.out
      obtain ⟨X, hX⟩ : ∃ X, w1.cell? ⟨g1, 0, none⟩ = some X := ⟨_, hv.cell (by simp [encs])⟩
      have hXf := hv.frozen 0
      have hp8 : (0 : Int) < (([] ++ [1, 2, 3, 4, 5, 6, 7, 8] : List Int).length : Int) := by simp
      have HKK := Lib.hid (show Kept wr (w1.setCell ⟨g1, 0, none⟩ (.int .u8 9)) (fun k => base ≤ k) from ⟨by have := HG2.out.size; simp at this ⊢; omega, fun k hk hq => by
        rw [Below.heap_setCell _ ⟨g1, 0, none⟩ _ k (fun z => hq (by have z' : k = g1 := z; omega)), HG2.out.block k (by simp; omega) (fun z => hq (HR.out.1 k (by simpa using z.symm)))]
        exact Below.heap_alloc _ _ k hk⟩)
      have HB3 := Lib.hid (below_set (g := g1) (j := 0) (v := .int .u8 9) HB2.out hg1)
      clear hx hv hvl HR HL8 HB HO2 HB2 HG2
      go_wp2_with fail
      go_roundg 0
      case measure => omega
      case rel => exact .inr ⟨rfl, by first | rfl | (simp; done) | decide, ⟨HKK.out⟩, ⟨HB3.out⟩⟩
/-- one row, in a list made for it -/
theorem twoslotlaw05_spoil.one (g : Nat) (v : Value) (ok : Nat → Prop) (base : Nat) (d : List Int) (w0 w : World) (hB : Below w0.heap.size w0 w) (hb0 : w0.heap.size ≤ base) (hR : Kd.R (Kd.int .u8) 5 w base ok v d) (hd : d.length ≤ 70000) (hg : w.heap[g]? = some (.cells #[v] 23 (0, 0))) (hgb : base ≤ g) (hgv : some g ≠ v.ownBlock) :
    Calls Try.prog 18 #[.slice (some ⟨g, 0, none⟩) 1 1] w fun e w' => e = .returned (.tuple #[]) ∧ Kept w w' (fun k => base ≤ k) ∧ Below w0.heap.size w0 w' := by
  by_cases h0 : d = []
  · subst h0
    exact twoslotlaw05_spoil.nil g v ok base w0 w hB hb0 hR hg hgb
  have hp : 0 < d.length := List.length_pos_iff.2 h0
  obtain ⟨b, c, rfl, hb, hlt, -⟩ := Kd.R_form hR hp
  have hV := (RowV.of_R hR).1
  refine (twoslotlaw05_spoil.mat (fun _ => True) base g 1 d.length (fun _ => b) (fun _ => c) [d] w0 w hB hb0 ⟨⟨_, hg, by simp [outC], by decide, rfl, by simp [outC]⟩, ⟨hgb, trivial⟩, fun i hi => ?_, fun i j hi hj _ => ?_⟩ (by simp) hp hd).mono ?_
  · obtain rfl : i = 0 := by simpa using hi
    exact ⟨fun z => hgv (by rw [← z]; simp [Value.ownBlock]), ⟨hb, trivial⟩, rfl, hV⟩
  · simp at hi hj; omega
  · rintro e w' ⟨rfl, h1, h2⟩
    exact ⟨rfl, ⟨h1.1, fun k hk hq => h1.2 k hk (fun z => hq z.1)⟩, h2⟩

end Go.Proofs.Ytmmbojeikppinaa.PE
-- written by the session's own program (wip/prt.py) over the kit's print: not print.sh's own text
namespace Go.Proofs.Ytmmbojeikppinaa.PE
open Go.RowKit Go.Proofs.YtmmbojeikppinaaW.PrintWords Go.Proofs.YtmmbojeikppinaaW.PrintLast Go.Proofs.YtmmbojeikppinaaW.PrintMore
attribute [local go_sem] max2_int min2_int max_two min_two max_three min_three max_four min_four   -- for this text's walks alone
set_option linter.unusedVariables false
set_option linter.unusedSimpArgs false

/-! ### twoslotref05_Of: function 14 -/
def twoslotref05_Of.f (k : Nat) (l0 : List Int) (l1 : List Int) : Option (List Int × Int) := (twoslotref05_cell.f l0).bind fun t163 => (if t163 = true then ((twoslotref05_cell.f l1).bind fun t164 => (if t164 = true then (if (l0.length : Int) = (l1.length : Int) then ((twoslotref02_Add.f k l0 1 l1).bind fun t165 => (some (t165, 0))) else (some (([] : List Int), 40))) else (some (([] : List Int), 40)))) else (some (([] : List Int), 40)))
theorem twoslotref05_Of.mono : ∀ a0 a1 k, LeO (twoslotref05_Of.f k a0 a1) (twoslotref05_Of.f (k + 1) a0 a1) := by
  intro a0 a1 k
  unfold twoslotref05_Of.f
  repeat' first
      | (with_reducible exact twoslotref02_Add.mono _ _ _ _)
      | (with_reducible exact LeO.refl _)
      | (with_reducible exact LeO.none _)
      | (with_reducible refine LeO.ite ?_ ?_)
      | (with_reducible refine LeO.bind ?_ (fun _ => ?_))
      | exact twoslotref02_Add.mono _ _ _ _
      | exact LeO.none _
      | refine LeO.ite ?_ ?_
      | refine LeO.bind ?_ (fun _ => ?_)
set_option maxHeartbeats 8000000 in
set_option maxRecDepth 100000 in
theorem twoslotref05_Of.calls (k : Nat) (A0 : Option Addr) (c0 : Nat) (l0 : List Int) (A1 : Option Addr) (c1 : Nat) (l1 : List Int) (r1 : List Int) (r2 : Int) (w : World) (hr0 : Kd.C (Kd.int .u8) w A0 l0.length l0) (hc0 : l0.length ≤ c0) (hr1 : Kd.C (Kd.int .u8) w A1 l1.length l1) (hc1 : l1.length ≤ c1) (h : twoslotref05_Of.f k l0 l1 = some (r1, r2)) :
    Calls Try.prog 14 #[.slice A0 l0.length c0, .slice A1 l1.length c1] w fun e w' => ∃ v0_ : Value, e = .returned (.tuple #[v0_, .int .i64 r2]) ∧ Kd.R (Kd.int .u8) 5 w' w.heap.size (fun _ => True) v0_ r1 ∧ Below w.heap.size w w' := by
  have HR0 := Aside0.mk hr0
  have HC0 := Aside0.mk hc0
  clear hr0 hc0
  have HR1 := Aside0.mk hr1
  have HC1 := Aside0.mk hc1
  clear hr1 hc1
  have HB := Aside0.mk (Below.refl w.heap.size w)
  have H : ((twoslotref05_cell.f l0).bind fun t163 => (if t163 = true then ((twoslotref05_cell.f l1).bind fun t164 => (if t164 = true then (if (l0.length : Int) = (l1.length : Int) then ((twoslotref02_Add.f k l0 1 l1).bind fun t165 => (some (t165, 0))) else (some (([] : List Int), 40))) else (some (([] : List Int), 40)))) else (some (([] : List Int), 40)))) = some (r1, r2) := h
  clear h
  replace H := Option.bind_eq_some_iff.mp H
  obtain ⟨t163, A30, H⟩ := H
  replace H : (if t163 = true then ((twoslotref05_cell.f l1).bind fun t164 => (if t164 = true then (if (l0.length : Int) = (l1.length : Int) then ((twoslotref02_Add.f k l0 1 l1).bind fun t165 => (some (t165, 0))) else (some (([] : List Int), 40))) else (some (([] : List Int), 40)))) else (some (([] : List Int), 40))) = some (r1, r2) := H
  have A3 := Aside0.mk A30
  clear A30
  by_cases c4 : t163 = true
  · subst c4
    have H1 : ((twoslotref05_cell.f l1).bind fun t164 => (if t164 = true then (if (l0.length : Int) = (l1.length : Int) then ((twoslotref02_Add.f k l0 1 l1).bind fun t165 => (some (t165, 0))) else (some (([] : List Int), 40))) else (some (([] : List Int), 40)))) = some (r1, r2) := by rw [if_pos rfl] at H; exact H
    clear H
    have H := H1
    clear H1
    replace H := Option.bind_eq_some_iff.mp H
    obtain ⟨t164, A50, H⟩ := H
    replace H : (if t164 = true then (if (l0.length : Int) = (l1.length : Int) then ((twoslotref02_Add.f k l0 1 l1).bind fun t165 => (some (t165, 0))) else (some (([] : List Int), 40))) else (some (([] : List Int), 40))) = some (r1, r2) := H
    have A5 := Aside0.mk A50
    clear A50
    by_cases c6 : t164 = true
    · subst c6
      have H1 : (if (l0.length : Int) = (l1.length : Int) then ((twoslotref02_Add.f k l0 1 l1).bind fun t165 => (some (t165, 0))) else (some (([] : List Int), 40))) = some (r1, r2) := by rw [if_pos rfl] at H; exact H
      clear H
      have H := H1
      clear H1
      by_cases c7 : (l0.length : Int) = (l1.length : Int)
      · rw [if_pos c7] at H
        have c7b0 : ((l0.length : Int) == (l1.length : Int)) = true := beq_iff_eq.mpr c7
        have c7b1 : ((l0.length : Int) != (l1.length : Int)) = false := bne_eq_false_iff_eq.mpr c7
        have c7b2 : (l0.length == l1.length) = true := by first | simpa using c7 | (simp at c7 ⊢; omega)
        clear c7
        replace H := Option.bind_eq_some_iff.mp H
        obtain ⟨t165, A80, H⟩ := H
        replace H : (some (t165, 0)) = some (r1, r2) := H
        have A8 := Aside0.mk A80
        clear A80
        simp only [Option.some.injEq, Prod.mk.injEq] at H
        obtain ⟨rfl, rfl⟩ := H
        go_enter Try.func14, Try.ntmps14
        go_wp2_with (first | ((with_reducible refine gate_callee (f := 30) rfl ?_); refine goesL_ (some 7) rfl rfl Try.func30 (by kernel_rfl) rfl #[.slice A0 l0.length c0] rfl (by (try simp only [List.map_toArray, List.map_cons, List.map_nil]); first | done | rfl | (simp only [List.length_drop, List.length_take]; rfl)) ?_; (with_reducible refine (twoslotref05_cell.calls _ _ l0 true _ ?side1 ?side2 A3.out).mono ?_); (case side1 => repeat (first | exact HR0.out | (with_reducible refine Kd.C_alloc ?_ _) | (with_reducible refine Kd.C_drewN ?_ _) | (with_reducible refine Kd.C_drew ?_))); (case side2 => exact HC0.out); rintro e w' ⟨rfl, ⟨nd, rfl⟩⟩; refine ⟨_, rfl, ?_⟩) | (go_at_call 30; (with_reducible refine (twoslotref05_cell.calls _ _ l1 true _ ?side1 ?side2 A5.out).mono ?_); (case side1 => repeat (first | exact HR1.out | (with_reducible refine Kd.C_alloc ?_ _) | (with_reducible refine Kd.C_drewN ?_ _) | (with_reducible refine Kd.C_drew ?_))); (case side2 => exact HC1.out); rintro e w' ⟨rfl, ⟨nd, rfl⟩⟩) | ((with_reducible refine gate_callee (f := 31) rfl ?_); refine goesL_ (some 23) rfl rfl Try.func31 (by kernel_rfl) rfl #[.slice A0 l0.length c0, .int .u8 1, .slice A1 l1.length c1] rfl (by (try simp only [List.map_toArray, List.map_cons, List.map_nil]); first | done | rfl | (simp only [List.length_drop, List.length_take]; rfl)) ?_; (with_reducible refine (twoslotref02_Add.calls k _ _ l0 1 _ _ l1 t165 _ ?side1 ?side2 ?side3 ?side4 A8.out).mono ?_); (case side1 => repeat (first | exact HR0.out | (with_reducible refine Kd.C_alloc ?_ _) | (with_reducible refine Kd.C_drewN ?_ _) | (with_reducible refine Kd.C_drew ?_))); (case side2 => exact HC0.out); (case side3 => repeat (first | exact HR1.out | (with_reducible refine Kd.C_alloc ?_ _) | (with_reducible refine Kd.C_drewN ?_ _) | (with_reducible refine Kd.C_drew ?_))); (case side4 => exact HC1.out); rintro e w9 ⟨v166, rfl, ho0, hb⟩; refine ⟨_, rfl, ?_⟩; have n0_ := Aside0.mk (Kd.R_lower ho0 (below_size (by repeat (first | (with_reducible first | exact HB.out | apply below_alloc | apply pw_below_drewN | apply below_drew1) | exact HB.out)))); have n1_ := Aside0.mk (below_step (by repeat (first | (with_reducible first | exact HB.out | apply below_alloc | apply pw_below_drewN | apply below_drew1) | exact HB.out)) hb); clear HB; have HO167 := n0_; have HB := n1_; clear n0_ n1_; (try clear hb); (try clear hb2); (try clear hk); (try clear hi); (try clear ho0)))
        go_ret2
        exact ⟨_, by first | rfl | (simp [errW_none, errW_some] <;> rfl) | (simp [*, errW_none, errW_some] <;> rfl), by (with_reducible repeat (first | apply Kd.R_alloc | apply Kd.R_drewN | apply Kd.R_drew)); exact HO167.out, by repeat (first | (with_reducible first | exact HB.out | apply below_alloc | apply pw_below_drewN | apply below_drew1) | exact HB.out)⟩
      · rw [if_neg c7] at H
        have c7b0 : ((l0.length : Int) == (l1.length : Int)) = false := beq_eq_false_iff_ne.mpr c7
        have c7b1 : ((l0.length : Int) != (l1.length : Int)) = true := bne_iff_ne.mpr c7
        have c7b2 : (l0.length == l1.length) = false := by first | simpa using c7 | (simp at c7 ⊢; omega)
        simp only [Option.some.injEq, Prod.mk.injEq] at H
        obtain ⟨rfl, rfl⟩ := H
        go_enter Try.func14, Try.ntmps14
        go_wp2_with (first | ((with_reducible refine gate_callee (f := 30) rfl ?_); refine goesL_ (some 7) rfl rfl Try.func30 (by kernel_rfl) rfl #[.slice A0 l0.length c0] rfl (by (try simp only [List.map_toArray, List.map_cons, List.map_nil]); first | done | rfl | (simp only [List.length_drop, List.length_take]; rfl)) ?_; (with_reducible refine (twoslotref05_cell.calls _ _ l0 true _ ?side1 ?side2 A3.out).mono ?_); (case side1 => repeat (first | exact HR0.out | (with_reducible refine Kd.C_alloc ?_ _) | (with_reducible refine Kd.C_drewN ?_ _) | (with_reducible refine Kd.C_drew ?_))); (case side2 => exact HC0.out); rintro e w' ⟨rfl, ⟨nd, rfl⟩⟩; refine ⟨_, rfl, ?_⟩) | (go_at_call 30; (with_reducible refine (twoslotref05_cell.calls _ _ l1 true _ ?side1 ?side2 A5.out).mono ?_); (case side1 => repeat (first | exact HR1.out | (with_reducible refine Kd.C_alloc ?_ _) | (with_reducible refine Kd.C_drewN ?_ _) | (with_reducible refine Kd.C_drew ?_))); (case side2 => exact HC1.out); rintro e w' ⟨rfl, ⟨nd, rfl⟩⟩))
        go_ret2
        exact ⟨_, by first | rfl | (simp [errW_none, errW_some] <;> rfl) | (simp [*, errW_none, errW_some] <;> rfl), by first | exact Kd.R_nil _ _ _ _ _ | exact Kd.N_nil _ _ _ _ _ | exact Kd.V_nil _ _ _ _ _ | exact Kd.Q_nil _ _ _ _ _ | exact Kd.S_nil _ _ _ _ _, by repeat (first | (with_reducible first | exact HB.out | apply below_alloc | apply pw_below_drewN | apply below_drew1) | exact HB.out)⟩
    · replace c6 := Bool.eq_false_iff.mpr c6
      subst c6
      have H1 : (some (([] : List Int), 40)) = some (r1, r2) := by rw [if_neg (show ¬ (false = true) by decide)] at H; exact H
      clear H
      have H := H1
      clear H1
      simp only [Option.some.injEq, Prod.mk.injEq] at H
      obtain ⟨rfl, rfl⟩ := H
      go_enter Try.func14, Try.ntmps14
      go_wp2_with (first | ((with_reducible refine gate_callee (f := 30) rfl ?_); refine goesL_ (some 7) rfl rfl Try.func30 (by kernel_rfl) rfl #[.slice A0 l0.length c0] rfl (by (try simp only [List.map_toArray, List.map_cons, List.map_nil]); first | done | rfl | (simp only [List.length_drop, List.length_take]; rfl)) ?_; (with_reducible refine (twoslotref05_cell.calls _ _ l0 true _ ?side1 ?side2 A3.out).mono ?_); (case side1 => repeat (first | exact HR0.out | (with_reducible refine Kd.C_alloc ?_ _) | (with_reducible refine Kd.C_drewN ?_ _) | (with_reducible refine Kd.C_drew ?_))); (case side2 => exact HC0.out); rintro e w' ⟨rfl, ⟨nd, rfl⟩⟩; refine ⟨_, rfl, ?_⟩) | (go_at_call 30; (with_reducible refine (twoslotref05_cell.calls _ _ l1 false _ ?side1 ?side2 A5.out).mono ?_); (case side1 => repeat (first | exact HR1.out | (with_reducible refine Kd.C_alloc ?_ _) | (with_reducible refine Kd.C_drewN ?_ _) | (with_reducible refine Kd.C_drew ?_))); (case side2 => exact HC1.out); rintro e w' ⟨rfl, ⟨nd, rfl⟩⟩))
      go_ret2
      exact ⟨_, by first | rfl | (simp [errW_none, errW_some] <;> rfl) | (simp [*, errW_none, errW_some] <;> rfl), by first | exact Kd.R_nil _ _ _ _ _ | exact Kd.N_nil _ _ _ _ _ | exact Kd.V_nil _ _ _ _ _ | exact Kd.Q_nil _ _ _ _ _ | exact Kd.S_nil _ _ _ _ _, by repeat (first | (with_reducible first | exact HB.out | apply below_alloc | apply pw_below_drewN | apply below_drew1) | exact HB.out)⟩
  · replace c4 := Bool.eq_false_iff.mpr c4
    subst c4
    have H1 : (some (([] : List Int), 40)) = some (r1, r2) := by rw [if_neg (show ¬ (false = true) by decide)] at H; exact H
    clear H
    have H := H1
    clear H1
    simp only [Option.some.injEq, Prod.mk.injEq] at H
    obtain ⟨rfl, rfl⟩ := H
    go_enter Try.func14, Try.ntmps14
    go_wp2_with (first | ((with_reducible refine gate_callee (f := 30) rfl ?_); refine goesL_ (some 7) rfl rfl Try.func30 (by kernel_rfl) rfl #[.slice A0 l0.length c0] rfl (by (try simp only [List.map_toArray, List.map_cons, List.map_nil]); first | done | rfl | (simp only [List.length_drop, List.length_take]; rfl)) ?_; (with_reducible refine (twoslotref05_cell.calls _ _ l0 false _ ?side1 ?side2 A3.out).mono ?_); (case side1 => repeat (first | exact HR0.out | (with_reducible refine Kd.C_alloc ?_ _) | (with_reducible refine Kd.C_drewN ?_ _) | (with_reducible refine Kd.C_drew ?_))); (case side2 => exact HC0.out); rintro e w' ⟨rfl, ⟨nd, rfl⟩⟩; refine ⟨_, rfl, ?_⟩))
    go_ret2
    exact ⟨_, by first | rfl | (simp [errW_none, errW_some] <;> rfl) | (simp [*, errW_none, errW_some] <;> rfl), by first | exact Kd.R_nil _ _ _ _ _ | exact Kd.N_nil _ _ _ _ _ | exact Kd.V_nil _ _ _ _ _ | exact Kd.Q_nil _ _ _ _ _ | exact Kd.S_nil _ _ _ _ _, by repeat (first | (with_reducible first | exact HB.out | apply below_alloc | apply pw_below_drewN | apply below_drew1) | exact HB.out)⟩

end Go.Proofs.Ytmmbojeikppinaa.PE
-- written by the session's own program (wip/prt.py) over the kit's print: not print.sh's own text
namespace Go.Proofs.Ytmmbojeikppinaa.PE
open Go.RowKit Go.Proofs.YtmmbojeikppinaaW.PrintWords Go.Proofs.YtmmbojeikppinaaW.PrintLast Go.Proofs.YtmmbojeikppinaaW.PrintMore
attribute [local go_sem] max2_int min2_int max_two min_two max_three min_three max_four min_four   -- for this text's walks alone
set_option linter.unusedVariables false
set_option linter.unusedSimpArgs false

/-! ### twoslotlaw05_DeltaCells: function 4 -/
def twoslotlaw05_DeltaCells.ok (k : Nat) (a0 a1 : Int) (l2 : List (List Int)) (a3 : Int) (l4 l5 : List Int) : Prop :=
  twoslotlaw05_alive.f k = some true ∧ ∃ b0, twoslotlaw05_much.f k l2 = some b0 ∧ (b0 = false → ∃ b1, twoslotlaw05_much.f k [l4, l5] = some b1 ∧ (b1 = false → ∃ (d : List Int) (e1 : Int) (p : List (List Int)) (e2 : Int),
    twoslotref02_Twin.f k l2 = some l2 ∧ twoslotref02_Twin.f k [l4, l5] = some [l4, l5] ∧ delta_Of.f k l4 l5 = some (d, e1) ∧ delta_Parity.f k a0 a1 l2 a3 l4 = some (p, e2) ∧ twoslotref05_Of.f k l4 l5 = some (d, e1) ∧ twoslotref05_Parity.f k a0 a1 l2 a3 l4 = some (p, e2) ∧
    twoslotref02_Same.f d d = some true ∧ twoslotref02_SameAll.f k p p = some true ∧ twoslotlaw05_spoil.f p = some () ∧ d.length ≤ 70000 ∧ twoslotref02_SameAll.f k l2 l2 = some true ∧ twoslotref02_SameAll.f k [l4, l5] [l4, l5] = some true))
set_option maxHeartbeats 16000000 in
set_option maxRecDepth 100000 in
theorem twoslotlaw05_DeltaCells.calls (k : Nat) (a0 : Int) (a1 : Int) (A2 : Option Addr) (c2 : Nat) (l2 : List (List Int)) (a3 : Int) (P4_ : Nat → Prop) (A4 : Option Addr) (c4 : Nat) (l4 : List Int) (P5_ : Nat → Prop) (A5 : Option Addr) (c5 : Nat) (l5 : List Int) (w : World) (hr2 : Kd.C (Kd.slice 5 (Kd.int .u8)) w A2 l2.length l2) (hc2 : l2.length ≤ c2) (hs4 : Kd.V (Kd.int .u8) 5 w w.heap.size (fun k_ => P4_ k_) (.slice A4 l4.length c4) l4) (hs5 : Kd.V (Kd.int .u8) 5 w w.heap.size (fun k_ => P5_ k_) (.slice A5 l5.length c5) l5) (h : twoslotlaw05_DeltaCells.ok k a0 a1 l2 a3 l4 l5) :
    Calls Try.prog 4 #[.int .i64 a0, .int .i64 a1, .slice A2 l2.length c2, .int .i64 a3, .slice A4 l4.length c4, .slice A5 l5.length c5] w fun e w' => e = .returned (.bool true) ∧ Below w.heap.size w w' := by
  obtain ⟨hal, b0, hm0, h⟩ := h
  have F2 := Lib.hid hr2
  have G2 := Lib.hid hc2
  have F4 := Lib.hid (Kd.V_reads' hs4).2.2
  have G4 := Lib.hid (Kd.V_reads' hs4).2.1
  have F5 := Lib.hid (Kd.V_reads' hs5).2.2
  have G5 := Lib.hid (Kd.V_reads' hs5).2.1
  have HAL := Lib.hid hal
  have HM0 := Lib.hid hm0
  have H := Lib.hid h
  have HB := Lib.hid (Below.refl w.heap.size w)
  clear hr2 hc2 hs4 hs5 hal hm0 h
  go_enter Try.func4, Try.ntmps4
  go_wp2_with fail
  refine (twoslotlaw05_alive.calls k true _ HAL.out).mono ?_
  rintro en w1 ⟨rfl, hb⟩
  have hbn := hb
  replace F2 := Lib.hid (Kd.C_below F2.out hbn)
  replace F4 := Lib.hid (Kd.C_below F4.out hbn)
  replace F5 := Lib.hid (Kd.C_below F5.out hbn)
  replace HB := Lib.hid (below_step HB.out hbn)
  clear hb hbn
  go_wp2_with fail
  refine (twoslotlaw05_much.calls k A2 c2 l2 b0 _ F2.out G2.out HM0.out).mono ?_
  rintro en w2 ⟨rfl, n_, hw_⟩
  have hb : Below (World.heap w1).size w1 w2 := by rw [hw_]; exact pw_below_drewN (Below.refl _ _) n_
  clear hw_
  have hbn := hb
  replace F2 := Lib.hid (Kd.C_below F2.out hbn)
  replace F4 := Lib.hid (Kd.C_below F4.out hbn)
  replace F5 := Lib.hid (Kd.C_below F5.out hbn)
  replace HB := Lib.hid (below_step HB.out hbn)
  clear hb hbn
  cases b0 with
  | true =>
    go_wp2_with fail
    go_ret
    exact ⟨rfl, HB.out⟩
  | false =>
    obtain ⟨b1, hm1, h⟩ := H.out rfl
    have HM1 := Lib.hid hm1
    replace H := Lib.hid h
    clear hm1 h
    have bw3 := below_alloc (Below.refl w2.heap.size w2) (.cells #[.slice A4 l4.length c4, .slice A5 l5.length c5] 23)
    have q3_0 : (w2.alloc (.cells #[.slice A4 l4.length c4, .slice A5 l5.length c5] 23)).heap[w2.heap.size]? = some (.cells #[.slice A4 l4.length c4, .slice A5 l5.length c5] 23) := heap_alloc_at _ _ (by first | rfl | simp)
    have hL3_0 : Kd.C (Kd.slice 5 (Kd.int .u8)) (w2.alloc (.cells #[.slice A4 l4.length c4, .slice A5 l5.length c5] 23)) (some ⟨w2.heap.size, 0, none⟩) 2 [l4, l5] := lit_rows (ys := [l4, l5]) q3_0 rfl ((RowsC.one (RowC.mk (Kd.C_below F4.out bw3) G4.out)).append (RowsC.one (RowC.mk (Kd.C_below F5.out bw3) G5.out))) (by simp)
    have H_hL3_0 := Lib.hid hL3_0
    have H_bw3 := Lib.hid bw3
    clear q3_0 hL3_0 bw3
    go_wp2_with fail
    refine (twoslotlaw05_much.calls k (some ⟨w2.heap.size, 0, none⟩) 2 [l4, l5] b1 _ H_hL3_0.out (Nat.le_refl _) HM1.out).mono ?_
    rintro en w4 ⟨rfl, n_, hw_⟩
    have hb : Below (World.heap (w2.alloc (.cells #[.slice A4 l4.length c4, .slice A5 l5.length c5] 23))).size (w2.alloc (.cells #[.slice A4 l4.length c4, .slice A5 l5.length c5] 23)) w4 := by rw [hw_]; exact pw_below_drewN (Below.refl _ _) n_
    clear hw_
    have hbn := (below_step H_bw3.out hb)
    replace F2 := Lib.hid (Kd.C_below F2.out hbn)
    replace F4 := Lib.hid (Kd.C_below F4.out hbn)
    replace F5 := Lib.hid (Kd.C_below F5.out hbn)
    replace HB := Lib.hid (below_step HB.out hbn)
    clear hb hbn
    clear H_hL3_0
    clear H_bw3
    cases b1 with
    | true =>
      go_wp2_with fail
      go_ret
      exact ⟨rfl, HB.out⟩
    | false =>
      obtain ⟨d, e1, p, e2, t0, t1, t2, t3, t4, t5, t6, t7, t8, t9, s0, s1⟩ := H.out rfl
      have Ht0 := Lib.hid t0
      have Ht1 := Lib.hid t1
      have Ht2 := Lib.hid t2
      have Ht3 := Lib.hid t3
      have Ht4 := Lib.hid t4
      have Ht5 := Lib.hid t5
      have Ht6 := Lib.hid t6
      have Ht7 := Lib.hid t7
      have Ht8 := Lib.hid t8
      have Ht9 := Lib.hid t9
      have Hs0 := Lib.hid s0
      have Hs1 := Lib.hid s1
      clear t0 t1 t2 t3 t4 t5 t6 t7 t8 t9 s0 s1 H
      go_wp2_with fail
      refine (twoslotref02_Twin.calls k A2 c2 l2 l2 _ F2.out G2.out Ht0.out).mono ?_
      rintro en w5 ⟨v1, rfl, ho, hb⟩
      have hbn := hb
      replace F2 := Lib.hid (Kd.C_below F2.out hbn)
      replace F4 := Lib.hid (Kd.C_below F4.out hbn)
      replace F5 := Lib.hid (Kd.C_below F5.out hbn)
      replace HB := Lib.hid (below_step HB.out hbn)
      obtain ⟨Ax, cx, rfl⟩ := Kd.S_slice ho
      have Fx := Lib.hid (Kd.S_reads' ho).2.2
      have Gx := Lib.hid (Kd.S_reads' ho).2.1
      have Ox := Lib.hid ho
      clear ho
      clear hb hbn
      have bw6 := below_alloc (Below.refl w5.heap.size w5) (.cells #[.slice A4 l4.length c4, .slice A5 l5.length c5] 23)
      have q6_0 : (w5.alloc (.cells #[.slice A4 l4.length c4, .slice A5 l5.length c5] 23)).heap[w5.heap.size]? = some (.cells #[.slice A4 l4.length c4, .slice A5 l5.length c5] 23) := heap_alloc_at _ _ (by first | rfl | simp)
      have hL6_0 : Kd.C (Kd.slice 5 (Kd.int .u8)) (w5.alloc (.cells #[.slice A4 l4.length c4, .slice A5 l5.length c5] 23)) (some ⟨w5.heap.size, 0, none⟩) 2 [l4, l5] := lit_rows (ys := [l4, l5]) q6_0 rfl ((RowsC.one (RowC.mk (Kd.C_below F4.out bw6) G4.out)).append (RowsC.one (RowC.mk (Kd.C_below F5.out bw6) G5.out))) (by simp)
      have H_hL6_0 := Lib.hid hL6_0
      have H_bw6 := Lib.hid bw6
      clear q6_0 hL6_0 bw6
      go_wp2_with fail
      refine (twoslotref02_Twin.calls k (some ⟨w5.heap.size, 0, none⟩) 2 [l4, l5] [l4, l5] _ H_hL6_0.out (Nat.le_refl _) Ht1.out).mono ?_
      rintro en w7 ⟨v1, rfl, ho, hb⟩
      have hbn := (below_step H_bw6.out hb)
      replace F2 := Lib.hid (Kd.C_below F2.out hbn)
      replace F4 := Lib.hid (Kd.C_below F4.out hbn)
      replace F5 := Lib.hid (Kd.C_below F5.out hbn)
      replace Fx := Lib.hid (Kd.C_below Fx.out hbn)
      replace HB := Lib.hid (below_step HB.out hbn)
      obtain ⟨Ay, cy, rfl⟩ := Kd.S_slice ho
      have Fy := Lib.hid (Kd.S_reads' ho).2.2
      have Gy := Lib.hid (Kd.S_reads' ho).2.1
      have Oy := Lib.hid ho
      clear ho
      clear hb hbn
      clear H_hL6_0
      clear H_bw6
      clear Ox Oy
      obtain ⟨ady0, Ay0, cy0, ry0, hxy0, hly0, hry0⟩ := at_L1 Fy.out 0 (by decide) (show ((0 : Int)) < ((2 : Nat) : Int) by decide)
      subst ry0
      have Fy0 := Lib.hid (show Kd.C (Kd.int .u8) w7 Ay0 l4.length l4 from hry0)
      have Gy0 := Lib.hid (show l4.length ≤ cy0 from hly0)
      obtain ⟨ady1, Ay1, cy1, ry1, hxy1, hly1, hry1⟩ := at_L1 Fy.out 1 (by decide) (show ((1 : Int)) < ((2 : Nat) : Int) by decide)
      injection ry1 with ry1
      subst ry1
      have Fy1 := Lib.hid (show Kd.C (Kd.int .u8) w7 Ay1 l5.length l5 from hry1)
      have Gy1 := Lib.hid (show l5.length ≤ cy1 from hly1)
      have hu0 : (ady0.add (0 : Int).toNat) = ady0 := by cases ady0; simp [Addr.add]
      rw [hu0] at hxy0
      have hx0 : w7.cell? ady0 = some (.slice Ay0 l4.length cy0) := hxy0
      have hx1 : w7.cell? ⟨ady0.block, ady0.off + 1, none⟩ = some (.slice Ay1 l5.length cy1) := hxy1
      clear hxy0 hxy1 hry0 hry1 hly0 hly1 hu0
      have HBW := HB
      have HN := Lib.hid (Below.refl w7.heap.size w7)
      have Z_F2 := F2
      clear F2
      have Z_F4 := F4
      clear F4
      have Z_F5 := F5
      clear F5
      have Z_Fx := Fx
      clear Fx
      have Z_Fy := Fy
      clear Fy
      have Z_Fy0 := Fy0
      clear Fy0
      have Z_Fy1 := Fy1
      clear Fy1
      have hS0 : w7.cell? ady0 = some (.slice Ay0 l4.length cy0) ∧ w7.cell? ⟨ady0.block, ady0.off + 1, none⟩ = some (.slice Ay1 l5.length cy1) := ⟨hx0, hx1⟩
      go_wp2_with fail
      go_region_held3 (fun w' => w'.cell? ady0 = some (.slice Ay0 l4.length cy0) ∧ w'.cell? ⟨ady0.block, ady0.off + 1, none⟩ = some (.slice Ay1 l5.length cy1)) (first | exact hS0 | exact hS1) ((go_at_call 9; refine (delta_Of.calls k Ay0 cy0 l4 Ay1 cy1 l5 d e1 _ (Kd.C_below Z_Fy0.out (below_drew (Below.refl _ _))) Gy0.out (Kd.C_below Z_Fy1.out (below_drew (Below.refl _ _))) Gy1.out Ht2.out).mono ?_; rintro en wd1 ⟨v1, rfl, ho, hb⟩; have hS1 : wd1.cell? ady0 = some (.slice Ay0 l4.length cy0) ∧ wd1.cell? ⟨ady0.block, ady0.off + 1, none⟩ = some (.slice Ay1 l5.length cy1) := ⟨(hb.cell (World.block_lt_of_cell? _ _ hS0.1)).trans hS0.1, (hb.cell (World.block_lt_of_cell? _ _ hS0.2)).trans hS0.2⟩; have HO := Lib.hid ho; have HBn := Lib.hid (below_step (below_drew (Below.refl _ _)) hb); clear ho hb))
      replace HN := HBn
      obtain ⟨Ad, cd, rfl⟩ := Kd.R_slice HO.out
      have Rd := Lib.hid (show Kd.R (Kd.int .u8) 5 wd1 w7.heap.size (fun k_ => k_ < wd1.heap.size) _ d from Kd.R_mono (Kd.R_bound HO.out) (fun k_ hk_ => hk_.2.2.1))
      have Zd := Lib.hid (show w7.heap.size ≤ wd1.heap.size from HN.out.size)
      have Fd := Lib.hid (Kd.R_reads' HO.out).2.2
      have Gd := Lib.hid (Kd.R_reads' HO.out).2.1
      have hx2 := hS1.1
      clear HO HBn hS0 hS1 hx0 hx1
      go_wp2_with fail
      refine (delta_Parity.calls k a0 a1 Ax cx l2 a3 Ay0 cy0 l4 p e2 _ (Kd.C_below Z_Fx.out HN.out) Gx.out (Kd.C_below Z_Fy0.out HN.out) Gy0.out Ht3.out).mono ?_
      rintro en w8 ⟨v1, rfl, ho, hb⟩
      have hbn := hb
      replace Fd := Lib.hid (Kd.C_below Fd.out hbn)
      replace Rd := Lib.hid (Kd.R_below Rd.out hbn)
      replace HN := Lib.hid (below_step HN.out hbn)
      obtain ⟨Ap, cp, rfl⟩ := Kd.S_slice ho
      have Fp := Lib.hid (Kd.S_reads' ho).2.2
      have Gp := Lib.hid (Kd.S_reads' ho).2.1
      have Op := Lib.hid ho
      clear ho
      clear hb hbn
      clear hx2
      go_wp2_with fail
      refine (twoslotref05_Of.calls k A4 c4 l4 A5 c5 l5 d e1 _ (Kd.C_below Z_F4.out HN.out) G4.out (Kd.C_below Z_F5.out HN.out) G5.out Ht4.out).mono ?_
      rintro en w9 ⟨v1, rfl, ho, hb⟩
      have hbn := hb
      replace Fd := Lib.hid (Kd.C_below Fd.out hbn)
      replace Fp := Lib.hid (Kd.C_below Fp.out hbn)
      replace Rd := Lib.hid (Kd.R_below Rd.out hbn)
      replace Op := Lib.hid (Kd.S_below Op.out hbn)
      replace HN := Lib.hid (below_step HN.out hbn)
      obtain ⟨Ad2, cd2, rfl⟩ := Kd.R_slice ho
      have Fd2 := Lib.hid (Kd.R_reads' ho).2.2
      have Gd2 := Lib.hid (Kd.R_reads' ho).2.1
      have Od2 := Lib.hid ho
      clear ho
      clear hb hbn
      go_wp2_with fail
      refine (twoslotref05_Parity.calls k a0 a1 A2 c2 l2 a3 _ A4 c4 l4 p e2 _ (Kd.C_below Z_F2.out HN.out) G2.out (Kd.V_mk G4.out (Kd.C_F (Kd.heap_int .u8) (Kd.C_below Z_F4.out HN.out))) Ht5.out).mono ?_
      rintro en w10 ⟨v1, rfl, ho, hb⟩
      have hbn := hb
      replace Fd := Lib.hid (Kd.C_below Fd.out hbn)
      replace Fp := Lib.hid (Kd.C_below Fp.out hbn)
      replace Fd2 := Lib.hid (Kd.C_below Fd2.out hbn)
      replace Rd := Lib.hid (Kd.R_below Rd.out hbn)
      replace Op := Lib.hid (Kd.S_below Op.out hbn)
      replace HN := Lib.hid (below_step HN.out hbn)
      obtain ⟨Ap2, cp2, rfl⟩ := Kd.N_slice ho
      have Fp2 := Lib.hid (Kd.N_reads' ho).2.2
      have Gp2 := Lib.hid (Kd.N_reads' ho).2.1
      clear ho
      clear hb hbn
      go_wp2_with fail
      refine (twoslotref02_Same.calls Ad cd d Ad2 cd2 d true _ Fd.out Gd.out Fd2.out Gd2.out Ht6.out).mono ?_
      rintro en w11 ⟨rfl, n_, hw_⟩
      have hb : Below (World.heap w10).size w10 w11 := by rw [hw_]; exact pw_below_drewN (Below.refl _ _) n_
      clear hw_
      have hbn := hb
      replace Fd := Lib.hid (Kd.C_below Fd.out hbn)
      replace Fp := Lib.hid (Kd.C_below Fp.out hbn)
      replace Fd2 := Lib.hid (Kd.C_below Fd2.out hbn)
      replace Fp2 := Lib.hid (Kd.C_below Fp2.out hbn)
      replace Rd := Lib.hid (Kd.R_below Rd.out hbn)
      replace Op := Lib.hid (Kd.S_below Op.out hbn)
      replace HN := Lib.hid (below_step HN.out hbn)
      clear hb hbn
      go_wp2_with fail
      refine (twoslotref02_SameAll.calls k Ap cp p Ap2 cp2 p true _ Fp.out Gp.out Fp2.out Gp2.out Ht7.out).mono ?_
      rintro en w12 ⟨rfl, n_, hw_⟩
      have hb : Below (World.heap w11).size w11 w12 := by rw [hw_]; exact pw_below_drewN (Below.refl _ _) n_
      clear hw_
      have hbn := hb
      replace Fd := Lib.hid (Kd.C_below Fd.out hbn)
      replace Fp := Lib.hid (Kd.C_below Fp.out hbn)
      replace Fd2 := Lib.hid (Kd.C_below Fd2.out hbn)
      replace Fp2 := Lib.hid (Kd.C_below Fp2.out hbn)
      replace Rd := Lib.hid (Kd.R_below Rd.out hbn)
      replace Op := Lib.hid (Kd.S_below Op.out hbn)
      replace HN := Lib.hid (below_step HN.out hbn)
      clear hb hbn
      go_wp2_with fail
      refine (twoslotlaw05_spoil.real (fun _ => True) wd1.heap.size _ p w7 _ HN.out Zd.out Op.out Ht8.out).mono ?_
      rintro en w13 ⟨rfl, hk_, hb⟩
      replace Rd := Lib.hid (Kd.R_step Rd.out (fun k_ ho_ hlt_ => hk_.2 k_ hlt_ (fun hs_ => by have h1 : k_ < wd1.heap.size := ho_; have h2 : wd1.heap.size ≤ k_ := hs_.1; omega)))
      replace HN := Lib.hid hb
      clear hb hk_ Op
      clear Fd Fp Fd2 Fp2
      go_wp2_with fail
      refine (twoslotlaw05_spoil.one w13.heap.size _ _ w7.heap.size d w7 _ (below_alloc HN.out _) (Nat.le_refl _) (Kd.R_below Rd.out (below_alloc (Below.refl _ _) _)) Ht9.out (heap_alloc_at _ _ (by first | rfl | simp)) HN.out.size (fun z => absurd (Kd.R_lt Rd.out _ z.symm) (Nat.lt_irrefl _))).mono ?_
      rintro en w14 ⟨rfl, -, hb⟩
      replace HN := Lib.hid hb
      clear hb Rd
      go_wp2_with fail
      refine (twoslotref02_SameAll.calls k Ax cx l2 A2 c2 l2 true _ (Kd.C_below Z_Fx.out HN.out) Gx.out (Kd.C_below Z_F2.out HN.out) G2.out Hs0.out).mono ?_
      rintro en w15 ⟨rfl, n_, hw_⟩
      have hb : Below (World.heap w14).size w14 w15 := by rw [hw_]; exact pw_below_drewN (Below.refl _ _) n_
      clear hw_
      have hbn := hb
      replace HN := Lib.hid (below_step HN.out hbn)
      clear hb hbn
      have bw16 := below_alloc (Below.refl w15.heap.size w15) (.cells #[.slice A4 l4.length c4, .slice A5 l5.length c5] 23)
      have q16_0 : (w15.alloc (.cells #[.slice A4 l4.length c4, .slice A5 l5.length c5] 23)).heap[w15.heap.size]? = some (.cells #[.slice A4 l4.length c4, .slice A5 l5.length c5] 23) := heap_alloc_at _ _ (by first | rfl | simp)
      have hL16_0 : Kd.C (Kd.slice 5 (Kd.int .u8)) (w15.alloc (.cells #[.slice A4 l4.length c4, .slice A5 l5.length c5] 23)) (some ⟨w15.heap.size, 0, none⟩) 2 [l4, l5] := lit_rows (ys := [l4, l5]) q16_0 rfl ((RowsC.one (RowC.mk (Kd.C_below (Kd.C_below Z_F4.out HN.out) bw16) G4.out)).append (RowsC.one (RowC.mk (Kd.C_below (Kd.C_below Z_F5.out HN.out) bw16) G5.out))) (by simp)
      have H_hL16_0 := Lib.hid hL16_0
      have H_bw16 := Lib.hid bw16
      clear q16_0 hL16_0 bw16
      go_wp2_with fail
      refine (twoslotref02_SameAll.calls k (some ady0) cy [l4, l5] (some ⟨w15.heap.size, 0, none⟩) 2 [l4, l5] true _ (Kd.C_below (Kd.C_below Z_Fy.out HN.out) H_bw16.out) Gy.out H_hL16_0.out (Nat.le_refl _) Hs1.out).mono ?_
      rintro en w17 ⟨rfl, n_, hw_⟩
      have hb : Below (World.heap (w15.alloc (.cells #[.slice A4 l4.length c4, .slice A5 l5.length c5] 23))).size (w15.alloc (.cells #[.slice A4 l4.length c4, .slice A5 l5.length c5] 23)) w17 := by rw [hw_]; exact pw_below_drewN (Below.refl _ _) n_
      clear hw_
      have hbn := (below_step H_bw16.out hb)
      replace HN := Lib.hid (below_step HN.out hbn)
      clear hb hbn
      clear H_hL16_0
      clear H_bw16
      have q1 : (e1 == e1) = true := beq_self_eq_true e1
      have q2 : (e2 == e2) = true := beq_self_eq_true e2
      go_wp2_with fail
      go_ret
      exact ⟨rfl, below_step HBW.out HN.out⟩
/-- THE ONE PURE STATEMENT of twoslotlaw05_DeltaCells: yours. -/
def twoslotlaw05_DeltaCells.Pure : Prop := ∀ (a0 : Int) (a1 : Int) (l2 : List (List Int)) (a3 : Int) (l4 : List Int) (l5 : List Int), (Lit.int .i64 a0).wf = true → (Lit.int .i64 a1).wf = true → (l2.length ≤ maxLen ∧ l2.length * 24 ≤ 140737488351232 ∧ ∀ y0 ∈ l2, (y0.length ≤ maxLen ∧ y0.length * 1 ≤ 140737488351232 ∧ ∀ y1 ∈ y0, (Lit.int .u8 y1).wf = true)) → (Lit.int .i64 a3).wf = true → (l4.length ≤ maxLen ∧ l4.length * 1 ≤ 140737488351232 ∧ ∀ y0 ∈ l4, (Lit.int .u8 y0).wf = true) → (l5.length ≤ maxLen ∧ l5.length * 1 ≤ 140737488351232 ∧ ∀ y0 ∈ l5, (Lit.int .u8 y0).wf = true) → ∃ k, twoslotlaw05_DeltaCells.ok k a0 a1 l2 a3 l4 l5

end Go.Proofs.Ytmmbojeikppinaa.PE
