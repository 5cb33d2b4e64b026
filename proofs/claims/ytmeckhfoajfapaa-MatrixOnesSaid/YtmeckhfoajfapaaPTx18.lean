-- written by the session's own program (wip/prt.py) over the kit's print: not print.sh's own text
import Derived.Test.YtmeckhfoajfapaaPTx0
namespace Go.Proofs.Ytmeckhfoajfapaa.PT
open Go.RowKit Go.Proofs.YtmeckhfoajfapaaW.PrintWords Go.Proofs.YtmeckhfoajfapaaW.PrintLast Go.Proofs.YtmeckhfoajfapaaW.PrintMore
attribute [local go_sem] max2_int min2_int max_two min_two max_three min_three max_four min_four   -- for this text's walks alone
set_option linter.unusedVariables false
set_option linter.unusedSimpArgs false

/-! ### twoslotlaw03_spoil: function 23 -/
theorem twoslotlaw03_spoil.info : (Try.prog.info? 5).map (fun i => (i.zero, i.size, i.bytes)) = some (some (.int .u8 0), 1, 1) := by kernel_rfl
def twoslotlaw03_spoil.ok (M : List (List Int)) : Prop := M = [] ∨ (M.length ≤ 100 ∧ 0 < M.length ∧ 0 < (rw_ M 0).length ∧ (rw_ M 0).length ≤ 100 ∧ ∀ r ∈ M, r.length = (rw_ M 0).length)
instance twoslotlaw03_spoil.dec1 (M : List (List Int)) : Decidable (twoslotlaw03_spoil.ok M) := by unfold twoslotlaw03_spoil.ok; infer_instance
def twoslotlaw03_spoil.f (M : List (List Int)) : Option Unit := if twoslotlaw03_spoil.ok M then some () else none
set_option maxHeartbeats 16000000 in
set_option maxRecDepth 100000 in
theorem twoslotlaw03_spoil.real (Q : Nat → Prop) (base : Nat) (v : Value) (l0 : List (List Int)) (w0 w : World) (hB : Below w0.heap.size w0 w) (hb0 : w0.heap.size ≤ base) (hS : Kd.S (Kd.slice 5 (Kd.int .u8)) 34 w base Q v l0) (h : twoslotlaw03_spoil.f l0 = some ()) :
    Calls Try.prog 23 #[v] w fun e w' => e = .returned (.tuple #[]) ∧ Kept w w' (fun k => base ≤ k ∧ Q k) ∧ Below w0.heap.size w0 w' := by
  unfold twoslotlaw03_spoil.f at h
  by_cases hok : twoslotlaw03_spoil.ok l0
  case neg => rw [if_neg hok] at h; cases h
  clear h
  have HB := Lib.hid hB
  rcases hok with rfl | ⟨o1, o2, o3, o4, o5⟩
  · obtain ⟨A, c, rfl, -, -⟩ := Kd.S_reads hS
    clear hB hS
    go_enter Try.func23, Try.ntmps23
    go_wp2_with fail
    go_loopg [2] 0 (fun gk s2 wx => s2 = .int .i64 0 ∧ wx = w)
    case atStart => exact ⟨rfl, rfl⟩
    case round =>
      obtain ⟨rfl, rfl⟩ := hrel
      go_wp2_with fail
      first | go_end0 | ((try simp only [Exit.inBlock, Exit.then]); refine bodyPost_ret (results_none rfl _ _ _) rfl ?_)
      exact ⟨rfl, Kept.refl _ _, HB.out⟩
  obtain ⟨g, cap, b, c, rfl, hcap, hM⟩ := Mat.of_SQ hS o5 o2 o3
  generalize (rw_ l0 0).length = m at o3 o4 o5 hM
  have HS := Lib.hid (Sp.start hM)
  have O1 := Lib.hid o1
  have O4 := Lib.hid o4
  have HBASE := Lib.hid (fun q (hq : q < l0.length) => Nat.le_trans hb0 (hM.own hq).1)
  have HQ := Lib.hid (fun q (hq : q < l0.length) => hM.own hq)
  clear hB hS hM o1 o4 o5 hcap
  generalize l0.length = n at *
  go_enter Try.func23, Try.ntmps23
  go_wp2_with fail
  go_loopg [2] n (fun gk s2 wx => ∃ i : Nat, i + gk = n ∧ s2 = .int .i64 i ∧ Aside0 (Sp w wx (fun k => base ≤ k ∧ Q k) g cap n m i b c) ∧ Aside0 (Below w0.heap.size w0 wx))
  case atStart => exact ⟨0, by omega, rfl, ⟨HS.out⟩, ⟨HB.out⟩⟩
  case round =>
    clear HS HB
    obtain ⟨i, hig, rfl, HS, HB⟩ := hrel
    have hle : (i : Int) ≤ (n : Int) := by omega
    cases gk with
    | zero =>
      obtain rfl : i = n := by omega
      go_wp2_with fail
      first | go_end0 | ((try simp only [Exit.inBlock, Exit.then]); refine bodyPost_ret (results_none rfl _ _ _) rfl ?_)
      exact ⟨rfl, HS.out.2.2.2.2.2, HB.out⟩
    | succ d =>
      have hi1 : (i : Int) < (n : Int) := by omega
      go_wp2_with fail
      go_loopg [3] m (fun gk s3 wx => ∃ j : Nat, j + gk = m ∧ s3 = .int .i64 j ∧ Aside0 (Sp w wx (fun k => base ≤ k ∧ Q k) g cap n m i b c) ∧ Aside0 (Below w0.heap.size w0 wx))
      case atStart => exact ⟨0, by omega, rfl, ⟨HS.out⟩, ⟨HB.out⟩⟩
      case round =>
        clear HS HB
        obtain ⟨j, hjg, rfl, HS, HB⟩ := hrel
        have hlj : (j : Int) ≤ (m : Int) := by omega
        have hx1 := HS.out.out (q := i) (by omega)
        cases gk with
        | zero =>
          obtain rfl : j = m := by omega
          obtain ⟨r, hr1, hr2⟩ := HS.out.2.2.2.2.1 i (Nat.le_refl _) (by omega)
          have hown := hr2.R (HBASE.out i (by omega))
          rw [hr1] at hown
          have HO := Lib.hid hown
          have HR1 := Lib.hid hr1
          have HL8 := Lib.hid (lit8 (xs := [1, 2, 3, 4, 5, 6, 7, 8]) (blk_new wr (.cells #[.int .u8 1, .int .u8 2, .int .u8 3, .int .u8 4, .int .u8 5, .int .u8 6, .int .u8 7, .int .u8 8] 5)) rfl (by decide))
          clear hown hr1 hr2
          go_upto_region 8 with ((with_reducible refine gate_builtin (b := .append) (xs := #[.tmp 37, .tmp 38]) rfl ?_); at_builtin; refine Kd.R_append_rows (Kd.int .u8) (w0 := w0) w0.heap.size rfl (.tmp 37) (.tmp 38) 34 5 (.int .u8 0) 1 rfl Try.underlying34 twoslotlaw03_spoil.info rfl (by decide) (by omega) (.slice (some ⟨b i, 0, none⟩) j (c i)) r [1, 2, 3, 4, 5, 6, 7, 8] _ _ _ (fun _ => True) (fun _ => False) rfl rfl (Kd.R_below (Kd.R_mono HO.out (fun _ _ => trivial)) (below_alloc (Below.refl _ _) _)) ?aR (fun _ _ h => h) (fun _ h => h.elim) (fun _ _ => trivial) ?aB ?aS ?aL ?_; (case aR => exact HL8.out); (case aB => exact below_alloc HB.out _); (case aS => exact (below_alloc HB.out _).size); (case aL => have := HR1.out; have := O4.out; simp; omega); intro v1 w1 ho hb hg hat; have HO2 := Lib.hid ho; have HB2 := Lib.hid hb; have HG2 := Lib.hid hg; have HAT := Lib.hid hat; clear ho hb hg hat)
          obtain ⟨g1, cap1, rfl, hg1, hg2, -⟩ := Kd.R_form HO2.out (by simp)
          have hg3 : g1 = b i ∨ wr.heap.size < g1 := by
            rcases HAT.out with h | ⟨b', h, h'⟩
            · left; simpa [Value.ownBlock] using h
            · right
              have e : g1 = b' := by simpa [Value.ownBlock] using h
              rw [e]
              have : (wr.alloc (.cells #[.int .u8 1, .int .u8 2, .int .u8 3, .int .u8 4, .int .u8 5, .int .u8 6, .int .u8 7, .int .u8 8] 5)).heap.size = wr.heap.size + 1 := by simp
              omega
          obtain ⟨hv, hvl⟩ := RowV.of_R HO2.out
          obtain ⟨X, hX⟩ : ∃ X, w1.cell? ⟨g1, 0, none⟩ = some X := ⟨_, hv.cell (by simp [encs])⟩
          have hXf := hv.frozen 0
          have hp8 : (0 : Int) < ((r ++ [1, 2, 3, 4, 5, 6, 7, 8]).length : Int) := by simp; omega
          have HS2 := Lib.hid (HS.out.step (wy := w1.setCell ⟨g1, 0, none⟩ (.int .u8 9)) (by omega) (by have := HG2.out.size; simp at this ⊢; omega) (fun k hk hne => by
            rw [Below.heap_setCell _ ⟨g1, 0, none⟩ _ k (fun z => by have z' : k = g1 := z; rcases hg3 with h | h <;> omega), HG2.out.block k (by simp; omega) (by simpa [Value.ownBlock] using hne)]
            exact Below.heap_alloc _ _ k hk))
          have HB3 := Lib.hid (below_set (g := g1) (j := 0) (v := .int .u8 9) HB2.out hg1)
          clear hx1 hv hvl hg3 HO HL8 HS HB HO2 HB2 HG2 HAT
          go_wp2_with fail
          go_roundg d
          case measure => omega
          case rel => exact ⟨i + 1, by omega, by have := O1.out; rw [show wrap64 ((i : Int) + 1) = ((i + 1 : Nat) : Int) by unfold wrap64; omega], ⟨HS2.out⟩, ⟨HB3.out⟩⟩
        | succ d2 =>
          have hj1 : (j : Int) < (m : Int) := by omega
          obtain ⟨r, hr1, hr2⟩ := HS.out.2.2.2.2.1 i (Nat.le_refl _) (by omega)
          have hx2 : wr.cell? ⟨b i, j, none⟩ = some (.int .u8 (rd r (j : Int))) := by
            rw [hr2.cell (i := j) (by simp [encs]; omega)]
            simp [encs, rd, show j < r.length by omega]
          have hxf := hr2.frozen j
          clear hr1 hr2
          go_wp2_with fail
          go_still_tail 14, (by kernel_rfl)
          change wpList _ _ _ _ _ wr.drew
          have HS2 := Lib.hid ((HS.out.below (below_drew (Below.refl _ _))).store (i := i) (by omega) (j := j) (by omega) (Go.bits .xor .u8 (rd r (j : Int)) 85))
          have HB3 := Lib.hid (below_set (g := b i) (j := j) (v := .int .u8 (Go.bits .xor .u8 (rd r (j : Int)) 85)) (below_drew HB.out) (HBASE.out i (by omega)))
          replace hx2 : wr.drew.cell? ⟨b i, j, none⟩ = some (.int .u8 (rd r (j : Int))) := hx2
          replace hxf : wr.drew.frozen? ⟨b i, j, none⟩ = false := hxf
          clear hx1 HS HB
          go_wp2_with fail
          go_roundg d2
          case measure => omega
          case rel => exact ⟨j + 1, by omega, by have := O4.out; rw [show wrap64 ((j : Int) + 1) = ((j + 1 : Nat) : Int) by unfold wrap64; omega], ⟨HS2.out⟩, ⟨HB3.out⟩⟩

end Go.Proofs.Ytmeckhfoajfapaa.PT
