/- KernelBytes, in plain Lean: slices are added and multiplied byte by byte, for every input. No condition. -/
import Derived.Test.YtngdkbhpgkmllaaDoorPBx5
import Derived.Test.YtngdkbhpgkmllaaDoorKer
import Derived.Test.YtngdkbhpgkmllaaDoorKerA
namespace Go.Proofs.YtngdkbhpgkmllaaDoor.Pure
open Go Go.RowKit Go.TwoGf Go.Proofs.YtngdkbhpgkmllaaDoor Go.Proofs.YtngdkbhpgkmllaaDoor.PB Go.Proofs.YtngdkbhpgkmllaaDoorW.PrintWords Go.Proofs.YtngdkbhpgkmllaaDoorW.PrintLast Go.Proofs.YtngdkbhpgkmllaaDoorW.PrintMore
theorem addv_rd {a b : List Int} {c : Int} {i : Nat} (h : i < a.length) (hl : a.length ≤ b.length) : rd (addv a c b) i = aI (rd a i) (mI c (rd b i)) := by
  rw [rd_nat (by rw [addv_len c hl]; exact h), rd_nat h, rd_nat (by omega)]
  unfold addv
  rw [List.getElem_zipWith]
theorem addv_back : ∀ {a b : List Int}, isB a → isB b → a.length = b.length → addv (addv a 1 b) 1 b = a
  | [], [], _, _, _ => rfl
  | x :: a, y :: b, ha, hb, h => by
    have := addv_back (isB_cons ha).2 (isB_cons hb).2 (by simpa using h)
    simp only [addv, List.zipWith_cons_cons] at this ⊢
    have hx := (isB_cons ha).1
    have hy := (isB_cons hb).1
    rw [this, mI_one hy, aI_assoc hx hy hy, aI_self hy, aI_comm hx (by decide), aI_zero hx]
  | [], _ :: _, _, _, h => by simp at h
  | _ :: _, [], _, _, h => by simp at h
theorem aI_eq {x y : Int} (hx : 0 ≤ x ∧ x < 256) (hy : 0 ≤ y ∧ y < 256) (h : aI x y = 0) : x = y := by
  have e : aI (aI x y) y = x := by rw [aI_assoc hx hy hy, aI_self hy, aI_comm hx (by decide), aI_zero hx]
  rw [h, aI_zero hy] at e
  exact e.symm
theorem addv_zero : ∀ {a b : List Int}, isB a → isB b → a.length = b.length → ((∀ x ∈ addv a 1 b, x = 0) ↔ a = b)
  | [], [], _, _, _ => by simp [addv]
  | x :: a, y :: b, ha, hb, h => by
    have ih := addv_zero (isB_cons ha).2 (isB_cons hb).2 (by simpa using h)
    have hx := (isB_cons ha).1
    have hy := (isB_cons hb).1
    simp only [addv, List.zipWith_cons_cons, List.mem_cons, forall_eq_or_imp] at ih ⊢
    rw [mI_one hy, ih, List.cons.injEq]
    constructor
    · exact fun ⟨h1, h2⟩ => ⟨aI_eq hx hy h1, h2⟩
    · rintro ⟨rfl, h2⟩; exact ⟨aI_self hx, h2⟩
  | [], _ :: _, _, _, h => by simp at h
  | _ :: _, [], _, _, h => by simp at h
theorem take_flag {a b : List Int} {i : Nat} (h1 : i < a.length) (h2 : i < b.length) : decide (a.take (i + 1) = b.take (i + 1)) = if decide (a.take i = b.take i) = true then (rd a i == rd b i) else false := by
  rw [List.take_succ_eq_append_getElem h1, List.take_succ_eq_append_getElem h2, rd_nat h1, rd_nat h2, Bool.eq_iff_iff]
  have hl : (a.take i).length = (b.take i).length := by simp; omega
  by_cases e : a.take i = b.take i
  · rw [if_pos (decide_eq_true e), e]
    simp only [decide_eq_true_eq, beq_iff_eq, List.append_cancel_left_eq, List.cons.injEq, and_true]
  · rw [if_neg (by simp [e])]
    simp only [decide_eq_true_eq, Bool.false_eq_true, iff_false]
    intro h
    exact e (List.append_inj_left h hl)
theorem dw_nil : ∀ l : List Int, l.dropWhile (· == 0) = [] ↔ ∀ x ∈ l, x = 0
  | [] => by simp
  | x :: l => by
    have ih := dw_nil l
    by_cases e : x = 0
    · subst e
      rw [List.dropWhile_cons_of_pos (by decide), ih]
      simp
    · rw [List.dropWhile_cons_of_neg (by simpa using e)]
      simp [e]
theorem bytes_l0 {a b : List Int} {c : Int} (ha : isB a) (hb : isB b) (hc : 0 ≤ c ∧ c < 256) (hab : a.length = b.length) (hs : a.length ≤ 5000) :
    ∀ (n k i : Nat), i + n = a.length → 2 * n + 100 < k → twoslotlaw02_KernelBytes.l0 k a b c (addv a c b) (addv a 1 b) (addv (List.replicate b.length 0) c b) (decide (a.take i = b.take i)) (i : Int) = some true
  | 0, k, i, hi, hk => by
    obtain ⟨k, rfl⟩ : ∃ m, k = m + 1 := ⟨k - 1, by omega⟩
    obtain rfl : i = a.length := by omega
    simp only [twoslotlaw02_KernelBytes.l0]
    have hp : plusv (addv a 1 b) 1 b = (a, 0) := by
      unfold plusv
      have := addv_len (a := a) (b := b) 1 (by omega)
      rw [if_pos ⟨by omega, by omega⟩, addv_back ha hb hab]
    rw [if_neg (show ¬ (a.length : Int) < (a.length : Int) by omega), xor_f (by omega) hb, hp]
    simp only [Option.bind_some, if_true]
    unfold kernel_Zero.f
    simp only [Option.bind_some]
    congr 1
    rw [beq_iff_eq, Bool.eq_iff_iff, decide_eq_true_iff, decide_eq_true_iff, List.length_eq_zero_iff, dw_nil, List.take_of_length_le (Nat.le_refl _), List.take_of_length_le (by omega), ← addv_zero ha hb hab]
  | n + 1, k, i, hi, hk => by
    obtain ⟨k, rfl⟩ : ∃ m, k = m + 2 := ⟨k - 2, by omega⟩
    have hlt : i < a.length := by omega
    have hlt2 : i < b.length := by omega
    have l1 := addv_len (a := a) (b := b) c (by omega)
    have l2 := addv_len (a := a) (b := b) 1 (by omega)
    have l3 := addv_len (a := List.replicate b.length 0) (b := b) c (by simp)
    rw [List.length_replicate] at l3
    have key : ∀ f : Bool, f = decide (a.take (i + 1) = b.take (i + 1)) → twoslotlaw02_KernelBytes.j3 (k + 1) a b c (addv a c b) (addv a 1 b) (addv (List.replicate b.length 0) c b) f (i : Int) = some true := by
      intro f hf
      have e1 : rd (addv a 1 b) i = aI (rd a i) (rd b i) := by rw [addv_rd hlt (by omega), mI_one (isB_rd hb _)]
      have e2 : rd (addv (List.replicate b.length 0) c b) i = mI c (rd b i) := by
        rw [addv_rd (by simpa using hlt2) (by simp)]
        have : rd (List.replicate b.length 0) i = 0 := by simp [rd, hlt2]
        rw [this, aI_zero (mI_rng _ _)]
      have e3 : rd (addv a c b) i = aI (rd a i) (mI c (rd b i)) := addv_rd hlt (by omega)
      simp only [twoslotlaw02_KernelBytes.j3]
      rw [if_pos (show (0 : Int) ≤ (i : Int) by omega), if_pos (by omega), if_pos (show (i : Int) < (a.length : Int) by omega), if_pos (show (i : Int) < (b.length : Int) by omega)]
      simp only [gf_Add.f, Option.bind_some]
      rw [if_pos (show rd (addv a 1 b) i = Go.bits .xor .u8 (rd a i) (rd b i) from e1), if_pos (by omega), mulI_f (by omega) hc (isB_rd hb _)]
      simp only [Option.bind_some]
      rw [if_pos e2, if_pos (by omega), if_pos (show rd (addv a c b) i = Go.bits .xor .u8 (rd a i) (mI c (rd b i)) from e3), wrap_s (by omega) (by omega), hf, show (i : Int) + 1 = ((i + 1 : Nat) : Int) by omega]
      exact bytes_l0 ha hb hc hab hs n k (i + 1) (by omega) (by omega)
    simp only [twoslotlaw02_KernelBytes.l0]
    rw [if_pos (show (i : Int) < (a.length : Int) by omega)]
    by_cases e : decide (a.take i = b.take i) = true
    · rw [if_pos e, if_pos (by omega), if_pos (by omega)]
      exact key _ (by rw [take_flag hlt hlt2, if_pos e])
    · rw [if_neg e]
      exact key _ (by rw [take_flag hlt hlt2, if_neg e])
theorem KernelBytes : twoslotlaw02_KernelBytes.Pure := by
  intro a b c _ _ ha0 _ _ hb0 hc0
  have ha := isB_wf ha0
  have hb := isB_wf hb0
  have hc : 0 ≤ c ∧ c < 256 := isB_wf (l := [c]) (fun x hx => by rw [List.mem_singleton.1 hx]; exact hc0) c (by simp)
  obtain ⟨k, hk⟩ : ∃ k, 20000 ≤ k := ⟨20000, Nat.le_refl _⟩
  refine ⟨k, ?_⟩
  unfold twoslotlaw02_KernelBytes.f
  rw [alive_f (by omega)]
  simp only [Option.bind_some, if_true]
  obtain ⟨k, rfl⟩ : ∃ m, k = m + 2 := ⟨k - 2, by omega⟩
  by_cases h1 : (a.length : Int) > 5000
  · rw [if_pos h1]; simp [twoslotlaw02_KernelBytes.j0]
  · rw [if_neg h1]
    by_cases h2 : (b.length : Int) > 5000
    · rw [decide_eq_true h2]; simp [twoslotlaw02_KernelBytes.j0]
    · rw [decide_eq_false h2]
      simp only [twoslotlaw02_KernelBytes.j0]
      rw [if_neg (by decide), plus_f (by omega) hc hb]
      simp only [Option.bind_some]
      by_cases hab : a.length = b.length
      · rw [if_pos (show (a.length : Int) = (b.length : Int) by omega), xor_f (by omega) hb, scale_f (by omega) hc hb]
        simp only [Option.bind_some]
        have p1 : plusv a c b = (addv a c b, 0) := by unfold plusv; rw [if_pos ⟨by omega, by omega⟩]
        have p2 : plusv a 1 b = (addv a 1 b, 0) := by unfold plusv; rw [if_pos ⟨by omega, by omega⟩]
        have p3 : scalev c b = (addv (List.replicate b.length 0) c b, 0) := by unfold scalev; rw [if_pos (by omega)]
        have l1 := addv_len (a := a) (b := b) c (by omega)
        have l2 := addv_len (a := a) (b := b) 1 (by omega)
        have l3 := addv_len (a := List.replicate b.length 0) (b := b) c (by simp)
        rw [List.length_replicate] at l3
        rw [p1, p2, p3]
        simp only [if_true]
        rw [if_pos (by omega), if_pos (by omega)]
        have : (((addv (List.replicate b.length 0) c b).length : Int) != (a.length : Int)) = false := bne_eq_false_iff_eq.mpr (by omega)
        rw [this]
        simp only [twoslotlaw02_KernelBytes.j1]
        rw [if_neg (by decide)]
        exact bytes_l0 ha hb hc hab (by omega) a.length k 0 (by omega) (by omega)
      · have p1 : plusv a c b = ([], 20) := by unfold plusv; rw [if_neg (by omega)]
        rw [if_neg (by omega), p1]
        rfl
end Go.Proofs.YtngdkbhpgkmllaaDoor.Pure
