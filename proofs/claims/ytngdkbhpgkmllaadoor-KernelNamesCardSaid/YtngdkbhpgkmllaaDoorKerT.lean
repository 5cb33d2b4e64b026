/- What some printed functions of the reference of layer 2 come to. No condition. -/
import Derived.Test.YtngdkbhpgkmllaaDoorPNx6
import Derived.Test.YtngdkbhpgkmllaaDoorPNx7
import Derived.Test.YtngdkbhpgkmllaaDoorPNx7
import Derived.Test.YtngdkbhpgkmllaaDoorGfN
import Derived.Test.YtngdkbhpgkmllaaDoorKer
namespace Go.Proofs.YtngdkbhpgkmllaaDoor.Pure
open Go Go.RowKit Go.TwoGf Go.Proofs.YtngdkbhpgkmllaaDoor Go.Proofs.YtngdkbhpgkmllaaDoor.PN Go.Proofs.YtngdkbhpgkmllaaDoorW.PrintWords Go.Proofs.YtngdkbhpgkmllaaDoorW.PrintLast Go.Proofs.YtngdkbhpgkmllaaDoorW.PrintMore
theorem rmulI_f {k : Nat} (hk : 17 ≤ k) {c x : Int} (hc : 0 ≤ c ∧ c < 256) (hx : 0 ≤ x ∧ x < 256) : twoslotref01_Mul.f k c x = some (mI c x) := by
  obtain ⟨a, ha, rfl⟩ := nat_of hc
  obtain ⟨b, hb, rfl⟩ := nat_of hx
  exact rmul_f k a b hk ha hb
theorem take_set1 {z : List Int} {i : Nat} (v : Int) (h : i < z.length) : (z.set i v).take (i + 1) = z.take i ++ [v] := by
  rw [List.take_succ_eq_append_getElem (by simpa using h), List.getElem_set_self, List.take_set, List.set_eq_of_length_le (by simp; omega)]
theorem rd_set {t : List Int} {i : Nat} (v : Int) (h : i < t.length) (j : Nat) : rd (t.set i v) j = if j = i then v else rd t j := by
  unfold rd
  simp only [Int.toNat_natCast, List.getD_eq_getElem?_getD, List.getElem?_set]
  by_cases e : j = i
  · subst e; simp [h]
  · rw [if_neg e, if_neg (fun h => e h.symm)]
theorem addv_at {a b : List Int} (c : Int) {i : Nat} (h : i < a.length) (hl : a.length ≤ b.length) : (addv a c b).take (i + 1) = (addv a c b).take i ++ [aI (rd a i) (mI c (rd b i))] := by
  rw [List.take_succ_eq_append_getElem (by rw [addv_len c hl]; exact h)]
  congr 2
  unfold addv
  rw [List.getElem_zipWith, rd_nat h, rd_nat (by omega)]
theorem radd_l1 {a b t : List Int} {c : Int} (hb : isB b) (hl : a.length ≤ b.length) (hs : a.length ≤ 200000) (ht : t.length = 256) (hT : ∀ j : Nat, j < 256 → rd t j = mI c j) :
    ∀ (d k i : Nat) (z : List Int), i + d = a.length → d < k → z.length = a.length → z.take i = (addv a c b).take i → twoslotref02_Add.l1 k a b t z (i : Int) = some (addv a c b)
  | 0, k, i, z, hi, hk, hz, h => by
    obtain ⟨k, rfl⟩ : ∃ m, k = m + 1 := ⟨k - 1, by omega⟩
    obtain rfl : i = a.length := by omega
    simp only [twoslotref02_Add.l1]
    rw [if_neg (by omega)]
    rw [List.take_of_length_le (by omega), List.take_of_length_le (by rw [addv_len c hl]; exact Nat.le_refl _)] at h
    rw [h]
  | d + 1, k, i, z, hi, hk, hz, h => by
    obtain ⟨k, rfl⟩ : ∃ m, k = m + 1 := ⟨k - 1, by omega⟩
    have hlt : i < a.length := by omega
    have hr := isB_rd hb (i : Int)
    have ev : Go.bits .xor .u8 (rd a i) (rd t (rd b i)) = aI (rd a i) (mI c (rd b i)) := by
      have := hT (rd b i).toNat (by omega)
      rw [Int.toNat_of_nonneg hr.1] at this
      rw [this]; rfl
    simp only [twoslotref02_Add.l1]
    rw [if_pos (by omega), if_pos (by omega), if_pos (by omega), if_pos hr.1, if_pos (by omega), if_pos (by omega), wrap_s (by omega) (by omega), ev, Int.toNat_natCast]
    have := radd_l1 hb hl hs ht hT d k (i + 1) (z.set i (aI (rd a i) (mI c (rd b i)))) (by omega) (by omega) (by simpa using hz) (by rw [take_set1 _ (by omega), h, addv_at c hlt hl])
    rw [show ((i + 1 : Nat) : Int) = (i : Int) + 1 by omega] at this
    exact this
theorem radd_l0 {a b : List Int} {c : Int} (hc : 0 ≤ c ∧ c < 256) (hb : isB b) (hl : a.length ≤ b.length) (hs : a.length ≤ 200000) :
    ∀ (d k i : Nat) (t : List Int), i + d = 256 → d + a.length + 30 < k → t.length = 256 → (∀ j : Nat, j < i → rd t j = mI c j) → twoslotref02_Add.l0 k a c b t (i : Int) = some (addv a c b)
  | 0, k, i, t, hi, hk, ht, h => by
    obtain ⟨k, rfl⟩ : ∃ m, k = m + 1 := ⟨k - 1, by omega⟩
    obtain rfl : i = 256 := by omega
    simp only [twoslotref02_Add.l0]
    rw [if_neg (by omega), if_pos (by omega), if_pos (by omega), Int.toNat_natCast]
    exact radd_l1 hb hl hs ht h a.length k 0 _ (by omega) (by omega) (by simp) (by simp)
  | d + 1, k, i, t, hi, hk, ht, h => by
    obtain ⟨k, rfl⟩ : ∃ m, k = m + 1 := ⟨k - 1, by omega⟩
    simp only [twoslotref02_Add.l0]
    rw [if_pos (by omega), Int.emod_eq_of_lt (by omega) (by omega), rmulI_f (by omega) hc ⟨by omega, by omega⟩]
    simp only [Option.bind_some]
    rw [if_pos (by omega), if_pos (by omega), wrap_s (by omega) (by omega), Int.toNat_natCast]
    have := radd_l0 hc hb hl hs d k (i + 1) (t.set i (mI c i)) (by omega) (by omega) (by simpa using ht) (fun j hj => by
      rw [rd_set _ (by omega)]
      by_cases e : j = i
      · rw [if_pos e, e]
      · rw [if_neg e, h j (by omega)])
    rw [show ((i + 1 : Nat) : Int) = (i : Int) + 1 by omega] at this
    exact this
theorem radd_f {k : Nat} {a b : List Int} {c : Int} (hk : a.length + 300 < k) (hc : 0 ≤ c ∧ c < 256) (hb : isB b) (hl : a.length ≤ b.length) (hs : a.length ≤ 200000) : twoslotref02_Add.f k a c b = some (addv a c b) := by
  unfold twoslotref02_Add.f
  rw [if_pos (by omega)]
  exact radd_l0 hc hb hl hs 256 k 0 _ (by omega) (by omega) List.length_replicate (fun j hj => by omega)
theorem same_f {a b : List Int} (h : a = b) : twoslotref02_Same.f a b = some true := by
  subst h
  unfold twoslotref02_Same.f
  simp
theorem dw_nil : ∀ l : List Int, l.dropWhile (· == 0) = [] ↔ ∀ x ∈ l, x = 0
  | [] => by simp
  | x :: l => by
    have ih := dw_nil l
    by_cases e : x = 0
    · subst e
      rw [List.dropWhile_cons_of_pos (by decide), ih]
      simp
    · rw [List.dropWhile_cons_of_neg (by simpa using e)]
      simp [e]
theorem rscale_f {k : Nat} {a : List Int} {c : Int} (hk : 66000 < k) (hc : 0 ≤ c ∧ c < 256) (ha : isB a) : twoslotref02_Scale.f k c a = some (scalev c a) := by
  unfold twoslotref02_Scale.f scalev
  by_cases h1 : (a.length : Int) > 65536
  · rw [if_pos h1, if_neg (by omega)]
  · rw [if_neg h1, if_pos (by omega), if_pos (by omega), if_pos (by omega), Int.toNat_natCast, radd_f (by rw [List.length_replicate]; omega) hc ha (by rw [List.length_replicate]; exact Nat.le_refl _) (by rw [List.length_replicate]; omega)]; rfl
theorem zero_f (l : List Int) : kernel_Zero.f l = some (decide (∀ x ∈ l, x = 0)) := by
  unfold kernel_Zero.f
  congr 1
  rw [Bool.eq_iff_iff, decide_eq_true_iff, decide_eq_true_iff, List.length_eq_zero_iff, dw_nil]
end Go.Proofs.YtngdkbhpgkmllaaDoor.Pure
