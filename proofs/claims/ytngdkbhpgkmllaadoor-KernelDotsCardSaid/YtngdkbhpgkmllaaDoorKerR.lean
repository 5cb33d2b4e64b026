/- What the printed functions of the reference of layer 2 come to. No condition. -/
import Derived.Test.YtngdkbhpgkmllaaDoorPAx8
import Derived.Test.YtngdkbhpgkmllaaDoorPAx9
import Derived.Test.YtngdkbhpgkmllaaDoorPAx4
import Derived.Test.YtngdkbhpgkmllaaDoorPAx5
import Derived.Test.YtngdkbhpgkmllaaDoorPAx5
import Derived.Test.YtngdkbhpgkmllaaDoorGfN
import Derived.Test.YtngdkbhpgkmllaaDoorKer
namespace Go.Proofs.YtngdkbhpgkmllaaDoor.Pure
open Go Go.RowKit Go.TwoGf Go.Proofs.YtngdkbhpgkmllaaDoor Go.Proofs.YtngdkbhpgkmllaaDoor.PA Go.Proofs.YtngdkbhpgkmllaaDoorW.PrintWords Go.Proofs.YtngdkbhpgkmllaaDoorW.PrintLast Go.Proofs.YtngdkbhpgkmllaaDoorW.PrintMore
theorem rmulI_f {k : Nat} (hk : 17 ≤ k) {c x : Int} (hc : 0 ≤ c ∧ c < 256) (hx : 0 ≤ x ∧ x < 256) : twoslotref01_Mul.f k c x = some (mI c x) := by
  obtain ⟨a, ha, rfl⟩ := nat_of hc
  obtain ⟨b, hb, rfl⟩ := nat_of hx
  exact rmul_f k a b hk ha hb
theorem take_set1 {z : List Int} {i : Nat} (v : Int) (h : i < z.length) : (z.set i v).take (i + 1) = z.take i ++ [v] := by
  rw [List.take_succ_eq_append_getElem (by simpa using h), List.getElem_set_self, List.take_set, List.set_eq_of_length_le (by simp; omega)]
theorem rd_set {t : List Int} {i : Nat} (v : Int) (h : i < t.length) (j : Nat) : rd (t.set i v) j = if j = i then v else rd t j := by
  unfold rd
  simp only [Int.toNat_natCast, List.getD_eq_getElem?_getD, List.getElem?_set]
  by_cases e : j = i
  · subst e; simp [h]
  · rw [if_neg e, if_neg (fun h => e h.symm)]
theorem addv_at {a b : List Int} (c : Int) {i : Nat} (h : i < a.length) (hl : a.length ≤ b.length) : (addv a c b).take (i + 1) = (addv a c b).take i ++ [aI (rd a i) (mI c (rd b i))] := by
  rw [List.take_succ_eq_append_getElem (by rw [addv_len c hl]; exact h)]
  congr 2
  unfold addv
  rw [List.getElem_zipWith, rd_nat h, rd_nat (by omega)]
theorem radd_l1 {a b t : List Int} {c : Int} (hb : isB b) (hl : a.length ≤ b.length) (hs : a.length ≤ 200000) (ht : t.length = 256) (hT : ∀ j : Nat, j < 256 → rd t j = mI c j) :
    ∀ (d k i : Nat) (z : List Int), i + d = a.length → d < k → z.length = a.length → z.take i = (addv a c b).take i → twoslotref02_Add.l1 k a b t z (i : Int) = some (addv a c b)
  | 0, k, i, z, hi, hk, hz, h => by
    obtain ⟨k, rfl⟩ : ∃ m, k = m + 1 := ⟨k - 1, by omega⟩
    obtain rfl : i = a.length := by omega
    simp only [twoslotref02_Add.l1]
    rw [if_neg (by omega)]
    rw [List.take_of_length_le (by omega), List.take_of_length_le (by rw [addv_len c hl]; exact Nat.le_refl _)] at h
    rw [h]
  | d + 1, k, i, z, hi, hk, hz, h => by
    obtain ⟨k, rfl⟩ : ∃ m, k = m + 1 := ⟨k - 1, by omega⟩
    have hlt : i < a.length := by omega
    have hr := isB_rd hb (i : Int)
    have ev : Go.bits .xor .u8 (rd a i) (rd t (rd b i)) = aI (rd a i) (mI c (rd b i)) := by
      have := hT (rd b i).toNat (by omega)
      rw [Int.toNat_of_nonneg hr.1] at this
      rw [this]; rfl
    simp only [twoslotref02_Add.l1]
    rw [if_pos (by omega), if_pos (by omega), if_pos (by omega), if_pos hr.1, if_pos (by omega), if_pos (by omega), wrap_s (by omega) (by omega), ev, Int.toNat_natCast]
    have := radd_l1 hb hl hs ht hT d k (i + 1) (z.set i (aI (rd a i) (mI c (rd b i)))) (by omega) (by omega) (by simpa using hz) (by rw [take_set1 _ (by omega), h, addv_at c hlt hl])
    rw [show ((i + 1 : Nat) : Int) = (i : Int) + 1 by omega] at this
    exact this
theorem radd_l0 {a b : List Int} {c : Int} (hc : 0 ≤ c ∧ c < 256) (hb : isB b) (hl : a.length ≤ b.length) (hs : a.length ≤ 200000) :
    ∀ (d k i : Nat) (t : List Int), i + d = 256 → d + a.length + 30 < k → t.length = 256 → (∀ j : Nat, j < i → rd t j = mI c j) → twoslotref02_Add.l0 k a c b t (i : Int) = some (addv a c b)
  | 0, k, i, t, hi, hk, ht, h => by
    obtain ⟨k, rfl⟩ : ∃ m, k = m + 1 := ⟨k - 1, by omega⟩
    obtain rfl : i = 256 := by omega
    simp only [twoslotref02_Add.l0]
    rw [if_neg (by omega), if_pos (by omega), if_pos (by omega), Int.toNat_natCast]
    exact radd_l1 hb hl hs ht h a.length k 0 _ (by omega) (by omega) (by simp) (by simp)
  | d + 1, k, i, t, hi, hk, ht, h => by
    obtain ⟨k, rfl⟩ : ∃ m, k = m + 1 := ⟨k - 1, by omega⟩
    simp only [twoslotref02_Add.l0]
    rw [if_pos (by omega), Int.emod_eq_of_lt (by omega) (by omega), rmulI_f (by omega) hc ⟨by omega, by omega⟩]
    simp only [Option.bind_some]
    rw [if_pos (by omega), if_pos (by omega), wrap_s (by omega) (by omega), Int.toNat_natCast]
    have := radd_l0 hc hb hl hs d k (i + 1) (t.set i (mI c i)) (by omega) (by omega) (by simpa using ht) (fun j hj => by
      rw [rd_set _ (by omega)]
      by_cases e : j = i
      · rw [if_pos e, e]
      · rw [if_neg e, h j (by omega)])
    rw [show ((i + 1 : Nat) : Int) = (i : Int) + 1 by omega] at this
    exact this
theorem radd_f {k : Nat} {a b : List Int} {c : Int} (hk : a.length + 300 < k) (hc : 0 ≤ c ∧ c < 256) (hb : isB b) (hl : a.length ≤ b.length) (hs : a.length ≤ 200000) : twoslotref02_Add.f k a c b = some (addv a c b) := by
  unfold twoslotref02_Add.f
  rw [if_pos (by omega)]
  exact radd_l0 hc hb hl hs 256 k 0 _ (by omega) (by omega) List.length_replicate (fun j hj => by omega)
theorem alk_at {l : List (List Int)} {i : Nat} (h : i < l.length) (ha : alk l = true) : l[i].length ≤ 65536 ∧ l[i].length = (rd_L1 l 0).length := by
  have := List.all_eq_true.1 ha l[i] (List.getElem_mem _)
  simpa using this
theorem rdot_l1 {c : List Int} {l : List (List Int)} (hc : isB c) (hl : ∀ b ∈ l, isB b) (hcl : l.length = c.length) (hs : l.length ≤ 16) {n : Nat} (hn : ∀ b ∈ l, b.length = n) (hns : n ≤ 65536) :
    ∀ (d k i : Nat) (acc : List Int), i + d = l.length → d + n + 310 < k → acc.length = n → twoslotref02_Dot.l1 k c l acc (i : Int) = some (dacc acc (c.drop i) (l.drop i), 0)
  | 0, k, i, acc, hi, hk, _ => by
    obtain ⟨k, rfl⟩ : ∃ m, k = m + 1 := ⟨k - 1, by omega⟩
    obtain rfl : i = l.length := by omega
    simp [twoslotref02_Dot.l1, dacc]
  | d + 1, k, i, acc, hi, hk, ha => by
    obtain ⟨k, rfl⟩ : ∃ m, k = m + 1 := ⟨k - 1, by omega⟩
    have hlt : i < l.length := by omega
    have hlt2 : i < c.length := by omega
    have hm : l[i] ∈ l := List.getElem_mem _
    simp only [twoslotref02_Dot.l1]
    rw [if_pos (by omega), if_pos (by omega), if_pos (by omega), rd_L1_nat hlt, radd_f (by omega) (isB_rd hc _) (hl _ hm) (by rw [hn _ hm, ha]; exact Nat.le_refl _) (by omega)]
    simp only [Option.bind_some]
    rw [wrap_s (by omega) (by omega)]
    have := rdot_l1 hc hl hcl hs hn hns d k (i + 1) (addv acc (rd c i) l[i]) (by omega) (by omega) (by rw [addv_len _ (by rw [hn _ hm, ha]; exact Nat.le_refl _), ha])
    rw [show ((i + 1 : Nat) : Int) = (i : Int) + 1 by omega] at this
    rw [this, List.drop_eq_getElem_cons hlt, List.drop_eq_getElem_cons hlt2, dacc, rd_nat hlt2]
theorem rdot_l0 {c : List Int} {l : List (List Int)} (hc : isB c) (hl : ∀ b ∈ l, isB b) (hcl : l.length = c.length) (hs : l.length ≤ 16) :
    ∀ (d k i : Nat), i + d = l.length → d + 66000 < k → (∀ j (h : j < l.length), j < i → l[j].length ≤ 65536 ∧ l[j].length = (rd_L1 l 0).length) →
      twoslotref02_Dot.l0 k c l (i : Int) = some (if alk l = true then (if l.length = 0 then ([], 0) else (dacc (List.replicate (rd_L1 l 0).length 0) c l, 0)) else ([], 20))
  | 0, k, i, hi, hk, h => by
    obtain ⟨k, rfl⟩ : ∃ m, k = m + 1 := ⟨k - 1, by omega⟩
    obtain rfl : i = l.length := by omega
    have ha : alk l = true := List.all_eq_true.2 fun b hb => by
      obtain ⟨j, hj, rfl⟩ := List.getElem_of_mem hb
      have := h j hj hj
      rw [decide_eq_true this.1, decide_eq_true this.2]; rfl
    simp only [twoslotref02_Dot.l0]
    rw [if_neg (by omega), if_pos ha]
    by_cases h4 : l.length = 0
    · rw [if_pos (show (l.length : Int) = 0 by omega), if_pos h4]
    · have h0 : 0 < l.length := by omega
      have e : rd_L1 l 0 = l[0] := rd_L1_nat (i := 0) h0
      have h5 := (h 0 h0 h0).1
      have h6 : (rd_L1 l 0).length ≤ 65536 := by rw [e]; exact h5
      rw [if_neg (show ¬ (l.length : Int) = 0 by omega), if_neg h4, if_pos (show (0 : Int) < (l.length : Int) by omega), if_pos (show (0 : Int) ≤ ((rd_L1 l 0).length : Int) by omega), if_pos (show (((rd_L1 l 0).length : Int)).toNat ≤ 281474976710656 by rw [Int.toNat_natCast]; omega), Int.toNat_natCast]
      exact rdot_l1 hc hl hcl hs (alk_all ha) h6 l.length k 0 _ (by omega) (by omega) (by simp)
  | d + 1, k, i, hi, hk, h => by
    obtain ⟨k, rfl⟩ : ∃ m, k = m + 1 := ⟨k - 1, by omega⟩
    have hlt : i < l.length := by omega
    simp only [twoslotref02_Dot.l0]
    rw [if_pos (show (i : Int) < (l.length : Int) by omega), if_pos (show (0 : Int) ≤ (i : Int) by omega), rd_L1_nat hlt]
    by_cases h1 : l[i].length ≤ 65536
    · rw [if_neg (show ¬ (l[i].length : Int) > 65536 by omega), if_pos (show (0 : Int) < (l.length : Int) by omega)]
      by_cases h2 : l[i].length = (rd_L1 l 0).length
      · rw [if_pos (show (l[i].length : Int) = ((rd_L1 l 0).length : Int) by omega), wrap_s (by omega) (by omega)]
        have := rdot_l0 hc hl hcl hs d k (i + 1) (by omega) (by omega) (fun j hj hji => by
          by_cases e : j = i
          · subst e; exact ⟨h1, h2⟩
          · exact h j hj (by omega))
        rw [show ((i + 1 : Nat) : Int) = (i : Int) + 1 by omega] at this
        exact this
      · rw [if_neg (show ¬ (l[i].length : Int) = ((rd_L1 l 0).length : Int) by omega), if_neg (fun ha => h2 (alk_at hlt ha).2)]
    · rw [if_pos (show (l[i].length : Int) > 65536 by omega), if_neg (fun ha => h1 (alk_at hlt ha).1)]
theorem rdot_f {k : Nat} {c : List Int} {l : List (List Int)} (hk : 67000 < k) (hc : isB c) (hl : ∀ b ∈ l, isB b) : twoslotref02_Dot.f k c l = some (dotv c l) := by
  obtain ⟨k, rfl⟩ : ∃ m, k = m + 1 := ⟨k - 1, by omega⟩
  unfold twoslotref02_Dot.f dotv
  by_cases h1 : c.length ≤ 16
  case neg => rw [if_pos (by omega), if_neg (by omega)]; simp [twoslotref02_Dot.j0]
  rw [if_neg (by omega)]
  by_cases h2 : l.length = c.length
  case neg =>
    rw [if_neg (show ¬ (c.length ≤ 16 ∧ l.length = c.length ∧ alk l = true) by omega)]
    have : ((l.length : Int) != (c.length : Int)) = true := bne_iff_ne.mpr (by omega)
    rw [this]; simp [twoslotref02_Dot.j0]
  have : ((l.length : Int) != (c.length : Int)) = false := bne_eq_false_iff_eq.mpr (by omega)
  rw [this]
  simp only [twoslotref02_Dot.j0]
  rw [if_neg (show ¬ false = true by decide)]
  have := rdot_l0 hc hl h2 (by omega) l.length k 0 (by omega) (by omega) (fun j _ hj => by omega)
  rw [show ((0 : Nat) : Int) = 0 from rfl] at this
  rw [this]
  cases h3 : alk l with
  | false => rw [if_neg (by decide), if_neg (by simp)]
  | true => rw [if_pos rfl, if_pos (show c.length ≤ 16 ∧ l.length = c.length ∧ true = true from ⟨h1, h2, rfl⟩)]
theorem same_f {a b : List Int} (h : a = b) : twoslotref02_Same.f a b = some true := by
  subst h
  unfold twoslotref02_Same.f
  simp
theorem sameAll_l0 (l : List (List Int)) (hs : l.length ≤ 100000) : ∀ (d k i : Nat), i + d = l.length → d < k → twoslotref02_SameAll.l0 k l l (i : Int) = some true
  | 0, k, i, hi, hk => by
    obtain ⟨k, rfl⟩ : ∃ m, k = m + 1 := ⟨k - 1, by omega⟩
    simp only [twoslotref02_SameAll.l0]
    rw [if_neg (by omega)]
  | d + 1, k, i, hi, hk => by
    obtain ⟨k, rfl⟩ : ∃ m, k = m + 1 := ⟨k - 1, by omega⟩
    simp only [twoslotref02_SameAll.l0]
    rw [if_pos (show (i : Int) < (l.length : Int) by omega), if_pos (show (0 : Int) ≤ (i : Int) by omega), if_pos (show (i : Int) < (l.length : Int) by omega)]
    simp only [if_true]
    rw [wrap_s (by omega) (by omega)]
    have := sameAll_l0 l hs d k (i + 1) (by omega) (by omega)
    rw [show ((i + 1 : Nat) : Int) = (i : Int) + 1 by omega] at this
    exact this
theorem sameAll_f {k : Nat} {l : List (List Int)} (hs : l.length ≤ 100000) (hk : l.length < k) : twoslotref02_SameAll.f k l l = some true := by
  unfold twoslotref02_SameAll.f
  rw [if_pos rfl]
  exact sameAll_l0 l hs l.length k 0 (by omega) hk
theorem twin_l0 (l : List (List Int)) (hs : l.length ≤ 100000) (hb : ∀ b ∈ l, b.length ≤ 140737488351232) : ∀ (d k i : Nat), i + d = l.length → d < k → twoslotref02_Twin.l0 k l (l.take i) (i : Int) = some l
  | 0, k, i, hi, hk => by
    obtain ⟨k, rfl⟩ : ∃ m, k = m + 1 := ⟨k - 1, by omega⟩
    obtain rfl : i = l.length := by omega
    simp [twoslotref02_Twin.l0]
  | d + 1, k, i, hi, hk => by
    obtain ⟨k, rfl⟩ : ∃ m, k = m + 1 := ⟨k - 1, by omega⟩
    have hlt : i < l.length := by omega
    have := hb l[i] (List.getElem_mem _)
    simp only [twoslotref02_Twin.l0]
    rw [if_pos (by omega), if_pos (by omega), rd_L1_nat hlt, if_pos (by simp; omega), if_pos (by simp; omega), wrap_s (by omega) (by omega), List.nil_append]
    have := twin_l0 l hs hb d k (i + 1) (by omega) (by omega)
    rw [show ((i + 1 : Nat) : Int) = (i : Int) + 1 by omega, List.take_succ_eq_append_getElem hlt] at this
    exact this
theorem twin_f {k : Nat} {l : List (List Int)} (hs : l.length ≤ 100000) (hb : ∀ b ∈ l, b.length ≤ 140737488351232) (hk : l.length < k) : twoslotref02_Twin.f k l = some l := by
  have := twin_l0 l hs hb l.length k 0 (by omega) hk
  exact this
end Go.Proofs.YtngdkbhpgkmllaaDoor.Pure
