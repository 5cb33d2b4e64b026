/- What codec.Encode and the counting of cells tell, for every input. No condition. -/
import Derived.Test.YtmmbojeikppinaaPDx11
import Derived.Test.YtmmbojeikppinaaPDx6
import Derived.Test.YtmmbojeikppinaaDAlk
namespace Go.Proofs.Ytmmbojeikppinaa.Pure
open Go Go.RowKit Go.TwoGf Go.Proofs.Ytmmbojeikppinaa Go.Proofs.Ytmmbojeikppinaa.PD Go.Proofs.YtmmbojeikppinaaW.PrintWords Go.Proofs.YtmmbojeikppinaaW.PrintLast Go.Proofs.YtmmbojeikppinaaW.PrintMore
set_option linter.unusedVariables false
/-- numbers of the rows that are not empty -/
def posI : List (List Int) → Nat → List Int
  | [], _ => []
  | x :: xs, i => if x.length = 0 then posI xs (i + 1) else (i : Int) :: posI xs (i + 1)
def like (m : Nat) (l : List (List Int)) : Prop := ∀ x ∈ l, x.length = 0 ∨ x.length = m
instance likeDec (m : Nat) (l : List (List Int)) : Decidable (like m l) := by unfold like; infer_instance
def thv : List (List Int) → Nat → List Int × Bool
  | [], _ => ([], true)
  | x :: xs, i => if x.length = 0 then thv xs (i + 1) else if x.length > 65536 then ([], false) else if like x.length xs then ((i : Int) :: posI xs (i + 1), true) else ([], false)
theorem there_a (l : List (List Int)) (hl : l.length ≤ 100000) {a : Int} (ha : 0 ≤ a ∧ a < l.length) {m : Nat} (hm : (rd_L1 l a).length = m) (h1 : 1 ≤ m) (h2 : m ≤ 65536) :
    ∀ (d K i : Nat) (t : List Int), i + d = l.length → d < K → t.length + 1 ≤ i → codec_there.l0 K l (a :: t) l (l.length : Int) (i : Int) = some (if like m (l.drop i) then (a :: t ++ posI (l.drop i) i, true) else ([], false))
  | 0, K, i, t, hi, hK, ht => by
    obtain ⟨K, rfl⟩ : ∃ m, K = m + 1 := ⟨K - 1, by omega⟩
    obtain rfl : i = l.length := by omega
    simp only [codec_there.l0]
    rw [if_neg (by omega), List.drop_length, if_pos (show like m [] from fun x hx => by cases hx)]
    simp [posI]
  | d + 1, K, i, t, hi, hK, ht => by
    obtain ⟨K, rfl⟩ : ∃ m, K = m + 1 := ⟨K - 1, by omega⟩
    have hlt : i < l.length := by omega
    simp only [codec_there.l0]
    rw [if_pos (by omega), if_pos (by omega), if_pos (by omega), rd_L1_nat hlt, wrap_s (by omega) (by omega), List.drop_eq_getElem_cons hlt]
    rw [show (i : Int) + 1 = ((i + 1 : Nat) : Int) by omega]
    by_cases h0 : l[i].length = 0
    · rw [if_pos (by omega), there_a l hl ha hm h1 h2 d K (i + 1) t (by omega) (by omega) (by omega), posI, if_pos h0]
      by_cases h3 : like m (l.drop (i + 1))
      · rw [if_pos h3, if_pos (show like m (l[i] :: l.drop (i + 1)) from fun x hx => (List.mem_cons.1 hx).elim (fun e => .inl (by rw [e]; exact h0)) (h3 x))]
      · rw [if_neg h3, if_neg (fun z : like m (l[i] :: l.drop (i + 1)) => h3 fun x hx => z x (List.mem_cons_of_mem _ hx))]
    · rw [if_neg (by omega), if_pos (by simp only [List.length_cons]; omega), posI, if_neg h0]
      simp only [Option.bind_some]
      have e0 : rd (a :: t ++ [(i : Int)]) 0 = a := rfl
      rw [e0, hm]
      by_cases h3 : l[i].length = m
      · rw [if_neg (by omega), if_pos (by simp only [List.length_cons, List.cons_append]; omega), if_pos ha.1, if_pos ha.2, if_pos (by omega)]
        have := there_a l hl ha hm h1 h2 d K (i + 1) (t ++ [(i : Int)]) (by omega) (by omega) (by simp; omega)
        rw [List.cons_append, this]
        by_cases h4 : like m (l.drop (i + 1))
        · rw [if_pos h4, if_pos (show like m (l[i] :: l.drop (i + 1)) from fun x hx => (List.mem_cons.1 hx).elim (fun e => .inr (by rw [e]; exact h3)) (h4 x))]
          simp
        · rw [if_neg h4, if_neg (fun z : like m (l[i] :: l.drop (i + 1)) => h4 fun x hx => z x (List.mem_cons_of_mem _ hx))]
      · have h5 : ¬ like m (l[i] :: l.drop (i + 1)) := fun z => (z l[i] List.mem_cons_self).elim h0 h3
        rw [if_neg h5]
        by_cases h6 : (l[i].length : Int) > 65536
        · rw [if_pos h6]
        · rw [if_neg h6, if_pos (by simp only [List.length_cons, List.cons_append]; omega), if_pos ha.1, if_pos ha.2, if_neg (by omega)]
theorem there_b (l : List (List Int)) (hl : l.length ≤ 100000) :
    ∀ (d K i : Nat), i + d = l.length → d < K → codec_there.l0 K l [] l (l.length : Int) (i : Int) = some (thv (l.drop i) i)
  | 0, K, i, hi, hK => by
    obtain ⟨K, rfl⟩ : ∃ m, K = m + 1 := ⟨K - 1, by omega⟩
    obtain rfl : i = l.length := by omega
    simp only [codec_there.l0]
    rw [if_neg (by omega), List.drop_length]; rfl
  | d + 1, K, i, hi, hK => by
    obtain ⟨K, rfl⟩ : ∃ m, K = m + 1 := ⟨K - 1, by omega⟩
    have hlt : i < l.length := by omega
    simp only [codec_there.l0]
    rw [if_pos (by omega), if_pos (by omega), if_pos (by omega), rd_L1_nat hlt, wrap_s (by omega) (by omega), List.drop_eq_getElem_cons hlt, thv]
    rw [show (i : Int) + 1 = ((i + 1 : Nat) : Int) by omega]
    by_cases h0 : l[i].length = 0
    · rw [if_pos (by omega), if_pos h0, there_b l hl d K (i + 1) (by omega) (by omega)]
    · rw [if_neg (by omega), if_neg h0, if_pos (by simp)]
      simp only [Option.bind_some]
      have e0 : rd ([] ++ [(i : Int)]) 0 = (i : Int) := rfl
      rw [e0, rd_L1_nat hlt]
      by_cases h3 : l[i].length > 65536
      · rw [if_pos (by omega), if_pos h3]
      · rw [if_neg (by omega), if_neg h3, if_pos (by simp), if_pos (by omega), if_pos (by omega), if_pos rfl]
        have := there_a l hl (a := (i : Int)) ⟨by omega, by omega⟩ (m := l[i].length) (by rw [rd_L1_nat hlt]) (by omega) (by omega) d K (i + 1) [] (by omega) (by omega) (by simp)
        rw [List.nil_append, this]
        rfl
theorem there_f {K : Nat} {l : List (List Int)} {n : Int} (hK : 200 ≤ K) (hn : n ≤ 100) : codec_there.f K l n = some (if (l.length : Int) = n then thv l 0 else ([], false)) := by
  unfold codec_there.f
  by_cases h : (l.length : Int) = n
  · rw [if_pos h, if_pos h]
    exact there_b l (by omega) l.length K 0 (by omega) (by omega)
  · rw [if_neg h, if_neg h]
theorem posI_le : ∀ (l : List (List Int)) (i : Nat), (posI l i).length ≤ l.length
  | [], _ => Nat.le_refl _
  | x :: xs, i => by
    have := posI_le xs (i + 1)
    unfold posI
    split
    · simp; omega
    · simp; omega
theorem thv_le : ∀ (l : List (List Int)) (i : Nat), (thv l i).1.length ≤ l.length
  | [], _ => Nat.le_refl _
  | x :: xs, i => by
    have := thv_le xs (i + 1)
    have := posI_le xs (i + 1)
    unfold thv
    split
    · simp; omega
    · split
      · simp
      · split
        · simp; omega
        · simp
theorem posI_full : ∀ (l : List (List Int)) (i : Nat), (posI l i).length = l.length → ∀ x ∈ l, x.length ≠ 0
  | [], _, _, x, hx => by cases hx
  | y :: ys, i, h, x, hx => by
    have h1 := posI_le ys (i + 1)
    unfold posI at h
    by_cases e : y.length = 0
    · rw [if_pos e] at h; simp at h; omega
    · rw [if_neg e] at h
      rcases List.mem_cons.1 hx with rfl | hx
      · exact e
      · exact posI_full ys (i + 1) (by simpa using h) x hx
theorem posI_all : ∀ (l : List (List Int)) (i : Nat), (∀ x ∈ l, x.length ≠ 0) → (posI l i).length = l.length
  | [], _, _ => rfl
  | y :: ys, i, h => by
    unfold posI
    rw [if_neg (h y (by simp))]
    simp [posI_all ys (i + 1) (fun x hx => h x (by simp [hx]))]
theorem thv_full {l : List (List Int)} (h1 : 1 ≤ l.length) (h : (thv l 0).2 = true) (h2 : l.length ≤ (thv l 0).1.length) : ∃ n, Alk n l := by
  cases l with
  | nil => simp at h1
  | cons x xs =>
    have hle := thv_le xs (0 + 1)
    unfold thv at h h2
    by_cases e : x.length = 0
    · rw [if_pos e] at h2; simp at h2 hle; omega
    · rw [if_neg e] at h h2
      by_cases e2 : x.length > 65536
      · rw [if_pos e2] at h; cases h
      · rw [if_neg e2] at h h2
        by_cases e3 : like x.length xs
        · rw [if_pos e3] at h2
          have hp := posI_le xs (0 + 1)
          have h3 := posI_full xs (0 + 1) (by simp only [List.length_cons] at h2; omega)
          refine ⟨x.length, fun y hy => ?_⟩
          rcases List.mem_cons.1 hy with rfl | hy
          · omega
          · have := h3 y hy
            have := e3 y hy
            omega
        · rw [if_neg e3] at h; cases h
theorem thv_alk {n : Nat} {l : List (List Int)} (h1 : 1 ≤ l.length) (h : Alk n l) : (thv l 0).2 = true ∧ (thv l 0).1.length = l.length := by
  cases l with
  | nil => simp at h1
  | cons x xs =>
    have hx := h x (by simp)
    have hp := posI_all xs (0 + 1) (fun y hy => by have := h y (by simp [hy]); omega)
    unfold thv
    rw [if_neg (by omega), if_neg (by omega), if_pos (show like x.length xs from fun y hy => by have := h y (by simp [hy]); omega)]
    exact ⟨rfl, by simp [hp]⟩
theorem dot_v {K : Nat} (hK : 60 ≤ K) {n : Nat} {row : List Int} {data : List (List Int)} (hr : isB row) (hd : ∀ b ∈ data, isB b) (ha : Alk n data) (h1 : 1 ≤ data.length) (h2 : data.length ≤ 16) (h3 : row.length = data.length) :
    kernel_Dot.f K row data = some (dacc (List.replicate n 0) row data, 0) := by
  rw [dot_f (by omega) (by omega) hr hd]
  unfold dotv
  rw [if_pos ⟨by omega, by omega, alk_dots ha⟩, if_neg (by omega), show (rd_L1 data 0).length = n from rd_L1_n ha (i := 0) (by omega)]
/-- the cells of rows -/
def coded (n : Nat) (rs : List (List Int)) (data : List (List Int)) : List (List Int) := rs.map fun row => dacc (List.replicate n 0) row data
theorem dots_v {K : Nat} (hK : 60 ≤ K) {n : Nat} {data : List (List Int)} (hd : ∀ b ∈ data, isB b) (ha : Alk n data) (h1 : 1 ≤ data.length) (h2 : data.length ≤ 16) :
    ∀ (rs out : List (List Int)), (∀ row ∈ rs, isB row ∧ row.length = data.length) → codec_Encode.dots K rs data out = some (out ++ coded n rs data, 0)
  | [], out, _ => by simp [codec_Encode.dots, coded]
  | row :: rs, out, h => by
    obtain ⟨b1, b2⟩ := h row (by simp)
    rw [codec_Encode.dots, dot_v hK b1 hd ha h1 h2 b2]
    simp only [Option.bind_some]
    rw [if_neg (by simp), dots_v hK hd ha h1 h2 rs _ (fun r hr => h r (by simp [hr]))]
    simp [coded]
theorem mem_dropM {k r : Int} (h : okK k r) {data : List (List Int)} (hl : (data.length : Int) = k) : ∀ row ∈ (codec_Row.M k.toNat r.toNat).drop k.toNat, isB row ∧ row.length = data.length := fun row hr => by
  have hm := List.mem_of_mem_drop hr
  obtain ⟨h1, h2, h3, h4⟩ := h
  exact ⟨allM_B (by omega) (by omega) row hm, by rw [(allM_rect k.toNat r.toNat).2 row hm]; omega⟩
theorem enc_ok {K : Nat} (hK : 200 ≤ K) {k r : Int} (h : okK k r) {data : List (List Int)} (hl : (data.length : Int) = k) {n : Nat} (ha : Alk n data) (hd : ∀ b ∈ data, isB b) :
    codec_Encode.f K k r data = some (coded n ((codec_Row.M k.toNat r.toNat).drop k.toNat) data, 0) := by
  obtain ⟨h1, h2, h3, h4⟩ := h
  unfold codec_Encode.f
  obtain ⟨t1, t2⟩ := thv_alk (by omega) ha
  rw [if_neg (by unfold codec_Row.bad; omega), if_pos (row_inv h1 h2 h4), there_f hK (by omega), if_pos hl]
  simp only [Option.bind_some]
  rw [if_neg (by rw [t1]; simp), if_neg (by omega), dots_v (by omega) hd ha (by omega) (by omega) _ _ (mem_dropM ⟨h1, h2, h3, h4⟩ hl), List.nil_append]
theorem enc_any {K : Nat} (hK : 200 ≤ K) {k r : Int} (data : List (List Int)) : (okK k r ∧ (data.length : Int) = k ∧ ∃ n, Alk n data) ∨ ∃ e, e ≠ 0 ∧ codec_Encode.f K k r data = some ([], e) := by
  by_cases h : okK k r
  case neg => exact .inr ⟨2, by decide, by unfold codec_Encode.f; rw [if_pos (by unfold codec_Row.bad; unfold okK at h; omega)]⟩
  have hk := h
  obtain ⟨h1, h2, h3, h4⟩ := h
  have e : ∀ {x}, (codec_there.f K data k).bind (fun t => if t.2 = false then some ([], 40) else if (t.1.length : Int) < k then some ([], 40) else codec_Encode.dots K ((codec_Row.M k.toNat r.toNat).drop k.toNat) data []) = some x → codec_Encode.f K k r data = some x := fun hx => by
    unfold codec_Encode.f
    rw [if_neg (by unfold codec_Row.bad; omega), if_pos (row_inv h1 h2 h4)]
    exact hx
  by_cases hl : (data.length : Int) = k
  case neg => exact .inr ⟨40, by decide, e (by rw [there_f hK (by omega), if_neg hl]; rfl)⟩
  cases ht : (thv data 0).2 with
  | false => exact .inr ⟨40, by decide, e (by rw [there_f hK (by omega), if_pos hl]; simp only [Option.bind_some]; rw [if_pos ht])⟩
  | true =>
    by_cases hc : ((thv data 0).1.length : Int) < k
    · exact .inr ⟨40, by decide, e (by rw [there_f hK (by omega), if_pos hl]; simp only [Option.bind_some]; rw [if_neg (by rw [ht]; simp), if_pos hc])⟩
    · exact .inl ⟨hk, hl, thv_full (by omega) ht (by omega)⟩
end Go.Proofs.Ytmmbojeikppinaa.Pure
