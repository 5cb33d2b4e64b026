/- Bytes are read as the slot that the document says, or as none. -/
import Derived.Test.YtihefjdabjmmaaaPDx17
import Derived.Test.YtihefjdabjmmaaaPDx16
import Derived.Test.YtihefjdabjmmaaaPDx15
import Derived.Test.YtihefjdabjmmaaaSlotP
import Derived.Test.YtihefjdabjmmaaaSlotRa
namespace Go.Proofs.Ytihefjdabjmmaaa.Pure
open Go Go.RowKit Go.Proofs.Ytihefjdabjmmaaa Go.Proofs.Ytihefjdabjmmaaa.PD Go.Proofs.YtihefjdabjmmaaaW.PrintWords Go.Proofs.YtihefjdabjmmaaaW.PrintLast Go.Proofs.YtihefjdabjmmaaaW.PrintMore
theorem rd_drop4 {l : List Int} {i j : Nat} (h : i + j < l.length) : rd (l.drop i) (j : Nat) = rd l ((i + j : Nat) : Int) := by
  rw [rd_at (by rw [List.length_drop]; omega), rd_at h, List.getElem_drop]
theorem number_f {l : List Int} (hB : isB l) {i : Nat} (h : i + 4 ≤ l.length) (hl : l.length < 100000) {x : Int} (hx : x = (i : Nat)) : twoslotref10_number.f l x = some (num (l.drop i)) := by
  subst hx
  unfold twoslotref10_number.f
  have w1 : wrap64 ((i : Int) + 1) = ((i + 1 : Nat) : Int) := by unfold wrap64; omega
  have w2 : wrap64 ((i : Int) + 2) = ((i + 2 : Nat) : Int) := by unfold wrap64; omega
  have w3 : wrap64 ((i : Int) + 3) = ((i + 3 : Nat) : Int) := by unfold wrap64; omega
  rw [w1, w2, w3, if_pos (by omega), if_pos (by omega), if_pos (by omega), if_pos (by omega), if_pos (by omega), if_pos (by omega), if_pos (by omega), if_pos (by omega)]
  have e0 : rd (l.drop i) 0 = rd l (i : Nat) := rd_drop4 (j := 0) (by omega)
  have e1 : rd (l.drop i) 1 = rd l ((i + 1 : Nat) : Int) := rd_drop4 (j := 1) (by omega)
  have e2 : rd (l.drop i) 2 = rd l ((i + 2 : Nat) : Int) := rd_drop4 (j := 2) (by omega)
  have e3 : rd (l.drop i) 3 = rd l ((i + 3 : Nat) : Int) := rd_drop4 (j := 3) (by omega)
  unfold num
  rw [e0, e1, e2, e3]
  have b0 : 0 ≤ rd l (i : Nat) ∧ rd l (i : Nat) < 256 := by rw [rd_at (by omega)]; exact hB _ (List.getElem_mem _)
  have b1 : 0 ≤ rd l ((i + 1 : Nat) : Int) ∧ rd l ((i + 1 : Nat) : Int) < 256 := by rw [rd_at (by omega)]; exact hB _ (List.getElem_mem _)
  have b2 : 0 ≤ rd l ((i + 2 : Nat) : Int) ∧ rd l ((i + 2 : Nat) : Int) < 256 := by rw [rd_at (by omega)]; exact hB _ (List.getElem_mem _)
  have b3 : 0 ≤ rd l ((i + 3 : Nat) : Int) ∧ rd l ((i + 3 : Nat) : Int) < 256 := by rw [rd_at (by omega)]; exact hB _ (List.getElem_mem _)
  generalize rd l (i : Nat) = y0 at *
  generalize rd l ((i + 1 : Nat) : Int) = y1 at *
  generalize rd l ((i + 2 : Nat) : Int) = y2 at *
  generalize rd l ((i + 3 : Nat) : Int) = y3 at *
  clear w1 w2 w3 e0 e1 e2 e3 h hl hB
  unfold num4
  have v1 : wrap64 y0 = y0 := by unfold wrap64; omega
  have v2 : wrap64 y1 = y1 := by unfold wrap64; omega
  have v3 : wrap64 y2 = y2 := by unfold wrap64; omega
  have v4 : wrap64 y3 = y3 := by unfold wrap64; omega
  have u1 : wrap64 (y0 * 256) = y0 * 256 := by unfold wrap64; omega
  have u2 : wrap64 (y0 * 256 + y1) = y0 * 256 + y1 := by unfold wrap64; omega
  have u3 : wrap64 ((y0 * 256 + y1) * 256) = (y0 * 256 + y1) * 256 := by unfold wrap64; omega
  have u4 : wrap64 ((y0 * 256 + y1) * 256 + y2) = (y0 * 256 + y1) * 256 + y2 := by unfold wrap64; omega
  have u5 : wrap64 (((y0 * 256 + y1) * 256 + y2) * 256) = ((y0 * 256 + y1) * 256 + y2) * 256 := by unfold wrap64; omega
  have u6 : wrap64 (((y0 * 256 + y1) * 256 + y2) * 256 + y3) = ((y0 * 256 + y1) * 256 + y2) * 256 + y3 := by unfold wrap64; omega
  rw [v1, v2, v3, v4, u1, u2, u3, u4, u5, u6]
theorem w12 {x : Int} (h0 : 0 ≤ x) (h1 : x ≤ 100000) : wrap64 (12 + wrap64 (4 * x)) = 12 + 4 * x := by
  have e1 : wrap64 (4 * x) = 4 * x := by unfold wrap64; omega
  rw [e1]; unfold wrap64; omega
/-- without the error -/
def cut7 (r : Int × Int × Int × Int × List Int × List Int × Bool × Int) : Int × Int × Int × Int × List Int × List Int × Bool := (r.1, r.2.1, r.2.2.1, r.2.2.2.1, r.2.2.2.2.1, r.2.2.2.2.2.1, r.2.2.2.2.2.2.1)
theorem rread_l0 {a b c d kind index cell stripe : Int} (hp : pOk a b c d) {l : List Int} (hB : isB l) {m : Nat} (hm : (m : Int) = a + b) (hl : (l.length : Int) = 12 + 4 * (a + b) + c) : ∀ (e k i : Nat) (v : List Int), i + e = m → e + 60 ≤ k → v.length ≤ i →
    twoslotref10_Read.l0 k l (a + b) (i : Int) a b c d kind index cell stripe v = some (cut7 (psd a b c d kind index cell stripe (v ++ nums e (l.drop (12 + 4 * i))) (l.drop (12 + 4 * m))))
  | 0, k, i, v, h, hk, hv => by
    obtain ⟨k, rfl⟩ : ∃ q, k = q + 1 := ⟨k - 1, by omega⟩
    have hpp := hp
    unfold pOk at hpp
    simp only [twoslotref10_Read.l0]
    have w1 : wrap64 (12 + wrap64 (4 * (a + b))) = ((12 + 4 * m : Nat) : Int) := (w12 (by omega) (by omega)).trans (by omega)
    rw [if_neg (by omega), w1, if_pos (by omega), if_pos (by omega), if_pos (by simp; omega)]
    simp only [Option.bind_some, List.nil_append, Int.toNat_natCast]
    rw [rmay_f (by omega) hp]
    simp only [Option.bind_some, nums, List.append_nil]
    generalize l.drop (12 + 4 * m) = data
    unfold psd
    by_cases h : sMay a b c d kind index cell stripe v data
    · simp only [decide_eq_true h, if_true, if_pos h, cut7]
    · simp only [decide_eq_false h, Bool.false_eq_true, if_false, if_neg h, cut7]
  | e + 1, k, i, v, h, hk, hv => by
    obtain ⟨k, rfl⟩ : ∃ q, k = q + 1 := ⟨k - 1, by omega⟩
    have hpp := hp
    unfold pOk at hpp
    simp only [twoslotref10_Read.l0]
    have w1 : wrap64 (12 + wrap64 (4 * (i : Int))) = ((12 + 4 * i : Nat) : Int) := (w12 (by omega) (by omega)).trans (by omega)
    rw [if_pos (by omega), w1, number_f hB (i := 12 + 4 * i) (by omega) (by omega) rfl]
    simp only [Option.bind_some]
    rw [if_pos (by omega), w64s (by omega), rread_l0 hp hB hm hl e k (i + 1) _ (by omega) (by omega) (by simp; omega)]
    rw [nums, List.append_assoc, List.drop_drop, show 12 + 4 * i + 4 = 12 + 4 * (i + 1) by omega, List.singleton_append]
theorem rread_f {k : Nat} (hk : 100 ≤ k) {a b c d : Int} (hp : pOk a b c d) {l : List Int} (hB : isB l) :
    twoslotref10_Read.f k a b c d l = some (if (l.length : Int) = 12 + 4 * (a + b) + c ∧ rd l 0 = 84 ∧ rd l 1 = 50 then cut7 (psd a b c d (rd l 2) (rd l 3) (num (l.drop 4)) (num (l.drop 8)) (nums (a + b).toNat (l.drop 12)) (l.drop (12 + 4 * (a + b).toNat))) else (0, 0, 0, 0, [], [], false)) := by
  obtain ⟨k, rfl⟩ : ∃ q, k = q + 1 := ⟨k - 1, by omega⟩
  unfold twoslotref10_Read.f
  rw [rsize06_f hp]
  simp only [Option.bind_some]
  have hpp := hp
  unfold pOk at hpp
  have j0 : twoslotref10_Read.j0 (k + 1) l true a b c d = some (0, 0, 0, 0, [], [], false) := by simp only [twoslotref10_Read.j0, if_true]
  by_cases h1 : (l.length : Int) = 12 + 4 * (a + b) + c
  case neg => rw [if_neg h1, j0, if_neg (fun z => h1 z.1)]
  rw [if_pos h1, if_pos (by omega)]
  by_cases h2 : rd l 0 = 84
  case neg => rw [if_neg h2, j0, if_neg (fun z => h2 z.2.1)]
  rw [if_pos h2, if_pos (by omega)]
  by_cases h3 : rd l 1 = 50
  case neg => rw [bne_iff_ne.2 h3, j0, if_neg (fun z => h3 z.2.2)]
  rw [h3, bne_self_eq_false, if_pos ⟨h1, h2, rfl⟩]
  simp only [twoslotref10_Read.j0, Bool.false_eq_true, if_false]
  rw [if_pos (by omega), if_pos (by omega), number_f (x := 4) hB (i := 4) (by omega) (by omega) rfl, number_f (x := 8) hB (i := 8) (by omega) (by omega) rfl, rn_f hp]
  simp only [Option.bind_some]
  have h4 : wrap64 (rd l 3) = rd l 3 := by
    have h6 : rd l 3 = l[3] := rd_at (l := l) (i := 3) (by omega)
    have h5 := hB l[3] (List.getElem_mem (by omega))
    rw [h6]; unfold wrap64; omega
  have e0 := rread_l0 (kind := rd l 2) (index := rd l 3) (cell := num (l.drop 4)) (stripe := num (l.drop 8)) hp hB (m := (a + b).toNat) (by omega) h1 (a + b).toNat k 0 [] (by omega) (by omega) (by simp)
  rw [h4]
  simpa using e0
theorem rparse_f {k : Nat} (hk : 110 ≤ k) (a b c d : Int) {l : List Int} (hB : isB l) : twoslotref10_Parse.f k a b c d l = some (prs a b c d l) := by
  obtain ⟨k, rfl⟩ : ∃ q, k = q + 1 := ⟨k - 1, by omega⟩
  unfold twoslotref10_Parse.f prs
  rw [rmay06_f]
  simp only [Option.bind_some]
  by_cases h : pOk a b c d
  case neg => rw [decide_eq_false h, if_neg (by decide), if_neg h]
  rw [decide_eq_true h, if_pos rfl, if_pos h]
  have hp := h
  unfold pOk at hp
  by_cases h0 : l.length = 0
  · rw [if_pos (by omega), if_pos h0]
    simp only [twoslotref10_Parse.j0, Bool.false_eq_true, if_false]
    rw [rread_f (by omega) h hB, if_neg (fun z => by omega)]
    rfl
  rw [if_neg (by omega), if_neg h0, rsize06_f h]
  simp only [Option.bind_some]
  by_cases h1 : (l.length : Int) = 12 + 4 * (a + b) + c
  case neg => rw [bne_iff_ne.2 h1, if_neg h1]; simp only [twoslotref10_Parse.j0, if_true]
  rw [if_pos h1, h1, bne_self_eq_false]
  simp only [twoslotref10_Parse.j0, Bool.false_eq_true, if_false]
  rw [rread_f (by omega) h hB]
  by_cases h2 : rd l 0 = 84 ∧ rd l 1 = 50
  · rw [if_pos ⟨h1, h2⟩, if_pos h2]
    generalize rd l 2 = k2
    generalize rd l 3 = k3
    generalize num (l.drop 4) = k4
    generalize num (l.drop 8) = k5
    generalize nums (a + b).toNat (l.drop 12) = k6
    generalize l.drop (12 + 4 * (a + b).toNat) = k7
    unfold psd
    by_cases h3 : sMay a b c d k2 k3 k4 k5 k6 k7
    · simp only [if_pos h3, cut7, Option.bind_some]
    · simp only [if_neg h3, cut7, Option.bind_some]
  · rw [if_neg (fun z => h2 z.2), if_neg h2]
    simp only [Option.bind_some]
theorem bytesOf_str {l : List Int} (hB : isB l) : bytesOf (strOfNums l) = l := by
  have e : (strOfNums l).data.toList = Lib.bytesOf l := by rw [← Lib.strOfNums_toList, Lib.toList_data]
  unfold bytesOf
  rw [e]
  clear e
  induction l with
  | nil => rfl
  | cons a l ih =>
    have ha := hB a (by simp)
    have e := ih (fun z hz => hB z (by simp [hz]))
    unfold Lib.bytesOf at *
    simp only [List.map_cons, List.cons.injEq]
    refine ⟨?_, e⟩
    have : (UInt8.ofNat a.toNat).toNat = a.toNat := by rw [UInt8.toNat_ofNat']; omega
    omega
theorem parse_l1s {a b c d a' b' c' d' s1 s2 s3 s4 : Int} {l v data : List Int} {K : Nat} {R : Int × Int × Int × Int × List Int × List Int × Bool × Int} (hR : ∀ k, K ≤ k → slot_Parse.f k a b c d l = some R) (hS : ∀ k, K ≤ k → twoslotref10_Same.f k R.1 R.2.1 R.2.2.1 R.2.2.2.1 R.2.2.2.2.1 R.2.2.2.2.2.1 a' b' c' d' v data = some true) : ∀ (e k i : Nat) (x y : List Int), i + e = x.length → x.length < 4611686018427387904 → e + K < k →
    twoslotlaw10_SlotParse.l1 k l l true (i : Int) a b c d s1 s2 s3 s4 x y a' b' c' d' v data = some true
  | 0, k, i, x, y, h, hx, hk => by
    obtain ⟨k, rfl⟩ : ∃ q, k = q + 1 := ⟨k - 1, by omega⟩
    simp only [twoslotlaw10_SlotParse.l1]
    rw [if_neg (by omega), hR k (by omega)]
    simp only [Option.bind_some, if_true]
    rw [hS k (by omega)]
    rfl
  | e + 1, k, i, x, y, h, hx, hk => by
    obtain ⟨k, rfl⟩ : ∃ q, k = q + 1 := ⟨k - 1, by omega⟩
    simp only [twoslotlaw10_SlotParse.l1]
    rw [if_pos (by omega), if_pos (by omega), w64s (by omega)]
    exact parse_l1s hR hS e k (i + 1) _ _ (by simp; omega) (by simpa using hx) (by omega)
theorem parse_l0s {a b c d a' b' c' d' s1 s2 s3 s4 : Int} {l v data : List Int} {K : Nat} {R : Int × Int × Int × Int × List Int × List Int × Bool × Int} (hR : ∀ k, K ≤ k → slot_Parse.f k a b c d l = some R) (hS : ∀ k, K ≤ k → twoslotref10_Same.f k R.1 R.2.1 R.2.2.1 R.2.2.2.1 R.2.2.2.2.1 R.2.2.2.2.2.1 a' b' c' d' v data = some true) {x : List Int} (hx : x.length < 4611686018427387904) : ∀ (e k i : Nat) (y : List Int), i + e = y.length → y.length < 4611686018427387904 → e + x.length + K + 1 < k →
    twoslotlaw10_SlotParse.l0 k l l true (i : Int) a b c d s1 s2 s3 s4 x y a' b' c' d' v data = some true
  | 0, k, i, y, h, hy, hk => by
    obtain ⟨k, rfl⟩ : ∃ q, k = q + 1 := ⟨k - 1, by omega⟩
    simp only [twoslotlaw10_SlotParse.l0]
    rw [if_neg (by omega), show (0 : Int) = ((0 : Nat) : Int) from rfl]
    exact parse_l1s hR hS x.length k 0 x y (by omega) hx (by omega)
  | e + 1, k, i, y, h, hy, hk => by
    obtain ⟨k, rfl⟩ : ∃ q, k = q + 1 := ⟨k - 1, by omega⟩
    simp only [twoslotlaw10_SlotParse.l0]
    rw [if_pos (by omega), if_pos (by omega), w64s (by omega)]
    exact parse_l0s hR hS hx e k (i + 1) _ (by simp; omega) (by simpa using hy) (by omega)
theorem SlotParse : twoslotlaw10_SlotParse.Pure := by
  intro a b c d l _ _ _ _ hl
  have hB : isB l := isB_wf hl.2.2
  have hR : ∀ k, 200 ≤ k → slot_Parse.f k a b c d l = some (prs a b c d l) := fun k hk => parse_f (by omega) a b c d hB
  have hr : ∀ k, 200 ≤ k → twoslotref10_Parse.f k a b c d l = some (prs a b c d l) := fun k hk => rparse_f (by omega) a b c d hB
  have hz : (prs a b c d l).2.2.2.2.1.length ≤ 16 ∧ (prs a b c d l).2.2.2.2.2.1.length ≤ 64 := by
    unfold prs
    split
    case isFalse => exact ⟨Nat.zero_le _, Nat.zero_le _⟩
    case isTrue hp =>
    split
    case isTrue => exact ⟨Nat.zero_le _, Nat.zero_le _⟩
    split
    case isFalse => exact ⟨Nat.zero_le _, Nat.zero_le _⟩
    split
    case isFalse => exact ⟨Nat.zero_le _, Nat.zero_le _⟩
    unfold psd
    split
    case isFalse => exact ⟨Nat.zero_le _, Nat.zero_le _⟩
    case isTrue hm =>
    have h1 := short hm.1
    have h2 := hm.2.2.2.2.2.2
    unfold pOk at hp
    exact ⟨h1, by simp only; omega⟩
  generalize prs a b c d l = R at hR hr hz
  obtain ⟨hz1, hz2⟩ := hz
  have hS : ∀ k, 200 ≤ k → twoslotref10_Same.f k R.1 R.2.1 R.2.2.1 R.2.2.2.1 R.2.2.2.2.1 R.2.2.2.2.2.1 R.1 R.2.1 R.2.2.1 R.2.2.2.1 R.2.2.2.2.1 R.2.2.2.2.2.1 = some true := fun k hk => same_refl (by omega) (by omega) _ _ _ _
  obtain ⟨m, hm⟩ : ∃ k, 600 ≤ k := ⟨600, Nat.le_refl _⟩
  refine ⟨m + 1 + 1, ?_⟩
  unfold twoslotlaw10_SlotParse.f
  rw [awake_f (by omega)]
  simp only [Option.bind_some, if_true]
  have hsz : (strOfNums l).size ≤ 140737488351232 := by
    rw [← bytesOf_length, bytesOf_str hB]
    have := hl.2.1
    omega
  rw [if_pos hsz, bytesOf_str hB, hR _ (by omega)]
  simp only [Option.bind_some]
  rw [hr _ (by omega)]
  simp only [Option.bind_some]
  rw [hS _ (by omega)]
  simp only [Option.bind_some, if_true, beq_self_eq_true]
  simp only [twoslotlaw10_SlotParse.j0]
  rw [show (0 : Int) = ((0 : Nat) : Int) from rfl]
  exact parse_l0s (K := 200) hR hS (by omega) R.2.2.2.2.2.1.length _ 0 _ (by omega) (by omega) (by omega)
end Go.Proofs.Ytihefjdabjmmaaa.Pure
