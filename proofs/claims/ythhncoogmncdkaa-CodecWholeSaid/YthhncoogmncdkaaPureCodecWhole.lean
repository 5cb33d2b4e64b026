/- CodecWhole, in plain Lean: what is decoded fits, and the cells it was made of are in it, for every input. No condition. -/
import Derived.Test.YthhncoogmncdkaaPAx24
namespace Go.Proofs.Ythhncoogmncdkaa.Pure
open Go Go.RowKit Go.TwoGf Go.TwoLin Go.Proofs.Ythhncoogmncdkaa Go.Proofs.Ythhncoogmncdkaa.PA Go.Proofs.YthhncoogmncdkaaW.PrintWords Go.Proofs.YthhncoogmncdkaaW.PrintLast Go.Proofs.YthhncoogmncdkaaW.PrintMore
set_option linter.unusedVariables false
theorem posI_append : ∀ (a b : List (List Int)) (i : Nat), posI (a ++ b) i = posI a i ++ posI b (i + a.length)
  | [], b, i => rfl
  | x :: a, b, i => by
    rw [List.cons_append, posI, posI, posI_append a b (i + 1), show i + (x :: a).length = i + 1 + a.length by simp; omega]
    split <;> rfl
theorem tk_at {k : Nat} {cells : List (List Int)} {i : Nat} (hi : i < cells.length) (h0 : (rw_ cells i).length ≠ 0) (hc : (posI (cells.take i) 0).length < k) : (i : Int) ∈ tk k cells := by
  have e : posI cells 0 = posI (cells.take i) 0 ++ ((i : Int) :: posI (cells.drop (i + 1)) (i + 1)) := by
    conv => lhs; rw [← List.take_append_drop i cells]
    rw [posI_append, List.length_take, Nat.min_eq_left (by omega), List.drop_eq_getElem_cons hi, Nat.zero_add]
    congr 1
    rw [posI, if_neg (by rw [← rw_lt hi]; exact h0)]
  unfold tk
  rw [e, List.mem_take_iff_getElem]
  exact ⟨(posI (cells.take i) 0).length, by simp; omega, by simp⟩
theorem cnt_step {cells : List (List Int)} {i : Nat} (hi : i < cells.length) : (posI (cells.take (i + 1)) 0).length = (posI (cells.take i) 0).length + (if (rw_ cells i).length = 0 then 0 else 1) := by
  rw [List.take_add_one, List.getElem?_eq_getElem hi, posI_append, List.length_append]
  congr 1
  simp only [Option.toList_some, posI, ← rw_lt hi]
  split <;> rfl
theorem wkr {k r : Nat} (hk : k ≤ 12) (hr : r ≤ 4) : wrap64 ((k : Int) + (r : Int)) = ((k + r : Nat) : Int) := by unfold wrap64; omega
theorem whole_l0 {k r n : Nat} {cells D : List (List Int)} (h : Dec k r n cells) (hDl : D.length = k + r) (hv : ∀ K, 300 ≤ K → codec_Verify.f K (k : Int) (r : Int) D = some (true, 0))
    (hx : ∀ x : Nat, (x : Int) ∈ tk k cells → rw_ D x = rw_ cells x) :
    ∀ (d K i met : Nat), i + d = k + r → 2 * d + 400 ≤ K → met = min k (posI (cells.take i) 0).length →
      twoslotlaw04_CodecWhole.l0 K (k : Int) (r : Int) cells D (met : Int) (i : Int) = some true := by
  have k1 := h.k1
  have k2 := h.k2
  have r4 := h.r4
  have hlen := h.len
  have hcnt := h.cnt
  have fin : ∀ (K i met : Nat), 350 ≤ K → met = k → twoslotlaw04_CodecWhole.j1 K (k : Int) (r : Int) cells D (met : Int) (i : Int) false = some true := fun K i met hK hm => by
    obtain ⟨K, rfl⟩ : ∃ q, K = q + 1 := ⟨K - 1, by omega⟩
    rw [twoslotlaw04_CodecWhole.j1, if_neg (by decide), hv K (by omega)]
    simp only [Option.bind_some]
    rw [if_pos (by omega), if_pos trivial]
  intro d
  induction d with
  | zero =>
    intro K i met hi hK hm
    obtain ⟨K, rfl⟩ : ∃ q, K = q + 1 := ⟨K - 1, by omega⟩
    rw [twoslotlaw04_CodecWhole.l0, wkr k2 r4, if_neg (by omega)]
    refine fin K i met (by omega) ?_
    rw [hm, List.take_of_length_le (by omega)]
    omega
  | succ d ih =>
    intro K i met hi hK hm
    obtain ⟨K, rfl⟩ : ∃ q, K = q + 1 := ⟨K - 1, by omega⟩
    have hil : i < cells.length := by omega
    have hs := cnt_step hil
    have htk := tk_at (k := k) hil
    generalize (posI (cells.take i) 0).length = c at hm hs htk
    generalize he : (posI (cells.take (i + 1)) 0).length = c1 at hs
    rw [twoslotlaw04_CodecWhole.l0, wkr k2 r4, if_pos (by omega)]
    by_cases hlt : met < k
    case neg =>
      rw [decide_eq_false (by omega)]
      exact fin K i met (by omega) (by omega)
    rw [decide_eq_true (by omega)]
    obtain ⟨K, rfl⟩ : ∃ q, K = q + 1 := ⟨K - 1, by omega⟩
    rw [twoslotlaw04_CodecWhole.j1, if_pos rfl, if_pos (by omega), if_pos (by omega), rdL, rdL]
    by_cases h0 : (rw_ cells i).length = 0
    · rw [if_neg (by omega), w64 (i := i) (by omega)]
      rw [if_pos h0] at hs
      exact ih K (i + 1) met (by omega) (by omega) (by rw [he]; omega)
    · rw [if_neg h0] at hs
      rw [if_pos (by omega), if_pos (by omega), hx i (htk h0 (by omega)), if_pos rfl, w64 (i := i) (by omega), w64 (i := met) (by omega)]
      exact ih K (i + 1) (met + 1) (by omega) (by omega) (by rw [he]; omega)
theorem whole_bad {K : Nat} {a b e : Int} {cells : List (List Int)} (he : e ≠ 0) (h : codec_Decode.f K a b cells = some ([], e)) :
    ((codec_Decode.f K a b cells).bind fun bt => if bt.2 = 0 then (if (bt.1.length : Int) = wrap64 (a + b) then twoslotlaw04_CodecWhole.l0 K a b cells bt.1 0 0 else none) else some ((bt.1.length : Int) == 0)) = some true := by
  rw [h, Option.bind_some, if_neg he]
  exact congrArg some (beq_self_eq_true _)
theorem whole_good {K k r n : Nat} (hK : 1000 ≤ K) {cells : List (List Int)} (h : Dec k r n cells) :
    ((codec_Decode.f K (k : Int) (r : Int) cells).bind fun bt => if bt.2 = 0 then (if (bt.1.length : Int) = wrap64 ((k : Int) + (r : Int)) then twoslotlaw04_CodecWhole.l0 K (k : Int) (r : Int) cells bt.1 0 0 else none) else some ((bt.1.length : Int) == 0)) = some true := by
  obtain ⟨data, d1, d2, d3, d4, _⟩ := dec_ok (K := K) (by omega) h
  have hv : ∀ K, 300 ≤ K → codec_Verify.f K (k : Int) (r : Int) (coded n (codec_Row.M k r) data) = some (true, 0) := fun K hK => ver_coded hK h.k1 h.k2 h.r4 h.n1 h.n2 d1 d2
  have hl : (coded n (codec_Row.M k r) data).length = k + r := by rw [(coded_rect d2).1, (allM_rect k r).1]
  generalize coded n (codec_Row.M k r) data = D at d3 d4 hv hl
  have k2 := h.k2
  have r4 := h.r4
  have hw : (D.length : Int) = wrap64 ((k : Int) + (r : Int)) := by rw [hl, wkr k2 r4]
  rw [d3, Option.bind_some, if_pos rfl, if_pos hw]
  exact whole_l0 h hl hv d4 (k + r) K 0 0 (by omega) (by omega) (by rw [List.take_zero]; simp [posI])
theorem whole_law {K : Nat} (hK : 1000 ≤ K) {a b : Int} {cells : List (List Int)} (hB : isM cells) : twoslotlaw04_CodecWhole.f K a b cells = some true := by
  unfold twoslotlaw04_CodecWhole.f
  rw [alive_f (by omega), Option.bind_some, if_pos rfl]
  rcases much_f (K := K) (by omega) cells with h1 | ⟨h1, h1'⟩
  · rw [h1, Option.bind_some, if_pos rfl]
  rw [h1, Option.bind_some, if_neg (by decide)]
  rcases dec_any (K := K) (by omega) (a := a) (b := b) hB with ⟨_, h⟩ | ⟨_, _, h⟩ | ⟨_, _, _, _, h⟩ | ⟨k, r, n, rfl, rfl, h⟩
  · exact whole_bad (by decide) h
  · exact whole_bad (by decide) h
  · exact whole_bad (by decide) h
  · exact whole_good hK h
theorem CodecWhole : twoslotlaw04_CodecWhole.Pure := fun a b l _ _ hl => by
  obtain ⟨k0, hk0⟩ : ∃ k0, 1000 ≤ k0 := ⟨1000, Nat.le_refl _⟩
  exact ⟨k0, whole_law hk0 (fun r hr => isB_wf ((hl.2.2 r hr).2.2))⟩
end Go.Proofs.Ythhncoogmncdkaa.Pure
