/- CodecNames, in plain Lean: numbers and bytes at their ends. No condition. -/
import Derived.Test.YthhncoogmncdkaaPAx25
import Derived.Test.YthhncoogmncdkaaCAlive
namespace Go.Proofs.Ythhncoogmncdkaa.Pure
open Go Go.RowKit Go.TwoGf Go.TwoLin Go.Proofs.Ythhncoogmncdkaa Go.Proofs.Ythhncoogmncdkaa.PA Go.Proofs.YthhncoogmncdkaaW.PrintWords Go.Proofs.YthhncoogmncdkaaW.PrintLast Go.Proofs.YthhncoogmncdkaaW.PrintMore
set_option linter.unusedVariables false
theorem M11 : (codec_Row.M 1 1).drop 1 = [[1]] := by
  have h0 : matrix_Cauchy.G ((1 : Nat) : Int) 0 0 = 1 := by rw [G_gi (by decide) (by decide) (by decide)]; decide +kernel
  show [[matrix_Cauchy.G ((1 : Nat) : Int) 0 0]] = _
  rw [h0]
theorem addv_of_zero : ∀ {l : List Int}, isB l → addv (List.replicate l.length 0) 1 l = l
  | [], _ => rfl
  | x :: l, h => by
    have := addv_of_zero (isB_cons h).2
    simp only [addv, List.length_cons, List.replicate_succ, List.zipWith_cons_cons] at this ⊢
    rw [this, mI_one (isB_cons h).1, aI_zero (isB_cons h).1]
theorem mid_B (N n : Nat) : isB (twoslotlaw04_CodecNames.mid N n) := fun x hx => by
  simp only [twoslotlaw04_CodecNames.mid, List.mem_map] at hx
  obtain ⟨j, _, rfl⟩ := hx
  split <;> omega
theorem enc_one {K : Nat} (hK : 200 ≤ K) {L : List Int} (h1 : 1 ≤ L.length) (h2 : L.length ≤ 65536) (hB : isB L) : codec_Encode.f K 1 1 [L] = some ([L], 0) := by
  rw [enc_ok hK (k := 1) (r := 1) (data := [L]) (n := L.length) (by decide) rfl (fun x hx => by rw [List.mem_singleton.1 hx]; omega) (fun b hb => by rw [List.mem_singleton.1 hb]; exact hB)]
  have e : coded L.length [[1]] [L] = [L] := by
    show [addv (List.replicate L.length 0) 1 L] = [L]
    rw [addv_of_zero hB]
  rw [show ((1 : Int).toNat) = 1 from rfl, M11, e]
theorem names_ok {K : Nat} (hK : 500 ≤ K) {L M : List Int} (hL : L.length = 65536) (bL : isB L) (hM : 65536 < M.length) (bM : isB M) : twoslotlaw04_CodecNames.ok K L M := by
  have okK11 : okK 1 1 := by decide
  have b0 : isM [] := fun x hx => by cases hx
  have hD : Dec 12 4 1 [[], [], [], [], [4], [5], [6], [7], [8], [9], [10], [11], [12], [13], [14], [15]] := ⟨by decide, by decide, by decide, rfl, by decide, by decide, by decide, by decide, by decide⟩
  have tM : ∀ i, thv [M] i = ([], false) := fun i => by rw [thv, if_neg (by omega), if_pos (by omega)]
  refine ⟨alive_f (by omega), enc_one (by omega) (by omega) (by omega) bL, ?_, ?_, ?_, ?_, ?_, ?_, ?_, ?_⟩
  · unfold codec_Encode.f
    rw [if_neg (by decide), if_pos (row_inv (by decide) (by decide) (by decide)), there_f (by omega) (by decide), if_pos (show (([M].length : Nat) : Int) = 1 from rfl), tM]
    simp only [Option.bind_some]
    rw [if_pos trivial]
  · unfold codec_Encode.f; rw [if_pos (by decide)]
  · unfold codec_Encode.f; rw [if_pos (by decide)]
  · unfold codec_Encode.f
    rw [if_neg (by decide), if_pos (row_inv (by decide) (by decide) (by decide)), there_f (by omega) (by decide), if_neg (by decide)]
    simp only [Option.bind_some]
    rw [if_pos trivial]
  · unfold codec_Decode.f; rw [if_pos (by decide)]
  · unfold codec_Decode.f
    rw [if_neg (by decide), if_pos (row_inv (by decide) (by decide) (by decide)), there_f (by omega) (by decide), if_pos (show ((([[], M] : List (List Int)).length : Nat) : Int) = 1 + 1 from rfl), thv, if_pos (show ([] : List Int).length = 0 from rfl), tM]
    simp only [Option.bind_some]
    rw [if_pos trivial]
  · obtain ⟨data, d1, d2, d3, d4, _⟩ := dec_ok (K := K) (by omega) hD
    refine ⟨coded 1 (codec_Row.M 12 4) data, d3, by rw [(coded_rect d2).1, (allM_rect 12 4).1], d4 15 (by decide +kernel), d4 4 (by decide +kernel), ?_⟩
    exact ver_coded (by omega) hD.k1 hD.k2 hD.r4 hD.n1 hD.n2 d1 d2
  · unfold codec_Verify.f; rw [if_pos (by decide)]
theorem CodecNames : twoslotlaw04_CodecNames.Pure := by
  obtain ⟨k0, hk0⟩ : ∃ k0, 500 ≤ k0 := ⟨500, Nat.le_refl _⟩
  refine ⟨k0, ?_⟩
  obtain ⟨Z, hZ⟩ : ∃ Z : Nat, Z = 65536 := ⟨_, rfl⟩
  obtain ⟨Y, hY⟩ : ∃ Y : Nat, Y = 65537 := ⟨_, rfl⟩
  rw [← hZ, ← hY]
  exact names_ok hk0 (by rw [twoslotlaw04_CodecNames.mid_len, hZ]) (mid_B Z Z) (by rw [List.length_replicate]; omega) (isB_rep Y)
end Go.Proofs.Ythhncoogmncdkaa.Pure
