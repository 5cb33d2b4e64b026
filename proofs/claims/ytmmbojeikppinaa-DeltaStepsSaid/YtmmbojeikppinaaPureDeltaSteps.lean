/- DeltaSteps, in plain Lean: several changes at once are the same as one by one from behind, and twice the same changes nothing. No condition. -/
import Derived.Test.YtmmbojeikppinaaPAx13
import Derived.Test.YtmmbojeikppinaaDAlive
import Derived.Test.YtmmbojeikppinaaDSame
namespace Go.Proofs.Ytmmbojeikppinaa.Pure
open Go Go.RowKit Go.TwoGf Go.Proofs.Ytmmbojeikppinaa Go.Proofs.Ytmmbojeikppinaa.PA Go.Proofs.YtmmbojeikppinaaW.PrintWords Go.Proofs.YtmmbojeikppinaaW.PrintLast Go.Proofs.YtmmbojeikppinaaW.PrintMore
set_option linter.unusedVariables false
theorem co_drop (k r : Int) {cells : List Int} {t : Nat} (h : t < cells.length) (i : Nat) : co k r (cells.drop t) i = rd (rw_ (codec_Row.M k.toNat r.toNat) (k.toNat + i)) cells[t] :: co k r (cells.drop (t + 1)) i := by
  rw [List.drop_eq_getElem_cons h]; rfl
theorem moved_step {k r : Int} {cells : List Int} {deltas parity : List (List Int)} {t : Nat} (h : t < cells.length) (h' : t < deltas.length) (hp : ∀ b ∈ parity, isB b) :
    moved k r [cells[t]] [deltas[t]] (moved k r (cells.drop (t + 1)) (deltas.drop (t + 1)) parity) = moved k r (cells.drop t) (deltas.drop t) parity := by
  unfold moved
  rw [upd_upd]
  refine upd_congr parity 0 (fun j p hm => ?_)
  rw [co_drop k r h, List.drop_eq_getElem_cons h', dacc, dacc_addv (hp p hm)]
  rfl
theorem moved_twice {k r : Int} {cells : List Int} {deltas parity : List (List Int)} {n : Nat} (hpa : Alk n parity) (hda : Alk n deltas) (hp : ∀ b ∈ parity, isB b) : moved k r cells deltas (moved k r cells deltas parity) = parity := by
  unfold moved
  rw [upd_upd]
  exact upd_id parity 0 (fun j p hm => dacc_twice (hp p hm) (fun b hb => by rw [(hpa p hm).2.2, (hda b hb).2.2]; exact Nat.le_refl _))
theorem Ok.one {k r : Int} {parity now : List (List Int)} {cells : List Int} {deltas : List (List Int)} {n : Nat} (h : Ok k r parity cells deltas n) (hl : now.length = parity.length) (ha : Alk n now) {t : Nat} (ht : t < cells.length) (ht' : t < deltas.length) : Ok k r now [cells[t]] [deltas[t]] n where
  kr := h.kr
  pl := by rw [hl]; exact h.pl
  cl := by have := h.kr.1; simpa using this
  ck := ⟨fun x hx => by rw [List.mem_singleton.1 hx]; exact h.ck.1 _ (List.getElem_mem _), by simp⟩
  dl := rfl
  ap := ha
  ad := fun x hx => by rw [List.mem_singleton.1 hx]; exact h.ad _ (List.getElem_mem _)
theorem Ok.now {k r : Int} {parity now : List (List Int)} {cells : List Int} {deltas : List (List Int)} {n : Nat} (h : Ok k r parity cells deltas n) (hl : now.length = parity.length) (ha : Alk n now) : Ok k r now cells deltas n :=
  ⟨h.kr, by rw [hl]; exact h.pl, h.cl, h.ck, h.dl, ha, h.ad⟩
theorem steps_l0 {k r : Int} {parity : List (List Int)} {cells : List Int} {deltas : List (List Int)} {n : Nat} (h : Ok k r parity cells deltas n) (hp : ∀ b ∈ parity, isB b) (hd : ∀ b ∈ deltas, isB b) :
    ∀ (t K : Nat), t ≤ cells.length → t + 70 ≤ K → twoslotlaw05_DeltaSteps.l0 K k r parity cells deltas (moved k r cells deltas parity) (moved k r (cells.drop t) (deltas.drop t) parity) ((t : Int) - 1) = some true
  | 0, K, ht, hK => by
    obtain ⟨K, rfl⟩ : ∃ m, K = m + 1 := ⟨K - 1, by omega⟩
    have hpl := h.pl
    have hr := h.kr.2.2.2
    have ha := moved_alk (k := k) (r := r) (cells := cells) h.ap h.ad
    have hl := moved_len k r cells deltas parity
    simp only [twoslotlaw05_DeltaSteps.l0]
    rw [if_neg (by omega), all_ok (by omega) (h.now hl ha) (moved_B hp) hd]
    simp only [Option.bind_some]
    rw [if_pos trivial, List.drop_zero, List.drop_zero, sameAll_f (by omega) (by omega)]
    simp only [Option.bind_some]
    rw [if_pos trivial, moved_twice h.ap h.ad hp, sameAll_f (by omega) (by omega)]
    rfl
  | t + 1, K, ht, hK => by
    obtain ⟨K, rfl⟩ : ∃ m, K = m + 1 := ⟨K - 1, by omega⟩
    have hdl := h.dl
    have hcl := h.cl
    have hk2 := h.kr.2.1
    have h1 : t < cells.length := by omega
    have h2 : t < deltas.length := by omega
    have hda : Alk n (deltas.drop (t + 1)) := fun x hx => h.ad x (List.mem_of_mem_drop hx)
    have ha := moved_alk (k := k) (r := r) (cells := cells.drop (t + 1)) h.ap hda
    have hl := moved_len k r (cells.drop (t + 1)) (deltas.drop (t + 1)) parity
    have hw : wrap64 ((t : Int) - 1) = (t : Int) - 1 := by unfold wrap64; omega
    simp only [twoslotlaw05_DeltaSteps.l0]
    rw [show (((t + 1 : Nat) : Int) - 1) = (t : Int) by omega]
    rw [if_pos (by omega), if_pos (by omega), if_pos (by omega), if_pos (by omega), rd_nat h1, rd_L1_nat h2, parity_ok (by omega) (h.one hl ha h1 h2) (moved_B hp) (hd _ (List.getElem_mem _))]
    simp only [Option.bind_some]
    rw [if_pos trivial, hw, moved_step h1 h2 hp]
    exact steps_l0 h hp hd t K (by omega) (by omega)
theorem DeltaSteps : twoslotlaw05_DeltaSteps.Pure := fun k r parity cells deltas hk hr hp hc hd => by
  obtain ⟨K, hK⟩ : ∃ K, 600 ≤ K := ⟨600, Nat.le_refl _⟩
  have hpB : ∀ b ∈ parity, isB b := fun b hb => isB_wf (hp.2.2 b hb).2.2
  have hdB : ∀ b ∈ deltas, isB b := fun b hb => isB_wf (hd.2.2 b hb).2.2
  refine ⟨K, ?_⟩
  have hj : twoslotlaw05_DeltaSteps.j0 K k r parity cells deltas true = some true := by
    obtain ⟨K, rfl⟩ : ∃ m, K = m + 1 := ⟨K - 1, by omega⟩
    simp [twoslotlaw05_DeltaSteps.j0]
  unfold twoslotlaw05_DeltaSteps.f
  rw [alive_f (by omega)]
  simp only [Option.bind_some]
  rw [if_pos trivial]
  rcases much_f (K := K) (by omega) parity with h1 | ⟨h1, h1'⟩ <;> rw [h1] <;> simp only [Option.bind_some]
  · rw [if_pos trivial, hj]
  rw [if_neg (by simp)]
  rcases much_f (K := K) (by omega) deltas with h2 | ⟨h2, h2'⟩ <;> rw [h2] <;> simp only [Option.bind_some]
  · rw [if_pos trivial, hj]
  rw [if_neg (by simp)]
  by_cases h3 : (cells.length : Int) > 60
  · rw [decide_eq_true h3, hj]
  rw [decide_eq_false h3]
  obtain ⟨K, rfl⟩ : ∃ m, K = m + 1 := ⟨K - 1, by omega⟩
  simp only [twoslotlaw05_DeltaSteps.j0]
  rw [if_neg (by simp)]
  rcases all_any (K := K) (by omega) hk hr hpB hdB (cells := cells) with ⟨n, h⟩ | ⟨e, h4, h5⟩
  · have hw : wrap64 ((cells.length : Int) - 1) = (cells.length : Int) - 1 := by unfold wrap64; omega
    rw [all_ok (by omega) h hpB hdB]
    simp only [Option.bind_some]
    rw [if_pos trivial, hw]
    have hdl := h.dl
    have := steps_l0 h hpB hdB cells.length K (Nat.le_refl _) (by omega)
    rw [List.drop_length, ← hdl, List.drop_length] at this
    have e0 : moved k r [] [] parity = parity := by
      unfold moved
      exact upd_id parity 0 (fun j p hm => rfl)
    rw [e0, hdl] at this
    exact this
  · rw [h5]
    simp only [Option.bind_some]
    rw [if_neg h4]
    rfl
end Go.Proofs.Ytmmbojeikppinaa.Pure
