/- Parity brought up to date, in plain Lean: what delta.Of, Parity and All tell, for every input. No condition. -/
import Derived.Test.YtmmbojeikppinaaPEx8
import Derived.Test.YtmmbojeikppinaaPEx0
import Derived.Test.YtmmbojeikppinaaCdMap
import Derived.Test.YtmmbojeikppinaaMxSpo
import Derived.Test.YtmmbojeikppinaaPEx3
import Derived.Test.YtmmbojeikppinaaPEx7
import Derived.Test.YtmmbojeikppinaaPEx9
import Derived.Test.YtmmbojeikppinaaDRefC
import Derived.Test.YtmmbojeikppinaaDSame
namespace Go.Proofs.Ytmmbojeikppinaa.Pure
open Go Go.RowKit Go.TwoGf Go.Proofs.Ytmmbojeikppinaa Go.Proofs.Ytmmbojeikppinaa.PE Go.Proofs.YtmmbojeikppinaaW.PrintWords Go.Proofs.YtmmbojeikppinaaW.PrintLast Go.Proofs.YtmmbojeikppinaaW.PrintMore
set_option linter.unusedVariables false
theorem dalike_f (l : List (List Int)) : delta_alike.f l = some (decide (Alk (rd_L1 l 0).length l)) := by
  unfold delta_alike.f
  congr 1
  rw [Bool.eq_iff_iff, decide_eq_true_eq]
  generalize (rd_L1 l 0).length = n
  unfold Alk delta_alike.bad
  simp only [Bool.not_eq_true', List.any_eq_false, Bool.or_eq_true, decide_eq_true_eq, not_or]
  constructor
  · intro h x hx
    have := h x hx
    omega
  · intro h x hx
    have := h x hx
    omega
theorem asked_f {k r : Int} (hk : in64 k) (hr : in64 r) (p : List (List Int)) : delta_asked.f k r p = some (if okK k r then (if (p.length : Int) = r ∧ Alk (rd_L1 p 0).length p then 0 else 40) else 2) := by
  unfold delta_asked.f
  by_cases h : okK k r
  · rw [if_pos h]
    obtain ⟨h1, h2, h3, h4⟩ := h
    rw [row_f h1 h2 h3 h4 (by omega) (by omega)]
    simp only [Option.bind_some]
    by_cases h5 : (p.length : Int) = r
    · rw [if_pos trivial, if_pos h5, dalike_f]
      simp only [Option.bind_some]
      by_cases h6 : Alk (rd_L1 p 0).length p
      · rw [if_pos (decide_eq_true h6), if_pos ⟨h5, h6⟩]
      · rw [if_neg (by simpa using h6), if_neg (fun z => h6 z.2)]
    · rw [if_pos trivial, if_neg h5, if_neg (fun z => h5 z.1)]
  · rw [if_neg h, row_bad hk hr (in64_of (by omega) (by omega)) h]
    rfl
/-- what a parity cell's number multiplies the changed cells by -/
def co (k r : Int) (cells : List Int) (i : Nat) : List Int := cells.map (rd (rw_ (codec_Row.M k.toNat r.toNat) (k.toNat + i)))
theorem co_len (k r : Int) (cells : List Int) (i : Nat) : (co k r cells i).length = cells.length := by simp [co]
theorem co_B {k r : Int} (h : okK k r) (cells : List Int) (i : Nat) : isB (co k r cells i) := fun x hx => by
  simp only [co, List.mem_map] at hx
  obtain ⟨c, _, rfl⟩ := hx
  obtain ⟨h1, h2, h3, h4⟩ := h
  exact isB_rd (rw_B (allM_B (by omega) (by omega)) _) _
/-- all is right -/
structure Ok (k r : Int) (parity : List (List Int)) (cells : List Int) (deltas : List (List Int)) (n : Nat) : Prop where
  kr : okK k r
  pl : (parity.length : Int) = r
  cl : (cells.length : Int) ≤ k
  ck : delta_All.okc k cells
  dl : deltas.length = cells.length
  ap : Alk n parity
  ad : Alk n deltas
theorem addK_f {K : Nat} (hK : 60 ≤ K) {k r : Int} {parity : List (List Int)} {cells : List Int} {deltas : List (List Int)} {n : Nat} (h : Ok k r parity cells deltas n) (hd : ∀ b ∈ deltas, isB b) {i : Nat} (hi : i < parity.length) :
    delta_All.add K k r parity cells deltas (i : Int) = some (dacc (List.replicate n 0) (co k r cells i) deltas, 0) := by
  obtain ⟨h1, h2, h3, h4⟩ := h.kr
  have hpl := h.pl
  have hcl := h.cl
  have hdl := h.dl
  have hw : wrap64 (k + (i : Int)) = k + i := by unfold wrap64; omega
  unfold delta_All.add
  rw [hw, row_f h1 h2 h3 h4 (by omega) (by omega), show (k + (i : Int)).toNat = k.toNat + i by omega]
  simp only [Option.bind_some]
  rw [if_neg (by simp)]
  by_cases hc : cells = []
  · subst hc
    rw [if_pos rfl, rd_L1_n h.ap hi, if_pos (by have := (h.ap _ (List.getElem_mem hi)); omega)]
    simp [co, dacc]
  · have hlen := rect_row (allM_rect k.toNat r.toNat) (i := k.toNat + i) (by omega)
    have hcp : 0 < cells.length := List.length_pos_iff.2 hc
    rw [if_neg hc, if_pos ⟨by omega, fun x hx => by rw [hlen]; have := h.ck.1 x hx; omega⟩]
    show kernel_Dot.f K (co k r cells i) deltas = _
    rw [dot_f (by omega) (by omega) (co_B h.kr cells i) hd]
    unfold dotv
    rw [if_pos ⟨by rw [co_len]; omega, by rw [co_len]; exact hdl, alk_dots h.ad⟩, if_neg (by omega), show (rd_L1 deltas 0).length = n from rd_L1_n h.ad (i := 0) (by omega)]
theorem sumK_f {K : Nat} (hK : 9 ≤ K) {add : Int → Option (List Int × Int)} {n : Nat} {v : Nat → List Int} : ∀ (ps : List (List Int)) (i : Nat) (out : List (List Int)), Alk n ps → (∀ j, i ≤ j → j < i + ps.length → add (j : Int) = some (v j, 0) ∧ isB (v j) ∧ (v j).length = n) →
    delta_All.sum K add ps (i : Int) out = some (out ++ upd (fun j p => addv p 1 (v j)) ps i, 0)
  | [], i, out, _, _ => by simp [delta_All.sum, upd]
  | p :: ps, i, out, ha, h => by
    obtain ⟨h1, h2, h3⟩ := h i (Nat.le_refl _) (by simp)
    have hp := ha p (by simp)
    rw [delta_All.sum, h1]
    simp only [Option.bind_some]
    rw [if_neg (by simp), xor_f hK h2]
    unfold plusv
    rw [if_pos ⟨hp.2.1, by omega⟩]
    simp only [Option.bind_some]
    rw [if_neg (by simp)]
    have := sumK_f hK ps (i + 1) (out ++ [addv p 1 (v i)]) (fun x hx => ha x (by simp [hx])) (fun j hj1 hj2 => h j (by omega) (by simp only [List.length_cons]; omega))
    rw [show ((i + 1 : Nat) : Int) = (i : Int) + 1 by omega] at this
    rw [this, upd]
    simp
/-- several changes are added to each parity cell -/
def moved (k r : Int) (cells : List Int) (deltas : List (List Int)) (parity : List (List Int)) : List (List Int) := upd (fun i p => dacc p (co k r cells i) deltas) parity 0
theorem app_alk {n : Nat} {a b : List (List Int)} : Alk n (a ++ b) ↔ Alk n a ∧ Alk n b := by
  unfold Alk
  simp only [List.mem_append]
  exact ⟨fun h => ⟨fun x hx => h x (.inl hx), fun x hx => h x (.inr hx)⟩, fun h x hx => hx.elim (h.1 x) (h.2 x)⟩
theorem alk_self {n : Nat} {l : List (List Int)} (h : Alk n l) : Alk (rd_L1 l 0).length l := by
  intro x hx
  have hx' := h x hx
  have e : (rd_L1 l 0).length = n := by
    cases l with
    | nil => cases hx
    | cons y l => exact (h y (by simp)).2.2
  rw [e]; exact hx'
theorem in64_ok {k r : Int} (h : okK k r) : in64 k ∧ in64 r := ⟨in64_of (by have := h.1; omega) (by have := h.2.1; omega), in64_of (by have := h.2.2.1; omega) (by have := h.2.2.2; omega)⟩
theorem all_ok {K : Nat} (hK : 60 ≤ K) {k r : Int} {parity : List (List Int)} {cells : List Int} {deltas : List (List Int)} {n : Nat} (h : Ok k r parity cells deltas n) (hp : ∀ b ∈ parity, isB b) (hd : ∀ b ∈ deltas, isB b) :
    delta_All.f K k r parity cells deltas = some (moved k r cells deltas parity, 0) := by
  obtain ⟨h1, h2, h3, h4⟩ := h.kr
  have hpl := h.pl
  have hcl := h.cl
  have hdl := h.dl
  unfold delta_All.f
  rw [asked_f (in64_ok h.kr).1 (in64_ok h.kr).2, if_pos h.kr, if_pos ⟨h.pl, alk_self h.ap⟩]
  simp only [Option.bind_some]
  rw [if_neg (by simp), if_neg (by omega), if_pos h.ck, if_neg (by simp [h.dl]), if_pos ⟨by omega, by omega⟩, dalike_f]
  simp only [Option.bind_some]
  rw [if_pos (decide_eq_true (alk_self (app_alk.2 ⟨h.ad, h.ap⟩)))]
  have key := sumK_f (K := K) (by omega) (add := delta_All.add K k r parity cells deltas) (n := n) (v := fun i => dacc (List.replicate n 0) (co k r cells i) deltas) parity 0 [] h.ap (fun j _ hj => ⟨addK_f hK h hd (by omega), dacc_B (isB_rep _), by
    rw [dacc_len (fun b hb => by rw [List.length_replicate, (h.ad b hb).2.2]; exact Nat.le_refl _), List.length_replicate]⟩)
  rw [show ((0 : Nat) : Int) = 0 from rfl] at key
  rw [key, List.nil_append]
  unfold moved
  rw [upd_congr parity 0 (fun j p hm => add_sum (hp p hm) (h.ap p hm).2.2 (co k r cells j) deltas)]
theorem parity_ok {K : Nat} (hK : 60 ≤ K) {k r : Int} {parity : List (List Int)} {c : Int} {d : List Int} {n : Nat} (h : Ok k r parity [c] [d] n) (hp : ∀ b ∈ parity, isB b) (hd : isB d) :
    delta_Parity.f K k r parity c d = some (moved k r [c] [d] parity, 0) := by
  unfold delta_Parity.f
  rw [asked_f (in64_ok h.kr).1 (in64_ok h.kr).2, if_pos h.kr, if_pos ⟨h.pl, alk_self h.ap⟩]
  simp only [Option.bind_some]
  rw [if_neg (by simp), all_ok hK h hp (fun b hb => by rw [List.mem_singleton.1 hb]; exact hd)]
theorem moved_len (k r : Int) (cells : List Int) (deltas parity : List (List Int)) : (moved k r cells deltas parity).length = parity.length := upd_len _ _ _
theorem moved_alk {k r : Int} {cells : List Int} {deltas parity : List (List Int)} {n : Nat} (hp : Alk n parity) (hd : Alk n deltas) : Alk n (moved k r cells deltas parity) := by
  refine upd_all parity 0 (fun j p hm => ?_)
  have := hp p hm
  rw [dacc_len (fun b hb => by rw [this.2.2, (hd b hb).2.2]; exact Nat.le_refl _)]
  exact this
end Go.Proofs.Ytmmbojeikppinaa.Pure
