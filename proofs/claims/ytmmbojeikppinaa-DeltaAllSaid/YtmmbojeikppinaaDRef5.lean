/- The document's layer 5: what Of, All and Parity tell is what delta tells, for every input. No condition. -/
import Derived.Test.YtmmbojeikppinaaPEx21
import Derived.Test.YtmmbojeikppinaaPEx0
import Derived.Test.YtmmbojeikppinaaCdMap
import Derived.Test.YtmmbojeikppinaaMxSpo
import Derived.Test.YtmmbojeikppinaaPEx15
import Derived.Test.YtmmbojeikppinaaPEx9
import Derived.Test.YtmmbojeikppinaaPEx7
import Derived.Test.YtmmbojeikppinaaPEx8
import Derived.Test.YtmmbojeikppinaaDlt
import Derived.Test.YtmmbojeikppinaaDRefC
import Derived.Test.YtmmbojeikppinaaDSame
import Derived.Test.YtmmbojeikppinaaPEx17
import Derived.Test.YtmmbojeikppinaaPEx18
import Derived.Test.YtmmbojeikppinaaGF
namespace Go.Proofs.Ytmmbojeikppinaa.Pure
open Go Go.RowKit Go.TwoGf Go.Proofs.Ytmmbojeikppinaa Go.Proofs.Ytmmbojeikppinaa.PE Go.Proofs.YtmmbojeikppinaaW.PrintWords Go.Proofs.YtmmbojeikppinaaW.PrintLast Go.Proofs.YtmmbojeikppinaaW.PrintMore
set_option linter.unusedVariables false
theorem cell_f (l : List Int) : twoslotref05_cell.f l = some (decide (1 ≤ l.length ∧ l.length ≤ 65536)) := by
  unfold twoslotref05_cell.f
  by_cases h : 1 ≤ l.length
  · rw [if_pos (by omega)]
    congr 1
    rw [Bool.eq_iff_iff]
    simp; omega
  · rw [if_neg (by omega), decide_eq_false (by omega)]
theorem rof_f {K : Nat} (hK : 70000 ≤ K) {a b : List Int} (hb : isB b) : twoslotref05_Of.f K a b = some (if 1 ≤ a.length ∧ a.length ≤ 65536 ∧ b.length = a.length then (addv a 1 b, 0) else ([], 40)) := by
  unfold twoslotref05_Of.f
  rw [cell_f, cell_f]
  simp only [Option.bind_some]
  by_cases h1 : 1 ≤ a.length ∧ a.length ≤ 65536
  · rw [if_pos (decide_eq_true h1)]
    by_cases h2 : 1 ≤ b.length ∧ b.length ≤ 65536
    · rw [if_pos (decide_eq_true h2)]
      by_cases h3 : a.length = b.length
      · rw [if_pos (by omega), if_pos (by omega), radd_f (by omega) (by decide) hb (by omega) (by omega)]
        rfl
      · rw [if_neg (by omega), if_neg (by omega)]
    · rw [if_neg (by simpa using h2), if_neg (by omega)]
  · rw [if_neg (by simpa using h1), if_neg (by omega)]
theorem rasked_l0 {r : Int} {p : List (List Int)} (hr : r ≤ 4) (hl : (p.length : Int) = r) : ∀ (d K i : Nat), i + d = p.length → d < K → twoslotref05_asked.l0 K r p (i : Int) = some (if Alk (rd_L1 p 0).length (p.drop i) then 0 else 40)
  | 0, K, i, hi, hK => by
    obtain ⟨K, rfl⟩ : ∃ m, K = m + 1 := ⟨K - 1, by omega⟩
    obtain rfl : i = p.length := by omega
    simp only [twoslotref05_asked.l0]
    rw [if_neg (by omega), List.drop_length, if_pos (show Alk (rd_L1 p 0).length [] from fun x hx => by cases hx)]
  | d + 1, K, i, hi, hK => by
    obtain ⟨K, rfl⟩ : ∃ m, K = m + 1 := ⟨K - 1, by omega⟩
    have hlt : i < p.length := by omega
    have ih := rasked_l0 hr hl d K (i + 1) (by omega) (by omega)
    rw [show ((i + 1 : Nat) : Int) = (i : Int) + 1 by omega] at ih
    simp only [twoslotref05_asked.l0]
    rw [if_pos (by omega), if_pos (by omega), if_pos (by omega), rd_L1_nat hlt, cell_f, wrap_s (by omega) (by omega), ih, List.drop_eq_getElem_cons hlt]
    simp only [Option.bind_some]
    by_cases h1 : 1 ≤ p[i].length ∧ p[i].length ≤ 65536
    · rw [if_pos (decide_eq_true h1), if_pos (by omega)]
      by_cases h2 : p[i].length = (rd_L1 p 0).length
      · rw [if_pos (by omega)]
        by_cases h3 : Alk (rd_L1 p 0).length (p.drop (i + 1))
        · rw [if_pos h3, if_pos (show Alk (rd_L1 p 0).length (p[i] :: p.drop (i + 1)) from fun x hx => (List.mem_cons.1 hx).elim (fun e => by rw [e]; exact ⟨h1.1, h1.2, h2⟩) (h3 x))]
        · rw [if_neg h3, if_neg (fun z : Alk (rd_L1 p 0).length (p[i] :: p.drop (i + 1)) => h3 fun x hx => z x (List.mem_cons_of_mem _ hx))]
      · rw [if_neg (by omega), if_neg (fun z : Alk (rd_L1 p 0).length (p[i] :: p.drop (i + 1)) => h2 (z _ List.mem_cons_self).2.2)]
    · rw [if_neg (by simpa using h1), if_neg (fun z : Alk (rd_L1 p 0).length (p[i] :: p.drop (i + 1)) => h1 ⟨(z _ List.mem_cons_self).1, (z _ List.mem_cons_self).2.1⟩)]
theorem rasked_f {K : Nat} (hK : 100 ≤ K) (k r : Int) (p : List (List Int)) : twoslotref05_asked.f K k r p = some (if okK k r then (if (p.length : Int) = r ∧ Alk (rd_L1 p 0).length p then 0 else 40) else 2) := by
  obtain ⟨K, rfl⟩ : ∃ m, K = m + 1 := ⟨K - 1, by omega⟩
  have bad : ¬ okK k r → twoslotref05_asked.f (K + 1) k r p = some 2 := fun h => by
    unfold twoslotref05_asked.f
    simp only [twoslotref05_asked.j0]
    unfold okK at h
    by_cases h1 : k < 1
    · rw [if_pos h1]; rfl
    rw [if_neg h1]
    by_cases h2 : k > 12
    · rw [if_pos h2]; rfl
    rw [if_neg h2]
    by_cases h3 : r < 0
    · rw [if_pos h3]; rfl
    rw [if_neg h3, decide_eq_true (by omega)]; rfl
  by_cases h : okK k r
  case neg => rw [if_neg h]; exact bad h
  rw [if_pos h]
  obtain ⟨h1, h2, h3, h4⟩ := h
  unfold twoslotref05_asked.f
  rw [if_neg (by omega), if_neg (by omega), if_neg (by omega), decide_eq_false (by omega)]
  simp only [twoslotref05_asked.j0]
  rw [if_neg (by simp)]
  by_cases hl : (p.length : Int) = r
  · have := rasked_l0 h4 hl p.length K 0 (by omega) (by omega)
    rw [show ((0 : Nat) : Int) = 0 from rfl, List.drop_zero] at this
    rw [if_pos hl, this]
    by_cases h5 : Alk (rd_L1 p 0).length p
    · rw [if_pos h5, if_pos ⟨hl, h5⟩]
    · rw [if_neg h5, if_neg (fun z => h5 z.2)]
  · rw [if_neg hl, if_neg (fun z => hl z.1)]
/-- what All tells -/
def allv (k r : Int) (parity : List (List Int)) (cells : List Int) (deltas : List (List Int)) : List (List Int) × Int :=
  if okK k r then (if (parity.length : Int) = r ∧ Alk (rd_L1 parity 0).length parity then (if (cells.length : Int) ≤ k then (if delta_All.okc k cells then (if deltas.length = cells.length then (if Alk (rd_L1 (deltas ++ parity) 0).length (deltas ++ parity) then (moved k r cells deltas parity, 0) else ([], 40)) else ([], 40)) else ([], 2)) else ([], 2)) else ([], 40)) else ([], 2)
theorem all_v {K : Nat} (hK : 60 ≤ K) {k r : Int} {parity : List (List Int)} {cells : List Int} {deltas : List (List Int)} (hk : in64 k) (hr : in64 r) (hp : ∀ b ∈ parity, isB b) (hd : ∀ b ∈ deltas, isB b) :
    delta_All.f K k r parity cells deltas = some (allv k r parity cells deltas) := by
  unfold allv
  by_cases h1 : okK k r
  case neg =>
    rw [if_neg h1]
    unfold delta_All.f
    rw [asked_f hk hr, if_neg h1]; rfl
  rw [if_pos h1]
  by_cases h2 : (parity.length : Int) = r ∧ Alk (rd_L1 parity 0).length parity
  case neg =>
    rw [if_neg h2]
    unfold delta_All.f
    rw [asked_f hk hr, if_pos h1, if_neg h2]; rfl
  rw [if_pos h2]
  by_cases h3 : (cells.length : Int) ≤ k
  case neg =>
    rw [if_neg h3]
    unfold delta_All.f
    rw [asked_f hk hr, if_pos h1, if_pos h2]
    simp only [Option.bind_some]
    rw [if_neg (by simp), if_pos (by omega)]
  rw [if_pos h3]
  by_cases h4 : delta_All.okc k cells
  case neg =>
    rw [if_neg h4]
    unfold delta_All.f
    rw [asked_f hk hr, if_pos h1, if_pos h2]
    simp only [Option.bind_some]
    rw [if_neg (by simp), if_neg (by omega), if_neg h4]
  rw [if_pos h4]
  by_cases h5 : deltas.length = cells.length
  case neg =>
    rw [if_neg h5]
    unfold delta_All.f
    rw [asked_f hk hr, if_pos h1, if_pos h2]
    simp only [Option.bind_some]
    rw [if_neg (by simp), if_neg (by omega), if_pos h4, if_pos h5]
  rw [if_pos h5]
  by_cases h6 : Alk (rd_L1 (deltas ++ parity) 0).length (deltas ++ parity)
  case neg =>
    rw [if_neg h6]
    unfold delta_All.f
    rw [asked_f hk hr, if_pos h1, if_pos h2]
    simp only [Option.bind_some]
    have := h1.2.1
    have := h1.2.2.2
    rw [if_neg (by simp), if_neg (by omega), if_pos h4, if_neg (by simp [h5]), if_pos ⟨by omega, by omega⟩, dalike_f]
    simp only [Option.bind_some]
    rw [if_neg (by simpa using h6)]
  rw [if_pos h6]
  obtain ⟨a, b⟩ := app_alk.1 h6
  exact all_ok hK ⟨h1, h2.1, h3, h4, h5, b, a⟩ hp hd
/-- the document's loops -/
theorem l4_v {k r : Int} {cells : List Int} {deltas : List (List Int)} {row : List Int} {n i : Nat} (hd : ∀ b ∈ deltas, isB b) (hda : Alk n deltas) (hdl : deltas.length = cells.length) (hcl : cells.length ≤ 100) (hrow : isB row) (hck : ∀ x ∈ cells, 0 ≤ x ∧ x < row.length) (hn : n ≤ 65536) :
    ∀ (d K j : Nat) (L : List (List Int)), j + d = cells.length → d + 66000 ≤ K → i < L.length → L.length ≤ 100 → (rd_L1 L (i : Int)).length = n → isB (rd_L1 L (i : Int)) →
    ∃ K', K ≤ K' + d + 1 ∧ twoslotref05_All.l4 K k r cells deltas L (i : Int) row (j : Int) = twoslotref05_All.l3 K' k r cells deltas (L.set i (dacc (rd_L1 L (i : Int)) ((cells.map (rd row)).drop j) (deltas.drop j))) ((i + 1 : Nat) : Int)
  | 0, K, j, L, hj, hK, hi, hL, hn1, hb1 => by
    obtain ⟨K, rfl⟩ : ∃ m, K = m + 1 := ⟨K - 1, by omega⟩
    obtain rfl : j = cells.length := by omega
    refine ⟨K, by omega, ?_⟩
    rw [twoslotref05_All.l4, if_neg (by omega), wrap_s (by omega) (by omega), show (i : Int) + 1 = ((i + 1 : Nat) : Int) by omega]
    have e1 : (cells.map (rd row)).drop cells.length = [] := by rw [List.drop_eq_nil_of_le (by simp)]
    have e2 : L.set i (rd_L1 L (i : Int)) = L := by
      rw [rd_L1_nat hi]
      exact List.set_getElem_self hi
    rw [e1, dacc, e2]
    all_goals simp
  | d + 1, K, j, L, hj, hK, hi, hL, hn1, hb1 => by
    obtain ⟨K, rfl⟩ : ∃ m, K = m + 1 := ⟨K - 1, by omega⟩
    have h1 : j < cells.length := by omega
    have h2 : j < deltas.length := by omega
    have hx := hck _ (List.getElem_mem h1)
    have bd := hd _ (List.getElem_mem h2)
    have ld := (hda _ (List.getElem_mem h2)).2.2
    have hle : (rd_L1 L (i : Int)).length ≤ deltas[j].length := by omega
    have e3 : rd_L1 (L.set i (addv (rd_L1 L (i : Int)) (rd row cells[j]) deltas[j])) (i : Int) = addv (rd_L1 L (i : Int)) (rd row cells[j]) deltas[j] := by
      simp [rd_L1, hi]
    obtain ⟨K', a, b⟩ := l4_v (k := k) (r := r) (i := i) hd hda hdl hcl hrow hck hn d K (j + 1) (L.set i (addv (rd_L1 L (i : Int)) (rd row cells[j]) deltas[j])) (by omega) (by omega) (by simpa using hi) (by simpa using hL) (by rw [e3, addv_len _ hle]; exact hn1) (by rw [e3]; exact addv_B _ hb1)
    refine ⟨K', by omega, ?_⟩
    rw [twoslotref05_All.l4, if_pos (by omega), if_pos (by omega), if_pos (by omega), if_pos (by omega), rd_nat h1, if_pos hx.1, if_pos hx.2, if_pos (by omega), rd_L1_nat h2, radd_f (by omega) (isB_rd hrow _) bd hle (by omega)]
    simp only [Option.bind_some]
    rw [Int.toNat_natCast, wrap_s (by omega) (by omega), show (j : Int) + 1 = ((j + 1 : Nat) : Int) by omega, b, e3, List.set_set]
    have e4 : (cells.map (rd row)).drop j = rd row cells[j] :: (cells.map (rd row)).drop (j + 1) := by
      rw [List.drop_eq_getElem_cons (by simpa using h1), List.getElem_map]
    rw [e4, List.drop_eq_getElem_cons h2, dacc]
theorem l3_v {k r : Int} (hkr : okK k r) {cells : List Int} {deltas : List (List Int)} {n : Nat} (hd : ∀ b ∈ deltas, isB b) (hda : Alk n deltas) (hdl : deltas.length = cells.length) (hcl : (cells.length : Int) ≤ k) (hck : delta_All.okc k cells) (hn : n ≤ 65536) :
    ∀ (ps pre : List (List Int)) (K : Nat), (pre.length : Int) + ps.length = r → Alk n ps → (∀ b ∈ ps, isB b) → 20 * ps.length + 66100 ≤ K →
    twoslotref05_All.l3 K k r cells deltas (pre ++ ps) (pre.length : Int) = some (pre ++ upd (fun i p => dacc p (co k r cells i) deltas) ps pre.length, 0)
  | [], pre, K, hl, _, _, hK => by
    obtain ⟨K, rfl⟩ : ∃ m, K = m + 1 := ⟨K - 1, by omega⟩
    simp only [List.length_nil] at hl
    rw [twoslotref05_All.l3, if_neg (by omega)]; rfl
  | p :: ps, pre, K, hl, hpa, hpb, hK => by
    obtain ⟨K, rfl⟩ : ∃ m, K = m + 1 := ⟨K - 1, by omega⟩
    have hk0 := hkr
    obtain ⟨k1, k2, k3, k4⟩ := hkr
    simp only [List.length_cons] at hl hK
    have hrl : (rw_ (codec_Row.M k.toNat r.toNat) (k.toNat + pre.length)).length = k.toNat := rect_row (allM_rect k.toNat r.toNat) (by omega)
    have e0 : rd_L1 (pre ++ p :: ps) (pre.length : Int) = p := by simp [rd_L1]
    obtain ⟨K', a, b⟩ := l4_v (k := k) (r := r) (i := pre.length) (row := rw_ (codec_Row.M k.toNat r.toNat) (k.toNat + pre.length)) hd hda hdl (by omega) (rw_B (allM_B (by omega) (by omega)) _) (fun x hx => by rw [hrl]; have := hck.1 x hx; omega) hn cells.length K 0 (pre ++ p :: ps) (by omega) (by omega) (by simp) (by simp; omega) (by rw [e0]; exact (hpa p (by simp)).2.2) (by rw [e0]; exact hpb p (by simp))
    rw [twoslotref05_All.l3, if_pos (by omega), show wrap64 (k + (pre.length : Int)) = k + (pre.length : Int) by unfold wrap64; omega, rrow_f hk0 (by omega) (by omega)]
    simp only [Option.bind_some]
    rw [show ((0 : Nat) : Int) = 0 from rfl] at b
    rw [b, e0, List.drop_zero, List.drop_zero]
    have e1 : (pre ++ p :: ps).set pre.length (dacc p (cells.map (rd (rw_ (codec_Row.M k.toNat r.toNat) (k.toNat + pre.length)))) deltas) = (pre ++ [dacc p (co k r cells pre.length) deltas]) ++ ps := by
      simp [co]
    rw [e1]
    have := l3_v hk0 hd hda hdl hcl hck hn ps (pre ++ [dacc p (co k r cells pre.length) deltas]) K' (by simp; omega) (fun x hx => hpa x (by simp [hx])) (fun x hx => hpb x (by simp [hx])) (by omega)
    rw [show (pre ++ [dacc p (co k r cells pre.length) deltas]).length = pre.length + 1 by simp] at this
    rw [this, upd]
    simp
/-- are the deltas right -/
def dgood (r : Int) (parity deltas : List (List Int)) (x : List Int) : Prop := (1 ≤ x.length ∧ x.length ≤ 65536) ∧ x.length = (rd_L1 deltas 0).length ∧ (0 < r → x.length = (rd_L1 parity 0).length)
theorem dgood_alk {r : Int} {parity deltas : List (List Int)} (hpl : (parity.length : Int) = r) (hpa : Alk (rd_L1 parity 0).length parity) : (∀ x ∈ deltas, dgood r parity deltas x) ↔ Alk (rd_L1 (deltas ++ parity) 0).length (deltas ++ parity) := by
  cases deltas with
  | nil =>
    simp only [List.nil_append]
    exact ⟨fun _ => hpa, fun _ x hx => by cases hx⟩
  | cons y l =>
    have e1 : rd_L1 ((y :: l) ++ parity) 0 = y := rfl
    have e2 : rd_L1 (y :: l) 0 = y := rfl
    rw [e1, app_alk]
    unfold dgood
    rw [e2]
    constructor
    · intro h
      refine ⟨fun x hx => ?_, fun x hx => ?_⟩
      · have := h x hx; exact ⟨this.1.1, this.1.2, this.2.1⟩
      · have h0 := h y (by simp)
        have hp := hpa x hx
        have hr : 0 < r := by have := List.length_pos_of_mem hx; omega
        have := h0.2.2 hr
        exact ⟨hp.1, hp.2.1, by omega⟩
    · rintro ⟨h1, h2⟩ x hx
      have hx' := h1 x hx
      refine ⟨⟨hx'.1, hx'.2.1⟩, hx'.2.2, fun hr => ?_⟩
      have h0 : 0 < parity.length := by omega
      have := h2 _ (List.getElem_mem h0)
      have e3 : rd_L1 parity 0 = parity[0] := rd_L1_nat (i := 0) h0
      rw [e3]; omega
theorem l2_v {k r : Int} {parity : List (List Int)} {cells : List Int} {deltas : List (List Int)} (hpl : (parity.length : Int) = r) (hpb : parity.length ≤ 100) (hpm : ∀ b ∈ parity, b.length ≤ 65536) (hdl : deltas.length ≤ 1000) :
    ∀ (d K i : Nat), i + d = deltas.length → d + 200 ≤ K → (∀ j, j < i → ∀ (h : j < deltas.length), dgood r parity deltas deltas[j]) →
    ((∀ x ∈ deltas, dgood r parity deltas x) ∧ ∃ K', K ≤ K' + d + 1 ∧ twoslotref05_All.l2 K k r parity cells deltas (i : Int) = twoslotref05_All.l3 K' k r cells deltas parity 0) ∨ (¬ (∀ x ∈ deltas, dgood r parity deltas x) ∧ twoslotref05_All.l2 K k r parity cells deltas (i : Int) = some ([], 40))
  | 0, K, i, hi, hK, hpre => by
    obtain ⟨K, rfl⟩ : ∃ m, K = m + 1 := ⟨K - 1, by omega⟩
    refine .inl ⟨fun x hx => ?_, K, by omega, ?_⟩
    · obtain ⟨j, hj, rfl⟩ := List.mem_iff_getElem.1 hx
      exact hpre j (by omega) hj
    · rw [twoslotref05_All.l2, if_neg (by omega), twin_f (by omega) (fun b hb => by have := hpm b hb; omega) (by omega)]
      rfl
  | d + 1, K, i, hi, hK, hpre => by
    obtain ⟨K, rfl⟩ : ∃ m, K = m + 1 := ⟨K - 1, by omega⟩
    have hlt : i < deltas.length := by omega
    have bad : ¬ dgood r parity deltas deltas[i] → ¬ (∀ x ∈ deltas, dgood r parity deltas x) := fun h z => h (z _ (List.getElem_mem hlt))
    have next : dgood r parity deltas deltas[i] → twoslotref05_All.l2 (K + 1) k r parity cells deltas (i : Int) = twoslotref05_All.l2 K k r parity cells deltas ((i + 1 : Nat) : Int) → _ := fun hg he => by
      have := l2_v (k := k) (cells := cells) hpl hpb hpm hdl d K (i + 1) (by omega) (by omega) (fun j hj h => by
        by_cases e : j = i
        · subst e; exact hg
        · exact hpre j (by omega) h)
      rw [← he] at this
      exact this.imp (fun ⟨a, K', b, c⟩ => (⟨a, K', by omega, c⟩ : (∀ x ∈ deltas, dgood r parity deltas x) ∧ ∃ K', K + 1 ≤ K' + (d + 1) + 1 ∧ twoslotref05_All.l2 (K + 1) k r parity cells deltas (i : Int) = twoslotref05_All.l3 K' k r cells deltas parity 0)) id
    have st : twoslotref05_All.l2 (K + 1) k r parity cells deltas (i : Int) = if 1 ≤ deltas[i].length ∧ deltas[i].length ≤ 65536 then (if (deltas[i].length : Int) = ((rd_L1 deltas 0).length : Int) then (if r > 0 then (if 0 < (parity.length : Int) then (if (deltas[i].length : Int) = ((rd_L1 parity 0).length : Int) then twoslotref05_All.l2 K k r parity cells deltas ((i + 1 : Nat) : Int) else some ([], 40)) else none) else twoslotref05_All.l2 K k r parity cells deltas ((i + 1 : Nat) : Int)) else some ([], 40)) else some ([], 40) := by
      rw [twoslotref05_All.l2, if_pos (by omega), if_pos (by omega), rd_L1_nat hlt, cell_f]
      simp only [Option.bind_some]
      rw [wrap_s (by omega) (by omega), show (i : Int) + 1 = ((i + 1 : Nat) : Int) by omega, if_pos (show (0 : Int) < (deltas.length : Int) by omega)]
      simp only [decide_eq_true_eq]
    by_cases h1 : 1 ≤ deltas[i].length ∧ deltas[i].length ≤ 65536
    case neg => exact .inr ⟨bad (fun z => h1 z.1), by rw [st, if_neg h1]⟩
    rw [if_pos h1] at st
    by_cases h2 : deltas[i].length = (rd_L1 deltas 0).length
    case neg => exact .inr ⟨bad (fun z => h2 z.2.1), by rw [st, if_neg (by omega)]⟩
    rw [if_pos (by omega)] at st
    by_cases h3 : r > 0
    · rw [if_pos h3, if_pos (by omega)] at st
      by_cases h4 : deltas[i].length = (rd_L1 parity 0).length
      · rw [if_pos (by omega)] at st
        exact next ⟨h1, h2, fun _ => h4⟩ st
      · exact .inr ⟨bad (fun z => h4 (z.2.2 h3)), by rw [st, if_neg (by omega)]⟩
    · rw [if_neg h3] at st
      exact next ⟨h1, h2, fun z => absurd z h3⟩ st
/-- cells so far -/
def cgood (k : Int) (cells : List Int) (i : Nat) : Prop := ∀ j, j < i → ∀ (h : j < cells.length), (0 ≤ cells[j] ∧ cells[j] < k) ∧ ∀ q, ∀ (hq : q < j), cells[j] ≠ cells[q]
theorem cgood_okc {k : Int} {cells : List Int} : cgood k cells cells.length ↔ delta_All.okc k cells := by
  constructor
  · intro h
    refine ⟨fun x hx => ?_, ?_⟩
    · obtain ⟨j, hj, rfl⟩ := List.mem_iff_getElem.1 hx
      exact (h j hj hj).1
    · rw [List.nodup_iff_pairwise_ne, List.pairwise_iff_getElem]
      intro q j hq hj hqj e
      exact (h j hj hj).2 q hqj e.symm
  · rintro ⟨h1, h2⟩ j hj hj'
    refine ⟨h1 _ (List.getElem_mem hj'), fun q hq e => ?_⟩
    rw [List.nodup_iff_pairwise_ne, List.pairwise_iff_getElem] at h2
    exact h2 q j (by omega) hj' hq e.symm
theorem l1_v {k r : Int} {parity : List (List Int)} {cells : List Int} {deltas : List (List Int)} (hcl : cells.length ≤ 1000) {i : Nat} (hi : i < cells.length) :
    ∀ (d K j : Nat) (hjd : j + d = i), d + 10 ≤ K → (∀ q, ∀ (hq : q < j), cells[i] ≠ cells[q]'(by omega)) → j ≤ i →
    ((∀ q, ∀ (hq : q < i), cells[i] ≠ cells[q]) ∧ ∃ K', K ≤ K' + d + 1 ∧ twoslotref05_All.l1 K k r parity cells deltas (i : Int) (j : Int) = twoslotref05_All.l0 K' k r parity cells deltas ((i + 1 : Nat) : Int)) ∨ (¬ (∀ q, ∀ (hq : q < i), cells[i] ≠ cells[q]) ∧ twoslotref05_All.l1 K k r parity cells deltas (i : Int) (j : Int) = some ([], 2))
  | 0, K, j, hj, hK, hpre, hle => by
    obtain ⟨K, rfl⟩ : ∃ m, K = m + 1 := ⟨K - 1, by omega⟩
    obtain rfl : j = i := by omega
    refine .inl ⟨hpre, K, by omega, ?_⟩
    rw [twoslotref05_All.l1, if_neg (by omega), wrap_s (by omega) (by omega), show (j : Int) + 1 = ((j + 1 : Nat) : Int) by omega]
  | d + 1, K, j, hj, hK, hpre, hle => by
    obtain ⟨K, rfl⟩ : ∃ m, K = m + 1 := ⟨K - 1, by omega⟩
    have hjl : j < cells.length := by omega
    have st : twoslotref05_All.l1 (K + 1) k r parity cells deltas (i : Int) (j : Int) = if cells[i] = cells[j] then some ([], 2) else twoslotref05_All.l1 K k r parity cells deltas (i : Int) ((j + 1 : Nat) : Int) := by
      rw [twoslotref05_All.l1, if_pos (by omega), if_pos (by omega), if_pos (by omega), if_pos (by omega), if_pos (by omega), rd_nat hi, rd_nat hjl, wrap_s (by omega) (by omega), show (j : Int) + 1 = ((j + 1 : Nat) : Int) by omega]
    by_cases e : cells[i] = cells[j]
    · rw [if_pos e] at st
      exact .inr ⟨fun z => z j (by omega) e, st⟩
    · rw [if_neg e] at st
      rw [st]
      rcases l1_v (k := k) (r := r) (parity := parity) (deltas := deltas) hcl hi d K (j + 1) (by omega) (by omega) (fun q hq => by
        by_cases e2 : q = j
        · subst e2; exact e
        · exact hpre q (by omega)) (by omega) with ⟨a, K', b, c⟩ | h
      · exact .inl ⟨a, K', by omega, c⟩
      · exact .inr h
theorem l0_v {k r : Int} {parity : List (List Int)} {cells : List Int} {deltas : List (List Int)} (hcl : cells.length ≤ 100) :
    ∀ (d K i : Nat), i + d = cells.length → 110 * d + 20 ≤ K → cgood k cells i →
    (delta_All.okc k cells ∧ ∃ K', K ≤ K' + 110 * d + 1 ∧ twoslotref05_All.l0 K k r parity cells deltas (i : Int) = if (deltas.length : Int) = (cells.length : Int) then twoslotref05_All.l2 K' k r parity cells deltas 0 else some ([], 40)) ∨ (¬ delta_All.okc k cells ∧ twoslotref05_All.l0 K k r parity cells deltas (i : Int) = some ([], 2))
  | 0, K, i, hi, hK, hpre => by
    obtain ⟨K, rfl⟩ : ∃ m, K = m + 1 := ⟨K - 1, by omega⟩
    obtain rfl : i = cells.length := by omega
    refine .inl ⟨cgood_okc.1 hpre, K, by omega, ?_⟩
    rw [twoslotref05_All.l0, if_neg (by omega)]
  | d + 1, K, i, hi, hK, hpre => by
    obtain ⟨K, rfl⟩ : ∃ m, K = m + 1 := ⟨K - 1, by omega⟩
    have hlt : i < cells.length := by omega
    have bad : ¬ ((0 ≤ cells[i] ∧ cells[i] < k) ∧ ∀ q, ∀ (hq : q < i), cells[i] ≠ cells[q]) → ¬ delta_All.okc k cells := fun h z => h (cgood_okc.2 z i hlt hlt)
    obtain ⟨K2, hK2⟩ : ∃ m, K = m + 1 := ⟨K - 1, by omega⟩
    by_cases h1 : 0 ≤ cells[i] ∧ cells[i] < k
    case neg =>
      refine .inr ⟨bad (fun z => h1 z.1), ?_⟩
      rw [twoslotref05_All.l0, if_pos (by omega), if_pos (by omega), rd_nat hlt, hK2]
      by_cases h2 : cells[i] < 0
      · rw [if_pos h2, twoslotref05_All.j1, if_pos rfl]
      · rw [if_neg h2, decide_eq_true (by omega), twoslotref05_All.j1, if_pos rfl]
    have st : twoslotref05_All.l0 (K + 1) k r parity cells deltas (i : Int) = twoslotref05_All.l1 K2 k r parity cells deltas (i : Int) ((0 : Nat) : Int) := by
      rw [twoslotref05_All.l0, if_pos (by omega), if_pos (by omega), rd_nat hlt, hK2, if_neg (by omega), decide_eq_false (by omega), twoslotref05_All.j1, if_neg (by simp)]
      rfl
    rw [st]
    rcases l1_v (k := k) (r := r) (parity := parity) (deltas := deltas) (by omega) hlt i K2 0 (by omega) (by omega) (fun q hq => by omega) (by omega) with ⟨a, K', b, c⟩ | ⟨a, b⟩
    · rw [c]
      rcases l0_v (k := k) (r := r) (parity := parity) (deltas := deltas) hcl d K' (i + 1) (by omega) (by omega) (fun j hj h => by
        by_cases e : j = i
        · subst e; exact ⟨h1, a⟩
        · exact hpre j (by omega) h) with ⟨a', K3, b', c'⟩ | h
      · exact .inl ⟨a', K3, by omega, c'⟩
      · exact .inr h
    · exact .inr ⟨bad (fun z => a z.2), b⟩
theorem rall_v {K : Nat} (hK : 80000 ≤ K) {k r : Int} {parity : List (List Int)} {cells : List Int} {deltas : List (List Int)} (hp : ∀ b ∈ parity, isB b) (hd : ∀ b ∈ deltas, isB b) :
    twoslotref05_All.f K k r parity cells deltas = some (allv k r parity cells deltas) := by
  unfold twoslotref05_All.f allv
  rw [rasked_f (by omega)]
  simp only [Option.bind_some]
  by_cases h1 : okK k r
  case neg => rw [if_neg h1, if_neg h1, if_neg (by decide)]
  rw [if_pos h1, if_pos h1]
  by_cases h2 : (parity.length : Int) = r ∧ Alk (rd_L1 parity 0).length parity
  case neg => rw [if_neg h2, if_neg h2, if_neg (by decide)]
  rw [if_pos h2, if_pos h2, if_pos rfl]
  obtain ⟨k1, k2, k3, k4⟩ := h1
  by_cases h3 : (cells.length : Int) ≤ k
  case neg => rw [if_pos (by omega), if_neg h3]
  rw [if_neg (by omega), if_pos h3]
  rcases l0_v (k := k) (r := r) (parity := parity) (cells := cells) (deltas := deltas) (by omega) cells.length K 0 (by omega) (by omega) (fun j hj => by omega) with ⟨h4, K', a, b⟩ | ⟨h4, b⟩
  · rw [show ((0 : Nat) : Int) = 0 from rfl] at b
    rw [b, if_pos h4]
    by_cases h5 : deltas.length = cells.length
    case neg => rw [if_neg (by omega), if_neg h5]
    rw [if_pos (by omega), if_pos h5]
    rcases l2_v (k := k) (cells := cells) (parity := parity) (deltas := deltas) h2.1 (by omega) (fun b hb => (h2.2 b hb).2.1) (by omega) deltas.length K' 0 (by omega) (by omega) (fun j hj => by omega) with ⟨h6, K3, a2, b2⟩ | ⟨h6, b2⟩
    · rw [show ((0 : Nat) : Int) = 0 from rfl] at b2
      have h7 := (dgood_alk h2.1 h2.2).1 h6
      rw [b2, if_pos h7]
      obtain ⟨x, y⟩ := app_alk.1 h7
      generalize hn : (rd_L1 (deltas ++ parity) 0).length = n at x y
      have hn2 : n ≤ 65536 ∨ (deltas = [] ∧ parity = []) := by
        cases deltas with
        | nil => cases parity with
          | nil => exact .inr ⟨rfl, rfl⟩
          | cons p ps => left; have := y p (by simp); omega
        | cons p ps => left; have := x p (by simp); omega
      rcases hn2 with hn2 | ⟨rfl, rfl⟩
      · exact l3_v ⟨k1, k2, k3, k4⟩ hd x h5 h3 h4 hn2 parity [] K3 (by simp; exact h2.1) y hp (by omega)
      · exact l3_v (n := 1) ⟨k1, k2, k3, k4⟩ hd (fun x hx => by cases hx) h5 h3 h4 (by decide) [] [] K3 (by simpa using h2.1) (fun x hx => by cases hx) hp (by simp; omega)
    · rw [show ((0 : Nat) : Int) = 0 from rfl] at b2
      rw [b2, if_neg (fun z => h6 ((dgood_alk h2.1 h2.2).2 z))]
  · rw [show ((0 : Nat) : Int) = 0 from rfl] at b
    rw [b, if_neg h4]
theorem par_v {K : Nat} (hK : 60 ≤ K) {k r : Int} {parity : List (List Int)} {c : Int} {d : List Int} (hk : in64 k) (hr : in64 r) (hp : ∀ b ∈ parity, isB b) (hd : isB d) :
    delta_Parity.f K k r parity c d = some (allv k r parity [c] [d]) := by
  have h := all_v hK (cells := [c]) (deltas := [d]) hk hr hp (fun b hb => by rw [List.mem_singleton.1 hb]; exact hd)
  unfold delta_Parity.f
  rw [asked_f hk hr]
  simp only [Option.bind_some]
  by_cases h1 : okK k r
  case neg => rw [if_neg h1, if_pos (by decide)]; unfold allv; rw [if_neg h1]
  rw [if_pos h1]
  by_cases h2 : (parity.length : Int) = r ∧ Alk (rd_L1 parity 0).length parity
  case neg => rw [if_neg h2, if_pos (by decide)]; unfold allv; rw [if_pos h1, if_neg h2]
  rw [if_pos h2, if_neg (by simp), h]
theorem rpar_v {K : Nat} (hK : 80000 ≤ K) {k r : Int} {parity : List (List Int)} {c : Int} {d : List Int} (hp : ∀ b ∈ parity, isB b) (hd : isB d) :
    twoslotref05_Parity.f K k r parity c d = some (allv k r parity [c] [d]) := by
  have h := rall_v hK (k := k) (r := r) (cells := [c]) (deltas := [d]) hp (fun b hb => by rw [List.mem_singleton.1 hb]; exact hd)
  unfold twoslotref05_Parity.f
  rw [rasked_f (by omega)]
  simp only [Option.bind_some]
  by_cases h1 : okK k r
  case neg => rw [if_neg h1, if_neg (by decide)]; unfold allv; rw [if_neg h1]
  rw [if_pos h1]
  by_cases h2 : (parity.length : Int) = r ∧ Alk (rd_L1 parity 0).length parity
  case neg => rw [if_neg h2, if_neg (by decide)]; unfold allv; rw [if_pos h1, if_neg h2]
  rw [if_pos h2, if_pos rfl, h]
  rfl
end Go.Proofs.Ytmmbojeikppinaa.Pure
