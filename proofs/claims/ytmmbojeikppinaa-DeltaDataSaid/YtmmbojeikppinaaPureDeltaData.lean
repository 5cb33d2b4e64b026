/- DeltaData, in plain Lean: parity brought up to date by what changed is the parity of the new data, for every input. No condition. -/
import Derived.Test.YtmmbojeikppinaaPDx12
import Derived.Test.YtmmbojeikppinaaDAlive
import Derived.Test.YtmmbojeikppinaaDSame
import Derived.Test.YtmmbojeikppinaaDEnc
namespace Go.Proofs.Ytmmbojeikppinaa.Pure
open Go Go.RowKit Go.TwoGf Go.Proofs.Ytmmbojeikppinaa Go.Proofs.Ytmmbojeikppinaa.PD Go.Proofs.YtmmbojeikppinaaW.PrintWords Go.Proofs.YtmmbojeikppinaaW.PrintLast Go.Proofs.YtmmbojeikppinaaW.PrintMore
set_option linter.unusedVariables false
theorem mI_add_right {c x y : Int} (hc : by8 c) (hx : by8 x) (hy : by8 y) : mI c (aI x y) = aI (mI c x) (mI c y) := by
  obtain ⟨a, ha, rfl⟩ := nat_of hc
  obtain ⟨b, hb, rfl⟩ := nat_of hx
  obtain ⟨n, hn, rfl⟩ := nat_of hy
  rw [aI_nat hb hn, mI_nat, mI_nat, mI_nat, aI_nat (gm_lt _ _) (gm_lt _ _), gm_xor]
theorem addv_swap {c : Int} (hc : by8 c) : ∀ {z b y : List Int}, isB z → isB b → isB y → z.length ≤ b.length → z.length ≤ y.length → addv (addv z c b) c (addv b 1 y) = addv z c y
  | [], _, _, _, _, _, _, _ => by simp [addv]
  | _ :: _, [], _, _, _, _, h, _ => by simp at h
  | _ :: _, _ :: _, [], _, _, _, _, h => by simp at h
  | u :: z, v :: b, w :: y, h1, h2, h3, h4, h5 => by
    have := addv_swap hc (isB_cons h1).2 (isB_cons h2).2 (isB_cons h3).2 (by simpa using h4) (by simpa using h5)
    have hu := (isB_cons h1).1
    have hv := (isB_cons h2).1
    have hw := (isB_cons h3).1
    simp only [addv, List.zipWith_cons_cons] at this ⊢
    rw [this, mI_one hw, mI_add_right hc hv hw, ← aI_assoc (aI_rng hu (mI_rng _ _)) (mI_rng _ _) (mI_rng _ _), aI_back hu (mI_rng _ _)]
theorem dacc_set {y : List Int} (hy : isB y) : ∀ {cs : List Int} {bs : List (List Int)} {z : List Int} {i : Nat}, isB cs → isB z → (∀ b ∈ bs, isB b ∧ z.length ≤ b.length) → z.length ≤ y.length → (h : i < bs.length) → i < cs.length →
    dacc z cs (bs.set i y) = addv (dacc z cs bs) (rd cs (i : Int)) (addv bs[i] 1 y)
  | [], _, _, _, _, _, _, _, _, h => by simp at h
  | _ :: _, [], _, _, _, _, _, _, h, _ => by simp at h
  | c :: cs, b :: bs, z, 0, hc, hz, hb, hl, _, _ => by
    have b0 := hb b (by simp)
    show dacc (addv z c y) cs bs = addv (dacc (addv z c b) cs bs) c (addv b 1 y)
    rw [← dacc_addv (addv_B _ hz), addv_swap (isB_cons hc).1 hz b0.1 hy b0.2 hl]
  | c :: cs, b :: bs, z, i + 1, hc, hz, hb, hl, h, h' => by
    have b0 := hb b (by simp)
    have e : (addv z c b).length = z.length := addv_len _ b0.2
    have := dacc_set hy (cs := cs) (bs := bs) (z := addv z c b) (i := i) (isB_cons hc).2 (addv_B _ hz) (fun x hx => by rw [e]; exact hb x (by simp [hx])) (by rw [e]; exact hl) (by simpa using h) (by simpa using h')
    show dacc (addv z c b) cs (bs.set i y) = _
    rw [this]
    rfl
theorem dacc_app {c : Int} {d : List Int} : ∀ {cs : List Int} {ds : List (List Int)} {z : List Int}, cs.length = ds.length → dacc z (cs ++ [c]) (ds ++ [d]) = addv (dacc z cs ds) c d
  | [], [], _, _ => rfl
  | [], _ :: _, _, h => by simp at h
  | _ :: _, [], _, h => by simp at h
  | e :: cs, b :: bs, z, h => by
    show dacc (addv z e b) (cs ++ [c]) (bs ++ [d]) = addv (dacc (addv z e b) cs bs) c d
    exact dacc_app (by simpa using h)
/-- how far the data cells were gone through -/
structure St (k n i : Nat) (data all : List (List Int)) (cells : List Int) (deltas : List (List Int)) : Prop where
  al : all.length = k
  aa : Alk n all
  ab : ∀ b ∈ all, isB b
  rest : ∀ j, i ≤ j → j < k → all[j]? = data[j]?
  cl : cells.length ≤ i
  dl : deltas.length = cells.length
  da : Alk n deltas
  db : ∀ b ∈ deltas, isB b
  cb : ∀ x ∈ cells, 0 ≤ x ∧ x < i
  cn : cells.Nodup
  sum : ∀ ρ : List Int, isB ρ → ρ.length = k → dacc (List.replicate n 0) ρ all = dacc (dacc (List.replicate n 0) ρ data) (cells.map (rd ρ)) deltas
theorem St.next {k n i : Nat} {data all : List (List Int)} {cells : List Int} {deltas : List (List Int)} (h : St k n i data all cells deltas) : St k n (i + 1) data all cells deltas :=
  ⟨h.al, h.aa, h.ab, fun j h1 h2 => h.rest j (by omega) h2, by have := h.cl; omega, h.dl, h.da, h.db, fun x hx => by have := h.cb x hx; omega, h.cn, h.sum⟩
theorem St.step {k n i : Nat} {data all : List (List Int)} {cells : List Int} {deltas : List (List Int)} (h : St k n i data all cells deltas) (hi : i < k) (hd : data.length = k) {y : List Int} (hy : isB y) (hl : y.length = n) : St k n (i + 1) data (all.set i y) (cells ++ [(i : Int)]) (deltas ++ [addv (data[i]'(by omega)) 1 y]) := by
  have hil : i < all.length := by rw [h.al]; exact hi
  have e : all[i] = data[i]'(by omega) := by
    have := h.rest i (Nat.le_refl _) hi
    rw [List.getElem?_eq_getElem hil, List.getElem?_eq_getElem (by omega)] at this
    exact Option.some.inj this
  have ai := h.aa _ (List.getElem_mem hil)
  have bi := h.ab _ (List.getElem_mem hil)
  have ln : (addv (data[i]'(by omega)) 1 y).length = n := by rw [← e, addv_len _ (by omega)]; exact ai.2.2
  refine ⟨by rw [List.length_set]; exact h.al, fun x hx => ?_, fun x hx => ?_, fun j h1 h2 => ?_, by have := h.cl; simp; omega, by simp [h.dl], fun x hx => ?_, fun x hx => ?_, fun x hx => ?_, ?_, fun ρ h1 h2 => ?_⟩
  · rcases List.mem_or_eq_of_mem_set hx with hx | rfl
    · exact h.aa x hx
    · omega
  · rcases List.mem_or_eq_of_mem_set hx with hx | rfl
    · exact h.ab x hx
    · exact hy
  · rw [List.getElem?_set_ne (by omega)]
    exact h.rest j (by omega) h2
  · rw [List.mem_append, List.mem_singleton] at hx
    rcases hx with hx | rfl
    · exact h.da x hx
    · omega
  · rw [List.mem_append, List.mem_singleton] at hx
    rcases hx with hx | rfl
    · exact h.db x hx
    · exact addv_B _ (by rw [← e]; exact bi)
  · rw [List.mem_append, List.mem_singleton] at hx
    rcases hx with hx | rfl
    · have := h.cb x hx; omega
    · omega
  · rw [List.nodup_append]
    refine ⟨h.cn, by simp, fun a ha b hb => ?_⟩
    rw [List.mem_singleton.1 hb]
    have := h.cb a ha
    omega
  · rw [dacc_set hy h1 (isB_rep n) (fun b hb => ⟨h.ab b hb, by rw [List.length_replicate, (h.aa b hb).2.2]; exact Nat.le_refl _⟩) (by rw [List.length_replicate, hl]; exact Nat.le_refl _) hil (by omega), h.sum ρ h1 h2, List.map_append, List.map_singleton, dacc_app (by simp [h.dl]), e]
theorem rdOf_nat {l : List Bool} {i : Nat} (h : i < l.length) : rdOf false l (i : Int) = l[i] := by simp [rdOf, h]
theorem upd_map (f : Nat → List Int → List Int) (g : List Int → List Int) : ∀ (ps : List (List Int)) (i : Nat), upd f (ps.map g) i = upd (fun j p => f j (g p)) ps i
  | [], _ => rfl
  | p :: ps, i => by simp [upd, upd_map f g ps (i + 1)]
theorem upd_drop {M : List (List Int)} {k : Nat} {f : Nat → List Int → List Int} {g : List Int → List Int} : ∀ (d i : Nat), k + i + d = M.length → (∀ j, k + j < M.length → f j (rw_ M (k + j)) = g (rw_ M (k + j))) → upd f (M.drop (k + i)) i = (M.drop (k + i)).map g
  | 0, i, h, _ => by rw [List.drop_eq_nil_of_le (by omega)]; rfl
  | d + 1, i, h, hf => by
    have hlt : k + i < M.length := by omega
    rw [List.drop_eq_getElem_cons hlt, upd, List.map_cons, ← rw_lt hlt, hf i hlt]
    have := upd_drop (k := k) (f := f) (g := g) d (i + 1) (by omega) hf
    rw [show k + (i + 1) = k + i + 1 by omega] at this
    rw [this]
theorem data_end {k r : Int} (hk : okK k r) {n : Nat} {data all : List (List Int)} {cells : List Int} {deltas : List (List Int)} (hl : (data.length : Int) = k) (hda : Alk n data) (hdb : ∀ b ∈ data, isB b) {i : Nat} (h : St k.toNat n i data all cells deltas) (hi : i ≤ k.toNat) {K : Nat} (hK : 300 ≤ K) :
    ∃ q, delta_All.f K k r (coded n ((codec_Row.M k.toNat r.toNat).drop k.toNat) data) cells deltas = some (q, 0) ∧ codec_Encode.f K k r all = some (q, 0) ∧ q.length ≤ 4 := by
  have hk0 := hk
  obtain ⟨h1, h2, h3, h4⟩ := hk
  have hc := h.cl
  have hal := h.al
  have hM := allM_rect k.toNat r.toNat
  have hpl : (coded n ((codec_Row.M k.toNat r.toNat).drop k.toNat) data).length = r.toNat := by
    unfold coded
    rw [List.length_map, List.length_drop, hM.1]; omega
  have hpa : ∀ x ∈ coded n ((codec_Row.M k.toNat r.toNat).drop k.toNat) data, x.length = n := fun x hx => by
    simp only [coded, List.mem_map] at hx
    obtain ⟨row, _, rfl⟩ := hx
    rw [dacc_len (fun b hb => by rw [List.length_replicate, (hda b hb).2.2]; exact Nat.le_refl _), List.length_replicate]
  have hn := hda _ (List.getElem_mem (show 0 < data.length by omega))
  have ok : Ok k r (coded n ((codec_Row.M k.toNat r.toNat).drop k.toNat) data) cells deltas n := ⟨hk0, by omega, by omega, ⟨fun x hx => by have := h.cb x hx; omega, h.cn⟩, h.dl, fun x hx => by have := hpa x hx; omega, h.da⟩
  have hpb : ∀ b ∈ coded n ((codec_Row.M k.toNat r.toNat).drop k.toNat) data, isB b := fun x hx => by
    simp only [coded, List.mem_map] at hx
    obtain ⟨row, _, rfl⟩ := hx
    exact dacc_B (isB_rep _)
  refine ⟨_, all_ok (by omega) ok hpb h.db, ?_, by rw [moved_len]; omega⟩
  rw [enc_ok (by omega) hk0 (by omega) h.aa h.ab]
  congr 2
  unfold moved coded
  rw [upd_map]
  have := upd_drop (M := codec_Row.M k.toNat r.toNat) (k := k.toNat) (f := fun j p => dacc (dacc (List.replicate n 0) p data) (co k r cells j) deltas) (g := fun row => dacc (List.replicate n 0) row all) r.toNat 0 (by rw [hM.1]; omega) (fun j hj => by
    have hB := rw_B (allM_B (k := k.toNat) (r := r.toNat) (by omega) (by omega)) (k.toNat + j)
    have hlen := rect_row hM (i := k.toNat + j) (by rw [← hM.1]; exact hj)
    exact (h.sum _ hB hlen).symm)
  rw [Nat.add_zero] at this
  rw [this]
theorem data_l0 {k r : Int} (hk : okK k r) {n : Nat} {data now : List (List Int)} {pick : List Bool} (hl : (data.length : Int) = k) (hnl : (now.length : Int) = k) (hda : Alk n data) (hdb : ∀ b ∈ data, isB b) (hnb : ∀ b ∈ now, isB b) :
    ∀ (d i K : Nat) (all : List (List Int)) (cells : List Int) (deltas : List (List Int)), i + d = k.toNat → 2 * d + 400 ≤ K → St k.toNat n i data all cells deltas →
    twoslotlaw05_DeltaData.l0 K k r data now pick (coded n ((codec_Row.M k.toNat r.toNat).drop k.toNat) data) all cells deltas (i : Int) = some true := by
  have h1 := hk.1
  have h2 := hk.2.1
  have fin : ∀ (i K : Nat) (all : List (List Int)) (cells : List Int) (deltas : List (List Int)), i ≤ k.toNat → 399 ≤ K → St k.toNat n i data all cells deltas → twoslotlaw05_DeltaData.j3 K k r data now pick (coded n ((codec_Row.M k.toNat r.toNat).drop k.toNat) data) all cells deltas (i : Int) false = some true := by
    intro i K all cells deltas hi hK hst
    obtain ⟨K, rfl⟩ : ∃ m, K = m + 1 := ⟨K - 1, by omega⟩
    obtain ⟨q, e1, e2, e3⟩ := data_end hk hl hda hdb hst hi (K := K) (by omega)
    simp only [twoslotlaw05_DeltaData.j3]
    rw [if_neg (by simp), e1]
    simp only [Option.bind_some]
    rw [e2]
    simp only [Option.bind_some]
    rw [if_pos trivial, if_pos trivial, sameAll_f (by omega) (by omega)]
    rfl
  intro d
  induction d with
  | zero =>
    intro i K all cells deltas hi hK hst
    obtain ⟨K, rfl⟩ : ∃ m, K = m + 1 := ⟨K - 1, by omega⟩
    simp only [twoslotlaw05_DeltaData.l0]
    rw [if_neg (by omega)]
    exact fin i K all cells deltas (by omega) (by omega) hst
  | succ d ih =>
    intro i K all cells deltas hi hK hst
    obtain ⟨K, rfl⟩ : ∃ m, K = m + 1 := ⟨K - 1, by omega⟩
    simp only [twoslotlaw05_DeltaData.l0]
    rw [if_pos (by omega)]
    by_cases hp : i < pick.length
    case neg =>
      rw [decide_eq_false (by omega)]
      exact fin i K all cells deltas (by omega) (by omega) hst
    rw [decide_eq_true (by omega)]
    obtain ⟨K, rfl⟩ : ∃ m, K = m + 1 := ⟨K - 1, by omega⟩
    have hw : wrap64 ((i : Int) + 1) = ((i + 1 : Nat) : Int) := by unfold wrap64; omega
    have hid : i < data.length := by omega
    have hin : i < now.length := by omega
    have hal := hst.al
    have hcl := hst.cl
    have hdl := hst.dl
    have bn := hnb _ (List.getElem_mem hin)
    have ad := hda _ (List.getElem_mem hid)
    simp only [twoslotlaw05_DeltaData.j3]
    rw [if_pos trivial, if_pos (by omega), if_pos (by omega), rdOf_nat hp, hw]
    cases pick[i] with
    | false =>
      rw [if_neg (by simp)]
      exact ih (i + 1) K all cells deltas (by omega) (by omega) hst.next
    | true =>
      rw [if_pos rfl, if_pos (by omega), if_pos (by omega), rd_L1_nat hid, rd_L1_nat hin]
      by_cases hlen : now[i].length = data[i].length
      · have e : delta_Of.f K data[i] now[i] = some (addv data[i] 1 now[i], 0) := by
          rw [of_f (by omega) bn, if_pos (show 1 ≤ data[i].length ∧ data[i].length ≤ 65536 ∧ now[i].length = data[i].length from ⟨ad.1, ad.2.1, hlen⟩)]
        rw [e]
        simp only [Option.bind_some]
        rw [if_pos trivial, if_pos (by omega), if_pos (by omega), if_pos (by omega), Int.toNat_natCast]
        exact ih (i + 1) K _ _ _ (by omega) (by omega) (hst.step (by omega) (by omega) bn (by omega))
      · have e : delta_Of.f K data[i] now[i] = some ([], 40) := by
          rw [of_f (by omega) bn, if_neg (fun z => hlen z.2.2)]
        rw [e]
        simp only [Option.bind_some]
        rw [if_neg (show ¬ (40 : Int) = 0 by decide)]
        have : ((now[i].length : Int) != (data[i].length : Int)) = true := by simp; omega
        rw [this]
theorem DeltaData : twoslotlaw05_DeltaData.Pure := fun k r data now pick hk hr hd hn hp => by
  obtain ⟨K, hK⟩ : ∃ K, 600 ≤ K := ⟨600, Nat.le_refl _⟩
  have hdB : ∀ b ∈ data, isB b := fun b hb => isB_wf (hd.2.2 b hb).2.2
  have hnB : ∀ b ∈ now, isB b := fun b hb => isB_wf (hn.2.2 b hb).2.2
  refine ⟨K, ?_⟩
  have hj : ∀ K', 1 ≤ K' → twoslotlaw05_DeltaData.j0 K' k r data now pick true = some true := fun K' h => by
    obtain ⟨K', rfl⟩ : ∃ m, K' = m + 1 := ⟨K' - 1, by omega⟩
    simp [twoslotlaw05_DeltaData.j0]
  have hj1 : ∀ K' p, 1 ≤ K' → twoslotlaw05_DeltaData.j1 K' k r data now pick p true = some true := fun K' p h => by
    obtain ⟨K', rfl⟩ : ∃ m, K' = m + 1 := ⟨K' - 1, by omega⟩
    simp [twoslotlaw05_DeltaData.j1]
  unfold twoslotlaw05_DeltaData.f
  rw [alive_f (by omega)]
  simp only [Option.bind_some]
  rw [if_pos trivial]
  rcases much_f (K := K) (by omega) data with h1 | ⟨h1, h1'⟩ <;> rw [h1] <;> simp only [Option.bind_some]
  · rw [if_pos trivial, hj K (by omega)]
  rw [if_neg (by simp)]
  rcases much_f (K := K) (by omega) now with h2 | ⟨h2, h2'⟩ <;> rw [h2] <;> simp only [Option.bind_some]
  · exact hj K (by omega)
  obtain ⟨K, rfl⟩ : ∃ m, K = m + 1 := ⟨K - 1, by omega⟩
  simp only [twoslotlaw05_DeltaData.j0]
  rw [if_neg (by simp)]
  rcases enc_any (K := K) (by omega) (k := k) (r := r) data with ⟨hk0, hl, n, ha⟩ | ⟨e, h4, h5⟩
  · rw [enc_ok (by omega) hk0 hl ha hdB]
    simp only [Option.bind_some]
    rw [if_pos trivial]
    by_cases hnl : (now.length : Int) = k
    · have e0 : ((now.length : Int) != k) = false := by simp [hnl]
      rw [e0]
      obtain ⟨K, rfl⟩ : ∃ m, K = m + 1 := ⟨K - 1, by omega⟩
      simp only [twoslotlaw05_DeltaData.j1]
      rw [if_neg (by simp), if_pos (by simp; omega), List.nil_append]
      have := hk0.1
      exact data_l0 hk0 hl hnl ha hdB hnB k.toNat 0 K data [] [] (by omega) (by have := hk0.2.1; omega) ⟨by omega, ha, hdB, fun _ _ _ => rfl, by simp, rfl, (fun x hx => by cases hx), (fun x hx => by cases hx), (fun x hx => by cases hx), List.nodup_nil, fun ρ _ _ => rfl⟩
    · have e0 : ((now.length : Int) != k) = true := by simp [hnl]
      rw [e0]
      exact hj1 K _ (by omega)
  · rw [h5]
    simp only [Option.bind_some]
    rw [if_neg h4]
    exact hj1 K _ (by omega)
end Go.Proofs.Ytmmbojeikppinaa.Pure
