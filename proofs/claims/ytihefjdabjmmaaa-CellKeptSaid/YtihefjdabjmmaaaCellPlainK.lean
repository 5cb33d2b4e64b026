/- The plain law of CellKept. No condition. -/
import Derived.Test.YtihefjdabjmmaaaCellPlain
import Derived.Test.YtihefjdabjmmaaaPDx5
namespace Go.Proofs.Ytihefjdabjmmaaa.Pure
open Go Go.RowKit Go.Proofs.Ytihefjdabjmmaaa Go.Proofs.Ytihefjdabjmmaaa.PD Go.Proofs.YtihefjdabjmmaaaW.PrintWords Go.Proofs.YtihefjdabjmmaaaW.PrintLast Go.Proofs.YtihefjdabjmmaaaW.PrintMore
theorem look_eq {k : Nat} (hk : 200 ≤ k) {a b c d : Int} {l0 l1 : List Int} (hB0 : isB l0) (hB1 : isB l1) (kind index : Int)
    {x1 x2 x3 x4 : Int} {x5 x6 : List Int} {x7 : Bool} {y1 y2 y3 y4 : Int} {y5 y6 : List Int} {y7 : Bool}
    (hX : prs a b c d l0 = (x1, x2, x3, x4, x5, x6, x7, 0)) (hY : prs a b c d l1 = (y1, y2, y3, y4, y5, y6, y7, 0)) (hp : pOk a b c d) (hkd : kind = 1 ∨ kind = 2) (h0 : 0 ≤ index) (h1 : index < a + b) :
    cell_look.f k a b c d l0 l1 kind index = some (x1, x2, x3, x4, x5, x6, (x7 && (x2 == index)), y1, y2, y3, y4, y5, y6, (y7 && (y2 == index)), 0) := by
  unfold cell_look.f
  rw [drives_f (by omega)]
  simp only [Option.bind_some]
  rw [if_pos hp]
  simp only [if_true]
  rw [parse_f (by omega) a b c d hB0, parse_f (by omega) a b c d hB1, hX, hY]
  simp only [Option.bind_some, if_true]
  rw [if_neg (by omega)]
theorem prs_short {a b c d : Int} {l : List Int} {x1 x2 x3 x4 : Int} {x5 x6 : List Int} {x7 : Bool} (h : prs a b c d l = (x1, x2, x3, x4, x5, x6, x7, 0)) : l.length ≤ 100000 := by
  unfold prs at h
  by_cases hp : pOk a b c d
  · rw [if_pos hp] at h
    unfold pOk at hp
    by_cases h0 : l.length = 0
    · omega
    · rw [if_neg h0] at h
      by_cases h1 : (l.length : Int) = 12 + 4 * (a + b) + c
      · omega
      · rw [if_neg h1] at h
        simp only [Prod.mk.injEq] at h
        exact absurd h.2.2.2.2.2.2.2 (by decide)
  · rw [if_neg hp] at h
    simp only [Prod.mk.injEq] at h
    exact absurd h.2.2.2.2.2.2.2 (by decide)
theorem kb_isB {a b c d kind index cell stripe : Int} {v data : List Int} (h : sMay a b c d kind index cell stripe v data) (hd : isB data) : isB (sb kind index cell stripe v data) := by
  have hk := h.2.2.2.2.1
  rw [sb_cons]
  intro x hx
  simp only [List.mem_cons] at hx
  rcases hx with hx | hx | hx | hx | hx
  · omega
  · omega
  · omega
  · omega
  · exact isB_append (be4_isB _) (isB_append (be4_isB _) (isB_append (vb_isB v) hd)) x hx
theorem kb_prs {a b c d kind index cell stripe : Int} {v data : List Int} (hp : pOk a b c d) (h : sMay a b c d kind index cell stripe v data) : prs a b c d (sb kind index cell stripe v data) = (kind, index, cell, stripe, v, data, true, 0) := by
  obtain ⟨hv, hst, hc, hs1, hs2⟩ := may_all h
  exact prs_sb hp h (fun x hx => by have := hv x hx; omega) (by omega) (by omega)
theorem kb_str {l : List Int} (hB : isB l) : bytesOf (strOfNums l) = l := by
  have e : (strOfNums l).data.toList = Lib.bytesOf l := by rw [← Lib.strOfNums_toList, Lib.toList_data]
  unfold bytesOf
  rw [e]
  clear e
  induction l with
  | nil => rfl
  | cons a l ih =>
    have ha := hB a (by simp)
    have e := ih (fun z hz => hB z (by simp [hz]))
    unfold Lib.bytesOf at *
    simp only [List.map_cons, List.cons.injEq]
    refine ⟨?_, e⟩
    have : (UInt8.ofNat a.toNat).toNat = a.toNat := by rw [UInt8.toNat_ofNat']; omega
    omega
theorem kb_size {l : List Int} (hB : isB l) (h : l.length ≤ 100000) : (strOfNums l).size ≤ 140737488351232 := by
  rw [← bytesOf_length, kb_str hB]; omega
theorem find_eq {k : Nat} {a b c d : Int} {l0 l1 : List Int} {kind index version : Int} {x1 x2 x3 x4 : Int} {x5 x6 : List Int} {x7 : Bool} {y1 y2 y3 y4 : Int} {y5 y6 : List Int} {y7 : Bool}
    (h : cell_look.f k a b c d l0 l1 kind index = some (x1, x2, x3, x4, x5, x6, x7, y1, y2, y3, y4, y5, y6, y7, 0)) (h1 : 1 ≤ version) (h2 : version ≤ 1073741824) :
    cell_Find.f k a b c d l0 l1 kind index version = some (cell_Find.of (held_at.f x1 x3 x7 y1 y3 y7 kind version) x1 x2 x3 x4 x5 x6 y1 y2 y3 y4 y5 y6) := by
  unfold cell_Find.f
  rw [h]
  simp only [Option.bind_some, if_true]
  rw [if_neg (by omega)]
theorem kept_plain {k : Nat} (hk : 200 ≤ k) (a b c d : Int) {l0 l1 : List Int} (hB0 : isB l0) (hB1 : isB l1) (keep k1 k2 k3 k4 : Int) (k5 : List Int) {k6 : List Int} (hB6 : isB k6) :
    ∃ (bl : List Int) (be n f m t1 t2 t4 : Int) (t5 t6 : List Int) (o u1 u2 u3 u4 : Int) (u5 u6 : List Int) (u7 : Bool) (q v1 v2 v3 v4 : Int) (v5 v6 : List Int) (v7 : Bool),
      slot_Bytes.f k a b c d k1 k2 k3 k4 k5 k6 = some (bl, be) ∧ cell_Older.f k a b c d l0 l1 k1 k2 keep = some (n, f) ∧
      (be = 0 → f ≠ 0 → n = 0) ∧ (be = 0 → f = 0 → n = 0 ∨ n = 1) ∧
      (be = 0 → f = 0 → bytesOf (strOfNums l0) = l0 ∧ bytesOf (strOfNums l1) = l1 ∧ (strOfNums l0).size ≤ 140737488351232 ∧ (strOfNums l1).size ≤ 140737488351232) ∧
      (be = 0 → f = 0 → cell_Find.f k a b c d (if n = 0 then bl else l0) (if n = 0 then l1 else bl) k1 k2 k3 = some (m, t1, t2, k3, t4, t5, t6, true, 0)) ∧
      (be = 0 → f = 0 → keep ≠ 0 → cell_Find.f k a b c d l0 l1 k1 k2 keep = some (o, u1, u2, u3, u4, u5, u6, u7, 0) ∧ cell_Find.f k a b c d (if n = 0 then bl else l0) (if n = 0 then l1 else bl) k1 k2 keep = some (q, v1, v2, v3, v4, v5, v6, v7, 0) ∧ (u7 = true → v7 = true ∧ (keep = k3 ∨ (v3 = keep ∧ v4 = u4 ∧ v6 = u6)))) := by
  rcases hX : prs a b c d l0 with ⟨x1, x2, x3, x4, x5, x6, x7, xe⟩
  rcases hY : prs a b c d l1 with ⟨y1, y2, y3, y4, y5, y6, y7, ye⟩
  have hl := look_cases hk hB0 hB1 k1 k2 hX hY
  by_cases hm : pOk a b c d ∧ sMay a b c d k1 k2 k3 k4 k5 k6
  case neg =>
    obtain ⟨n, f, ho⟩ : ∃ n f, cell_Older.f k a b c d l0 l1 k1 k2 keep = some (n, f) := by
      unfold cell_Older.f
      rcases hl with ⟨e, he, hl⟩ | ⟨h0, h1, hl⟩
      · rw [hl]; exact ⟨0, e, by simp only [Option.bind_some, cell_look.zero, if_neg he]⟩
      · rw [hl]; simp only [Option.bind_some, if_true]
        split
        · exact ⟨_, _, rfl⟩
        · exact ⟨_, _, rfl⟩
    obtain ⟨be, hbe, hb⟩ : ∃ be, be ≠ 0 ∧ slot_Bytes.f k a b c d k1 k2 k3 k4 k5 k6 = some ([], be) := by
      rw [bytes_f (by omega)]
      by_cases hp : pOk a b c d
      · rw [if_pos hp, if_neg (fun z => hm ⟨hp, z⟩)]; exact ⟨100, by decide, rfl⟩
      · rw [if_neg hp]; exact ⟨2, by decide, rfl⟩
    exact ⟨[], be, n, f, 0, 0, 0, 0, [], [], 0, 0, 0, 0, 0, [], [], false, 0, 0, 0, 0, 0, [], [], false, hb, ho, fun z => absurd z hbe, fun z => absurd z hbe, fun z => absurd z hbe, fun z => absurd z hbe, fun z => absurd z hbe⟩
  obtain ⟨hp, hm⟩ := hm
  have hb : slot_Bytes.f k a b c d k1 k2 k3 k4 k5 k6 = some (sb k1 k2 k3 k4 k5 k6, 0) := by rw [bytes_f (by omega), if_pos hp, if_pos hm]
  have hbB := kb_isB hm hB6
  have hbP := kb_prs hp hm
  have hc3 := (may_all hm).2.2.1
  have hlen := (chk_zero.1 hm.1).2.1
  have hkd := hm.2.2.2.2.1
  have hi0 := hm.2.2.1
  have hi1 := hm.2.2.2.1
  generalize sb k1 k2 k3 k4 k5 k6 = bl at *
  rcases hl with ⟨e, he, hl⟩ | ⟨rfl, rfl, hl⟩
  · refine ⟨bl, 0, 0, e, 0, 0, 0, 0, [], [], 0, 0, 0, 0, 0, [], [], false, 0, 0, 0, 0, 0, [], [], false, hb, ?_, fun _ _ => rfl, fun _ z => absurd z he, fun _ z => absurd z he, fun _ z => absurd z he, fun _ z => absurd z he⟩
    unfold cell_Older.f; rw [hl]; simp only [Option.bind_some, cell_look.zero, if_neg he]
  have hO : cell_Older.f k a b c d l0 l1 k1 k2 keep = if keep < 0 ∨ 1073741824 < keep then some (0, 2) else some (cell_Older.of (held_at.f x1 x3 (x7 && (x2 == k2)) y1 y3 (y7 && (y2 == k2)) k1 keep) x3 (x7 && (x2 == k2)) y3 (y7 && (y2 == k2)) keep, 0) := by
    unfold cell_Older.f; rw [hl]; simp only [Option.bind_some, if_true]
  by_cases hkp : keep < 0 ∨ 1073741824 < keep
  · rw [if_pos hkp] at hO
    exact ⟨bl, 0, 0, 2, 0, 0, 0, 0, [], [], 0, 0, 0, 0, 0, [], [], false, 0, 0, 0, 0, 0, [], [], false, hb, hO, fun _ _ => rfl, fun _ z => absurd z (by decide), fun _ z => absurd z (by decide), fun _ z => absurd z (by decide), fun _ z => absurd z (by decide)⟩
  rw [if_neg hkp] at hO
  have l01 := look_eq hk hbB hB1 k1 k2 hbP hY hp hkd hi0 (by omega)
  have l10 := look_eq hk hB0 hbB k1 k2 hX hbP hp hkd hi0 (by omega)
  have hse : (true && (k2 == k2)) = true := by simp
  rw [hse] at l01 l10
  have fin := fun (z : keep ≠ 0) => find_eq (version := keep) hl (by omega) (by omega)
  have fin0 := fun (z : keep ≠ 0) => find_eq (version := keep) l01 (by omega) (by omega)
  have fin1 := fun (z : keep ≠ 0) => find_eq (version := keep) l10 (by omega) (by omega)
  have fk0 := find_eq (version := k3) l01 (by omega) (by omega)
  have fk1 := find_eq (version := k3) l10 (by omega) (by omega)
  have hstr := And.intro (kb_str hB0) (And.intro (kb_str hB1) (And.intro (kb_size hB0 (prs_short hX)) (kb_size hB1 (prs_short hY))))
  generalize (x7 && (x2 == k2)) = X7 at *
  generalize (y7 && (y2 == k2)) = Y7 at *
  generalize hat : held_at.f x1 x3 X7 y1 y3 Y7 k1 keep = at_ at *
  have hn : cell_Older.of at_ x3 X7 y3 Y7 keep = 0 ∨ cell_Older.of at_ x3 X7 y3 Y7 keep = 1 := by
    have h3 : at_ = 0 ∨ at_ = 1 ∨ at_ = -1 := by
      rw [← hat]; unfold held_at.f; split
      · exact .inl rfl
      · split
        · exact .inr (.inl rfl)
        · exact .inr (.inr rfl)
    unfold cell_Older.of
    split
    · omega
    · split
      · exact .inl rfl
      · split
        · exact .inr rfl
        · split
          · exact .inr rfl
          · exact .inl rfl
  rcases hU : cell_Find.of at_ x1 x2 x3 x4 x5 x6 y1 y2 y3 y4 y5 y6 with ⟨o, u1, u2, u3, u4, u5, u6, u7, ue⟩
  have hue : ue = 0 := by
    unfold cell_Find.of at hU
    split at hU
    · simp only [Prod.mk.injEq] at hU; exact hU.2.2.2.2.2.2.2.2.symm
    · split at hU
      · simp only [Prod.mk.injEq] at hU; exact hU.2.2.2.2.2.2.2.2.symm
      · simp only [Prod.mk.injEq] at hU; exact hU.2.2.2.2.2.2.2.2.symm
  subst hue
  rw [hU] at fin
  rcases hn with hn | hn
  · rw [hn] at hO
    rcases hV : cell_Find.of (held_at.f k1 k3 true y1 y3 Y7 k1 keep) k1 k2 k3 k4 k5 k6 y1 y2 y3 y4 y5 y6 with ⟨q, v1, v2, v3, v4, v5, v6, v7, ve⟩
    have hat3 : held_at.f k1 k3 true y1 y3 Y7 k1 k3 = 0 := by unfold held_at.f; rw [if_pos ⟨rfl, rfl, rfl⟩]
    rw [hat3] at fk0
    have hve : ve = 0 := by
      unfold cell_Find.of at hV
      split at hV
      · simp only [Prod.mk.injEq] at hV; exact hV.2.2.2.2.2.2.2.2.symm
      · split at hV
        · simp only [Prod.mk.injEq] at hV; exact hV.2.2.2.2.2.2.2.2.symm
        · simp only [Prod.mk.injEq] at hV; exact hV.2.2.2.2.2.2.2.2.symm
    subst hve
    rw [hV] at fin0
    refine ⟨bl, 0, 0, 0, 0, k1, k2, k4, k5, k6, o, u1, u2, u3, u4, u5, u6, u7, q, v1, v2, v3, v4, v5, v6, v7, hb, hO, fun _ z => absurd rfl z, fun _ _ => .inl rfl, fun _ _ => hstr, fun _ _ => ?_, fun _ _ hz => ⟨fin hz, ?_, fun hu => ?_⟩⟩
    · rw [if_pos rfl, if_pos rfl, fk0]; rfl
    · rw [if_pos rfl, if_pos rfl]; exact fin0 hz
    · subst hu
      by_cases h1 : at_ = 1
      · subst h1
        have hh : ¬ (X7 = true ∧ x1 = k1 ∧ x3 = keep) ∧ Y7 = true ∧ y1 = k1 ∧ y3 = keep := by
          unfold held_at.f at hat
          split at hat
          · exact absurd hat (by decide)
          · rename_i hnn
            split at hat
            · rename_i hh; exact ⟨hnn, hh⟩
            · exact absurd hat (by decide)
        have hUe : cell_Find.of 1 x1 x2 x3 x4 x5 x6 y1 y2 y3 y4 y5 y6 = (1, y1, y2, y3, y4, y5, y6, true, 0) := rfl
        rw [hUe] at hU
        simp only [Prod.mk.injEq] at hU
        obtain ⟨rfl, rfl, rfl, rfl, rfl, rfl, rfl, -, -⟩ := hU
        by_cases hk3 : k3 = keep
        · have : held_at.f k1 k3 true y1 y3 Y7 k1 keep = 0 := by unfold held_at.f; rw [if_pos ⟨rfl, rfl, hk3⟩]
          rw [this] at hV
          have hVe : cell_Find.of 0 k1 k2 k3 k4 k5 k6 y1 y2 y3 y4 y5 y6 = (0, k1, k2, k3, k4, k5, k6, true, 0) := rfl
          rw [hVe] at hV
          simp only [Prod.mk.injEq] at hV
          exact ⟨hV.2.2.2.2.2.2.2.1.symm, .inl hk3.symm⟩
        · have : held_at.f k1 k3 true y1 y3 Y7 k1 keep = 1 := by unfold held_at.f; rw [if_neg (fun z => hk3 z.2.2), if_pos hh.2]
          rw [this] at hV
          have hVe : cell_Find.of 1 k1 k2 k3 k4 k5 k6 y1 y2 y3 y4 y5 y6 = (1, y1, y2, y3, y4, y5, y6, true, 0) := rfl
          rw [hVe] at hV
          simp only [Prod.mk.injEq] at hV
          exact ⟨hV.2.2.2.2.2.2.2.1.symm, .inr ⟨by rw [← hV.2.2.2.1]; exact hh.2.2.2, hV.2.2.2.2.1.symm, hV.2.2.2.2.2.2.1.symm⟩⟩
      · exfalso
        unfold cell_Older.of at hn
        by_cases h0 : at_ = 0
        · rw [if_pos (by omega)] at hn; omega
        · unfold cell_Find.of at hU
          rw [if_neg h0, if_neg h1] at hU
          simp only [Prod.mk.injEq] at hU
          exact absurd hU.2.2.2.2.2.2.2.1 (by decide)
  · rw [hn] at hO
    rcases hV : cell_Find.of (held_at.f x1 x3 X7 k1 k3 true k1 keep) x1 x2 x3 x4 x5 x6 k1 k2 k3 k4 k5 k6 with ⟨q, v1, v2, v3, v4, v5, v6, v7, ve⟩
    have hve : ve = 0 := by
      unfold cell_Find.of at hV
      split at hV
      · simp only [Prod.mk.injEq] at hV; exact hV.2.2.2.2.2.2.2.2.symm
      · split at hV
        · simp only [Prod.mk.injEq] at hV; exact hV.2.2.2.2.2.2.2.2.symm
        · simp only [Prod.mk.injEq] at hV; exact hV.2.2.2.2.2.2.2.2.symm
    subst hve
    rw [hV] at fin1
    obtain ⟨m, t1, t2, t4, t5, t6, hT⟩ : ∃ m t1 t2 t4 t5 t6, cell_Find.of (held_at.f x1 x3 X7 k1 k3 true k1 k3) x1 x2 x3 x4 x5 x6 k1 k2 k3 k4 k5 k6 = (m, t1, t2, k3, t4, t5, t6, true, 0) := by
      unfold held_at.f
      by_cases hx : X7 = true ∧ x1 = k1 ∧ x3 = k3
      · rw [if_pos hx]; exact ⟨0, x1, x2, x4, x5, x6, by rw [← hx.2.2]; rfl⟩
      · rw [if_neg hx, if_pos ⟨rfl, rfl, rfl⟩]; exact ⟨1, k1, k2, k4, k5, k6, rfl⟩
    rw [hT] at fk1
    refine ⟨bl, 0, 1, 0, m, t1, t2, t4, t5, t6, o, u1, u2, u3, u4, u5, u6, u7, q, v1, v2, v3, v4, v5, v6, v7, hb, hO, fun _ z => absurd rfl z, fun _ _ => .inr rfl, fun _ _ => hstr, fun _ _ => ?_, fun _ _ hz => ⟨fin hz, ?_, fun hu => ?_⟩⟩
    · rw [if_neg (by decide), if_neg (by decide)]; exact fk1
    · rw [if_neg (by decide), if_neg (by decide)]; exact fin1 hz
    · subst hu
      by_cases h1 : at_ = 0
      · subst h1
        have hh : X7 = true ∧ x1 = k1 ∧ x3 = keep := by
          unfold held_at.f at hat
          split at hat
          · rename_i hh; exact hh
          · split at hat
            · exact absurd hat (by decide)
            · exact absurd hat (by decide)
        have hUe : cell_Find.of 0 x1 x2 x3 x4 x5 x6 y1 y2 y3 y4 y5 y6 = (0, x1, x2, x3, x4, x5, x6, true, 0) := rfl
        rw [hUe] at hU
        simp only [Prod.mk.injEq] at hU
        obtain ⟨rfl, rfl, rfl, rfl, rfl, rfl, rfl, -, -⟩ := hU
        have : held_at.f x1 x3 X7 k1 k3 true k1 keep = 0 := by unfold held_at.f; rw [if_pos hh]
        rw [this] at hV
        have hVe : cell_Find.of 0 x1 x2 x3 x4 x5 x6 k1 k2 k3 k4 k5 k6 = (0, x1, x2, x3, x4, x5, x6, true, 0) := rfl
        rw [hVe] at hV
        simp only [Prod.mk.injEq] at hV
        exact ⟨hV.2.2.2.2.2.2.2.1.symm, .inr ⟨by rw [← hV.2.2.2.1]; exact hh.2.2, hV.2.2.2.2.1.symm, hV.2.2.2.2.2.2.1.symm⟩⟩
      · exfalso
        unfold cell_Older.of at hn
        by_cases h0 : at_ = 1
        · rw [if_pos (by omega)] at hn; omega
        · unfold cell_Find.of at hU
          rw [if_neg h1, if_neg h0] at hU
          simp only [Prod.mk.injEq] at hU
          exact absurd hU.2.2.2.2.2.2.2.1 (by decide)
end Go.Proofs.Ytihefjdabjmmaaa.Pure
