/- What the document's Decode and Verify come to, for every input: what the program's do. No condition. -/
import Derived.Test.YthhncoogmncdkaaPCx13
import Derived.Test.YthhncoogmncdkaaMxSpo
import Derived.Test.YthhncoogmncdkaaCRefB
import Derived.Test.YthhncoogmncdkaaCSol
import Derived.Test.YthhncoogmncdkaaLin
import Derived.Test.YthhncoogmncdkaaDEnc
import Derived.Test.YthhncoogmncdkaaPCx14
import Derived.Test.YthhncoogmncdkaaPCx0
import Derived.Test.YthhncoogmncdkaaPCx27
import Derived.Test.YthhncoogmncdkaaCdMap
import Derived.Test.YthhncoogmncdkaaPCx22
import Derived.Test.YthhncoogmncdkaaPCx26
import Derived.Test.YthhncoogmncdkaaPCx30
import Derived.Test.YthhncoogmncdkaaPCx29
import Derived.Test.YthhncoogmncdkaaPCx28
namespace Go.Proofs.Ythhncoogmncdkaa.Pure
open Go Go.RowKit Go.TwoGf Go.TwoLin Go.Proofs.Ythhncoogmncdkaa Go.Proofs.Ythhncoogmncdkaa.PC Go.Proofs.YthhncoogmncdkaaW.PrintWords Go.Proofs.YthhncoogmncdkaaW.PrintLast Go.Proofs.YthhncoogmncdkaaW.PrintMore
set_option linter.unusedVariables false
/-! the rows of a code -/
theorem codeM {k r : Nat} (hk : k ≤ 12) (hr : r ≤ 4) : codec_Row.M k r = mkF k k dl ++ mkF r k (cau k) := by
  unfold codec_Row.M
  rw [oneM]
  congr 1
  by_cases e : r = 0
  · rw [if_pos e]; subst e; rfl
  · rw [if_neg e]
    unfold matrix_Cauchy.M mkF
    refine List.map_congr_left fun i hi => ?_
    refine List.map_congr_left fun j hj => ?_
    unfold matrix_Cauchy.G
    rw [cauchy_G hk (by have := List.mem_range.1 hi; omega) (List.mem_range.1 hj)]
    rfl
theorem cM_low {k r i j : Nat} (hk : k ≤ 12) (hr : r ≤ 4) (hi : i < k) (hj : j < k) : cell (codec_Row.M k r) i j = dl i j := by
  rw [codeM hk hr]
  have e : rw_ (mkF k k dl ++ mkF r k (cau k)) i = rw_ (mkF k k dl) i := by
    unfold rw_
    rw [List.getD_eq_getElem?_getD, List.getElem?_append_left (by rw [(rect_mkF _ _ _).1]; exact hi), ← List.getD_eq_getElem?_getD]
  have : cell (mkF k k dl ++ mkF r k (cau k)) i j = cell (mkF k k dl) i j := by unfold cell; rw [e]
  rw [this, cell_mkF hi hj]
theorem cM_high {k r p j : Nat} (hk : k ≤ 12) (hr : r ≤ 4) (hp : p < r) (hj : j < k) : cell (codec_Row.M k r) (k + p) j = cau k p j := by
  rw [codeM hk hr]
  have e : rw_ (mkF k k dl ++ mkF r k (cau k)) (k + p) = rw_ (mkF r k (cau k)) p := by
    unfold rw_
    rw [List.getD_eq_getElem?_getD, List.getElem?_append_right (by rw [(rect_mkF _ _ _).1]; omega), (rect_mkF _ _ _).1, Nat.add_sub_cancel_left, ← List.getD_eq_getElem?_getD]
  have : cell (mkF k k dl ++ mkF r k (cau k)) (k + p) j = cell (mkF r k (cau k)) p j := by unfold cell; rw [e]
  rw [this, cell_mkF hp hj]
/-- the rows that were taken -/
def took (M : List (List Int)) (rows : List Int) : List (List Int) := rows.map fun x => rw_ M x.toNat
theorem took_rect {n m : Nat} {M : List (List Int)} (h : rect n m M) {rows : List Int} (hr : ∀ x ∈ rows, 0 ≤ x ∧ x < (n : Int)) : rect rows.length m (took M rows) := ⟨by simp [took], fun y hy => by
  simp only [took, List.mem_map] at hy
  obtain ⟨x, hx, rfl⟩ := hy
  have := hr x hx
  exact rect_row h (by omega)⟩
theorem took_isM {M : List (List Int)} (h : isM M) (rows : List Int) : isM (took M rows) := fun y hy => by
  simp only [took, List.mem_map] at hy
  obtain ⟨x, hx, rfl⟩ := hy
  exact rw_B h _
theorem took_cell {M : List (List Int)} {rows : List Int} {i : Nat} (hi : i < rows.length) (j : Nat) : cell (took M rows) i j = cell M (rd rows (i : Int)).toNat j := by
  have : rw_ (took M rows) i = rw_ M (rd rows (i : Int)).toNat := by
    rw [rd_lt hi]
    unfold took
    rw [rw_lt (by simpa using hi)]
    simp
  unfold cell
  rw [this]
theorem took_inv {K k r : Nat} (hK : 200 ≤ K) (h1 : 1 ≤ k) (h2 : k ≤ 12) (h4 : r ≤ 4) {rows : List Int} (hl : rows.length = k) (hn : rows.Nodup) (hr : ∀ x ∈ rows, 0 ≤ x ∧ x < (k + r : Nat)) :
    ∃ V, matrix_Inverse.f K (took (codec_Row.M k r) rows) = some (V, 0) ∧ rect k k V ∧ isM V ∧ (∀ i j, i < k → j < k → mm k (cell V) (cell (took (codec_Row.M k r) rows)) i j = dl i j) ∧ (∀ i j, i < k → j < k → mm k (cell (took (codec_Row.M k r) rows)) (cell V) i j = dl i j) := by
  obtain ⟨m, hm⟩ : ∃ m, m = took (codec_Row.M k r) rows := ⟨_, rfl⟩
  have rm : rect k k m := by rw [hm, ← hl]; have := took_rect (rows := rows) (allM_rect k r) hr; rw [hl] at this ⊢; exact this
  have bm : isM m := by rw [hm]; exact took_isM (allM_B h2 h4) rows
  have cm : ∀ i j, i < k → j < k → cell m i j = cell (codec_Row.M k r) (rd rows (i : Int)).toNat j := fun i j hi hj => by rw [hm, took_cell (by omega)]
  rw [← hm]
  clear hm
  obtain ⟨gm, lm, wm⟩ := good_of rm h1 (by omega) h1 (by omega)
  rcases inverse_f (k := K) (by omega) bm gm (by rw [lm, wm]) with ⟨r', q1, q2, q3⟩ | ⟨V, q1, q2, q3, q4, q5, q6⟩
  case inr =>
    rw [lm] at q2 q5 q6
    exact ⟨V, q1, q2, q3, q5, q6⟩
  exfalso
  rw [lm] at q1 q2
  have hfull : r' = k := Rk_full q2 fun c hc => by
    have hrow : ∀ e : Nat, (e : Int) ∈ rows → sn k (fun j => cell (codec_Row.M k r) e j * c j) = 0 := fun e he => by
      obtain ⟨i, hi, hie⟩ := List.getElem_of_mem he
      rw [← hc i (by omega)]
      refine sn_congr fun j hj => ?_
      rw [cm i j (by omega) hj]
      have : (rd rows (i : Int)).toNat = e := by rw [rd_lt hi, hie, Int.toNat_natCast]
      rw [this]
    have hlow : ∀ e, e < k → (e : Int) ∈ rows → c e = 0 := fun e he hm => by
      have := hrow e hm
      rw [sn_one he (fun j hj hne => by rw [cM_low h2 h4 he hj, dl_ne (fun z => hne z.symm), zero_mul]), cM_low h2 h4 he he, dl_same, one_mul] at this
      exact this
    have hpar : ∀ p, p < r → ((k + p : Nat) : Int) ∈ rows → sn k (fun j => c j * inv (toF ((k + p : Nat) : Int) + toF (j : Int))) = 0 := fun p hp hm => by
      rw [← hrow (k + p) hm]
      exact sn_congr fun j hj => by rw [cM_high h2 h4 hp hj, mul_comm]; rfl
    let P : Nat → Bool := fun j => decide ((j : Int) ∈ rows)
    let L := (List.range k).filter fun j => !P j
    let R := (List.range r).filter fun p => decide (((k + p : Nat) : Int) ∈ rows)
    have hLm : ∀ j, j ∈ L ↔ j < k ∧ ¬ (j : Int) ∈ rows := fun j => by simp [L, P]
    have hRm : ∀ p, p ∈ R ↔ p < r ∧ ((k + p : Nat) : Int) ∈ rows := fun p => by simp [R]
    have hlen : L.length ≤ R.length := by
      have e1 := len_filter P (List.range k)
      rw [List.length_range] at e1
      have e2 : rows.length ≤ (((List.range k).filter P).map (fun j : Nat => (j : Int)) ++ R.map (fun p => ((k + p : Nat) : Int))).length := by
        refine List.Nodup.length_le_of_subset hn fun x hx => ?_
        obtain ⟨hx0, hx1⟩ := hr x hx
        obtain ⟨e, rfl⟩ := Int.eq_ofNat_of_zero_le hx0
        by_cases he : e < k
        · refine List.mem_append.2 (.inl (List.mem_map.2 ⟨e, ?_, rfl⟩))
          simp [P, he, hx]
        · refine List.mem_append.2 (.inr (List.mem_map.2 ⟨e - k, (hRm _).2 ⟨by omega, ?_⟩, ?_⟩))
          · rw [show k + (e - k) = e by omega]; exact hx
          · rw [show k + (e - k) = e by omega]
      rw [List.length_append, List.length_map, List.length_map, hl] at e2
      show ((List.range k).filter fun j => !P j).length ≤ R.length
      omega
    have hz := cauchy (fun p => toF ((k + p : Nat) : Int)) (fun j => toF (j : Int)) L R c ((nd_rg k).filter _) ((nd_rg r).filter _) hlen
      (fun i hi q hq hne z => hne (by have := toF_nat_inj (by have := ((hRm i).1 hi).1; omega) (by have := ((hRm q).1 hq).1; omega) z; omega))
      (fun i hi q hq hne z => hne (toF_nat_inj (by have := ((hLm i).1 hi).1; omega) (by have := ((hLm q).1 hq).1; omega) z))
      (fun p hp j hj z => by have := toF_nat_inj (by have := ((hRm p).1 hp).1; omega) (by have := ((hLm j).1 hj).1; omega) (add_eq_zero z); have := ((hLm j).1 hj).1; omega)
      (fun p hp => by
        obtain ⟨hp1, hp2⟩ := (hRm p).1 hp
        have := hpar p hp1 hp2
        unfold sn at this
        rw [sm_filter P, sm_zero (l := (List.range k).filter P), zero_add] at this
        · exact this
        · intro j hj
          have hj1 : j < k ∧ (j : Int) ∈ rows := by simpa [P] using hj
          rw [hlow j hj1.1 hj1.2, zero_mul])
    intro j hj
    by_cases hm : (j : Int) ∈ rows
    · exact hlow j hj hm
    · exact hz j ((hLm j).2 ⟨hj, hm⟩)
  omega
/-! cells of rows -/
theorem mI_F {c x : Int} (hc : 0 ≤ c ∧ c < 256) (hx : 0 ≤ x ∧ x < 256) : mI c x = ofF (toF c * toF x) := by
  unfold mI ofF
  rw [v_mul, v_toF hc, v_toF hx]
theorem aI_F {x y : Int} (hx : 0 ≤ x ∧ x < 256) (hy : 0 ≤ y ∧ y < 256) : aI x y = ofF (toF x + toF y) := xor_v hx hy
theorem rd_zip {f : Int → Int → Int} {a b : List Int} {j : Nat} (ha : j < a.length) (hb : j < b.length) : rd (List.zipWith f a b) (j : Int) = f (rd a (j : Int)) (rd b (j : Int)) := by
  rw [rd_lt (by simp; omega), rd_lt ha, rd_lt hb, List.getElem_zipWith]
theorem addv_F {a b : List Int} {c : Int} (ha : isB a) (hb : isB b) (hc : 0 ≤ c ∧ c < 256) {j : Nat} (h1 : j < a.length) (h2 : j < b.length) : toF (rd (addv a c b) (j : Int)) = toF (rd a (j : Int)) + toF c * toF (rd b (j : Int)) := by
  unfold addv
  rw [rd_zip h1 h2, mI_F hc (rd_B hb j), aI_F (rd_B ha j) (ofF_rng _), toF_ofF, toF_ofF]
theorem dacc_F {n k : Nat} {row : List Int} {data : List (List Int)} (hr : isB row) (hd : isM data) (hl : row.length = k) (hdr : rect k n data) {j : Nat} (hj : j < n) :
    ∀ (d i : Nat) (acc : List Int), i + d = k → acc.length = n → isB acc → toF (rd (dacc acc (row.drop i) (data.drop i)) (j : Int)) = toF (rd acc (j : Int)) + sm (List.range' i d) (fun q => toF (rd row (q : Int)) * cell data q j)
  | 0, i, acc, hi, ha, hb => by
    rw [List.drop_of_length_le (by omega : row.length ≤ i), List.range'_zero, sm_nil, add_zero]; rfl
  | d + 1, i, acc, hi, ha, hb => by
    have h1 : i < row.length := by omega
    have h2 : i < data.length := by rw [hdr.1]; omega
    rw [List.drop_eq_getElem_cons h1, List.drop_eq_getElem_cons h2, dacc, List.range'_succ, sm_cons, ← add_assoc]
    have hlen : data[i].length = n := hdr.2 _ (List.getElem_mem _)
    have hB : isB data[i] := hd _ (List.getElem_mem _)
    rw [dacc_F hr hd hl hdr hj d (i + 1) _ (by omega) (by rw [addv_len _ (by omega)]; exact ha) (addv_B _ hb)]
    rw [addv_F hb hB (hr _ (List.getElem_mem _)) (by omega) (by omega)]
    unfold cell
    rw [rw_lt h2, rd_lt h1]
theorem dot_F {n k : Nat} {row : List Int} {data : List (List Int)} (hr : isB row) (hd : isM data) (hl : row.length = k) (hdr : rect k n data) {j : Nat} (hj : j < n) :
    toF (rd (dacc (List.replicate n 0) row data) (j : Int)) = sn k (fun q => toF (rd row (q : Int)) * cell data q j) := by
  have := dacc_F hr hd hl hdr hj k 0 (List.replicate n 0) (by omega) (by simp) (isB_rep n)
  rw [List.drop_zero, List.drop_zero, ← List.range_eq_range'] at this
  rw [this]
  have e : rd (List.replicate n 0) (j : Int) = 0 := by rw [rd_lt (by simpa using hj)]; simp
  rw [e, toF_zero, zero_add]
theorem coded_rect {n k : Nat} {rs data : List (List Int)} (hdr : rect k n data) : rect rs.length n (coded n rs data) := ⟨by simp [coded], fun y hy => by
  simp only [coded, List.mem_map] at hy
  obtain ⟨row, _, rfl⟩ := hy
  rw [dacc_len (fun b hb => by simp [hdr.2 b hb])]
  simp⟩
theorem coded_isM (n : Nat) (rs data : List (List Int)) : isM (coded n rs data) := fun y hy => by
  simp only [coded, List.mem_map] at hy
  obtain ⟨row, _, rfl⟩ := hy
  exact dacc_B (isB_rep n)
theorem coded_cell {n m k : Nat} {rs data : List (List Int)} (hR : isM rs) (hrr : rect m k rs) (hd : isM data) (hdr : rect k n data) {i j : Nat} (hi : i < m) (hj : j < n) : cell (coded n rs data) i j = mm k (cell rs) (cell data) i j := by
  have e : rw_ (coded n rs data) i = dacc (List.replicate n 0) (rw_ rs i) data := by
    rw [rw_lt (by rw [(coded_rect hdr).1, hrr.1]; exact hi), rw_lt (by rw [hrr.1]; exact hi)]
    simp [coded]
  have : cell (coded n rs data) i j = toF (rd (dacc (List.replicate n 0) (rw_ rs i) data) (j : Int)) := by unfold cell; rw [e]
  rw [this, dot_F (rw_B hR i) hd (rect_row hrr hi) hdr hj]
  rfl
/-- the cells of all rows: the data, and the parity behind them -/
theorem coded_low {n k r : Nat} (hk : k ≤ 12) (hr : r ≤ 4) {data : List (List Int)} (hd : isM data) (hdr : rect k n data) : coded n ((codec_Row.M k r).take k) data = data := by
  have hR : isM ((codec_Row.M k r).take k) := fun x hx => allM_B hk hr x (List.mem_of_mem_take hx)
  have hrr : rect k k ((codec_Row.M k r).take k) := ⟨by rw [List.length_take, (allM_rect k r).1]; omega, fun x hx => (allM_rect k r).2 x (List.mem_of_mem_take hx)⟩
  have h1 : rect k n (coded n ((codec_Row.M k r).take k) data) := by have := coded_rect (rs := (codec_Row.M k r).take k) hdr; rwa [hrr.1] at this
  refine ext_cell h1 hdr (coded_isM _ _ _) hd fun i j hi hj => ?_
  rw [coded_cell hR hrr hd hdr hi hj]
  have e : ∀ q, q < k → cell ((codec_Row.M k r).take k) i q = dl i q := fun q hq => by
    have : rw_ ((codec_Row.M k r).take k) i = rw_ (codec_Row.M k r) i := by
      rw [rw_lt (by rw [hrr.1]; exact hi), rw_lt (by rw [(allM_rect k r).1]; omega), List.getElem_take]
    have h : cell ((codec_Row.M k r).take k) i q = cell (codec_Row.M k r) i q := by unfold cell; rw [this]
    rw [h, cM_low hk hr hi hq]
  rw [mm_congr (B' := cell data) e (fun _ _ => rfl), dl_mm _ hi]
theorem coded_all {n k r : Nat} (hk : k ≤ 12) (hr : r ≤ 4) {data : List (List Int)} (hd : isM data) (hdr : rect k n data) : coded n (codec_Row.M k r) data = data ++ coded n ((codec_Row.M k r).drop k) data := by
  have : coded n (codec_Row.M k r) data = coded n ((codec_Row.M k r).take k) data ++ coded n ((codec_Row.M k r).drop k) data := by
    unfold coded
    rw [← List.map_append, List.take_append_drop]
  rw [this, coded_low hk hr hd hdr]
/-- what is decoded: all rows' cells, of which the taken ones are as they were -/
theorem decoded {n k r : Nat} (h1 : 1 ≤ k) (hk : k ≤ 12) (hr : r ≤ 4) {rows : List Int} (hl : rows.length = k) (hrg : ∀ x ∈ rows, 0 ≤ x ∧ x < (k + r : Nat)) {V FF : List (List Int)} (hV : rect k k V) (bV : isM V) (hF : rect k n FF) (bF : isM FF)
    (hAV : ∀ i j, i < k → j < k → mm k (cell (took (codec_Row.M k r) rows)) (cell V) i j = dl i j) {i : Nat} (hi : i < k) :
    rw_ (coded n (codec_Row.M k r) (coded n V FF)) (rd rows (i : Int)).toNat = rw_ FF i := by
  have hD : rect k n (coded n V FF) := by have := coded_rect (rs := V) hF; rwa [hV.1] at this
  have bD := coded_isM n V FF
  have hMr := allM_rect k r
  have hMb := allM_B hk hr
  have hT : rect k k (took (codec_Row.M k r) rows) := by have := took_rect (rows := rows) hMr hrg; rwa [hl] at this
  have hx := hrg _ (show rd rows (i : Int) ∈ rows by rw [rd_lt (by omega)]; exact List.getElem_mem _)
  have hxl : (rd rows (i : Int)).toNat < k + r := by omega
  have hC : rect (k + r) n (coded n (codec_Row.M k r) (coded n V FF)) := by have := coded_rect (rs := codec_Row.M k r) hD; rwa [hMr.1] at this
  refine ext_rd ((rect_row hC hxl).trans (rect_row hF hi).symm) fun j hj => ?_
  rw [rect_row hC hxl] at hj
  rw [cell_rd (coded_isM _ _ _), cell_rd bF]
  congr 1
  rw [coded_cell hMb hMr bD hD hxl hj]
  have e1 : mm k (cell (codec_Row.M k r)) (cell (coded n V FF)) (rd rows (i : Int)).toNat j = mm k (cell (took (codec_Row.M k r) rows)) (mm k (cell V) (cell FF)) i j :=
    sn_congr fun q hq => by rw [took_cell (by omega), coded_cell bV hV bF hF hq hj]
  rw [e1, ← mm_assoc]
  have e2 : mm k (mm k (cell (took (codec_Row.M k r) rows)) (cell V)) (cell FF) i j = mm k dl (cell FF) i j := mm_congr (fun q hq => hAV i q hi hq) (fun _ _ => rfl)
  rw [e2, dl_mm _ hi]
/-- cells that were made of data come to the data -/
theorem undone {n k r : Nat} (h1 : 1 ≤ k) (hk : k ≤ 12) (hr : r ≤ 4) {rows : List Int} (hl : rows.length = k) (hrg : ∀ x ∈ rows, 0 ≤ x ∧ x < (k + r : Nat)) {V FF data : List (List Int)} (hV : rect k k V) (bV : isM V) (hF : rect k n FF) (bF : isM FF) (hd : isM data) (hdr : rect k n data)
    (hVA : ∀ i j, i < k → j < k → mm k (cell V) (cell (took (codec_Row.M k r) rows)) i j = dl i j) (hFF : ∀ i, i < k → rw_ FF i = rw_ (coded n (codec_Row.M k r) data) (rd rows (i : Int)).toNat) : coded n V FF = data := by
  have hD : rect k n (coded n V FF) := by have := coded_rect (rs := V) hF; rwa [hV.1] at this
  have hMr := allM_rect k r
  have hMb := allM_B hk hr
  refine ext_cell hD hdr (coded_isM _ _ _) hd fun i j hi hj => ?_
  rw [coded_cell bV hV bF hF hi hj]
  have e1 : mm k (cell V) (cell FF) i j = mm k (cell V) (mm k (cell (took (codec_Row.M k r) rows)) (cell data)) i j := by
    refine mm_congr (fun _ _ => rfl) fun q hq => ?_
    have hx := hrg _ (show rd rows (q : Int) ∈ rows by rw [rd_lt (by omega)]; exact List.getElem_mem _)
    have e : cell FF q j = cell (coded n (codec_Row.M k r) data) (rd rows (q : Int)).toNat j := by unfold cell; rw [hFF q hq]
    rw [e, coded_cell hMb hMr hd hdr (by omega) hj]
    exact sn_congr fun p _ => by rw [took_cell (by omega)]
  rw [e1, ← mm_assoc]
  have e2 : mm k (mm k (cell V) (cell (took (codec_Row.M k r) rows))) (cell data) i j = mm k dl (cell data) i j := mm_congr (fun q hq => hVA i q hi hq) (fun _ _ => rfl)
  rw [e2, dl_mm _ hi]
end Go.Proofs.Ythhncoogmncdkaa.Pure
namespace Go.Proofs.Ythhncoogmncdkaa.Pure
open Go Go.RowKit Go.TwoGf Go.TwoLin Go.Proofs.Ythhncoogmncdkaa Go.Proofs.Ythhncoogmncdkaa.PC Go.Proofs.YthhncoogmncdkaaW.PrintWords Go.Proofs.YthhncoogmncdkaaW.PrintLast Go.Proofs.YthhncoogmncdkaaW.PrintMore
set_option linter.unusedVariables false
theorem thv_posI : ∀ (l : List (List Int)) (i : Nat), (thv l i).2 = true → (thv l i).1 = posI l i ∧ ∃ n, n ≤ 65536 ∧ like n l
  | [], i, h => ⟨rfl, 0, by omega, fun x hx => by cases hx⟩
  | x :: xs, i, h => by
    by_cases e : x.length = 0
    · have e1 : thv (x :: xs) i = thv xs (i + 1) := by rw [thv, if_pos e]
      have e2 : posI (x :: xs) i = posI xs (i + 1) := by rw [posI, if_pos e]
      rw [e1] at h ⊢
      rw [e2]
      obtain ⟨h1, n, h2, h3⟩ := thv_posI xs (i + 1) h
      exact ⟨h1, n, h2, fun y hy => (List.mem_cons.1 hy).elim (fun z => .inl (by rw [z]; exact e)) (h3 y)⟩
    · have e2 : posI (x :: xs) i = (i : Int) :: posI xs (i + 1) := by rw [posI, if_neg e]
      by_cases q : x.length > 65536
      · have e1 : thv (x :: xs) i = ([], false) := by rw [thv, if_neg e, if_pos q]
        rw [e1] at h; cases h
      · by_cases q2 : like x.length xs
        · have e1 : thv (x :: xs) i = ((i : Int) :: posI xs (i + 1), true) := by rw [thv, if_neg e, if_neg q, if_pos q2]
          rw [e1, e2]
          exact ⟨rfl, x.length, by omega, fun y hy => (List.mem_cons.1 hy).elim (fun z => .inr (by rw [z])) (q2 y)⟩
        · have e1 : thv (x :: xs) i = ([], false) := by rw [thv, if_neg e, if_neg q, if_neg q2]
          rw [e1] at h; cases h
theorem thv_like {n : Nat} (hn : n ≤ 65536) : ∀ (l : List (List Int)) (i : Nat), like n l → thv l i = (posI l i, true)
  | [], i, h => rfl
  | x :: xs, i, h => by
    have hx := h x (by simp)
    have hs : like n xs := fun y hy => h y (by simp [hy])
    rw [thv, posI]
    by_cases e : x.length = 0
    · rw [if_pos e, if_pos e, thv_like hn xs (i + 1) hs]
    · have hxn : x.length = n := hx.elim (fun z => absurd z e) id
      rw [if_neg e, if_neg e, if_neg (by omega), hxn, if_pos hs]
theorem posI_mem : ∀ (l : List (List Int)) (i : Nat) (x : Int), x ∈ posI l i ↔ ∃ j : Nat, j < l.length ∧ (rw_ l j).length ≠ 0 ∧ x = ((i + j : Nat) : Int)
  | [], i, x => by
    constructor
    · intro h; cases h
    · rintro ⟨j, h, _⟩; simp at h
  | y :: ys, i, x => by
    have ih := posI_mem ys (i + 1) x
    have shift : (∃ j : Nat, j < ys.length ∧ (rw_ ys j).length ≠ 0 ∧ x = ((i + 1 + j : Nat) : Int)) ↔ ∃ j : Nat, 0 < j ∧ j < (y :: ys).length ∧ (rw_ (y :: ys) j).length ≠ 0 ∧ x = ((i + j : Nat) : Int) := by
      constructor
      · rintro ⟨j, h1, h2, h3⟩
        exact ⟨j + 1, by omega, by simp; omega, h2, by rw [h3]; congr 1; omega⟩
      · rintro ⟨j, h0, h1, h2, h3⟩
        obtain ⟨j, rfl⟩ : ∃ q, j = q + 1 := ⟨j - 1, by omega⟩
        exact ⟨j, by simp at h1; omega, h2, by rw [h3]; congr 1; omega⟩
    by_cases e : y.length = 0
    · rw [posI, if_pos e, ih, shift]
      constructor
      · rintro ⟨j, h0, h1, h2, h3⟩; exact ⟨j, h1, h2, h3⟩
      · rintro ⟨j, h1, h2, h3⟩
        refine ⟨j, ?_, h1, h2, h3⟩
        apply Nat.pos_of_ne_zero
        rintro rfl
        exact h2 e
    · rw [posI, if_neg e, List.mem_cons, ih, shift]
      constructor
      · rintro (h | ⟨j, h0, h1, h2, h3⟩)
        · exact ⟨0, by simp, e, by rw [h]; rfl⟩
        · exact ⟨j, h1, h2, h3⟩
      · rintro ⟨j, h1, h2, h3⟩
        by_cases hj : j = 0
        · subst hj; exact .inl (by rw [h3]; rfl)
        · exact .inr ⟨j, by omega, h1, h2, h3⟩
theorem posI_nodup : ∀ (l : List (List Int)) (i : Nat), (posI l i).Nodup
  | [], i => List.nodup_nil
  | y :: ys, i => by
    rw [posI]
    split
    · exact posI_nodup ys (i + 1)
    · rw [List.nodup_cons]
      refine ⟨fun h => ?_, posI_nodup ys (i + 1)⟩
      obtain ⟨j, _, _, h3⟩ := (posI_mem ys (i + 1) _).1 h
      omega
/-- what is asked of the cells that are decoded -/
structure Dec (k r n : Nat) (cells : List (List Int)) : Prop where
  k1 : 1 ≤ k
  k2 : k ≤ 12
  r4 : r ≤ 4
  len : cells.length = k + r
  n1 : 1 ≤ n
  n2 : n ≤ 65536
  like : like n cells
  cnt : k ≤ (posI cells 0).length
  bs : isM cells
section
variable {k r n : Nat} {cells : List (List Int)}
/-- the cells that are taken -/
def tk (k : Nat) (cells : List (List Int)) : List Int := (posI cells 0).take k
theorem Dec.tk_len (h : Dec k r n cells) : (tk k cells).length = k := by unfold tk; rw [List.length_take]; have := h.cnt; omega
theorem Dec.tk_mem (h : Dec k r n cells) {x : Int} (hx : x ∈ tk k cells) : ∃ j : Nat, j < k + r ∧ (rw_ cells j).length = n ∧ x = (j : Int) := by
  obtain ⟨j, h1, h2, h3⟩ := (posI_mem cells 0 x).1 (List.mem_of_mem_take hx)
  refine ⟨j, by rw [← h.len]; exact h1, ?_, by rw [h3]; congr 1; omega⟩
  exact (h.like _ (rw_mem h1)).elim (fun z => absurd z h2) id
theorem Dec.tk_rg (h : Dec k r n cells) : ∀ x ∈ tk k cells, 0 ≤ x ∧ x < ((k + r : Nat) : Int) := fun x hx => by
  obtain ⟨j, h1, _, rfl⟩ := h.tk_mem hx
  omega
theorem Dec.tk_nd (h : Dec k r n cells) : (tk k cells).Nodup := (posI_nodup cells 0).sublist (List.take_sublist _ _)
theorem Dec.ff (h : Dec k r n cells) : rect k n (took cells (tk k cells)) ∧ isM (took cells (tk k cells)) := by
  refine ⟨⟨by unfold took; rw [List.length_map, h.tk_len], fun y hy => ?_⟩, took_isM h.bs _⟩
  simp only [took, List.mem_map] at hy
  obtain ⟨x, hx, rfl⟩ := hy
  obtain ⟨j, _, h2, rfl⟩ := h.tk_mem hx
  exact h2
theorem rect_alk {m : Nat} (h1 : 1 ≤ n) (h2 : n ≤ 65536) {M : List (List Int)} (h : rect m n M) : Alk n M := fun x hx => by
  have := h.2 x hx
  omega
theorem took_rows {M : List (List Int)} {rows : List Int} {i : Nat} (hi : i < rows.length) : rw_ (took M rows) i = rw_ M (rd rows (i : Int)).toNat := by
  rw [rd_lt hi]
  unfold took
  rw [rw_lt (by simpa using hi)]
  simp
/-- the data that are told -/
theorem dec_ok {K : Nat} (hK : 300 ≤ K) (h : Dec k r n cells) : ∃ data, isM data ∧ rect k n data ∧ codec_Decode.f K (k : Int) (r : Int) cells = some (coded n (codec_Row.M k r) data, 0) ∧
    (∀ x : Nat, (x : Int) ∈ tk k cells → rw_ (coded n (codec_Row.M k r) data) x = rw_ cells x) ∧
    (∀ d2, isM d2 → rect k n d2 → (∀ x : Nat, (x : Int) ∈ tk k cells → rw_ (coded n (codec_Row.M k r) d2) x = rw_ cells x) → data = d2) := by
  obtain ⟨V, q1, q2, q3, q4, q5⟩ := took_inv (K := K) (by omega) h.k1 h.k2 h.r4 h.tk_len h.tk_nd h.tk_rg
  obtain ⟨f1, f2⟩ := h.ff
  have hD : rect k n (coded n V (took cells (tk k cells))) := by have := coded_rect (rs := V) f1; rwa [q2.1] at this
  have bD := coded_isM n V (took cells (tk k cells))
  have hk := h.k1
  have hk2 := h.k2
  have hr := h.r4
  have hn1 := h.n1
  have hn2 := h.n2
  refine ⟨coded n V (took cells (tk k cells)), bD, hD, ?_, fun x hx => ?_, fun d2 b2 r2 e2 => ?_⟩
  · unfold codec_Decode.f
    rw [if_neg (by unfold codec_Row.bad; omega), if_pos (row_inv (by omega) (by omega) (by omega)), there_f (by omega) (by omega), if_pos (by rw [h.len]; omega), thv_like hn2 cells 0 h.like]
    simp only [Option.bind_some]
    rw [if_neg (by simp), if_neg (by have := h.cnt; omega), Int.toNat_natCast, Int.toNat_natCast]
    show codec_Decode.go K k r cells (tk k cells) = _
    unfold codec_Decode.go
    rw [if_pos ⟨h.len, h.tk_rg⟩]
    show ((matrix_Inverse.f K (took (codec_Row.M k r) (tk k cells))).bind _) = _
    rw [q1]
    simp only [Option.bind_some]
    rw [if_neg (by simp), if_pos (by rw [q2.1]; omega)]
    have e : (tk k cells).map (fun x => rd_L1 cells x) = took cells (tk k cells) := rfl
    rw [e, dots_v (n := n) (by omega) f2 (rect_alk hn1 hn2 f1) (by rw [f1.1]; omega) (by rw [f1.1]; omega) V [] (fun row hrow => ⟨q3 row hrow, by rw [q2.2 row hrow, f1.1]⟩)]
    simp only [Option.bind_some, List.nil_append]
    rw [if_neg (by simp), dots_v (n := n) (by omega) bD (rect_alk hn1 hn2 hD) (by rw [hD.1]; omega) (by rw [hD.1]; omega) _ [] (fun row hrow => by
      have hm := List.mem_of_mem_drop hrow
      exact ⟨allM_B (by omega) (by omega) row hm, by rw [(allM_rect k r).2 row hm, hD.1]⟩)]
    simp only [Option.bind_some, List.nil_append]
    rw [coded_all hk2 hr bD hD]
  · obtain ⟨i, hi, hix⟩ := List.getElem_of_mem hx
    have e : (rd (tk k cells) (i : Int)).toNat = x := by rw [rd_lt hi, hix, Int.toNat_natCast]
    have hik : i < k := by rw [h.tk_len] at hi; exact hi
    have := decoded (n := n) hk hk2 hr h.tk_len h.tk_rg q2 q3 f1 f2 q5 hik
    rw [e] at this
    rw [this, took_rows hi, e]
  · refine undone hk hk2 hr h.tk_len h.tk_rg q2 q3 f1 f2 b2 r2 q4 fun i hi => ?_
    have hi' : i < (tk k cells).length := by rw [h.tk_len]; exact hi
    rw [took_rows hi']
    have hx : rd (tk k cells) (i : Int) ∈ tk k cells := by rw [rd_lt hi']; exact List.getElem_mem _
    obtain ⟨j, _, _, hj⟩ := h.tk_mem hx
    rw [hj, Int.toNat_natCast]
    rw [hj] at hx
    exact (e2 j hx).symm
theorem dec_any {K : Nat} (hK : 300 ≤ K) {a b : Int} (hB : isM cells) :
    (¬ okK a b ∧ codec_Decode.f K a b cells = some ([], 2)) ∨
    (okK a b ∧ ¬ ((cells.length : Int) = a + b ∧ (thv cells 0).2 = true) ∧ codec_Decode.f K a b cells = some ([], 40)) ∨
    (okK a b ∧ (cells.length : Int) = a + b ∧ (thv cells 0).2 = true ∧ ((posI cells 0).length : Int) < a ∧ codec_Decode.f K a b cells = some ([], 5)) ∨
    (∃ k r n : Nat, a = k ∧ b = r ∧ Dec k r n cells) := by
  by_cases h : okK a b
  case neg => exact .inl ⟨h, by unfold codec_Decode.f; rw [if_pos (by unfold codec_Row.bad; unfold okK at h; omega)]⟩
  have hk := h
  obtain ⟨h1, h2, h3, h4⟩ := h
  have e : ∀ {x}, (codec_there.f K cells (a + b)).bind (fun t => if t.2 = false then some ([], 40) else if (t.1.length : Int) < a then some ([], 5) else codec_Decode.go K a.toNat b.toNat cells (t.1.take a.toNat)) = some x → codec_Decode.f K a b cells = some x := fun hx => by
    unfold codec_Decode.f
    rw [if_neg (by unfold codec_Row.bad; omega), if_pos (row_inv h1 h2 h4)]
    exact hx
  by_cases hl : (cells.length : Int) = a + b
  case neg => exact .inr (.inl ⟨hk, fun z => hl z.1, e (by rw [there_f (by omega) (by omega), if_neg hl]; rfl)⟩)
  cases ht : (thv cells 0).2 with
  | false => exact .inr (.inl ⟨hk, fun z => (by cases z.2), e (by rw [there_f (by omega) (by omega), if_pos hl]; simp only [Option.bind_some]; rw [if_pos ht])⟩)
  | true =>
    obtain ⟨t1, n, t2, t3⟩ := thv_posI cells 0 ht
    by_cases hc : ((posI cells 0).length : Int) < a
    · exact .inr (.inr (.inl ⟨hk, hl, rfl, hc, e (by rw [there_f (by omega) (by omega), if_pos hl]; simp only [Option.bind_some]; rw [if_neg (by rw [ht]; simp), t1, if_pos hc])⟩))
    · obtain ⟨k, rfl⟩ := Int.eq_ofNat_of_zero_le (show 0 ≤ a by omega)
      obtain ⟨r, rfl⟩ := Int.eq_ofNat_of_zero_le (show 0 ≤ b by omega)
      refine .inr (.inr (.inr ⟨k, r, n, rfl, rfl, by omega, by omega, by omega, by omega, ?_, t2, t3, by omega, hB⟩))
      cases hp : posI cells 0 with
      | nil => rw [hp] at hc; simp at hc; omega
      | cons x xs =>
        obtain ⟨j, j1, j2, j3⟩ := (posI_mem cells 0 x).1 (by rw [hp]; simp)
        have := t3 _ (rw_mem j1)
        omega
end
/-! Verify -/
theorem veq : ∀ (p q : List (List Int)), isM p → isM q → codec_Verify.eq p q = decide (p = q)
  | [], [], _, _ => rfl
  | [], _ :: _, _, _ => rfl
  | _ :: _, [], _, _ => rfl
  | x :: xs, y :: ys, hp, hq => by
    unfold codec_Verify.eq
    rw [veq xs ys (fun z hz => hp z (by simp [hz])) (fun z hz => hq z (by simp [hz]))]
    have hb : (bytes_Equal.f x y = some true) ↔ x = y := by
      unfold bytes_Equal.f
      rw [Option.some.injEq, beq_iff_eq]
      exact ⟨fun h => strOfNums_inj (hp x (by simp)) (hq y (by simp)) h, fun h => by rw [h]⟩
    by_cases e : x = y
    · rw [if_pos (hb.2 e)]
      subst e
      by_cases e2 : xs = ys
      · rw [decide_eq_true e2, decide_eq_true (by rw [e2])]
      · rw [decide_eq_false e2, decide_eq_false (fun z => e2 (List.cons.inj z).2)]
    · rw [if_neg (fun z => e (hb.1 z)), decide_eq_false (fun z => e (List.cons.inj z).1)]
theorem ver_ok {K : Nat} (hK : 300 ≤ K) {k r n : Nat} {cells : List (List Int)} (k1 : 1 ≤ k) (k2 : k ≤ 12) (r4 : r ≤ 4) (n1 : 1 ≤ n) (n2 : n ≤ 65536) (hc : rect (k + r) n cells) (hB : isM cells) :
    codec_Verify.f K (k : Int) (r : Int) cells = some (decide (coded n ((codec_Row.M k r).drop k) (cells.take k) = cells.drop k), 0) := by
  have ha := rect_alk n1 n2 hc
  obtain ⟨t1, t2⟩ := thv_alk (n := n) (l := cells) (by rw [hc.1]; omega) ha
  have hl := hc.1
  have hB2 : isM (cells.take k) := fun x hx => hB x (List.mem_of_mem_take hx)
  have hr2 : rect k n (cells.take k) := ⟨by rw [List.length_take, hl]; omega, fun x hx => hc.2 x (List.mem_of_mem_take hx)⟩
  unfold codec_Verify.f
  rw [if_neg (by unfold codec_Row.bad; omega), if_pos (row_inv (by omega) (by omega) (by omega)), there_f (by omega) (by omega), if_pos (by rw [hl]; omega)]
  simp only [Option.bind_some]
  rw [if_neg (by rw [t1]; simp), if_neg (by rw [t2, hl]; omega), if_pos (by rw [hl]; omega), Int.toNat_natCast, Int.toNat_natCast, dots_v (n := n) (by omega) hB2 (rect_alk n1 n2 hr2) (by rw [hr2.1]; omega) (by rw [hr2.1]; omega) _ [] (fun row hrow => by
      have hm := List.mem_of_mem_drop hrow
      exact ⟨allM_B (by omega) (by omega) row hm, by rw [(allM_rect k r).2 row hm, hr2.1]⟩)]
  simp only [Option.bind_some, List.nil_append]
  rw [veq _ _ (coded_isM _ _ _) (fun x hx => hB x (List.mem_of_mem_drop hx))]
end Go.Proofs.Ythhncoogmncdkaa.Pure
namespace Go.Proofs.Ythhncoogmncdkaa.Pure
open Go Go.RowKit Go.TwoGf Go.TwoLin Go.Proofs.Ythhncoogmncdkaa Go.Proofs.Ythhncoogmncdkaa.PC Go.Proofs.YthhncoogmncdkaaW.PrintWords Go.Proofs.YthhncoogmncdkaaW.PrintLast Go.Proofs.YthhncoogmncdkaaW.PrintMore
set_option linter.unusedVariables false
theorem wkrR {k r : Nat} (hk : k ≤ 12) (hr : r ≤ 4) : wrap64 ((k : Int) + (r : Int)) = ((k + r : Nat) : Int) := by unfold wrap64; omega
theorem may_f (a b : Int) : twoslotref04_may.f a b = some (decide (okK a b)) := by
  unfold twoslotref04_may.f
  by_cases h1 : a ≥ 1
  · rw [if_pos h1]
    by_cases h2 : a ≤ 12
    · rw [if_pos h2]
      by_cases h3 : b ≥ 0
      · rw [if_pos h3]
        congr 1
        exact decide_eq_decide.2 ⟨fun h4 => ⟨h1, h2, h3, h4⟩, fun h => h.2.2.2⟩
      · rw [if_neg h3, decide_eq_false (fun h => h3 h.2.2.1)]
    · rw [if_neg h2, decide_eq_false (fun h => h2 h.2.1)]
  · rw [if_neg h1, decide_eq_false (fun h => h1 h.1)]
/-- the row of a cell, or the error -/
theorem row_all {a b c : Int} (ha : in64 a) (hb : in64 b) (hc : in64 c) : codec_Row.f a b c = some (if okK a b ∧ 0 ≤ c ∧ c < a + b then (rw_ (codec_Row.M a.toNat b.toNat) c.toNat, 0) else ([], 2)) := by
  by_cases h : okK a b
  · have h' := h
    obtain ⟨h1, h2, h3, h4⟩ := h'
    by_cases h5 : 0 ≤ c ∧ c < a + b
    · rw [if_pos ⟨h, h5⟩]; exact row_f h1 h2 h3 h4 h5.1 h5.2
    · rw [if_neg (fun z => h5 z.2)]
      unfold codec_Row.f
      rw [if_pos ⟨ha, hb, hc⟩, if_neg (by unfold codec_Row.bad; omega), if_pos (row_inv h1 h2 h4), if_neg h5]
  · rw [if_neg (fun z => h z.1)]
    exact row_bad ha hb hc h
theorem high_rowF {k r i : Nat} (hk : k ≤ 12) (hr : r ≤ 4) (hi : i < r) : rd_L1 (mkF r k (cau k)) (i : Int) = rw_ (codec_Row.M k r) (k + i) := by
  rw [codeM hk hr]
  unfold rw_ rd_L1
  rw [Int.toNat_natCast, List.getD_eq_getElem?_getD, List.getD_eq_getElem?_getD, List.getElem?_append_right (by rw [(rect_mkF _ _ _).1]; omega), (rect_mkF _ _ _).1, Nat.add_sub_cancel_left]
theorem low_row {k r i : Nat} (hk : k ≤ 12) (hr : r ≤ 4) (hi : i < k) : (List.replicate k (0 : Int)).set i 1 = rw_ (codec_Row.M k r) i := by
  have hl : (rw_ (codec_Row.M k r) i).length = k := rect_row (allM_rect k r) (by omega)
  refine ext_rd (by rw [List.length_set, List.length_replicate, hl]) fun j hj => ?_
  rw [List.length_set, List.length_replicate] at hj
  rw [cell_rd (allM_B hk hr), cM_low hk hr hi hj, rd_set (by simpa using hi)]
  unfold dl
  by_cases e : j = i
  · rw [if_pos e, if_pos e.symm]; rfl
  · rw [if_neg e, if_neg (fun z => e z.symm)]
    have : rd (List.replicate k (0 : Int)) (j : Int) = 0 := by rw [rd_lt (by simpa using hj)]; simp
    rw [this]; rfl
theorem rrow_ok {k r i : Nat} (k1 : 1 ≤ k) (hk : k ≤ 12) (hr : r ≤ 4) (hi : i < k + r) {K : Nat} (hK : 1200 ≤ K) : twoslotref04_Row.f K (k : Int) (r : Int) (i : Int) = some (rw_ (codec_Row.M k r) i, 0) := by
  obtain ⟨K, rfl⟩ : ∃ m, K = m + 1 := ⟨K - 1, by omega⟩
  unfold twoslotref04_Row.f
  rw [may_f, Option.bind_some, decide_eq_true (show okK (k : Int) (r : Int) from ⟨by omega, by omega, by omega, by omega⟩), if_pos rfl, if_neg (by omega), wkrR hk hr, decide_eq_false (by omega), twoslotref04_Row.j0, if_neg (by decide)]
  by_cases h : k ≤ i
  · obtain ⟨p, rfl⟩ : ∃ p, i = k + p := ⟨i - k, by omega⟩
    have hp : p < r := by omega
    rw [if_pos (by omega), rcau_f (by omega) k1 hk (by omega) hr, Option.bind_some]
    dsimp only
    have hw : wrap64 (((k + p : Nat) : Int) - (k : Int)) = (p : Int) := by unfold wrap64; omega
    rw [hw, if_pos (by omega), if_pos (by rw [(rect_mkF _ _ _).1]; omega), high_rowF hk hr hp]
  · rw [if_neg (by omega), if_pos (by omega), Int.toNat_natCast, if_pos (by omega), Option.bind_some, if_pos (by omega), if_pos (by rw [List.length_replicate]; omega), Int.toNat_natCast, low_row hk hr (by omega)]
theorem rrow_all {K : Nat} (hK : 1200 ≤ K) {a b c : Int} : twoslotref04_Row.f K a b c = some (if okK a b ∧ 0 ≤ c ∧ c < a + b then (rw_ (codec_Row.M a.toNat b.toNat) c.toNat, 0) else ([], 2)) := by
  by_cases h : okK a b
  · have h' := h
    obtain ⟨h1, h2, h3, h4⟩ := h'
    by_cases h5 : 0 ≤ c ∧ c < a + b
    · rw [if_pos ⟨h, h5⟩]
      obtain ⟨k, rfl⟩ := Int.eq_ofNat_of_zero_le (show 0 ≤ a by omega)
      obtain ⟨r, rfl⟩ := Int.eq_ofNat_of_zero_le (show 0 ≤ b by omega)
      obtain ⟨i, rfl⟩ := Int.eq_ofNat_of_zero_le h5.1
      exact rrow_ok (by omega) (by omega) (by omega) (by omega) hK
    · rw [if_neg (fun z => h5 z.2)]
      obtain ⟨K, rfl⟩ : ∃ m, K = m + 1 := ⟨K - 1, by omega⟩
      unfold twoslotref04_Row.f
      rw [may_f, Option.bind_some, decide_eq_true h, if_pos rfl]
      by_cases h6 : c < 0
      · rw [if_pos h6, twoslotref04_Row.j0, if_pos rfl]
      · have hw : wrap64 (a + b) = a + b := by unfold wrap64; omega
        rw [if_neg h6, hw, decide_eq_true (by omega), twoslotref04_Row.j0, if_pos rfl]
  · rw [if_neg (fun z => h z.1)]
    obtain ⟨K, rfl⟩ : ∃ m, K = m + 1 := ⟨K - 1, by omega⟩
    unfold twoslotref04_Row.f
    rw [may_f, Option.bind_some, decide_eq_false h, if_neg (by decide), twoslotref04_Row.j0, if_pos rfl]
/-! alike -/
def full (b : Bool) (l : List (List Int)) : Prop := b = true → ∀ x ∈ l, x.length ≠ 0
instance fullDec (b : Bool) (l : List (List Int)) : Decidable (full b l) := by unfold full; infer_instance
theorem full_cons {b : Bool} {x : List Int} {xs : List (List Int)} (h : ¬ (x.length = 0 ∧ b = true)) : full b (x :: xs) ↔ full b xs := by
  constructor
  · exact fun z hb y hy => z hb y (List.mem_cons_of_mem _ hy)
  · intro z hb y hy
    rcases List.mem_cons.1 hy with rfl | hy
    · exact fun e => h ⟨e, hb⟩
    · exact z hb y hy
theorem alike_l1 (l : List (List Int)) (hl : l.length ≤ 1000) (b : Bool) {m : Nat} (m1 : 1 ≤ m) (m2 : m ≤ 65536) : ∀ (d K i t : Nat), i + d = l.length → d < K → 1 ≤ t → t ≤ i →
    twoslotref04_alike.l0 K l (l.length : Int) b (t : Int) (m : Int) (i : Int) = some (if full b (l.drop i) ∧ like m (l.drop i) then (((t + (posI (l.drop i) i).length : Nat) : Int), true) else (0, false)) := by
  intro d
  induction d with
  | zero =>
    intro K i t hi hK t1 t2
    obtain ⟨K, rfl⟩ : ∃ q, K = q + 1 := ⟨K - 1, by omega⟩
    rw [twoslotref04_alike.l0, if_neg (by omega), List.drop_of_length_le (by omega), if_pos ⟨fun _ x hx => (by cases hx), fun x hx => (by cases hx)⟩]
    simp [posI]
  | succ d ih =>
    intro K i t hi hK t1 t2
    obtain ⟨K, rfl⟩ : ∃ q, K = q + 1 := ⟨K - 1, by omega⟩
    have hil : i < l.length := by omega
    rw [twoslotref04_alike.l0, if_pos (by omega), if_pos (by omega), if_pos (by omega), rdL, List.drop_eq_getElem_cons hil, ← rw_lt hil]
    generalize hx : rw_ l i = x
    by_cases h0 : x.length = 0
    · rw [if_pos (by omega)]
      cases b with
      | true => rw [if_pos rfl, if_neg (fun z => z.1 rfl x (by simp) h0)]
      | false =>
        rw [if_neg (by decide), w64 (i := i) (by omega), ih K (i + 1) t (by omega) (by omega) t1 (by omega), posI, if_pos h0]
        have e : (full false (x :: l.drop (i + 1)) ∧ like m (x :: l.drop (i + 1))) ↔ (full false (l.drop (i + 1)) ∧ like m (l.drop (i + 1))) :=
          ⟨fun z => ⟨(full_cons (by simp)).1 z.1, fun y hy => z.2 y (List.mem_cons_of_mem _ hy)⟩, fun z => ⟨(full_cons (by simp)).2 z.1, fun y hy => (List.mem_cons.1 hy).elim (fun e => .inl (by rw [e]; exact h0)) (z.2 y)⟩⟩
        by_cases q : full false (l.drop (i + 1)) ∧ like m (l.drop (i + 1))
        · rw [if_pos q, if_pos (e.2 q)]
        · rw [if_neg q, if_neg (fun z => q (e.1 z))]
    · rw [if_neg (by omega)]
      by_cases h1 : x.length = m
      · rw [if_neg (by omega), if_pos (by omega), if_pos (by omega), h1, w64 (i := t) (by omega), w64 (i := i) (by omega), ih K (i + 1) (t + 1) (by omega) (by omega) (by omega) (by omega), posI, if_neg h0]
        have e : (full b (x :: l.drop (i + 1)) ∧ like m (x :: l.drop (i + 1))) ↔ (full b (l.drop (i + 1)) ∧ like m (l.drop (i + 1))) :=
          ⟨fun z => ⟨(full_cons (fun y => h0 y.1)).1 z.1, fun y hy => z.2 y (List.mem_cons_of_mem _ hy)⟩, fun z => ⟨(full_cons (fun y => h0 y.1)).2 z.1, fun y hy => (List.mem_cons.1 hy).elim (fun e => .inr (by rw [e]; exact h1)) (z.2 y)⟩⟩
        by_cases q : full b (l.drop (i + 1)) ∧ like m (l.drop (i + 1))
        · rw [if_pos q, if_pos (e.2 q), List.length_cons]
          congr 3
          omega
        · rw [if_neg q, if_neg (fun z => q (e.1 z))]
      · rw [if_neg (show ¬ (full b (x :: l.drop (i + 1)) ∧ like m (x :: l.drop (i + 1))) from fun z => (z.2 x (by simp)).elim h0 h1)]
        by_cases h2 : x.length > 65536
        · rw [if_pos (by omega)]
        · rw [if_neg (by omega), if_pos (by omega), if_neg (by omega)]
theorem alike_l0' (l : List (List Int)) (hl : l.length ≤ 1000) (b : Bool) : ∀ (d K i : Nat), i + d = l.length → d < K →
    twoslotref04_alike.l0 K l (l.length : Int) b 0 0 (i : Int) = some (if full b (l.drop i) ∧ (thv (l.drop i) i).2 = true then (((posI (l.drop i) i).length : Int), true) else (0, false)) := by
  intro d
  induction d with
  | zero =>
    intro K i hi hK
    obtain ⟨K, rfl⟩ : ∃ q, K = q + 1 := ⟨K - 1, by omega⟩
    rw [twoslotref04_alike.l0, if_neg (by omega), List.drop_of_length_le (by omega), if_pos ⟨fun _ x hx => (by cases hx), rfl⟩]
    rfl
  | succ d ih =>
    intro K i hi hK
    obtain ⟨K, rfl⟩ : ∃ q, K = q + 1 := ⟨K - 1, by omega⟩
    have hil : i < l.length := by omega
    rw [twoslotref04_alike.l0, if_pos (by omega), if_pos (by omega), if_pos (by omega), rdL, List.drop_eq_getElem_cons hil, ← rw_lt hil]
    generalize hx : rw_ l i = x
    by_cases h0 : x.length = 0
    · rw [if_pos (by omega)]
      cases b with
      | true => rw [if_pos rfl, if_neg (fun z => z.1 rfl x (by simp) h0)]
      | false =>
        have e1 : thv (x :: l.drop (i + 1)) i = thv (l.drop (i + 1)) (i + 1) := by rw [thv, if_pos h0]
        have e2 : posI (x :: l.drop (i + 1)) i = posI (l.drop (i + 1)) (i + 1) := by rw [posI, if_pos h0]
        rw [if_neg (by decide), w64 (i := i) (by omega), ih K (i + 1) (by omega) (by omega), e1, e2]
        have e : full false (x :: l.drop (i + 1)) ↔ full false (l.drop (i + 1)) := full_cons (by simp)
        by_cases q : full false (l.drop (i + 1)) ∧ (thv (l.drop (i + 1)) (i + 1)).2 = true
        · rw [if_pos q, if_pos ⟨e.2 q.1, q.2⟩]
        · rw [if_neg q, if_neg (fun z => q ⟨e.1 z.1, z.2⟩)]
    · rw [if_neg (by omega)]
      have e2 : posI (x :: l.drop (i + 1)) i = (i : Int) :: posI (l.drop (i + 1)) (i + 1) := by rw [posI, if_neg h0]
      have e0 : full b (x :: l.drop (i + 1)) ↔ full b (l.drop (i + 1)) := full_cons (fun y => h0 y.1)
      by_cases h2 : x.length > 65536
      · have e1 : thv (x :: l.drop (i + 1)) i = ([], false) := by rw [thv, if_neg h0, if_pos h2]
        rw [if_pos (by omega), if_neg (by rw [e1]; exact fun z => by cases z.2)]
      · rw [if_neg (by omega), if_neg (by omega), show wrap64 ((0 : Int) + 1) = ((1 : Nat) : Int) from by unfold wrap64; omega, w64 (i := i) (by omega), e2]
        rw [alike_l1 l hl b (m := x.length) (by omega) (by omega) d K (i + 1) 1 (by omega) (by omega) (by omega) (by omega)]
        by_cases h3 : like x.length (l.drop (i + 1))
        · have e1 : (thv (x :: l.drop (i + 1)) i).2 = true := by rw [thv, if_neg h0, if_neg h2, if_pos h3]
          by_cases q : full b (l.drop (i + 1))
          · rw [if_pos ⟨q, h3⟩, if_pos ⟨e0.2 q, e1⟩, List.length_cons]
            congr 3
            omega
          · rw [if_neg (fun z => q z.1), if_neg (fun z => q (e0.1 z.1))]
        · have e1 : (thv (x :: l.drop (i + 1)) i).2 = false := by rw [thv, if_neg h0, if_neg h2, if_neg h3]
          rw [if_neg (fun z => h3 z.2), if_neg (by rw [e1]; exact fun z => by cases z.2)]
theorem ralike_f {K : Nat} {l : List (List Int)} (hK : 1100 ≤ K) (b : Bool) {n : Int} (hn : n ≤ 100) : twoslotref04_alike.f K l n b = some (if (l.length : Int) = n ∧ full b l ∧ (thv l 0).2 = true then (((posI l 0).length : Int), true) else (0, false)) := by
  unfold twoslotref04_alike.f
  by_cases h : (l.length : Int) = n
  · rw [if_pos h]
    have := alike_l0' l (by omega) b l.length K 0 (by omega) (by omega)
    rw [List.drop_zero, h] at this
    rw [show ((0 : Nat) : Int) = 0 from rfl] at this
    rw [this]
    by_cases q : full b l ∧ (thv l 0).2 = true
    · rw [if_pos q, if_pos ⟨h, q⟩]
    · rw [if_neg q, if_neg (fun z => q z.2)]
  · rw [if_neg h, if_neg (fun z => h z.1)]
/-! made -/
theorem rdot_v {K : Nat} (hK : 67000 < K) {n : Nat} {row : List Int} {data : List (List Int)} (hr : isB row) (hd : ∀ b ∈ data, isB b) (ha : Alk n data) (h1 : 1 ≤ data.length) (h2 : data.length ≤ 16) (h3 : row.length = data.length) :
    twoslotref02_Dot.f K row data = some (dacc (List.replicate n 0) row data, 0) := by
  rw [rdot_f hK hr hd]
  unfold dotv
  rw [if_pos ⟨by omega, by omega, alk_dots ha⟩, if_neg (by omega), show (rd_L1 data 0).length = n from rd_L1_n ha (i := 0) (by omega)]
theorem made_l0 {k r n : Nat} (k1 : 1 ≤ k) (hk : k ≤ 12) (hr : r ≤ 4) {data : List (List Int)} (n1 : 1 ≤ n) (n2 : n ≤ 65536) (hd : isM data) (hdr : rect k n data) : ∀ (d K i : Nat) (acc : List (List Int)), i + d = k + r → 67100 + d < K → acc.length ≤ i →
    twoslotref04_made.l0 K (k : Int) (r : Int) ((k + r : Nat) : Int) data acc (i : Int) = some (acc ++ coded n ((codec_Row.M k r).drop i) data) := by
  have hM := allM_rect k r
  have hMl := hM.1
  have hal := rect_alk n1 n2 hdr
  have hdl := hdr.1
  intro d
  induction d with
  | zero =>
    intro K i acc hi hK ha
    obtain ⟨K, rfl⟩ : ∃ q, K = q + 1 := ⟨K - 1, by omega⟩
    rw [twoslotref04_made.l0, if_neg (by omega), List.drop_of_length_le (by omega)]
    simp [coded]
  | succ d ih =>
    intro K i acc hi hK ha
    obtain ⟨K, rfl⟩ : ∃ q, K = q + 1 := ⟨K - 1, by omega⟩
    have hir : i < k + r := by omega
    have hrow : twoslotref04_Row.f K (k : Int) (r : Int) (i : Int) = some (rw_ (codec_Row.M k r) i, 0) := rrow_ok k1 hk hr hir (by omega)
    have hdot : twoslotref02_Dot.f K (rw_ (codec_Row.M k r) i) data = some (dacc (List.replicate n 0) (rw_ (codec_Row.M k r) i) data, 0) := rdot_v (by omega) (rw_B (allM_B hk hr) i) hd hal (by omega) (by omega) (by rw [rect_row hM hir, hdl])
    rw [twoslotref04_made.l0, if_pos (by omega), hrow, Option.bind_some]
    dsimp only
    rw [hdot, Option.bind_some]
    dsimp only
    rw [if_pos (by omega), w64 (i := i) (by omega), ih K (i + 1) _ (by omega) (by omega) (by rw [List.length_append]; simp; omega), List.append_assoc]
    congr 2
    conv => rhs; rw [List.drop_eq_getElem_cons (show i < (codec_Row.M k r).length by omega)]
    rw [rw_lt (by omega)]
    rfl
theorem made_f {K k r n i : Nat} (hK : 67200 < K) (k1 : 1 ≤ k) (hk : k ≤ 12) (hr : r ≤ 4) (hi : i ≤ k + r) {data : List (List Int)} (n1 : 1 ≤ n) (n2 : n ≤ 65536) (hd : isM data) (hdr : rect k n data) :
    twoslotref04_made.f K (k : Int) (r : Int) (i : Int) ((k + r : Nat) : Int) data = some (coded n ((codec_Row.M k r).drop i) data) := by
  unfold twoslotref04_made.f
  have := made_l0 k1 hk hr n1 n2 hd hdr (k + r - i) K i [] (by omega) (by omega) (by simp)
  rw [this, List.nil_append]
/-! Encode -/
theorem full_alk {l : List (List Int)} (h1 : 1 ≤ l.length) : (full true l ∧ (thv l 0).2 = true) ↔ ∃ n, Alk n l := by
  constructor
  · rintro ⟨h, h2⟩
    have hc := posI_all l 0 (h rfl)
    obtain ⟨e, _⟩ := thv_posI l 0 h2
    exact thv_full h1 h2 (by rw [e, hc]; exact Nat.le_refl _)
  · rintro ⟨n, h⟩
    exact ⟨fun _ x hx => by have := h x hx; omega, (thv_alk h1 h).1⟩
/-- the parity, or the error -/
theorem enc_both {K : Nat} (hK : 68000 ≤ K) {a b : Int} {data : List (List Int)} (hd : isM data) : ∃ p e, codec_Encode.f K a b data = some (p, e) ∧ twoslotref04_Encode.f K a b data = some (p, e) ∧ (p = [] ∨ ∃ n, Alk n p ∧ p.length ≤ 4) ∧ isM p := by
  by_cases h : okK a b
  case neg =>
    refine ⟨[], 2, by unfold codec_Encode.f; rw [if_pos (by unfold codec_Row.bad; unfold okK at h; omega)], ?_, .inl rfl, fun x hx => by cases hx⟩
    unfold twoslotref04_Encode.f
    rw [may_f, Option.bind_some, decide_eq_false h, if_neg (by decide)]
  have hok := h
  obtain ⟨h1, h2, h3, h4⟩ := h
  obtain ⟨k, rfl⟩ := Int.eq_ofNat_of_zero_le (show 0 ≤ a by omega)
  obtain ⟨r, rfl⟩ := Int.eq_ofNat_of_zero_le (show 0 ≤ b by omega)
  by_cases hc : ((data.length : Int) = (k : Int) ∧ ∃ n, Alk n data)
  · obtain ⟨hl, n, ha⟩ := hc
    have hdr : rect k n data := ⟨by omega, fun z hz => (ha z hz).2.2⟩
    have hn : 1 ≤ n ∧ n ≤ 65536 := by
      have := ha _ (rw_mem (M := data) (i := 0) (by omega))
      omega
    have he := enc_ok (K := K) (by omega) hok hl ha hd
    rw [Int.toNat_natCast, Int.toNat_natCast] at he
    have cr : rect r n (coded n ((codec_Row.M k r).drop k) data) := by
      have := coded_rect (rs := (codec_Row.M k r).drop k) hdr
      rwa [List.length_drop, (allM_rect k r).1, Nat.add_sub_cancel_left] at this
    refine ⟨_, 0, he, ?_, .inr ⟨n, rect_alk hn.1 hn.2 cr, by rw [cr.1]; omega⟩, coded_isM _ _ _⟩
    unfold twoslotref04_Encode.f
    rw [may_f, Option.bind_some, decide_eq_true hok, if_pos rfl, ralike_f (by omega) true (by omega), if_pos ⟨hl, (full_alk (by omega)).2 ⟨n, ha⟩⟩, Option.bind_some]
    dsimp only
    rw [if_pos rfl, wkrR (by omega) (by omega), made_f (by omega) (by omega) (by omega) (by omega) (by omega) hn.1 hn.2 hd hdr, Option.bind_some]
  · refine ⟨[], 40, ?_, ?_, .inl rfl, fun x hx => by cases hx⟩
    · unfold codec_Encode.f
      rw [if_neg (by unfold codec_Row.bad; omega), if_pos (row_inv h1 h2 h4), there_f (by omega) (by omega)]
      by_cases hl : (data.length : Int) = (k : Int)
      · rw [if_pos hl, Option.bind_some]
        cases ht : (thv data 0).2 with
        | false => rw [if_pos rfl]
        | true =>
          rw [if_neg (by decide)]
          by_cases hcnt : (((thv data 0).1.length : Int)) < (k : Int)
          · rw [if_pos hcnt]
          · exact absurd ⟨hl, thv_full (by omega) ht (by omega)⟩ hc
      · rw [if_neg hl, Option.bind_some]
        rw [if_pos rfl]
    · unfold twoslotref04_Encode.f
      rw [may_f, Option.bind_some, decide_eq_true hok, if_pos rfl, ralike_f (by omega) true (by omega), if_neg (fun z => hc ⟨z.1, (full_alk (by omega)).1 z.2⟩), Option.bind_some]
      dsimp only
      rw [if_neg (by decide)]
end Go.Proofs.Ythhncoogmncdkaa.Pure
namespace Go.Proofs.Ythhncoogmncdkaa.Pure
open Go Go.RowKit Go.TwoGf Go.TwoLin Go.Proofs.Ythhncoogmncdkaa Go.Proofs.Ythhncoogmncdkaa.PC Go.Proofs.YthhncoogmncdkaaW.PrintWords Go.Proofs.YthhncoogmncdkaaW.PrintLast Go.Proofs.YthhncoogmncdkaaW.PrintMore
set_option linter.unusedVariables false
theorem posI_append : ∀ (a b : List (List Int)) (i : Nat), posI (a ++ b) i = posI a i ++ posI b (i + a.length)
  | [], b, i => rfl
  | x :: a, b, i => by
    rw [List.cons_append, posI, posI, posI_append a b (i + 1), show i + (x :: a).length = i + 1 + a.length by simp; omega]
    split <;> rfl
theorem posI_step {cells : List (List Int)} {i : Nat} (hi : i < cells.length) : posI (cells.take (i + 1)) 0 = posI (cells.take i) 0 ++ (if (rw_ cells i).length = 0 then [] else [(i : Int)]) := by
  rw [List.take_add_one, List.getElem?_eq_getElem hi, posI_append]
  congr 1
  simp only [Option.toList_some, posI, ← rw_lt hi, List.length_take, Nat.min_eq_left (Nat.le_of_lt hi), Nat.zero_add]
theorem took_snoc (M : List (List Int)) (T : List Int) (i : Nat) : took M (T ++ [(i : Int)]) = took M T ++ [rw_ M i] := by simp [took]
theorem took_len (M : List (List Int)) (T : List Int) : (took M T).length = T.length := by simp [took]
/-- the document's inverse of rows that were taken -/
theorem rtook_inv {K k r : Nat} (hK : 1600 ≤ K) (h1 : 1 ≤ k) (h2 : k ≤ 12) (h4 : r ≤ 4) {rows : List Int} (hl : rows.length = k) (hn : rows.Nodup) (hr : ∀ x ∈ rows, 0 ≤ x ∧ x < (k + r : Nat)) :
    ∃ V, twoslotref03_Inverse.f K (took (codec_Row.M k r) rows) = some (V, 0) ∧ rect k k V ∧ isM V ∧ (∀ i j, i < k → j < k → mm k (cell V) (cell (took (codec_Row.M k r) rows)) i j = dl i j) := by
  obtain ⟨W, _, _, _, w4, _⟩ := took_inv (K := K) (by omega) h1 h2 h4 hl hn hr
  obtain ⟨m, hm⟩ : ∃ m, m = took (codec_Row.M k r) rows := ⟨_, rfl⟩
  have rm : rect k k m := by rw [hm, ← hl]; have := took_rect (rows := rows) (allM_rect k r) hr; rw [hl] at this ⊢; exact this
  have bm : isM m := by rw [hm]; exact took_isM (allM_B h2 h4) rows
  rw [← hm] at w4 ⊢
  clear hm
  obtain ⟨gm, lm, wm⟩ := good_of rm h1 (by omega) h1 (by omega)
  rcases rinverse_f (k := K) (by omega) bm gm (by rw [lm, wm]) with ⟨r', q1, q2, q3⟩ | ⟨V, q1, q2, q3, q4, q5⟩
  · rw [lm] at q1 q2
    have := Rk_unique q2 (Rk_inv w4)
    omega
  · rw [lm] at q2 q5
    exact ⟨V, q1, q2, q3, q5⟩
section
variable {k r n : Nat} {cells : List (List Int)} (h : Dec k r n cells)
include h
theorem gather {res : List (List Int) × Int} (hfin : ∀ K i, 67800 ≤ K → twoslotref04_Decode.j1 K (k : Int) (r : Int) cells (took (codec_Row.M k r) (tk k cells)) (took cells (tk k cells)) i false = some res) :
    ∀ (d K i : Nat), i + d = k + r → 2 * d + 68000 ≤ K →
      twoslotref04_Decode.l0 K (k : Int) (r : Int) cells (took (codec_Row.M k r) ((posI (cells.take i) 0).take k)) (took cells ((posI (cells.take i) 0).take k)) (i : Int) = some res := by
  have k1 := h.k1
  have k2 := h.k2
  have r4 := h.r4
  have hlen := h.len
  intro d
  induction d with
  | zero =>
    intro K i hi hK
    obtain ⟨K, rfl⟩ : ∃ q, K = q + 1 := ⟨K - 1, by omega⟩
    rw [twoslotref04_Decode.l0, wkrR k2 r4, if_neg (by omega), List.take_of_length_le (show cells.length ≤ i by omega)]
    exact hfin K i (by omega)
  | succ d ih =>
    intro K i hi hK
    obtain ⟨K, rfl⟩ : ∃ q, K = q + 1 := ⟨K - 1, by omega⟩
    have hil : i < cells.length := by omega
    rw [twoslotref04_Decode.l0, wkrR k2 r4, if_pos (by omega), took_len]
    have hstep := posI_step hil
    have hall : posI cells 0 = posI (cells.take i) 0 ++ posI (cells.drop i) i := by
      conv => lhs; rw [← List.take_append_drop i cells]
      rw [posI_append, List.length_take, Nat.min_eq_left (by omega), Nat.zero_add]
    generalize hT : posI (cells.take i) 0 = T at hstep hall
    by_cases hlt : T.length < k
    · have e0 : T.take k = T := List.take_of_length_le (by omega)
      rw [e0, decide_eq_true (by omega)]
      obtain ⟨K, rfl⟩ : ∃ q, K = q + 1 := ⟨K - 1, by omega⟩
      rw [twoslotref04_Decode.j1, if_pos rfl, if_pos (by omega), if_pos (by omega), rdL]
      have hi' := ih K (i + 1) (by omega) (by omega)
      rw [hstep] at hi'
      by_cases h0 : (rw_ cells i).length = 0
      · rw [if_pos h0, List.append_nil, e0] at hi'
        rw [if_neg (by omega), w64 (i := i) (by omega)]
        exact hi'
      · rw [if_neg h0, List.take_of_length_le (by rw [List.length_append]; simp; omega), took_snoc, took_snoc] at hi'
        rw [if_pos (by omega), rrow_ok k1 k2 r4 (by omega) (by omega), Option.bind_some]
        dsimp only
        rw [took_len, took_len, if_pos (by omega), if_pos (by omega), w64 (i := i) (by omega)]
        exact hi'
    · have e0 : T.take k = tk k cells := by
        unfold tk
        rw [hall, List.take_append_of_le_length (by omega)]
      rw [e0, h.tk_len, decide_eq_false (by omega)]
      exact hfin K i (by omega)
theorem rdec_l1 {V FF data : List (List Int)} (hV : rect k k V) (bV : isM V) (hF : rect k n FF) (bF : isM FF) (hD : coded n V FF = data) : ∀ (d K i : Nat) (acc : List (List Int)), i + d = k → d + 67400 ≤ K → acc.length = i → acc ++ coded n (V.drop i) FF = data →
    twoslotref04_Decode.l1 K (k : Int) (r : Int) FF V acc (i : Int) = some (coded n (codec_Row.M k r) data, 0) := by
  have k1 := h.k1
  have k2 := h.k2
  have r4 := h.r4
  have n1 := h.n1
  have n2 := h.n2
  have hVl := hV.1
  have hFl := hF.1
  have hFa := rect_alk n1 n2 hF
  have bD : isM data := by rw [← hD]; exact coded_isM _ _ _
  have rD : rect k n data := by rw [← hD]; have := coded_rect (rs := V) hF; rwa [hV.1] at this
  intro d
  induction d with
  | zero =>
    intro K i acc hi hK ha hacc
    obtain ⟨K, rfl⟩ : ∃ q, K = q + 1 := ⟨K - 1, by omega⟩
    rw [List.drop_of_length_le (by omega)] at hacc
    have e : acc = data := by simpa [coded] using hacc
    have hm := made_f (K := K) (i := 0) (by omega) k1 k2 r4 (by omega) n1 n2 bD rD
    rw [List.drop_zero] at hm
    rw [twoslotref04_Decode.l1, if_neg (by omega), e, wkrR k2 r4]
    rw [show ((0 : Nat) : Int) = 0 from rfl] at hm
    rw [hm, Option.bind_some]
  | succ d ih =>
    intro K i acc hi hK ha hacc
    obtain ⟨K, rfl⟩ : ∃ q, K = q + 1 := ⟨K - 1, by omega⟩
    have hik : i < k := by omega
    have hdot : twoslotref02_Dot.f K (rw_ V i) FF = some (dacc (List.replicate n 0) (rw_ V i) FF, 0) := rdot_v (by omega) (rw_B bV i) bF hFa (by omega) (by omega) (by rw [rect_row hV hik]; omega)
    rw [twoslotref04_Decode.l1, if_pos (by omega), if_pos (by omega), if_pos (by omega), rdL, hdot, Option.bind_some]
    dsimp only
    rw [if_pos (by omega), w64 (i := i) (by omega)]
    refine ih K (i + 1) _ (by omega) (by omega) (by rw [List.length_append]; simp; omega) ?_
    rw [List.drop_eq_getElem_cons (show i < V.length by omega)] at hacc
    rw [List.append_assoc, ← hacc, rw_lt (by omega)]
    rfl
/-- the document's Decode tells the same -/
theorem rdec_ok {K : Nat} (hK : 70000 ≤ K) {data : List (List Int)} (bd : isM data) (rdd : rect k n data) (hx : ∀ x : Nat, (x : Int) ∈ tk k cells → rw_ (coded n (codec_Row.M k r) data) x = rw_ cells x) :
    twoslotref04_Decode.f K (k : Int) (r : Int) cells = some (coded n (codec_Row.M k r) data, 0) := by
  have k1 := h.k1
  have k2 := h.k2
  have r4 := h.r4
  have hlen := h.len
  have hcnt := h.cnt
  obtain ⟨f1, f2⟩ := h.ff
  have hfin : ∀ K i, 67800 ≤ K → twoslotref04_Decode.j1 K (k : Int) (r : Int) cells (took (codec_Row.M k r) (tk k cells)) (took cells (tk k cells)) i false = some (coded n (codec_Row.M k r) data, 0) := fun K i hK => by
    obtain ⟨K, rfl⟩ : ∃ q, K = q + 1 := ⟨K - 1, by omega⟩
    obtain ⟨V, q1, q2, q3, q4⟩ := rtook_inv (K := K) (by omega) k1 k2 r4 h.tk_len h.tk_nd h.tk_rg
    have hD : coded n V (took cells (tk k cells)) = data := by
      refine undone k1 k2 r4 h.tk_len h.tk_rg q2 q3 f1 f2 bd rdd q4 fun i hi => ?_
      have hi' : i < (tk k cells).length := by rw [h.tk_len]; exact hi
      rw [took_rows hi']
      have hm : rd (tk k cells) (i : Int) ∈ tk k cells := by rw [rd_lt hi']; exact List.getElem_mem _
      obtain ⟨j, _, _, hj⟩ := h.tk_mem hm
      rw [hj, Int.toNat_natCast]
      rw [hj] at hm
      exact (hx j hm).symm
    rw [twoslotref04_Decode.j1, if_neg (by decide), q1, Option.bind_some]
    exact rdec_l1 h q2 q3 f1 f2 hD k K 0 [] (by omega) (by omega) rfl (by rw [List.drop_zero, List.nil_append]; exact hD)
  have hg := gather h hfin (k + r) K 0 (by omega) (by omega)
  unfold twoslotref04_Decode.f
  rw [may_f, Option.bind_some, decide_eq_true (show okK (k : Int) (r : Int) from ⟨by omega, by omega, by omega, by omega⟩), if_pos rfl, wkrR k2 r4, ralike_f (by omega) false (by omega), if_pos ⟨by rw [hlen], fun z => (by cases z), by rw [thv_like h.n2 cells 0 h.like]⟩, Option.bind_some]
  dsimp only
  rw [if_pos rfl, if_neg (by omega)]
  rw [List.take_zero, show (posI ([] : List (List Int)) 0).take k = [] from by simp [posI]] at hg
  exact hg
end
/-- all cells, or the error -/
theorem dec_both {K : Nat} (hK : 70000 ≤ K) {a b : Int} {cells : List (List Int)} (hB : isM cells) : ∃ d e, codec_Decode.f K a b cells = some (d, e) ∧ twoslotref04_Decode.f K a b cells = some (d, e) ∧ (d = [] ∨ ∃ n, Alk n d ∧ d.length ≤ 16) ∧ isM d := by
  rcases dec_any (K := K) (by omega) (a := a) (b := b) hB with ⟨h1, h⟩ | ⟨h1, h2, h⟩ | ⟨h1, h2, h3, h4, h⟩ | ⟨k, r, n, rfl, rfl, h⟩
  · refine ⟨[], 2, h, ?_, .inl rfl, fun x hx => by cases hx⟩
    unfold twoslotref04_Decode.f
    rw [may_f, Option.bind_some, decide_eq_false h1, if_neg (by decide)]
  · refine ⟨[], 40, h, ?_, .inl rfl, fun x hx => by cases hx⟩
    have hw : wrap64 (a + b) = a + b := by obtain ⟨q1, q2, q3, q4⟩ := h1; unfold wrap64; omega
    unfold twoslotref04_Decode.f
    rw [may_f, Option.bind_some, decide_eq_true h1, if_pos rfl, hw, ralike_f (by omega) false (by obtain ⟨q1, q2, q3, q4⟩ := h1; omega), if_neg (fun z => h2 ⟨z.1, z.2.2⟩), Option.bind_some]
    dsimp only
    rw [if_neg (by decide)]
  · refine ⟨[], 5, h, ?_, .inl rfl, fun x hx => by cases hx⟩
    have hw : wrap64 (a + b) = a + b := by obtain ⟨q1, q2, q3, q4⟩ := h1; unfold wrap64; omega
    unfold twoslotref04_Decode.f
    rw [may_f, Option.bind_some, decide_eq_true h1, if_pos rfl, hw, ralike_f (by omega) false (by obtain ⟨q1, q2, q3, q4⟩ := h1; omega), if_pos ⟨h2, fun z => (by cases z), h3⟩, Option.bind_some]
    dsimp only
    rw [if_pos rfl, if_pos h4]
  · obtain ⟨data, d1, d2, d3, d4, _⟩ := dec_ok (K := K) (by omega) h
    have hr : rect (k + r) n (coded n (codec_Row.M k r) data) := by have := coded_rect (rs := codec_Row.M k r) d2; rwa [(allM_rect k r).1] at this
    have k2 := h.k2
    have r4 := h.r4
    exact ⟨_, 0, d3, rdec_ok h hK d1 d2 d4, .inr ⟨n, rect_alk h.n1 h.n2 hr, by rw [hr.1]; omega⟩, coded_isM _ _ _⟩
/-! Verify -/
theorem sameAll_v0 {p q : List (List Int)} (bp : isM p) (bq : isM q) (hl : p.length = q.length) (hs : p.length ≤ 1000) : ∀ (d K i : Nat), i + d = p.length → d < K → twoslotref02_SameAll.l0 K p q (i : Int) = some (decide (p.drop i = q.drop i)) := by
  intro d
  induction d with
  | zero =>
    intro K i hi hK
    obtain ⟨K, rfl⟩ : ∃ m, K = m + 1 := ⟨K - 1, by omega⟩
    rw [twoslotref02_SameAll.l0, if_neg (by omega), List.drop_of_length_le (by omega), List.drop_of_length_le (by omega), decide_eq_true rfl]
  | succ d ih =>
    intro K i hi hK
    obtain ⟨K, rfl⟩ : ∃ m, K = m + 1 := ⟨K - 1, by omega⟩
    have hip : i < p.length := by omega
    have hiq : i < q.length := by omega
    rw [twoslotref02_SameAll.l0, if_pos (by omega), if_pos (by omega), if_pos (by omega), rdL, rdL, List.drop_eq_getElem_cons hip, List.drop_eq_getElem_cons hiq, ← rw_lt hip, ← rw_lt hiq, w64 (i := i) (by omega)]
    by_cases e : rw_ p i = rw_ q i
    · rw [if_pos (by rw [e]), ih K (i + 1) (by omega) (by omega), e]
      by_cases e2 : p.drop (i + 1) = q.drop (i + 1)
      · rw [decide_eq_true e2, decide_eq_true (by rw [e2])]
      · rw [decide_eq_false e2, decide_eq_false (fun z => e2 (List.cons.inj z).2)]
    · rw [if_neg (fun z => e (strOfNums_inj (rw_B bp i) (rw_B bq i) z)), decide_eq_false (fun z => e (List.cons.inj z).1)]
theorem sameAll_v {K : Nat} {p q : List (List Int)} (bp : isM p) (bq : isM q) (hs : p.length ≤ 1000) (hK : p.length < K) : twoslotref02_SameAll.f K p q = some (decide (p = q)) := by
  unfold twoslotref02_SameAll.f
  by_cases h : p.length = q.length
  · have := sameAll_v0 bp bq h hs p.length K 0 (by omega) hK
    rw [List.drop_zero, List.drop_zero, show ((0 : Nat) : Int) = 0 from rfl] at this
    rw [if_pos (by omega)]
    exact this
  · rw [if_neg (by omega), decide_eq_false (fun z => h (by rw [z]))]
theorem ver_both {K : Nat} (hK : 70000 ≤ K) {a b : Int} {cells : List (List Int)} (hB : isM cells) : ∃ v e, codec_Verify.f K a b cells = some (v, e) ∧ twoslotref04_Verify.f K a b cells = some (v, e) := by
  by_cases h : okK a b
  case neg =>
    refine ⟨false, 2, by unfold codec_Verify.f; rw [if_pos (by unfold codec_Row.bad; unfold okK at h; omega)], ?_⟩
    unfold twoslotref04_Verify.f
    rw [may_f, Option.bind_some, decide_eq_false h, if_neg (by decide)]
  have hok := h
  obtain ⟨h1, h2, h3, h4⟩ := h
  obtain ⟨k, rfl⟩ := Int.eq_ofNat_of_zero_le (show 0 ≤ a by omega)
  obtain ⟨r, rfl⟩ := Int.eq_ofNat_of_zero_le (show 0 ≤ b by omega)
  have hw := wkrR (k := k) (r := r) (by omega) (by omega)
  by_cases hc : ((cells.length : Int) = ((k + r : Nat) : Int) ∧ ∃ n, Alk n cells)
  · obtain ⟨hl, n, ha⟩ := hc
    have hr : rect (k + r) n cells := ⟨by omega, fun z hz => (ha z hz).2.2⟩
    have hn : 1 ≤ n ∧ n ≤ 65536 := by
      have := ha _ (rw_mem (M := cells) (i := 0) (by omega))
      omega
    have hB2 : isM (cells.take k) := fun x hx => hB x (List.mem_of_mem_take hx)
    have hr2 : rect k n (cells.take k) := ⟨by rw [List.length_take]; omega, fun x hx => hr.2 x (List.mem_of_mem_take hx)⟩
    have hp : (coded n ((codec_Row.M k r).drop k) (cells.take k)).length = r := by rw [(coded_rect hr2).1, List.length_drop, (allM_rect k r).1, Nat.add_sub_cancel_left]
    refine ⟨_, 0, ver_ok (by omega) (by omega) (by omega) (by omega) hn.1 hn.2 hr hB, ?_⟩
    unfold twoslotref04_Verify.f
    rw [may_f, Option.bind_some, decide_eq_true hok, if_pos rfl, hw, ralike_f (by omega) true (by omega), if_pos ⟨hl, (full_alk (by omega)).2 ⟨n, ha⟩⟩, Option.bind_some]
    dsimp only
    rw [if_pos rfl, if_pos (by omega), if_pos (by omega), Int.toNat_natCast, made_f (by omega) (by omega) (by omega) (by omega) (by omega) hn.1 hn.2 hB2 hr2, Option.bind_some, sameAll_v (coded_isM _ _ _) (fun x hx => hB x (List.mem_of_mem_drop hx)) (by rw [hp]; omega) (by rw [hp]; omega), Option.bind_some]
  · refine ⟨false, 40, ?_, ?_⟩
    · unfold codec_Verify.f
      rw [if_neg (by unfold codec_Row.bad; omega), if_pos (row_inv h1 h2 h4), there_f (by omega) (by omega)]
      by_cases hl : (cells.length : Int) = (k : Int) + (r : Int)
      · rw [if_pos hl, Option.bind_some]
        cases ht : (thv cells 0).2 with
        | false => rw [if_pos rfl]
        | true =>
          rw [if_neg (by decide)]
          by_cases hcnt : (((thv cells 0).1.length : Int)) < (k : Int) + (r : Int)
          · rw [if_pos hcnt]
          · exact absurd ⟨by omega, thv_full (by omega) ht (by omega)⟩ hc
      · rw [if_neg hl, Option.bind_some]
        rw [if_pos rfl]
    · unfold twoslotref04_Verify.f
      rw [may_f, Option.bind_some, decide_eq_true hok, if_pos rfl, hw, ralike_f (by omega) true (by omega), if_neg (fun z => hc ⟨z.1, (full_alk (show 1 ≤ cells.length by have := z.1; omega)).1 z.2⟩), Option.bind_some]
      dsimp only
      rw [if_neg (by decide)]
end Go.Proofs.Ythhncoogmncdkaa.Pure
