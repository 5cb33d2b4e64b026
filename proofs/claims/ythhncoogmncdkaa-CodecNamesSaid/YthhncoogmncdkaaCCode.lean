/- Codes as matrices over the field: the cells of rows, any k rows undone, what is decoded. No condition. -/
import Derived.Test.YthhncoogmncdkaaPAx0
import Derived.Test.YthhncoogmncdkaaPAx5
import Derived.Test.YthhncoogmncdkaaPAx20
import Derived.Test.YthhncoogmncdkaaCSol
import Derived.Test.YthhncoogmncdkaaDEnc
-- written by the session's own program (wip/prt.py) over the kit's print: not print.sh's own text
namespace Go.Proofs.Ythhncoogmncdkaa.PA
open Go.RowKit Go.Proofs.YthhncoogmncdkaaW.PrintWords Go.Proofs.YthhncoogmncdkaaW.PrintLast Go.Proofs.YthhncoogmncdkaaW.PrintMore
attribute [local go_sem] max2_int min2_int max_two min_two max_three min_three max_four min_four   -- for this text's walks alone
set_option linter.unusedVariables false
set_option linter.unusedSimpArgs false

/-! ### matrix_twin: function 42 -/
theorem matrix_twin.info : (Try.prog.info? 23).map (fun i => (i.zero, i.size, i.bytes)) = some (some (.slice none 0 0), 1, 24) := by kernel_rfl
theorem matrix_twin.eql_nil (a : Option Addr) (n c n' c' : Nat) (w : World) : (binOp .eql 24 (.slice a n c) (.slice none n' c')).run Try.prog w = .ok (.bool a.isNone) w := by
  simp only [binOp]
  simp [Op.equal, Op.maxDepth, Lib.run_equalIn_slice_nil w 9999 24 23 a n c n' c' Try.underlying24]
set_option maxHeartbeats 400000 in
theorem matrix_twin.clone (A0 : Option Addr) (c0 : Nat) (l0 : List (List Int)) (w : World) (hr0 : Kd.C (Kd.slice 5 (Kd.int .u8)) w A0 l0.length l0) (hlim : l0.length ≤ 100) :
    Calls Try.prog 58 #[.slice A0 l0.length c0] w fun e w' => ∃ (v0_ : Value) (rows : List (List Value)), e = .returned (v0_) ∧ Kd.R (Kd.raw 1) 23 w' w.heap.size (fun _ => True) v0_ rows ∧ rows.length = l0.length ∧ Below w.heap.size w w' := by
  cases A0 with
  | none =>
    have hl : l0.length = 0 := by
      rcases Nat.eq_zero_or_pos l0.length with h | h
      · exact h
      · obtain ⟨ad, h1, _⟩ := hr0.2.2 h; cases h1
    obtain rfl := List.length_eq_zero_iff.1 hl
    have he := matrix_twin.eql_nil none 0 c0 0 0 w
    clear hr0
    go_enter Try.func58, Try.ntmps58
    go_wp2_with fail
    go_ret
    exact ⟨_, [], rfl, Kd.R_nil _ _ _ _ _, rfl, Below.refl _ _⟩
  | some ad =>
    obtain ⟨news, hnl, hnr, hnx⟩ := Kd.reads_raw hr0 (fun x c h => ⟨(Kd.slice 5 (Kd.int .u8)).K_len h, (Kd.slice 5 (Kd.int .u8)).K_one h⟩)
    have HR := Lib.hid hnr
    have HL := Lib.hid hlim
    have HNL := Lib.hid hnl
    have he := matrix_twin.eql_nil (some ad) l0.length c0 0 0 w
    have HO : (Kd.raw 1).R 23 (w.alloc (.cells #[] 23)) w.heap.size (fun _ => True) (.slice (some ⟨w.heap.size, 0, none⟩) 0 0) ([] : List (List Value)) := ⟨fun _ _ => trivial, ⟨[], own_lit w w.heap.size 23 .u8 [] (Nat.le_refl _) (by simp), Reps.none _ _⟩⟩
    have HN := Lib.hid HO
    clear hr0 hlim HO hnr hnl hnx
    go_enter Try.func58, Try.ntmps58
    go_wp2_with ((with_reducible refine gate_builtin (b := .append) (xs := #[.tmp 5, .tmp 6]) rfl ?_); at_builtin; refine Kd.R_append_rows (Kd.raw 1) (w0 := w) w.heap.size rfl (.tmp 5) (.tmp 6) 24 23 (.slice none 0 0) 24 rfl Try.underlying24 matrix_twin.info rfl (by decide) (by omega) (.slice (some ⟨w.heap.size, 0, none⟩) 0 0) ([] : List (List Value)) news _ _ _ (fun _ => True) (fun _ => False) rfl rfl HN.out ?aR (fun _ _ h => h) (fun _ h => h.elim) (fun _ _ => trivial) ?aB ?aS ?aL ?_; (case aR => exact Kd.C_alloc (d := Kd.raw 1) HR.out _); (case aB => exact below_alloc (Below.refl _ _) _); (case aS => exact (below_alloc (Below.refl _ _) _).size); (case aL => have := HL.out; simp; omega); intro v1 w1 ho hb hg hat; have HO2 := Lib.hid ho; have HB2 := Lib.hid hb; clear ho hb hg hat)
    go_ret
    exact ⟨_, _, rfl, HO2.out, by simpa using HNL.out, HB2.out⟩
def matrix_twin.ok (M : List (List Int)) : Prop := 0 < M.length ∧ M.length ≤ 100 ∧ 0 < (rw_ M 0).length ∧ (rw_ M 0).length ≤ 100 ∧ ∀ r ∈ M, r.length = (rw_ M 0).length
instance matrix_twin.dec1 (M : List (List Int)) : Decidable (matrix_twin.ok M) := by unfold matrix_twin.ok; infer_instance
def matrix_twin.f (M : List (List Int)) : Option (List (List Int)) := if matrix_twin.ok M then some M else none
def matrix_twin.St (wx : World) (g cap n m i : Nat) (vs : List Value) (b c : Nat → Nat) (M : List (List Int)) : Prop :=
  RowV wx g 23 cap vs ∧ vs.length = n ∧ (∀ k, k < i → vs[k]? = some (.slice (some ⟨b k, 0, none⟩) m (c k)) ∧ g < b k ∧ (rw_ M k).length = m ∧ RowV wx (b k) 5 (c k) (encs (Value.int .u8) (rw_ M k))) ∧ ∀ k l, k < i → l < i → b k = b l → k = l
theorem matrix_twin.snoc {wx w' : World} {g cap n m i nb nc : Nat} {vs : List Value} {b c : Nat → Nat} {M : List (List Int)} (h : matrix_twin.St wx g cap n m i vs b c M) (hi : i < n) (hb : Below wx.heap.size wx w') (hnb : wx.heap.size ≤ nb) (hl : (rw_ M i).length = m) (hr : RowV w' nb 5 nc (encs (Value.int .u8) (rw_ M i))) :
    matrix_twin.St (w'.setCell ⟨g, i, none⟩ (.slice (some ⟨nb, 0, none⟩) m nc)) g cap n m (i + 1) (vs.set i (.slice (some ⟨nb, 0, none⟩) m nc)) (fun k => if k = i then nb else b k) (fun k => if k = i then nc else c k) M := by
  obtain ⟨h1, h2, h3, h4⟩ := h
  have hg := h1.lt
  refine ⟨(h1.keep (hb.block g hg)).set (by omega) _, by simpa using h2, fun k hk => ?_, fun k l hk hl' e => ?_⟩
  · by_cases e : k = i
    · subst e
      simp only [if_pos]
      exact ⟨by simp [h2, hi], by omega, hl, hr.far (p := ⟨g, k, none⟩) (by show nb ≠ g; omega) _⟩
    · simp only [if_neg e]
      obtain ⟨q1, q2, q3, q4⟩ := h3 k (by omega)
      exact ⟨by rw [List.getElem?_set_ne (fun z => e z.symm)]; exact q1, q2, q3, (q4.keep (hb.block _ q4.lt)).far (p := ⟨g, i, none⟩) (by show b k ≠ g; omega) _⟩
  · by_cases e1 : k = i
    · by_cases e2 : l = i
      · omega
      · simp only [if_pos e1, if_neg e2] at e
        have := (h3 l (by omega)).2.2.2.lt; omega
    · by_cases e2 : l = i
      · simp only [if_neg e1, if_pos e2] at e
        have := (h3 k (by omega)).2.2.2.lt; omega
      · simp only [if_neg e1, if_neg e2] at e
        exact h4 k l (by omega) (by omega) e
theorem matrix_twin.fin {wx : World} {g cap m base : Nat} {vs : List Value} {b c : Nat → Nat} {M : List (List Int)} (h : matrix_twin.St wx g cap M.length m M.length vs b c M) (hg : base ≤ g) : Mat wx (fun k => base ≤ k) g cap b c M m := by
  obtain ⟨h1, h2, h3, h4⟩ := h
  have e : vs = outC M.length b c m := by
    apply List.ext_getElem?
    intro k
    by_cases hk : k < M.length
    · rw [(h3 k hk).1]; simp [outC, hk]
    · rw [List.getElem?_eq_none (by omega), List.getElem?_eq_none (by simp [outC]; omega)]
  subst e
  exact ⟨h1, hg, fun i hi => ⟨by have := (h3 i hi).2.1; omega, by have := (h3 i hi).2.1; show base ≤ b i; omega, (h3 i hi).2.2.1, (h3 i hi).2.2.2⟩, h4⟩
set_option maxHeartbeats 4000000 in
theorem matrix_twin.calls (A0 : Option Addr) (c0 : Nat) (l0 : List (List Int)) (r : List (List Int)) (w : World) (hr0 : Kd.C (Kd.slice 5 (Kd.int .u8)) w A0 l0.length l0) (hc0 : l0.length ≤ c0) (h : matrix_twin.f l0 = some r) :
    Calls Try.prog 42 #[.slice A0 l0.length c0] w fun e w' => ∃ v0_ : Value, e = .returned (v0_) ∧ Kd.S (Kd.slice 5 (Kd.int .u8)) 23 w' w.heap.size (fun _ => True) v0_ r ∧ Below w.heap.size w w' := by
  unfold matrix_twin.f at h
  by_cases hok : matrix_twin.ok l0
  case neg => rw [if_neg hok] at h; cases h
  rw [if_pos hok] at h
  injection h with h
  subst h
  obtain ⟨o1, o2, o3, o4, o5⟩ := hok
  have HR := Lib.hid hr0
  have O5 := Lib.hid (fun i (hi : i < l0.length) => o5 (rw_ l0 i) (by simp [rw_, hi]))
  generalize (rw_ l0 0).length = m at o3 o4 O5
  have O2 := Lib.hid o2
  have O3 := Lib.hid o3
  have O4 := Lib.hid o4
  clear hr0 hc0 o2 o3 o4 o5
  go_enter Try.func42, Try.ntmps42
  go_wp2_with fail
  refine (matrix_twin.clone A0 c0 l0 w HR.out O2.out).mono ?_
  rintro e w1 ⟨v0, rows, rfl, ho, hlen, hb⟩
  obtain ⟨g, cap, hv, -, -, -⟩ := Kd.R_form ho (by omega)
  rw [hlen] at hv
  subst hv
  obtain ⟨vs, hvs, hvl, -, hg⟩ := RowV.of_raw ho
  have HV := Lib.hid hvs
  have HVL := Lib.hid hvl
  have HG := Lib.hid hg
  have HB := Lib.hid hb
  clear ho hlen hb hvs hvl hg
  go_wp2_with fail
  go_loopg [9] l0.length (fun gk s9 wx => ∃ (i : Nat) (b c : Nat → Nat) (vs : List Value), i + gk = l0.length ∧ s9 = .int .i64 i ∧ Aside0 (matrix_twin.St wx g cap l0.length m i vs b c l0) ∧ Aside0 (Below w.heap.size w wx))
  case atStart => exact ⟨0, fun _ => 0, fun _ => 0, vs, by omega, rfl, ⟨⟨HV.out, HVL.out, fun k hk => absurd hk (by omega), fun k l hk => absurd hk (by omega)⟩⟩, ⟨HB.out⟩⟩
  case round =>
    clear HV HVL HB
    obtain ⟨i, b, c, vs, hig, rfl, HS, HB⟩ := hrel
    have hl : (i : Int) ≤ (l0.length : Int) := by omega
    cases gk with
    | zero =>
      obtain rfl : i = l0.length := by omega
      go_wp2_with fail
      go_ret
      exact ⟨_, rfl, (matrix_twin.fin HS.out HG.out).toS (fun _ hk => hk), HB.out⟩
    | succ d =>
      have hi1 : (i : Int) < (l0.length : Int) := by omega
      obtain ⟨ad, B0, d0, rfl, hx, hd0, hr1⟩ : ∃ ad A1 c1, A0 = some ad ∧ wr.cell? (ad.add i) = some (.slice A1 (rw_ l0 i).length c1) ∧ (rw_ l0 i).length ≤ c1 ∧ Kd.C (Kd.int .u8) wr A1 (rw_ l0 i).length (rw_ l0 i) := at_L1 (Kd.C_below HR.out HB.out) (i : Int) (by omega) (by omega)
      have HR1 := Lib.hid hr1
      have HD := Lib.hid hd0
      clear hr1 hd0
      go_wp2_with fail
      refine (slices_Clone_byte_byte.calls B0 d0 (rw_ l0 i) (rw_ l0 i) _ HR1.out HD.out (by unfold slices_Clone_byte_byte.f; rw [if_pos (by rw [O5.out i (by omega)]; have := O4.out; omega)])).mono ?_
      rintro e w2 ⟨v1, rfl, ho, hb⟩
      obtain ⟨nb, nc, rfl, hnb, -, -⟩ := Kd.R_form ho (by rw [O5.out i (by omega)]; exact O3.out)
      rw [O5.out i (by omega)] at ho ⊢
      have hv := (RowV.of_R ho).1
      have HS2 := Lib.hid (matrix_twin.snoc HS.out (by omega) hb hnb (O5.out i (by omega)) hv)
      have HB2 := Lib.hid (below_set (g := g) (j := i) (v := .slice (some ⟨nb, 0, none⟩) m nc) (below_step HB.out hb) HG.out)
      have hgk := HS.out.1.keep (hb.block _ HS.out.1.lt)
      obtain ⟨X, hx1⟩ : ∃ X, w2.cell? ⟨g, i, none⟩ = some X := ⟨_, hgk.cell (by have := HS.out.2.1; omega)⟩
      have hx2 := hgk.frozen i
      clear hx hv hb hnb ho HS HB hgk HR1 HD
      go_wp2_with fail
      go_roundg d
      case measure => omega
      case rel => exact ⟨i + 1, _, _, _, by omega, by have := O2.out; rw [show wrap64 ((i : Int) + 1) = ((i + 1 : Nat) : Int) by unfold wrap64; omega], ⟨HS2.out⟩, ⟨HB2.out⟩⟩

/-! ### matrix_Inverse: function 26 -/
def matrix_Inverse.f (k : Nat) (l0 : List (List Int)) : Option (List (List Int) × Int) := (matrix_Check.f k l0).bind fun e => if e = 0 then (if matrix_twin.ok l0 then (if l0.length = (rw_ l0 0).length then (matrix_One.f (l0.length : Int)).bind fun o => if o.2 = 0 ∧ o.1.length = l0.length ∧ (∀ r ∈ o.1, r.length = l0.length) then (matrix_solve.f k l0 o.1).bind fun q => if q.2.2 < l0.length then some ([], 5) else some (q.2.1, 0) else none else some ([], 30)) else none) else some ([], 30)
theorem matrix_Inverse.mono : ∀ a0 k, LeO (matrix_Inverse.f k a0) (matrix_Inverse.f (k + 1) a0) := fun a0 k => LeO.bind (matrix_Check.mono _ _) (fun _ => LeO.ite (LeO.ite (LeO.ite (LeO.bind (LeO.refl _) (fun _ => LeO.ite (LeO.bind (matrix_solve.mono _ _ _) (fun _ => LeO.refl _)) (LeO.refl _))) (LeO.refl _)) (LeO.refl _)) (LeO.refl _))
set_option maxHeartbeats 4000000 in
theorem matrix_Inverse.calls (k : Nat) (A0 : Option Addr) (c0 : Nat) (l0 : List (List Int)) (r1 : List (List Int)) (r2 : Int) (w : World) (hr0 : Kd.C (Kd.slice 5 (Kd.int .u8)) w A0 l0.length l0) (hc0 : l0.length ≤ c0) (h : matrix_Inverse.f k l0 = some (r1, r2)) :
    Calls Try.prog 26 #[.slice A0 l0.length c0] w fun e w' => ∃ v0_ : Value, e = .returned (.tuple #[v0_, .int .i64 r2]) ∧ Kd.S (Kd.slice 5 (Kd.int .u8)) 23 w' w.heap.size (fun _ => True) v0_ r1 ∧ Below w.heap.size w w' := by
  obtain ⟨e, he, h⟩ := Option.bind_eq_some_iff.mp h
  have HE := Lib.hid he
  have HR := Lib.hid hr0
  have HC := Lib.hid hc0
  clear he hr0 hc0
  by_cases h0 : e = 0
  case neg =>
    rw [if_neg h0] at h
    injection h with h; injection h with ha hb; subst ha hb
    have he1 : (e != 0) = true := bne_iff_ne.mpr h0
    clear h0
    go_enter Try.func26, Try.ntmps26
    go_wp2_with fail
    refine (matrix_Check.calls k A0 c0 l0 e _ HR.out HC.out HE.out).mono ?_
    rintro e' w1 ⟨rfl, n, rfl⟩
    go_wp2_with fail
    go_ret2
    exact ⟨_, rfl, Kd.S_nil _ _ _ _ _, pw_below_drewN (Below.refl _ _) n⟩
  rw [if_pos h0] at h
  subst h0
  by_cases hok : matrix_twin.ok l0
  case neg => rw [if_neg hok] at h; cases h
  rw [if_pos hok] at h
  have HK := Lib.hid hok
  have hp : (0 : Int) < (l0.length : Int) := by have := hok.1; omega
  obtain ⟨ad, B0, d0, rfl, hx, -, -⟩ : ∃ ad A1 c1, A0 = some ad ∧ w.cell? (ad.add 0) = some (.slice A1 (rw_ l0 0).length c1) ∧ (rw_ l0 0).length ≤ c1 ∧ Kd.C (Kd.int .u8) w A1 (rw_ l0 0).length (rw_ l0 0) := at_L1 HR.out 0 (by omega) (by omega)
  have ea : ad.add 0 = ad := by cases ad; simp [Addr.add]
  rw [ea] at hx
  clear ea hok
  by_cases h1 : l0.length = (rw_ l0 0).length
  case neg =>
    rw [if_neg h1] at h
    injection h with h; injection h with ha hb; subst ha hb
    have he1 : ((l0.length : Int) != ((rw_ l0 0).length : Int)) = true := bne_iff_ne.mpr (by omega)
    clear h1
    go_enter Try.func26, Try.ntmps26
    go_wp2_with fail
    refine (matrix_Check.calls k (some ad) c0 l0 0 _ HR.out HC.out HE.out).mono ?_
    rintro e' w1 ⟨rfl, n, rfl⟩
    replace hx : (w.drewN n).cell? ad = some (.slice B0 (rw_ l0 0).length d0) := hx
    go_wp2_with fail
    go_ret2
    exact ⟨_, rfl, Kd.S_nil _ _ _ _ _, pw_below_drewN (Below.refl _ _) n⟩
  rw [if_pos h1] at h
  have he1 : ((l0.length : Int) != ((rw_ l0 0).length : Int)) = false := bne_eq_false_iff_eq.mpr (by omega)
  have H1 := Lib.hid h1
  clear h1
  obtain ⟨⟨O, oe⟩, hone, h⟩ := Option.bind_eq_some_iff.mp h
  by_cases ho : oe = 0 ∧ O.length = l0.length ∧ (∀ r ∈ O, r.length = l0.length)
  case neg => rw [if_neg ho] at h; cases h
  rw [if_pos ho] at h
  obtain ⟨rfl, hol, hor⟩ := ho
  obtain ⟨⟨M', B', r⟩, hs, h⟩ := Option.bind_eq_some_iff.mp h
  have HS := Lib.hid hs
  have HO := Lib.hid hone
  have HOL := Lib.hid hol
  have HOR := Lib.hid hor
  have H := Lib.hid h
  clear hs hone hol hor h
  go_enter Try.func26, Try.ntmps26
  go_wp2_with fail
  refine (matrix_Check.calls k (some ad) c0 l0 0 _ HR.out HC.out HE.out).mono ?_
  rintro e' w1 ⟨rfl, n, hw⟩
  replace hx : w1.cell? ad = some (.slice B0 (rw_ l0 0).length d0) := by rw [hw]; exact hx
  have HB := Lib.hid (show Below w.heap.size w w1 by rw [hw]; exact pw_below_drewN (Below.refl _ _) n)
  clear hw
  go_wp2_with fail
  refine (matrix_One.calls (l0.length : Int) O 0 _ HO.out).mono ?_
  rintro e' w2 ⟨v1, rfl, ho, hb⟩
  obtain ⟨g, cap, b, c, rfl, -, hM⟩ := Mat.of_S ho HOR.out (by rw [HOL.out]; exact HK.out.1) HK.out.1
  rw [HOL.out]
  have HM := Lib.hid ((Mat.size hM).mono (S' := fun k => w.heap.size ≤ k ∧ k < w2.heap.size) (fun k hk => ⟨Nat.le_trans HB.out.size hk.1, hk.2⟩))
  replace HB := Lib.hid (below_step HB.out hb)
  clear ho hb hM hx he1
  go_wp2_with fail
  refine (matrix_twin.calls (some ad) c0 l0 l0 _ (Kd.C_below HR.out HB.out) HC.out (by unfold matrix_twin.f; rw [if_pos HK.out])).mono ?_
  rintro e' w3 ⟨v2, rfl, ho, hb⟩
  obtain ⟨g2, cap2, b2, c2, rfl, -, hM2⟩ := Mat.of_S ho HK.out.2.2.2.2 HK.out.1 HK.out.2.2.1
  have HM2 := Lib.hid hM2
  replace HM := Lib.hid (HM.out.below hb)
  have HZ := Lib.hid HB.out.size
  replace HB := Lib.hid (below_step HB.out hb)
  clear ho hb hM2
  go_wp2_with fail
  have hC := matrix_solve.calls k _ _ g2 g cap2 cap _ _ b2 c2 b c l0 O M' B' r w _ HB.out HM2.out HM.out (fun k hk => ⟨Nat.le_trans HZ.out hk, fun z => by have := z.2; omega⟩) (fun k hk => ⟨hk.1, fun z => by have := hk.2; omega⟩) ⟨HK.out.1, HK.out.2.1, HOL.out, HK.out.2.2.1, HK.out.2.2.2.1, HK.out.1, HK.out.2.1⟩ HS.out
  rw [HOL.out] at hC
  refine hC.mono ?_
  clear hC
  rintro e' w4 ⟨rfl, ⟨b3, c3, b4, c4, -, hM4⟩, -, hl4, hb⟩
  have HM4 := Lib.hid (hM4.toS (base := w.heap.size) (fun _ hk => hk.1))
  rw [hl4] at HM4
  have HB4 := Lib.hid hb
  clear hb hM4 HM HM2 HS
  by_cases hlt : r < l0.length
  case pos =>
    have h := H.out
    rw [if_pos hlt] at h
    injection h with h; injection h with ha hb; subst ha hb
    have hd : decide ((r : Int) < (l0.length : Int)) = true := decide_eq_true (by omega)
    have hd2 : (r : Int) < (l0.length : Int) := by omega
    clear hlt H
    go_wp2_with fail
    go_ret2
    exact ⟨_, rfl, Kd.S_nil _ _ _ _ _, HB4.out⟩
  case neg =>
    have h := H.out
    rw [if_neg hlt] at h
    injection h with h; injection h with ha hb; subst ha hb
    have hd2 : ¬ (r : Int) < (l0.length : Int) := by omega
    clear hlt H
    go_wp2_with fail
    go_ret2
    exact ⟨_, rfl, HM4.out, HB4.out⟩

end Go.Proofs.Ythhncoogmncdkaa.PA
namespace Go.Proofs.Ythhncoogmncdkaa.Pure
open Go Go.RowKit Go.TwoGf Go.TwoLin Go.Proofs.Ythhncoogmncdkaa Go.Proofs.Ythhncoogmncdkaa.PA Go.Proofs.YthhncoogmncdkaaW.PrintWords Go.Proofs.YthhncoogmncdkaaW.PrintLast
set_option linter.unusedVariables false
theorem oneM (n : Nat) : matrix_One.M n = mkF n n dl := by
  unfold matrix_One.M mkF
  refine List.map_congr_left fun i _ => List.map_congr_left fun j _ => ?_
  unfold dl
  by_cases h : i = j
  · rw [if_pos h, if_pos h]; rfl
  · rw [if_neg h, if_neg h]; rfl
theorem one_f {n : Nat} (h1 : 1 ≤ n) (h2 : n ≤ 32) : matrix_One.f (n : Int) = some (mkF n n dl, 0) := by
  unfold matrix_One.f
  rw [if_neg (by omega), if_neg (by omega), Int.toNat_natCast, oneM]
/-- the parity's numbers -/
def cau (k i j : Nat) : F := inv (toF ((k + i : Nat) : Int) + toF (j : Int))
theorem cauchy_G {k i j : Nat} (hk : k ≤ 12) (hi : i < 4) (hj : j < k) : gf_Inv.f (matrix_Cauchy.at_ (k : Int) i j) = some (ofF (cau k i j), if matrix_Cauchy.at_ (k : Int) i j = 0 then 10 else 0) := by
  have e : matrix_Cauchy.at_ (k : Int) i j = ofF (toF ((k + i : Nat) : Int) + toF (j : Int)) := by
    unfold matrix_Cauchy.at_
    rw [show (k : Int) + (i : Int) = ((k + i : Nat) : Int) by omega]
    exact xor_v (by omega) (by omega)
  rw [e, inv_v (ofF_rng _), toF_ofF]
  rfl
theorem twin_ok {a : List (List Int)} (ga : good a) : matrix_twin.ok a := ⟨by have := ga.1; omega, by have := ga.2.1; omega, by have := ga.2.2.1; omega, by have := ga.2.2.2.1; omega, ga.2.2.2.2⟩
theorem inverse_bad {k : Nat} (hk : 40 ≤ k) {a : List (List Int)} (ga : ¬ (good a ∧ a.length = (rw_ a 0).length)) : matrix_Inverse.f k a = some ([], 30) := by
  unfold matrix_Inverse.f
  rw [check_f hk]
  unfold ckv
  by_cases g : good a
  · rw [if_pos g]
    simp only [Option.bind_some, if_true]
    rw [if_pos (twin_ok g), if_neg (fun z => ga ⟨g, z⟩)]
  · rw [if_neg g]; rfl
theorem inverse_f {k : Nat} (hk : 200 ≤ k) {a : List (List Int)} (ha : isM a) (ga : good a) (hs : a.length = (rw_ a 0).length) :
    (∃ r : Nat, r < a.length ∧ Rk a.length a.length r (cell a) ∧ matrix_Inverse.f k a = some ([], 5)) ∨
    (∃ V, matrix_Inverse.f k a = some (V, 0) ∧ rect a.length a.length V ∧ isM V ∧ Rk a.length a.length a.length (cell a) ∧ (∀ i j, i < a.length → j < a.length → mm a.length (cell V) (cell a) i j = dl i j) ∧ (∀ i j, i < a.length → j < a.length → mm a.length (cell a) (cell V) i j = dl i j)) := by
  have hr := good_rect ga
  rw [← hs] at hr
  have h32 := ga.2.1
  generalize hn : a.length = n at hr h32
  obtain ⟨M', B', r, piv, h1, h2, h3, h4, h5, h6, h7, h8⟩ := solve_v (k := k) (M := a) (B := mkF n n dl) (by have := ga.1; omega) (by omega) (by omega) (by omega) hk hr (rect_mkF n n dl) ha (isM_mkF n n dl)
  have hf : matrix_Inverse.f k a = if r < n then some ([], 5) else some (B', 0) := by
    unfold matrix_Inverse.f
    rw [check_f (by omega)]
    unfold ckv
    rw [if_pos ga]
    simp only [Option.bind_some, if_true]
    rw [if_pos (twin_ok ga), if_pos hs, hn, one_f (by have := ga.1; omega) h32]
    simp only [Option.bind_some]
    rw [if_pos ⟨trivial, (rect_mkF n n dl).1, (rect_mkF n n dl).2⟩, h1]
    rfl
  have hk2 : Rk n n r (cell a) := Rk_congr (fun i j _ hj => J_left hj) (Inv_rank h6 h8)
  by_cases hlt : r < n
  · exact .inl ⟨r, hlt, hk2, by rw [hf, if_pos hlt]⟩
  · right
    obtain rfl : r = n := Nat.le_antisymm h6.le (by omega)
    have hinv := Inv_inverse h6 h8 (fun i j hi hj => by rw [J_right, cell_mkF hi hj])
    have hp := piv_id h6.lt h6.up
    have hd : ∀ i, i < r → inv (J r M' B' i i) = 1 := fun i hi => by
      have := h7 i hi
      rw [hp i hi] at this
      rw [this]
      have e := mul_inv one_ne
      rwa [one_mul] at e
    have e1 : ∀ i j, i < r → (fun i j => inv (J r M' B' i i) * J r M' B' i (r + j)) i j = cell B' i j := fun i j hi => by
      show inv (J r M' B' i i) * J r M' B' i (r + j) = cell B' i j
      rw [hd i hi, one_mul, J_right]
    refine ⟨B', by rw [hf, if_neg hlt], h3, h5, hk2, fun i j hi hj => ?_, fun i j hi hj => ?_⟩
    · rw [← hinv.1 i j hi hj]
      exact mm_congr (fun q _ => (e1 i q hi).symm) (fun q hq => (J_left hj).symm)
    · rw [← hinv.2 i j hi hj]
      exact mm_congr (fun q hq => (J_left hq).symm) (fun q hq => (e1 q j hq).symm)
theorem sm_filter (p : Nat → Bool) (f : Nat → F) : ∀ l : List Nat, sm l f = sm (l.filter p) f + sm (l.filter fun x => !p x) f
  | [] => (add_zero 0).symm
  | x :: l => by
    rw [sm_cons, sm_filter p f l, List.filter_cons, List.filter_cons]
    cases p x with
    | true => simp only [if_true, Bool.not_true, Bool.false_eq_true, if_false, sm_cons]; rw [add_assoc]
    | false => simp only [if_true, Bool.not_false, Bool.false_eq_true, if_false, sm_cons]; ac_rfl
theorem len_filter (p : Nat → Bool) : ∀ l : List Nat, (l.filter p).length + (l.filter fun x => !p x).length = l.length
  | [] => rfl
  | x :: l => by
    have := len_filter p l
    rw [List.filter_cons, List.filter_cons]
    cases p x with
    | true => simp; omega
    | false => simp; omega
theorem toF_nat_inj {a b : Nat} (ha : a < 256) (hb : b < 256) (h : toF (a : Int) = toF (b : Int)) : a = b := by
  have := congrArg F.v h
  rwa [v_nat ha, v_nat hb] at this
end Go.Proofs.Ythhncoogmncdkaa.Pure
namespace Go.Proofs.Ythhncoogmncdkaa.Pure
open Go Go.RowKit Go.TwoGf Go.TwoLin Go.Proofs.Ythhncoogmncdkaa Go.Proofs.Ythhncoogmncdkaa.PA Go.Proofs.YthhncoogmncdkaaW.PrintWords Go.Proofs.YthhncoogmncdkaaW.PrintLast Go.Proofs.YthhncoogmncdkaaW.PrintMore
set_option linter.unusedVariables false
/-! the rows of a code -/
theorem codeM {k r : Nat} (hk : k ≤ 12) (hr : r ≤ 4) : codec_Row.M k r = mkF k k dl ++ mkF r k (cau k) := by
  unfold codec_Row.M
  rw [oneM]
  congr 1
  by_cases e : r = 0
  · rw [if_pos e]; subst e; rfl
  · rw [if_neg e]
    unfold matrix_Cauchy.M mkF
    refine List.map_congr_left fun i hi => ?_
    refine List.map_congr_left fun j hj => ?_
    unfold matrix_Cauchy.G
    rw [cauchy_G hk (by have := List.mem_range.1 hi; omega) (List.mem_range.1 hj)]
    rfl
theorem cM_low {k r i j : Nat} (hk : k ≤ 12) (hr : r ≤ 4) (hi : i < k) (hj : j < k) : cell (codec_Row.M k r) i j = dl i j := by
  rw [codeM hk hr]
  have e : rw_ (mkF k k dl ++ mkF r k (cau k)) i = rw_ (mkF k k dl) i := by
    unfold rw_
    rw [List.getD_eq_getElem?_getD, List.getElem?_append_left (by rw [(rect_mkF _ _ _).1]; exact hi), ← List.getD_eq_getElem?_getD]
  have : cell (mkF k k dl ++ mkF r k (cau k)) i j = cell (mkF k k dl) i j := by unfold cell; rw [e]
  rw [this, cell_mkF hi hj]
theorem cM_high {k r p j : Nat} (hk : k ≤ 12) (hr : r ≤ 4) (hp : p < r) (hj : j < k) : cell (codec_Row.M k r) (k + p) j = cau k p j := by
  rw [codeM hk hr]
  have e : rw_ (mkF k k dl ++ mkF r k (cau k)) (k + p) = rw_ (mkF r k (cau k)) p := by
    unfold rw_
    rw [List.getD_eq_getElem?_getD, List.getElem?_append_right (by rw [(rect_mkF _ _ _).1]; omega), (rect_mkF _ _ _).1, Nat.add_sub_cancel_left, ← List.getD_eq_getElem?_getD]
  have : cell (mkF k k dl ++ mkF r k (cau k)) (k + p) j = cell (mkF r k (cau k)) p j := by unfold cell; rw [e]
  rw [this, cell_mkF hp hj]
/-- the rows that were taken -/
def took (M : List (List Int)) (rows : List Int) : List (List Int) := rows.map fun x => rw_ M x.toNat
theorem took_rect {n m : Nat} {M : List (List Int)} (h : rect n m M) {rows : List Int} (hr : ∀ x ∈ rows, 0 ≤ x ∧ x < (n : Int)) : rect rows.length m (took M rows) := ⟨by simp [took], fun y hy => by
  simp only [took, List.mem_map] at hy
  obtain ⟨x, hx, rfl⟩ := hy
  have := hr x hx
  exact rect_row h (by omega)⟩
theorem took_isM {M : List (List Int)} (h : isM M) (rows : List Int) : isM (took M rows) := fun y hy => by
  simp only [took, List.mem_map] at hy
  obtain ⟨x, hx, rfl⟩ := hy
  exact rw_B h _
theorem took_cell {M : List (List Int)} {rows : List Int} {i : Nat} (hi : i < rows.length) (j : Nat) : cell (took M rows) i j = cell M (rd rows (i : Int)).toNat j := by
  have : rw_ (took M rows) i = rw_ M (rd rows (i : Int)).toNat := by
    rw [rd_lt hi]
    unfold took
    rw [rw_lt (by simpa using hi)]
    simp
  unfold cell
  rw [this]
theorem took_inv {K k r : Nat} (hK : 200 ≤ K) (h1 : 1 ≤ k) (h2 : k ≤ 12) (h4 : r ≤ 4) {rows : List Int} (hl : rows.length = k) (hn : rows.Nodup) (hr : ∀ x ∈ rows, 0 ≤ x ∧ x < (k + r : Nat)) :
    ∃ V, matrix_Inverse.f K (took (codec_Row.M k r) rows) = some (V, 0) ∧ rect k k V ∧ isM V ∧ (∀ i j, i < k → j < k → mm k (cell V) (cell (took (codec_Row.M k r) rows)) i j = dl i j) ∧ (∀ i j, i < k → j < k → mm k (cell (took (codec_Row.M k r) rows)) (cell V) i j = dl i j) := by
  obtain ⟨m, hm⟩ : ∃ m, m = took (codec_Row.M k r) rows := ⟨_, rfl⟩
  have rm : rect k k m := by rw [hm, ← hl]; have := took_rect (rows := rows) (allM_rect k r) hr; rw [hl] at this ⊢; exact this
  have bm : isM m := by rw [hm]; exact took_isM (allM_B h2 h4) rows
  have cm : ∀ i j, i < k → j < k → cell m i j = cell (codec_Row.M k r) (rd rows (i : Int)).toNat j := fun i j hi hj => by rw [hm, took_cell (by omega)]
  rw [← hm]
  clear hm
  obtain ⟨gm, lm, wm⟩ := good_of rm h1 (by omega) h1 (by omega)
  rcases inverse_f (k := K) (by omega) bm gm (by rw [lm, wm]) with ⟨r', q1, q2, q3⟩ | ⟨V, q1, q2, q3, q4, q5, q6⟩
  case inr =>
    rw [lm] at q2 q5 q6
    exact ⟨V, q1, q2, q3, q5, q6⟩
  exfalso
  rw [lm] at q1 q2
  have hfull : r' = k := Rk_full q2 fun c hc => by
    have hrow : ∀ e : Nat, (e : Int) ∈ rows → sn k (fun j => cell (codec_Row.M k r) e j * c j) = 0 := fun e he => by
      obtain ⟨i, hi, hie⟩ := List.getElem_of_mem he
      rw [← hc i (by omega)]
      refine sn_congr fun j hj => ?_
      rw [cm i j (by omega) hj]
      have : (rd rows (i : Int)).toNat = e := by rw [rd_lt hi, hie, Int.toNat_natCast]
      rw [this]
    have hlow : ∀ e, e < k → (e : Int) ∈ rows → c e = 0 := fun e he hm => by
      have := hrow e hm
      rw [sn_one he (fun j hj hne => by rw [cM_low h2 h4 he hj, dl_ne (fun z => hne z.symm), zero_mul]), cM_low h2 h4 he he, dl_same, one_mul] at this
      exact this
    have hpar : ∀ p, p < r → ((k + p : Nat) : Int) ∈ rows → sn k (fun j => c j * inv (toF ((k + p : Nat) : Int) + toF (j : Int))) = 0 := fun p hp hm => by
      rw [← hrow (k + p) hm]
      exact sn_congr fun j hj => by rw [cM_high h2 h4 hp hj, mul_comm]; rfl
    let P : Nat → Bool := fun j => decide ((j : Int) ∈ rows)
    let L := (List.range k).filter fun j => !P j
    let R := (List.range r).filter fun p => decide (((k + p : Nat) : Int) ∈ rows)
    have hLm : ∀ j, j ∈ L ↔ j < k ∧ ¬ (j : Int) ∈ rows := fun j => by simp [L, P]
    have hRm : ∀ p, p ∈ R ↔ p < r ∧ ((k + p : Nat) : Int) ∈ rows := fun p => by simp [R]
    have hlen : L.length ≤ R.length := by
      have e1 := len_filter P (List.range k)
      rw [List.length_range] at e1
      have e2 : rows.length ≤ (((List.range k).filter P).map (fun j : Nat => (j : Int)) ++ R.map (fun p => ((k + p : Nat) : Int))).length := by
        refine List.Nodup.length_le_of_subset hn fun x hx => ?_
        obtain ⟨hx0, hx1⟩ := hr x hx
        obtain ⟨e, rfl⟩ := Int.eq_ofNat_of_zero_le hx0
        by_cases he : e < k
        · refine List.mem_append.2 (.inl (List.mem_map.2 ⟨e, ?_, rfl⟩))
          simp [P, he, hx]
        · refine List.mem_append.2 (.inr (List.mem_map.2 ⟨e - k, (hRm _).2 ⟨by omega, ?_⟩, ?_⟩))
          · rw [show k + (e - k) = e by omega]; exact hx
          · rw [show k + (e - k) = e by omega]
      rw [List.length_append, List.length_map, List.length_map, hl] at e2
      show ((List.range k).filter fun j => !P j).length ≤ R.length
      omega
    have hz := cauchy (fun p => toF ((k + p : Nat) : Int)) (fun j => toF (j : Int)) L R c ((nd_rg k).filter _) ((nd_rg r).filter _) hlen
      (fun i hi q hq hne z => hne (by have := toF_nat_inj (by have := ((hRm i).1 hi).1; omega) (by have := ((hRm q).1 hq).1; omega) z; omega))
      (fun i hi q hq hne z => hne (toF_nat_inj (by have := ((hLm i).1 hi).1; omega) (by have := ((hLm q).1 hq).1; omega) z))
      (fun p hp j hj z => by have := toF_nat_inj (by have := ((hRm p).1 hp).1; omega) (by have := ((hLm j).1 hj).1; omega) (add_eq_zero z); have := ((hLm j).1 hj).1; omega)
      (fun p hp => by
        obtain ⟨hp1, hp2⟩ := (hRm p).1 hp
        have := hpar p hp1 hp2
        unfold sn at this
        rw [sm_filter P, sm_zero (l := (List.range k).filter P), zero_add] at this
        · exact this
        · intro j hj
          have hj1 : j < k ∧ (j : Int) ∈ rows := by simpa [P] using hj
          rw [hlow j hj1.1 hj1.2, zero_mul])
    intro j hj
    by_cases hm : (j : Int) ∈ rows
    · exact hlow j hj hm
    · exact hz j ((hLm j).2 ⟨hj, hm⟩)
  omega
/-! cells of rows -/
theorem mI_F {c x : Int} (hc : 0 ≤ c ∧ c < 256) (hx : 0 ≤ x ∧ x < 256) : mI c x = ofF (toF c * toF x) := by
  unfold mI ofF
  rw [v_mul, v_toF hc, v_toF hx]
theorem aI_F {x y : Int} (hx : 0 ≤ x ∧ x < 256) (hy : 0 ≤ y ∧ y < 256) : aI x y = ofF (toF x + toF y) := xor_v hx hy
theorem rd_zip {f : Int → Int → Int} {a b : List Int} {j : Nat} (ha : j < a.length) (hb : j < b.length) : rd (List.zipWith f a b) (j : Int) = f (rd a (j : Int)) (rd b (j : Int)) := by
  rw [rd_lt (by simp; omega), rd_lt ha, rd_lt hb, List.getElem_zipWith]
theorem addv_F {a b : List Int} {c : Int} (ha : isB a) (hb : isB b) (hc : 0 ≤ c ∧ c < 256) {j : Nat} (h1 : j < a.length) (h2 : j < b.length) : toF (rd (addv a c b) (j : Int)) = toF (rd a (j : Int)) + toF c * toF (rd b (j : Int)) := by
  unfold addv
  rw [rd_zip h1 h2, mI_F hc (rd_B hb j), aI_F (rd_B ha j) (ofF_rng _), toF_ofF, toF_ofF]
theorem dacc_F {n k : Nat} {row : List Int} {data : List (List Int)} (hr : isB row) (hd : isM data) (hl : row.length = k) (hdr : rect k n data) {j : Nat} (hj : j < n) :
    ∀ (d i : Nat) (acc : List Int), i + d = k → acc.length = n → isB acc → toF (rd (dacc acc (row.drop i) (data.drop i)) (j : Int)) = toF (rd acc (j : Int)) + sm (List.range' i d) (fun q => toF (rd row (q : Int)) * cell data q j)
  | 0, i, acc, hi, ha, hb => by
    rw [List.drop_of_length_le (by omega : row.length ≤ i), List.range'_zero, sm_nil, add_zero]; rfl
  | d + 1, i, acc, hi, ha, hb => by
    have h1 : i < row.length := by omega
    have h2 : i < data.length := by rw [hdr.1]; omega
    rw [List.drop_eq_getElem_cons h1, List.drop_eq_getElem_cons h2, dacc, List.range'_succ, sm_cons, ← add_assoc]
    have hlen : data[i].length = n := hdr.2 _ (List.getElem_mem _)
    have hB : isB data[i] := hd _ (List.getElem_mem _)
    rw [dacc_F hr hd hl hdr hj d (i + 1) _ (by omega) (by rw [addv_len _ (by omega)]; exact ha) (addv_B _ hb)]
    rw [addv_F hb hB (hr _ (List.getElem_mem _)) (by omega) (by omega)]
    unfold cell
    rw [rw_lt h2, rd_lt h1]
theorem dot_F {n k : Nat} {row : List Int} {data : List (List Int)} (hr : isB row) (hd : isM data) (hl : row.length = k) (hdr : rect k n data) {j : Nat} (hj : j < n) :
    toF (rd (dacc (List.replicate n 0) row data) (j : Int)) = sn k (fun q => toF (rd row (q : Int)) * cell data q j) := by
  have := dacc_F hr hd hl hdr hj k 0 (List.replicate n 0) (by omega) (by simp) (isB_rep n)
  rw [List.drop_zero, List.drop_zero, ← List.range_eq_range'] at this
  rw [this]
  have e : rd (List.replicate n 0) (j : Int) = 0 := by rw [rd_lt (by simpa using hj)]; simp
  rw [e, toF_zero, zero_add]
theorem coded_rect {n k : Nat} {rs data : List (List Int)} (hdr : rect k n data) : rect rs.length n (coded n rs data) := ⟨by simp [coded], fun y hy => by
  simp only [coded, List.mem_map] at hy
  obtain ⟨row, _, rfl⟩ := hy
  rw [dacc_len (fun b hb => by simp [hdr.2 b hb])]
  simp⟩
theorem coded_isM (n : Nat) (rs data : List (List Int)) : isM (coded n rs data) := fun y hy => by
  simp only [coded, List.mem_map] at hy
  obtain ⟨row, _, rfl⟩ := hy
  exact dacc_B (isB_rep n)
theorem coded_cell {n m k : Nat} {rs data : List (List Int)} (hR : isM rs) (hrr : rect m k rs) (hd : isM data) (hdr : rect k n data) {i j : Nat} (hi : i < m) (hj : j < n) : cell (coded n rs data) i j = mm k (cell rs) (cell data) i j := by
  have e : rw_ (coded n rs data) i = dacc (List.replicate n 0) (rw_ rs i) data := by
    rw [rw_lt (by rw [(coded_rect hdr).1, hrr.1]; exact hi), rw_lt (by rw [hrr.1]; exact hi)]
    simp [coded]
  have : cell (coded n rs data) i j = toF (rd (dacc (List.replicate n 0) (rw_ rs i) data) (j : Int)) := by unfold cell; rw [e]
  rw [this, dot_F (rw_B hR i) hd (rect_row hrr hi) hdr hj]
  rfl
/-- the cells of all rows: the data, and the parity behind them -/
theorem coded_low {n k r : Nat} (hk : k ≤ 12) (hr : r ≤ 4) {data : List (List Int)} (hd : isM data) (hdr : rect k n data) : coded n ((codec_Row.M k r).take k) data = data := by
  have hR : isM ((codec_Row.M k r).take k) := fun x hx => allM_B hk hr x (List.mem_of_mem_take hx)
  have hrr : rect k k ((codec_Row.M k r).take k) := ⟨by rw [List.length_take, (allM_rect k r).1]; omega, fun x hx => (allM_rect k r).2 x (List.mem_of_mem_take hx)⟩
  have h1 : rect k n (coded n ((codec_Row.M k r).take k) data) := by have := coded_rect (rs := (codec_Row.M k r).take k) hdr; rwa [hrr.1] at this
  refine ext_cell h1 hdr (coded_isM _ _ _) hd fun i j hi hj => ?_
  rw [coded_cell hR hrr hd hdr hi hj]
  have e : ∀ q, q < k → cell ((codec_Row.M k r).take k) i q = dl i q := fun q hq => by
    have : rw_ ((codec_Row.M k r).take k) i = rw_ (codec_Row.M k r) i := by
      rw [rw_lt (by rw [hrr.1]; exact hi), rw_lt (by rw [(allM_rect k r).1]; omega), List.getElem_take]
    have h : cell ((codec_Row.M k r).take k) i q = cell (codec_Row.M k r) i q := by unfold cell; rw [this]
    rw [h, cM_low hk hr hi hq]
  rw [mm_congr (B' := cell data) e (fun _ _ => rfl), dl_mm _ hi]
theorem coded_all {n k r : Nat} (hk : k ≤ 12) (hr : r ≤ 4) {data : List (List Int)} (hd : isM data) (hdr : rect k n data) : coded n (codec_Row.M k r) data = data ++ coded n ((codec_Row.M k r).drop k) data := by
  have : coded n (codec_Row.M k r) data = coded n ((codec_Row.M k r).take k) data ++ coded n ((codec_Row.M k r).drop k) data := by
    unfold coded
    rw [← List.map_append, List.take_append_drop]
  rw [this, coded_low hk hr hd hdr]
/-- what is decoded: all rows' cells, of which the taken ones are as they were -/
theorem decoded {n k r : Nat} (h1 : 1 ≤ k) (hk : k ≤ 12) (hr : r ≤ 4) {rows : List Int} (hl : rows.length = k) (hrg : ∀ x ∈ rows, 0 ≤ x ∧ x < (k + r : Nat)) {V FF : List (List Int)} (hV : rect k k V) (bV : isM V) (hF : rect k n FF) (bF : isM FF)
    (hAV : ∀ i j, i < k → j < k → mm k (cell (took (codec_Row.M k r) rows)) (cell V) i j = dl i j) {i : Nat} (hi : i < k) :
    rw_ (coded n (codec_Row.M k r) (coded n V FF)) (rd rows (i : Int)).toNat = rw_ FF i := by
  have hD : rect k n (coded n V FF) := by have := coded_rect (rs := V) hF; rwa [hV.1] at this
  have bD := coded_isM n V FF
  have hMr := allM_rect k r
  have hMb := allM_B hk hr
  have hT : rect k k (took (codec_Row.M k r) rows) := by have := took_rect (rows := rows) hMr hrg; rwa [hl] at this
  have hx := hrg _ (show rd rows (i : Int) ∈ rows by rw [rd_lt (by omega)]; exact List.getElem_mem _)
  have hxl : (rd rows (i : Int)).toNat < k + r := by omega
  have hC : rect (k + r) n (coded n (codec_Row.M k r) (coded n V FF)) := by have := coded_rect (rs := codec_Row.M k r) hD; rwa [hMr.1] at this
  refine ext_rd ((rect_row hC hxl).trans (rect_row hF hi).symm) fun j hj => ?_
  rw [rect_row hC hxl] at hj
  rw [cell_rd (coded_isM _ _ _), cell_rd bF]
  congr 1
  rw [coded_cell hMb hMr bD hD hxl hj]
  have e1 : mm k (cell (codec_Row.M k r)) (cell (coded n V FF)) (rd rows (i : Int)).toNat j = mm k (cell (took (codec_Row.M k r) rows)) (mm k (cell V) (cell FF)) i j :=
    sn_congr fun q hq => by rw [took_cell (by omega), coded_cell bV hV bF hF hq hj]
  rw [e1, ← mm_assoc]
  have e2 : mm k (mm k (cell (took (codec_Row.M k r) rows)) (cell V)) (cell FF) i j = mm k dl (cell FF) i j := mm_congr (fun q hq => hAV i q hi hq) (fun _ _ => rfl)
  rw [e2, dl_mm _ hi]
/-- cells that were made of data come to the data -/
theorem undone {n k r : Nat} (h1 : 1 ≤ k) (hk : k ≤ 12) (hr : r ≤ 4) {rows : List Int} (hl : rows.length = k) (hrg : ∀ x ∈ rows, 0 ≤ x ∧ x < (k + r : Nat)) {V FF data : List (List Int)} (hV : rect k k V) (bV : isM V) (hF : rect k n FF) (bF : isM FF) (hd : isM data) (hdr : rect k n data)
    (hVA : ∀ i j, i < k → j < k → mm k (cell V) (cell (took (codec_Row.M k r) rows)) i j = dl i j) (hFF : ∀ i, i < k → rw_ FF i = rw_ (coded n (codec_Row.M k r) data) (rd rows (i : Int)).toNat) : coded n V FF = data := by
  have hD : rect k n (coded n V FF) := by have := coded_rect (rs := V) hF; rwa [hV.1] at this
  have hMr := allM_rect k r
  have hMb := allM_B hk hr
  refine ext_cell hD hdr (coded_isM _ _ _) hd fun i j hi hj => ?_
  rw [coded_cell bV hV bF hF hi hj]
  have e1 : mm k (cell V) (cell FF) i j = mm k (cell V) (mm k (cell (took (codec_Row.M k r) rows)) (cell data)) i j := by
    refine mm_congr (fun _ _ => rfl) fun q hq => ?_
    have hx := hrg _ (show rd rows (q : Int) ∈ rows by rw [rd_lt (by omega)]; exact List.getElem_mem _)
    have e : cell FF q j = cell (coded n (codec_Row.M k r) data) (rd rows (q : Int)).toNat j := by unfold cell; rw [hFF q hq]
    rw [e, coded_cell hMb hMr hd hdr (by omega) hj]
    exact sn_congr fun p _ => by rw [took_cell (by omega)]
  rw [e1, ← mm_assoc]
  have e2 : mm k (mm k (cell V) (cell (took (codec_Row.M k r) rows))) (cell data) i j = mm k dl (cell data) i j := mm_congr (fun q hq => hVA i q hi hq) (fun _ _ => rfl)
  rw [e2, dl_mm _ hi]
end Go.Proofs.Ythhncoogmncdkaa.Pure
