import Derived.Test.YthhncoogmncdkaaPAx0
import Derived.Test.YthhncoogmncdkaaPAx20
import Derived.Test.YthhncoogmncdkaaDEnc
import Derived.Test.YthhncoogmncdkaaPAx3
import Derived.Test.YthhncoogmncdkaaCdSl
import Derived.Test.YthhncoogmncdkaaDSame
-- written by the session's own program (wip/prt.py) over the kit's print: not print.sh's own text
namespace Go.Proofs.Ythhncoogmncdkaa.PA
open Go.RowKit Go.Proofs.YthhncoogmncdkaaW.PrintWords Go.Proofs.YthhncoogmncdkaaW.PrintLast Go.Proofs.YthhncoogmncdkaaW.PrintMore
attribute [local go_sem] max2_int min2_int max_two min_two max_three min_three max_four min_four   -- for this text's walks alone
set_option linter.unusedVariables false
set_option linter.unusedSimpArgs false

/-! ### matrix_twin: function 42 -/
theorem matrix_twin.info : (Try.prog.info? 23).map (fun i => (i.zero, i.size, i.bytes)) = some (some (.slice none 0 0), 1, 24) := by kernel_rfl
theorem matrix_twin.eql_nil (a : Option Addr) (n c n' c' : Nat) (w : World) : (binOp .eql 24 (.slice a n c) (.slice none n' c')).run Try.prog w = .ok (.bool a.isNone) w := by
  simp only [binOp]
  simp [Op.equal, Op.maxDepth, Lib.run_equalIn_slice_nil w 9999 24 23 a n c n' c' Try.underlying24]
set_option maxHeartbeats 400000 in
theorem matrix_twin.clone (A0 : Option Addr) (c0 : Nat) (l0 : List (List Int)) (w : World) (hr0 : Kd.C (Kd.slice 5 (Kd.int .u8)) w A0 l0.length l0) (hlim : l0.length ≤ 100) :
    Calls Try.prog 58 #[.slice A0 l0.length c0] w fun e w' => ∃ (v0_ : Value) (rows : List (List Value)), e = .returned (v0_) ∧ Kd.R (Kd.raw 1) 23 w' w.heap.size (fun _ => True) v0_ rows ∧ rows.length = l0.length ∧ Below w.heap.size w w' := by
  cases A0 with
  | none =>
    have hl : l0.length = 0 := by
      rcases Nat.eq_zero_or_pos l0.length with h | h
      · exact h
      · obtain ⟨ad, h1, _⟩ := hr0.2.2 h; cases h1
    obtain rfl := List.length_eq_zero_iff.1 hl
    have he := matrix_twin.eql_nil none 0 c0 0 0 w
    clear hr0
    go_enter Try.func58, Try.ntmps58
    go_wp2_with fail
    go_ret
    exact ⟨_, [], rfl, Kd.R_nil _ _ _ _ _, rfl, Below.refl _ _⟩
  | some ad =>
    obtain ⟨news, hnl, hnr, hnx⟩ := Kd.reads_raw hr0 (fun x c h => ⟨(Kd.slice 5 (Kd.int .u8)).K_len h, (Kd.slice 5 (Kd.int .u8)).K_one h⟩)
    have HR := Lib.hid hnr
    have HL := Lib.hid hlim
    have HNL := Lib.hid hnl
    have he := matrix_twin.eql_nil (some ad) l0.length c0 0 0 w
    have HO : (Kd.raw 1).R 23 (w.alloc (.cells #[] 23)) w.heap.size (fun _ => True) (.slice (some ⟨w.heap.size, 0, none⟩) 0 0) ([] : List (List Value)) := ⟨fun _ _ => trivial, ⟨[], own_lit w w.heap.size 23 .u8 [] (Nat.le_refl _) (by simp), Reps.none _ _⟩⟩
    have HN := Lib.hid HO
    clear hr0 hlim HO hnr hnl hnx
    go_enter Try.func58, Try.ntmps58
    go_wp2_with ((with_reducible refine gate_builtin (b := .append) (xs := #[.tmp 5, .tmp 6]) rfl ?_); at_builtin; refine Kd.R_append_rows (Kd.raw 1) (w0 := w) w.heap.size rfl (.tmp 5) (.tmp 6) 24 23 (.slice none 0 0) 24 rfl Try.underlying24 matrix_twin.info rfl (by decide) (by omega) (.slice (some ⟨w.heap.size, 0, none⟩) 0 0) ([] : List (List Value)) news _ _ _ (fun _ => True) (fun _ => False) rfl rfl HN.out ?aR (fun _ _ h => h) (fun _ h => h.elim) (fun _ _ => trivial) ?aB ?aS ?aL ?_; (case aR => exact Kd.C_alloc (d := Kd.raw 1) HR.out _); (case aB => exact below_alloc (Below.refl _ _) _); (case aS => exact (below_alloc (Below.refl _ _) _).size); (case aL => have := HL.out; simp; omega); intro v1 w1 ho hb hg hat; have HO2 := Lib.hid ho; have HB2 := Lib.hid hb; clear ho hb hg hat)
    go_ret
    exact ⟨_, _, rfl, HO2.out, by simpa using HNL.out, HB2.out⟩
def matrix_twin.ok (M : List (List Int)) : Prop := 0 < M.length ∧ M.length ≤ 100 ∧ 0 < (rw_ M 0).length ∧ (rw_ M 0).length ≤ 100 ∧ ∀ r ∈ M, r.length = (rw_ M 0).length
instance matrix_twin.dec1 (M : List (List Int)) : Decidable (matrix_twin.ok M) := by unfold matrix_twin.ok; infer_instance
def matrix_twin.f (M : List (List Int)) : Option (List (List Int)) := if matrix_twin.ok M then some M else none
def matrix_twin.St (wx : World) (g cap n m i : Nat) (vs : List Value) (b c : Nat → Nat) (M : List (List Int)) : Prop :=
  RowV wx g 23 cap vs ∧ vs.length = n ∧ (∀ k, k < i → vs[k]? = some (.slice (some ⟨b k, 0, none⟩) m (c k)) ∧ g < b k ∧ (rw_ M k).length = m ∧ RowV wx (b k) 5 (c k) (encs (Value.int .u8) (rw_ M k))) ∧ ∀ k l, k < i → l < i → b k = b l → k = l
theorem matrix_twin.snoc {wx w' : World} {g cap n m i nb nc : Nat} {vs : List Value} {b c : Nat → Nat} {M : List (List Int)} (h : matrix_twin.St wx g cap n m i vs b c M) (hi : i < n) (hb : Below wx.heap.size wx w') (hnb : wx.heap.size ≤ nb) (hl : (rw_ M i).length = m) (hr : RowV w' nb 5 nc (encs (Value.int .u8) (rw_ M i))) :
    matrix_twin.St (w'.setCell ⟨g, i, none⟩ (.slice (some ⟨nb, 0, none⟩) m nc)) g cap n m (i + 1) (vs.set i (.slice (some ⟨nb, 0, none⟩) m nc)) (fun k => if k = i then nb else b k) (fun k => if k = i then nc else c k) M := by
  obtain ⟨h1, h2, h3, h4⟩ := h
  have hg := h1.lt
  refine ⟨(h1.keep (hb.block g hg)).set (by omega) _, by simpa using h2, fun k hk => ?_, fun k l hk hl' e => ?_⟩
  · by_cases e : k = i
    · subst e
      simp only [if_pos]
      exact ⟨by simp [h2, hi], by omega, hl, hr.far (p := ⟨g, k, none⟩) (by show nb ≠ g; omega) _⟩
    · simp only [if_neg e]
      obtain ⟨q1, q2, q3, q4⟩ := h3 k (by omega)
      exact ⟨by rw [List.getElem?_set_ne (fun z => e z.symm)]; exact q1, q2, q3, (q4.keep (hb.block _ q4.lt)).far (p := ⟨g, i, none⟩) (by show b k ≠ g; omega) _⟩
  · by_cases e1 : k = i
    · by_cases e2 : l = i
      · omega
      · simp only [if_pos e1, if_neg e2] at e
        have := (h3 l (by omega)).2.2.2.lt; omega
    · by_cases e2 : l = i
      · simp only [if_neg e1, if_pos e2] at e
        have := (h3 k (by omega)).2.2.2.lt; omega
      · simp only [if_neg e1, if_neg e2] at e
        exact h4 k l (by omega) (by omega) e
theorem matrix_twin.fin {wx : World} {g cap m base : Nat} {vs : List Value} {b c : Nat → Nat} {M : List (List Int)} (h : matrix_twin.St wx g cap M.length m M.length vs b c M) (hg : base ≤ g) : Mat wx (fun k => base ≤ k) g cap b c M m := by
  obtain ⟨h1, h2, h3, h4⟩ := h
  have e : vs = outC M.length b c m := by
    apply List.ext_getElem?
    intro k
    by_cases hk : k < M.length
    · rw [(h3 k hk).1]; simp [outC, hk]
    · rw [List.getElem?_eq_none (by omega), List.getElem?_eq_none (by simp [outC]; omega)]
  subst e
  exact ⟨h1, hg, fun i hi => ⟨by have := (h3 i hi).2.1; omega, by have := (h3 i hi).2.1; show base ≤ b i; omega, (h3 i hi).2.2.1, (h3 i hi).2.2.2⟩, h4⟩
set_option maxHeartbeats 4000000 in
theorem matrix_twin.calls (A0 : Option Addr) (c0 : Nat) (l0 : List (List Int)) (r : List (List Int)) (w : World) (hr0 : Kd.C (Kd.slice 5 (Kd.int .u8)) w A0 l0.length l0) (hc0 : l0.length ≤ c0) (h : matrix_twin.f l0 = some r) :
    Calls Try.prog 42 #[.slice A0 l0.length c0] w fun e w' => ∃ v0_ : Value, e = .returned (v0_) ∧ Kd.S (Kd.slice 5 (Kd.int .u8)) 23 w' w.heap.size (fun _ => True) v0_ r ∧ Below w.heap.size w w' := by
  unfold matrix_twin.f at h
  by_cases hok : matrix_twin.ok l0
  case neg => rw [if_neg hok] at h; cases h
  rw [if_pos hok] at h
  injection h with h
  subst h
  obtain ⟨o1, o2, o3, o4, o5⟩ := hok
  have HR := Lib.hid hr0
  have O5 := Lib.hid (fun i (hi : i < l0.length) => o5 (rw_ l0 i) (by simp [rw_, hi]))
  generalize (rw_ l0 0).length = m at o3 o4 O5
  have O2 := Lib.hid o2
  have O3 := Lib.hid o3
  have O4 := Lib.hid o4
  clear hr0 hc0 o2 o3 o4 o5
  go_enter Try.func42, Try.ntmps42
  go_wp2_with fail
  refine (matrix_twin.clone A0 c0 l0 w HR.out O2.out).mono ?_
  rintro e w1 ⟨v0, rows, rfl, ho, hlen, hb⟩
  obtain ⟨g, cap, hv, -, -, -⟩ := Kd.R_form ho (by omega)
  rw [hlen] at hv
  subst hv
  obtain ⟨vs, hvs, hvl, -, hg⟩ := RowV.of_raw ho
  have HV := Lib.hid hvs
  have HVL := Lib.hid hvl
  have HG := Lib.hid hg
  have HB := Lib.hid hb
  clear ho hlen hb hvs hvl hg
  go_wp2_with fail
  go_loopg [9] l0.length (fun gk s9 wx => ∃ (i : Nat) (b c : Nat → Nat) (vs : List Value), i + gk = l0.length ∧ s9 = .int .i64 i ∧ Aside0 (matrix_twin.St wx g cap l0.length m i vs b c l0) ∧ Aside0 (Below w.heap.size w wx))
  case atStart => exact ⟨0, fun _ => 0, fun _ => 0, vs, by omega, rfl, ⟨⟨HV.out, HVL.out, fun k hk => absurd hk (by omega), fun k l hk => absurd hk (by omega)⟩⟩, ⟨HB.out⟩⟩
  case round =>
    clear HV HVL HB
    obtain ⟨i, b, c, vs, hig, rfl, HS, HB⟩ := hrel
    have hl : (i : Int) ≤ (l0.length : Int) := by omega
    cases gk with
    | zero =>
      obtain rfl : i = l0.length := by omega
      go_wp2_with fail
      go_ret
      exact ⟨_, rfl, (matrix_twin.fin HS.out HG.out).toS (fun _ hk => hk), HB.out⟩
    | succ d =>
      have hi1 : (i : Int) < (l0.length : Int) := by omega
      obtain ⟨ad, B0, d0, rfl, hx, hd0, hr1⟩ : ∃ ad A1 c1, A0 = some ad ∧ wr.cell? (ad.add i) = some (.slice A1 (rw_ l0 i).length c1) ∧ (rw_ l0 i).length ≤ c1 ∧ Kd.C (Kd.int .u8) wr A1 (rw_ l0 i).length (rw_ l0 i) := at_L1 (Kd.C_below HR.out HB.out) (i : Int) (by omega) (by omega)
      have HR1 := Lib.hid hr1
      have HD := Lib.hid hd0
      clear hr1 hd0
      go_wp2_with fail
      refine (slices_Clone_byte_byte.calls B0 d0 (rw_ l0 i) (rw_ l0 i) _ HR1.out HD.out (by unfold slices_Clone_byte_byte.f; rw [if_pos (by rw [O5.out i (by omega)]; have := O4.out; omega)])).mono ?_
      rintro e w2 ⟨v1, rfl, ho, hb⟩
      obtain ⟨nb, nc, rfl, hnb, -, -⟩ := Kd.R_form ho (by rw [O5.out i (by omega)]; exact O3.out)
      rw [O5.out i (by omega)] at ho ⊢
      have hv := (RowV.of_R ho).1
      have HS2 := Lib.hid (matrix_twin.snoc HS.out (by omega) hb hnb (O5.out i (by omega)) hv)
      have HB2 := Lib.hid (below_set (g := g) (j := i) (v := .slice (some ⟨nb, 0, none⟩) m nc) (below_step HB.out hb) HG.out)
      have hgk := HS.out.1.keep (hb.block _ HS.out.1.lt)
      obtain ⟨X, hx1⟩ : ∃ X, w2.cell? ⟨g, i, none⟩ = some X := ⟨_, hgk.cell (by have := HS.out.2.1; omega)⟩
      have hx2 := hgk.frozen i
      clear hx hv hb hnb ho HS HB hgk HR1 HD
      go_wp2_with fail
      go_roundg d
      case measure => omega
      case rel => exact ⟨i + 1, _, _, _, by omega, by have := O2.out; rw [show wrap64 ((i : Int) + 1) = ((i + 1 : Nat) : Int) by unfold wrap64; omega], ⟨HS2.out⟩, ⟨HB2.out⟩⟩

/-! ### matrix_Inverse: function 26 -/
def matrix_Inverse.f (k : Nat) (l0 : List (List Int)) : Option (List (List Int) × Int) := (matrix_Check.f k l0).bind fun e => if e = 0 then (if matrix_twin.ok l0 then (if l0.length = (rw_ l0 0).length then (matrix_One.f (l0.length : Int)).bind fun o => if o.2 = 0 ∧ o.1.length = l0.length ∧ (∀ r ∈ o.1, r.length = l0.length) then (matrix_solve.f k l0 o.1).bind fun q => if q.2.2 < l0.length then some ([], 5) else some (q.2.1, 0) else none else some ([], 30)) else none) else some ([], 30)
theorem matrix_Inverse.mono : ∀ a0 k, LeO (matrix_Inverse.f k a0) (matrix_Inverse.f (k + 1) a0) := fun a0 k => LeO.bind (matrix_Check.mono _ _) (fun _ => LeO.ite (LeO.ite (LeO.ite (LeO.bind (LeO.refl _) (fun _ => LeO.ite (LeO.bind (matrix_solve.mono _ _ _) (fun _ => LeO.refl _)) (LeO.refl _))) (LeO.refl _)) (LeO.refl _)) (LeO.refl _))
set_option maxHeartbeats 4000000 in
theorem matrix_Inverse.calls (k : Nat) (A0 : Option Addr) (c0 : Nat) (l0 : List (List Int)) (r1 : List (List Int)) (r2 : Int) (w : World) (hr0 : Kd.C (Kd.slice 5 (Kd.int .u8)) w A0 l0.length l0) (hc0 : l0.length ≤ c0) (h : matrix_Inverse.f k l0 = some (r1, r2)) :
    Calls Try.prog 26 #[.slice A0 l0.length c0] w fun e w' => ∃ v0_ : Value, e = .returned (.tuple #[v0_, .int .i64 r2]) ∧ Kd.S (Kd.slice 5 (Kd.int .u8)) 23 w' w.heap.size (fun _ => True) v0_ r1 ∧ Below w.heap.size w w' := by
  obtain ⟨e, he, h⟩ := Option.bind_eq_some_iff.mp h
  have HE := Lib.hid he
  have HR := Lib.hid hr0
  have HC := Lib.hid hc0
  clear he hr0 hc0
  by_cases h0 : e = 0
  case neg =>
    rw [if_neg h0] at h
    injection h with h; injection h with ha hb; subst ha hb
    have he1 : (e != 0) = true := bne_iff_ne.mpr h0
    clear h0
    go_enter Try.func26, Try.ntmps26
    go_wp2_with fail
    refine (matrix_Check.calls k A0 c0 l0 e _ HR.out HC.out HE.out).mono ?_
    rintro e' w1 ⟨rfl, n, rfl⟩
    go_wp2_with fail
    go_ret2
    exact ⟨_, rfl, Kd.S_nil _ _ _ _ _, pw_below_drewN (Below.refl _ _) n⟩
  rw [if_pos h0] at h
  subst h0
  by_cases hok : matrix_twin.ok l0
  case neg => rw [if_neg hok] at h; cases h
  rw [if_pos hok] at h
  have HK := Lib.hid hok
  have hp : (0 : Int) < (l0.length : Int) := by have := hok.1; omega
  obtain ⟨ad, B0, d0, rfl, hx, -, -⟩ : ∃ ad A1 c1, A0 = some ad ∧ w.cell? (ad.add 0) = some (.slice A1 (rw_ l0 0).length c1) ∧ (rw_ l0 0).length ≤ c1 ∧ Kd.C (Kd.int .u8) w A1 (rw_ l0 0).length (rw_ l0 0) := at_L1 HR.out 0 (by omega) (by omega)
  have ea : ad.add 0 = ad := by cases ad; simp [Addr.add]
  rw [ea] at hx
  clear ea hok
  by_cases h1 : l0.length = (rw_ l0 0).length
  case neg =>
    rw [if_neg h1] at h
    injection h with h; injection h with ha hb; subst ha hb
    have he1 : ((l0.length : Int) != ((rw_ l0 0).length : Int)) = true := bne_iff_ne.mpr (by omega)
    clear h1
    go_enter Try.func26, Try.ntmps26
    go_wp2_with fail
    refine (matrix_Check.calls k (some ad) c0 l0 0 _ HR.out HC.out HE.out).mono ?_
    rintro e' w1 ⟨rfl, n, rfl⟩
    replace hx : (w.drewN n).cell? ad = some (.slice B0 (rw_ l0 0).length d0) := hx
    go_wp2_with fail
    go_ret2
    exact ⟨_, rfl, Kd.S_nil _ _ _ _ _, pw_below_drewN (Below.refl _ _) n⟩
  rw [if_pos h1] at h
  have he1 : ((l0.length : Int) != ((rw_ l0 0).length : Int)) = false := bne_eq_false_iff_eq.mpr (by omega)
  have H1 := Lib.hid h1
  clear h1
  obtain ⟨⟨O, oe⟩, hone, h⟩ := Option.bind_eq_some_iff.mp h
  by_cases ho : oe = 0 ∧ O.length = l0.length ∧ (∀ r ∈ O, r.length = l0.length)
  case neg => rw [if_neg ho] at h; cases h
  rw [if_pos ho] at h
  obtain ⟨rfl, hol, hor⟩ := ho
  obtain ⟨⟨M', B', r⟩, hs, h⟩ := Option.bind_eq_some_iff.mp h
  have HS := Lib.hid hs
  have HO := Lib.hid hone
  have HOL := Lib.hid hol
  have HOR := Lib.hid hor
  have H := Lib.hid h
  clear hs hone hol hor h
  go_enter Try.func26, Try.ntmps26
  go_wp2_with fail
  refine (matrix_Check.calls k (some ad) c0 l0 0 _ HR.out HC.out HE.out).mono ?_
  rintro e' w1 ⟨rfl, n, hw⟩
  replace hx : w1.cell? ad = some (.slice B0 (rw_ l0 0).length d0) := by rw [hw]; exact hx
  have HB := Lib.hid (show Below w.heap.size w w1 by rw [hw]; exact pw_below_drewN (Below.refl _ _) n)
  clear hw
  go_wp2_with fail
  refine (matrix_One.calls (l0.length : Int) O 0 _ HO.out).mono ?_
  rintro e' w2 ⟨v1, rfl, ho, hb⟩
  obtain ⟨g, cap, b, c, rfl, -, hM⟩ := Mat.of_S ho HOR.out (by rw [HOL.out]; exact HK.out.1) HK.out.1
  rw [HOL.out]
  have HM := Lib.hid ((Mat.size hM).mono (S' := fun k => w.heap.size ≤ k ∧ k < w2.heap.size) (fun k hk => ⟨Nat.le_trans HB.out.size hk.1, hk.2⟩))
  replace HB := Lib.hid (below_step HB.out hb)
  clear ho hb hM hx he1
  go_wp2_with fail
  refine (matrix_twin.calls (some ad) c0 l0 l0 _ (Kd.C_below HR.out HB.out) HC.out (by unfold matrix_twin.f; rw [if_pos HK.out])).mono ?_
  rintro e' w3 ⟨v2, rfl, ho, hb⟩
  obtain ⟨g2, cap2, b2, c2, rfl, -, hM2⟩ := Mat.of_S ho HK.out.2.2.2.2 HK.out.1 HK.out.2.2.1
  have HM2 := Lib.hid hM2
  replace HM := Lib.hid (HM.out.below hb)
  have HZ := Lib.hid HB.out.size
  replace HB := Lib.hid (below_step HB.out hb)
  clear ho hb hM2
  go_wp2_with fail
  have hC := matrix_solve.calls k _ _ g2 g cap2 cap _ _ b2 c2 b c l0 O M' B' r w _ HB.out HM2.out HM.out (fun k hk => ⟨Nat.le_trans HZ.out hk, fun z => by have := z.2; omega⟩) (fun k hk => ⟨hk.1, fun z => by have := hk.2; omega⟩) ⟨HK.out.1, HK.out.2.1, HOL.out, HK.out.2.2.1, HK.out.2.2.2.1, HK.out.1, HK.out.2.1⟩ HS.out
  rw [HOL.out] at hC
  refine hC.mono ?_
  clear hC
  rintro e' w4 ⟨rfl, ⟨b3, c3, b4, c4, -, hM4⟩, -, hl4, hb⟩
  have HM4 := Lib.hid (hM4.toS (base := w.heap.size) (fun _ hk => hk.1))
  rw [hl4] at HM4
  have HB4 := Lib.hid hb
  clear hb hM4 HM HM2 HS
  by_cases hlt : r < l0.length
  case pos =>
    have h := H.out
    rw [if_pos hlt] at h
    injection h with h; injection h with ha hb; subst ha hb
    have hd : decide ((r : Int) < (l0.length : Int)) = true := decide_eq_true (by omega)
    have hd2 : (r : Int) < (l0.length : Int) := by omega
    clear hlt H
    go_wp2_with fail
    go_ret2
    exact ⟨_, rfl, Kd.S_nil _ _ _ _ _, HB4.out⟩
  case neg =>
    have h := H.out
    rw [if_neg hlt] at h
    injection h with h; injection h with ha hb; subst ha hb
    have hd2 : ¬ (r : Int) < (l0.length : Int) := by omega
    clear hlt H
    go_wp2_with fail
    go_ret2
    exact ⟨_, rfl, HM4.out, HB4.out⟩

end Go.Proofs.Ythhncoogmncdkaa.PA
namespace Go.Proofs.Ythhncoogmncdkaa.Pure
open Go Go.RowKit Go.TwoGf Go.TwoLin Go.Proofs.Ythhncoogmncdkaa Go.Proofs.Ythhncoogmncdkaa.PA Go.Proofs.YthhncoogmncdkaaW.PrintWords Go.Proofs.YthhncoogmncdkaaW.PrintLast
set_option linter.unusedVariables false
theorem oneM (n : Nat) : matrix_One.M n = mkF n n dl := by
  unfold matrix_One.M mkF
  refine List.map_congr_left fun i _ => List.map_congr_left fun j _ => ?_
  unfold dl
  by_cases h : i = j
  · rw [if_pos h, if_pos h]; rfl
  · rw [if_neg h, if_neg h]; rfl
theorem one_f {n : Nat} (h1 : 1 ≤ n) (h2 : n ≤ 32) : matrix_One.f (n : Int) = some (mkF n n dl, 0) := by
  unfold matrix_One.f
  rw [if_neg (by omega), if_neg (by omega), Int.toNat_natCast, oneM]
/-- the parity's numbers -/
def cau (k i j : Nat) : F := inv (toF ((k + i : Nat) : Int) + toF (j : Int))
theorem cauchy_G {k i j : Nat} (hk : k ≤ 12) (hi : i < 4) (hj : j < k) : gf_Inv.f (matrix_Cauchy.at_ (k : Int) i j) = some (ofF (cau k i j), if matrix_Cauchy.at_ (k : Int) i j = 0 then 10 else 0) := by
  have e : matrix_Cauchy.at_ (k : Int) i j = ofF (toF ((k + i : Nat) : Int) + toF (j : Int)) := by
    unfold matrix_Cauchy.at_
    rw [show (k : Int) + (i : Int) = ((k + i : Nat) : Int) by omega]
    exact xor_v (by omega) (by omega)
  rw [e, inv_v (ofF_rng _), toF_ofF]
  rfl
theorem twin_ok {a : List (List Int)} (ga : good a) : matrix_twin.ok a := ⟨by have := ga.1; omega, by have := ga.2.1; omega, by have := ga.2.2.1; omega, by have := ga.2.2.2.1; omega, ga.2.2.2.2⟩
theorem inverse_bad {k : Nat} (hk : 40 ≤ k) {a : List (List Int)} (ga : ¬ (good a ∧ a.length = (rw_ a 0).length)) : matrix_Inverse.f k a = some ([], 30) := by
  unfold matrix_Inverse.f
  rw [check_f hk]
  unfold ckv
  by_cases g : good a
  · rw [if_pos g]
    simp only [Option.bind_some, if_true]
    rw [if_pos (twin_ok g), if_neg (fun z => ga ⟨g, z⟩)]
  · rw [if_neg g]; rfl
theorem inverse_f {k : Nat} (hk : 200 ≤ k) {a : List (List Int)} (ha : isM a) (ga : good a) (hs : a.length = (rw_ a 0).length) :
    (∃ r : Nat, r < a.length ∧ Rk a.length a.length r (cell a) ∧ matrix_Inverse.f k a = some ([], 5)) ∨
    (∃ V, matrix_Inverse.f k a = some (V, 0) ∧ rect a.length a.length V ∧ isM V ∧ Rk a.length a.length a.length (cell a) ∧ (∀ i j, i < a.length → j < a.length → mm a.length (cell V) (cell a) i j = dl i j) ∧ (∀ i j, i < a.length → j < a.length → mm a.length (cell a) (cell V) i j = dl i j)) := by
  have hr := good_rect ga
  rw [← hs] at hr
  have h32 := ga.2.1
  generalize hn : a.length = n at hr h32
  obtain ⟨M', B', r, piv, h1, h2, h3, h4, h5, h6, h7, h8⟩ := solve_v (k := k) (M := a) (B := mkF n n dl) (by have := ga.1; omega) (by omega) (by omega) (by omega) hk hr (rect_mkF n n dl) ha (isM_mkF n n dl)
  have hf : matrix_Inverse.f k a = if r < n then some ([], 5) else some (B', 0) := by
    unfold matrix_Inverse.f
    rw [check_f (by omega)]
    unfold ckv
    rw [if_pos ga]
    simp only [Option.bind_some, if_true]
    rw [if_pos (twin_ok ga), if_pos hs, hn, one_f (by have := ga.1; omega) h32]
    simp only [Option.bind_some]
    rw [if_pos ⟨trivial, (rect_mkF n n dl).1, (rect_mkF n n dl).2⟩, h1]
    rfl
  have hk2 : Rk n n r (cell a) := Rk_congr (fun i j _ hj => J_left hj) (Inv_rank h6 h8)
  by_cases hlt : r < n
  · exact .inl ⟨r, hlt, hk2, by rw [hf, if_pos hlt]⟩
  · right
    obtain rfl : r = n := Nat.le_antisymm h6.le (by omega)
    have hinv := Inv_inverse h6 h8 (fun i j hi hj => by rw [J_right, cell_mkF hi hj])
    have hp := piv_id h6.lt h6.up
    have hd : ∀ i, i < r → inv (J r M' B' i i) = 1 := fun i hi => by
      have := h7 i hi
      rw [hp i hi] at this
      rw [this]
      have e := mul_inv one_ne
      rwa [one_mul] at e
    have e1 : ∀ i j, i < r → (fun i j => inv (J r M' B' i i) * J r M' B' i (r + j)) i j = cell B' i j := fun i j hi => by
      show inv (J r M' B' i i) * J r M' B' i (r + j) = cell B' i j
      rw [hd i hi, one_mul, J_right]
    refine ⟨B', by rw [hf, if_neg hlt], h3, h5, hk2, fun i j hi hj => ?_, fun i j hi hj => ?_⟩
    · rw [← hinv.1 i j hi hj]
      exact mm_congr (fun q _ => (e1 i q hi).symm) (fun q hq => (J_left hj).symm)
    · rw [← hinv.2 i j hi hj]
      exact mm_congr (fun q hq => (J_left hq).symm) (fun q hq => (e1 q j hq).symm)
theorem sm_filter (p : Nat → Bool) (f : Nat → F) : ∀ l : List Nat, sm l f = sm (l.filter p) f + sm (l.filter fun x => !p x) f
  | [] => (add_zero 0).symm
  | x :: l => by
    rw [sm_cons, sm_filter p f l, List.filter_cons, List.filter_cons]
    cases p x with
    | true => simp only [if_true, Bool.not_true, Bool.false_eq_true, if_false, sm_cons]; rw [add_assoc]
    | false => simp only [if_true, Bool.not_false, Bool.false_eq_true, if_false, sm_cons]; ac_rfl
theorem len_filter (p : Nat → Bool) : ∀ l : List Nat, (l.filter p).length + (l.filter fun x => !p x).length = l.length
  | [] => rfl
  | x :: l => by
    have := len_filter p l
    rw [List.filter_cons, List.filter_cons]
    cases p x with
    | true => simp; omega
    | false => simp; omega
theorem toF_nat_inj {a b : Nat} (ha : a < 256) (hb : b < 256) (h : toF (a : Int) = toF (b : Int)) : a = b := by
  have := congrArg F.v h
  rwa [v_nat ha, v_nat hb] at this
end Go.Proofs.Ythhncoogmncdkaa.Pure
namespace Go.Proofs.Ythhncoogmncdkaa.Pure
open Go Go.RowKit Go.TwoGf Go.TwoLin Go.Proofs.Ythhncoogmncdkaa Go.Proofs.Ythhncoogmncdkaa.PA Go.Proofs.YthhncoogmncdkaaW.PrintWords Go.Proofs.YthhncoogmncdkaaW.PrintLast Go.Proofs.YthhncoogmncdkaaW.PrintMore
set_option linter.unusedVariables false
/-! the rows of a code -/
theorem codeM {k r : Nat} (hk : k ≤ 12) (hr : r ≤ 4) : codec_Row.M k r = mkF k k dl ++ mkF r k (cau k) := by
  unfold codec_Row.M
  rw [oneM]
  congr 1
  by_cases e : r = 0
  · rw [if_pos e]; subst e; rfl
  · rw [if_neg e]
    unfold matrix_Cauchy.M mkF
    refine List.map_congr_left fun i hi => ?_
    refine List.map_congr_left fun j hj => ?_
    unfold matrix_Cauchy.G
    rw [cauchy_G hk (by have := List.mem_range.1 hi; omega) (List.mem_range.1 hj)]
    rfl
theorem cM_low {k r i j : Nat} (hk : k ≤ 12) (hr : r ≤ 4) (hi : i < k) (hj : j < k) : cell (codec_Row.M k r) i j = dl i j := by
  rw [codeM hk hr]
  have e : rw_ (mkF k k dl ++ mkF r k (cau k)) i = rw_ (mkF k k dl) i := by
    unfold rw_
    rw [List.getD_eq_getElem?_getD, List.getElem?_append_left (by rw [(rect_mkF _ _ _).1]; exact hi), ← List.getD_eq_getElem?_getD]
  have : cell (mkF k k dl ++ mkF r k (cau k)) i j = cell (mkF k k dl) i j := by unfold cell; rw [e]
  rw [this, cell_mkF hi hj]
theorem cM_high {k r p j : Nat} (hk : k ≤ 12) (hr : r ≤ 4) (hp : p < r) (hj : j < k) : cell (codec_Row.M k r) (k + p) j = cau k p j := by
  rw [codeM hk hr]
  have e : rw_ (mkF k k dl ++ mkF r k (cau k)) (k + p) = rw_ (mkF r k (cau k)) p := by
    unfold rw_
    rw [List.getD_eq_getElem?_getD, List.getElem?_append_right (by rw [(rect_mkF _ _ _).1]; omega), (rect_mkF _ _ _).1, Nat.add_sub_cancel_left, ← List.getD_eq_getElem?_getD]
  have : cell (mkF k k dl ++ mkF r k (cau k)) (k + p) j = cell (mkF r k (cau k)) p j := by unfold cell; rw [e]
  rw [this, cell_mkF hp hj]
/-- the rows that were taken -/
def took (M : List (List Int)) (rows : List Int) : List (List Int) := rows.map fun x => rw_ M x.toNat
theorem took_rect {n m : Nat} {M : List (List Int)} (h : rect n m M) {rows : List Int} (hr : ∀ x ∈ rows, 0 ≤ x ∧ x < (n : Int)) : rect rows.length m (took M rows) := ⟨by simp [took], fun y hy => by
  simp only [took, List.mem_map] at hy
  obtain ⟨x, hx, rfl⟩ := hy
  have := hr x hx
  exact rect_row h (by omega)⟩
theorem took_isM {M : List (List Int)} (h : isM M) (rows : List Int) : isM (took M rows) := fun y hy => by
  simp only [took, List.mem_map] at hy
  obtain ⟨x, hx, rfl⟩ := hy
  exact rw_B h _
theorem took_cell {M : List (List Int)} {rows : List Int} {i : Nat} (hi : i < rows.length) (j : Nat) : cell (took M rows) i j = cell M (rd rows (i : Int)).toNat j := by
  have : rw_ (took M rows) i = rw_ M (rd rows (i : Int)).toNat := by
    rw [rd_lt hi]
    unfold took
    rw [rw_lt (by simpa using hi)]
    simp
  unfold cell
  rw [this]
theorem took_inv {K k r : Nat} (hK : 200 ≤ K) (h1 : 1 ≤ k) (h2 : k ≤ 12) (h4 : r ≤ 4) {rows : List Int} (hl : rows.length = k) (hn : rows.Nodup) (hr : ∀ x ∈ rows, 0 ≤ x ∧ x < (k + r : Nat)) :
    ∃ V, matrix_Inverse.f K (took (codec_Row.M k r) rows) = some (V, 0) ∧ rect k k V ∧ isM V ∧ (∀ i j, i < k → j < k → mm k (cell V) (cell (took (codec_Row.M k r) rows)) i j = dl i j) ∧ (∀ i j, i < k → j < k → mm k (cell (took (codec_Row.M k r) rows)) (cell V) i j = dl i j) := by
  obtain ⟨m, hm⟩ : ∃ m, m = took (codec_Row.M k r) rows := ⟨_, rfl⟩
  have rm : rect k k m := by rw [hm, ← hl]; have := took_rect (rows := rows) (allM_rect k r) hr; rw [hl] at this ⊢; exact this
  have bm : isM m := by rw [hm]; exact took_isM (allM_B h2 h4) rows
  have cm : ∀ i j, i < k → j < k → cell m i j = cell (codec_Row.M k r) (rd rows (i : Int)).toNat j := fun i j hi hj => by rw [hm, took_cell (by omega)]
  rw [← hm]
  clear hm
  obtain ⟨gm, lm, wm⟩ := good_of rm h1 (by omega) h1 (by omega)
  rcases inverse_f (k := K) (by omega) bm gm (by rw [lm, wm]) with ⟨r', q1, q2, q3⟩ | ⟨V, q1, q2, q3, q4, q5, q6⟩
  case inr =>
    rw [lm] at q2 q5 q6
    exact ⟨V, q1, q2, q3, q5, q6⟩
  exfalso
  rw [lm] at q1 q2
  have hfull : r' = k := Rk_full q2 fun c hc => by
    have hrow : ∀ e : Nat, (e : Int) ∈ rows → sn k (fun j => cell (codec_Row.M k r) e j * c j) = 0 := fun e he => by
      obtain ⟨i, hi, hie⟩ := List.getElem_of_mem he
      rw [← hc i (by omega)]
      refine sn_congr fun j hj => ?_
      rw [cm i j (by omega) hj]
      have : (rd rows (i : Int)).toNat = e := by rw [rd_lt hi, hie, Int.toNat_natCast]
      rw [this]
    have hlow : ∀ e, e < k → (e : Int) ∈ rows → c e = 0 := fun e he hm => by
      have := hrow e hm
      rw [sn_one he (fun j hj hne => by rw [cM_low h2 h4 he hj, dl_ne (fun z => hne z.symm), zero_mul]), cM_low h2 h4 he he, dl_same, one_mul] at this
      exact this
    have hpar : ∀ p, p < r → ((k + p : Nat) : Int) ∈ rows → sn k (fun j => c j * inv (toF ((k + p : Nat) : Int) + toF (j : Int))) = 0 := fun p hp hm => by
      rw [← hrow (k + p) hm]
      exact sn_congr fun j hj => by rw [cM_high h2 h4 hp hj, mul_comm]; rfl
    let P : Nat → Bool := fun j => decide ((j : Int) ∈ rows)
    let L := (List.range k).filter fun j => !P j
    let R := (List.range r).filter fun p => decide (((k + p : Nat) : Int) ∈ rows)
    have hLm : ∀ j, j ∈ L ↔ j < k ∧ ¬ (j : Int) ∈ rows := fun j => by simp [L, P]
    have hRm : ∀ p, p ∈ R ↔ p < r ∧ ((k + p : Nat) : Int) ∈ rows := fun p => by simp [R]
    have hlen : L.length ≤ R.length := by
      have e1 := len_filter P (List.range k)
      rw [List.length_range] at e1
      have e2 : rows.length ≤ (((List.range k).filter P).map (fun j : Nat => (j : Int)) ++ R.map (fun p => ((k + p : Nat) : Int))).length := by
        refine List.Nodup.length_le_of_subset hn fun x hx => ?_
        obtain ⟨hx0, hx1⟩ := hr x hx
        obtain ⟨e, rfl⟩ := Int.eq_ofNat_of_zero_le hx0
        by_cases he : e < k
        · refine List.mem_append.2 (.inl (List.mem_map.2 ⟨e, ?_, rfl⟩))
          simp [P, he, hx]
        · refine List.mem_append.2 (.inr (List.mem_map.2 ⟨e - k, (hRm _).2 ⟨by omega, ?_⟩, ?_⟩))
          · rw [show k + (e - k) = e by omega]; exact hx
          · rw [show k + (e - k) = e by omega]
      rw [List.length_append, List.length_map, List.length_map, hl] at e2
      show ((List.range k).filter fun j => !P j).length ≤ R.length
      omega
    have hz := cauchy (fun p => toF ((k + p : Nat) : Int)) (fun j => toF (j : Int)) L R c ((nd_rg k).filter _) ((nd_rg r).filter _) hlen
      (fun i hi q hq hne z => hne (by have := toF_nat_inj (by have := ((hRm i).1 hi).1; omega) (by have := ((hRm q).1 hq).1; omega) z; omega))
      (fun i hi q hq hne z => hne (toF_nat_inj (by have := ((hLm i).1 hi).1; omega) (by have := ((hLm q).1 hq).1; omega) z))
      (fun p hp j hj z => by have := toF_nat_inj (by have := ((hRm p).1 hp).1; omega) (by have := ((hLm j).1 hj).1; omega) (add_eq_zero z); have := ((hLm j).1 hj).1; omega)
      (fun p hp => by
        obtain ⟨hp1, hp2⟩ := (hRm p).1 hp
        have := hpar p hp1 hp2
        unfold sn at this
        rw [sm_filter P, sm_zero (l := (List.range k).filter P), zero_add] at this
        · exact this
        · intro j hj
          have hj1 : j < k ∧ (j : Int) ∈ rows := by simpa [P] using hj
          rw [hlow j hj1.1 hj1.2, zero_mul])
    intro j hj
    by_cases hm : (j : Int) ∈ rows
    · exact hlow j hj hm
    · exact hz j ((hLm j).2 ⟨hj, hm⟩)
  omega
/-! cells of rows -/
theorem mI_F {c x : Int} (hc : 0 ≤ c ∧ c < 256) (hx : 0 ≤ x ∧ x < 256) : mI c x = ofF (toF c * toF x) := by
  unfold mI ofF
  rw [v_mul, v_toF hc, v_toF hx]
theorem aI_F {x y : Int} (hx : 0 ≤ x ∧ x < 256) (hy : 0 ≤ y ∧ y < 256) : aI x y = ofF (toF x + toF y) := xor_v hx hy
theorem rd_zip {f : Int → Int → Int} {a b : List Int} {j : Nat} (ha : j < a.length) (hb : j < b.length) : rd (List.zipWith f a b) (j : Int) = f (rd a (j : Int)) (rd b (j : Int)) := by
  rw [rd_lt (by simp; omega), rd_lt ha, rd_lt hb, List.getElem_zipWith]
theorem addv_F {a b : List Int} {c : Int} (ha : isB a) (hb : isB b) (hc : 0 ≤ c ∧ c < 256) {j : Nat} (h1 : j < a.length) (h2 : j < b.length) : toF (rd (addv a c b) (j : Int)) = toF (rd a (j : Int)) + toF c * toF (rd b (j : Int)) := by
  unfold addv
  rw [rd_zip h1 h2, mI_F hc (rd_B hb j), aI_F (rd_B ha j) (ofF_rng _), toF_ofF, toF_ofF]
theorem dacc_F {n k : Nat} {row : List Int} {data : List (List Int)} (hr : isB row) (hd : isM data) (hl : row.length = k) (hdr : rect k n data) {j : Nat} (hj : j < n) :
    ∀ (d i : Nat) (acc : List Int), i + d = k → acc.length = n → isB acc → toF (rd (dacc acc (row.drop i) (data.drop i)) (j : Int)) = toF (rd acc (j : Int)) + sm (List.range' i d) (fun q => toF (rd row (q : Int)) * cell data q j)
  | 0, i, acc, hi, ha, hb => by
    rw [List.drop_of_length_le (by omega : row.length ≤ i), List.range'_zero, sm_nil, add_zero]; rfl
  | d + 1, i, acc, hi, ha, hb => by
    have h1 : i < row.length := by omega
    have h2 : i < data.length := by rw [hdr.1]; omega
    rw [List.drop_eq_getElem_cons h1, List.drop_eq_getElem_cons h2, dacc, List.range'_succ, sm_cons, ← add_assoc]
    have hlen : data[i].length = n := hdr.2 _ (List.getElem_mem _)
    have hB : isB data[i] := hd _ (List.getElem_mem _)
    rw [dacc_F hr hd hl hdr hj d (i + 1) _ (by omega) (by rw [addv_len _ (by omega)]; exact ha) (addv_B _ hb)]
    rw [addv_F hb hB (hr _ (List.getElem_mem _)) (by omega) (by omega)]
    unfold cell
    rw [rw_lt h2, rd_lt h1]
theorem dot_F {n k : Nat} {row : List Int} {data : List (List Int)} (hr : isB row) (hd : isM data) (hl : row.length = k) (hdr : rect k n data) {j : Nat} (hj : j < n) :
    toF (rd (dacc (List.replicate n 0) row data) (j : Int)) = sn k (fun q => toF (rd row (q : Int)) * cell data q j) := by
  have := dacc_F hr hd hl hdr hj k 0 (List.replicate n 0) (by omega) (by simp) (isB_rep n)
  rw [List.drop_zero, List.drop_zero, ← List.range_eq_range'] at this
  rw [this]
  have e : rd (List.replicate n 0) (j : Int) = 0 := by rw [rd_lt (by simpa using hj)]; simp
  rw [e, toF_zero, zero_add]
theorem coded_rect {n k : Nat} {rs data : List (List Int)} (hdr : rect k n data) : rect rs.length n (coded n rs data) := ⟨by simp [coded], fun y hy => by
  simp only [coded, List.mem_map] at hy
  obtain ⟨row, _, rfl⟩ := hy
  rw [dacc_len (fun b hb => by simp [hdr.2 b hb])]
  simp⟩
theorem coded_isM (n : Nat) (rs data : List (List Int)) : isM (coded n rs data) := fun y hy => by
  simp only [coded, List.mem_map] at hy
  obtain ⟨row, _, rfl⟩ := hy
  exact dacc_B (isB_rep n)
theorem coded_cell {n m k : Nat} {rs data : List (List Int)} (hR : isM rs) (hrr : rect m k rs) (hd : isM data) (hdr : rect k n data) {i j : Nat} (hi : i < m) (hj : j < n) : cell (coded n rs data) i j = mm k (cell rs) (cell data) i j := by
  have e : rw_ (coded n rs data) i = dacc (List.replicate n 0) (rw_ rs i) data := by
    rw [rw_lt (by rw [(coded_rect hdr).1, hrr.1]; exact hi), rw_lt (by rw [hrr.1]; exact hi)]
    simp [coded]
  have : cell (coded n rs data) i j = toF (rd (dacc (List.replicate n 0) (rw_ rs i) data) (j : Int)) := by unfold cell; rw [e]
  rw [this, dot_F (rw_B hR i) hd (rect_row hrr hi) hdr hj]
  rfl
/-- the cells of all rows: the data, and the parity behind them -/
theorem coded_low {n k r : Nat} (hk : k ≤ 12) (hr : r ≤ 4) {data : List (List Int)} (hd : isM data) (hdr : rect k n data) : coded n ((codec_Row.M k r).take k) data = data := by
  have hR : isM ((codec_Row.M k r).take k) := fun x hx => allM_B hk hr x (List.mem_of_mem_take hx)
  have hrr : rect k k ((codec_Row.M k r).take k) := ⟨by rw [List.length_take, (allM_rect k r).1]; omega, fun x hx => (allM_rect k r).2 x (List.mem_of_mem_take hx)⟩
  have h1 : rect k n (coded n ((codec_Row.M k r).take k) data) := by have := coded_rect (rs := (codec_Row.M k r).take k) hdr; rwa [hrr.1] at this
  refine ext_cell h1 hdr (coded_isM _ _ _) hd fun i j hi hj => ?_
  rw [coded_cell hR hrr hd hdr hi hj]
  have e : ∀ q, q < k → cell ((codec_Row.M k r).take k) i q = dl i q := fun q hq => by
    have : rw_ ((codec_Row.M k r).take k) i = rw_ (codec_Row.M k r) i := by
      rw [rw_lt (by rw [hrr.1]; exact hi), rw_lt (by rw [(allM_rect k r).1]; omega), List.getElem_take]
    have h : cell ((codec_Row.M k r).take k) i q = cell (codec_Row.M k r) i q := by unfold cell; rw [this]
    rw [h, cM_low hk hr hi hq]
  rw [mm_congr (B' := cell data) e (fun _ _ => rfl), dl_mm _ hi]
theorem coded_all {n k r : Nat} (hk : k ≤ 12) (hr : r ≤ 4) {data : List (List Int)} (hd : isM data) (hdr : rect k n data) : coded n (codec_Row.M k r) data = data ++ coded n ((codec_Row.M k r).drop k) data := by
  have : coded n (codec_Row.M k r) data = coded n ((codec_Row.M k r).take k) data ++ coded n ((codec_Row.M k r).drop k) data := by
    unfold coded
    rw [← List.map_append, List.take_append_drop]
  rw [this, coded_low hk hr hd hdr]
/-- what is decoded: all rows' cells, of which the taken ones are as they were -/
theorem decoded {n k r : Nat} (h1 : 1 ≤ k) (hk : k ≤ 12) (hr : r ≤ 4) {rows : List Int} (hl : rows.length = k) (hrg : ∀ x ∈ rows, 0 ≤ x ∧ x < (k + r : Nat)) {V FF : List (List Int)} (hV : rect k k V) (bV : isM V) (hF : rect k n FF) (bF : isM FF)
    (hAV : ∀ i j, i < k → j < k → mm k (cell (took (codec_Row.M k r) rows)) (cell V) i j = dl i j) {i : Nat} (hi : i < k) :
    rw_ (coded n (codec_Row.M k r) (coded n V FF)) (rd rows (i : Int)).toNat = rw_ FF i := by
  have hD : rect k n (coded n V FF) := by have := coded_rect (rs := V) hF; rwa [hV.1] at this
  have bD := coded_isM n V FF
  have hMr := allM_rect k r
  have hMb := allM_B hk hr
  have hT : rect k k (took (codec_Row.M k r) rows) := by have := took_rect (rows := rows) hMr hrg; rwa [hl] at this
  have hx := hrg _ (show rd rows (i : Int) ∈ rows by rw [rd_lt (by omega)]; exact List.getElem_mem _)
  have hxl : (rd rows (i : Int)).toNat < k + r := by omega
  have hC : rect (k + r) n (coded n (codec_Row.M k r) (coded n V FF)) := by have := coded_rect (rs := codec_Row.M k r) hD; rwa [hMr.1] at this
  refine ext_rd ((rect_row hC hxl).trans (rect_row hF hi).symm) fun j hj => ?_
  rw [rect_row hC hxl] at hj
  rw [cell_rd (coded_isM _ _ _), cell_rd bF]
  congr 1
  rw [coded_cell hMb hMr bD hD hxl hj]
  have e1 : mm k (cell (codec_Row.M k r)) (cell (coded n V FF)) (rd rows (i : Int)).toNat j = mm k (cell (took (codec_Row.M k r) rows)) (mm k (cell V) (cell FF)) i j :=
    sn_congr fun q hq => by rw [took_cell (by omega), coded_cell bV hV bF hF hq hj]
  rw [e1, ← mm_assoc]
  have e2 : mm k (mm k (cell (took (codec_Row.M k r) rows)) (cell V)) (cell FF) i j = mm k dl (cell FF) i j := mm_congr (fun q hq => hAV i q hi hq) (fun _ _ => rfl)
  rw [e2, dl_mm _ hi]
/-- cells that were made of data come to the data -/
theorem undone {n k r : Nat} (h1 : 1 ≤ k) (hk : k ≤ 12) (hr : r ≤ 4) {rows : List Int} (hl : rows.length = k) (hrg : ∀ x ∈ rows, 0 ≤ x ∧ x < (k + r : Nat)) {V FF data : List (List Int)} (hV : rect k k V) (bV : isM V) (hF : rect k n FF) (bF : isM FF) (hd : isM data) (hdr : rect k n data)
    (hVA : ∀ i j, i < k → j < k → mm k (cell V) (cell (took (codec_Row.M k r) rows)) i j = dl i j) (hFF : ∀ i, i < k → rw_ FF i = rw_ (coded n (codec_Row.M k r) data) (rd rows (i : Int)).toNat) : coded n V FF = data := by
  have hD : rect k n (coded n V FF) := by have := coded_rect (rs := V) hF; rwa [hV.1] at this
  have hMr := allM_rect k r
  have hMb := allM_B hk hr
  refine ext_cell hD hdr (coded_isM _ _ _) hd fun i j hi hj => ?_
  rw [coded_cell bV hV bF hF hi hj]
  have e1 : mm k (cell V) (cell FF) i j = mm k (cell V) (mm k (cell (took (codec_Row.M k r) rows)) (cell data)) i j := by
    refine mm_congr (fun _ _ => rfl) fun q hq => ?_
    have hx := hrg _ (show rd rows (q : Int) ∈ rows by rw [rd_lt (by omega)]; exact List.getElem_mem _)
    have e : cell FF q j = cell (coded n (codec_Row.M k r) data) (rd rows (q : Int)).toNat j := by unfold cell; rw [hFF q hq]
    rw [e, coded_cell hMb hMr hd hdr (by omega) hj]
    exact sn_congr fun p _ => by rw [took_cell (by omega)]
  rw [e1, ← mm_assoc]
  have e2 : mm k (mm k (cell V) (cell (took (codec_Row.M k r) rows))) (cell data) i j = mm k dl (cell data) i j := mm_congr (fun q hq => hVA i q hi hq) (fun _ _ => rfl)
  rw [e2, dl_mm _ hi]
end Go.Proofs.Ythhncoogmncdkaa.Pure
-- written by the session's own program (wip/prt.py) over the kit's print: not print.sh's own text
namespace Go.Proofs.Ythhncoogmncdkaa.PA
open Go.RowKit Go.Proofs.YthhncoogmncdkaaW.PrintWords Go.Proofs.YthhncoogmncdkaaW.PrintLast Go.Proofs.YthhncoogmncdkaaW.PrintMore
attribute [local go_sem] max2_int min2_int max_two min_two max_three min_three max_four min_four   -- for this text's walks alone
set_option linter.unusedVariables false
set_option linter.unusedSimpArgs false

/-! ### codec_Verify: function 11 -/
theorem codec_Verify.dlen (K : Nat) : ∀ (rs data out r1 : List (List Int)) (r2 : Int), codec_Encode.dots K rs data out = some (r1, r2) → r1.length ≤ out.length + rs.length
  | [], data, out, r1, r2, h => by
    rw [codec_Encode.dots] at h
    injection h with h; injection h with h1 h2; subst h1; simp
  | row :: rs, data, out, r1, r2, h => by
    rw [codec_Encode.dots] at h
    obtain ⟨c, _, h⟩ := Option.bind_eq_some_iff.mp h
    by_cases e : c.2 ≠ 0
    · rw [if_pos e] at h
      injection h with h; injection h with h1 h2; subst h1; simp
    · rw [if_neg e] at h
      have := codec_Verify.dlen K rs data _ r1 r2 h
      simp at this ⊢
      omega
/-- rows, compared as texts -/
def codec_Verify.eq : List (List Int) → List (List Int) → Bool
  | [], [] => true
  | x :: xs, y :: ys => if bytes_Equal.f x y = some true then codec_Verify.eq xs ys else false
  | _, _ => false
def codec_Verify.f (K : Nat) (a0 a1 : Int) (cells : List (List Int)) : Option (Bool × Int) :=
  if codec_Row.bad a0 a1 then some (false, 2) else if codec_Row.inv a0 a1 then (codec_there.f K cells (a0 + a1)).bind fun t => if t.2 = false then some (false, 40) else if (t.1.length : Int) < a0 + a1 then some (false, 40) else if (cells.length : Int) = a0 + a1 then (codec_Encode.dots K ((codec_Row.M a0.toNat a1.toNat).drop a0.toNat) (cells.take a0.toNat) []).bind fun p => some (codec_Verify.eq p.1 (cells.drop a0.toNat), p.2) else none else none
theorem codec_Verify.mono : ∀ a0 a1 a2 k, LeO (codec_Verify.f k a0 a1 a2) (codec_Verify.f (k + 1) a0 a1 a2) := fun _ _ _ _ => LeO.ite (LeO.refl _) (LeO.ite (LeO.bind (codec_there.mono _ _ _) (fun _ => LeO.ite (LeO.refl _) (LeO.ite (LeO.refl _) (LeO.ite (LeO.bind (codec_Encode.dots_mono _ _ _) (fun _ => LeO.refl _)) (LeO.refl _))))) (LeO.refl _))
theorem codec_Verify.eq_len : ∀ (p q : List (List Int)), p.length ≠ q.length → codec_Verify.eq p q = false
  | [], [], h => absurd rfl h
  | [], _ :: _, _ => rfl
  | _ :: _, [], _ => rfl
  | x :: xs, y :: ys, h => by
    unfold codec_Verify.eq
    rw [codec_Verify.eq_len xs ys (by simpa using h)]
    split <;> rfl
theorem codec_Verify.eq_drop {p q : List (List Int)} {n : Nat} (h : n < p.length) (h' : n < q.length) : codec_Verify.eq (p.drop n) (q.drop n) = if bytes_Equal.f (rd_L1 p (n : Int)) (rd_L1 q (n : Int)) = some true then codec_Verify.eq (p.drop (n + 1)) (q.drop (n + 1)) else false := by
  rw [List.drop_eq_getElem_cons h, List.drop_eq_getElem_cons h', codec_Verify.eq]
  have e1 : rd_L1 p (n : Int) = p[n] := by simp [rd_L1, h]
  have e2 : rd_L1 q (n : Int) = q[n] := by simp [rd_L1, h']
  rw [e1, e2]
set_option maxHeartbeats 400000 in
theorem codec_Verify.equal (A B : Option Addr) (ca cb : Nat) (p q : List (List Int)) (w : World) (hp : Kd.C (Kd.slice 5 (Kd.int .u8)) w A p.length p) (hq : Kd.C (Kd.slice 5 (Kd.int .u8)) w B q.length q) (hl : p.length ≤ 1000) :
    Calls Try.prog 27 #[.slice A p.length ca, .slice B q.length cb, .func (.func 28) #[] #[]] w fun e w' => e = .returned (.bool (codec_Verify.eq p q)) ∧ Below w.heap.size w w' := by
  have HP := Lib.hid hp
  have HQ := Lib.hid hq
  have HL := Lib.hid hl
  clear hp hq hl
  by_cases hne : (p.length : Int) = (q.length : Int)
  case neg =>
    have e1 : ((p.length : Int) != (q.length : Int)) = true := bne_iff_ne.mpr hne
    have HE := Lib.hid (codec_Verify.eq_len p q (fun z => hne (by rw [z])))
    clear hne
    go_enter Try.func27, Try.ntmps27
    go_wp2_with fail
    go_ret
    exact ⟨by rw [HE.out]; rfl, Below.refl _ _⟩
  have e1 : ((p.length : Int) != (q.length : Int)) = false := bne_eq_false_iff_eq.mpr hne
  have HLE := Lib.hid (show p.length = q.length by omega)
  clear hne
  go_enter Try.func27, Try.ntmps27
  go_wp2_with fail
  go_loopg [7, 8, 9, 17] p.length (fun g s7 s8 s9 s17 wx => ∃ n : Nat, n + g = p.length ∧ s17 = .int .i64 n ∧ Aside0 (codec_Verify.eq p q = codec_Verify.eq (p.drop n) (q.drop n)) ∧ Aside0 (Below w.heap.size w wx))
  case atStart => exact ⟨0, by omega, rfl, ⟨rfl⟩, ⟨Below.refl _ _⟩⟩
  case round =>
    obtain ⟨n, hng, rfl, HI, HB⟩ := hrel
    cases gk with
    | zero =>
      obtain rfl : n = p.length := by omega
      have HE := Lib.hid (show codec_Verify.eq p q = true by rw [HI.out, List.drop_length, HLE.out, List.drop_length]; rfl)
      go_wp2_with fail
      go_ret
      exact ⟨by rw [HE.out]; rfl, HB.out⟩
    | succ g =>
      have hn : n < p.length := by omega
      have hn1 : (n : Int) < (p.length : Int) := by omega
      have hn2 : (n : Int) < (q.length : Int) := by have := HLE.out; omega
      obtain ⟨ad, A1, c1, rA, hx, hxl, hxr⟩ := at_L1 (Kd.C_below HP.out HB.out) (n : Int) (by omega) hn1
      subst rA
      obtain ⟨bd, B1, d1, rB, hy, hyl, hyr⟩ := at_L1 (Kd.C_below HQ.out HB.out) (n : Int) (by omega) hn2
      subst rB
      rw [Int.toNat_natCast] at hx hy
      have hd := codec_Verify.eq_drop (p := p) (q := q) hn (by have := HLE.out; omega)
      obtain ⟨b, hb⟩ : ∃ b, bytes_Equal.f (rd_L1 p (n : Int)) (rd_L1 q (n : Int)) = some b := ⟨_, rfl⟩
      rw [hb] at hd
      have HD := Lib.hid hd
      have HBE := Lib.hid hb
      have HXL := Lib.hid hxl
      have HXR := Lib.hid hxr
      have HYL := Lib.hid hyl
      have HYR := Lib.hid hyr
      have HN := Lib.hid (show n + 1 ≤ 1000 by have := HL.out; omega)
      clear hd hb hxl hxr hyl hyr
      go_wp2_with fail
      refine (bytes_Equal.calls A1 c1 _ B1 d1 _ b _ HXR.out HXL.out HYR.out HYL.out HBE.out).mono ?_
      rintro en w1 ⟨rfl, n_, hw_⟩
      have hb2 : Below (World.heap wr).size wr w1 := by rw [hw_]; exact pw_below_drewN (Below.refl _ _) n_
      clear hw_
      have HB1 := Lib.hid (below_step HB.out hb2)
      clear hb2 hx hy
      cases b with
      | false =>
        have HE := Lib.hid (show codec_Verify.eq p q = false by rw [HI.out, HD.out]; rfl)
        go_wp2_with fail
        go_ret
        exact ⟨by rw [HE.out]; rfl, HB1.out⟩
      | true =>
        have HE := Lib.hid (show codec_Verify.eq p q = codec_Verify.eq (p.drop (n + 1)) (q.drop (n + 1)) by rw [HI.out, HD.out]; rfl)
        go_wp2_with fail
        go_roundg g
        case measure => omega
        case rel => exact ⟨n + 1, by omega, by have := HN.out; rw [show wrap64 ((n : Int) + 1) = ((n + 1 : Nat) : Int) by unfold wrap64; omega], ⟨HE.out⟩, ⟨HB1.out⟩⟩
theorem codec_Verify.i2 : (Try.prog.info? 23).map (fun i => (i.zero, i.size, i.bytes)) = some (some (.slice none 0 0), 1, 24) := by kernel_rfl
set_option maxHeartbeats 4000000 in
theorem codec_Verify.calls (k : Nat) (a0 a1 : Int) (A2 : Option Addr) (c2 : Nat) (l2 : List (List Int)) (r1 : Bool) (r2 : Int) (w : World) (hr2 : Kd.C (Kd.slice 5 (Kd.int .u8)) w A2 l2.length l2) (hc2 : l2.length ≤ c2) (h : codec_Verify.f k a0 a1 l2 = some (r1, r2)) :
    Calls Try.prog 11 #[.int .i64 a0, .int .i64 a1, .slice A2 l2.length c2] w fun e w' => e = .returned (.tuple #[.bool r1, .int .i64 r2]) ∧ Below w.heap.size w w' := by
  unfold codec_Verify.f at h
  have HR2 := Lib.hid hr2
  have HC2 := Lib.hid hc2
  clear hr2 hc2
  by_cases hbad : codec_Row.bad a0 a1
  case pos =>
    rw [if_pos hbad] at h
    injection h with h; injection h with ha hc; subst ha hc
    have HBAD := Lib.hid hbad
    clear hbad
    go_enter Try.func11, Try.ntmps11
    go_wp2_with fail
    refine (codec_Row.bad1 a0 a1 HBAD.out _).mono ?_
    rintro e w1 ⟨rfl, rfl⟩
    have heq := map_eql_nil none w
    go_wp2_with fail
    go_ret2
    exact ⟨rfl, Below.refl _ _⟩
  rw [if_neg hbad] at h
  by_cases hinv : codec_Row.inv a0 a1
  case neg => rw [if_neg hinv] at h; cases h
  rw [if_pos hinv] at h
  unfold codec_Row.bad at hbad
  obtain ⟨n, rfl⟩ := Int.eq_ofNat_of_zero_le (show 0 ≤ a0 by omega)
  obtain ⟨m, rfl⟩ := Int.eq_ofNat_of_zero_le (show 0 ≤ a1 by omega)
  simp only [Int.toNat_natCast] at h
  have hk0 : 1 ≤ n := by omega
  have hk : n ≤ 12 := by omega
  have hr : m ≤ 4 := by omega
  obtain ⟨⟨tl, tb⟩, hth, h⟩ := Option.bind_eq_some_iff.mp h
  have HI := Lib.hid hinv
  have HK0 := Lib.hid hk0
  have HK := Lib.hid hk
  have HR := Lib.hid hr
  have HTH := Lib.hid hth
  have H := Lib.hid h
  clear hbad hinv hk0 hk hr hth h
  go_enter Try.func11, Try.ntmps11
  go_wp2_with fail
  refine (codec_Row.made n m HK0.out HK.out HR.out HI.out _).mono ?_
  rintro e w1 ⟨g, val, rfl, hmp, hrow, hb⟩
  have heq := map_eql_nil (some g) w1
  have HB := Lib.hid hb
  have HMP := Lib.hid hmp
  have HRW := Lib.hid (fun i (hi : i < n + m) => RowC.of_R (hrow i hi))
  clear hmp hrow hb
  have hb1 : (n : Int) ≤ 12 := by have := HK.out; omega
  have hb2 : (m : Int) ≤ 4 := by have := HR.out; omega
  go_wp2_with fail
  refine (codec_there.calls k A2 c2 l2 ((n : Int) + (m : Int)) tl tb _ (Kd.C_below HR2.out HB.out) HC2.out HTH.out).mono ?_
  rintro e w2 ⟨v2, rfl, ho, hb⟩
  obtain ⟨At, ct, rfl⟩ := Kd.R_slice ho
  replace HMP := Lib.hid (HMP.out.below hb)
  replace HRW := Lib.hid (fun i (hi : i < n + m) => (HRW.out i hi).below hb)
  replace HB := Lib.hid (below_step HB.out hb)
  clear ho hb HTH heq
  have h := H.out
  try dsimp only at h
  cases tb with
  | false =>
    rw [if_pos rfl] at h
    injection h with h; injection h with ha hc; subst ha hc
    clear H
    go_wp2_with fail
    go_ret2
    exact ⟨rfl, HB.out⟩
  | true =>
    rw [if_neg (by decide)] at h
    by_cases hlt : (tl.length : Int) < (n : Int) + (m : Int)
    case pos =>
      rw [if_pos hlt] at h
      injection h with h; injection h with ha hc; subst ha hc
      have hd : decide ((tl.length : Int) < (n : Int) + (m : Int)) = true := decide_eq_true hlt
      clear H
      go_wp2_with fail
      go_ret2
      exact ⟨rfl, HB.out⟩
    rw [if_neg hlt] at h
    by_cases hlen : (l2.length : Int) = (n : Int) + (m : Int)
    case neg => rw [if_neg hlen] at h; cases h
    rw [if_pos hlen] at h
    have hd : decide ((tl.length : Int) < (n : Int) + (m : Int)) = false := decide_eq_false hlt
    obtain ⟨⟨p, pe⟩, hdots, h⟩ := Option.bind_eq_some_iff.mp h
    have HD := Lib.hid hdots
    have HLN := Lib.hid (show l2.length = n + m by omega)
    injection h with h; injection h with ha hc; subst hc
    have HA := Lib.hid (show codec_Verify.eq p (l2.drop n) = r1 from ha)
    obtain ⟨i0, hi0, hz⟩ := Option.map_eq_some_iff.1 codec_Verify.i2
    simp only [Prod.mk.injEq] at hz
    have hct := fun (W : World) => cut_to (P := Try.prog) 24 23 .i64 Try.underlying24 hi0 A2 l2.length c2 (n : Int) (by omega) (by omega) HC2.out W
    have hcf := fun (W : World) => cut_from (P := Try.prog) 24 23 .i64 Try.underlying24 hi0 1 hz.2.1 A2 l2.length c2 (n : Int) (by omega) (by omega) W
    simp only [Int.toNat_natCast] at hct hcf
    have ht1 : (l2.take n).length = n := by rw [List.length_take]; omega
    have ht2 : (l2.drop n).length = l2.length - n := List.length_drop
    have HT := Lib.hid (show Kd.C (Kd.slice 5 (Kd.int .u8)) w A2 (l2.take n).length (l2.take n) from Kd.C_take HR2.out (by omega))
    have HDR := Lib.hid (show Kd.C (Kd.slice 5 (Kd.int .u8)) w (if c2 = n then A2 else A2.map (·.add (n * 1))) (l2.drop n).length (l2.drop n) from Kd.C_drop HR2.out (by omega) HC2.out)
    generalize (if c2 = n then A2 else A2.map (·.add (n * 1))) = A3 at hcf HDR
    rw [← ht2] at hcf
    rw [← ht1] at hct
    have HNC := Lib.hid (show (l2.take n).length ≤ c2 by have := HC2.out; omega)
    generalize l2.take n = T at *
    generalize l2.drop n = D at *
    have hcut1 := funext hct
    have hcut2 := funext hcf
    subst ht1
    clear H hlt hlen hi0 hz hct hcf ht2 hdots ha
    go_wp2_with fail
    refine (codec_Encode.cells k T.length m HK.out HR.out g val A2 c2 T p pe _ HMP.out HRW.out (Kd.C_below HT.out HB.out) HNC.out HD.out).mono ?_
    rintro e w3 ⟨v3, rfl, ho, hb⟩
    obtain ⟨Ap, cp, rfl⟩ := Kd.S_slice ho
    have HP := Lib.hid (Kd.S_reads' ho).2.2
    have HPL := Lib.hid (show p.length ≤ 1000 by
      have h := codec_Verify.dlen _ _ _ _ _ _ HD.out
      have := HR.out
      rw [List.length_drop, codec_Row.M_len] at h
      simp at h
      omega)
    have HB3 := Lib.hid (below_step HB.out hb)
    clear ho hb
    go_wp2_with fail
    refine (codec_Verify.equal Ap A3 cp (c2 - T.length) p D _ HP.out (Kd.C_below HDR.out HB3.out) HPL.out).mono ?_
    rintro e w4 ⟨rfl, hb⟩
    have HB4 := Lib.hid (below_step HB3.out hb)
    clear hb
    go_wp2_with fail
    go_ret2
    exact ⟨by rw [← HA.out]; rfl, HB4.out⟩

end Go.Proofs.Ythhncoogmncdkaa.PA
-- written by the session's own program (wip/prt.py) over the kit's print: not print.sh's own text
namespace Go.Proofs.Ythhncoogmncdkaa.PA
open Go.RowKit Go.Proofs.YthhncoogmncdkaaW.PrintWords Go.Proofs.YthhncoogmncdkaaW.PrintLast Go.Proofs.YthhncoogmncdkaaW.PrintMore
attribute [local go_sem] max2_int min2_int max_two min_two max_three min_three max_four min_four   -- for this text's walks alone
set_option linter.unusedVariables false
set_option linter.unusedSimpArgs false

/-! ### codec_Decode: function 10 -/
theorem codec_Decode.i3 : (Try.prog.info? 3).map (fun i => (i.zero, i.size, i.bytes)) = some (some (.int .i64 0), 1, 8) := by kernel_rfl
theorem codec_Decode.i2 : (Try.prog.info? 23).map (fun i => (i.zero, i.size, i.bytes)) = some (some (.slice none 0 0), 1, 24) := by kernel_rfl
def codec_Decode.ok (n m : Nat) (cells : List (List Int)) (at_ : List Int) : Prop := cells.length = n + m ∧ ∀ x ∈ at_, 0 ≤ x ∧ x < ((n + m : Nat) : Int)
instance codec_Decode.okDec (n m : Nat) (cells : List (List Int)) (at_ : List Int) : Decidable (codec_Decode.ok n m cells at_) := by unfold codec_Decode.ok; infer_instance
/-- behind the counting -/
def codec_Decode.go (K n m : Nat) (cells : List (List Int)) (at_ : List Int) : Option (List (List Int) × Int) :=
  if codec_Decode.ok n m cells at_ then (matrix_Inverse.f K (at_.map fun x => rw_ (codec_Row.M n m) x.toNat)).bind fun b => if b.2 ≠ 0 then some ([], b.2) else if b.1.length ≤ 100 then (codec_Encode.dots K b.1 (at_.map fun x => rd_L1 cells x) []).bind fun d => if d.2 ≠ 0 then some ([], d.2) else (codec_Encode.dots K ((codec_Row.M n m).drop n) d.1 []).bind fun p => some (d.1 ++ p.1, p.2) else none else none
def codec_Decode.f (K : Nat) (a0 a1 : Int) (cells : List (List Int)) : Option (List (List Int) × Int) :=
  if codec_Row.bad a0 a1 then some ([], 2) else if codec_Row.inv a0 a1 then (codec_there.f K cells (a0 + a1)).bind fun t => if t.2 = false then some ([], 40) else if (t.1.length : Int) < a0 then some ([], 5) else codec_Decode.go K a0.toNat a1.toNat cells (t.1.take a0.toNat) else none
theorem codec_Decode.go_mono {K n m : Nat} {cells : List (List Int)} {at_ : List Int} : LeO (codec_Decode.go K n m cells at_) (codec_Decode.go (K + 1) n m cells at_) :=
  LeO.ite (LeO.bind (matrix_Inverse.mono _ _) (fun _ => LeO.ite (LeO.refl _) (LeO.ite (LeO.bind (codec_Encode.dots_mono _ _ _) (fun _ => LeO.ite (LeO.refl _) (LeO.bind (codec_Encode.dots_mono _ _ _) (fun _ => LeO.refl _)))) (LeO.refl _)))) (LeO.refl _)
theorem codec_Decode.mono : ∀ a0 a1 a2 k, LeO (codec_Decode.f k a0 a1 a2) (codec_Decode.f (k + 1) a0 a1 a2) := fun _ _ _ _ => LeO.ite (LeO.refl _) (LeO.ite (LeO.bind (codec_there.mono _ _ _) (fun _ => LeO.ite (LeO.refl _) (LeO.ite (LeO.refl _) codec_Decode.go_mono))) (LeO.refl _))
set_option maxHeartbeats 8000000 in
theorem codec_Decode.calls (k : Nat) (a0 a1 : Int) (A2 : Option Addr) (c2 : Nat) (l2 : List (List Int)) (r1 : List (List Int)) (r2 : Int) (w : World) (hr2 : Kd.C (Kd.slice 5 (Kd.int .u8)) w A2 l2.length l2) (hc2 : l2.length ≤ c2) (h : codec_Decode.f k a0 a1 l2 = some (r1, r2)) :
    Calls Try.prog 10 #[.int .i64 a0, .int .i64 a1, .slice A2 l2.length c2] w fun e w' => ∃ v0_ : Value, e = .returned (.tuple #[v0_, .int .i64 r2]) ∧ Kd.N (Kd.slice 5 (Kd.int .u8)) 23 w' w.heap.size (fun k_ => w.heap.size ≤ k_) v0_ r1 ∧ Below w.heap.size w w' := by
  unfold codec_Decode.f at h
  have HR2 := Lib.hid hr2
  have HC2 := Lib.hid hc2
  clear hr2 hc2
  by_cases hbad : codec_Row.bad a0 a1
  case pos =>
    rw [if_pos hbad] at h
    injection h with h; injection h with ha hc; subst ha hc
    have HBAD := Lib.hid hbad
    clear hbad
    go_enter Try.func10, Try.ntmps10
    go_wp2_with fail
    refine (codec_Row.bad1 a0 a1 HBAD.out _).mono ?_
    rintro e w1 ⟨rfl, rfl⟩
    have heq := map_eql_nil none w
    go_wp2_with fail
    go_ret2
    exact ⟨_, rfl, Kd.N_nil _ _ _ _ _, Below.refl _ _⟩
  rw [if_neg hbad] at h
  by_cases hinv : codec_Row.inv a0 a1
  case neg => rw [if_neg hinv] at h; cases h
  rw [if_pos hinv] at h
  unfold codec_Row.bad at hbad
  obtain ⟨n, rfl⟩ := Int.eq_ofNat_of_zero_le (show 0 ≤ a0 by omega)
  obtain ⟨m, rfl⟩ := Int.eq_ofNat_of_zero_le (show 0 ≤ a1 by omega)
  simp only [Int.toNat_natCast] at h
  have hk0 : 1 ≤ n := by omega
  have hk : n ≤ 12 := by omega
  have hr : m ≤ 4 := by omega
  obtain ⟨⟨tl, tb⟩, hth, h⟩ := Option.bind_eq_some_iff.mp h
  have HI := Lib.hid hinv
  have HK0 := Lib.hid hk0
  have HK := Lib.hid hk
  have HR := Lib.hid hr
  have HTH := Lib.hid hth
  have H := Lib.hid h
  clear hbad hinv hk0 hk hr hth h
  go_enter Try.func10, Try.ntmps10
  go_wp2_with fail
  refine (codec_Row.made n m HK0.out HK.out HR.out HI.out _).mono ?_
  rintro e w1 ⟨g, val, rfl, hmp, hrow, hb⟩
  have heq := map_eql_nil (some g) w1
  have HB := Lib.hid hb
  have HMP := Lib.hid hmp
  have HRW := Lib.hid (fun i (hi : i < n + m) => RowC.of_R (hrow i hi))
  clear hmp hrow hb
  have hb1 : (n : Int) ≤ 12 := by have := HK.out; omega
  have hb2 : (m : Int) ≤ 4 := by have := HR.out; omega
  go_wp2_with fail
  refine (codec_there.calls k A2 c2 l2 ((n : Int) + (m : Int)) tl tb _ (Kd.C_below HR2.out HB.out) HC2.out HTH.out).mono ?_
  rintro e w2 ⟨v2, rfl, ho, hb⟩
  obtain ⟨At, ct, rfl⟩ := Kd.R_slice ho
  replace HMP := Lib.hid (HMP.out.below hb)
  replace HRW := Lib.hid (fun i (hi : i < n + m) => (HRW.out i hi).below hb)
  replace HB := Lib.hid (below_step HB.out hb)
  have HAT := Lib.hid (Kd.R_reads' ho).2.2
  have HATL := Lib.hid (Kd.R_reads' ho).2.1
  clear ho hb HTH heq
  have h := H.out
  try dsimp only at h
  cases tb with
  | false =>
    rw [if_pos rfl] at h
    injection h with h; injection h with ha hc; subst ha hc
    clear H
    go_wp2_with fail
    go_ret2
    exact ⟨_, rfl, Kd.N_nil _ _ _ _ _, HB.out⟩
  | true =>
    rw [if_neg (by decide)] at h
    by_cases hlt : (tl.length : Int) < (n : Int)
    case pos =>
      rw [if_pos hlt] at h
      injection h with h; injection h with ha hc; subst ha hc
      have hd : decide ((tl.length : Int) < (n : Int)) = true := decide_eq_true hlt
      clear H
      go_wp2_with fail
      go_ret2
      exact ⟨_, rfl, Kd.N_nil _ _ _ _ _, HB.out⟩
    rw [if_neg hlt] at h
    have hd : decide ((tl.length : Int) < (n : Int)) = false := decide_eq_false hlt
    unfold codec_Decode.go at h
    by_cases hok : codec_Decode.ok n m l2 (tl.take n)
    case neg => rw [if_neg hok] at h; cases h
    rw [if_pos hok] at h
    obtain ⟨hcl, hck⟩ := hok
    obtain ⟨i0, hi0, hz⟩ := Option.map_eq_some_iff.1 codec_Decode.i3
    have ht1 : (tl.take n).length = n := by rw [List.length_take]; omega
    have hct := fun (W : World) => cut_to (P := Try.prog) 37 3 .i64 Try.underlying37 hi0 At tl.length ct (n : Int) (by omega) (by omega) HATL.out W
    simp only [Int.toNat_natCast] at hct
    have hcut := funext hct
    have HT := Lib.hid (show Kd.C (Kd.int .i64) w2 At (tl.take n).length (tl.take n) from Kd.C_take HAT.out (by omega))
    have H2 := Lib.hid h
    clear h H hct hi0 hz
    generalize hTT : tl.take n = T at *
    have HTL := Lib.hid ht1
    have HCK := Lib.hid hck
    have HCL := Lib.hid hcl
    have hd2 : decide (tl.length < n) = false := decide_eq_false (by omega)
    clear hTT ht1 hck hcl hlt HAT HATL
    go_wp2_with fail
    go_loopg [11, 12, 14, 46] n (fun gk s11 s12 s14 s46 wx => ∃ (i : Nat) (vs1 vs2 : List Value), i + gk = n ∧ s46 = .int .i64 i ∧ Hid (RowsC w2 vs1 ((T.take i).map fun x => rw_ (codec_Row.M n m) x.toNat)) ∧ Hid (RowsC w2 vs2 ((T.take i).map fun x => rd_L1 l2 x)) ∧ Hid (Kd.R (Kd.raw 1) 23 wx w2.heap.size (fun _ => True) s11 (vs1.map fun v => [v])) ∧ Hid (Kd.R (Kd.raw 1) 23 wx w2.heap.size (fun _ => True) s12 (vs2.map fun v => [v])) ∧ Hid (∀ k, s11.ownBlock = some k → s12.ownBlock = some k → False) ∧ Hid (Below w2.heap.size w2 wx))
    case atStart => exact ⟨0, [], [], by omega, rfl, Lib.hid (RowsC.nil _), Lib.hid (RowsC.nil _), Lib.hid (Kd.R_nil _ _ _ _ _), Lib.hid (Kd.R_nil _ _ _ _ _), Lib.hid (fun k h => by simp [Value.ownBlock] at h), Lib.hid (Below.refl _ _)⟩
    case round =>
      obtain ⟨i, vs1, vs2, hig, rfl, HR1, HR3, HO1, HO3, HDJ, HB2⟩ := hrel
      cases gk with
      | zero =>
        obtain rfl : i = n := by omega
        have htt : T.take i = T := by rw [List.take_of_length_le]; rw [HTL.out]; exact Nat.le_refl _
        rw [htt] at HR1 HR3
        obtain ⟨Am, cm, rfl, hm1, hm2⟩ := RowsC.of_raw HO1.out (HR1.out.below HB2.out)
        obtain ⟨Af, cf, rfl, hf1, hf2⟩ := RowsC.of_raw HO3.out (HR3.out.below HB2.out)
        have HLM : (T.map fun x => rw_ (codec_Row.M i m) x.toNat).length = i := by rw [List.length_map, HTL.out]
        have HLF : (T.map fun x => rd_L1 l2 x).length = i := by rw [List.length_map, HTL.out]
        obtain ⟨⟨bk, be⟩, hinv, h⟩ := Option.bind_eq_some_iff.mp H2.out
        generalize (T.map fun x => rw_ (codec_Row.M i m) x.toNat) = MM at *
        generalize (T.map fun x => rd_L1 l2 x) = FF at *
        have HM2 := Lib.hid hm2
        have HM1 := Lib.hid hm1
        have HF2 := Lib.hid hf2
        have HF1 := Lib.hid hf1
        have HINV := Lib.hid hinv
        have H3 := Lib.hid h
        clear hm1 hm2 hf1 hf2 hinv h H2 htt
        subst HLM
        go_wp2_with fail
        refine (matrix_Inverse.calls k Am cm MM bk be _ HM2.out HM1.out HINV.out).mono ?_
        rintro e w3 ⟨v3, rfl, ho, hb⟩
        obtain ⟨Ab, cb, rfl⟩ := Kd.S_slice ho
        have HBK := Lib.hid (Kd.S_reads' ho).2.2
        have HF3 := Lib.hid (Kd.C_below HF2.out hb)
        have HB3 := Lib.hid (below_step HB2.out hb)
        clear ho hb HO1 HO3 HDJ HB2
        by_cases hbe : be = 0
        case neg =>
          have h := H3.out
          try dsimp only at h
          rw [if_pos hbe] at h
          injection h with h; injection h with ha hc; subst ha hc
          have e1 : (be != 0) = true := bne_iff_ne.mpr hbe
          clear hbe H3
          go_wp2_with fail
          go_ret2
          exact ⟨_, rfl, Kd.N_nil _ _ _ _ _, below_step HB.out HB3.out⟩
        subst hbe
        have h := H3.out
        try dsimp only at h
        rw [if_neg (fun z => z rfl)] at h
        by_cases hbl : bk.length ≤ 100
        case neg => rw [if_neg hbl] at h; cases h
        rw [if_pos hbl] at h
        obtain ⟨⟨dt, de⟩, hdots, h⟩ := Option.bind_eq_some_iff.mp h
        have HBL := Lib.hid hbl
        have HDT := Lib.hid hdots
        have H4 := Lib.hid h
        clear hbl hdots h H3
        go_wp2_with fail
        go_loopg [17, 19, 20, 21, 77] bk.length (fun gk s17 s19 s20 s21 s77 wx => ∃ (i : Nat) (out : List (List Int)), i + gk = bk.length ∧ s77 = .int .i64 i ∧ Hid (out.length = i) ∧ Hid (codec_Encode.dots k (bk.drop i) FF out = some (dt, de)) ∧ Hid (Kd.S (Kd.slice 5 (Kd.int .u8)) 23 wx w3.heap.size (fun _ => True) s17 out) ∧ Hid (Below w3.heap.size w3 wx))
        case atStart => exact ⟨0, [], by omega, rfl, Lib.hid rfl, HDT, Lib.hid (Kd.S_nil _ _ _ _ _), Lib.hid (Below.refl _ _)⟩
        case round =>
          have HDT0 := HDT
          clear HDT
          obtain ⟨i, out, hig, rfl, HOL, HD, HS, HBx⟩ := hrel
          cases gk with
          | zero =>
            obtain rfl : i = bk.length := by omega
            have h := HD.out
            rw [List.drop_length, codec_Encode.dots] at h
            injection h with h; injection h with ha hc; subst ha hc
            have h := H4.out
            try dsimp only at h
            rw [if_neg (fun z => z rfl)] at h
            obtain ⟨⟨pr, pe⟩, hpar, h⟩ := Option.bind_eq_some_iff.mp h
            injection h with h; injection h with ha hc
            obtain ⟨Ad, cd, rfl⟩ := Kd.S_slice HS.out
            have HDC := Lib.hid (Kd.S_reads' HS.out).2.2
            have HDL := Lib.hid (Kd.S_reads' HS.out).2.1
            have HPAR := Lib.hid hpar
            have HA := Lib.hid ha
            have HE := Lib.hid hc
            clear HD hig h H4 hpar ha hc
            go_wp2_with fail
            refine (codec_Encode.cells k MM.length m HK.out HR.out g val Ad cd out pr pe _ ((HMP.out.below HB3.out).below HBx.out) (fun i hi => ((HRW.out i hi).below HB3.out).below HBx.out) HDC.out HDL.out HPAR.out).mono ?_
            rintro e w5 ⟨v5, rfl, ho, hb⟩
            have HWB := Lib.hid (below_step HB.out (below_step HB3.out HBx.out))
            have HB5 := Lib.hid (below_step HWB.out hb)
            have HDN := Lib.hid (Kd.N_below (Kd.N_lower (Kd.N_mono (ok' := fun k_ => w.heap.size ≤ k_) (Kd.S_N (Kd.S_bound HS.out)) (fun k_ hk_ => Nat.le_trans (below_step HB.out HB3.out).size hk_.2.1)) (below_step HB.out HB3.out).size) hb)
            have HLT := Lib.hid (fun k_ hk_ => Kd.N_lt (Kd.S_N HS.out) k_ hk_)
            obtain ⟨Ap, cp, rfl⟩ := Kd.S_slice ho
            have HPF := Lib.hid (Kd.N_F (Kd.N_mono (ok' := fun k_ => wr.heap.size ≤ k_) (Kd.S_N (Kd.S_bound ho)) (fun k_ hk_ => hk_.2.1)))
            clear ho hb HS
            have HLO := Lib.hid (show out.length ≤ 1000 ∧ pr.length ≤ 1000 by
              have h1 := codec_Verify.dlen _ _ _ _ _ _ HDT0.out
              have h2 := codec_Verify.dlen _ _ _ _ _ _ HPAR.out
              have := HR.out
              have := HBL.out
              rw [List.length_drop, codec_Row.M_len] at h2
              simp at h1 h2
              omega)
            go_wp2_with ((with_reducible refine gate_builtin (b := .append) (xs := #[.tmp 107, .tmp 108]) rfl ?_); at_builtin; refine Kd.N_append_rows (Kd.slice 5 (Kd.int .u8)) (w0 := w) w.heap.size rfl (.tmp 107) (.tmp 108) 24 23 (.slice none 0 0) 24 rfl Try.underlying24 codec_Decode.i2 rfl (by decide) (by omega) (.slice Ad out.length cd) out pr Ap _ _ (fun k_ => w.heap.size ≤ k_) (fun k_ => wr.heap.size ≤ k_) rfl rfl HDN.out HPF.out (fun k_ hk_ => ⟨Nat.le_trans HWB.out.size hk_, fun z => by have := HLT.out k_ z.symm; omega⟩) (fun k_ hk_ => Nat.le_trans HB5.out.size hk_) HB5.out HB5.out.size (by have := HLO.out; omega) ?_; intro v7 w7 ho hb hg hat; have HO7 := Lib.hid ho; have HB7 := Lib.hid hb; clear ho hb hg hat)
            go_ret2
            exact ⟨_, by rw [← HE.out]; rfl, by rw [← HA.out]; exact HO7.out, HB7.out⟩
          | succ d =>
            have hin : i < bk.length := by omega
            have hil : (i : Int) < (bk.length : Int) := by omega
            have h := HD.out
            rw [List.drop_eq_getElem_cons hin, codec_Encode.dots] at h
            have hrow : bk[i] = rd_L1 bk (i : Int) := by simp [rd_L1, hin]
            rw [hrow] at h
            obtain ⟨⟨y, ye⟩, hdot, h⟩ := Option.bind_eq_some_iff.mp h
            obtain ⟨ad, B3, d3, rA, hx, hl3, hr3⟩ := at_L1 (Kd.C_below HBK.out HBx.out) (i : Int) (by omega) hil
            subst rA
            rw [Int.toNat_natCast] at hx
            have HDO := Lib.hid hdot
            have H5 := Lib.hid h
            have HCR := Lib.hid hr3
            have HCRL := Lib.hid hl3
            have HIN := Lib.hid hin
            clear h hdot hrow HD hl3 hr3 hin
            go_wp2_with fail
            have hcall := kernel_Dot.calls k B3 d3 (rd_L1 bk (i : Int)) Af cf FF y ye _ HCR.out HCRL.out (Kd.C_below HF3.out HBx.out) HF1.out HDO.out
            rw [HLF] at hcall
            refine hcall.mono ?_
            clear hcall
            rintro e w4 ⟨v4, rfl, ho, hb⟩
            have HY := Lib.hid ho
            have HB1 := Lib.hid (below_step HBx.out hb)
            have HW := Lib.hid hb
            clear ho hb HCR HCRL HDO hx
            by_cases h0 : ye = 0
            case neg =>
              have h := H5.out
              try dsimp only at h
              rw [if_pos h0] at h
              injection h with h; injection h with ha hc; subst ha hc
              have h2 := H4.out
              try dsimp only at h2
              rw [if_pos h0] at h2
              injection h2 with h2; injection h2 with ha hc; subst ha hc
              have e1 : (ye != 0) = true := bne_iff_ne.mpr h0
              clear h0 H5 H4
              go_wp2_with fail
              go_ret2
              exact ⟨_, rfl, Kd.N_nil _ _ _ _ _, below_step HB.out (below_step HB3.out HB1.out)⟩
            subst h0
            have h := H5.out
            try dsimp only at h
            rw [if_neg (fun z => z rfl)] at h
            have HN := Lib.hid h
            obtain ⟨Ay, cy, rfl⟩ := Kd.R_slice HY.out
            have HOLD := Lib.hid (Kd.S_mono (Kd.S_old HS.out HW.out) (ok' := fun k_ => True ∧ ¬ wr.heap.size ≤ k_) (fun k_ hk_ => ⟨trivial, by have := hk_.2; omega⟩))
            have HLT := Lib.hid (Kd.S_lt HS.out)
            have HYM := Lib.hid (Kd.M_row (Kd.R_lower (Kd.R_mono (Kd.R_bound HY.out) (ok' := fun k_ => wr.heap.size ≤ k_) (fun k_ hk_ => hk_.2.1)) HBx.out.size))
            clear h H5 HS HY HW HBx
            go_wp2_with ((with_reducible refine gate_builtin (b := .append) (xs := #[.tmp 90, .tmp 92]) rfl ?_); at_builtin; refine Kd.S_append (Kd.slice 5 (Kd.int .u8)) (w0 := w3) w3.heap.size rfl (.tmp 90) (.tmp 92) 24 23 (.slice none 0 0) 24 rfl Try.underlying24 codec_Decode.i2 rfl (by decide) (by omega) _ out y [.slice Ay y.length cy] (fun _ => True) (fun k_ => wr.heap.size ≤ k_) rfl rfl HYM.out (fun k_ hk_ => ⟨trivial, fun e_ => by have := HLT.out k_ e_.symm; omega⟩) (fun _ _ => trivial) HOLD.out HB1.out HB1.out.size (by have := HOL.out; have := HBL.out; have := HIN.out; omega) ?_; intro v5 w5 ho hb hg hat; have HS := Lib.hid ho; have HB := Lib.hid hb; clear ho hb hg hat)
            go_roundg d
            case measure => omega
            case rel => exact ⟨i + 1, out ++ [y], by omega, by first | rfl | (rw [Int.natCast_add]; rfl) | (rw [show wrap64 ((i : Int) + 1) = ((i + 1 : Nat) : Int) by have := HIN.out; have := HBL.out; unfold wrap64; omega]), Lib.hid (by rw [List.length_append, HOL.out]; rfl), HN, HS, HB⟩
      | succ d =>
        have hin : i < n := by omega
        have hil : (i : Int) < (T.length : Int) := by rw [HTL.out]; omega
        have hi0 : (0 : Int) ≤ (i : Int) := by omega
        obtain ⟨ad, rA, hx⟩ := Kd.at_int (Kd.C_below HT.out HB2.out) (i : Int) hi0 hil
        subst rA
        rw [Int.toNat_natCast] at hx
        have hTi : i < T.length := by omega
        have hmem := HCK.out _ (List.getElem_mem hTi)
        have hrd : rd T (i : Int) = T[i] := by simp [rd, hTi]
        have htk : T.take (i + 1) = T.take i ++ [T[i]] := by rw [List.take_add_one, List.getElem?_eq_getElem hTi]; rfl
        rw [hrd] at hx
        generalize T[i] = x at *
        obtain ⟨q, rfl⟩ := Int.eq_ofNat_of_zero_le hmem.1
        have hq : q < n + m := by have := hmem.2; omega
        obtain ⟨Ar, cr, hval, hcr, hCr⟩ := HRW.out q hq
        have hlook : (Instr.lookup 44 (.map (some g)) (.agg #[.int .i64 (n : Int), .int .i64 (m : Int), .int .i64 (q : Int)]) false).run Try.prog wr = .ok (.slice Ar (rw_ (codec_Row.M n m) q).length cr) wr := by
          have hkey := fun p (hp : p < n + m) => codec_Row.keys (n := 0) (i := p) HK.out HR.out (by have := HK.out; have := HR.out; omega)
          rcases (HMP.out.below HB2.out).look hkey (.slice none 0 0) (codec_Row.zero wr) false (hkey q hq) with ⟨j, hj, hx, hl⟩ | ⟨hno, -⟩
          · have := pk_inj hx
            obtain rfl : q = j := by omega
            simp only [pk, Bool.false_eq_true, if_false, hval] at hl
            exact hl
          · exact absurd rfl (hno q hq)
        have HCX := Lib.hid (show RowC w2 (.slice Ar (rw_ (codec_Row.M n m) q).length cr) (rw_ (codec_Row.M n m) q) from ⟨Ar, cr, rfl, hcr, hCr⟩)
        have HTK := Lib.hid htk
        have hqi : (q : Int) < (l2.length : Int) := by have := HCL.out; omega
        have HQ := Lib.hid hqi
        have HIN := Lib.hid hin
        obtain ⟨ad2, B2, d2, rB, hx2, hl2, hr2⟩ := at_L1 (Kd.C_below HR2.out HB.out) (q : Int) (by omega) hqi
        rw [Int.toNat_natCast] at hx2
        have HX2 := Lib.hid hx2
        have HCY := Lib.hid (show RowC w2 (.slice B2 (rd_L1 l2 (q : Int)).length d2) (rd_L1 l2 (q : Int)) from ⟨B2, d2, rfl, hl2, hr2⟩)
        have HV1 := Lib.hid (show vs1.length ≤ 100 by have h := HR1.out.1; have := HK.out; rw [List.length_map, List.length_take] at h; omega)
        have HV2 := Lib.hid (show vs2.length ≤ 100 by have h := HR3.out.1; have := HK.out; rw [List.length_map, List.length_take] at h; omega)
        clear hval hcr hCr htk hmem hrd hin hTi hx2 hl2 hr2
        subst rB
        go_wp2_with (first | ((with_reducible refine gate_builtin (b := .append) (xs := #[.tmp 50, .tmp 57]) rfl ?_); at_builtin; refine Kd.R_append (Kd.raw 1) (w0 := w2) w2.heap.size rfl (.tmp 50) (.tmp 57) 24 23 (.slice none 0 0) 24 rfl Try.underlying24 codec_Decode.i2 rfl (by decide) (by omega) _ (vs1.map fun v => [v]) [.slice Ar (rw_ (codec_Row.M n m) q).length cr] [.slice Ar (rw_ (codec_Row.M n m) q).length cr] (fun _ => True) (fun _ => False) rfl rfl ⟨rfl, rfl, fun u hu => by simp at hu; subst hu; rfl⟩ (fun _ h => h.elim) (fun _ _ => trivial) HO1.out HB2.out HB2.out.size (by have := HV1.out; simp; omega) ?_; intro v5 w5 ho hb hg hat; have HO5 := Lib.hid ho; have HO6 := Lib.hid (raw_grown HO3.out hg (fun k hk he => HDJ.out k he.symm hk)); have HDJ5 := Lib.hid (show ∀ k, v5.ownBlock = some k → _ = some k → False from fun k h1 h2 => hat.elim (fun e => HDJ.out k (e ▸ h1) h2) (fun ⟨b, e, hbg⟩ => by have := Kd.R_lt HO3.out k h2; rw [e] at h1; injection h1 with h1; omega)); have HB5 := Lib.hid hb; have hx5 := (hb.cell (World.block_lt_of_cell? _ _ HX2.out)).trans HX2.out; clear ho hb hg hat HO1 HO3 HDJ HB2) | ((with_reducible refine gate_builtin (b := .append) (xs := #[.tmp 59, .tmp 64]) rfl ?_); at_builtin; refine Kd.R_append (Kd.raw 1) (w0 := w2) w2.heap.size rfl (.tmp 59) (.tmp 64) 24 23 (.slice none 0 0) 24 rfl Try.underlying24 codec_Decode.i2 rfl (by decide) (by omega) _ (vs2.map fun v => [v]) [.slice B2 (rd_L1 l2 (q : Int)).length d2] [.slice B2 (rd_L1 l2 (q : Int)).length d2] (fun _ => True) (fun _ => False) rfl rfl ⟨rfl, rfl, fun u hu => by simp at hu; subst hu; rfl⟩ (fun _ h => h.elim) (fun _ _ => trivial) HO6.out HB5.out HB5.out.size (by have := HV2.out; simp; omega) ?_; intro v6 w6 ho hb hg hat; have HO8 := Lib.hid ho; have HO7 := Lib.hid (raw_grown HO5.out hg (fun k hk he => HDJ5.out k hk he.symm)); have HDJ6 := Lib.hid (show ∀ k, v5.ownBlock = some k → v6.ownBlock = some k → False from fun k h1 h2 => hat.elim (fun e => HDJ5.out k h1 (e ▸ h2)) (fun ⟨b, e, hbg⟩ => by have := Kd.R_lt HO5.out k h1; rw [e] at h2; injection h2 with h2; omega)); have HB6 := Lib.hid hb; clear ho hb hg hat HO5 HO6 HDJ5 HB5))
        have E1 : (vs1.map fun v => [v]) ++ [[Value.slice Ar (rw_ (codec_Row.M n m) q).length cr]] = (vs1 ++ [Value.slice Ar (rw_ (codec_Row.M n m) q).length cr]).map fun v => [v] := by simp
        have E2 : (vs2.map fun v => [v]) ++ [[Value.slice B2 (rd_L1 l2 (q : Int)).length d2]] = (vs2 ++ [Value.slice B2 (rd_L1 l2 (q : Int)).length d2]).map fun v => [v] := by simp
        rw [E1] at HO7
        rw [E2] at HO8
        have HR5 := Lib.hid (show RowsC w2 (vs1 ++ [Value.slice Ar (rw_ (codec_Row.M n m) q).length cr]) ((T.take (i + 1)).map fun x => rw_ (codec_Row.M n m) x.toNat) by rw [HTK.out, List.map_append]; exact HR1.out.append (RowsC.one HCX.out))
        have HR7 := Lib.hid (show RowsC w2 (vs2 ++ [Value.slice B2 (rd_L1 l2 (q : Int)).length d2]) ((T.take (i + 1)).map fun x => rd_L1 l2 x) by rw [HTK.out, List.map_append]; exact HR3.out.append (RowsC.one HCY.out))
        clear E1 E2
        go_roundg d
        case measure => omega
        case rel => exact ⟨i + 1, _, _, by omega, by first | rfl | (rw [Int.natCast_add]; rfl), HR5, HR7, HO7, HO8, HDJ6, HB6⟩

end Go.Proofs.Ythhncoogmncdkaa.PA
-- written by the session's own program (wip/prt.py) over the kit's print: not print.sh's own text
namespace Go.Proofs.Ythhncoogmncdkaa.PA
open Go.RowKit Go.Proofs.YthhncoogmncdkaaW.PrintWords Go.Proofs.YthhncoogmncdkaaW.PrintLast Go.Proofs.YthhncoogmncdkaaW.PrintMore
attribute [local go_sem] max2_int min2_int max_two min_two max_three min_three max_four min_four   -- for this text's walks alone
set_option linter.unusedVariables false
set_option linter.unusedSimpArgs false

/-! ### twoslotlaw04_alive: function 8 -/
def twoslotlaw04_alive.ok (k : Nat) : Prop := codec_Row.f 2 2 2 = some ([142, 244], 0) ∧ codec_Encode.f k 2 1 [[1], [0]] = some ([[142]], 0) ∧ codec_Decode.f k 2 1 [[], [7], [9]] = some ([[227], [7], [9]], 0) ∧ codec_Decode.f k 2 1 [[], [], [9]] = some ([], 5) ∧ codec_Encode.f k 2 1 [[1], []] = some ([], 40) ∧ codec_Verify.f k 2 1 [[227], [7], [9]] = some (true, 0)
instance twoslotlaw04_alive.okDec (k : Nat) : Decidable (twoslotlaw04_alive.ok k) := by unfold twoslotlaw04_alive.ok; infer_instance
def twoslotlaw04_alive.f (k : Nat) : Option Bool := if twoslotlaw04_alive.ok k then some true else none
theorem twoslotlaw04_alive.mono : ∀ k, LeO (twoslotlaw04_alive.f k) (twoslotlaw04_alive.f (k + 1)) := fun k r h => by
  unfold twoslotlaw04_alive.f at h ⊢
  by_cases e : twoslotlaw04_alive.ok k
  · rw [if_pos e] at h
    rw [if_pos ?_]; · exact h
    obtain ⟨h1, h2, h3, h4, h5, h6⟩ := e
    exact ⟨h1, codec_Encode.mono _ _ _ _ _ h2, codec_Decode.mono _ _ _ _ _ h3, codec_Decode.mono _ _ _ _ _ h4, codec_Encode.mono _ _ _ _ _ h5, codec_Verify.mono _ _ _ _ _ h6⟩
  · rw [if_neg e] at h; cases h
set_option maxHeartbeats 8000000 in
set_option maxRecDepth 100000 in
theorem twoslotlaw04_alive.calls (k : Nat) (r : Bool) (w : World) (h : twoslotlaw04_alive.f k = some r) : Calls Try.prog 8 #[] w fun e w' => e = .returned (.bool r) ∧ Below w.heap.size w w' := by
  unfold twoslotlaw04_alive.f at h
  by_cases e : twoslotlaw04_alive.ok k
  case neg => rw [if_neg e] at h; cases h
  rw [if_pos e] at h
  injection h with h
  subst h
  obtain ⟨h1, h2, h3, h4, h5, h6⟩ := e
  have H1 := Lib.hid h1
  have H2 := Lib.hid h2
  have H3 := Lib.hid h3
  have H4 := Lib.hid h4
  have H5 := Lib.hid h5
  have H6 := Lib.hid h6
  clear h1 h2 h3 h4 h5 h6
  have HB := Lib.hid (Below.refl w.heap.size w)
  go_enter Try.func8, Try.ntmps8
  go_wp2_with fail
  refine (codec_Row.calls 2 2 2 [142, 244] 0 _ H1.out).mono ?_
  rintro en w1 ⟨v1, rfl, ho, hb⟩
  have hbn := hb
  replace HB := Lib.hid (below_step HB.out hbn)
  obtain ⟨Ar, cr, rfl⟩ := Kd.R_slice ho
  have Fr := Lib.hid (Kd.R_reads' ho).2.2
  have Gr := Lib.hid (Kd.R_reads' ho).2.1
  clear ho
  clear hb hbn
  have bw2 := below_alloc (below_alloc (below_alloc (Below.refl w1.heap.size w1) (.cells #[.int .u8 1] 5)) (.cells #[.int .u8 0] 5)) (.cells #[.slice (some ⟨w1.heap.size, 0, none⟩) 1 1, .slice (some ⟨w1.heap.size + 1, 0, none⟩) 1 1] 23)
  have q2_0 : (((w1.alloc (.cells #[.int .u8 1] 5)).alloc (.cells #[.int .u8 0] 5)).alloc (.cells #[.slice (some ⟨w1.heap.size, 0, none⟩) 1 1, .slice (some ⟨w1.heap.size + 1, 0, none⟩) 1 1] 23)).heap[w1.heap.size]? = some (.cells #[.int .u8 1] 5) := blk_alloc (blk_alloc (heap_alloc_at _ _ (by first | rfl | simp)) _) _
  have hL2_0 : Kd.C (Kd.int .u8) (((w1.alloc (.cells #[.int .u8 1] 5)).alloc (.cells #[.int .u8 0] 5)).alloc (.cells #[.slice (some ⟨w1.heap.size, 0, none⟩) 1 1, .slice (some ⟨w1.heap.size + 1, 0, none⟩) 1 1] 23)) (some ⟨w1.heap.size, 0, none⟩) 1 [1] := lit_C (k := .u8) (xs := [1]) q2_0 (by simp [encs]) (by decide)
  have q2_1 : (((w1.alloc (.cells #[.int .u8 1] 5)).alloc (.cells #[.int .u8 0] 5)).alloc (.cells #[.slice (some ⟨w1.heap.size, 0, none⟩) 1 1, .slice (some ⟨w1.heap.size + 1, 0, none⟩) 1 1] 23)).heap[w1.heap.size + 1]? = some (.cells #[.int .u8 0] 5) := blk_alloc (heap_alloc_at _ _ (by first | rfl | simp)) _
  have hL2_1 : Kd.C (Kd.int .u8) (((w1.alloc (.cells #[.int .u8 1] 5)).alloc (.cells #[.int .u8 0] 5)).alloc (.cells #[.slice (some ⟨w1.heap.size, 0, none⟩) 1 1, .slice (some ⟨w1.heap.size + 1, 0, none⟩) 1 1] 23)) (some ⟨w1.heap.size + 1, 0, none⟩) 1 [0] := lit_C (k := .u8) (xs := [0]) q2_1 (by simp [encs]) (by decide)
  have q2_2 : (((w1.alloc (.cells #[.int .u8 1] 5)).alloc (.cells #[.int .u8 0] 5)).alloc (.cells #[.slice (some ⟨w1.heap.size, 0, none⟩) 1 1, .slice (some ⟨w1.heap.size + 1, 0, none⟩) 1 1] 23)).heap[w1.heap.size + 2]? = some (.cells #[.slice (some ⟨w1.heap.size, 0, none⟩) 1 1, .slice (some ⟨w1.heap.size + 1, 0, none⟩) 1 1] 23) := heap_alloc_at _ _ (by first | rfl | simp)
  have hL2_2 : Kd.C (Kd.slice 5 (Kd.int .u8)) (((w1.alloc (.cells #[.int .u8 1] 5)).alloc (.cells #[.int .u8 0] 5)).alloc (.cells #[.slice (some ⟨w1.heap.size, 0, none⟩) 1 1, .slice (some ⟨w1.heap.size + 1, 0, none⟩) 1 1] 23)) (some ⟨w1.heap.size + 2, 0, none⟩) 2 [[1], [0]] := lit_rows (ys := [[1], [0]]) q2_2 rfl ((RowsC.one (RowC.mk hL2_0 (Nat.le_refl _))).append (RowsC.one (RowC.mk hL2_1 (Nat.le_refl _)))) (by simp)
  have H_hL2_0 := Lib.hid hL2_0
  have H_hL2_1 := Lib.hid hL2_1
  have H_hL2_2 := Lib.hid hL2_2
  have H_bw2 := Lib.hid bw2
  clear q2_0 q2_1 q2_2 hL2_0 hL2_1 hL2_2 bw2
  go_wp2_with fail
  refine (codec_Encode.calls k 2 1 (some ⟨w1.heap.size + 2, 0, none⟩) 2 [[1], [0]] [[142]] 0 _ H_hL2_2.out (Nat.le_refl _) H2.out).mono ?_
  rintro en w3 ⟨v1, rfl, ho, hb⟩
  have hbn := (below_step H_bw2.out hb)
  replace Fr := Lib.hid (Kd.C_below Fr.out hbn)
  replace HB := Lib.hid (below_step HB.out hbn)
  obtain ⟨Ap, cp, rfl⟩ := Kd.S_slice ho
  have Fp := Lib.hid (Kd.S_reads' ho).2.2
  have Gp := Lib.hid (Kd.S_reads' ho).2.1
  clear ho
  clear hb hbn
  clear H_hL2_0 H_hL2_1 H_hL2_2
  clear H_bw2
  have bw4 := below_alloc (below_alloc (below_alloc (Below.refl w3.heap.size w3) (.cells #[.int .u8 7] 5)) (.cells #[.int .u8 9] 5)) (.cells #[.slice none 0 0, .slice (some ⟨w3.heap.size, 0, none⟩) 1 1, .slice (some ⟨w3.heap.size + 1, 0, none⟩) 1 1] 23)
  have q4_0 : (((w3.alloc (.cells #[.int .u8 7] 5)).alloc (.cells #[.int .u8 9] 5)).alloc (.cells #[.slice none 0 0, .slice (some ⟨w3.heap.size, 0, none⟩) 1 1, .slice (some ⟨w3.heap.size + 1, 0, none⟩) 1 1] 23)).heap[w3.heap.size]? = some (.cells #[.int .u8 7] 5) := blk_alloc (blk_alloc (heap_alloc_at _ _ (by first | rfl | simp)) _) _
  have hL4_0 : Kd.C (Kd.int .u8) (((w3.alloc (.cells #[.int .u8 7] 5)).alloc (.cells #[.int .u8 9] 5)).alloc (.cells #[.slice none 0 0, .slice (some ⟨w3.heap.size, 0, none⟩) 1 1, .slice (some ⟨w3.heap.size + 1, 0, none⟩) 1 1] 23)) (some ⟨w3.heap.size, 0, none⟩) 1 [7] := lit_C (k := .u8) (xs := [7]) q4_0 (by simp [encs]) (by decide)
  have q4_1 : (((w3.alloc (.cells #[.int .u8 7] 5)).alloc (.cells #[.int .u8 9] 5)).alloc (.cells #[.slice none 0 0, .slice (some ⟨w3.heap.size, 0, none⟩) 1 1, .slice (some ⟨w3.heap.size + 1, 0, none⟩) 1 1] 23)).heap[w3.heap.size + 1]? = some (.cells #[.int .u8 9] 5) := blk_alloc (heap_alloc_at _ _ (by first | rfl | simp)) _
  have hL4_1 : Kd.C (Kd.int .u8) (((w3.alloc (.cells #[.int .u8 7] 5)).alloc (.cells #[.int .u8 9] 5)).alloc (.cells #[.slice none 0 0, .slice (some ⟨w3.heap.size, 0, none⟩) 1 1, .slice (some ⟨w3.heap.size + 1, 0, none⟩) 1 1] 23)) (some ⟨w3.heap.size + 1, 0, none⟩) 1 [9] := lit_C (k := .u8) (xs := [9]) q4_1 (by simp [encs]) (by decide)
  have q4_2 : (((w3.alloc (.cells #[.int .u8 7] 5)).alloc (.cells #[.int .u8 9] 5)).alloc (.cells #[.slice none 0 0, .slice (some ⟨w3.heap.size, 0, none⟩) 1 1, .slice (some ⟨w3.heap.size + 1, 0, none⟩) 1 1] 23)).heap[w3.heap.size + 2]? = some (.cells #[.slice none 0 0, .slice (some ⟨w3.heap.size, 0, none⟩) 1 1, .slice (some ⟨w3.heap.size + 1, 0, none⟩) 1 1] 23) := heap_alloc_at _ _ (by first | rfl | simp)
  have hL4_2 : Kd.C (Kd.slice 5 (Kd.int .u8)) (((w3.alloc (.cells #[.int .u8 7] 5)).alloc (.cells #[.int .u8 9] 5)).alloc (.cells #[.slice none 0 0, .slice (some ⟨w3.heap.size, 0, none⟩) 1 1, .slice (some ⟨w3.heap.size + 1, 0, none⟩) 1 1] 23)) (some ⟨w3.heap.size + 2, 0, none⟩) 3 [[], [7], [9]] := lit_rows (ys := [[], [7], [9]]) q4_2 rfl (((RowsC.one (RowC.mk (Kd.C_below (Kd.C_nil _ _) bw4) (Nat.le_refl _))).append (RowsC.one (RowC.mk hL4_0 (Nat.le_refl _)))).append (RowsC.one (RowC.mk hL4_1 (Nat.le_refl _)))) (by simp)
  have H_hL4_0 := Lib.hid hL4_0
  have H_hL4_1 := Lib.hid hL4_1
  have H_hL4_2 := Lib.hid hL4_2
  have H_bw4 := Lib.hid bw4
  clear q4_0 q4_1 q4_2 hL4_0 hL4_1 hL4_2 bw4
  go_wp2_with fail
  refine (codec_Decode.calls k 2 1 (some ⟨w3.heap.size + 2, 0, none⟩) 3 [[], [7], [9]] [[227], [7], [9]] 0 _ H_hL4_2.out (Nat.le_refl _) H3.out).mono ?_
  rintro en w5 ⟨v1, rfl, ho, hb⟩
  have hbn := (below_step H_bw4.out hb)
  replace Fr := Lib.hid (Kd.C_below Fr.out hbn)
  replace Fp := Lib.hid (Kd.C_below Fp.out hbn)
  replace HB := Lib.hid (below_step HB.out hbn)
  obtain ⟨Ad, cd, rfl⟩ := Kd.N_slice ho
  have Fd := Lib.hid (Kd.N_reads' ho).2.2
  have Gd := Lib.hid (Kd.N_reads' ho).2.1
  clear ho
  clear hb hbn
  clear H_hL4_0 H_hL4_1 H_hL4_2
  clear H_bw4
  have bw6 := below_alloc (below_alloc (Below.refl w5.heap.size w5) (.cells #[.int .u8 9] 5)) (.cells #[.slice none 0 0, .slice none 0 0, .slice (some ⟨w5.heap.size, 0, none⟩) 1 1] 23)
  have q6_0 : ((w5.alloc (.cells #[.int .u8 9] 5)).alloc (.cells #[.slice none 0 0, .slice none 0 0, .slice (some ⟨w5.heap.size, 0, none⟩) 1 1] 23)).heap[w5.heap.size]? = some (.cells #[.int .u8 9] 5) := blk_alloc (heap_alloc_at _ _ (by first | rfl | simp)) _
  have hL6_0 : Kd.C (Kd.int .u8) ((w5.alloc (.cells #[.int .u8 9] 5)).alloc (.cells #[.slice none 0 0, .slice none 0 0, .slice (some ⟨w5.heap.size, 0, none⟩) 1 1] 23)) (some ⟨w5.heap.size, 0, none⟩) 1 [9] := lit_C (k := .u8) (xs := [9]) q6_0 (by simp [encs]) (by decide)
  have q6_1 : ((w5.alloc (.cells #[.int .u8 9] 5)).alloc (.cells #[.slice none 0 0, .slice none 0 0, .slice (some ⟨w5.heap.size, 0, none⟩) 1 1] 23)).heap[w5.heap.size + 1]? = some (.cells #[.slice none 0 0, .slice none 0 0, .slice (some ⟨w5.heap.size, 0, none⟩) 1 1] 23) := heap_alloc_at _ _ (by first | rfl | simp)
  have hL6_1 : Kd.C (Kd.slice 5 (Kd.int .u8)) ((w5.alloc (.cells #[.int .u8 9] 5)).alloc (.cells #[.slice none 0 0, .slice none 0 0, .slice (some ⟨w5.heap.size, 0, none⟩) 1 1] 23)) (some ⟨w5.heap.size + 1, 0, none⟩) 3 [[], [], [9]] := lit_rows (ys := [[], [], [9]]) q6_1 rfl (((RowsC.one (RowC.mk (Kd.C_below (Kd.C_nil _ _) bw6) (Nat.le_refl _))).append (RowsC.one (RowC.mk (Kd.C_below (Kd.C_nil _ _) bw6) (Nat.le_refl _)))).append (RowsC.one (RowC.mk hL6_0 (Nat.le_refl _)))) (by simp)
  have H_hL6_0 := Lib.hid hL6_0
  have H_hL6_1 := Lib.hid hL6_1
  have H_bw6 := Lib.hid bw6
  clear q6_0 q6_1 hL6_0 hL6_1 bw6
  go_wp2_with fail
  refine (codec_Decode.calls k 2 1 (some ⟨w5.heap.size + 1, 0, none⟩) 3 [[], [], [9]] [] 5 _ H_hL6_1.out (Nat.le_refl _) H4.out).mono ?_
  rintro en w7 ⟨v1, rfl, -, hb⟩
  have hbn := (below_step H_bw6.out hb)
  replace Fr := Lib.hid (Kd.C_below Fr.out hbn)
  replace Fp := Lib.hid (Kd.C_below Fp.out hbn)
  replace Fd := Lib.hid (Kd.C_below Fd.out hbn)
  replace HB := Lib.hid (below_step HB.out hbn)
  clear hb hbn
  clear H_hL6_0 H_hL6_1
  clear H_bw6
  have bw8 := below_alloc (below_alloc (Below.refl w7.heap.size w7) (.cells #[.int .u8 1] 5)) (.cells #[.slice (some ⟨w7.heap.size, 0, none⟩) 1 1, .slice none 0 0] 23)
  have q8_0 : ((w7.alloc (.cells #[.int .u8 1] 5)).alloc (.cells #[.slice (some ⟨w7.heap.size, 0, none⟩) 1 1, .slice none 0 0] 23)).heap[w7.heap.size]? = some (.cells #[.int .u8 1] 5) := blk_alloc (heap_alloc_at _ _ (by first | rfl | simp)) _
  have hL8_0 : Kd.C (Kd.int .u8) ((w7.alloc (.cells #[.int .u8 1] 5)).alloc (.cells #[.slice (some ⟨w7.heap.size, 0, none⟩) 1 1, .slice none 0 0] 23)) (some ⟨w7.heap.size, 0, none⟩) 1 [1] := lit_C (k := .u8) (xs := [1]) q8_0 (by simp [encs]) (by decide)
  have q8_1 : ((w7.alloc (.cells #[.int .u8 1] 5)).alloc (.cells #[.slice (some ⟨w7.heap.size, 0, none⟩) 1 1, .slice none 0 0] 23)).heap[w7.heap.size + 1]? = some (.cells #[.slice (some ⟨w7.heap.size, 0, none⟩) 1 1, .slice none 0 0] 23) := heap_alloc_at _ _ (by first | rfl | simp)
  have hL8_1 : Kd.C (Kd.slice 5 (Kd.int .u8)) ((w7.alloc (.cells #[.int .u8 1] 5)).alloc (.cells #[.slice (some ⟨w7.heap.size, 0, none⟩) 1 1, .slice none 0 0] 23)) (some ⟨w7.heap.size + 1, 0, none⟩) 2 [[1], []] := lit_rows (ys := [[1], []]) q8_1 rfl ((RowsC.one (RowC.mk hL8_0 (Nat.le_refl _))).append (RowsC.one (RowC.mk (Kd.C_below (Kd.C_nil _ _) bw8) (Nat.le_refl _)))) (by simp)
  have H_hL8_0 := Lib.hid hL8_0
  have H_hL8_1 := Lib.hid hL8_1
  have H_bw8 := Lib.hid bw8
  clear q8_0 q8_1 hL8_0 hL8_1 bw8
  go_wp2_with fail
  refine (codec_Encode.calls k 2 1 (some ⟨w7.heap.size + 1, 0, none⟩) 2 [[1], []] [] 40 _ H_hL8_1.out (Nat.le_refl _) H5.out).mono ?_
  rintro en w9 ⟨v1, rfl, -, hb⟩
  have hbn := (below_step H_bw8.out hb)
  replace Fr := Lib.hid (Kd.C_below Fr.out hbn)
  replace Fp := Lib.hid (Kd.C_below Fp.out hbn)
  replace Fd := Lib.hid (Kd.C_below Fd.out hbn)
  replace HB := Lib.hid (below_step HB.out hbn)
  clear hb hbn
  clear H_hL8_0 H_hL8_1
  clear H_bw8
  obtain ⟨adp0, Bp0, ep0, rp0, hxp0, -, -⟩ := at_L1 Fp.out 0 (by decide) (by decide)
  have hup0 : (adp0.add (0 : Int).toNat) = adp0 := by cases adp0; simp [Addr.add]
  rw [hup0] at hxp0
  subst rp0
  have hxp0' : w9.cell? adp0 = some (.slice Bp0 1 ep0) := hxp0
  clear hxp0 hup0
  obtain ⟨add0, Bd0, ed0, rd0, hxd0, -, -⟩ := at_L1 Fd.out 0 (by decide) (by decide)
  have hud0 : (add0.add (0 : Int).toNat) = add0 := by cases add0; simp [Addr.add]
  rw [hud0] at hxd0
  subst rd0
  have hxd0' : w9.cell? add0 = some (.slice Bd0 1 ed0) := hxd0
  clear hxd0 hud0
  go_wp2_with fail
  refine (codec_Verify.calls k 2 1 (some add0) cd [[227], [7], [9]] true 0 _ Fd.out Gd.out H6.out).mono ?_
  rintro en w10 ⟨rfl, hb⟩
  have hbn := hb
  replace Fr := Lib.hid (Kd.C_below Fr.out hbn)
  replace Fp := Lib.hid (Kd.C_below Fp.out hbn)
  replace Fd := Lib.hid (Kd.C_below Fd.out hbn)
  replace HB := Lib.hid (below_step HB.out hbn)
  clear hb hbn
  clear hxp0' hxd0'
  obtain ⟨adp0z, Bp0z, ep0z, rp0z, hxp0z, -, hrp0z⟩ := at_L1 Fp.out 0 (by decide) (by decide)
  injection rp0z with rp0z
  subst rp0z
  have hup0z : (adp0.add (0 : Int).toNat) = adp0 := by cases adp0; simp [Addr.add]
  rw [hup0z] at hxp0z
  clear hup0z
  obtain ⟨bdp0z, sp0z, hyp0z⟩ := Kd.at_int hrp0z 0 (by decide) (by decide)
  subst sp0z
  have hzp0z : (bdp0z.add (0 : Int).toNat) = bdp0z := by cases bdp0z; simp [Addr.add]
  rw [hzp0z] at hyp0z
  have hxp0z' : w10.cell? adp0 = some (.slice (some bdp0z) 1 ep0z) := hxp0z
  have hyp0z' : w10.cell? bdp0z = some (.int .u8 142) := hyp0z
  clear hrp0z hzp0z hxp0z hyp0z
  obtain ⟨add0z, Bd0z, ed0z, rd0z, hxd0z, -, hrd0z⟩ := at_L1 Fd.out 0 (by decide) (by decide)
  injection rd0z with rd0z
  subst rd0z
  have hud0z : (add0.add (0 : Int).toNat) = add0 := by cases add0; simp [Addr.add]
  rw [hud0z] at hxd0z
  clear hud0z
  obtain ⟨bdd0z, sd0z, hyd0z⟩ := Kd.at_int hrd0z 0 (by decide) (by decide)
  subst sd0z
  have hzd0z : (bdd0z.add (0 : Int).toNat) = bdd0z := by cases bdd0z; simp [Addr.add]
  rw [hzd0z] at hyd0z
  have hxd0z' : w10.cell? add0 = some (.slice (some bdd0z) 1 ed0z) := hxd0z
  have hyd0z' : w10.cell? bdd0z = some (.int .u8 227) := hyd0z
  clear hrd0z hzd0z hxd0z hyd0z
  obtain ⟨add1z, Bd1z, ed1z, rd1z, hxd1z, -, hrd1z⟩ := at_L1 Fd.out 1 (by decide) (by decide)
  injection rd1z with rd1z
  subst rd1z
  obtain ⟨bdd1z, sd1z, hyd1z⟩ := Kd.at_int hrd1z 0 (by decide) (by decide)
  subst sd1z
  have hzd1z : (bdd1z.add (0 : Int).toNat) = bdd1z := by cases bdd1z; simp [Addr.add]
  rw [hzd1z] at hyd1z
  have hxd1z' : w10.cell? ⟨add0.block, add0.off + 1, none⟩ = some (.slice (some bdd1z) 1 ed1z) := hxd1z
  have hyd1z' : w10.cell? bdd1z = some (.int .u8 7) := hyd1z
  clear hrd1z hzd1z hxd1z hyd1z
  obtain ⟨adr, sr, hr0⟩ := Kd.at_int Fr.out 0 (by decide) (by decide)
  subst sr
  obtain ⟨adr', sr, hr1⟩ := Kd.at_int Fr.out 1 (by decide) (by decide)
  injection sr with sr
  subst sr
  have hur : (adr.add (0 : Int).toNat) = adr := by cases adr; simp [Addr.add]
  rw [hur] at hr0
  have hr0' : w10.cell? adr = some (.int .u8 142) := hr0
  have hr1' : w10.cell? ⟨adr.block, adr.off + 1, none⟩ = some (.int .u8 244) := hr1
  clear hr0 hr1 hur
  go_wp2_with fail
  go_ret
  exact ⟨by first | rfl | simp, HB.out⟩

end Go.Proofs.Ythhncoogmncdkaa.PA
namespace Go.Proofs.Ythhncoogmncdkaa.Pure
open Go Go.RowKit Go.TwoGf Go.TwoLin Go.Proofs.Ythhncoogmncdkaa Go.Proofs.Ythhncoogmncdkaa.PA Go.Proofs.YthhncoogmncdkaaW.PrintWords Go.Proofs.YthhncoogmncdkaaW.PrintLast Go.Proofs.YthhncoogmncdkaaW.PrintMore
set_option linter.unusedVariables false
theorem thv_posI : ∀ (l : List (List Int)) (i : Nat), (thv l i).2 = true → (thv l i).1 = posI l i ∧ ∃ n, n ≤ 65536 ∧ like n l
  | [], i, h => ⟨rfl, 0, by omega, fun x hx => by cases hx⟩
  | x :: xs, i, h => by
    by_cases e : x.length = 0
    · have e1 : thv (x :: xs) i = thv xs (i + 1) := by rw [thv, if_pos e]
      have e2 : posI (x :: xs) i = posI xs (i + 1) := by rw [posI, if_pos e]
      rw [e1] at h ⊢
      rw [e2]
      obtain ⟨h1, n, h2, h3⟩ := thv_posI xs (i + 1) h
      exact ⟨h1, n, h2, fun y hy => (List.mem_cons.1 hy).elim (fun z => .inl (by rw [z]; exact e)) (h3 y)⟩
    · have e2 : posI (x :: xs) i = (i : Int) :: posI xs (i + 1) := by rw [posI, if_neg e]
      by_cases q : x.length > 65536
      · have e1 : thv (x :: xs) i = ([], false) := by rw [thv, if_neg e, if_pos q]
        rw [e1] at h; cases h
      · by_cases q2 : like x.length xs
        · have e1 : thv (x :: xs) i = ((i : Int) :: posI xs (i + 1), true) := by rw [thv, if_neg e, if_neg q, if_pos q2]
          rw [e1, e2]
          exact ⟨rfl, x.length, by omega, fun y hy => (List.mem_cons.1 hy).elim (fun z => .inr (by rw [z])) (q2 y)⟩
        · have e1 : thv (x :: xs) i = ([], false) := by rw [thv, if_neg e, if_neg q, if_neg q2]
          rw [e1] at h; cases h
theorem thv_like {n : Nat} (hn : n ≤ 65536) : ∀ (l : List (List Int)) (i : Nat), like n l → thv l i = (posI l i, true)
  | [], i, h => rfl
  | x :: xs, i, h => by
    have hx := h x (by simp)
    have hs : like n xs := fun y hy => h y (by simp [hy])
    rw [thv, posI]
    by_cases e : x.length = 0
    · rw [if_pos e, if_pos e, thv_like hn xs (i + 1) hs]
    · have hxn : x.length = n := hx.elim (fun z => absurd z e) id
      rw [if_neg e, if_neg e, if_neg (by omega), hxn, if_pos hs]
theorem posI_mem : ∀ (l : List (List Int)) (i : Nat) (x : Int), x ∈ posI l i ↔ ∃ j : Nat, j < l.length ∧ (rw_ l j).length ≠ 0 ∧ x = ((i + j : Nat) : Int)
  | [], i, x => by
    constructor
    · intro h; cases h
    · rintro ⟨j, h, _⟩; simp at h
  | y :: ys, i, x => by
    have ih := posI_mem ys (i + 1) x
    have shift : (∃ j : Nat, j < ys.length ∧ (rw_ ys j).length ≠ 0 ∧ x = ((i + 1 + j : Nat) : Int)) ↔ ∃ j : Nat, 0 < j ∧ j < (y :: ys).length ∧ (rw_ (y :: ys) j).length ≠ 0 ∧ x = ((i + j : Nat) : Int) := by
      constructor
      · rintro ⟨j, h1, h2, h3⟩
        exact ⟨j + 1, by omega, by simp; omega, h2, by rw [h3]; congr 1; omega⟩
      · rintro ⟨j, h0, h1, h2, h3⟩
        obtain ⟨j, rfl⟩ : ∃ q, j = q + 1 := ⟨j - 1, by omega⟩
        exact ⟨j, by simp at h1; omega, h2, by rw [h3]; congr 1; omega⟩
    by_cases e : y.length = 0
    · rw [posI, if_pos e, ih, shift]
      constructor
      · rintro ⟨j, h0, h1, h2, h3⟩; exact ⟨j, h1, h2, h3⟩
      · rintro ⟨j, h1, h2, h3⟩
        refine ⟨j, ?_, h1, h2, h3⟩
        apply Nat.pos_of_ne_zero
        rintro rfl
        exact h2 e
    · rw [posI, if_neg e, List.mem_cons, ih, shift]
      constructor
      · rintro (h | ⟨j, h0, h1, h2, h3⟩)
        · exact ⟨0, by simp, e, by rw [h]; rfl⟩
        · exact ⟨j, h1, h2, h3⟩
      · rintro ⟨j, h1, h2, h3⟩
        by_cases hj : j = 0
        · subst hj; exact .inl (by rw [h3]; rfl)
        · exact .inr ⟨j, by omega, h1, h2, h3⟩
theorem posI_nodup : ∀ (l : List (List Int)) (i : Nat), (posI l i).Nodup
  | [], i => List.nodup_nil
  | y :: ys, i => by
    rw [posI]
    split
    · exact posI_nodup ys (i + 1)
    · rw [List.nodup_cons]
      refine ⟨fun h => ?_, posI_nodup ys (i + 1)⟩
      obtain ⟨j, _, _, h3⟩ := (posI_mem ys (i + 1) _).1 h
      omega
/-- what is asked of the cells that are decoded -/
structure Dec (k r n : Nat) (cells : List (List Int)) : Prop where
  k1 : 1 ≤ k
  k2 : k ≤ 12
  r4 : r ≤ 4
  len : cells.length = k + r
  n1 : 1 ≤ n
  n2 : n ≤ 65536
  like : like n cells
  cnt : k ≤ (posI cells 0).length
  bs : isM cells
section
variable {k r n : Nat} {cells : List (List Int)}
/-- the cells that are taken -/
def tk (k : Nat) (cells : List (List Int)) : List Int := (posI cells 0).take k
theorem Dec.tk_len (h : Dec k r n cells) : (tk k cells).length = k := by unfold tk; rw [List.length_take]; have := h.cnt; omega
theorem Dec.tk_mem (h : Dec k r n cells) {x : Int} (hx : x ∈ tk k cells) : ∃ j : Nat, j < k + r ∧ (rw_ cells j).length = n ∧ x = (j : Int) := by
  obtain ⟨j, h1, h2, h3⟩ := (posI_mem cells 0 x).1 (List.mem_of_mem_take hx)
  refine ⟨j, by rw [← h.len]; exact h1, ?_, by rw [h3]; congr 1; omega⟩
  exact (h.like _ (rw_mem h1)).elim (fun z => absurd z h2) id
theorem Dec.tk_rg (h : Dec k r n cells) : ∀ x ∈ tk k cells, 0 ≤ x ∧ x < ((k + r : Nat) : Int) := fun x hx => by
  obtain ⟨j, h1, _, rfl⟩ := h.tk_mem hx
  omega
theorem Dec.tk_nd (h : Dec k r n cells) : (tk k cells).Nodup := (posI_nodup cells 0).sublist (List.take_sublist _ _)
theorem Dec.ff (h : Dec k r n cells) : rect k n (took cells (tk k cells)) ∧ isM (took cells (tk k cells)) := by
  refine ⟨⟨by unfold took; rw [List.length_map, h.tk_len], fun y hy => ?_⟩, took_isM h.bs _⟩
  simp only [took, List.mem_map] at hy
  obtain ⟨x, hx, rfl⟩ := hy
  obtain ⟨j, _, h2, rfl⟩ := h.tk_mem hx
  exact h2
theorem rect_alk {m : Nat} (h1 : 1 ≤ n) (h2 : n ≤ 65536) {M : List (List Int)} (h : rect m n M) : Alk n M := fun x hx => by
  have := h.2 x hx
  omega
theorem took_rows {M : List (List Int)} {rows : List Int} {i : Nat} (hi : i < rows.length) : rw_ (took M rows) i = rw_ M (rd rows (i : Int)).toNat := by
  rw [rd_lt hi]
  unfold took
  rw [rw_lt (by simpa using hi)]
  simp
/-- the data that are told -/
theorem dec_ok {K : Nat} (hK : 300 ≤ K) (h : Dec k r n cells) : ∃ data, isM data ∧ rect k n data ∧ codec_Decode.f K (k : Int) (r : Int) cells = some (coded n (codec_Row.M k r) data, 0) ∧
    (∀ x : Nat, (x : Int) ∈ tk k cells → rw_ (coded n (codec_Row.M k r) data) x = rw_ cells x) ∧
    (∀ d2, isM d2 → rect k n d2 → (∀ x : Nat, (x : Int) ∈ tk k cells → rw_ (coded n (codec_Row.M k r) d2) x = rw_ cells x) → data = d2) := by
  obtain ⟨V, q1, q2, q3, q4, q5⟩ := took_inv (K := K) (by omega) h.k1 h.k2 h.r4 h.tk_len h.tk_nd h.tk_rg
  obtain ⟨f1, f2⟩ := h.ff
  have hD : rect k n (coded n V (took cells (tk k cells))) := by have := coded_rect (rs := V) f1; rwa [q2.1] at this
  have bD := coded_isM n V (took cells (tk k cells))
  have hk := h.k1
  have hk2 := h.k2
  have hr := h.r4
  have hn1 := h.n1
  have hn2 := h.n2
  refine ⟨coded n V (took cells (tk k cells)), bD, hD, ?_, fun x hx => ?_, fun d2 b2 r2 e2 => ?_⟩
  · unfold codec_Decode.f
    rw [if_neg (by unfold codec_Row.bad; omega), if_pos (row_inv (by omega) (by omega) (by omega)), there_f (by omega) (by omega), if_pos (by rw [h.len]; omega), thv_like hn2 cells 0 h.like]
    simp only [Option.bind_some]
    rw [if_neg (by simp), if_neg (by have := h.cnt; omega), Int.toNat_natCast, Int.toNat_natCast]
    show codec_Decode.go K k r cells (tk k cells) = _
    unfold codec_Decode.go
    rw [if_pos ⟨h.len, h.tk_rg⟩]
    show ((matrix_Inverse.f K (took (codec_Row.M k r) (tk k cells))).bind _) = _
    rw [q1]
    simp only [Option.bind_some]
    rw [if_neg (by simp), if_pos (by rw [q2.1]; omega)]
    have e : (tk k cells).map (fun x => rd_L1 cells x) = took cells (tk k cells) := rfl
    rw [e, dots_v (n := n) (by omega) f2 (rect_alk hn1 hn2 f1) (by rw [f1.1]; omega) (by rw [f1.1]; omega) V [] (fun row hrow => ⟨q3 row hrow, by rw [q2.2 row hrow, f1.1]⟩)]
    simp only [Option.bind_some, List.nil_append]
    rw [if_neg (by simp), dots_v (n := n) (by omega) bD (rect_alk hn1 hn2 hD) (by rw [hD.1]; omega) (by rw [hD.1]; omega) _ [] (fun row hrow => by
      have hm := List.mem_of_mem_drop hrow
      exact ⟨allM_B (by omega) (by omega) row hm, by rw [(allM_rect k r).2 row hm, hD.1]⟩)]
    simp only [Option.bind_some, List.nil_append]
    rw [coded_all hk2 hr bD hD]
  · obtain ⟨i, hi, hix⟩ := List.getElem_of_mem hx
    have e : (rd (tk k cells) (i : Int)).toNat = x := by rw [rd_lt hi, hix, Int.toNat_natCast]
    have hik : i < k := by rw [h.tk_len] at hi; exact hi
    have := decoded (n := n) hk hk2 hr h.tk_len h.tk_rg q2 q3 f1 f2 q5 hik
    rw [e] at this
    rw [this, took_rows hi, e]
  · refine undone hk hk2 hr h.tk_len h.tk_rg q2 q3 f1 f2 b2 r2 q4 fun i hi => ?_
    have hi' : i < (tk k cells).length := by rw [h.tk_len]; exact hi
    rw [took_rows hi']
    have hx : rd (tk k cells) (i : Int) ∈ tk k cells := by rw [rd_lt hi']; exact List.getElem_mem _
    obtain ⟨j, _, _, hj⟩ := h.tk_mem hx
    rw [hj, Int.toNat_natCast]
    rw [hj] at hx
    exact (e2 j hx).symm
theorem dec_any {K : Nat} (hK : 300 ≤ K) {a b : Int} (hB : isM cells) :
    (¬ okK a b ∧ codec_Decode.f K a b cells = some ([], 2)) ∨
    (okK a b ∧ ¬ ((cells.length : Int) = a + b ∧ (thv cells 0).2 = true) ∧ codec_Decode.f K a b cells = some ([], 40)) ∨
    (okK a b ∧ (cells.length : Int) = a + b ∧ (thv cells 0).2 = true ∧ ((posI cells 0).length : Int) < a ∧ codec_Decode.f K a b cells = some ([], 5)) ∨
    (∃ k r n : Nat, a = k ∧ b = r ∧ Dec k r n cells) := by
  by_cases h : okK a b
  case neg => exact .inl ⟨h, by unfold codec_Decode.f; rw [if_pos (by unfold codec_Row.bad; unfold okK at h; omega)]⟩
  have hk := h
  obtain ⟨h1, h2, h3, h4⟩ := h
  have e : ∀ {x}, (codec_there.f K cells (a + b)).bind (fun t => if t.2 = false then some ([], 40) else if (t.1.length : Int) < a then some ([], 5) else codec_Decode.go K a.toNat b.toNat cells (t.1.take a.toNat)) = some x → codec_Decode.f K a b cells = some x := fun hx => by
    unfold codec_Decode.f
    rw [if_neg (by unfold codec_Row.bad; omega), if_pos (row_inv h1 h2 h4)]
    exact hx
  by_cases hl : (cells.length : Int) = a + b
  case neg => exact .inr (.inl ⟨hk, fun z => hl z.1, e (by rw [there_f (by omega) (by omega), if_neg hl]; rfl)⟩)
  cases ht : (thv cells 0).2 with
  | false => exact .inr (.inl ⟨hk, fun z => (by cases z.2), e (by rw [there_f (by omega) (by omega), if_pos hl]; simp only [Option.bind_some]; rw [if_pos ht])⟩)
  | true =>
    obtain ⟨t1, n, t2, t3⟩ := thv_posI cells 0 ht
    by_cases hc : ((posI cells 0).length : Int) < a
    · exact .inr (.inr (.inl ⟨hk, hl, rfl, hc, e (by rw [there_f (by omega) (by omega), if_pos hl]; simp only [Option.bind_some]; rw [if_neg (by rw [ht]; simp), t1, if_pos hc])⟩))
    · obtain ⟨k, rfl⟩ := Int.eq_ofNat_of_zero_le (show 0 ≤ a by omega)
      obtain ⟨r, rfl⟩ := Int.eq_ofNat_of_zero_le (show 0 ≤ b by omega)
      refine .inr (.inr (.inr ⟨k, r, n, rfl, rfl, by omega, by omega, by omega, by omega, ?_, t2, t3, by omega, hB⟩))
      cases hp : posI cells 0 with
      | nil => rw [hp] at hc; simp at hc; omega
      | cons x xs =>
        obtain ⟨j, j1, j2, j3⟩ := (posI_mem cells 0 x).1 (by rw [hp]; simp)
        have := t3 _ (rw_mem j1)
        omega
end
/-! Verify -/
theorem veq : ∀ (p q : List (List Int)), isM p → isM q → codec_Verify.eq p q = decide (p = q)
  | [], [], _, _ => rfl
  | [], _ :: _, _, _ => rfl
  | _ :: _, [], _, _ => rfl
  | x :: xs, y :: ys, hp, hq => by
    unfold codec_Verify.eq
    rw [veq xs ys (fun z hz => hp z (by simp [hz])) (fun z hz => hq z (by simp [hz]))]
    have hb : (bytes_Equal.f x y = some true) ↔ x = y := by
      unfold bytes_Equal.f
      rw [Option.some.injEq, beq_iff_eq]
      exact ⟨fun h => strOfNums_inj (hp x (by simp)) (hq y (by simp)) h, fun h => by rw [h]⟩
    by_cases e : x = y
    · rw [if_pos (hb.2 e)]
      subst e
      by_cases e2 : xs = ys
      · rw [decide_eq_true e2, decide_eq_true (by rw [e2])]
      · rw [decide_eq_false e2, decide_eq_false (fun z => e2 (List.cons.inj z).2)]
    · rw [if_neg (fun z => e (hb.1 z)), decide_eq_false (fun z => e (List.cons.inj z).1)]
theorem ver_ok {K : Nat} (hK : 300 ≤ K) {k r n : Nat} {cells : List (List Int)} (k1 : 1 ≤ k) (k2 : k ≤ 12) (r4 : r ≤ 4) (n1 : 1 ≤ n) (n2 : n ≤ 65536) (hc : rect (k + r) n cells) (hB : isM cells) :
    codec_Verify.f K (k : Int) (r : Int) cells = some (decide (coded n ((codec_Row.M k r).drop k) (cells.take k) = cells.drop k), 0) := by
  have ha := rect_alk n1 n2 hc
  obtain ⟨t1, t2⟩ := thv_alk (n := n) (l := cells) (by rw [hc.1]; omega) ha
  have hl := hc.1
  have hB2 : isM (cells.take k) := fun x hx => hB x (List.mem_of_mem_take hx)
  have hr2 : rect k n (cells.take k) := ⟨by rw [List.length_take, hl]; omega, fun x hx => hc.2 x (List.mem_of_mem_take hx)⟩
  unfold codec_Verify.f
  rw [if_neg (by unfold codec_Row.bad; omega), if_pos (row_inv (by omega) (by omega) (by omega)), there_f (by omega) (by omega), if_pos (by rw [hl]; omega)]
  simp only [Option.bind_some]
  rw [if_neg (by rw [t1]; simp), if_neg (by rw [t2, hl]; omega), if_pos (by rw [hl]; omega), Int.toNat_natCast, Int.toNat_natCast, dots_v (n := n) (by omega) hB2 (rect_alk n1 n2 hr2) (by rw [hr2.1]; omega) (by rw [hr2.1]; omega) _ [] (fun row hrow => by
      have hm := List.mem_of_mem_drop hrow
      exact ⟨allM_B (by omega) (by omega) row hm, by rw [(allM_rect k r).2 row hm, hr2.1]⟩)]
  simp only [Option.bind_some, List.nil_append]
  rw [veq _ _ (coded_isM _ _ _) (fun x hx => hB x (List.mem_of_mem_drop hx))]
theorem ver_coded {K : Nat} (hK : 300 ≤ K) {k r n : Nat} {data : List (List Int)} (k1 : 1 ≤ k) (k2 : k ≤ 12) (r4 : r ≤ 4) (n1 : 1 ≤ n) (n2 : n ≤ 65536) (hd : isM data) (hr : rect k n data) :
    codec_Verify.f K (k : Int) (r : Int) (coded n (codec_Row.M k r) data) = some (true, 0) := by
  have hc : rect (k + r) n (coded n (codec_Row.M k r) data) := by have := coded_rect (rs := codec_Row.M k r) hr; rwa [(allM_rect k r).1] at this
  rw [ver_ok hK k1 k2 r4 n1 n2 hc (coded_isM _ _ _), coded_all k2 r4 hd hr]
  have e1 : (data ++ coded n ((codec_Row.M k r).drop k) data).take k = data := by rw [← hr.1, List.take_left]
  have e2 : (data ++ coded n ((codec_Row.M k r).drop k) data).drop k = coded n ((codec_Row.M k r).drop k) data := by
    conv => lhs; arg 1; rw [← hr.1]
    rw [List.drop_left]
  rw [e1, e2, decide_eq_true rfl]
end Go.Proofs.Ythhncoogmncdkaa.Pure
namespace Go.Proofs.Ythhncoogmncdkaa.Pure
open Go Go.RowKit Go.TwoGf Go.TwoLin Go.Proofs.Ythhncoogmncdkaa Go.Proofs.Ythhncoogmncdkaa.PA Go.Proofs.YthhncoogmncdkaaW.PrintWords Go.Proofs.YthhncoogmncdkaaW.PrintLast Go.Proofs.YthhncoogmncdkaaW.PrintMore
set_option linter.unusedVariables false
theorem M21 : codec_Row.M 2 1 = [[1, 0], [0, 1], [142, 244]] := by
  have h0 : matrix_Cauchy.G ((2 : Nat) : Int) 0 0 = 142 := by rw [G_gi (by decide) (by decide) (by decide)]; decide +kernel
  have h1 : matrix_Cauchy.G ((2 : Nat) : Int) 0 1 = 244 := by rw [G_gi (by decide) (by decide) (by decide)]; decide +kernel
  show _ :: _ :: [[matrix_Cauchy.G ((2 : Nat) : Int) 0 0, matrix_Cauchy.G ((2 : Nat) : Int) 0 1]] = _
  rw [h0, h1]; rfl
instance isMDec (M : List (List Int)) : Decidable (isM M) := by unfold isM; infer_instance
theorem B_of {l : List Int} (h : (l.all fun x => decide (0 ≤ x) && decide (x < 256)) = true) : isB l := fun x hx => by
  have := List.all_eq_true.1 h x hx
  simpa using this
theorem alive_ok {K : Nat} (hK : 400 ≤ K) : twoslotlaw04_alive.ok K := by
  have b2 : ∀ {x y : Int}, 0 ≤ x ∧ x < 256 → 0 ≤ y ∧ y < 256 → ∀ b ∈ [[x], [y]], isB b := fun hx hy b hb => by
    simp only [List.mem_cons, List.not_mem_nil, or_false] at hb
    rcases hb with rfl | rfl <;> (intro z hz; rw [List.mem_singleton.1 hz]; assumption)
  have c2 : ((2 : Int)) = ((2 : Nat) : Int) := rfl
  have c1 : ((1 : Int)) = ((1 : Nat) : Int) := rfl
  have hD : Dec 2 1 1 [[], [7], [9]] := ⟨by decide, by decide, by decide, rfl, by decide, by decide, by decide, by decide, by decide⟩
  refine ⟨?_, ?_, ?_, ?_, ?_, ?_⟩
  · rw [row_f (by decide) (by decide) (by decide) (by decide) (by decide) (by decide)]
    have h0 : matrix_Cauchy.G ((2 : Nat) : Int) 0 0 = 142 := by rw [G_gi (by decide) (by decide) (by decide)]; decide +kernel
    have h1 : matrix_Cauchy.G ((2 : Nat) : Int) 0 1 = 244 := by rw [G_gi (by decide) (by decide) (by decide)]; decide +kernel
    show some ([matrix_Cauchy.G ((2 : Nat) : Int) 0 0, matrix_Cauchy.G ((2 : Nat) : Int) 0 1], (0 : Int)) = _
    rw [h0, h1]
  · rw [enc_ok (by omega) (k := 2) (r := 1) (data := [[1], [0]]) (n := 1) (by decide) rfl (by decide) (b2 (by decide) (by decide))]
    rw [show ((2 : Int).toNat) = 2 from rfl, show ((1 : Int).toNat) = 1 from rfl, M21]
    decide +kernel
  · obtain ⟨data, d1, d2, d3, d4, d5⟩ := dec_ok (K := K) (by omega) hD
    have e : data = [[227], [7]] := d5 _ (b2 (by decide) (by decide)) ⟨rfl, by decide⟩ (by
      rw [M21]
      have key : ∀ x ∈ tk 2 [[], [7], [9]], rw_ (coded 1 [[1, 0], [0, 1], [142, 244]] [[227], [7]]) x.toNat = rw_ [[], [7], [9]] x.toNat := by decide +kernel
      intro x hx
      exact key _ hx)
    rw [show (2 : Int) = ((2 : Nat) : Int) from rfl, show (1 : Int) = ((1 : Nat) : Int) from rfl] at *
    rw [d3, e, M21]
    decide +kernel
  · rcases dec_any (K := K) (by omega) (a := 2) (b := 1) (cells := [[], [], [9]]) (by decide) with ⟨h1, _⟩ | ⟨_, h1, _⟩ | ⟨_, _, _, _, h1⟩ | ⟨k, r, n, h1, h2, h3⟩
    · exact absurd (by decide) h1
    · exact absurd (by decide) h1
    · exact h1
    · have := h3.cnt
      have e : (posI [[], [], [(9 : Int)]] 0).length = 1 := by decide
      omega
  · unfold codec_Encode.f
    rw [if_neg (by decide), if_pos (row_inv (by decide) (by decide) (by decide)), there_f (by omega) (by decide), if_pos (by decide)]
    simp only [Option.bind_some]
    rw [if_neg (by decide), if_pos (by decide)]
  · have := ver_ok (K := K) (by omega) (k := 2) (r := 1) (n := 1) (cells := [[227], [7], [9]]) (by decide) (by decide) (by decide) (by decide) (by decide) ⟨rfl, by decide⟩ (by decide)
    rw [show ((2 : Int)) = ((2 : Nat) : Int) from rfl, show ((1 : Int)) = ((1 : Nat) : Int) from rfl, this, M21]
    decide +kernel
theorem alive_f {K : Nat} (hK : 400 ≤ K) : twoslotlaw04_alive.f K = some true := by
  unfold twoslotlaw04_alive.f
  rw [if_pos (alive_ok hK)]
theorem much_l0 (l : List (List Int)) (hl : l.length ≤ 60) : ∀ (d k i : Nat), i + d = l.length → d < k → ∃ b, twoslotlaw04_much.l0 k l (i : Int) = some b
  | 0, k, i, hi, hk => by
    obtain ⟨k, rfl⟩ : ∃ m, k = m + 1 := ⟨k - 1, by omega⟩
    exact ⟨false, by simp only [twoslotlaw04_much.l0]; rw [if_neg (by omega)]⟩
  | d + 1, k, i, hi, hk => by
    obtain ⟨k, rfl⟩ : ∃ m, k = m + 1 := ⟨k - 1, by omega⟩
    obtain ⟨b, hb⟩ := much_l0 l hl d k (i + 1) (by omega) (by omega)
    rw [show ((i + 1 : Nat) : Int) = (i : Int) + 1 by omega] at hb
    simp only [twoslotlaw04_much.l0]
    rw [if_pos (by omega), if_pos (by omega), wrap_s (by omega) (by omega), hb]
    by_cases h1 : ((rd_L1 l i).length : Int) > 3000
    · rw [if_pos h1]
      by_cases h2 : ((rd_L1 l i).length : Int) ≤ 65536
      · rw [if_pos h2]; exact ⟨_, rfl⟩
      · rw [if_neg h2]
        by_cases h3 : ((rd_L1 l i).length : Int) > 70000
        · rw [if_pos h3]; exact ⟨_, rfl⟩
        · rw [if_neg h3]; exact ⟨_, rfl⟩
    · rw [if_neg h1]
      by_cases h3 : ((rd_L1 l i).length : Int) > 70000
      · rw [if_pos h3]; exact ⟨_, rfl⟩
      · rw [if_neg h3]; exact ⟨_, rfl⟩
theorem much_f {K : Nat} (hK : 62 ≤ K) (l : List (List Int)) : twoslotlaw04_much.f K l = some true ∨ (twoslotlaw04_much.f K l = some false ∧ l.length ≤ 60) := by
  unfold twoslotlaw04_much.f
  by_cases h : (l.length : Int) > 60
  · rw [if_pos h]; exact .inl rfl
  · rw [if_neg h]
    obtain ⟨b, hb⟩ := much_l0 l (by omega) l.length K 0 (by omega) (by omega)
    rw [show ((0 : Nat) : Int) = 0 from rfl] at hb
    rw [hb]
    cases b
    · exact .inr ⟨rfl, by omega⟩
    · exact .inl rfl
end Go.Proofs.Ythhncoogmncdkaa.Pure
-- written by the session's own program (wip/prt.py) over the kit's print: not print.sh's own text
namespace Go.Proofs.Ythhncoogmncdkaa.PA
open Go.RowKit Go.Proofs.YthhncoogmncdkaaW.PrintWords Go.Proofs.YthhncoogmncdkaaW.PrintLast Go.Proofs.YthhncoogmncdkaaW.PrintMore
attribute [local go_sem] max2_int min2_int max_two min_two max_three min_three max_four min_four   -- for this text's walks alone
set_option linter.unusedVariables false
set_option linter.unusedSimpArgs false

/-! ### twoslotlaw04_CodecAny: function 5 -/
theorem twoslotlaw04_CodecAny.i2 : (Try.prog.info? 23).map (fun i => (i.zero, i.size, i.bytes)) = some (some (.slice none 0 0), 1, 24) := by kernel_rfl
/-- cells that are taken away -/
def twoslotlaw04_CodecAny.del (all : List (List Int)) (D : List Nat) : List (List Int) := D.foldl (fun T n => T.set n []) all
theorem twoslotlaw04_CodecAny.del_snoc (all : List (List Int)) (D : List Nat) (n : Nat) : (twoslotlaw04_CodecAny.del all D).set n [] = twoslotlaw04_CodecAny.del all (D ++ [n]) := by simp [twoslotlaw04_CodecAny.del]
theorem twoslotlaw04_CodecAny.del_len (all : List (List Int)) : ∀ (D : List Nat), (twoslotlaw04_CodecAny.del all D).length = all.length := by
  have key : ∀ (D : List Nat) (T : List (List Int)), (D.foldl (fun T n => T.set n []) T).length = T.length := by
    intro D
    induction D with
    | nil => intro T; rfl
    | cons n D ih => intro T; rw [List.foldl_cons, ih, List.length_set]
  intro D
  exact key D all
/-- the first parity cell is wrong -/
def twoslotlaw04_CodecAny.wrong (all : List (List Int)) (n : Nat) : List (List Int) := all.set n ((rw_ all n).set 0 (Go.bits .xor .u8 (rd (rw_ all n) 0) 1))
def twoslotlaw04_CodecAny.good (k : Nat) (a0 a1 : Int) (l2 p : List (List Int)) : Prop :=
  p.length = a1.toNat ∧ 1 ≤ a0 ∧ a0 ≤ 12 ∧ 0 ≤ a1 ∧ a1 ≤ 4 ∧ l2.length = a0.toNat ∧ (∀ y ∈ l2 ++ p, 1 ≤ y.length) ∧
  (∀ D : List Nat, D.length ≤ a1.toNat → codec_Decode.f k a0 a1 (twoslotlaw04_CodecAny.del (l2 ++ p) D) = some (l2 ++ p, 0)) ∧ twoslotref02_SameAll.f k (l2 ++ p) (l2 ++ p) = some true ∧ codec_Verify.f k a0 a1 (l2 ++ p) = some (true, 0) ∧ twoslotref02_Twin.f k (l2 ++ p) = some (l2 ++ p) ∧ (a1 ≠ 0 → codec_Verify.f k a0 a1 (twoslotlaw04_CodecAny.wrong (l2 ++ p) a0.toNat) = some (false, 0))
def twoslotlaw04_CodecAny.ok (k : Nat) (a0 a1 : Int) (l2 : List (List Int)) (l3 : List Int) : Prop :=
  twoslotlaw04_alive.f k = some true ∧ ∃ b0, twoslotlaw04_much.f k l2 = some b0 ∧ (b0 = false → ∃ (p : List (List Int)) (e : Int), codec_Encode.f k a0 a1 l2 = some (p, e) ∧ (e ≠ 0 → p = []) ∧ (e = 0 → twoslotlaw04_CodecAny.good k a0 a1 l2 p))
set_option maxHeartbeats 16000000 in
set_option maxRecDepth 100000 in
theorem twoslotlaw04_CodecAny.calls (k : Nat) (a0 : Int) (a1 : Int) (A2 : Option Addr) (c2 : Nat) (l2 : List (List Int)) (A3 : Option Addr) (c3 : Nat) (l3 : List Int) (w : World) (hr2 : Kd.C (Kd.slice 5 (Kd.int .u8)) w A2 l2.length l2) (hc2 : l2.length ≤ c2) (hr3 : Kd.C (Kd.int .i64) w A3 l3.length l3) (hc3 : l3.length ≤ c3) (h : twoslotlaw04_CodecAny.ok k a0 a1 l2 l3) :
    Calls Try.prog 5 #[.int .i64 a0, .int .i64 a1, .slice A2 l2.length c2, .slice A3 l3.length c3] w fun e w' => e = .returned (.bool true) ∧ Below w.heap.size w w' := by
  obtain ⟨hal, b0, hm0, h⟩ := h
  have F2 := Lib.hid hr2
  have G2 := Lib.hid hc2
  have F3 := Lib.hid hr3
  have G3 := Lib.hid hc3
  have HAL := Lib.hid hal
  have HM0 := Lib.hid hm0
  have H := Lib.hid h
  have HB := Lib.hid (Below.refl w.heap.size w)
  clear hr2 hc2 hr3 hc3 hal hm0 h
  go_enter Try.func5, Try.ntmps5
  go_wp2_with fail
  refine (twoslotlaw04_alive.calls k true _ HAL.out).mono ?_
  rintro en w1 ⟨rfl, hb⟩
  have hbn := hb
  replace F2 := Lib.hid (Kd.C_below F2.out hbn)
  replace F3 := Lib.hid (Kd.C_below F3.out hbn)
  replace HB := Lib.hid (below_step HB.out hbn)
  clear hbn hb
  go_wp2_with fail
  refine (twoslotlaw04_much.calls k A2 c2 l2 b0 _ F2.out G2.out HM0.out).mono ?_
  rintro en w2 ⟨rfl, n_, hw_⟩
  have hbn : Below (World.heap w1).size w1 w2 := by rw [hw_]; exact pw_below_drewN (Below.refl _ _) n_
  clear hw_
  replace F2 := Lib.hid (Kd.C_below F2.out hbn)
  replace F3 := Lib.hid (Kd.C_below F3.out hbn)
  replace HB := Lib.hid (below_step HB.out hbn)
  clear hbn
  cases b0 with
  | true =>
    go_wp2_with fail
    go_ret
    exact ⟨rfl, HB.out⟩
  | false =>
    obtain ⟨p, e, he, hx, hg⟩ := H.out rfl
    have HE := Lib.hid he
    have HX := Lib.hid hx
    have HG := Lib.hid hg
    clear he hx hg H
    go_wp2_with fail
    refine (codec_Encode.calls k a0 a1 A2 c2 l2 p e _ F2.out G2.out HE.out).mono ?_
    rintro en w3 ⟨v1, rfl, ho, hb⟩
    have hbn := hb
    replace F2 := Lib.hid (Kd.C_below F2.out hbn)
    replace F3 := Lib.hid (Kd.C_below F3.out hbn)
    replace HB := Lib.hid (below_step HB.out hbn)
    obtain ⟨Ap, cp, rfl⟩ := Kd.S_slice ho
    have Fp := Lib.hid (Kd.S_reads' ho).2.2
    have Gp := Lib.hid (Kd.S_reads' ho).2.1
    clear ho
    clear hbn hb
    by_cases hez : e = 0
    case neg =>
      have hb1 : (e != 0) = true := bne_iff_ne.mpr hez
      have hb2 : (e == 0) = false := beq_eq_false_iff_ne.mpr hez
      have hpn := HX.out hez
      subst hpn
      clear hez
      go_wp2_with fail
      go_ret
      exact ⟨by first | rfl | simp, HB.out⟩
    subst hez
    obtain ⟨g1, g2, g3, g4, g5, g6, g7, g8, g9, g10, g11, g12⟩ := HG.out rfl
    clear HG HX
    obtain ⟨K, rfl⟩ := Int.eq_ofNat_of_zero_le (show 0 ≤ a0 by omega)
    obtain ⟨R, rfl⟩ := Int.eq_ofNat_of_zero_le g4
    rw [Int.toNat_natCast] at g1 g6 g8 g12
    obtain ⟨al, hal⟩ : ∃ al, al = l2 ++ p := ⟨_, rfl⟩
    rw [← hal] at g7 g8 g9 g10 g11 g12
    have HAE := Lib.hid hal
    clear hal
    have HG2 := Lib.hid g2
    have HG3 := Lib.hid g3
    have HG5 := Lib.hid g5
    have HG7 := Lib.hid g7
    have HG8 := Lib.hid g8
    have HG9 := Lib.hid g9
    have HG10 := Lib.hid g10
    have HG11 := Lib.hid g11
    have HG12 := Lib.hid g12
    clear g2 g3 g4 g5 g7 g8 g9 g10 g11 g12
    have hlp : ((p.length : Int) != (R : Int)) = false := by rw [g1]; exact bne_self_eq_false _
    have HL2 := Lib.hid g6
    have HLP := Lib.hid g1
    clear g1 g6
    obtain ⟨td, hd1, hd2⟩ := RowsC.of_C' F2.out
    obtain ⟨tp, hp1, hp2⟩ := RowsC.of_C' Fp.out
    have HD1 := Lib.hid hd1
    have HD2 := Lib.hid hd2
    have HP1 := Lib.hid hp1
    have HP2 := Lib.hid hp2
    clear hd1 hd2 hp1 hp2
    have hdl : td.length = l2.length := HD1.out.1
    have hpl : tp.length = p.length := HP1.out.1
    have HDL := Lib.hid hdl
    have HPL := Lib.hid hpl
    clear hdl hpl
    have HRC := Lib.hid (show RowsC w3 ((td ++ tp).map sl) al by rw [HAE.out, List.map_append]; exact HD2.out.append HP2.out)
    have HPC := Lib.hid (show Kd.C KS w3 Ap p.length tp from HP1.out)
    have HAR := Lib.hid (show al.length = K + R by rw [HAE.out, List.length_append, HL2.out, HLP.out])
    have HLL := Lib.hid (show al.length = l2.length + p.length by rw [HAE.out, List.length_append])
    have HLA := Lib.hid (show al.length ≤ 16 by have := HL2.out; have := HLP.out; have := HG3.out; have := HG5.out; rw [HAE.out, List.length_append]; omega)
    clear HD2 HP2 HP1
    go_upto_block 0 with (first | ((with_reducible refine gate_builtin (b := .append) (xs := #[.tmp 41, .tmp 42]) rfl ?_); (try (refine gate_guard (by rfl) ?_; dsimp only)); at_builtin; refine Kd.R_append_rows KS (w0 := w3) w3.heap.size rfl (.tmp 41) (.tmp 42) 24 23 (.slice none 0 0) 24 rfl Try.underlying24 twoslotlaw04_CodecAny.i2 rfl (by decide) (by omega) (.slice none 0 0) [] td _ _ _ (fun _ => True) (fun _ => False) rfl rfl (Kd.R_nil _ _ _ _ _) HD1.out (fun _ _ h => h) (fun _ h => h.elim) (fun _ _ => trivial) (Below.refl _ _) (Nat.le_refl _) (by have h1 := HLA.out; have h2 := HDL.out; have h3 := HPL.out; have h4 := HLL.out; simp; omega) ?_; intro va wa ho hb hg_ hat_; rw [List.nil_append] at ho; have HO1 := Lib.hid ho; have HBA := Lib.hid hb; clear ho hb hg_ hat_) | ((with_reducible refine gate_builtin (b := .append) (xs := #[.tmp 44, .tmp 45]) rfl ?_); (try (refine gate_guard (by rfl) ?_; dsimp only)); at_builtin; refine Kd.R_append_rows KS (w0 := w3) w3.heap.size rfl (.tmp 44) (.tmp 45) 24 23 (.slice none 0 0) 24 rfl Try.underlying24 twoslotlaw04_CodecAny.i2 rfl (by decide) (by omega) _ td tp _ _ _ (fun _ => True) (fun _ => False) rfl rfl HO1.out (Kd.C_below HPC.out HBA.out) (fun _ _ h => h) (fun _ h => h.elim) (fun _ _ => trivial) HBA.out HBA.out.size (by have h1 := HLA.out; have h2 := HDL.out; have h3 := HPL.out; have h4 := HLL.out; simp; omega) ?_; intro vb wb ho hb hg_ hat_; have HO2 := Lib.hid ho; have HBB := Lib.hid hb; clear ho hb hg_ hat_ HO1 HBA; obtain ⟨Aa, ca, eva, hva, hvb, hvc⟩ := RowsC.of_sl HO2.out (HRC.out.below HBB.out); subst eva; have GA := Lib.hid hva; have FA := Lib.hid hvb; have HA2 := Lib.hid hvc; clear hva hvb hvc HO2) | ((with_reducible refine gate_builtin (b := .append) (xs := #[.tmp 47, .tmp 48]) rfl ?_); (try (refine gate_guard (by rfl) ?_; dsimp only)); at_builtin; refine Kd.R_append_rows KS (w0 := wb) wb.heap.size rfl (.tmp 47) (.tmp 48) 24 23 (.slice none 0 0) 24 rfl Try.underlying24 twoslotlaw04_CodecAny.i2 rfl (by decide) (by omega) (.slice none 0 0) [] (td ++ tp) _ _ _ (fun _ => True) (fun _ => False) rfl rfl (Kd.R_nil _ _ _ _ _) HA2.out (fun _ _ h => h) (fun _ h => h.elim) (fun _ _ => trivial) (Below.refl _ _) (Nat.le_refl _) (by have h1 := HLA.out; have h2 := HDL.out; have h3 := HPL.out; have h4 := HLL.out; simp; omega) ?_; intro vc wc ho hb hg_ hat_; rw [List.nil_append] at ho; have HO3 := Lib.hid ho; have HBC := Lib.hid hb; clear ho hb hg_ hat_ HA2))
    replace F2 := Lib.hid (Kd.C_below F2.out HBB.out)
    replace F3 := Lib.hid (Kd.C_below F3.out HBB.out)
    replace HB := Lib.hid (below_step HB.out HBB.out)
    replace HRC := Lib.hid (HRC.out.below HBB.out)
    clear HBB Fp HPC HD1 Gp
    have hlt : 0 < (td ++ tp).length := by have := HDL.out; have := HL2.out; have := HG2.out; rw [List.length_append]; omega
    obtain ⟨gs, cs, evc, hgs, -, -⟩ := Kd.R_form HO3.out hlt
    subst evc
    clear hlt
    have HTL := Lib.hid (show (td ++ tp).length = al.length by rw [HAE.out, List.length_append, List.length_append, HDL.out, HPL.out])
    rw [HTL.out] at HO3 ⊢
    have HGS := Lib.hid hgs
    clear hgs
    have HFL := Lib.hid (Full.start HRC.out HG7.out)
    generalize td ++ tp = ta at HO3 HRC HFL HTL
    clear HDL HPL HLP
    go_cut [13] (fun v13 wx => v13 = .slice (some ⟨gs, 0, none⟩) al.length cs ∧ ∃ (D : List Nat) (ts : List (Option Addr × Nat × Nat)), D.length ≤ R ∧ Hid (KS.R 23 wx wb.heap.size (fun _ => True) (.slice (some ⟨gs, 0, none⟩) al.length cs) ts) ∧ Hid (RowsC wb (ts.map sl) (twoslotlaw04_CodecAny.del al D)) ∧ Hid (Below wb.heap.size wb wx))
    case first =>
      go_wp2_with fail
      go_loopg [14, 15, 16] 60 (fun gk s14 s15 s16 wx => ∃ (i : Nat) (D : List Nat) (ts : List (Option Addr × Nat × Nat)), i + gk = 60 ∧ s15 = .int .i64 i ∧ s14 = .int .i64 (D.length : Int) ∧ D.length ≤ R ∧ Hid (KS.R 23 wx wb.heap.size (fun _ => True) (.slice (some ⟨gs, 0, none⟩) al.length cs) ts) ∧ Hid (RowsC wb (ts.map sl) (twoslotlaw04_CodecAny.del al D)) ∧ Hid (Full ts (twoslotlaw04_CodecAny.del al D)) ∧ Hid (Below wb.heap.size wb wx))
      case atStart => exact ⟨0, [], ta, by omega, rfl, rfl, Nat.zero_le _, HO3, HRC, HFL, HBC⟩
      case round =>
        clear HO3 HRC HFL HBC
        obtain ⟨i, D, ts, hig, rfl, rfl, hDR, HS, HRS, HFS, HN⟩ := hrel
        by_cases h1 : (i : Int) < (l3.length : Int)
        case neg =>
          have h1b : decide ((i : Int) < (l3.length : Int)) = false := decide_eq_false h1
          have h1c : ¬ i < l3.length := by omega
          have h1d : decide (i < l3.length) = false := decide_eq_false h1c
          go_wp2_with fail
          go_meet
          case rel => exact ⟨rfl, D, ts, hDR, HS, HRS, HN⟩
        have h1b : decide ((i : Int) < (l3.length : Int)) = true := decide_eq_true h1
        have h1c : i < l3.length := by omega
        have h1d : decide (i < l3.length) = true := decide_eq_true h1c
        cases gk with
        | zero =>
          obtain rfl : i = 60 := by omega
          go_wp2_with fail
          go_meet
          case rel => exact ⟨rfl, D, ts, hDR, HS, HRS, HN⟩
        | succ d =>
          have h2 : (i : Int) < 60 := by omega
          have h2b : decide ((i : Int) < 60) = true := decide_eq_true h2
          have h2c : i < 60 := by omega
          have h2d : decide (i < 60) = true := decide_eq_true h2c
          by_cases h3 : ((D.length : Int)) < (R : Int)
          case neg =>
            have h3b : decide ((D.length : Int) < (R : Int)) = false := decide_eq_false h3
            have h3c : ¬ D.length < R := by omega
            have h3d : decide (D.length < R) = false := decide_eq_false h3c
            go_wp2_with fail
            go_meet
            case rel => exact ⟨rfl, D, ts, hDR, HS, HRS, HN⟩
          have h3b : decide ((D.length : Int) < (R : Int)) = true := decide_eq_true h3
          have h3c : D.length < R := by omega
          have h3d : decide (D.length < R) = true := decide_eq_true h3c
          obtain ⟨ad3, r3, hx3⟩ := Kd.at_int (Kd.C_below F3.out HN.out) (i : Int) (by omega) h1
          subst r3
          have hx32 : wr.cell? (ad3.add i) = some (.int .i64 (rd l3 (i : Int))) := hx3
          clear hx3
          have hN0 : (0 : Int) < (al.length : Int) := by have := HAR.out; have := HG2.out; omega
          have hkr : wrap64 ((K : Int) + (R : Int)) = (al.length : Int) := by have := HAR.out; have := HG3.out; have := HG5.out; unfold wrap64; omega
          have hnz : ((al.length : Int) == 0) = false := beq_eq_false_iff_ne.mpr (by omega)
          have hnz2 : ¬ ((al.length : Int) = 0) := by omega
          have t1 := Int.tmod_lt_of_pos (rd l3 (i : Int)) hN0
          have t2 := Int.lt_tmod_of_pos (rd l3 (i : Int)) hN0
          have hw1 : wrap64 (Int.tmod (rd l3 (i : Int)) (al.length : Int) + (K : Int)) = Int.tmod (rd l3 (i : Int)) (al.length : Int) + (K : Int) := by have := HAR.out; have := HG3.out; have := HG5.out; clear hkr; generalize Int.tmod (rd l3 (i : Int)) (al.length : Int) = t at t1 t2 ⊢; unfold wrap64; omega
          have hw2 : wrap64 (Int.tmod (rd l3 (i : Int)) (al.length : Int) + (K : Int) + (R : Int)) = Int.tmod (rd l3 (i : Int)) (al.length : Int) + (K : Int) + (R : Int) := by have := HAR.out; have := HG3.out; have := HG5.out; clear hkr hw1; generalize Int.tmod (rd l3 (i : Int)) (al.length : Int) = t at t1 t2 ⊢; unfold wrap64; omega
          have t3 := Int.tmod_nonneg (a := Int.tmod (rd l3 (i : Int)) (al.length : Int) + (K : Int) + (R : Int)) (al.length : Int) (by have := HAR.out; clear hkr hw1 hw2; omega)
          have t4 := Int.tmod_lt_of_pos (Int.tmod (rd l3 (i : Int)) (al.length : Int) + (K : Int) + (R : Int)) hN0
          obtain ⟨n, hn⟩ := Int.eq_ofNat_of_zero_le t3
          rw [hn] at t4
          clear t1 t2 t3
          have hnl : n < al.length := by clear hkr hw1 hw2 hn; omega
          have hn0 : (0 : Int) ≤ (n : Int) := Int.natCast_nonneg n
          obtain ⟨hxs, hfs⟩ := Kd.R_celln noSl HS.out (n : Int) hn0 t4
          have HP := Kd.R_putg HS.out (n : Int) noSl
          simp only [Int.toNat_natCast] at hxs hfs HP
          have HP2 := Lib.hid HP
          clear HP
          have htl : ts.length = al.length := (Kd.R_reads' HS.out).1.symm
          obtain ⟨xn, hxn0⟩ : ∃ xn, rdOf noSl ts (n : Int) = xn := ⟨_, rfl⟩
          have hts : ts[n]? = some xn := by rw [← hxn0]; simp [rdOf, htl, hnl]
          have hFn : xn = noSl ∨ ∃ ad, xn.1 = some ad := by rcases HFS.out n xn _ hts (List.getElem?_eq_getElem (by rw [twoslotlaw04_CodecAny.del_len]; exact hnl)) with ⟨h, _⟩ | ⟨h, _⟩ <;> (first | exact .inl h | exact .inr h)
          rw [hxn0] at hxs
          clear hxn0 hts htl
          have HNL := Lib.hid hnl
          have HI := Lib.hid (show i + 1 ≤ 60 by clear hkr hw1 hw2 hn; omega)
          have HIG := Lib.hid hig
          have HDR := Lib.hid hDR
          clear hnl hig hDR
          have H3 := Lib.hid h3
          rcases hFn with hxn | ⟨adn, hxn⟩
          · subst hxn
            have hxs2 : wr.cell? ⟨gs, n, none⟩ = some (.slice none 0 0) := hxs
            clear hxs
            have hq := fun W : World => run_neq_slice_nil (P := Try.prog) W 23 5 none 0 0 Try.underlying23
            go_wp2_with fail
            go_roundg d
            case measure => omega
            case rel => exact ⟨i + 1, D, ts, by have := HIG.out; omega, by first | rfl | (have := HI.out; rw [show wrap64 ((i : Int) + 1) = ((i + 1 : Nat) : Int) by clear hkr hw1 hw2 hn; unfold wrap64; omega]), rfl, HDR.out, HS, HRS, HFS, HN⟩
          · obtain ⟨x1, x2, x3⟩ := xn
            have hx1 : x1 = some adn := hxn
            subst hx1
            have hxs2 : wr.cell? ⟨gs, n, none⟩ = some (.slice (some adn) x2 x3) := hxs
            clear hxs hxn
            have hq := fun W : World => run_neq_slice_nil (P := Try.prog) W 23 5 (some adn) x2 x3 Try.underlying23
            go_wp2_with fail
            go_roundg d
            case measure => omega
            case rel => exact ⟨i + 1, D ++ [n], ts.set n noSl, by have := HIG.out; omega, by first | rfl | (have := HI.out; rw [show wrap64 ((i : Int) + 1) = ((i + 1 : Nat) : Int) by clear hkr hw1 hw2 hn; unfold wrap64; omega]), by have h5 := HG5.out; have h6 := h3c; first | (rw [List.length_append]; rfl) | rw [show wrap64 ((D.length : Int) + 1) = ((D ++ [n]).length : Int) by clear hkr hw1 hw2 hn; rw [List.length_append]; unfold wrap64; simp; omega], by have := h3c; rw [List.length_append]; simp; omega, Lib.hid HP2.out.1, Lib.hid (by rw [← twoslotlaw04_CodecAny.del_snoc]; exact HRS.out.set n), Lib.hid (by rw [← twoslotlaw04_CodecAny.del_snoc]; exact HFS.out.set n), Lib.hid (below_set HN.out HGS.out)⟩
    case rest =>
      obtain ⟨rfl, D, ts, hDR, HS, HRS, HN⟩ := hcut
      obtain ⟨As, cs', evs, hs1, hs2, -⟩ := RowsC.of_sl HS.out (HRS.out.below HN.out)
      injection evs with e1 e2 e3
      subst e1 e3
      have HD := Lib.hid (HG8.out D hDR)
      have HSC := Lib.hid hs2
      have HSL := Lib.hid hs1
      clear hDR hs1 hs2 e2 HS HRS HO3 HFL HTL HRC HBC
      replace F2 := Lib.hid (Kd.C_below F2.out HN.out)
      replace FA := Lib.hid (Kd.C_below FA.out HN.out)
      replace HB := Lib.hid (below_step HB.out HN.out)
      clear HN F3 HGS
      have hcall := codec_Decode.calls k K R (some ⟨gs, 0, none⟩) cs (twoslotlaw04_CodecAny.del al D) al 0 _ HSC.out HSL.out HD.out
      rw [twoslotlaw04_CodecAny.del_len] at hcall
      have HCALL := Lib.hid hcall
      clear hcall HSC HSL HD
      go_wp2_with fail
      refine HCALL.out.mono ?_
      rintro en wd ⟨v1, rfl, ho, hbn⟩
      clear HCALL
      replace FA := Lib.hid (Kd.C_below FA.out hbn)
      replace F2 := Lib.hid (Kd.C_below F2.out hbn)
      replace HB := Lib.hid (below_step HB.out hbn)
      clear hbn
      obtain ⟨Ad, cd, rfl⟩ := Kd.N_slice ho
      have FD := Lib.hid (Kd.N_reads' ho).2.2
      have GD := Lib.hid (Kd.N_reads' ho).2.1
      clear ho
      go_wp2_with fail
      refine (twoslotref02_SameAll.calls k Ad cd al Aa ca al true _ FD.out GD.out FA.out GA.out HG9.out).mono ?_
      rintro en w4 ⟨rfl, n_, hw_⟩
      have hbn : Below (World.heap wd).size wd w4 := by rw [hw_]; exact pw_below_drewN (Below.refl _ _) n_
      clear hw_
      replace FA := Lib.hid (Kd.C_below FA.out hbn)
      replace FD := Lib.hid (Kd.C_below FD.out hbn)
      replace HB := Lib.hid (below_step HB.out hbn)
      clear hbn
      clear FD GD
      go_wp2_with fail
      refine (codec_Verify.calls k K R Aa ca al true 0 _ FA.out GA.out HG10.out).mono ?_
      rintro en w5 ⟨rfl, hb⟩
      have hbn := hb
      replace FA := Lib.hid (Kd.C_below FA.out hbn)
      replace HB := Lib.hid (below_step HB.out hbn)
      clear hbn hb
      by_cases hr0 : R = 0
      case pos =>
        subst hr0
        go_wp2_with fail
        go_ret
        exact ⟨by first | rfl | simp, HB.out⟩
      have hr1 : ((R : Int) == 0) = false := beq_eq_false_iff_ne.mpr (by omega)
      have hr2 : ¬ ((R : Int) = 0) := by omega
      have HV := Lib.hid (HG12.out hr2)
      have HB5 := HB
      go_wp2_with fail
      refine (twoslotref02_Twin.calls k Aa ca al al _ FA.out GA.out HG11.out).mono ?_
      rintro en w6 ⟨v1, rfl, ho, hb⟩
      have hbn := hb
      replace FA := Lib.hid (Kd.C_below FA.out hbn)
      replace HB := Lib.hid (below_step HB.out hbn)
      clear hbn hb
      have HO := Lib.hid ho
      clear ho
      have hlt : 0 < al.length := by have := HAR.out; have := HG2.out; omega
      obtain ⟨gt, ct, evt, hgt, -, -⟩ := Kd.S_form HO.out hlt
      subst evt
      have hKl : (K : Int) < (al.length : Int) := by have := HAR.out; omega
      have hK0 : (0 : Int) ≤ (K : Int) := Int.natCast_nonneg K
      obtain ⟨oki, c, -, hM, hcc, -, hback⟩ := Kd.S_borrow HO.out [] (K : Int) hK0 hKl
      obtain ⟨v, rfl, hv⟩ := hM
      obtain ⟨row, hrow⟩ : ∃ row, row = rw_ al K := ⟨_, rfl⟩
      have hv2 : Kd.R (Kd.int .u8) 5 w6 w5.heap.size oki v row := by rw [hrow]; exact hv
      have hKn : K < al.length := by omega
      have hm : rw_ al K ∈ al := by simp [rw_, hKn]
      have hrl : 0 < row.length := Nat.lt_of_lt_of_le Nat.one_pos (by rw [hrow]; exact HG7.out _ hm)
      clear hm
      obtain ⟨gr, cr, evr, hgr, -, -⟩ := Kd.R_form hv2 hrl
      subst evr
      obtain ⟨hx, hf⟩ := Kd.R_celln 0 hv2 0 (Int.le_refl _) (by omega)
      have HP := Kd.R_putg hv2 0 (Go.bits .xor .u8 (rd row 0) 1)
      have hrd : rdOf 0 row 0 = rd row 0 := rfl
      rw [hrd] at hx
      simp only [Int.toNat_zero] at hx hf HP
      have HS2 := Lib.hid (hback HP.2 (fun k_ hk_ => by injection hk_ with hk_; rw [← hk_]; exact hv2.1 gr rfl) ⟨_, rfl, HP.1⟩)
      have hxo : w6.cell? ⟨gt, K, none⟩ = some (.slice (some ⟨gr, 0, none⟩) row.length cr) := by have := hcc 0 _ rfl; rw [add_plain] at this; simpa [Kd.slice] using this
      have hxi : w6.cell? ⟨gr, 0, none⟩ = some (.int .u8 (rd row 0)) := hx
      have hfi : w6.frozen? ⟨gr, 0, none⟩ = false := hf
      have HGR := Lib.hid (show w.heap.size ≤ gr from Nat.le_trans HB5.out.size hgr)
      have HROW := Lib.hid hrow
      have hrl2 : (0 : Int) < (row.length : Int) := by omega
      clear hback hcc hv hv2 hx hf HP hrd hgt hgr hrow hlt
      go_wp2_with fail
      go_still_tail 12, (by kernel_rfl)
      (try (repeat still_step; refine wpStill_nil ?_))
      change wpList _ _ _ _ _ w6.drew
      have hxi2 : w6.drew.cell? ⟨gr, 0, none⟩ = some (.int .u8 (rd row 0)) := hxi
      have hfi2 : w6.drew.frozen? ⟨gr, 0, none⟩ = false := hfi
      clear hxi hfi hxo
      go_wp2_with fail
      have hwl : (twoslotlaw04_CodecAny.wrong al K).length = al.length := by simp [twoslotlaw04_CodecAny.wrong]
      have hS3 : Kd.S (Kd.slice 5 (Kd.int .u8)) 23 (w6.setCell ⟨gr, 0, none⟩ (.int .u8 (Go.bits .xor .u8 (rd row 0) 1))) w5.heap.size (fun _ => True) (.slice (some ⟨gt, 0, none⟩) al.length ct) (twoslotlaw04_CodecAny.wrong al K) := by have := HS2.out; rw [HROW.out] at this ⊢; exact this
      obtain ⟨-, h5, h6⟩ := Kd.S_reads' (Kd.S_drew hS3)
      have hcall := codec_Verify.calls k K R (some ⟨gt, 0, none⟩) ct (twoslotlaw04_CodecAny.wrong al K) false 0 _ h6 (by rw [hwl]; exact h5) HV.out
      rw [hwl] at hcall
      refine hcall.mono ?_
      rintro en w7 ⟨rfl, hb⟩
      have HB7 := Lib.hid (below_step (below_drew1 (below_set HB.out HGR.out)) hb)
      clear hb hcall hS3 h5 h6 hwl
      go_wp2_with fail
      go_ret
      exact ⟨by first | rfl | simp, HB7.out⟩

end Go.Proofs.Ythhncoogmncdkaa.PA
