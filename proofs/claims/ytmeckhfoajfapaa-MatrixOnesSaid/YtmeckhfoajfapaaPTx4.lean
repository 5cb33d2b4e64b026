-- written by the session's own program (wip/prt.py) over the kit's print: not print.sh's own text
import Derived.Test.YtmeckhfoajfapaaPTx0
import Derived.Test.YtmeckhfoajfapaaPTx3
namespace Go.Proofs.Ytmeckhfoajfapaa.PT
open Go.RowKit Go.Proofs.YtmeckhfoajfapaaW.PrintWords Go.Proofs.YtmeckhfoajfapaaW.PrintLast Go.Proofs.YtmeckhfoajfapaaW.PrintMore
attribute [local go_sem] max2_int min2_int max_two min_two max_three min_three max_four min_four   -- for this text's walks alone
set_option linter.unusedVariables false
set_option linter.unusedSimpArgs false

/-! ### matrix_twin: function 39 -/
theorem matrix_twin.info : (Try.prog.info? 34).map (fun i => (i.zero, i.size, i.bytes)) = some (some (.slice none 0 0), 1, 24) := by kernel_rfl
theorem matrix_twin.eql_nil (a : Option Addr) (n c n' c' : Nat) (w : World) : (binOp .eql 23 (.slice a n c) (.slice none n' c')).run Try.prog w = .ok (.bool a.isNone) w := by
  simp only [binOp]
  simp [Op.equal, Op.maxDepth, Lib.run_equalIn_slice_nil w 9999 23 34 a n c n' c' Try.underlying23]
set_option maxHeartbeats 400000 in
theorem matrix_twin.clone (A0 : Option Addr) (c0 : Nat) (l0 : List (List Int)) (w : World) (hr0 : Kd.C (Kd.slice 5 (Kd.int .u8)) w A0 l0.length l0) (hlim : l0.length ≤ 100) :
    Calls Try.prog 51 #[.slice A0 l0.length c0] w fun e w' => ∃ (v0_ : Value) (rows : List (List Value)), e = .returned (v0_) ∧ Kd.R (Kd.raw 1) 34 w' w.heap.size (fun _ => True) v0_ rows ∧ rows.length = l0.length ∧ Below w.heap.size w w' := by
  cases A0 with
  | none =>
    have hl : l0.length = 0 := by
      rcases Nat.eq_zero_or_pos l0.length with h | h
      · exact h
      · obtain ⟨ad, h1, _⟩ := hr0.2.2 h; cases h1
    obtain rfl := List.length_eq_zero_iff.1 hl
    have he := matrix_twin.eql_nil none 0 c0 0 0 w
    clear hr0
    go_enter Try.func51, Try.ntmps51
    go_wp2_with fail
    go_ret
    exact ⟨_, [], rfl, Kd.R_nil _ _ _ _ _, rfl, Below.refl _ _⟩
  | some ad =>
    obtain ⟨news, hnl, hnr, hnx⟩ := Kd.reads_raw hr0 (fun x c h => ⟨(Kd.slice 5 (Kd.int .u8)).K_len h, (Kd.slice 5 (Kd.int .u8)).K_one h⟩)
    have HR := Lib.hid hnr
    have HL := Lib.hid hlim
    have HNL := Lib.hid hnl
    have he := matrix_twin.eql_nil (some ad) l0.length c0 0 0 w
    have HO : (Kd.raw 1).R 34 (w.alloc (.cells #[] 34)) w.heap.size (fun _ => True) (.slice (some ⟨w.heap.size, 0, none⟩) 0 0) ([] : List (List Value)) := ⟨fun _ _ => trivial, ⟨[], own_lit w w.heap.size 34 .u8 [] (Nat.le_refl _) (by simp), Reps.none _ _⟩⟩
    have HN := Lib.hid HO
    clear hr0 hlim HO hnr hnl hnx
    go_enter Try.func51, Try.ntmps51
    go_wp2_with ((with_reducible refine gate_builtin (b := .append) (xs := #[.tmp 5, .tmp 6]) rfl ?_); at_builtin; refine Kd.R_append_rows (Kd.raw 1) (w0 := w) w.heap.size rfl (.tmp 5) (.tmp 6) 23 34 (.slice none 0 0) 24 rfl Try.underlying23 matrix_twin.info rfl (by decide) (by omega) (.slice (some ⟨w.heap.size, 0, none⟩) 0 0) ([] : List (List Value)) news _ _ _ (fun _ => True) (fun _ => False) rfl rfl HN.out ?aR (fun _ _ h => h) (fun _ h => h.elim) (fun _ _ => trivial) ?aB ?aS ?aL ?_; (case aR => exact Kd.C_alloc (d := Kd.raw 1) HR.out _); (case aB => exact below_alloc (Below.refl _ _) _); (case aS => exact (below_alloc (Below.refl _ _) _).size); (case aL => have := HL.out; simp; omega); intro v1 w1 ho hb hg hat; have HO2 := Lib.hid ho; have HB2 := Lib.hid hb; clear ho hb hg hat)
    go_ret
    exact ⟨_, _, rfl, HO2.out, by simpa using HNL.out, HB2.out⟩
def matrix_twin.ok (M : List (List Int)) : Prop := 0 < M.length ∧ M.length ≤ 100 ∧ 0 < (rw_ M 0).length ∧ (rw_ M 0).length ≤ 100 ∧ ∀ r ∈ M, r.length = (rw_ M 0).length
instance matrix_twin.dec1 (M : List (List Int)) : Decidable (matrix_twin.ok M) := by unfold matrix_twin.ok; infer_instance
def matrix_twin.f (M : List (List Int)) : Option (List (List Int)) := if matrix_twin.ok M then some M else none
def matrix_twin.St (wx : World) (g cap n m i : Nat) (vs : List Value) (b c : Nat → Nat) (M : List (List Int)) : Prop :=
  RowV wx g 34 cap vs ∧ vs.length = n ∧ (∀ k, k < i → vs[k]? = some (.slice (some ⟨b k, 0, none⟩) m (c k)) ∧ g < b k ∧ (rw_ M k).length = m ∧ RowV wx (b k) 5 (c k) (encs (Value.int .u8) (rw_ M k))) ∧ ∀ k l, k < i → l < i → b k = b l → k = l
theorem matrix_twin.snoc {wx w' : World} {g cap n m i nb nc : Nat} {vs : List Value} {b c : Nat → Nat} {M : List (List Int)} (h : matrix_twin.St wx g cap n m i vs b c M) (hi : i < n) (hb : Below wx.heap.size wx w') (hnb : wx.heap.size ≤ nb) (hl : (rw_ M i).length = m) (hr : RowV w' nb 5 nc (encs (Value.int .u8) (rw_ M i))) :
    matrix_twin.St (w'.setCell ⟨g, i, none⟩ (.slice (some ⟨nb, 0, none⟩) m nc)) g cap n m (i + 1) (vs.set i (.slice (some ⟨nb, 0, none⟩) m nc)) (fun k => if k = i then nb else b k) (fun k => if k = i then nc else c k) M := by
  obtain ⟨h1, h2, h3, h4⟩ := h
  have hg := h1.lt
  refine ⟨(h1.keep (hb.block g hg)).set (by omega) _, by simpa using h2, fun k hk => ?_, fun k l hk hl' e => ?_⟩
  · by_cases e : k = i
    · subst e
      simp only [if_pos]
      exact ⟨by simp [h2, hi], by omega, hl, hr.far (p := ⟨g, k, none⟩) (by show nb ≠ g; omega) _⟩
    · simp only [if_neg e]
      obtain ⟨q1, q2, q3, q4⟩ := h3 k (by omega)
      exact ⟨by rw [List.getElem?_set_ne (fun z => e z.symm)]; exact q1, q2, q3, (q4.keep (hb.block _ q4.lt)).far (p := ⟨g, i, none⟩) (by show b k ≠ g; omega) _⟩
  · by_cases e1 : k = i
    · by_cases e2 : l = i
      · omega
      · simp only [if_pos e1, if_neg e2] at e
        have := (h3 l (by omega)).2.2.2.lt; omega
    · by_cases e2 : l = i
      · simp only [if_neg e1, if_pos e2] at e
        have := (h3 k (by omega)).2.2.2.lt; omega
      · simp only [if_neg e1, if_neg e2] at e
        exact h4 k l (by omega) (by omega) e
theorem matrix_twin.fin {wx : World} {g cap m base : Nat} {vs : List Value} {b c : Nat → Nat} {M : List (List Int)} (h : matrix_twin.St wx g cap M.length m M.length vs b c M) (hg : base ≤ g) : Mat wx (fun k => base ≤ k) g cap b c M m := by
  obtain ⟨h1, h2, h3, h4⟩ := h
  have e : vs = outC M.length b c m := by
    apply List.ext_getElem?
    intro k
    by_cases hk : k < M.length
    · rw [(h3 k hk).1]; simp [outC, hk]
    · rw [List.getElem?_eq_none (by omega), List.getElem?_eq_none (by simp [outC]; omega)]
  subst e
  exact ⟨h1, hg, fun i hi => ⟨by have := (h3 i hi).2.1; omega, by have := (h3 i hi).2.1; show base ≤ b i; omega, (h3 i hi).2.2.1, (h3 i hi).2.2.2⟩, h4⟩
set_option maxHeartbeats 4000000 in
theorem matrix_twin.calls (A0 : Option Addr) (c0 : Nat) (l0 : List (List Int)) (r : List (List Int)) (w : World) (hr0 : Kd.C (Kd.slice 5 (Kd.int .u8)) w A0 l0.length l0) (hc0 : l0.length ≤ c0) (h : matrix_twin.f l0 = some r) :
    Calls Try.prog 39 #[.slice A0 l0.length c0] w fun e w' => ∃ v0_ : Value, e = .returned (v0_) ∧ Kd.S (Kd.slice 5 (Kd.int .u8)) 34 w' w.heap.size (fun _ => True) v0_ r ∧ Below w.heap.size w w' := by
  unfold matrix_twin.f at h
  by_cases hok : matrix_twin.ok l0
  case neg => rw [if_neg hok] at h; cases h
  rw [if_pos hok] at h
  injection h with h
  subst h
  obtain ⟨o1, o2, o3, o4, o5⟩ := hok
  have HR := Lib.hid hr0
  have O5 := Lib.hid (fun i (hi : i < l0.length) => o5 (rw_ l0 i) (by simp [rw_, hi]))
  generalize (rw_ l0 0).length = m at o3 o4 O5
  have O2 := Lib.hid o2
  have O3 := Lib.hid o3
  have O4 := Lib.hid o4
  clear hr0 hc0 o2 o3 o4 o5
  go_enter Try.func39, Try.ntmps39
  go_wp2_with fail
  refine (matrix_twin.clone A0 c0 l0 w HR.out O2.out).mono ?_
  rintro e w1 ⟨v0, rows, rfl, ho, hlen, hb⟩
  obtain ⟨g, cap, hv, -, -, -⟩ := Kd.R_form ho (by omega)
  rw [hlen] at hv
  subst hv
  obtain ⟨vs, hvs, hvl, -, hg⟩ := RowV.of_raw ho
  have HV := Lib.hid hvs
  have HVL := Lib.hid hvl
  have HG := Lib.hid hg
  have HB := Lib.hid hb
  clear ho hlen hb hvs hvl hg
  go_wp2_with fail
  go_loopg [9] l0.length (fun gk s9 wx => ∃ (i : Nat) (b c : Nat → Nat) (vs : List Value), i + gk = l0.length ∧ s9 = .int .i64 i ∧ Aside0 (matrix_twin.St wx g cap l0.length m i vs b c l0) ∧ Aside0 (Below w.heap.size w wx))
  case atStart => exact ⟨0, fun _ => 0, fun _ => 0, vs, by omega, rfl, ⟨⟨HV.out, HVL.out, fun k hk => absurd hk (by omega), fun k l hk => absurd hk (by omega)⟩⟩, ⟨HB.out⟩⟩
  case round =>
    clear HV HVL HB
    obtain ⟨i, b, c, vs, hig, rfl, HS, HB⟩ := hrel
    have hl : (i : Int) ≤ (l0.length : Int) := by omega
    cases gk with
    | zero =>
      obtain rfl : i = l0.length := by omega
      go_wp2_with fail
      go_ret
      exact ⟨_, rfl, (matrix_twin.fin HS.out HG.out).toS (fun _ hk => hk), HB.out⟩
    | succ d =>
      have hi1 : (i : Int) < (l0.length : Int) := by omega
      obtain ⟨ad, B0, d0, rfl, hx, hd0, hr1⟩ : ∃ ad A1 c1, A0 = some ad ∧ wr.cell? (ad.add i) = some (.slice A1 (rw_ l0 i).length c1) ∧ (rw_ l0 i).length ≤ c1 ∧ Kd.C (Kd.int .u8) wr A1 (rw_ l0 i).length (rw_ l0 i) := at_L1 (Kd.C_below HR.out HB.out) (i : Int) (by omega) (by omega)
      have HR1 := Lib.hid hr1
      have HD := Lib.hid hd0
      clear hr1 hd0
      go_wp2_with fail
      refine (slices_Clone_uint8_uint8_52.calls B0 d0 (rw_ l0 i) (rw_ l0 i) _ HR1.out HD.out (by unfold slices_Clone_uint8_uint8_52.f; rw [if_pos (by rw [O5.out i (by omega)]; have := O4.out; omega)])).mono ?_
      rintro e w2 ⟨v1, rfl, ho, hb⟩
      obtain ⟨nb, nc, rfl, hnb, -, -⟩ := Kd.R_form ho (by rw [O5.out i (by omega)]; exact O3.out)
      rw [O5.out i (by omega)] at ho ⊢
      have hv := (RowV.of_R ho).1
      have HS2 := Lib.hid (matrix_twin.snoc HS.out (by omega) hb hnb (O5.out i (by omega)) hv)
      have HB2 := Lib.hid (below_set (g := g) (j := i) (v := .slice (some ⟨nb, 0, none⟩) m nc) (below_step HB.out hb) HG.out)
      have hgk := HS.out.1.keep (hb.block _ HS.out.1.lt)
      obtain ⟨X, hx1⟩ : ∃ X, w2.cell? ⟨g, i, none⟩ = some X := ⟨_, hgk.cell (by have := HS.out.2.1; omega)⟩
      have hx2 := hgk.frozen i
      clear hx hv hb hnb ho HS HB hgk HR1 HD
      go_wp2_with fail
      go_roundg d
      case measure => omega
      case rel => exact ⟨i + 1, _, _, _, by omega, by have := O2.out; rw [show wrap64 ((i : Int) + 1) = ((i + 1 : Nat) : Int) by unfold wrap64; omega], ⟨HS2.out⟩, ⟨HB2.out⟩⟩

end Go.Proofs.Ytmeckhfoajfapaa.PT
