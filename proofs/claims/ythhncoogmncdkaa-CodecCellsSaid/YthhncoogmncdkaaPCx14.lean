import Derived.Test.YthhncoogmncdkaaPCx0
import Derived.Test.YthhncoogmncdkaaPCx13
import Derived.Test.YthhncoogmncdkaaDEnc
import Derived.Test.YthhncoogmncdkaaCSol
-- written by the session's own program (wip/prt.py) over the kit's print: not print.sh's own text
namespace Go.Proofs.Ythhncoogmncdkaa.PC
open Go.RowKit Go.Proofs.YthhncoogmncdkaaW.PrintWords Go.Proofs.YthhncoogmncdkaaW.PrintLast Go.Proofs.YthhncoogmncdkaaW.PrintMore
attribute [local go_sem] max2_int min2_int max_two min_two max_three min_three max_four min_four   -- for this text's walks alone
set_option linter.unusedVariables false
set_option linter.unusedSimpArgs false

/-! ### codec_Verify: function 11 -/
theorem codec_Verify.dlen (K : Nat) : ∀ (rs data out r1 : List (List Int)) (r2 : Int), codec_Encode.dots K rs data out = some (r1, r2) → r1.length ≤ out.length + rs.length
  | [], data, out, r1, r2, h => by
    rw [codec_Encode.dots] at h
    injection h with h; injection h with h1 h2; subst h1; simp
  | row :: rs, data, out, r1, r2, h => by
    rw [codec_Encode.dots] at h
    obtain ⟨c, _, h⟩ := Option.bind_eq_some_iff.mp h
    by_cases e : c.2 ≠ 0
    · rw [if_pos e] at h
      injection h with h; injection h with h1 h2; subst h1; simp
    · rw [if_neg e] at h
      have := codec_Verify.dlen K rs data _ r1 r2 h
      simp at this ⊢
      omega
/-- rows, compared as texts -/
def codec_Verify.eq : List (List Int) → List (List Int) → Bool
  | [], [] => true
  | x :: xs, y :: ys => if bytes_Equal.f x y = some true then codec_Verify.eq xs ys else false
  | _, _ => false
def codec_Verify.f (K : Nat) (a0 a1 : Int) (cells : List (List Int)) : Option (Bool × Int) :=
  if codec_Row.bad a0 a1 then some (false, 2) else if codec_Row.inv a0 a1 then (codec_there.f K cells (a0 + a1)).bind fun t => if t.2 = false then some (false, 40) else if (t.1.length : Int) < a0 + a1 then some (false, 40) else if (cells.length : Int) = a0 + a1 then (codec_Encode.dots K ((codec_Row.M a0.toNat a1.toNat).drop a0.toNat) (cells.take a0.toNat) []).bind fun p => some (codec_Verify.eq p.1 (cells.drop a0.toNat), p.2) else none else none
theorem codec_Verify.mono : ∀ a0 a1 a2 k, LeO (codec_Verify.f k a0 a1 a2) (codec_Verify.f (k + 1) a0 a1 a2) := fun _ _ _ _ => LeO.ite (LeO.refl _) (LeO.ite (LeO.bind (codec_there.mono _ _ _) (fun _ => LeO.ite (LeO.refl _) (LeO.ite (LeO.refl _) (LeO.ite (LeO.bind (codec_Encode.dots_mono _ _ _) (fun _ => LeO.refl _)) (LeO.refl _))))) (LeO.refl _))
theorem codec_Verify.eq_len : ∀ (p q : List (List Int)), p.length ≠ q.length → codec_Verify.eq p q = false
  | [], [], h => absurd rfl h
  | [], _ :: _, _ => rfl
  | _ :: _, [], _ => rfl
  | x :: xs, y :: ys, h => by
    unfold codec_Verify.eq
    rw [codec_Verify.eq_len xs ys (by simpa using h)]
    split <;> rfl
theorem codec_Verify.eq_drop {p q : List (List Int)} {n : Nat} (h : n < p.length) (h' : n < q.length) : codec_Verify.eq (p.drop n) (q.drop n) = if bytes_Equal.f (rd_L1 p (n : Int)) (rd_L1 q (n : Int)) = some true then codec_Verify.eq (p.drop (n + 1)) (q.drop (n + 1)) else false := by
  rw [List.drop_eq_getElem_cons h, List.drop_eq_getElem_cons h', codec_Verify.eq]
  have e1 : rd_L1 p (n : Int) = p[n] := by simp [rd_L1, h]
  have e2 : rd_L1 q (n : Int) = q[n] := by simp [rd_L1, h']
  rw [e1, e2]
set_option maxHeartbeats 400000 in
theorem codec_Verify.equal (A B : Option Addr) (ca cb : Nat) (p q : List (List Int)) (w : World) (hp : Kd.C (Kd.slice 5 (Kd.int .u8)) w A p.length p) (hq : Kd.C (Kd.slice 5 (Kd.int .u8)) w B q.length q) (hl : p.length ≤ 1000) :
    Calls Try.prog 27 #[.slice A p.length ca, .slice B q.length cb, .func (.func 28) #[] #[]] w fun e w' => e = .returned (.bool (codec_Verify.eq p q)) ∧ Below w.heap.size w w' := by
  have HP := Lib.hid hp
  have HQ := Lib.hid hq
  have HL := Lib.hid hl
  clear hp hq hl
  by_cases hne : (p.length : Int) = (q.length : Int)
  case neg =>
    have e1 : ((p.length : Int) != (q.length : Int)) = true := bne_iff_ne.mpr hne
    have HE := Lib.hid (codec_Verify.eq_len p q (fun z => hne (by rw [z])))
    clear hne
    go_enter Try.func27, Try.ntmps27
    go_wp2_with fail
    go_ret
    exact ⟨by rw [HE.out]; rfl, Below.refl _ _⟩
  have e1 : ((p.length : Int) != (q.length : Int)) = false := bne_eq_false_iff_eq.mpr hne
  have HLE := Lib.hid (show p.length = q.length by omega)
  clear hne
  go_enter Try.func27, Try.ntmps27
  go_wp2_with fail
  go_loopg [7, 8, 9, 17] p.length (fun g s7 s8 s9 s17 wx => ∃ n : Nat, n + g = p.length ∧ s17 = .int .i64 n ∧ Aside0 (codec_Verify.eq p q = codec_Verify.eq (p.drop n) (q.drop n)) ∧ Aside0 (Below w.heap.size w wx))
  case atStart => exact ⟨0, by omega, rfl, ⟨rfl⟩, ⟨Below.refl _ _⟩⟩
  case round =>
    obtain ⟨n, hng, rfl, HI, HB⟩ := hrel
    cases gk with
    | zero =>
      obtain rfl : n = p.length := by omega
      have HE := Lib.hid (show codec_Verify.eq p q = true by rw [HI.out, List.drop_length, HLE.out, List.drop_length]; rfl)
      go_wp2_with fail
      go_ret
      exact ⟨by rw [HE.out]; rfl, HB.out⟩
    | succ g =>
      have hn : n < p.length := by omega
      have hn1 : (n : Int) < (p.length : Int) := by omega
      have hn2 : (n : Int) < (q.length : Int) := by have := HLE.out; omega
      obtain ⟨ad, A1, c1, rA, hx, hxl, hxr⟩ := at_L1 (Kd.C_below HP.out HB.out) (n : Int) (by omega) hn1
      subst rA
      obtain ⟨bd, B1, d1, rB, hy, hyl, hyr⟩ := at_L1 (Kd.C_below HQ.out HB.out) (n : Int) (by omega) hn2
      subst rB
      rw [Int.toNat_natCast] at hx hy
      have hd := codec_Verify.eq_drop (p := p) (q := q) hn (by have := HLE.out; omega)
      obtain ⟨b, hb⟩ : ∃ b, bytes_Equal.f (rd_L1 p (n : Int)) (rd_L1 q (n : Int)) = some b := ⟨_, rfl⟩
      rw [hb] at hd
      have HD := Lib.hid hd
      have HBE := Lib.hid hb
      have HXL := Lib.hid hxl
      have HXR := Lib.hid hxr
      have HYL := Lib.hid hyl
      have HYR := Lib.hid hyr
      have HN := Lib.hid (show n + 1 ≤ 1000 by have := HL.out; omega)
      clear hd hb hxl hxr hyl hyr
      go_wp2_with fail
      refine (bytes_Equal.calls A1 c1 _ B1 d1 _ b _ HXR.out HXL.out HYR.out HYL.out HBE.out).mono ?_
      rintro en w1 ⟨rfl, n_, hw_⟩
      have hb2 : Below (World.heap wr).size wr w1 := by rw [hw_]; exact pw_below_drewN (Below.refl _ _) n_
      clear hw_
      have HB1 := Lib.hid (below_step HB.out hb2)
      clear hb2 hx hy
      cases b with
      | false =>
        have HE := Lib.hid (show codec_Verify.eq p q = false by rw [HI.out, HD.out]; rfl)
        go_wp2_with fail
        go_ret
        exact ⟨by rw [HE.out]; rfl, HB1.out⟩
      | true =>
        have HE := Lib.hid (show codec_Verify.eq p q = codec_Verify.eq (p.drop (n + 1)) (q.drop (n + 1)) by rw [HI.out, HD.out]; rfl)
        go_wp2_with fail
        go_roundg g
        case measure => omega
        case rel => exact ⟨n + 1, by omega, by have := HN.out; rw [show wrap64 ((n : Int) + 1) = ((n + 1 : Nat) : Int) by unfold wrap64; omega], ⟨HE.out⟩, ⟨HB1.out⟩⟩
theorem codec_Verify.i2 : (Try.prog.info? 23).map (fun i => (i.zero, i.size, i.bytes)) = some (some (.slice none 0 0), 1, 24) := by kernel_rfl
set_option maxHeartbeats 4000000 in
theorem codec_Verify.calls (k : Nat) (a0 a1 : Int) (A2 : Option Addr) (c2 : Nat) (l2 : List (List Int)) (r1 : Bool) (r2 : Int) (w : World) (hr2 : Kd.C (Kd.slice 5 (Kd.int .u8)) w A2 l2.length l2) (hc2 : l2.length ≤ c2) (h : codec_Verify.f k a0 a1 l2 = some (r1, r2)) :
    Calls Try.prog 11 #[.int .i64 a0, .int .i64 a1, .slice A2 l2.length c2] w fun e w' => e = .returned (.tuple #[.bool r1, .int .i64 r2]) ∧ Below w.heap.size w w' := by
  unfold codec_Verify.f at h
  have HR2 := Lib.hid hr2
  have HC2 := Lib.hid hc2
  clear hr2 hc2
  by_cases hbad : codec_Row.bad a0 a1
  case pos =>
    rw [if_pos hbad] at h
    injection h with h; injection h with ha hc; subst ha hc
    have HBAD := Lib.hid hbad
    clear hbad
    go_enter Try.func11, Try.ntmps11
    go_wp2_with fail
    refine (codec_Row.bad1 a0 a1 HBAD.out _).mono ?_
    rintro e w1 ⟨rfl, rfl⟩
    have heq := map_eql_nil none w
    go_wp2_with fail
    go_ret2
    exact ⟨rfl, Below.refl _ _⟩
  rw [if_neg hbad] at h
  by_cases hinv : codec_Row.inv a0 a1
  case neg => rw [if_neg hinv] at h; cases h
  rw [if_pos hinv] at h
  unfold codec_Row.bad at hbad
  obtain ⟨n, rfl⟩ := Int.eq_ofNat_of_zero_le (show 0 ≤ a0 by omega)
  obtain ⟨m, rfl⟩ := Int.eq_ofNat_of_zero_le (show 0 ≤ a1 by omega)
  simp only [Int.toNat_natCast] at h
  have hk0 : 1 ≤ n := by omega
  have hk : n ≤ 12 := by omega
  have hr : m ≤ 4 := by omega
  obtain ⟨⟨tl, tb⟩, hth, h⟩ := Option.bind_eq_some_iff.mp h
  have HI := Lib.hid hinv
  have HK0 := Lib.hid hk0
  have HK := Lib.hid hk
  have HR := Lib.hid hr
  have HTH := Lib.hid hth
  have H := Lib.hid h
  clear hbad hinv hk0 hk hr hth h
  go_enter Try.func11, Try.ntmps11
  go_wp2_with fail
  refine (codec_Row.made n m HK0.out HK.out HR.out HI.out _).mono ?_
  rintro e w1 ⟨g, val, rfl, hmp, hrow, hb⟩
  have heq := map_eql_nil (some g) w1
  have HB := Lib.hid hb
  have HMP := Lib.hid hmp
  have HRW := Lib.hid (fun i (hi : i < n + m) => RowC.of_R (hrow i hi))
  clear hmp hrow hb
  have hb1 : (n : Int) ≤ 12 := by have := HK.out; omega
  have hb2 : (m : Int) ≤ 4 := by have := HR.out; omega
  go_wp2_with fail
  refine (codec_there.calls k A2 c2 l2 ((n : Int) + (m : Int)) tl tb _ (Kd.C_below HR2.out HB.out) HC2.out HTH.out).mono ?_
  rintro e w2 ⟨v2, rfl, ho, hb⟩
  obtain ⟨At, ct, rfl⟩ := Kd.R_slice ho
  replace HMP := Lib.hid (HMP.out.below hb)
  replace HRW := Lib.hid (fun i (hi : i < n + m) => (HRW.out i hi).below hb)
  replace HB := Lib.hid (below_step HB.out hb)
  clear ho hb HTH heq
  have h := H.out
  try dsimp only at h
  cases tb with
  | false =>
    rw [if_pos rfl] at h
    injection h with h; injection h with ha hc; subst ha hc
    clear H
    go_wp2_with fail
    go_ret2
    exact ⟨rfl, HB.out⟩
  | true =>
    rw [if_neg (by decide)] at h
    by_cases hlt : (tl.length : Int) < (n : Int) + (m : Int)
    case pos =>
      rw [if_pos hlt] at h
      injection h with h; injection h with ha hc; subst ha hc
      have hd : decide ((tl.length : Int) < (n : Int) + (m : Int)) = true := decide_eq_true hlt
      clear H
      go_wp2_with fail
      go_ret2
      exact ⟨rfl, HB.out⟩
    rw [if_neg hlt] at h
    by_cases hlen : (l2.length : Int) = (n : Int) + (m : Int)
    case neg => rw [if_neg hlen] at h; cases h
    rw [if_pos hlen] at h
    have hd : decide ((tl.length : Int) < (n : Int) + (m : Int)) = false := decide_eq_false hlt
    obtain ⟨⟨p, pe⟩, hdots, h⟩ := Option.bind_eq_some_iff.mp h
    have HD := Lib.hid hdots
    have HLN := Lib.hid (show l2.length = n + m by omega)
    injection h with h; injection h with ha hc; subst hc
    have HA := Lib.hid (show codec_Verify.eq p (l2.drop n) = r1 from ha)
    obtain ⟨i0, hi0, hz⟩ := Option.map_eq_some_iff.1 codec_Verify.i2
    simp only [Prod.mk.injEq] at hz
    have hct := fun (W : World) => cut_to (P := Try.prog) 24 23 .i64 Try.underlying24 hi0 A2 l2.length c2 (n : Int) (by omega) (by omega) HC2.out W
    have hcf := fun (W : World) => cut_from (P := Try.prog) 24 23 .i64 Try.underlying24 hi0 1 hz.2.1 A2 l2.length c2 (n : Int) (by omega) (by omega) W
    simp only [Int.toNat_natCast] at hct hcf
    have ht1 : (l2.take n).length = n := by rw [List.length_take]; omega
    have ht2 : (l2.drop n).length = l2.length - n := List.length_drop
    have HT := Lib.hid (show Kd.C (Kd.slice 5 (Kd.int .u8)) w A2 (l2.take n).length (l2.take n) from Kd.C_take HR2.out (by omega))
    have HDR := Lib.hid (show Kd.C (Kd.slice 5 (Kd.int .u8)) w (if c2 = n then A2 else A2.map (·.add (n * 1))) (l2.drop n).length (l2.drop n) from Kd.C_drop HR2.out (by omega) HC2.out)
    generalize (if c2 = n then A2 else A2.map (·.add (n * 1))) = A3 at hcf HDR
    rw [← ht2] at hcf
    rw [← ht1] at hct
    have HNC := Lib.hid (show (l2.take n).length ≤ c2 by have := HC2.out; omega)
    generalize l2.take n = T at *
    generalize l2.drop n = D at *
    have hcut1 := funext hct
    have hcut2 := funext hcf
    subst ht1
    clear H hlt hlen hi0 hz hct hcf ht2 hdots ha
    go_wp2_with fail
    refine (codec_Encode.cells k T.length m HK.out HR.out g val A2 c2 T p pe _ HMP.out HRW.out (Kd.C_below HT.out HB.out) HNC.out HD.out).mono ?_
    rintro e w3 ⟨v3, rfl, ho, hb⟩
    obtain ⟨Ap, cp, rfl⟩ := Kd.S_slice ho
    have HP := Lib.hid (Kd.S_reads' ho).2.2
    have HPL := Lib.hid (show p.length ≤ 1000 by
      have h := codec_Verify.dlen _ _ _ _ _ _ HD.out
      have := HR.out
      rw [List.length_drop, codec_Row.M_len] at h
      simp at h
      omega)
    have HB3 := Lib.hid (below_step HB.out hb)
    clear ho hb
    go_wp2_with fail
    refine (codec_Verify.equal Ap A3 cp (c2 - T.length) p D _ HP.out (Kd.C_below HDR.out HB3.out) HPL.out).mono ?_
    rintro e w4 ⟨rfl, hb⟩
    have HB4 := Lib.hid (below_step HB3.out hb)
    clear hb
    go_wp2_with fail
    go_ret2
    exact ⟨by rw [← HA.out]; rfl, HB4.out⟩

end Go.Proofs.Ythhncoogmncdkaa.PC
-- written by the session's own program (wip/prt.py) over the kit's print: not print.sh's own text
namespace Go.Proofs.Ythhncoogmncdkaa.PC
open Go.RowKit Go.Proofs.YthhncoogmncdkaaW.PrintWords Go.Proofs.YthhncoogmncdkaaW.PrintLast Go.Proofs.YthhncoogmncdkaaW.PrintMore
attribute [local go_sem] max2_int min2_int max_two min_two max_three min_three max_four min_four   -- for this text's walks alone
set_option linter.unusedVariables false
set_option linter.unusedSimpArgs false

/-! ### codec_Decode: function 10 -/
theorem codec_Decode.i3 : (Try.prog.info? 3).map (fun i => (i.zero, i.size, i.bytes)) = some (some (.int .i64 0), 1, 8) := by kernel_rfl
theorem codec_Decode.i2 : (Try.prog.info? 23).map (fun i => (i.zero, i.size, i.bytes)) = some (some (.slice none 0 0), 1, 24) := by kernel_rfl
def codec_Decode.ok (n m : Nat) (cells : List (List Int)) (at_ : List Int) : Prop := cells.length = n + m ∧ ∀ x ∈ at_, 0 ≤ x ∧ x < ((n + m : Nat) : Int)
instance codec_Decode.okDec (n m : Nat) (cells : List (List Int)) (at_ : List Int) : Decidable (codec_Decode.ok n m cells at_) := by unfold codec_Decode.ok; infer_instance
/-- behind the counting -/
def codec_Decode.go (K n m : Nat) (cells : List (List Int)) (at_ : List Int) : Option (List (List Int) × Int) :=
  if codec_Decode.ok n m cells at_ then (matrix_Inverse.f K (at_.map fun x => rw_ (codec_Row.M n m) x.toNat)).bind fun b => if b.2 ≠ 0 then some ([], b.2) else if b.1.length ≤ 100 then (codec_Encode.dots K b.1 (at_.map fun x => rd_L1 cells x) []).bind fun d => if d.2 ≠ 0 then some ([], d.2) else (codec_Encode.dots K ((codec_Row.M n m).drop n) d.1 []).bind fun p => some (d.1 ++ p.1, p.2) else none else none
def codec_Decode.f (K : Nat) (a0 a1 : Int) (cells : List (List Int)) : Option (List (List Int) × Int) :=
  if codec_Row.bad a0 a1 then some ([], 2) else if codec_Row.inv a0 a1 then (codec_there.f K cells (a0 + a1)).bind fun t => if t.2 = false then some ([], 40) else if (t.1.length : Int) < a0 then some ([], 5) else codec_Decode.go K a0.toNat a1.toNat cells (t.1.take a0.toNat) else none
theorem codec_Decode.go_mono {K n m : Nat} {cells : List (List Int)} {at_ : List Int} : LeO (codec_Decode.go K n m cells at_) (codec_Decode.go (K + 1) n m cells at_) :=
  LeO.ite (LeO.bind (matrix_Inverse.mono _ _) (fun _ => LeO.ite (LeO.refl _) (LeO.ite (LeO.bind (codec_Encode.dots_mono _ _ _) (fun _ => LeO.ite (LeO.refl _) (LeO.bind (codec_Encode.dots_mono _ _ _) (fun _ => LeO.refl _)))) (LeO.refl _)))) (LeO.refl _)
theorem codec_Decode.mono : ∀ a0 a1 a2 k, LeO (codec_Decode.f k a0 a1 a2) (codec_Decode.f (k + 1) a0 a1 a2) := fun _ _ _ _ => LeO.ite (LeO.refl _) (LeO.ite (LeO.bind (codec_there.mono _ _ _) (fun _ => LeO.ite (LeO.refl _) (LeO.ite (LeO.refl _) codec_Decode.go_mono))) (LeO.refl _))
set_option maxHeartbeats 8000000 in
theorem codec_Decode.calls (k : Nat) (a0 a1 : Int) (A2 : Option Addr) (c2 : Nat) (l2 : List (List Int)) (r1 : List (List Int)) (r2 : Int) (w : World) (hr2 : Kd.C (Kd.slice 5 (Kd.int .u8)) w A2 l2.length l2) (hc2 : l2.length ≤ c2) (h : codec_Decode.f k a0 a1 l2 = some (r1, r2)) :
    Calls Try.prog 10 #[.int .i64 a0, .int .i64 a1, .slice A2 l2.length c2] w fun e w' => ∃ v0_ : Value, e = .returned (.tuple #[v0_, .int .i64 r2]) ∧ Kd.S (Kd.slice 5 (Kd.int .u8)) 23 w' w.heap.size (fun _ => True) v0_ r1 ∧ Below w.heap.size w w' := by
  unfold codec_Decode.f at h
  have HR2 := Lib.hid hr2
  have HC2 := Lib.hid hc2
  clear hr2 hc2
  by_cases hbad : codec_Row.bad a0 a1
  case pos =>
    rw [if_pos hbad] at h
    injection h with h; injection h with ha hc; subst ha hc
    have HBAD := Lib.hid hbad
    clear hbad
    go_enter Try.func10, Try.ntmps10
    go_wp2_with fail
    refine (codec_Row.bad1 a0 a1 HBAD.out _).mono ?_
    rintro e w1 ⟨rfl, rfl⟩
    have heq := map_eql_nil none w
    go_wp2_with fail
    go_ret2
    exact ⟨_, rfl, Kd.S_nil _ _ _ _ _, Below.refl _ _⟩
  rw [if_neg hbad] at h
  by_cases hinv : codec_Row.inv a0 a1
  case neg => rw [if_neg hinv] at h; cases h
  rw [if_pos hinv] at h
  unfold codec_Row.bad at hbad
  obtain ⟨n, rfl⟩ := Int.eq_ofNat_of_zero_le (show 0 ≤ a0 by omega)
  obtain ⟨m, rfl⟩ := Int.eq_ofNat_of_zero_le (show 0 ≤ a1 by omega)
  simp only [Int.toNat_natCast] at h
  have hk0 : 1 ≤ n := by omega
  have hk : n ≤ 12 := by omega
  have hr : m ≤ 4 := by omega
  obtain ⟨⟨tl, tb⟩, hth, h⟩ := Option.bind_eq_some_iff.mp h
  have HI := Lib.hid hinv
  have HK0 := Lib.hid hk0
  have HK := Lib.hid hk
  have HR := Lib.hid hr
  have HTH := Lib.hid hth
  have H := Lib.hid h
  clear hbad hinv hk0 hk hr hth h
  go_enter Try.func10, Try.ntmps10
  go_wp2_with fail
  refine (codec_Row.made n m HK0.out HK.out HR.out HI.out _).mono ?_
  rintro e w1 ⟨g, val, rfl, hmp, hrow, hb⟩
  have heq := map_eql_nil (some g) w1
  have HB := Lib.hid hb
  have HMP := Lib.hid hmp
  have HRW := Lib.hid (fun i (hi : i < n + m) => RowC.of_R (hrow i hi))
  clear hmp hrow hb
  have hb1 : (n : Int) ≤ 12 := by have := HK.out; omega
  have hb2 : (m : Int) ≤ 4 := by have := HR.out; omega
  go_wp2_with fail
  refine (codec_there.calls k A2 c2 l2 ((n : Int) + (m : Int)) tl tb _ (Kd.C_below HR2.out HB.out) HC2.out HTH.out).mono ?_
  rintro e w2 ⟨v2, rfl, ho, hb⟩
  obtain ⟨At, ct, rfl⟩ := Kd.R_slice ho
  replace HMP := Lib.hid (HMP.out.below hb)
  replace HRW := Lib.hid (fun i (hi : i < n + m) => (HRW.out i hi).below hb)
  replace HB := Lib.hid (below_step HB.out hb)
  have HAT := Lib.hid (Kd.R_reads' ho).2.2
  have HATL := Lib.hid (Kd.R_reads' ho).2.1
  clear ho hb HTH heq
  have h := H.out
  try dsimp only at h
  cases tb with
  | false =>
    rw [if_pos rfl] at h
    injection h with h; injection h with ha hc; subst ha hc
    clear H
    go_wp2_with fail
    go_ret2
    exact ⟨_, rfl, Kd.S_nil _ _ _ _ _, HB.out⟩
  | true =>
    rw [if_neg (by decide)] at h
    by_cases hlt : (tl.length : Int) < (n : Int)
    case pos =>
      rw [if_pos hlt] at h
      injection h with h; injection h with ha hc; subst ha hc
      have hd : decide ((tl.length : Int) < (n : Int)) = true := decide_eq_true hlt
      clear H
      go_wp2_with fail
      go_ret2
      exact ⟨_, rfl, Kd.S_nil _ _ _ _ _, HB.out⟩
    rw [if_neg hlt] at h
    have hd : decide ((tl.length : Int) < (n : Int)) = false := decide_eq_false hlt
    unfold codec_Decode.go at h
    by_cases hok : codec_Decode.ok n m l2 (tl.take n)
    case neg => rw [if_neg hok] at h; cases h
    rw [if_pos hok] at h
    obtain ⟨hcl, hck⟩ := hok
    obtain ⟨i0, hi0, hz⟩ := Option.map_eq_some_iff.1 codec_Decode.i3
    have ht1 : (tl.take n).length = n := by rw [List.length_take]; omega
    have hct := fun (W : World) => cut_to (P := Try.prog) 37 3 .i64 Try.underlying37 hi0 At tl.length ct (n : Int) (by omega) (by omega) HATL.out W
    simp only [Int.toNat_natCast] at hct
    have hcut := funext hct
    have HT := Lib.hid (show Kd.C (Kd.int .i64) w2 At (tl.take n).length (tl.take n) from Kd.C_take HAT.out (by omega))
    have H2 := Lib.hid h
    clear h H hct hi0 hz
    generalize hTT : tl.take n = T at *
    have HTL := Lib.hid ht1
    have HCK := Lib.hid hck
    have HCL := Lib.hid hcl
    have hd2 : decide (tl.length < n) = false := decide_eq_false (by omega)
    clear hTT ht1 hck hcl hlt HAT HATL
    go_wp2_with fail
    go_loopg [11, 12, 14, 46] n (fun gk s11 s12 s14 s46 wx => ∃ (i : Nat) (vs1 vs2 : List Value), i + gk = n ∧ s46 = .int .i64 i ∧ Hid (RowsC w2 vs1 ((T.take i).map fun x => rw_ (codec_Row.M n m) x.toNat)) ∧ Hid (RowsC w2 vs2 ((T.take i).map fun x => rd_L1 l2 x)) ∧ Hid (Kd.R (Kd.raw 1) 23 wx w2.heap.size (fun _ => True) s11 (vs1.map fun v => [v])) ∧ Hid (Kd.R (Kd.raw 1) 23 wx w2.heap.size (fun _ => True) s12 (vs2.map fun v => [v])) ∧ Hid (∀ k, s11.ownBlock = some k → s12.ownBlock = some k → False) ∧ Hid (Below w2.heap.size w2 wx))
    case atStart => exact ⟨0, [], [], by omega, rfl, Lib.hid (RowsC.nil _), Lib.hid (RowsC.nil _), Lib.hid (Kd.R_nil _ _ _ _ _), Lib.hid (Kd.R_nil _ _ _ _ _), Lib.hid (fun k h => by simp [Value.ownBlock] at h), Lib.hid (Below.refl _ _)⟩
    case round =>
      obtain ⟨i, vs1, vs2, hig, rfl, HR1, HR3, HO1, HO3, HDJ, HB2⟩ := hrel
      cases gk with
      | zero =>
        obtain rfl : i = n := by omega
        have htt : T.take i = T := by rw [List.take_of_length_le]; rw [HTL.out]; exact Nat.le_refl _
        rw [htt] at HR1 HR3
        obtain ⟨Am, cm, rfl, hm1, hm2⟩ := RowsC.of_raw HO1.out (HR1.out.below HB2.out)
        obtain ⟨Af, cf, rfl, hf1, hf2⟩ := RowsC.of_raw HO3.out (HR3.out.below HB2.out)
        have HLM : (T.map fun x => rw_ (codec_Row.M i m) x.toNat).length = i := by rw [List.length_map, HTL.out]
        have HLF : (T.map fun x => rd_L1 l2 x).length = i := by rw [List.length_map, HTL.out]
        obtain ⟨⟨bk, be⟩, hinv, h⟩ := Option.bind_eq_some_iff.mp H2.out
        generalize (T.map fun x => rw_ (codec_Row.M i m) x.toNat) = MM at *
        generalize (T.map fun x => rd_L1 l2 x) = FF at *
        have HM2 := Lib.hid hm2
        have HM1 := Lib.hid hm1
        have HF2 := Lib.hid hf2
        have HF1 := Lib.hid hf1
        have HINV := Lib.hid hinv
        have H3 := Lib.hid h
        clear hm1 hm2 hf1 hf2 hinv h H2 htt
        subst HLM
        go_wp2_with fail
        refine (matrix_Inverse.calls k Am cm MM bk be _ HM2.out HM1.out HINV.out).mono ?_
        rintro e w3 ⟨v3, rfl, ho, hb⟩
        obtain ⟨Ab, cb, rfl⟩ := Kd.S_slice ho
        have HBK := Lib.hid (Kd.S_reads' ho).2.2
        have HF3 := Lib.hid (Kd.C_below HF2.out hb)
        have HB3 := Lib.hid (below_step HB2.out hb)
        clear ho hb HO1 HO3 HDJ HB2
        by_cases hbe : be = 0
        case neg =>
          have h := H3.out
          try dsimp only at h
          rw [if_pos hbe] at h
          injection h with h; injection h with ha hc; subst ha hc
          have e1 : (be != 0) = true := bne_iff_ne.mpr hbe
          clear hbe H3
          go_wp2_with fail
          go_ret2
          exact ⟨_, rfl, Kd.S_nil _ _ _ _ _, below_step HB.out HB3.out⟩
        subst hbe
        have h := H3.out
        try dsimp only at h
        rw [if_neg (fun z => z rfl)] at h
        by_cases hbl : bk.length ≤ 100
        case neg => rw [if_neg hbl] at h; cases h
        rw [if_pos hbl] at h
        obtain ⟨⟨dt, de⟩, hdots, h⟩ := Option.bind_eq_some_iff.mp h
        have HBL := Lib.hid hbl
        have HDT := Lib.hid hdots
        have H4 := Lib.hid h
        clear hbl hdots h H3
        go_wp2_with fail
        go_loopg [17, 19, 20, 21, 77] bk.length (fun gk s17 s19 s20 s21 s77 wx => ∃ (i : Nat) (out : List (List Int)), i + gk = bk.length ∧ s77 = .int .i64 i ∧ Hid (out.length = i) ∧ Hid (codec_Encode.dots k (bk.drop i) FF out = some (dt, de)) ∧ Hid (Kd.S (Kd.slice 5 (Kd.int .u8)) 23 wx w3.heap.size (fun _ => True) s17 out) ∧ Hid (Below w3.heap.size w3 wx))
        case atStart => exact ⟨0, [], by omega, rfl, Lib.hid rfl, HDT, Lib.hid (Kd.S_nil _ _ _ _ _), Lib.hid (Below.refl _ _)⟩
        case round =>
          have HDT0 := HDT
          clear HDT
          obtain ⟨i, out, hig, rfl, HOL, HD, HS, HBx⟩ := hrel
          cases gk with
          | zero =>
            obtain rfl : i = bk.length := by omega
            have h := HD.out
            rw [List.drop_length, codec_Encode.dots] at h
            injection h with h; injection h with ha hc; subst ha hc
            have h := H4.out
            try dsimp only at h
            rw [if_neg (fun z => z rfl)] at h
            obtain ⟨⟨pr, pe⟩, hpar, h⟩ := Option.bind_eq_some_iff.mp h
            injection h with h; injection h with ha hc
            obtain ⟨Ad, cd, rfl⟩ := Kd.S_slice HS.out
            have HDC := Lib.hid (Kd.S_reads' HS.out).2.2
            have HDL := Lib.hid (Kd.S_reads' HS.out).2.1
            have HPAR := Lib.hid hpar
            have HA := Lib.hid ha
            have HE := Lib.hid hc
            clear HD hig h H4 hpar ha hc
            go_wp2_with fail
            refine (codec_Encode.cells k MM.length m HK.out HR.out g val Ad cd out pr pe _ ((HMP.out.below HB3.out).below HBx.out) (fun i hi => ((HRW.out i hi).below HB3.out).below HBx.out) HDC.out HDL.out HPAR.out).mono ?_
            rintro e w5 ⟨v5, rfl, ho, hb⟩
            have HWB := Lib.hid (below_step HB.out (below_step HB3.out HBx.out))
            have HB5 := Lib.hid (below_step HWB.out hb)
            have HDN := Lib.hid (Kd.S_below (Kd.S_lower (Kd.S_mono (ok' := fun k_ => k_ < wr.heap.size) (Kd.S_bound HS.out) (fun k_ hk_ => hk_.2.2.1)) (below_step HB.out HB3.out).size) hb)
            obtain ⟨Ap, cp, rfl⟩ := Kd.S_slice ho
            have HPF := Lib.hid (Kd.S_lower (Kd.S_mono (ok' := fun k_ => wr.heap.size ≤ k_) (Kd.S_bound ho) (fun k_ hk_ => hk_.2.1)) HWB.out.size)
            clear ho hb HS
            have HLO := Lib.hid (show out.length ≤ 1000 ∧ pr.length ≤ 1000 by
              have h1 := codec_Verify.dlen _ _ _ _ _ _ HDT0.out
              have h2 := codec_Verify.dlen _ _ _ _ _ _ HPAR.out
              have := HR.out
              have := HBL.out
              rw [List.length_drop, codec_Row.M_len] at h2
              simp at h1 h2
              omega)
            go_wp2_with ((with_reducible refine gate_builtin (b := .append) (xs := #[.tmp 107, .tmp 108]) rfl ?_); at_builtin; refine S_append_rows (Kd.slice 5 (Kd.int .u8)) (w0 := w) w.heap.size rfl (.tmp 107) (.tmp 108) 24 23 (.slice none 0 0) 24 rfl Try.underlying24 codec_Decode.i2 rfl (by decide) (by omega) (.slice Ad out.length cd) out pr Ap _ _ wr.heap.size rfl rfl HDN.out HPF.out HB5.out HB5.out.size (by have := HLO.out; omega) ?_; intro v7 w7 ho hb hg hat; have HO7 := Lib.hid ho; have HB7 := Lib.hid hb; clear ho hb hg hat)
            go_ret2
            exact ⟨_, by rw [← HE.out]; rfl, by rw [← HA.out]; exact HO7.out, HB7.out⟩
          | succ d =>
            have hin : i < bk.length := by omega
            have hil : (i : Int) < (bk.length : Int) := by omega
            have h := HD.out
            rw [List.drop_eq_getElem_cons hin, codec_Encode.dots] at h
            have hrow : bk[i] = rd_L1 bk (i : Int) := by simp [rd_L1, hin]
            rw [hrow] at h
            obtain ⟨⟨y, ye⟩, hdot, h⟩ := Option.bind_eq_some_iff.mp h
            obtain ⟨ad, B3, d3, rA, hx, hl3, hr3⟩ := at_L1 (Kd.C_below HBK.out HBx.out) (i : Int) (by omega) hil
            subst rA
            rw [Int.toNat_natCast] at hx
            have HDO := Lib.hid hdot
            have H5 := Lib.hid h
            have HCR := Lib.hid hr3
            have HCRL := Lib.hid hl3
            have HIN := Lib.hid hin
            clear h hdot hrow HD hl3 hr3 hin
            go_wp2_with fail
            have hcall := kernel_Dot.calls k B3 d3 (rd_L1 bk (i : Int)) Af cf FF y ye _ HCR.out HCRL.out (Kd.C_below HF3.out HBx.out) HF1.out HDO.out
            rw [HLF] at hcall
            refine hcall.mono ?_
            clear hcall
            rintro e w4 ⟨v4, rfl, ho, hb⟩
            have HY := Lib.hid ho
            have HB1 := Lib.hid (below_step HBx.out hb)
            have HW := Lib.hid hb
            clear ho hb HCR HCRL HDO hx
            by_cases h0 : ye = 0
            case neg =>
              have h := H5.out
              try dsimp only at h
              rw [if_pos h0] at h
              injection h with h; injection h with ha hc; subst ha hc
              have h2 := H4.out
              try dsimp only at h2
              rw [if_pos h0] at h2
              injection h2 with h2; injection h2 with ha hc; subst ha hc
              have e1 : (ye != 0) = true := bne_iff_ne.mpr h0
              clear h0 H5 H4
              go_wp2_with fail
              go_ret2
              exact ⟨_, rfl, Kd.S_nil _ _ _ _ _, below_step HB.out (below_step HB3.out HB1.out)⟩
            subst h0
            have h := H5.out
            try dsimp only at h
            rw [if_neg (fun z => z rfl)] at h
            have HN := Lib.hid h
            obtain ⟨Ay, cy, rfl⟩ := Kd.R_slice HY.out
            have HOLD := Lib.hid (Kd.S_mono (Kd.S_old HS.out HW.out) (ok' := fun k_ => True ∧ ¬ wr.heap.size ≤ k_) (fun k_ hk_ => ⟨trivial, by have := hk_.2; omega⟩))
            have HLT := Lib.hid (Kd.S_lt HS.out)
            have HYM := Lib.hid (Kd.M_row (Kd.R_lower (Kd.R_mono (Kd.R_bound HY.out) (ok' := fun k_ => wr.heap.size ≤ k_) (fun k_ hk_ => hk_.2.1)) HBx.out.size))
            clear h H5 HS HY HW HBx
            go_wp2_with ((with_reducible refine gate_builtin (b := .append) (xs := #[.tmp 90, .tmp 92]) rfl ?_); at_builtin; refine Kd.S_append (Kd.slice 5 (Kd.int .u8)) (w0 := w3) w3.heap.size rfl (.tmp 90) (.tmp 92) 24 23 (.slice none 0 0) 24 rfl Try.underlying24 codec_Decode.i2 rfl (by decide) (by omega) _ out y [.slice Ay y.length cy] (fun _ => True) (fun k_ => wr.heap.size ≤ k_) rfl rfl HYM.out (fun k_ hk_ => ⟨trivial, fun e_ => by have := HLT.out k_ e_.symm; omega⟩) (fun _ _ => trivial) HOLD.out HB1.out HB1.out.size (by have := HOL.out; have := HBL.out; have := HIN.out; omega) ?_; intro v5 w5 ho hb hg hat; have HS := Lib.hid ho; have HB := Lib.hid hb; clear ho hb hg hat)
            go_roundg d
            case measure => omega
            case rel => exact ⟨i + 1, out ++ [y], by omega, by first | rfl | (rw [Int.natCast_add]; rfl) | (rw [show wrap64 ((i : Int) + 1) = ((i + 1 : Nat) : Int) by have := HIN.out; have := HBL.out; unfold wrap64; omega]), Lib.hid (by rw [List.length_append, HOL.out]; rfl), HN, HS, HB⟩
      | succ d =>
        have hin : i < n := by omega
        have hil : (i : Int) < (T.length : Int) := by rw [HTL.out]; omega
        have hi0 : (0 : Int) ≤ (i : Int) := by omega
        obtain ⟨ad, rA, hx⟩ := Kd.at_int (Kd.C_below HT.out HB2.out) (i : Int) hi0 hil
        subst rA
        rw [Int.toNat_natCast] at hx
        have hTi : i < T.length := by omega
        have hmem := HCK.out _ (List.getElem_mem hTi)
        have hrd : rd T (i : Int) = T[i] := by simp [rd, hTi]
        have htk : T.take (i + 1) = T.take i ++ [T[i]] := by rw [List.take_add_one, List.getElem?_eq_getElem hTi]; rfl
        rw [hrd] at hx
        generalize T[i] = x at *
        obtain ⟨q, rfl⟩ := Int.eq_ofNat_of_zero_le hmem.1
        have hq : q < n + m := by have := hmem.2; omega
        obtain ⟨Ar, cr, hval, hcr, hCr⟩ := HRW.out q hq
        have hlook : (Instr.lookup 44 (.map (some g)) (.agg #[.int .i64 (n : Int), .int .i64 (m : Int), .int .i64 (q : Int)]) false).run Try.prog wr = .ok (.slice Ar (rw_ (codec_Row.M n m) q).length cr) wr := by
          have hkey := fun p (hp : p < n + m) => codec_Row.keys (n := 0) (i := p) HK.out HR.out (by have := HK.out; have := HR.out; omega)
          rcases (HMP.out.below HB2.out).look hkey (.slice none 0 0) (codec_Row.zero wr) false (hkey q hq) with ⟨j, hj, hx, hl⟩ | ⟨hno, -⟩
          · have := pk_inj hx
            obtain rfl : q = j := by omega
            simp only [pk, Bool.false_eq_true, if_false, hval] at hl
            exact hl
          · exact absurd rfl (hno q hq)
        have HCX := Lib.hid (show RowC w2 (.slice Ar (rw_ (codec_Row.M n m) q).length cr) (rw_ (codec_Row.M n m) q) from ⟨Ar, cr, rfl, hcr, hCr⟩)
        have HTK := Lib.hid htk
        have hqi : (q : Int) < (l2.length : Int) := by have := HCL.out; omega
        have HQ := Lib.hid hqi
        have HIN := Lib.hid hin
        obtain ⟨ad2, B2, d2, rB, hx2, hl2, hr2⟩ := at_L1 (Kd.C_below HR2.out HB.out) (q : Int) (by omega) hqi
        rw [Int.toNat_natCast] at hx2
        have HX2 := Lib.hid hx2
        have HCY := Lib.hid (show RowC w2 (.slice B2 (rd_L1 l2 (q : Int)).length d2) (rd_L1 l2 (q : Int)) from ⟨B2, d2, rfl, hl2, hr2⟩)
        have HV1 := Lib.hid (show vs1.length ≤ 100 by have h := HR1.out.1; have := HK.out; rw [List.length_map, List.length_take] at h; omega)
        have HV2 := Lib.hid (show vs2.length ≤ 100 by have h := HR3.out.1; have := HK.out; rw [List.length_map, List.length_take] at h; omega)
        clear hval hcr hCr htk hmem hrd hin hTi hx2 hl2 hr2
        subst rB
        go_wp2_with (first | ((with_reducible refine gate_builtin (b := .append) (xs := #[.tmp 50, .tmp 57]) rfl ?_); at_builtin; refine Kd.R_append (Kd.raw 1) (w0 := w2) w2.heap.size rfl (.tmp 50) (.tmp 57) 24 23 (.slice none 0 0) 24 rfl Try.underlying24 codec_Decode.i2 rfl (by decide) (by omega) _ (vs1.map fun v => [v]) [.slice Ar (rw_ (codec_Row.M n m) q).length cr] [.slice Ar (rw_ (codec_Row.M n m) q).length cr] (fun _ => True) (fun _ => False) rfl rfl ⟨rfl, rfl, fun u hu => by simp at hu; subst hu; rfl⟩ (fun _ h => h.elim) (fun _ _ => trivial) HO1.out HB2.out HB2.out.size (by have := HV1.out; simp; omega) ?_; intro v5 w5 ho hb hg hat; have HO5 := Lib.hid ho; have HO6 := Lib.hid (raw_grown HO3.out hg (fun k hk he => HDJ.out k he.symm hk)); have HDJ5 := Lib.hid (show ∀ k, v5.ownBlock = some k → _ = some k → False from fun k h1 h2 => hat.elim (fun e => HDJ.out k (e ▸ h1) h2) (fun ⟨b, e, hbg⟩ => by have := Kd.R_lt HO3.out k h2; rw [e] at h1; injection h1 with h1; omega)); have HB5 := Lib.hid hb; have hx5 := (hb.cell (World.block_lt_of_cell? _ _ HX2.out)).trans HX2.out; clear ho hb hg hat HO1 HO3 HDJ HB2) | ((with_reducible refine gate_builtin (b := .append) (xs := #[.tmp 59, .tmp 64]) rfl ?_); at_builtin; refine Kd.R_append (Kd.raw 1) (w0 := w2) w2.heap.size rfl (.tmp 59) (.tmp 64) 24 23 (.slice none 0 0) 24 rfl Try.underlying24 codec_Decode.i2 rfl (by decide) (by omega) _ (vs2.map fun v => [v]) [.slice B2 (rd_L1 l2 (q : Int)).length d2] [.slice B2 (rd_L1 l2 (q : Int)).length d2] (fun _ => True) (fun _ => False) rfl rfl ⟨rfl, rfl, fun u hu => by simp at hu; subst hu; rfl⟩ (fun _ h => h.elim) (fun _ _ => trivial) HO6.out HB5.out HB5.out.size (by have := HV2.out; simp; omega) ?_; intro v6 w6 ho hb hg hat; have HO8 := Lib.hid ho; have HO7 := Lib.hid (raw_grown HO5.out hg (fun k hk he => HDJ5.out k hk he.symm)); have HDJ6 := Lib.hid (show ∀ k, v5.ownBlock = some k → v6.ownBlock = some k → False from fun k h1 h2 => hat.elim (fun e => HDJ5.out k h1 (e ▸ h2)) (fun ⟨b, e, hbg⟩ => by have := Kd.R_lt HO5.out k h1; rw [e] at h2; injection h2 with h2; omega)); have HB6 := Lib.hid hb; clear ho hb hg hat HO5 HO6 HDJ5 HB5))
        have E1 : (vs1.map fun v => [v]) ++ [[Value.slice Ar (rw_ (codec_Row.M n m) q).length cr]] = (vs1 ++ [Value.slice Ar (rw_ (codec_Row.M n m) q).length cr]).map fun v => [v] := by simp
        have E2 : (vs2.map fun v => [v]) ++ [[Value.slice B2 (rd_L1 l2 (q : Int)).length d2]] = (vs2 ++ [Value.slice B2 (rd_L1 l2 (q : Int)).length d2]).map fun v => [v] := by simp
        rw [E1] at HO7
        rw [E2] at HO8
        have HR5 := Lib.hid (show RowsC w2 (vs1 ++ [Value.slice Ar (rw_ (codec_Row.M n m) q).length cr]) ((T.take (i + 1)).map fun x => rw_ (codec_Row.M n m) x.toNat) by rw [HTK.out, List.map_append]; exact HR1.out.append (RowsC.one HCX.out))
        have HR7 := Lib.hid (show RowsC w2 (vs2 ++ [Value.slice B2 (rd_L1 l2 (q : Int)).length d2]) ((T.take (i + 1)).map fun x => rd_L1 l2 x) by rw [HTK.out, List.map_append]; exact HR3.out.append (RowsC.one HCY.out))
        clear E1 E2
        go_roundg d
        case measure => omega
        case rel => exact ⟨i + 1, _, _, by omega, by first | rfl | (rw [Int.natCast_add]; rfl), HR5, HR7, HO7, HO8, HDJ6, HB6⟩

end Go.Proofs.Ythhncoogmncdkaa.PC
