/- alive and much of layer 4, in plain Lean. No condition. -/
import Derived.Test.YthhncoogmncdkaaPAx0
import Derived.Test.YthhncoogmncdkaaPAx5
import Derived.Test.YthhncoogmncdkaaDEnc
import Derived.Test.YthhncoogmncdkaaPAx3
import Derived.Test.YthhncoogmncdkaaCCode
import Derived.Test.YthhncoogmncdkaaPAx20
-- written by the session's own program (wip/prt.py) over the kit's print: not print.sh's own text
namespace Go.Proofs.Ythhncoogmncdkaa.PA
open Go.RowKit Go.Proofs.YthhncoogmncdkaaW.PrintWords Go.Proofs.YthhncoogmncdkaaW.PrintLast Go.Proofs.YthhncoogmncdkaaW.PrintMore
attribute [local go_sem] max2_int min2_int max_two min_two max_three min_three max_four min_four   -- for this text's walks alone
set_option linter.unusedVariables false
set_option linter.unusedSimpArgs false

/-! ### codec_Verify: function 11 -/
theorem codec_Verify.dlen (K : Nat) : ∀ (rs data out r1 : List (List Int)) (r2 : Int), codec_Encode.dots K rs data out = some (r1, r2) → r1.length ≤ out.length + rs.length
  | [], data, out, r1, r2, h => by
    rw [codec_Encode.dots] at h
    injection h with h; injection h with h1 h2; subst h1; simp
  | row :: rs, data, out, r1, r2, h => by
    rw [codec_Encode.dots] at h
    obtain ⟨c, _, h⟩ := Option.bind_eq_some_iff.mp h
    by_cases e : c.2 ≠ 0
    · rw [if_pos e] at h
      injection h with h; injection h with h1 h2; subst h1; simp
    · rw [if_neg e] at h
      have := codec_Verify.dlen K rs data _ r1 r2 h
      simp at this ⊢
      omega
/-- rows, compared as texts -/
def codec_Verify.eq : List (List Int) → List (List Int) → Bool
  | [], [] => true
  | x :: xs, y :: ys => if bytes_Equal.f x y = some true then codec_Verify.eq xs ys else false
  | _, _ => false
def codec_Verify.f (K : Nat) (a0 a1 : Int) (cells : List (List Int)) : Option (Bool × Int) :=
  if codec_Row.bad a0 a1 then some (false, 2) else if codec_Row.inv a0 a1 then (codec_there.f K cells (a0 + a1)).bind fun t => if t.2 = false then some (false, 40) else if (t.1.length : Int) < a0 + a1 then some (false, 40) else if (cells.length : Int) = a0 + a1 then (codec_Encode.dots K ((codec_Row.M a0.toNat a1.toNat).drop a0.toNat) (cells.take a0.toNat) []).bind fun p => some (codec_Verify.eq p.1 (cells.drop a0.toNat), p.2) else none else none
theorem codec_Verify.mono : ∀ a0 a1 a2 k, LeO (codec_Verify.f k a0 a1 a2) (codec_Verify.f (k + 1) a0 a1 a2) := fun _ _ _ _ => LeO.ite (LeO.refl _) (LeO.ite (LeO.bind (codec_there.mono _ _ _) (fun _ => LeO.ite (LeO.refl _) (LeO.ite (LeO.refl _) (LeO.ite (LeO.bind (codec_Encode.dots_mono _ _ _) (fun _ => LeO.refl _)) (LeO.refl _))))) (LeO.refl _))
theorem codec_Verify.eq_len : ∀ (p q : List (List Int)), p.length ≠ q.length → codec_Verify.eq p q = false
  | [], [], h => absurd rfl h
  | [], _ :: _, _ => rfl
  | _ :: _, [], _ => rfl
  | x :: xs, y :: ys, h => by
    unfold codec_Verify.eq
    rw [codec_Verify.eq_len xs ys (by simpa using h)]
    split <;> rfl
theorem codec_Verify.eq_drop {p q : List (List Int)} {n : Nat} (h : n < p.length) (h' : n < q.length) : codec_Verify.eq (p.drop n) (q.drop n) = if bytes_Equal.f (rd_L1 p (n : Int)) (rd_L1 q (n : Int)) = some true then codec_Verify.eq (p.drop (n + 1)) (q.drop (n + 1)) else false := by
  rw [List.drop_eq_getElem_cons h, List.drop_eq_getElem_cons h', codec_Verify.eq]
  have e1 : rd_L1 p (n : Int) = p[n] := by simp [rd_L1, h]
  have e2 : rd_L1 q (n : Int) = q[n] := by simp [rd_L1, h']
  rw [e1, e2]
set_option maxHeartbeats 400000 in
theorem codec_Verify.equal (A B : Option Addr) (ca cb : Nat) (p q : List (List Int)) (w : World) (hp : Kd.C (Kd.slice 5 (Kd.int .u8)) w A p.length p) (hq : Kd.C (Kd.slice 5 (Kd.int .u8)) w B q.length q) (hl : p.length ≤ 1000) :
    Calls Try.prog 27 #[.slice A p.length ca, .slice B q.length cb, .func (.func 28) #[] #[]] w fun e w' => e = .returned (.bool (codec_Verify.eq p q)) ∧ Below w.heap.size w w' := by
  have HP := Lib.hid hp
  have HQ := Lib.hid hq
  have HL := Lib.hid hl
  clear hp hq hl
  by_cases hne : (p.length : Int) = (q.length : Int)
  case neg =>
    have e1 : ((p.length : Int) != (q.length : Int)) = true := bne_iff_ne.mpr hne
    have HE := Lib.hid (codec_Verify.eq_len p q (fun z => hne (by rw [z])))
    clear hne
    go_enter Try.func27, Try.ntmps27
    go_wp2_with fail
    go_ret
    exact ⟨by rw [HE.out]; rfl, Below.refl _ _⟩
  have e1 : ((p.length : Int) != (q.length : Int)) = false := bne_eq_false_iff_eq.mpr hne
  have HLE := Lib.hid (show p.length = q.length by omega)
  clear hne
  go_enter Try.func27, Try.ntmps27
  go_wp2_with fail
  go_loopg [7, 8, 9, 17] p.length (fun g s7 s8 s9 s17 wx => ∃ n : Nat, n + g = p.length ∧ s17 = .int .i64 n ∧ Aside0 (codec_Verify.eq p q = codec_Verify.eq (p.drop n) (q.drop n)) ∧ Aside0 (Below w.heap.size w wx))
  case atStart => exact ⟨0, by omega, rfl, ⟨rfl⟩, ⟨Below.refl _ _⟩⟩
  case round =>
    obtain ⟨n, hng, rfl, HI, HB⟩ := hrel
    cases gk with
    | zero =>
      obtain rfl : n = p.length := by omega
      have HE := Lib.hid (show codec_Verify.eq p q = true by rw [HI.out, List.drop_length, HLE.out, List.drop_length]; rfl)
      go_wp2_with fail
      go_ret
      exact ⟨by rw [HE.out]; rfl, HB.out⟩
    | succ g =>
      have hn : n < p.length := by omega
      have hn1 : (n : Int) < (p.length : Int) := by omega
      have hn2 : (n : Int) < (q.length : Int) := by have := HLE.out; omega
      obtain ⟨ad, A1, c1, rA, hx, hxl, hxr⟩ := at_L1 (Kd.C_below HP.out HB.out) (n : Int) (by omega) hn1
      subst rA
      obtain ⟨bd, B1, d1, rB, hy, hyl, hyr⟩ := at_L1 (Kd.C_below HQ.out HB.out) (n : Int) (by omega) hn2
      subst rB
      rw [Int.toNat_natCast] at hx hy
      have hd := codec_Verify.eq_drop (p := p) (q := q) hn (by have := HLE.out; omega)
      obtain ⟨b, hb⟩ : ∃ b, bytes_Equal.f (rd_L1 p (n : Int)) (rd_L1 q (n : Int)) = some b := ⟨_, rfl⟩
      rw [hb] at hd
      have HD := Lib.hid hd
      have HBE := Lib.hid hb
      have HXL := Lib.hid hxl
      have HXR := Lib.hid hxr
      have HYL := Lib.hid hyl
      have HYR := Lib.hid hyr
      have HN := Lib.hid (show n + 1 ≤ 1000 by have := HL.out; omega)
      clear hd hb hxl hxr hyl hyr
      go_wp2_with fail
      refine (bytes_Equal.calls A1 c1 _ B1 d1 _ b _ HXR.out HXL.out HYR.out HYL.out HBE.out).mono ?_
      rintro en w1 ⟨rfl, n_, hw_⟩
      have hb2 : Below (World.heap wr).size wr w1 := by rw [hw_]; exact pw_below_drewN (Below.refl _ _) n_
      clear hw_
      have HB1 := Lib.hid (below_step HB.out hb2)
      clear hb2 hx hy
      cases b with
      | false =>
        have HE := Lib.hid (show codec_Verify.eq p q = false by rw [HI.out, HD.out]; rfl)
        go_wp2_with fail
        go_ret
        exact ⟨by rw [HE.out]; rfl, HB1.out⟩
      | true =>
        have HE := Lib.hid (show codec_Verify.eq p q = codec_Verify.eq (p.drop (n + 1)) (q.drop (n + 1)) by rw [HI.out, HD.out]; rfl)
        go_wp2_with fail
        go_roundg g
        case measure => omega
        case rel => exact ⟨n + 1, by omega, by have := HN.out; rw [show wrap64 ((n : Int) + 1) = ((n + 1 : Nat) : Int) by unfold wrap64; omega], ⟨HE.out⟩, ⟨HB1.out⟩⟩
theorem codec_Verify.i2 : (Try.prog.info? 23).map (fun i => (i.zero, i.size, i.bytes)) = some (some (.slice none 0 0), 1, 24) := by kernel_rfl
set_option maxHeartbeats 4000000 in
theorem codec_Verify.calls (k : Nat) (a0 a1 : Int) (A2 : Option Addr) (c2 : Nat) (l2 : List (List Int)) (r1 : Bool) (r2 : Int) (w : World) (hr2 : Kd.C (Kd.slice 5 (Kd.int .u8)) w A2 l2.length l2) (hc2 : l2.length ≤ c2) (h : codec_Verify.f k a0 a1 l2 = some (r1, r2)) :
    Calls Try.prog 11 #[.int .i64 a0, .int .i64 a1, .slice A2 l2.length c2] w fun e w' => e = .returned (.tuple #[.bool r1, .int .i64 r2]) ∧ Below w.heap.size w w' := by
  unfold codec_Verify.f at h
  have HR2 := Lib.hid hr2
  have HC2 := Lib.hid hc2
  clear hr2 hc2
  by_cases hbad : codec_Row.bad a0 a1
  case pos =>
    rw [if_pos hbad] at h
    injection h with h; injection h with ha hc; subst ha hc
    have HBAD := Lib.hid hbad
    clear hbad
    go_enter Try.func11, Try.ntmps11
    go_wp2_with fail
    refine (codec_Row.bad1 a0 a1 HBAD.out _).mono ?_
    rintro e w1 ⟨rfl, rfl⟩
    have heq := map_eql_nil none w
    go_wp2_with fail
    go_ret2
    exact ⟨rfl, Below.refl _ _⟩
  rw [if_neg hbad] at h
  by_cases hinv : codec_Row.inv a0 a1
  case neg => rw [if_neg hinv] at h; cases h
  rw [if_pos hinv] at h
  unfold codec_Row.bad at hbad
  obtain ⟨n, rfl⟩ := Int.eq_ofNat_of_zero_le (show 0 ≤ a0 by omega)
  obtain ⟨m, rfl⟩ := Int.eq_ofNat_of_zero_le (show 0 ≤ a1 by omega)
  simp only [Int.toNat_natCast] at h
  have hk0 : 1 ≤ n := by omega
  have hk : n ≤ 12 := by omega
  have hr : m ≤ 4 := by omega
  obtain ⟨⟨tl, tb⟩, hth, h⟩ := Option.bind_eq_some_iff.mp h
  have HI := Lib.hid hinv
  have HK0 := Lib.hid hk0
  have HK := Lib.hid hk
  have HR := Lib.hid hr
  have HTH := Lib.hid hth
  have H := Lib.hid h
  clear hbad hinv hk0 hk hr hth h
  go_enter Try.func11, Try.ntmps11
  go_wp2_with fail
  refine (codec_Row.made n m HK0.out HK.out HR.out HI.out _).mono ?_
  rintro e w1 ⟨g, val, rfl, hmp, hrow, hb⟩
  have heq := map_eql_nil (some g) w1
  have HB := Lib.hid hb
  have HMP := Lib.hid hmp
  have HRW := Lib.hid (fun i (hi : i < n + m) => RowC.of_R (hrow i hi))
  clear hmp hrow hb
  have hb1 : (n : Int) ≤ 12 := by have := HK.out; omega
  have hb2 : (m : Int) ≤ 4 := by have := HR.out; omega
  go_wp2_with fail
  refine (codec_there.calls k A2 c2 l2 ((n : Int) + (m : Int)) tl tb _ (Kd.C_below HR2.out HB.out) HC2.out HTH.out).mono ?_
  rintro e w2 ⟨v2, rfl, ho, hb⟩
  obtain ⟨At, ct, rfl⟩ := Kd.R_slice ho
  replace HMP := Lib.hid (HMP.out.below hb)
  replace HRW := Lib.hid (fun i (hi : i < n + m) => (HRW.out i hi).below hb)
  replace HB := Lib.hid (below_step HB.out hb)
  clear ho hb HTH heq
  have h := H.out
  try dsimp only at h
  cases tb with
  | false =>
    rw [if_pos rfl] at h
    injection h with h; injection h with ha hc; subst ha hc
    clear H
    go_wp2_with fail
    go_ret2
    exact ⟨rfl, HB.out⟩
  | true =>
    rw [if_neg (by decide)] at h
    by_cases hlt : (tl.length : Int) < (n : Int) + (m : Int)
    case pos =>
      rw [if_pos hlt] at h
      injection h with h; injection h with ha hc; subst ha hc
      have hd : decide ((tl.length : Int) < (n : Int) + (m : Int)) = true := decide_eq_true hlt
      clear H
      go_wp2_with fail
      go_ret2
      exact ⟨rfl, HB.out⟩
    rw [if_neg hlt] at h
    by_cases hlen : (l2.length : Int) = (n : Int) + (m : Int)
    case neg => rw [if_neg hlen] at h; cases h
    rw [if_pos hlen] at h
    have hd : decide ((tl.length : Int) < (n : Int) + (m : Int)) = false := decide_eq_false hlt
    obtain ⟨⟨p, pe⟩, hdots, h⟩ := Option.bind_eq_some_iff.mp h
    have HD := Lib.hid hdots
    have HLN := Lib.hid (show l2.length = n + m by omega)
    injection h with h; injection h with ha hc; subst hc
    have HA := Lib.hid (show codec_Verify.eq p (l2.drop n) = r1 from ha)
    obtain ⟨i0, hi0, hz⟩ := Option.map_eq_some_iff.1 codec_Verify.i2
    simp only [Prod.mk.injEq] at hz
    have hct := fun (W : World) => cut_to (P := Try.prog) 24 23 .i64 Try.underlying24 hi0 A2 l2.length c2 (n : Int) (by omega) (by omega) HC2.out W
    have hcf := fun (W : World) => cut_from (P := Try.prog) 24 23 .i64 Try.underlying24 hi0 1 hz.2.1 A2 l2.length c2 (n : Int) (by omega) (by omega) W
    simp only [Int.toNat_natCast] at hct hcf
    have ht1 : (l2.take n).length = n := by rw [List.length_take]; omega
    have ht2 : (l2.drop n).length = l2.length - n := List.length_drop
    have HT := Lib.hid (show Kd.C (Kd.slice 5 (Kd.int .u8)) w A2 (l2.take n).length (l2.take n) from Kd.C_take HR2.out (by omega))
    have HDR := Lib.hid (show Kd.C (Kd.slice 5 (Kd.int .u8)) w (if c2 = n then A2 else A2.map (·.add (n * 1))) (l2.drop n).length (l2.drop n) from Kd.C_drop HR2.out (by omega) HC2.out)
    generalize (if c2 = n then A2 else A2.map (·.add (n * 1))) = A3 at hcf HDR
    rw [← ht2] at hcf
    rw [← ht1] at hct
    have HNC := Lib.hid (show (l2.take n).length ≤ c2 by have := HC2.out; omega)
    generalize l2.take n = T at *
    generalize l2.drop n = D at *
    have hcut1 := funext hct
    have hcut2 := funext hcf
    subst ht1
    clear H hlt hlen hi0 hz hct hcf ht2 hdots ha
    go_wp2_with fail
    refine (codec_Encode.cells k T.length m HK.out HR.out g val A2 c2 T p pe _ HMP.out HRW.out (Kd.C_below HT.out HB.out) HNC.out HD.out).mono ?_
    rintro e w3 ⟨v3, rfl, ho, hb⟩
    obtain ⟨Ap, cp, rfl⟩ := Kd.S_slice ho
    have HP := Lib.hid (Kd.S_reads' ho).2.2
    have HPL := Lib.hid (show p.length ≤ 1000 by
      have h := codec_Verify.dlen _ _ _ _ _ _ HD.out
      have := HR.out
      rw [List.length_drop, codec_Row.M_len] at h
      simp at h
      omega)
    have HB3 := Lib.hid (below_step HB.out hb)
    clear ho hb
    go_wp2_with fail
    refine (codec_Verify.equal Ap A3 cp (c2 - T.length) p D _ HP.out (Kd.C_below HDR.out HB3.out) HPL.out).mono ?_
    rintro e w4 ⟨rfl, hb⟩
    have HB4 := Lib.hid (below_step HB3.out hb)
    clear hb
    go_wp2_with fail
    go_ret2
    exact ⟨by rw [← HA.out]; rfl, HB4.out⟩

end Go.Proofs.Ythhncoogmncdkaa.PA
-- written by the session's own program (wip/prt.py) over the kit's print: not print.sh's own text
namespace Go.Proofs.Ythhncoogmncdkaa.PA
open Go.RowKit Go.Proofs.YthhncoogmncdkaaW.PrintWords Go.Proofs.YthhncoogmncdkaaW.PrintLast Go.Proofs.YthhncoogmncdkaaW.PrintMore
attribute [local go_sem] max2_int min2_int max_two min_two max_three min_three max_four min_four   -- for this text's walks alone
set_option linter.unusedVariables false
set_option linter.unusedSimpArgs false

/-! ### codec_Decode: function 10 -/
theorem codec_Decode.i3 : (Try.prog.info? 3).map (fun i => (i.zero, i.size, i.bytes)) = some (some (.int .i64 0), 1, 8) := by kernel_rfl
theorem codec_Decode.i2 : (Try.prog.info? 23).map (fun i => (i.zero, i.size, i.bytes)) = some (some (.slice none 0 0), 1, 24) := by kernel_rfl
def codec_Decode.ok (n m : Nat) (cells : List (List Int)) (at_ : List Int) : Prop := cells.length = n + m ∧ ∀ x ∈ at_, 0 ≤ x ∧ x < ((n + m : Nat) : Int)
instance codec_Decode.okDec (n m : Nat) (cells : List (List Int)) (at_ : List Int) : Decidable (codec_Decode.ok n m cells at_) := by unfold codec_Decode.ok; infer_instance
/-- behind the counting -/
def codec_Decode.go (K n m : Nat) (cells : List (List Int)) (at_ : List Int) : Option (List (List Int) × Int) :=
  if codec_Decode.ok n m cells at_ then (matrix_Inverse.f K (at_.map fun x => rw_ (codec_Row.M n m) x.toNat)).bind fun b => if b.2 ≠ 0 then some ([], b.2) else if b.1.length ≤ 100 then (codec_Encode.dots K b.1 (at_.map fun x => rd_L1 cells x) []).bind fun d => if d.2 ≠ 0 then some ([], d.2) else (codec_Encode.dots K ((codec_Row.M n m).drop n) d.1 []).bind fun p => some (d.1 ++ p.1, p.2) else none else none
def codec_Decode.f (K : Nat) (a0 a1 : Int) (cells : List (List Int)) : Option (List (List Int) × Int) :=
  if codec_Row.bad a0 a1 then some ([], 2) else if codec_Row.inv a0 a1 then (codec_there.f K cells (a0 + a1)).bind fun t => if t.2 = false then some ([], 40) else if (t.1.length : Int) < a0 then some ([], 5) else codec_Decode.go K a0.toNat a1.toNat cells (t.1.take a0.toNat) else none
theorem codec_Decode.go_mono {K n m : Nat} {cells : List (List Int)} {at_ : List Int} : LeO (codec_Decode.go K n m cells at_) (codec_Decode.go (K + 1) n m cells at_) :=
  LeO.ite (LeO.bind (matrix_Inverse.mono _ _) (fun _ => LeO.ite (LeO.refl _) (LeO.ite (LeO.bind (codec_Encode.dots_mono _ _ _) (fun _ => LeO.ite (LeO.refl _) (LeO.bind (codec_Encode.dots_mono _ _ _) (fun _ => LeO.refl _)))) (LeO.refl _)))) (LeO.refl _)
theorem codec_Decode.mono : ∀ a0 a1 a2 k, LeO (codec_Decode.f k a0 a1 a2) (codec_Decode.f (k + 1) a0 a1 a2) := fun _ _ _ _ => LeO.ite (LeO.refl _) (LeO.ite (LeO.bind (codec_there.mono _ _ _) (fun _ => LeO.ite (LeO.refl _) (LeO.ite (LeO.refl _) codec_Decode.go_mono))) (LeO.refl _))
set_option maxHeartbeats 8000000 in
theorem codec_Decode.calls (k : Nat) (a0 a1 : Int) (A2 : Option Addr) (c2 : Nat) (l2 : List (List Int)) (r1 : List (List Int)) (r2 : Int) (w : World) (hr2 : Kd.C (Kd.slice 5 (Kd.int .u8)) w A2 l2.length l2) (hc2 : l2.length ≤ c2) (h : codec_Decode.f k a0 a1 l2 = some (r1, r2)) :
    Calls Try.prog 10 #[.int .i64 a0, .int .i64 a1, .slice A2 l2.length c2] w fun e w' => ∃ v0_ : Value, e = .returned (.tuple #[v0_, .int .i64 r2]) ∧ Kd.N (Kd.slice 5 (Kd.int .u8)) 23 w' w.heap.size (fun k_ => w.heap.size ≤ k_) v0_ r1 ∧ Below w.heap.size w w' := by
  unfold codec_Decode.f at h
  have HR2 := Lib.hid hr2
  have HC2 := Lib.hid hc2
  clear hr2 hc2
  by_cases hbad : codec_Row.bad a0 a1
  case pos =>
    rw [if_pos hbad] at h
    injection h with h; injection h with ha hc; subst ha hc
    have HBAD := Lib.hid hbad
    clear hbad
    go_enter Try.func10, Try.ntmps10
    go_wp2_with fail
    refine (codec_Row.bad1 a0 a1 HBAD.out _).mono ?_
    rintro e w1 ⟨rfl, rfl⟩
    have heq := map_eql_nil none w
    go_wp2_with fail
    go_ret2
    exact ⟨_, rfl, Kd.N_nil _ _ _ _ _, Below.refl _ _⟩
  rw [if_neg hbad] at h
  by_cases hinv : codec_Row.inv a0 a1
  case neg => rw [if_neg hinv] at h; cases h
  rw [if_pos hinv] at h
  unfold codec_Row.bad at hbad
  obtain ⟨n, rfl⟩ := Int.eq_ofNat_of_zero_le (show 0 ≤ a0 by omega)
  obtain ⟨m, rfl⟩ := Int.eq_ofNat_of_zero_le (show 0 ≤ a1 by omega)
  simp only [Int.toNat_natCast] at h
  have hk0 : 1 ≤ n := by omega
  have hk : n ≤ 12 := by omega
  have hr : m ≤ 4 := by omega
  obtain ⟨⟨tl, tb⟩, hth, h⟩ := Option.bind_eq_some_iff.mp h
  have HI := Lib.hid hinv
  have HK0 := Lib.hid hk0
  have HK := Lib.hid hk
  have HR := Lib.hid hr
  have HTH := Lib.hid hth
  have H := Lib.hid h
  clear hbad hinv hk0 hk hr hth h
  go_enter Try.func10, Try.ntmps10
  go_wp2_with fail
  refine (codec_Row.made n m HK0.out HK.out HR.out HI.out _).mono ?_
  rintro e w1 ⟨g, val, rfl, hmp, hrow, hb⟩
  have heq := map_eql_nil (some g) w1
  have HB := Lib.hid hb
  have HMP := Lib.hid hmp
  have HRW := Lib.hid (fun i (hi : i < n + m) => RowC.of_R (hrow i hi))
  clear hmp hrow hb
  have hb1 : (n : Int) ≤ 12 := by have := HK.out; omega
  have hb2 : (m : Int) ≤ 4 := by have := HR.out; omega
  go_wp2_with fail
  refine (codec_there.calls k A2 c2 l2 ((n : Int) + (m : Int)) tl tb _ (Kd.C_below HR2.out HB.out) HC2.out HTH.out).mono ?_
  rintro e w2 ⟨v2, rfl, ho, hb⟩
  obtain ⟨At, ct, rfl⟩ := Kd.R_slice ho
  replace HMP := Lib.hid (HMP.out.below hb)
  replace HRW := Lib.hid (fun i (hi : i < n + m) => (HRW.out i hi).below hb)
  replace HB := Lib.hid (below_step HB.out hb)
  have HAT := Lib.hid (Kd.R_reads' ho).2.2
  have HATL := Lib.hid (Kd.R_reads' ho).2.1
  clear ho hb HTH heq
  have h := H.out
  try dsimp only at h
  cases tb with
  | false =>
    rw [if_pos rfl] at h
    injection h with h; injection h with ha hc; subst ha hc
    clear H
    go_wp2_with fail
    go_ret2
    exact ⟨_, rfl, Kd.N_nil _ _ _ _ _, HB.out⟩
  | true =>
    rw [if_neg (by decide)] at h
    by_cases hlt : (tl.length : Int) < (n : Int)
    case pos =>
      rw [if_pos hlt] at h
      injection h with h; injection h with ha hc; subst ha hc
      have hd : decide ((tl.length : Int) < (n : Int)) = true := decide_eq_true hlt
      clear H
      go_wp2_with fail
      go_ret2
      exact ⟨_, rfl, Kd.N_nil _ _ _ _ _, HB.out⟩
    rw [if_neg hlt] at h
    have hd : decide ((tl.length : Int) < (n : Int)) = false := decide_eq_false hlt
    unfold codec_Decode.go at h
    by_cases hok : codec_Decode.ok n m l2 (tl.take n)
    case neg => rw [if_neg hok] at h; cases h
    rw [if_pos hok] at h
    obtain ⟨hcl, hck⟩ := hok
    obtain ⟨i0, hi0, hz⟩ := Option.map_eq_some_iff.1 codec_Decode.i3
    have ht1 : (tl.take n).length = n := by rw [List.length_take]; omega
    have hct := fun (W : World) => cut_to (P := Try.prog) 37 3 .i64 Try.underlying37 hi0 At tl.length ct (n : Int) (by omega) (by omega) HATL.out W
    simp only [Int.toNat_natCast] at hct
    have hcut := funext hct
    have HT := Lib.hid (show Kd.C (Kd.int .i64) w2 At (tl.take n).length (tl.take n) from Kd.C_take HAT.out (by omega))
    have H2 := Lib.hid h
    clear h H hct hi0 hz
    generalize hTT : tl.take n = T at *
    have HTL := Lib.hid ht1
    have HCK := Lib.hid hck
    have HCL := Lib.hid hcl
    have hd2 : decide (tl.length < n) = false := decide_eq_false (by omega)
    clear hTT ht1 hck hcl hlt HAT HATL
    go_wp2_with fail
    go_loopg [11, 12, 14, 46] n (fun gk s11 s12 s14 s46 wx => ∃ (i : Nat) (vs1 vs2 : List Value), i + gk = n ∧ s46 = .int .i64 i ∧ Hid (RowsC w2 vs1 ((T.take i).map fun x => rw_ (codec_Row.M n m) x.toNat)) ∧ Hid (RowsC w2 vs2 ((T.take i).map fun x => rd_L1 l2 x)) ∧ Hid (Kd.R (Kd.raw 1) 23 wx w2.heap.size (fun _ => True) s11 (vs1.map fun v => [v])) ∧ Hid (Kd.R (Kd.raw 1) 23 wx w2.heap.size (fun _ => True) s12 (vs2.map fun v => [v])) ∧ Hid (∀ k, s11.ownBlock = some k → s12.ownBlock = some k → False) ∧ Hid (Below w2.heap.size w2 wx))
    case atStart => exact ⟨0, [], [], by omega, rfl, Lib.hid (RowsC.nil _), Lib.hid (RowsC.nil _), Lib.hid (Kd.R_nil _ _ _ _ _), Lib.hid (Kd.R_nil _ _ _ _ _), Lib.hid (fun k h => by simp [Value.ownBlock] at h), Lib.hid (Below.refl _ _)⟩
    case round =>
      obtain ⟨i, vs1, vs2, hig, rfl, HR1, HR3, HO1, HO3, HDJ, HB2⟩ := hrel
      cases gk with
      | zero =>
        obtain rfl : i = n := by omega
        have htt : T.take i = T := by rw [List.take_of_length_le]; rw [HTL.out]; exact Nat.le_refl _
        rw [htt] at HR1 HR3
        obtain ⟨Am, cm, rfl, hm1, hm2⟩ := RowsC.of_raw HO1.out (HR1.out.below HB2.out)
        obtain ⟨Af, cf, rfl, hf1, hf2⟩ := RowsC.of_raw HO3.out (HR3.out.below HB2.out)
        have HLM : (T.map fun x => rw_ (codec_Row.M i m) x.toNat).length = i := by rw [List.length_map, HTL.out]
        have HLF : (T.map fun x => rd_L1 l2 x).length = i := by rw [List.length_map, HTL.out]
        obtain ⟨⟨bk, be⟩, hinv, h⟩ := Option.bind_eq_some_iff.mp H2.out
        generalize (T.map fun x => rw_ (codec_Row.M i m) x.toNat) = MM at *
        generalize (T.map fun x => rd_L1 l2 x) = FF at *
        have HM2 := Lib.hid hm2
        have HM1 := Lib.hid hm1
        have HF2 := Lib.hid hf2
        have HF1 := Lib.hid hf1
        have HINV := Lib.hid hinv
        have H3 := Lib.hid h
        clear hm1 hm2 hf1 hf2 hinv h H2 htt
        subst HLM
        go_wp2_with fail
        refine (matrix_Inverse.calls k Am cm MM bk be _ HM2.out HM1.out HINV.out).mono ?_
        rintro e w3 ⟨v3, rfl, ho, hb⟩
        obtain ⟨Ab, cb, rfl⟩ := Kd.S_slice ho
        have HBK := Lib.hid (Kd.S_reads' ho).2.2
        have HF3 := Lib.hid (Kd.C_below HF2.out hb)
        have HB3 := Lib.hid (below_step HB2.out hb)
        clear ho hb HO1 HO3 HDJ HB2
        by_cases hbe : be = 0
        case neg =>
          have h := H3.out
          try dsimp only at h
          rw [if_pos hbe] at h
          injection h with h; injection h with ha hc; subst ha hc
          have e1 : (be != 0) = true := bne_iff_ne.mpr hbe
          clear hbe H3
          go_wp2_with fail
          go_ret2
          exact ⟨_, rfl, Kd.N_nil _ _ _ _ _, below_step HB.out HB3.out⟩
        subst hbe
        have h := H3.out
        try dsimp only at h
        rw [if_neg (fun z => z rfl)] at h
        by_cases hbl : bk.length ≤ 100
        case neg => rw [if_neg hbl] at h; cases h
        rw [if_pos hbl] at h
        obtain ⟨⟨dt, de⟩, hdots, h⟩ := Option.bind_eq_some_iff.mp h
        have HBL := Lib.hid hbl
        have HDT := Lib.hid hdots
        have H4 := Lib.hid h
        clear hbl hdots h H3
        go_wp2_with fail
        go_loopg [17, 19, 20, 21, 77] bk.length (fun gk s17 s19 s20 s21 s77 wx => ∃ (i : Nat) (out : List (List Int)), i + gk = bk.length ∧ s77 = .int .i64 i ∧ Hid (out.length = i) ∧ Hid (codec_Encode.dots k (bk.drop i) FF out = some (dt, de)) ∧ Hid (Kd.S (Kd.slice 5 (Kd.int .u8)) 23 wx w3.heap.size (fun _ => True) s17 out) ∧ Hid (Below w3.heap.size w3 wx))
        case atStart => exact ⟨0, [], by omega, rfl, Lib.hid rfl, HDT, Lib.hid (Kd.S_nil _ _ _ _ _), Lib.hid (Below.refl _ _)⟩
        case round =>
          have HDT0 := HDT
          clear HDT
          obtain ⟨i, out, hig, rfl, HOL, HD, HS, HBx⟩ := hrel
          cases gk with
          | zero =>
            obtain rfl : i = bk.length := by omega
            have h := HD.out
            rw [List.drop_length, codec_Encode.dots] at h
            injection h with h; injection h with ha hc; subst ha hc
            have h := H4.out
            try dsimp only at h
            rw [if_neg (fun z => z rfl)] at h
            obtain ⟨⟨pr, pe⟩, hpar, h⟩ := Option.bind_eq_some_iff.mp h
            injection h with h; injection h with ha hc
            obtain ⟨Ad, cd, rfl⟩ := Kd.S_slice HS.out
            have HDC := Lib.hid (Kd.S_reads' HS.out).2.2
            have HDL := Lib.hid (Kd.S_reads' HS.out).2.1
            have HPAR := Lib.hid hpar
            have HA := Lib.hid ha
            have HE := Lib.hid hc
            clear HD hig h H4 hpar ha hc
            go_wp2_with fail
            refine (codec_Encode.cells k MM.length m HK.out HR.out g val Ad cd out pr pe _ ((HMP.out.below HB3.out).below HBx.out) (fun i hi => ((HRW.out i hi).below HB3.out).below HBx.out) HDC.out HDL.out HPAR.out).mono ?_
            rintro e w5 ⟨v5, rfl, ho, hb⟩
            have HWB := Lib.hid (below_step HB.out (below_step HB3.out HBx.out))
            have HB5 := Lib.hid (below_step HWB.out hb)
            have HDN := Lib.hid (Kd.N_below (Kd.N_lower (Kd.N_mono (ok' := fun k_ => w.heap.size ≤ k_) (Kd.S_N (Kd.S_bound HS.out)) (fun k_ hk_ => Nat.le_trans (below_step HB.out HB3.out).size hk_.2.1)) (below_step HB.out HB3.out).size) hb)
            have HLT := Lib.hid (fun k_ hk_ => Kd.N_lt (Kd.S_N HS.out) k_ hk_)
            obtain ⟨Ap, cp, rfl⟩ := Kd.S_slice ho
            have HPF := Lib.hid (Kd.N_F (Kd.N_mono (ok' := fun k_ => wr.heap.size ≤ k_) (Kd.S_N (Kd.S_bound ho)) (fun k_ hk_ => hk_.2.1)))
            clear ho hb HS
            have HLO := Lib.hid (show out.length ≤ 1000 ∧ pr.length ≤ 1000 by
              have h1 := codec_Verify.dlen _ _ _ _ _ _ HDT0.out
              have h2 := codec_Verify.dlen _ _ _ _ _ _ HPAR.out
              have := HR.out
              have := HBL.out
              rw [List.length_drop, codec_Row.M_len] at h2
              simp at h1 h2
              omega)
            go_wp2_with ((with_reducible refine gate_builtin (b := .append) (xs := #[.tmp 107, .tmp 108]) rfl ?_); at_builtin; refine Kd.N_append_rows (Kd.slice 5 (Kd.int .u8)) (w0 := w) w.heap.size rfl (.tmp 107) (.tmp 108) 24 23 (.slice none 0 0) 24 rfl Try.underlying24 codec_Decode.i2 rfl (by decide) (by omega) (.slice Ad out.length cd) out pr Ap _ _ (fun k_ => w.heap.size ≤ k_) (fun k_ => wr.heap.size ≤ k_) rfl rfl HDN.out HPF.out (fun k_ hk_ => ⟨Nat.le_trans HWB.out.size hk_, fun z => by have := HLT.out k_ z.symm; omega⟩) (fun k_ hk_ => Nat.le_trans HB5.out.size hk_) HB5.out HB5.out.size (by have := HLO.out; omega) ?_; intro v7 w7 ho hb hg hat; have HO7 := Lib.hid ho; have HB7 := Lib.hid hb; clear ho hb hg hat)
            go_ret2
            exact ⟨_, by rw [← HE.out]; rfl, by rw [← HA.out]; exact HO7.out, HB7.out⟩
          | succ d =>
            have hin : i < bk.length := by omega
            have hil : (i : Int) < (bk.length : Int) := by omega
            have h := HD.out
            rw [List.drop_eq_getElem_cons hin, codec_Encode.dots] at h
            have hrow : bk[i] = rd_L1 bk (i : Int) := by simp [rd_L1, hin]
            rw [hrow] at h
            obtain ⟨⟨y, ye⟩, hdot, h⟩ := Option.bind_eq_some_iff.mp h
            obtain ⟨ad, B3, d3, rA, hx, hl3, hr3⟩ := at_L1 (Kd.C_below HBK.out HBx.out) (i : Int) (by omega) hil
            subst rA
            rw [Int.toNat_natCast] at hx
            have HDO := Lib.hid hdot
            have H5 := Lib.hid h
            have HCR := Lib.hid hr3
            have HCRL := Lib.hid hl3
            have HIN := Lib.hid hin
            clear h hdot hrow HD hl3 hr3 hin
            go_wp2_with fail
            have hcall := kernel_Dot.calls k B3 d3 (rd_L1 bk (i : Int)) Af cf FF y ye _ HCR.out HCRL.out (Kd.C_below HF3.out HBx.out) HF1.out HDO.out
            rw [HLF] at hcall
            refine hcall.mono ?_
            clear hcall
            rintro e w4 ⟨v4, rfl, ho, hb⟩
            have HY := Lib.hid ho
            have HB1 := Lib.hid (below_step HBx.out hb)
            have HW := Lib.hid hb
            clear ho hb HCR HCRL HDO hx
            by_cases h0 : ye = 0
            case neg =>
              have h := H5.out
              try dsimp only at h
              rw [if_pos h0] at h
              injection h with h; injection h with ha hc; subst ha hc
              have h2 := H4.out
              try dsimp only at h2
              rw [if_pos h0] at h2
              injection h2 with h2; injection h2 with ha hc; subst ha hc
              have e1 : (ye != 0) = true := bne_iff_ne.mpr h0
              clear h0 H5 H4
              go_wp2_with fail
              go_ret2
              exact ⟨_, rfl, Kd.N_nil _ _ _ _ _, below_step HB.out (below_step HB3.out HB1.out)⟩
            subst h0
            have h := H5.out
            try dsimp only at h
            rw [if_neg (fun z => z rfl)] at h
            have HN := Lib.hid h
            obtain ⟨Ay, cy, rfl⟩ := Kd.R_slice HY.out
            have HOLD := Lib.hid (Kd.S_mono (Kd.S_old HS.out HW.out) (ok' := fun k_ => True ∧ ¬ wr.heap.size ≤ k_) (fun k_ hk_ => ⟨trivial, by have := hk_.2; omega⟩))
            have HLT := Lib.hid (Kd.S_lt HS.out)
            have HYM := Lib.hid (Kd.M_row (Kd.R_lower (Kd.R_mono (Kd.R_bound HY.out) (ok' := fun k_ => wr.heap.size ≤ k_) (fun k_ hk_ => hk_.2.1)) HBx.out.size))
            clear h H5 HS HY HW HBx
            go_wp2_with ((with_reducible refine gate_builtin (b := .append) (xs := #[.tmp 90, .tmp 92]) rfl ?_); at_builtin; refine Kd.S_append (Kd.slice 5 (Kd.int .u8)) (w0 := w3) w3.heap.size rfl (.tmp 90) (.tmp 92) 24 23 (.slice none 0 0) 24 rfl Try.underlying24 codec_Decode.i2 rfl (by decide) (by omega) _ out y [.slice Ay y.length cy] (fun _ => True) (fun k_ => wr.heap.size ≤ k_) rfl rfl HYM.out (fun k_ hk_ => ⟨trivial, fun e_ => by have := HLT.out k_ e_.symm; omega⟩) (fun _ _ => trivial) HOLD.out HB1.out HB1.out.size (by have := HOL.out; have := HBL.out; have := HIN.out; omega) ?_; intro v5 w5 ho hb hg hat; have HS := Lib.hid ho; have HB := Lib.hid hb; clear ho hb hg hat)
            go_roundg d
            case measure => omega
            case rel => exact ⟨i + 1, out ++ [y], by omega, by first | rfl | (rw [Int.natCast_add]; rfl) | (rw [show wrap64 ((i : Int) + 1) = ((i + 1 : Nat) : Int) by have := HIN.out; have := HBL.out; unfold wrap64; omega]), Lib.hid (by rw [List.length_append, HOL.out]; rfl), HN, HS, HB⟩
      | succ d =>
        have hin : i < n := by omega
        have hil : (i : Int) < (T.length : Int) := by rw [HTL.out]; omega
        have hi0 : (0 : Int) ≤ (i : Int) := by omega
        obtain ⟨ad, rA, hx⟩ := Kd.at_int (Kd.C_below HT.out HB2.out) (i : Int) hi0 hil
        subst rA
        rw [Int.toNat_natCast] at hx
        have hTi : i < T.length := by omega
        have hmem := HCK.out _ (List.getElem_mem hTi)
        have hrd : rd T (i : Int) = T[i] := by simp [rd, hTi]
        have htk : T.take (i + 1) = T.take i ++ [T[i]] := by rw [List.take_add_one, List.getElem?_eq_getElem hTi]; rfl
        rw [hrd] at hx
        generalize T[i] = x at *
        obtain ⟨q, rfl⟩ := Int.eq_ofNat_of_zero_le hmem.1
        have hq : q < n + m := by have := hmem.2; omega
        obtain ⟨Ar, cr, hval, hcr, hCr⟩ := HRW.out q hq
        have hlook : (Instr.lookup 44 (.map (some g)) (.agg #[.int .i64 (n : Int), .int .i64 (m : Int), .int .i64 (q : Int)]) false).run Try.prog wr = .ok (.slice Ar (rw_ (codec_Row.M n m) q).length cr) wr := by
          have hkey := fun p (hp : p < n + m) => codec_Row.keys (n := 0) (i := p) HK.out HR.out (by have := HK.out; have := HR.out; omega)
          rcases (HMP.out.below HB2.out).look hkey (.slice none 0 0) (codec_Row.zero wr) false (hkey q hq) with ⟨j, hj, hx, hl⟩ | ⟨hno, -⟩
          · have := pk_inj hx
            obtain rfl : q = j := by omega
            simp only [pk, Bool.false_eq_true, if_false, hval] at hl
            exact hl
          · exact absurd rfl (hno q hq)
        have HCX := Lib.hid (show RowC w2 (.slice Ar (rw_ (codec_Row.M n m) q).length cr) (rw_ (codec_Row.M n m) q) from ⟨Ar, cr, rfl, hcr, hCr⟩)
        have HTK := Lib.hid htk
        have hqi : (q : Int) < (l2.length : Int) := by have := HCL.out; omega
        have HQ := Lib.hid hqi
        have HIN := Lib.hid hin
        obtain ⟨ad2, B2, d2, rB, hx2, hl2, hr2⟩ := at_L1 (Kd.C_below HR2.out HB.out) (q : Int) (by omega) hqi
        rw [Int.toNat_natCast] at hx2
        have HX2 := Lib.hid hx2
        have HCY := Lib.hid (show RowC w2 (.slice B2 (rd_L1 l2 (q : Int)).length d2) (rd_L1 l2 (q : Int)) from ⟨B2, d2, rfl, hl2, hr2⟩)
        have HV1 := Lib.hid (show vs1.length ≤ 100 by have h := HR1.out.1; have := HK.out; rw [List.length_map, List.length_take] at h; omega)
        have HV2 := Lib.hid (show vs2.length ≤ 100 by have h := HR3.out.1; have := HK.out; rw [List.length_map, List.length_take] at h; omega)
        clear hval hcr hCr htk hmem hrd hin hTi hx2 hl2 hr2
        subst rB
        go_wp2_with (first | ((with_reducible refine gate_builtin (b := .append) (xs := #[.tmp 50, .tmp 57]) rfl ?_); at_builtin; refine Kd.R_append (Kd.raw 1) (w0 := w2) w2.heap.size rfl (.tmp 50) (.tmp 57) 24 23 (.slice none 0 0) 24 rfl Try.underlying24 codec_Decode.i2 rfl (by decide) (by omega) _ (vs1.map fun v => [v]) [.slice Ar (rw_ (codec_Row.M n m) q).length cr] [.slice Ar (rw_ (codec_Row.M n m) q).length cr] (fun _ => True) (fun _ => False) rfl rfl ⟨rfl, rfl, fun u hu => by simp at hu; subst hu; rfl⟩ (fun _ h => h.elim) (fun _ _ => trivial) HO1.out HB2.out HB2.out.size (by have := HV1.out; simp; omega) ?_; intro v5 w5 ho hb hg hat; have HO5 := Lib.hid ho; have HO6 := Lib.hid (raw_grown HO3.out hg (fun k hk he => HDJ.out k he.symm hk)); have HDJ5 := Lib.hid (show ∀ k, v5.ownBlock = some k → _ = some k → False from fun k h1 h2 => hat.elim (fun e => HDJ.out k (e ▸ h1) h2) (fun ⟨b, e, hbg⟩ => by have := Kd.R_lt HO3.out k h2; rw [e] at h1; injection h1 with h1; omega)); have HB5 := Lib.hid hb; have hx5 := (hb.cell (World.block_lt_of_cell? _ _ HX2.out)).trans HX2.out; clear ho hb hg hat HO1 HO3 HDJ HB2) | ((with_reducible refine gate_builtin (b := .append) (xs := #[.tmp 59, .tmp 64]) rfl ?_); at_builtin; refine Kd.R_append (Kd.raw 1) (w0 := w2) w2.heap.size rfl (.tmp 59) (.tmp 64) 24 23 (.slice none 0 0) 24 rfl Try.underlying24 codec_Decode.i2 rfl (by decide) (by omega) _ (vs2.map fun v => [v]) [.slice B2 (rd_L1 l2 (q : Int)).length d2] [.slice B2 (rd_L1 l2 (q : Int)).length d2] (fun _ => True) (fun _ => False) rfl rfl ⟨rfl, rfl, fun u hu => by simp at hu; subst hu; rfl⟩ (fun _ h => h.elim) (fun _ _ => trivial) HO6.out HB5.out HB5.out.size (by have := HV2.out; simp; omega) ?_; intro v6 w6 ho hb hg hat; have HO8 := Lib.hid ho; have HO7 := Lib.hid (raw_grown HO5.out hg (fun k hk he => HDJ5.out k hk he.symm)); have HDJ6 := Lib.hid (show ∀ k, v5.ownBlock = some k → v6.ownBlock = some k → False from fun k h1 h2 => hat.elim (fun e => HDJ5.out k h1 (e ▸ h2)) (fun ⟨b, e, hbg⟩ => by have := Kd.R_lt HO5.out k h1; rw [e] at h2; injection h2 with h2; omega)); have HB6 := Lib.hid hb; clear ho hb hg hat HO5 HO6 HDJ5 HB5))
        have E1 : (vs1.map fun v => [v]) ++ [[Value.slice Ar (rw_ (codec_Row.M n m) q).length cr]] = (vs1 ++ [Value.slice Ar (rw_ (codec_Row.M n m) q).length cr]).map fun v => [v] := by simp
        have E2 : (vs2.map fun v => [v]) ++ [[Value.slice B2 (rd_L1 l2 (q : Int)).length d2]] = (vs2 ++ [Value.slice B2 (rd_L1 l2 (q : Int)).length d2]).map fun v => [v] := by simp
        rw [E1] at HO7
        rw [E2] at HO8
        have HR5 := Lib.hid (show RowsC w2 (vs1 ++ [Value.slice Ar (rw_ (codec_Row.M n m) q).length cr]) ((T.take (i + 1)).map fun x => rw_ (codec_Row.M n m) x.toNat) by rw [HTK.out, List.map_append]; exact HR1.out.append (RowsC.one HCX.out))
        have HR7 := Lib.hid (show RowsC w2 (vs2 ++ [Value.slice B2 (rd_L1 l2 (q : Int)).length d2]) ((T.take (i + 1)).map fun x => rd_L1 l2 x) by rw [HTK.out, List.map_append]; exact HR3.out.append (RowsC.one HCY.out))
        clear E1 E2
        go_roundg d
        case measure => omega
        case rel => exact ⟨i + 1, _, _, by omega, by first | rfl | (rw [Int.natCast_add]; rfl), HR5, HR7, HO7, HO8, HDJ6, HB6⟩

end Go.Proofs.Ythhncoogmncdkaa.PA
-- written by the session's own program (wip/prt.py) over the kit's print: not print.sh's own text
namespace Go.Proofs.Ythhncoogmncdkaa.PA
open Go.RowKit Go.Proofs.YthhncoogmncdkaaW.PrintWords Go.Proofs.YthhncoogmncdkaaW.PrintLast Go.Proofs.YthhncoogmncdkaaW.PrintMore
attribute [local go_sem] max2_int min2_int max_two min_two max_three min_three max_four min_four   -- for this text's walks alone
set_option linter.unusedVariables false
set_option linter.unusedSimpArgs false

/-! ### twoslotlaw04_alive: function 8 -/
def twoslotlaw04_alive.ok (k : Nat) : Prop := codec_Row.f 2 2 2 = some ([142, 244], 0) ∧ codec_Encode.f k 2 1 [[1], [0]] = some ([[142]], 0) ∧ codec_Decode.f k 2 1 [[], [7], [9]] = some ([[227], [7], [9]], 0) ∧ codec_Decode.f k 2 1 [[], [], [9]] = some ([], 5) ∧ codec_Encode.f k 2 1 [[1], []] = some ([], 40) ∧ codec_Verify.f k 2 1 [[227], [7], [9]] = some (true, 0)
instance twoslotlaw04_alive.okDec (k : Nat) : Decidable (twoslotlaw04_alive.ok k) := by unfold twoslotlaw04_alive.ok; infer_instance
def twoslotlaw04_alive.f (k : Nat) : Option Bool := if twoslotlaw04_alive.ok k then some true else none
theorem twoslotlaw04_alive.mono : ∀ k, LeO (twoslotlaw04_alive.f k) (twoslotlaw04_alive.f (k + 1)) := fun k r h => by
  unfold twoslotlaw04_alive.f at h ⊢
  by_cases e : twoslotlaw04_alive.ok k
  · rw [if_pos e] at h
    rw [if_pos ?_]; · exact h
    obtain ⟨h1, h2, h3, h4, h5, h6⟩ := e
    exact ⟨h1, codec_Encode.mono _ _ _ _ _ h2, codec_Decode.mono _ _ _ _ _ h3, codec_Decode.mono _ _ _ _ _ h4, codec_Encode.mono _ _ _ _ _ h5, codec_Verify.mono _ _ _ _ _ h6⟩
  · rw [if_neg e] at h; cases h
set_option maxHeartbeats 8000000 in
set_option maxRecDepth 100000 in
theorem twoslotlaw04_alive.calls (k : Nat) (r : Bool) (w : World) (h : twoslotlaw04_alive.f k = some r) : Calls Try.prog 8 #[] w fun e w' => e = .returned (.bool r) ∧ Below w.heap.size w w' := by
  unfold twoslotlaw04_alive.f at h
  by_cases e : twoslotlaw04_alive.ok k
  case neg => rw [if_neg e] at h; cases h
  rw [if_pos e] at h
  injection h with h
  subst h
  obtain ⟨h1, h2, h3, h4, h5, h6⟩ := e
  have H1 := Lib.hid h1
  have H2 := Lib.hid h2
  have H3 := Lib.hid h3
  have H4 := Lib.hid h4
  have H5 := Lib.hid h5
  have H6 := Lib.hid h6
  clear h1 h2 h3 h4 h5 h6
  have HB := Lib.hid (Below.refl w.heap.size w)
  go_enter Try.func8, Try.ntmps8
  go_wp2_with fail
  refine (codec_Row.calls 2 2 2 [142, 244] 0 _ H1.out).mono ?_
  rintro en w1 ⟨v1, rfl, ho, hb⟩
  have hbn := hb
  replace HB := Lib.hid (below_step HB.out hbn)
  obtain ⟨Ar, cr, rfl⟩ := Kd.R_slice ho
  have Fr := Lib.hid (Kd.R_reads' ho).2.2
  have Gr := Lib.hid (Kd.R_reads' ho).2.1
  clear ho
  clear hb hbn
  have bw2 := below_alloc (below_alloc (below_alloc (Below.refl w1.heap.size w1) (.cells #[.int .u8 1] 5)) (.cells #[.int .u8 0] 5)) (.cells #[.slice (some ⟨w1.heap.size, 0, none⟩) 1 1, .slice (some ⟨w1.heap.size + 1, 0, none⟩) 1 1] 23)
  have q2_0 : (((w1.alloc (.cells #[.int .u8 1] 5)).alloc (.cells #[.int .u8 0] 5)).alloc (.cells #[.slice (some ⟨w1.heap.size, 0, none⟩) 1 1, .slice (some ⟨w1.heap.size + 1, 0, none⟩) 1 1] 23)).heap[w1.heap.size]? = some (.cells #[.int .u8 1] 5) := blk_alloc (blk_alloc (heap_alloc_at _ _ (by first | rfl | simp)) _) _
  have hL2_0 : Kd.C (Kd.int .u8) (((w1.alloc (.cells #[.int .u8 1] 5)).alloc (.cells #[.int .u8 0] 5)).alloc (.cells #[.slice (some ⟨w1.heap.size, 0, none⟩) 1 1, .slice (some ⟨w1.heap.size + 1, 0, none⟩) 1 1] 23)) (some ⟨w1.heap.size, 0, none⟩) 1 [1] := lit_C (k := .u8) (xs := [1]) q2_0 (by simp [encs]) (by decide)
  have q2_1 : (((w1.alloc (.cells #[.int .u8 1] 5)).alloc (.cells #[.int .u8 0] 5)).alloc (.cells #[.slice (some ⟨w1.heap.size, 0, none⟩) 1 1, .slice (some ⟨w1.heap.size + 1, 0, none⟩) 1 1] 23)).heap[w1.heap.size + 1]? = some (.cells #[.int .u8 0] 5) := blk_alloc (heap_alloc_at _ _ (by first | rfl | simp)) _
  have hL2_1 : Kd.C (Kd.int .u8) (((w1.alloc (.cells #[.int .u8 1] 5)).alloc (.cells #[.int .u8 0] 5)).alloc (.cells #[.slice (some ⟨w1.heap.size, 0, none⟩) 1 1, .slice (some ⟨w1.heap.size + 1, 0, none⟩) 1 1] 23)) (some ⟨w1.heap.size + 1, 0, none⟩) 1 [0] := lit_C (k := .u8) (xs := [0]) q2_1 (by simp [encs]) (by decide)
  have q2_2 : (((w1.alloc (.cells #[.int .u8 1] 5)).alloc (.cells #[.int .u8 0] 5)).alloc (.cells #[.slice (some ⟨w1.heap.size, 0, none⟩) 1 1, .slice (some ⟨w1.heap.size + 1, 0, none⟩) 1 1] 23)).heap[w1.heap.size + 2]? = some (.cells #[.slice (some ⟨w1.heap.size, 0, none⟩) 1 1, .slice (some ⟨w1.heap.size + 1, 0, none⟩) 1 1] 23) := heap_alloc_at _ _ (by first | rfl | simp)
  have hL2_2 : Kd.C (Kd.slice 5 (Kd.int .u8)) (((w1.alloc (.cells #[.int .u8 1] 5)).alloc (.cells #[.int .u8 0] 5)).alloc (.cells #[.slice (some ⟨w1.heap.size, 0, none⟩) 1 1, .slice (some ⟨w1.heap.size + 1, 0, none⟩) 1 1] 23)) (some ⟨w1.heap.size + 2, 0, none⟩) 2 [[1], [0]] := lit_rows (ys := [[1], [0]]) q2_2 rfl ((RowsC.one (RowC.mk hL2_0 (Nat.le_refl _))).append (RowsC.one (RowC.mk hL2_1 (Nat.le_refl _)))) (by simp)
  have H_hL2_0 := Lib.hid hL2_0
  have H_hL2_1 := Lib.hid hL2_1
  have H_hL2_2 := Lib.hid hL2_2
  have H_bw2 := Lib.hid bw2
  clear q2_0 q2_1 q2_2 hL2_0 hL2_1 hL2_2 bw2
  go_wp2_with fail
  refine (codec_Encode.calls k 2 1 (some ⟨w1.heap.size + 2, 0, none⟩) 2 [[1], [0]] [[142]] 0 _ H_hL2_2.out (Nat.le_refl _) H2.out).mono ?_
  rintro en w3 ⟨v1, rfl, ho, hb⟩
  have hbn := (below_step H_bw2.out hb)
  replace Fr := Lib.hid (Kd.C_below Fr.out hbn)
  replace HB := Lib.hid (below_step HB.out hbn)
  obtain ⟨Ap, cp, rfl⟩ := Kd.S_slice ho
  have Fp := Lib.hid (Kd.S_reads' ho).2.2
  have Gp := Lib.hid (Kd.S_reads' ho).2.1
  clear ho
  clear hb hbn
  clear H_hL2_0 H_hL2_1 H_hL2_2
  clear H_bw2
  have bw4 := below_alloc (below_alloc (below_alloc (Below.refl w3.heap.size w3) (.cells #[.int .u8 7] 5)) (.cells #[.int .u8 9] 5)) (.cells #[.slice none 0 0, .slice (some ⟨w3.heap.size, 0, none⟩) 1 1, .slice (some ⟨w3.heap.size + 1, 0, none⟩) 1 1] 23)
  have q4_0 : (((w3.alloc (.cells #[.int .u8 7] 5)).alloc (.cells #[.int .u8 9] 5)).alloc (.cells #[.slice none 0 0, .slice (some ⟨w3.heap.size, 0, none⟩) 1 1, .slice (some ⟨w3.heap.size + 1, 0, none⟩) 1 1] 23)).heap[w3.heap.size]? = some (.cells #[.int .u8 7] 5) := blk_alloc (blk_alloc (heap_alloc_at _ _ (by first | rfl | simp)) _) _
  have hL4_0 : Kd.C (Kd.int .u8) (((w3.alloc (.cells #[.int .u8 7] 5)).alloc (.cells #[.int .u8 9] 5)).alloc (.cells #[.slice none 0 0, .slice (some ⟨w3.heap.size, 0, none⟩) 1 1, .slice (some ⟨w3.heap.size + 1, 0, none⟩) 1 1] 23)) (some ⟨w3.heap.size, 0, none⟩) 1 [7] := lit_C (k := .u8) (xs := [7]) q4_0 (by simp [encs]) (by decide)
  have q4_1 : (((w3.alloc (.cells #[.int .u8 7] 5)).alloc (.cells #[.int .u8 9] 5)).alloc (.cells #[.slice none 0 0, .slice (some ⟨w3.heap.size, 0, none⟩) 1 1, .slice (some ⟨w3.heap.size + 1, 0, none⟩) 1 1] 23)).heap[w3.heap.size + 1]? = some (.cells #[.int .u8 9] 5) := blk_alloc (heap_alloc_at _ _ (by first | rfl | simp)) _
  have hL4_1 : Kd.C (Kd.int .u8) (((w3.alloc (.cells #[.int .u8 7] 5)).alloc (.cells #[.int .u8 9] 5)).alloc (.cells #[.slice none 0 0, .slice (some ⟨w3.heap.size, 0, none⟩) 1 1, .slice (some ⟨w3.heap.size + 1, 0, none⟩) 1 1] 23)) (some ⟨w3.heap.size + 1, 0, none⟩) 1 [9] := lit_C (k := .u8) (xs := [9]) q4_1 (by simp [encs]) (by decide)
  have q4_2 : (((w3.alloc (.cells #[.int .u8 7] 5)).alloc (.cells #[.int .u8 9] 5)).alloc (.cells #[.slice none 0 0, .slice (some ⟨w3.heap.size, 0, none⟩) 1 1, .slice (some ⟨w3.heap.size + 1, 0, none⟩) 1 1] 23)).heap[w3.heap.size + 2]? = some (.cells #[.slice none 0 0, .slice (some ⟨w3.heap.size, 0, none⟩) 1 1, .slice (some ⟨w3.heap.size + 1, 0, none⟩) 1 1] 23) := heap_alloc_at _ _ (by first | rfl | simp)
  have hL4_2 : Kd.C (Kd.slice 5 (Kd.int .u8)) (((w3.alloc (.cells #[.int .u8 7] 5)).alloc (.cells #[.int .u8 9] 5)).alloc (.cells #[.slice none 0 0, .slice (some ⟨w3.heap.size, 0, none⟩) 1 1, .slice (some ⟨w3.heap.size + 1, 0, none⟩) 1 1] 23)) (some ⟨w3.heap.size + 2, 0, none⟩) 3 [[], [7], [9]] := lit_rows (ys := [[], [7], [9]]) q4_2 rfl (((RowsC.one (RowC.mk (Kd.C_below (Kd.C_nil _ _) bw4) (Nat.le_refl _))).append (RowsC.one (RowC.mk hL4_0 (Nat.le_refl _)))).append (RowsC.one (RowC.mk hL4_1 (Nat.le_refl _)))) (by simp)
  have H_hL4_0 := Lib.hid hL4_0
  have H_hL4_1 := Lib.hid hL4_1
  have H_hL4_2 := Lib.hid hL4_2
  have H_bw4 := Lib.hid bw4
  clear q4_0 q4_1 q4_2 hL4_0 hL4_1 hL4_2 bw4
  go_wp2_with fail
  refine (codec_Decode.calls k 2 1 (some ⟨w3.heap.size + 2, 0, none⟩) 3 [[], [7], [9]] [[227], [7], [9]] 0 _ H_hL4_2.out (Nat.le_refl _) H3.out).mono ?_
  rintro en w5 ⟨v1, rfl, ho, hb⟩
  have hbn := (below_step H_bw4.out hb)
  replace Fr := Lib.hid (Kd.C_below Fr.out hbn)
  replace Fp := Lib.hid (Kd.C_below Fp.out hbn)
  replace HB := Lib.hid (below_step HB.out hbn)
  obtain ⟨Ad, cd, rfl⟩ := Kd.N_slice ho
  have Fd := Lib.hid (Kd.N_reads' ho).2.2
  have Gd := Lib.hid (Kd.N_reads' ho).2.1
  clear ho
  clear hb hbn
  clear H_hL4_0 H_hL4_1 H_hL4_2
  clear H_bw4
  have bw6 := below_alloc (below_alloc (Below.refl w5.heap.size w5) (.cells #[.int .u8 9] 5)) (.cells #[.slice none 0 0, .slice none 0 0, .slice (some ⟨w5.heap.size, 0, none⟩) 1 1] 23)
  have q6_0 : ((w5.alloc (.cells #[.int .u8 9] 5)).alloc (.cells #[.slice none 0 0, .slice none 0 0, .slice (some ⟨w5.heap.size, 0, none⟩) 1 1] 23)).heap[w5.heap.size]? = some (.cells #[.int .u8 9] 5) := blk_alloc (heap_alloc_at _ _ (by first | rfl | simp)) _
  have hL6_0 : Kd.C (Kd.int .u8) ((w5.alloc (.cells #[.int .u8 9] 5)).alloc (.cells #[.slice none 0 0, .slice none 0 0, .slice (some ⟨w5.heap.size, 0, none⟩) 1 1] 23)) (some ⟨w5.heap.size, 0, none⟩) 1 [9] := lit_C (k := .u8) (xs := [9]) q6_0 (by simp [encs]) (by decide)
  have q6_1 : ((w5.alloc (.cells #[.int .u8 9] 5)).alloc (.cells #[.slice none 0 0, .slice none 0 0, .slice (some ⟨w5.heap.size, 0, none⟩) 1 1] 23)).heap[w5.heap.size + 1]? = some (.cells #[.slice none 0 0, .slice none 0 0, .slice (some ⟨w5.heap.size, 0, none⟩) 1 1] 23) := heap_alloc_at _ _ (by first | rfl | simp)
  have hL6_1 : Kd.C (Kd.slice 5 (Kd.int .u8)) ((w5.alloc (.cells #[.int .u8 9] 5)).alloc (.cells #[.slice none 0 0, .slice none 0 0, .slice (some ⟨w5.heap.size, 0, none⟩) 1 1] 23)) (some ⟨w5.heap.size + 1, 0, none⟩) 3 [[], [], [9]] := lit_rows (ys := [[], [], [9]]) q6_1 rfl (((RowsC.one (RowC.mk (Kd.C_below (Kd.C_nil _ _) bw6) (Nat.le_refl _))).append (RowsC.one (RowC.mk (Kd.C_below (Kd.C_nil _ _) bw6) (Nat.le_refl _)))).append (RowsC.one (RowC.mk hL6_0 (Nat.le_refl _)))) (by simp)
  have H_hL6_0 := Lib.hid hL6_0
  have H_hL6_1 := Lib.hid hL6_1
  have H_bw6 := Lib.hid bw6
  clear q6_0 q6_1 hL6_0 hL6_1 bw6
  go_wp2_with fail
  refine (codec_Decode.calls k 2 1 (some ⟨w5.heap.size + 1, 0, none⟩) 3 [[], [], [9]] [] 5 _ H_hL6_1.out (Nat.le_refl _) H4.out).mono ?_
  rintro en w7 ⟨v1, rfl, -, hb⟩
  have hbn := (below_step H_bw6.out hb)
  replace Fr := Lib.hid (Kd.C_below Fr.out hbn)
  replace Fp := Lib.hid (Kd.C_below Fp.out hbn)
  replace Fd := Lib.hid (Kd.C_below Fd.out hbn)
  replace HB := Lib.hid (below_step HB.out hbn)
  clear hb hbn
  clear H_hL6_0 H_hL6_1
  clear H_bw6
  have bw8 := below_alloc (below_alloc (Below.refl w7.heap.size w7) (.cells #[.int .u8 1] 5)) (.cells #[.slice (some ⟨w7.heap.size, 0, none⟩) 1 1, .slice none 0 0] 23)
  have q8_0 : ((w7.alloc (.cells #[.int .u8 1] 5)).alloc (.cells #[.slice (some ⟨w7.heap.size, 0, none⟩) 1 1, .slice none 0 0] 23)).heap[w7.heap.size]? = some (.cells #[.int .u8 1] 5) := blk_alloc (heap_alloc_at _ _ (by first | rfl | simp)) _
  have hL8_0 : Kd.C (Kd.int .u8) ((w7.alloc (.cells #[.int .u8 1] 5)).alloc (.cells #[.slice (some ⟨w7.heap.size, 0, none⟩) 1 1, .slice none 0 0] 23)) (some ⟨w7.heap.size, 0, none⟩) 1 [1] := lit_C (k := .u8) (xs := [1]) q8_0 (by simp [encs]) (by decide)
  have q8_1 : ((w7.alloc (.cells #[.int .u8 1] 5)).alloc (.cells #[.slice (some ⟨w7.heap.size, 0, none⟩) 1 1, .slice none 0 0] 23)).heap[w7.heap.size + 1]? = some (.cells #[.slice (some ⟨w7.heap.size, 0, none⟩) 1 1, .slice none 0 0] 23) := heap_alloc_at _ _ (by first | rfl | simp)
  have hL8_1 : Kd.C (Kd.slice 5 (Kd.int .u8)) ((w7.alloc (.cells #[.int .u8 1] 5)).alloc (.cells #[.slice (some ⟨w7.heap.size, 0, none⟩) 1 1, .slice none 0 0] 23)) (some ⟨w7.heap.size + 1, 0, none⟩) 2 [[1], []] := lit_rows (ys := [[1], []]) q8_1 rfl ((RowsC.one (RowC.mk hL8_0 (Nat.le_refl _))).append (RowsC.one (RowC.mk (Kd.C_below (Kd.C_nil _ _) bw8) (Nat.le_refl _)))) (by simp)
  have H_hL8_0 := Lib.hid hL8_0
  have H_hL8_1 := Lib.hid hL8_1
  have H_bw8 := Lib.hid bw8
  clear q8_0 q8_1 hL8_0 hL8_1 bw8
  go_wp2_with fail
  refine (codec_Encode.calls k 2 1 (some ⟨w7.heap.size + 1, 0, none⟩) 2 [[1], []] [] 40 _ H_hL8_1.out (Nat.le_refl _) H5.out).mono ?_
  rintro en w9 ⟨v1, rfl, -, hb⟩
  have hbn := (below_step H_bw8.out hb)
  replace Fr := Lib.hid (Kd.C_below Fr.out hbn)
  replace Fp := Lib.hid (Kd.C_below Fp.out hbn)
  replace Fd := Lib.hid (Kd.C_below Fd.out hbn)
  replace HB := Lib.hid (below_step HB.out hbn)
  clear hb hbn
  clear H_hL8_0 H_hL8_1
  clear H_bw8
  obtain ⟨adp0, Bp0, ep0, rp0, hxp0, -, -⟩ := at_L1 Fp.out 0 (by decide) (by decide)
  have hup0 : (adp0.add (0 : Int).toNat) = adp0 := by cases adp0; simp [Addr.add]
  rw [hup0] at hxp0
  subst rp0
  have hxp0' : w9.cell? adp0 = some (.slice Bp0 1 ep0) := hxp0
  clear hxp0 hup0
  obtain ⟨add0, Bd0, ed0, rd0, hxd0, -, -⟩ := at_L1 Fd.out 0 (by decide) (by decide)
  have hud0 : (add0.add (0 : Int).toNat) = add0 := by cases add0; simp [Addr.add]
  rw [hud0] at hxd0
  subst rd0
  have hxd0' : w9.cell? add0 = some (.slice Bd0 1 ed0) := hxd0
  clear hxd0 hud0
  go_wp2_with fail
  refine (codec_Verify.calls k 2 1 (some add0) cd [[227], [7], [9]] true 0 _ Fd.out Gd.out H6.out).mono ?_
  rintro en w10 ⟨rfl, hb⟩
  have hbn := hb
  replace Fr := Lib.hid (Kd.C_below Fr.out hbn)
  replace Fp := Lib.hid (Kd.C_below Fp.out hbn)
  replace Fd := Lib.hid (Kd.C_below Fd.out hbn)
  replace HB := Lib.hid (below_step HB.out hbn)
  clear hb hbn
  clear hxp0' hxd0'
  obtain ⟨adp0z, Bp0z, ep0z, rp0z, hxp0z, -, hrp0z⟩ := at_L1 Fp.out 0 (by decide) (by decide)
  injection rp0z with rp0z
  subst rp0z
  have hup0z : (adp0.add (0 : Int).toNat) = adp0 := by cases adp0; simp [Addr.add]
  rw [hup0z] at hxp0z
  clear hup0z
  obtain ⟨bdp0z, sp0z, hyp0z⟩ := Kd.at_int hrp0z 0 (by decide) (by decide)
  subst sp0z
  have hzp0z : (bdp0z.add (0 : Int).toNat) = bdp0z := by cases bdp0z; simp [Addr.add]
  rw [hzp0z] at hyp0z
  have hxp0z' : w10.cell? adp0 = some (.slice (some bdp0z) 1 ep0z) := hxp0z
  have hyp0z' : w10.cell? bdp0z = some (.int .u8 142) := hyp0z
  clear hrp0z hzp0z hxp0z hyp0z
  obtain ⟨add0z, Bd0z, ed0z, rd0z, hxd0z, -, hrd0z⟩ := at_L1 Fd.out 0 (by decide) (by decide)
  injection rd0z with rd0z
  subst rd0z
  have hud0z : (add0.add (0 : Int).toNat) = add0 := by cases add0; simp [Addr.add]
  rw [hud0z] at hxd0z
  clear hud0z
  obtain ⟨bdd0z, sd0z, hyd0z⟩ := Kd.at_int hrd0z 0 (by decide) (by decide)
  subst sd0z
  have hzd0z : (bdd0z.add (0 : Int).toNat) = bdd0z := by cases bdd0z; simp [Addr.add]
  rw [hzd0z] at hyd0z
  have hxd0z' : w10.cell? add0 = some (.slice (some bdd0z) 1 ed0z) := hxd0z
  have hyd0z' : w10.cell? bdd0z = some (.int .u8 227) := hyd0z
  clear hrd0z hzd0z hxd0z hyd0z
  obtain ⟨add1z, Bd1z, ed1z, rd1z, hxd1z, -, hrd1z⟩ := at_L1 Fd.out 1 (by decide) (by decide)
  injection rd1z with rd1z
  subst rd1z
  obtain ⟨bdd1z, sd1z, hyd1z⟩ := Kd.at_int hrd1z 0 (by decide) (by decide)
  subst sd1z
  have hzd1z : (bdd1z.add (0 : Int).toNat) = bdd1z := by cases bdd1z; simp [Addr.add]
  rw [hzd1z] at hyd1z
  have hxd1z' : w10.cell? ⟨add0.block, add0.off + 1, none⟩ = some (.slice (some bdd1z) 1 ed1z) := hxd1z
  have hyd1z' : w10.cell? bdd1z = some (.int .u8 7) := hyd1z
  clear hrd1z hzd1z hxd1z hyd1z
  obtain ⟨adr, sr, hr0⟩ := Kd.at_int Fr.out 0 (by decide) (by decide)
  subst sr
  obtain ⟨adr', sr, hr1⟩ := Kd.at_int Fr.out 1 (by decide) (by decide)
  injection sr with sr
  subst sr
  have hur : (adr.add (0 : Int).toNat) = adr := by cases adr; simp [Addr.add]
  rw [hur] at hr0
  have hr0' : w10.cell? adr = some (.int .u8 142) := hr0
  have hr1' : w10.cell? ⟨adr.block, adr.off + 1, none⟩ = some (.int .u8 244) := hr1
  clear hr0 hr1 hur
  go_wp2_with fail
  go_ret
  exact ⟨by first | rfl | simp, HB.out⟩

end Go.Proofs.Ythhncoogmncdkaa.PA
namespace Go.Proofs.Ythhncoogmncdkaa.Pure
open Go Go.RowKit Go.TwoGf Go.TwoLin Go.Proofs.Ythhncoogmncdkaa Go.Proofs.Ythhncoogmncdkaa.PA Go.Proofs.YthhncoogmncdkaaW.PrintWords Go.Proofs.YthhncoogmncdkaaW.PrintLast Go.Proofs.YthhncoogmncdkaaW.PrintMore
set_option linter.unusedVariables false
theorem thv_posI : ∀ (l : List (List Int)) (i : Nat), (thv l i).2 = true → (thv l i).1 = posI l i ∧ ∃ n, n ≤ 65536 ∧ like n l
  | [], i, h => ⟨rfl, 0, by omega, fun x hx => by cases hx⟩
  | x :: xs, i, h => by
    by_cases e : x.length = 0
    · have e1 : thv (x :: xs) i = thv xs (i + 1) := by rw [thv, if_pos e]
      have e2 : posI (x :: xs) i = posI xs (i + 1) := by rw [posI, if_pos e]
      rw [e1] at h ⊢
      rw [e2]
      obtain ⟨h1, n, h2, h3⟩ := thv_posI xs (i + 1) h
      exact ⟨h1, n, h2, fun y hy => (List.mem_cons.1 hy).elim (fun z => .inl (by rw [z]; exact e)) (h3 y)⟩
    · have e2 : posI (x :: xs) i = (i : Int) :: posI xs (i + 1) := by rw [posI, if_neg e]
      by_cases q : x.length > 65536
      · have e1 : thv (x :: xs) i = ([], false) := by rw [thv, if_neg e, if_pos q]
        rw [e1] at h; cases h
      · by_cases q2 : like x.length xs
        · have e1 : thv (x :: xs) i = ((i : Int) :: posI xs (i + 1), true) := by rw [thv, if_neg e, if_neg q, if_pos q2]
          rw [e1, e2]
          exact ⟨rfl, x.length, by omega, fun y hy => (List.mem_cons.1 hy).elim (fun z => .inr (by rw [z])) (q2 y)⟩
        · have e1 : thv (x :: xs) i = ([], false) := by rw [thv, if_neg e, if_neg q, if_neg q2]
          rw [e1] at h; cases h
theorem thv_like {n : Nat} (hn : n ≤ 65536) : ∀ (l : List (List Int)) (i : Nat), like n l → thv l i = (posI l i, true)
  | [], i, h => rfl
  | x :: xs, i, h => by
    have hx := h x (by simp)
    have hs : like n xs := fun y hy => h y (by simp [hy])
    rw [thv, posI]
    by_cases e : x.length = 0
    · rw [if_pos e, if_pos e, thv_like hn xs (i + 1) hs]
    · have hxn : x.length = n := hx.elim (fun z => absurd z e) id
      rw [if_neg e, if_neg e, if_neg (by omega), hxn, if_pos hs]
theorem posI_mem : ∀ (l : List (List Int)) (i : Nat) (x : Int), x ∈ posI l i ↔ ∃ j : Nat, j < l.length ∧ (rw_ l j).length ≠ 0 ∧ x = ((i + j : Nat) : Int)
  | [], i, x => by
    constructor
    · intro h; cases h
    · rintro ⟨j, h, _⟩; simp at h
  | y :: ys, i, x => by
    have ih := posI_mem ys (i + 1) x
    have shift : (∃ j : Nat, j < ys.length ∧ (rw_ ys j).length ≠ 0 ∧ x = ((i + 1 + j : Nat) : Int)) ↔ ∃ j : Nat, 0 < j ∧ j < (y :: ys).length ∧ (rw_ (y :: ys) j).length ≠ 0 ∧ x = ((i + j : Nat) : Int) := by
      constructor
      · rintro ⟨j, h1, h2, h3⟩
        exact ⟨j + 1, by omega, by simp; omega, h2, by rw [h3]; congr 1; omega⟩
      · rintro ⟨j, h0, h1, h2, h3⟩
        obtain ⟨j, rfl⟩ : ∃ q, j = q + 1 := ⟨j - 1, by omega⟩
        exact ⟨j, by simp at h1; omega, h2, by rw [h3]; congr 1; omega⟩
    by_cases e : y.length = 0
    · rw [posI, if_pos e, ih, shift]
      constructor
      · rintro ⟨j, h0, h1, h2, h3⟩; exact ⟨j, h1, h2, h3⟩
      · rintro ⟨j, h1, h2, h3⟩
        refine ⟨j, ?_, h1, h2, h3⟩
        apply Nat.pos_of_ne_zero
        rintro rfl
        exact h2 e
    · rw [posI, if_neg e, List.mem_cons, ih, shift]
      constructor
      · rintro (h | ⟨j, h0, h1, h2, h3⟩)
        · exact ⟨0, by simp, e, by rw [h]; rfl⟩
        · exact ⟨j, h1, h2, h3⟩
      · rintro ⟨j, h1, h2, h3⟩
        by_cases hj : j = 0
        · subst hj; exact .inl (by rw [h3]; rfl)
        · exact .inr ⟨j, by omega, h1, h2, h3⟩
theorem posI_nodup : ∀ (l : List (List Int)) (i : Nat), (posI l i).Nodup
  | [], i => List.nodup_nil
  | y :: ys, i => by
    rw [posI]
    split
    · exact posI_nodup ys (i + 1)
    · rw [List.nodup_cons]
      refine ⟨fun h => ?_, posI_nodup ys (i + 1)⟩
      obtain ⟨j, _, _, h3⟩ := (posI_mem ys (i + 1) _).1 h
      omega
/-- what is asked of the cells that are decoded -/
structure Dec (k r n : Nat) (cells : List (List Int)) : Prop where
  k1 : 1 ≤ k
  k2 : k ≤ 12
  r4 : r ≤ 4
  len : cells.length = k + r
  n1 : 1 ≤ n
  n2 : n ≤ 65536
  like : like n cells
  cnt : k ≤ (posI cells 0).length
  bs : isM cells
section
variable {k r n : Nat} {cells : List (List Int)}
/-- the cells that are taken -/
def tk (k : Nat) (cells : List (List Int)) : List Int := (posI cells 0).take k
theorem Dec.tk_len (h : Dec k r n cells) : (tk k cells).length = k := by unfold tk; rw [List.length_take]; have := h.cnt; omega
theorem Dec.tk_mem (h : Dec k r n cells) {x : Int} (hx : x ∈ tk k cells) : ∃ j : Nat, j < k + r ∧ (rw_ cells j).length = n ∧ x = (j : Int) := by
  obtain ⟨j, h1, h2, h3⟩ := (posI_mem cells 0 x).1 (List.mem_of_mem_take hx)
  refine ⟨j, by rw [← h.len]; exact h1, ?_, by rw [h3]; congr 1; omega⟩
  exact (h.like _ (rw_mem h1)).elim (fun z => absurd z h2) id
theorem Dec.tk_rg (h : Dec k r n cells) : ∀ x ∈ tk k cells, 0 ≤ x ∧ x < ((k + r : Nat) : Int) := fun x hx => by
  obtain ⟨j, h1, _, rfl⟩ := h.tk_mem hx
  omega
theorem Dec.tk_nd (h : Dec k r n cells) : (tk k cells).Nodup := (posI_nodup cells 0).sublist (List.take_sublist _ _)
theorem Dec.ff (h : Dec k r n cells) : rect k n (took cells (tk k cells)) ∧ isM (took cells (tk k cells)) := by
  refine ⟨⟨by unfold took; rw [List.length_map, h.tk_len], fun y hy => ?_⟩, took_isM h.bs _⟩
  simp only [took, List.mem_map] at hy
  obtain ⟨x, hx, rfl⟩ := hy
  obtain ⟨j, _, h2, rfl⟩ := h.tk_mem hx
  exact h2
theorem rect_alk {m : Nat} (h1 : 1 ≤ n) (h2 : n ≤ 65536) {M : List (List Int)} (h : rect m n M) : Alk n M := fun x hx => by
  have := h.2 x hx
  omega
theorem took_rows {M : List (List Int)} {rows : List Int} {i : Nat} (hi : i < rows.length) : rw_ (took M rows) i = rw_ M (rd rows (i : Int)).toNat := by
  rw [rd_lt hi]
  unfold took
  rw [rw_lt (by simpa using hi)]
  simp
/-- the data that are told -/
theorem dec_ok {K : Nat} (hK : 300 ≤ K) (h : Dec k r n cells) : ∃ data, isM data ∧ rect k n data ∧ codec_Decode.f K (k : Int) (r : Int) cells = some (coded n (codec_Row.M k r) data, 0) ∧
    (∀ x : Nat, (x : Int) ∈ tk k cells → rw_ (coded n (codec_Row.M k r) data) x = rw_ cells x) ∧
    (∀ d2, isM d2 → rect k n d2 → (∀ x : Nat, (x : Int) ∈ tk k cells → rw_ (coded n (codec_Row.M k r) d2) x = rw_ cells x) → data = d2) := by
  obtain ⟨V, q1, q2, q3, q4, q5⟩ := took_inv (K := K) (by omega) h.k1 h.k2 h.r4 h.tk_len h.tk_nd h.tk_rg
  obtain ⟨f1, f2⟩ := h.ff
  have hD : rect k n (coded n V (took cells (tk k cells))) := by have := coded_rect (rs := V) f1; rwa [q2.1] at this
  have bD := coded_isM n V (took cells (tk k cells))
  have hk := h.k1
  have hk2 := h.k2
  have hr := h.r4
  have hn1 := h.n1
  have hn2 := h.n2
  refine ⟨coded n V (took cells (tk k cells)), bD, hD, ?_, fun x hx => ?_, fun d2 b2 r2 e2 => ?_⟩
  · unfold codec_Decode.f
    rw [if_neg (by unfold codec_Row.bad; omega), if_pos (row_inv (by omega) (by omega) (by omega)), there_f (by omega) (by omega), if_pos (by rw [h.len]; omega), thv_like hn2 cells 0 h.like]
    simp only [Option.bind_some]
    rw [if_neg (by simp), if_neg (by have := h.cnt; omega), Int.toNat_natCast, Int.toNat_natCast]
    show codec_Decode.go K k r cells (tk k cells) = _
    unfold codec_Decode.go
    rw [if_pos ⟨h.len, h.tk_rg⟩]
    show ((matrix_Inverse.f K (took (codec_Row.M k r) (tk k cells))).bind _) = _
    rw [q1]
    simp only [Option.bind_some]
    rw [if_neg (by simp), if_pos (by rw [q2.1]; omega)]
    have e : (tk k cells).map (fun x => rd_L1 cells x) = took cells (tk k cells) := rfl
    rw [e, dots_v (n := n) (by omega) f2 (rect_alk hn1 hn2 f1) (by rw [f1.1]; omega) (by rw [f1.1]; omega) V [] (fun row hrow => ⟨q3 row hrow, by rw [q2.2 row hrow, f1.1]⟩)]
    simp only [Option.bind_some, List.nil_append]
    rw [if_neg (by simp), dots_v (n := n) (by omega) bD (rect_alk hn1 hn2 hD) (by rw [hD.1]; omega) (by rw [hD.1]; omega) _ [] (fun row hrow => by
      have hm := List.mem_of_mem_drop hrow
      exact ⟨allM_B (by omega) (by omega) row hm, by rw [(allM_rect k r).2 row hm, hD.1]⟩)]
    simp only [Option.bind_some, List.nil_append]
    rw [coded_all hk2 hr bD hD]
  · obtain ⟨i, hi, hix⟩ := List.getElem_of_mem hx
    have e : (rd (tk k cells) (i : Int)).toNat = x := by rw [rd_lt hi, hix, Int.toNat_natCast]
    have hik : i < k := by rw [h.tk_len] at hi; exact hi
    have := decoded (n := n) hk hk2 hr h.tk_len h.tk_rg q2 q3 f1 f2 q5 hik
    rw [e] at this
    rw [this, took_rows hi, e]
  · refine undone hk hk2 hr h.tk_len h.tk_rg q2 q3 f1 f2 b2 r2 q4 fun i hi => ?_
    have hi' : i < (tk k cells).length := by rw [h.tk_len]; exact hi
    rw [took_rows hi']
    have hx : rd (tk k cells) (i : Int) ∈ tk k cells := by rw [rd_lt hi']; exact List.getElem_mem _
    obtain ⟨j, _, _, hj⟩ := h.tk_mem hx
    rw [hj, Int.toNat_natCast]
    rw [hj] at hx
    exact (e2 j hx).symm
theorem dec_any {K : Nat} (hK : 300 ≤ K) {a b : Int} (hB : isM cells) :
    (¬ okK a b ∧ codec_Decode.f K a b cells = some ([], 2)) ∨
    (okK a b ∧ ¬ ((cells.length : Int) = a + b ∧ (thv cells 0).2 = true) ∧ codec_Decode.f K a b cells = some ([], 40)) ∨
    (okK a b ∧ (cells.length : Int) = a + b ∧ (thv cells 0).2 = true ∧ ((posI cells 0).length : Int) < a ∧ codec_Decode.f K a b cells = some ([], 5)) ∨
    (∃ k r n : Nat, a = k ∧ b = r ∧ Dec k r n cells) := by
  by_cases h : okK a b
  case neg => exact .inl ⟨h, by unfold codec_Decode.f; rw [if_pos (by unfold codec_Row.bad; unfold okK at h; omega)]⟩
  have hk := h
  obtain ⟨h1, h2, h3, h4⟩ := h
  have e : ∀ {x}, (codec_there.f K cells (a + b)).bind (fun t => if t.2 = false then some ([], 40) else if (t.1.length : Int) < a then some ([], 5) else codec_Decode.go K a.toNat b.toNat cells (t.1.take a.toNat)) = some x → codec_Decode.f K a b cells = some x := fun hx => by
    unfold codec_Decode.f
    rw [if_neg (by unfold codec_Row.bad; omega), if_pos (row_inv h1 h2 h4)]
    exact hx
  by_cases hl : (cells.length : Int) = a + b
  case neg => exact .inr (.inl ⟨hk, fun z => hl z.1, e (by rw [there_f (by omega) (by omega), if_neg hl]; rfl)⟩)
  cases ht : (thv cells 0).2 with
  | false => exact .inr (.inl ⟨hk, fun z => (by cases z.2), e (by rw [there_f (by omega) (by omega), if_pos hl]; simp only [Option.bind_some]; rw [if_pos ht])⟩)
  | true =>
    obtain ⟨t1, n, t2, t3⟩ := thv_posI cells 0 ht
    by_cases hc : ((posI cells 0).length : Int) < a
    · exact .inr (.inr (.inl ⟨hk, hl, rfl, hc, e (by rw [there_f (by omega) (by omega), if_pos hl]; simp only [Option.bind_some]; rw [if_neg (by rw [ht]; simp), t1, if_pos hc])⟩))
    · obtain ⟨k, rfl⟩ := Int.eq_ofNat_of_zero_le (show 0 ≤ a by omega)
      obtain ⟨r, rfl⟩ := Int.eq_ofNat_of_zero_le (show 0 ≤ b by omega)
      refine .inr (.inr (.inr ⟨k, r, n, rfl, rfl, by omega, by omega, by omega, by omega, ?_, t2, t3, by omega, hB⟩))
      cases hp : posI cells 0 with
      | nil => rw [hp] at hc; simp at hc; omega
      | cons x xs =>
        obtain ⟨j, j1, j2, j3⟩ := (posI_mem cells 0 x).1 (by rw [hp]; simp)
        have := t3 _ (rw_mem j1)
        omega
end
/-! Verify -/
theorem veq : ∀ (p q : List (List Int)), isM p → isM q → codec_Verify.eq p q = decide (p = q)
  | [], [], _, _ => rfl
  | [], _ :: _, _, _ => rfl
  | _ :: _, [], _, _ => rfl
  | x :: xs, y :: ys, hp, hq => by
    unfold codec_Verify.eq
    rw [veq xs ys (fun z hz => hp z (by simp [hz])) (fun z hz => hq z (by simp [hz]))]
    have hb : (bytes_Equal.f x y = some true) ↔ x = y := by
      unfold bytes_Equal.f
      rw [Option.some.injEq, beq_iff_eq]
      exact ⟨fun h => strOfNums_inj (hp x (by simp)) (hq y (by simp)) h, fun h => by rw [h]⟩
    by_cases e : x = y
    · rw [if_pos (hb.2 e)]
      subst e
      by_cases e2 : xs = ys
      · rw [decide_eq_true e2, decide_eq_true (by rw [e2])]
      · rw [decide_eq_false e2, decide_eq_false (fun z => e2 (List.cons.inj z).2)]
    · rw [if_neg (fun z => e (hb.1 z)), decide_eq_false (fun z => e (List.cons.inj z).1)]
theorem ver_ok {K : Nat} (hK : 300 ≤ K) {k r n : Nat} {cells : List (List Int)} (k1 : 1 ≤ k) (k2 : k ≤ 12) (r4 : r ≤ 4) (n1 : 1 ≤ n) (n2 : n ≤ 65536) (hc : rect (k + r) n cells) (hB : isM cells) :
    codec_Verify.f K (k : Int) (r : Int) cells = some (decide (coded n ((codec_Row.M k r).drop k) (cells.take k) = cells.drop k), 0) := by
  have ha := rect_alk n1 n2 hc
  obtain ⟨t1, t2⟩ := thv_alk (n := n) (l := cells) (by rw [hc.1]; omega) ha
  have hl := hc.1
  have hB2 : isM (cells.take k) := fun x hx => hB x (List.mem_of_mem_take hx)
  have hr2 : rect k n (cells.take k) := ⟨by rw [List.length_take, hl]; omega, fun x hx => hc.2 x (List.mem_of_mem_take hx)⟩
  unfold codec_Verify.f
  rw [if_neg (by unfold codec_Row.bad; omega), if_pos (row_inv (by omega) (by omega) (by omega)), there_f (by omega) (by omega), if_pos (by rw [hl]; omega)]
  simp only [Option.bind_some]
  rw [if_neg (by rw [t1]; simp), if_neg (by rw [t2, hl]; omega), if_pos (by rw [hl]; omega), Int.toNat_natCast, Int.toNat_natCast, dots_v (n := n) (by omega) hB2 (rect_alk n1 n2 hr2) (by rw [hr2.1]; omega) (by rw [hr2.1]; omega) _ [] (fun row hrow => by
      have hm := List.mem_of_mem_drop hrow
      exact ⟨allM_B (by omega) (by omega) row hm, by rw [(allM_rect k r).2 row hm, hr2.1]⟩)]
  simp only [Option.bind_some, List.nil_append]
  rw [veq _ _ (coded_isM _ _ _) (fun x hx => hB x (List.mem_of_mem_drop hx))]
theorem ver_coded {K : Nat} (hK : 300 ≤ K) {k r n : Nat} {data : List (List Int)} (k1 : 1 ≤ k) (k2 : k ≤ 12) (r4 : r ≤ 4) (n1 : 1 ≤ n) (n2 : n ≤ 65536) (hd : isM data) (hr : rect k n data) :
    codec_Verify.f K (k : Int) (r : Int) (coded n (codec_Row.M k r) data) = some (true, 0) := by
  have hc : rect (k + r) n (coded n (codec_Row.M k r) data) := by have := coded_rect (rs := codec_Row.M k r) hr; rwa [(allM_rect k r).1] at this
  rw [ver_ok hK k1 k2 r4 n1 n2 hc (coded_isM _ _ _), coded_all k2 r4 hd hr]
  have e1 : (data ++ coded n ((codec_Row.M k r).drop k) data).take k = data := by rw [← hr.1, List.take_left]
  have e2 : (data ++ coded n ((codec_Row.M k r).drop k) data).drop k = coded n ((codec_Row.M k r).drop k) data := by
    conv => lhs; arg 1; rw [← hr.1]
    rw [List.drop_left]
  rw [e1, e2, decide_eq_true rfl]
end Go.Proofs.Ythhncoogmncdkaa.Pure
namespace Go.Proofs.Ythhncoogmncdkaa.Pure
open Go Go.RowKit Go.TwoGf Go.TwoLin Go.Proofs.Ythhncoogmncdkaa Go.Proofs.Ythhncoogmncdkaa.PA Go.Proofs.YthhncoogmncdkaaW.PrintWords Go.Proofs.YthhncoogmncdkaaW.PrintLast Go.Proofs.YthhncoogmncdkaaW.PrintMore
set_option linter.unusedVariables false
theorem M21 : codec_Row.M 2 1 = [[1, 0], [0, 1], [142, 244]] := by
  have h0 : matrix_Cauchy.G ((2 : Nat) : Int) 0 0 = 142 := by rw [G_gi (by decide) (by decide) (by decide)]; decide +kernel
  have h1 : matrix_Cauchy.G ((2 : Nat) : Int) 0 1 = 244 := by rw [G_gi (by decide) (by decide) (by decide)]; decide +kernel
  show _ :: _ :: [[matrix_Cauchy.G ((2 : Nat) : Int) 0 0, matrix_Cauchy.G ((2 : Nat) : Int) 0 1]] = _
  rw [h0, h1]; rfl
instance isMDec (M : List (List Int)) : Decidable (isM M) := by unfold isM; infer_instance
theorem B_of {l : List Int} (h : (l.all fun x => decide (0 ≤ x) && decide (x < 256)) = true) : isB l := fun x hx => by
  have := List.all_eq_true.1 h x hx
  simpa using this
theorem alive_ok {K : Nat} (hK : 400 ≤ K) : twoslotlaw04_alive.ok K := by
  have b2 : ∀ {x y : Int}, 0 ≤ x ∧ x < 256 → 0 ≤ y ∧ y < 256 → ∀ b ∈ [[x], [y]], isB b := fun hx hy b hb => by
    simp only [List.mem_cons, List.not_mem_nil, or_false] at hb
    rcases hb with rfl | rfl <;> (intro z hz; rw [List.mem_singleton.1 hz]; assumption)
  have c2 : ((2 : Int)) = ((2 : Nat) : Int) := rfl
  have c1 : ((1 : Int)) = ((1 : Nat) : Int) := rfl
  have hD : Dec 2 1 1 [[], [7], [9]] := ⟨by decide, by decide, by decide, rfl, by decide, by decide, by decide, by decide, by decide⟩
  refine ⟨?_, ?_, ?_, ?_, ?_, ?_⟩
  · rw [row_f (by decide) (by decide) (by decide) (by decide) (by decide) (by decide)]
    have h0 : matrix_Cauchy.G ((2 : Nat) : Int) 0 0 = 142 := by rw [G_gi (by decide) (by decide) (by decide)]; decide +kernel
    have h1 : matrix_Cauchy.G ((2 : Nat) : Int) 0 1 = 244 := by rw [G_gi (by decide) (by decide) (by decide)]; decide +kernel
    show some ([matrix_Cauchy.G ((2 : Nat) : Int) 0 0, matrix_Cauchy.G ((2 : Nat) : Int) 0 1], (0 : Int)) = _
    rw [h0, h1]
  · rw [enc_ok (by omega) (k := 2) (r := 1) (data := [[1], [0]]) (n := 1) (by decide) rfl (by decide) (b2 (by decide) (by decide))]
    rw [show ((2 : Int).toNat) = 2 from rfl, show ((1 : Int).toNat) = 1 from rfl, M21]
    decide +kernel
  · obtain ⟨data, d1, d2, d3, d4, d5⟩ := dec_ok (K := K) (by omega) hD
    have e : data = [[227], [7]] := d5 _ (b2 (by decide) (by decide)) ⟨rfl, by decide⟩ (by
      rw [M21]
      have key : ∀ x ∈ tk 2 [[], [7], [9]], rw_ (coded 1 [[1, 0], [0, 1], [142, 244]] [[227], [7]]) x.toNat = rw_ [[], [7], [9]] x.toNat := by decide +kernel
      intro x hx
      exact key _ hx)
    rw [show (2 : Int) = ((2 : Nat) : Int) from rfl, show (1 : Int) = ((1 : Nat) : Int) from rfl] at *
    rw [d3, e, M21]
    decide +kernel
  · rcases dec_any (K := K) (by omega) (a := 2) (b := 1) (cells := [[], [], [9]]) (by decide) with ⟨h1, _⟩ | ⟨_, h1, _⟩ | ⟨_, _, _, _, h1⟩ | ⟨k, r, n, h1, h2, h3⟩
    · exact absurd (by decide) h1
    · exact absurd (by decide) h1
    · exact h1
    · have := h3.cnt
      have e : (posI [[], [], [(9 : Int)]] 0).length = 1 := by decide
      omega
  · unfold codec_Encode.f
    rw [if_neg (by decide), if_pos (row_inv (by decide) (by decide) (by decide)), there_f (by omega) (by decide), if_pos (by decide)]
    simp only [Option.bind_some]
    rw [if_neg (by decide), if_pos (by decide)]
  · have := ver_ok (K := K) (by omega) (k := 2) (r := 1) (n := 1) (cells := [[227], [7], [9]]) (by decide) (by decide) (by decide) (by decide) (by decide) ⟨rfl, by decide⟩ (by decide)
    rw [show ((2 : Int)) = ((2 : Nat) : Int) from rfl, show ((1 : Int)) = ((1 : Nat) : Int) from rfl, this, M21]
    decide +kernel
theorem alive_f {K : Nat} (hK : 400 ≤ K) : twoslotlaw04_alive.f K = some true := by
  unfold twoslotlaw04_alive.f
  rw [if_pos (alive_ok hK)]
theorem much_l0 (l : List (List Int)) (hl : l.length ≤ 60) : ∀ (d k i : Nat), i + d = l.length → d < k → ∃ b, twoslotlaw04_much.l0 k l (i : Int) = some b
  | 0, k, i, hi, hk => by
    obtain ⟨k, rfl⟩ : ∃ m, k = m + 1 := ⟨k - 1, by omega⟩
    exact ⟨false, by simp only [twoslotlaw04_much.l0]; rw [if_neg (by omega)]⟩
  | d + 1, k, i, hi, hk => by
    obtain ⟨k, rfl⟩ : ∃ m, k = m + 1 := ⟨k - 1, by omega⟩
    obtain ⟨b, hb⟩ := much_l0 l hl d k (i + 1) (by omega) (by omega)
    rw [show ((i + 1 : Nat) : Int) = (i : Int) + 1 by omega] at hb
    simp only [twoslotlaw04_much.l0]
    rw [if_pos (by omega), if_pos (by omega), wrap_s (by omega) (by omega), hb]
    by_cases h1 : ((rd_L1 l i).length : Int) > 3000
    · rw [if_pos h1]
      by_cases h2 : ((rd_L1 l i).length : Int) ≤ 65536
      · rw [if_pos h2]; exact ⟨_, rfl⟩
      · rw [if_neg h2]
        by_cases h3 : ((rd_L1 l i).length : Int) > 70000
        · rw [if_pos h3]; exact ⟨_, rfl⟩
        · rw [if_neg h3]; exact ⟨_, rfl⟩
    · rw [if_neg h1]
      by_cases h3 : ((rd_L1 l i).length : Int) > 70000
      · rw [if_pos h3]; exact ⟨_, rfl⟩
      · rw [if_neg h3]; exact ⟨_, rfl⟩
theorem much_f {K : Nat} (hK : 62 ≤ K) (l : List (List Int)) : twoslotlaw04_much.f K l = some true ∨ (twoslotlaw04_much.f K l = some false ∧ l.length ≤ 60) := by
  unfold twoslotlaw04_much.f
  by_cases h : (l.length : Int) > 60
  · rw [if_pos h]; exact .inl rfl
  · rw [if_neg h]
    obtain ⟨b, hb⟩ := much_l0 l (by omega) l.length K 0 (by omega) (by omega)
    rw [show ((0 : Nat) : Int) = 0 from rfl] at hb
    rw [hb]
    cases b
    · exact .inr ⟨rfl, by omega⟩
    · exact .inl rfl
end Go.Proofs.Ythhncoogmncdkaa.Pure
