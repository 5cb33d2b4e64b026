/- The walk of MatrixTwos: it answers true. No condition. -/
import Derived.Test.YtmeckhfoajfapaaPTx13
import Derived.Test.YtmeckhfoajfapaaPTx14
import Derived.Test.YtmeckhfoajfapaaPTx14
import Derived.Test.YtmeckhfoajfapaaPTx12
import Derived.Test.YtmeckhfoajfapaaPTx18
import Derived.Test.YtmeckhfoajfapaaPTx6
import Derived.Test.YtmeckhfoajfapaaPTx3
import Derived.Test.YtmeckhfoajfapaaPTx6
import Derived.Test.YtmeckhfoajfapaaPTx15
import Derived.Test.YtmeckhfoajfapaaPTx16
import Derived.Test.YtmeckhfoajfapaaPTx17
import Derived.Test.YtmeckhfoajfapaaMxSpo
namespace Go.Proofs.Ytmeckhfoajfapaa.PT
open Go Go.RowKit Go.Proofs.Ytmeckhfoajfapaa Go.Proofs.YtmeckhfoajfapaaW.PrintWords Go.Proofs.YtmeckhfoajfapaaW.PrintLast Go.Proofs.YtmeckhfoajfapaaW.PrintMore
set_option linter.unusedVariables false

set_option maxHeartbeats 16000000 in
set_option maxRecDepth 100000 in
theorem law_Twos (k : Nat) (Aa : Option Addr) (ca : Nat) (l0 : List (List Int)) (Ab : Option Addr) (cb : Nat) (l1 : List (List Int)) (a2 a3 : Int) (w : World) (hr0 : Kd.C (Kd.slice 5 (Kd.int .u8)) w Aa l0.length l0) (hc0 : l0.length ≤ ca) (hr1 : Kd.C (Kd.slice 5 (Kd.int .u8)) w Ab l1.length l1) (hc1 : l1.length ≤ cb)
    (hal : twoslotlaw03_alive.f k = some true) (b0 b1 : Bool) (hm0 : twoslotlaw03_much.f k l0 = some b0) (hm1 : twoslotlaw03_much.f k l1 = some b1)
    (h : b0 = false → b1 = false → ∃ (m : List (List Int)) (e1 : Int) (n : List (List Int)) (e2 : Int) (c : List (List Int)) (e3 : Int), (twoslotref03_Twin.f k l0 = some l0 ∧ twoslotref03_Twin.f k l1 = some l1 ∧ matrix_Mul.f k l0 l1 = some (m, e1) ∧ matrix_One.f a2 = some (n, e2) ∧ matrix_Cauchy.f a2 a3 = some (c, e3)) ∧
      (twoslotref03_Mul.f k l0 l1 = some (m, e1) ∧ twoslotref03_One.f k a2 = some (n, e2) ∧ twoslotref03_Cauchy.f k a2 a3 = some (c, e3)) ∧ (twoslotref03_Same.f k m m = some true ∧ twoslotref03_Same.f k n n = some true ∧ twoslotref03_Same.f k c c = some true ∧ twoslotref03_Same.f k l0 l0 = some true ∧ twoslotref03_Same.f k l1 l1 = some true) ∧ (twoslotlaw03_spoil.f n = some () ∧ twoslotlaw03_spoil.f c = some ())) :
    Calls Try.prog 4 #[.slice Aa l0.length ca, .slice Ab l1.length cb, .int .i64 a2, .int .i64 a3] w fun e w' => e = .returned (.bool true) ∧ Below w.heap.size w w' := by
  have Ca := Lib.hid hr0
  have Cb := Lib.hid hr1
  have Ea := Lib.hid hc0
  have Eb := Lib.hid hc1
  have HAL := Lib.hid hal
  have HM0 := Lib.hid hm0
  have HM1 := Lib.hid hm1
  have H := Lib.hid h
  have HB := Lib.hid (Below.refl w.heap.size w)
  clear hr0 hr1 hc0 hc1 hal hm0 hm1 h
  go_enter Try.func4, Try.ntmps4
  go_wp2_with fail
  refine (twoslotlaw03_alive.calls k true _ HAL.out).mono ?_
  rintro e_ w1 ⟨rfl, hb⟩
  replace Ca := Lib.hid (Kd.C_below Ca.out hb)
  replace Cb := Lib.hid (Kd.C_below Cb.out hb)
  replace HB := Lib.hid (below_step HB.out hb)
  clear hb
  go_wp2_with fail
  refine (twoslotlaw03_much.calls k Aa ca l0 b0 _ Ca.out Ea.out HM0.out).mono ?_
  rintro e_ w2 ⟨rfl, n_, hw_⟩
  have hb : Below (World.heap w1).size w1 w2 := by rw [hw_]; exact pw_below_drewN (Below.refl _ _) n_
  clear hw_
  replace Ca := Lib.hid (Kd.C_below Ca.out hb)
  replace Cb := Lib.hid (Kd.C_below Cb.out hb)
  replace HB := Lib.hid (below_step HB.out hb)
  clear hb
  cases b0 with
  | true =>
    go_wp2_with fail
    go_ret
    exact ⟨rfl, HB.out⟩
  | false =>
    go_wp2_with fail
    refine (twoslotlaw03_much.calls k Ab cb l1 b1 _ Cb.out Eb.out HM1.out).mono ?_
    rintro e_ w3 ⟨rfl, n_, hw_⟩
    have hb : Below (World.heap w2).size w2 w3 := by rw [hw_]; exact pw_below_drewN (Below.refl _ _) n_
    clear hw_
    replace Ca := Lib.hid (Kd.C_below Ca.out hb)
    replace Cb := Lib.hid (Kd.C_below Cb.out hb)
    replace HB := Lib.hid (below_step HB.out hb)
    clear hb
    cases b1 with
    | true =>
      go_wp2_with fail
      go_ret
      exact ⟨rfl, HB.out⟩
    | false =>
      obtain ⟨m, e1, n, e2, c, e3, ⟨t0, t1, t2, t3, t4⟩, ⟨u0, u1, u2⟩, ⟨s0, s1, s2, s3, s4⟩, z0, z1⟩ := H.out (by first | rfl | trivial) (by first | rfl | trivial)
      have Ht0 := Lib.hid t0
      have Ht1 := Lib.hid t1
      have Ht2 := Lib.hid t2
      have Ht3 := Lib.hid t3
      have Ht4 := Lib.hid t4
      have Hu0 := Lib.hid u0
      have Hu1 := Lib.hid u1
      have Hu2 := Lib.hid u2
      have Hs0 := Lib.hid s0
      have Hs1 := Lib.hid s1
      have Hs2 := Lib.hid s2
      have Hs3 := Lib.hid s3
      have Hs4 := Lib.hid s4
      have Hz0 := Lib.hid z0
      have Hz1 := Lib.hid z1
      clear t0 t1 t2 t3 t4 u0 u1 u2 s0 s1 s2 s3 s4 z0 z1 H
      go_wp2_with fail
      refine (twoslotref03_Twin.calls k Aa ca l0 l0 _ Ca.out Ea.out Ht0.out).mono ?_
      rintro e_ w4 ⟨vx, rfl, ho, hb⟩
      replace Ca := Lib.hid (Kd.C_below Ca.out hb)
      replace Cb := Lib.hid (Kd.C_below Cb.out hb)
      replace HB := Lib.hid (below_step HB.out hb)
      clear hb
      obtain ⟨Ax, cx, rfl, hlx, hc_⟩ := Kd.S_reads ho
      have Cx := Lib.hid hc_
      have Ex := Lib.hid hlx
      clear hc_ hlx
      go_wp2_with fail
      refine (twoslotref03_Twin.calls k Ab cb l1 l1 _ Cb.out Eb.out Ht1.out).mono ?_
      rintro e_ w5 ⟨vy, rfl, ho, hb⟩
      replace Ca := Lib.hid (Kd.C_below Ca.out hb)
      replace Cb := Lib.hid (Kd.C_below Cb.out hb)
      replace Cx := Lib.hid (Kd.C_below Cx.out hb)
      replace HB := Lib.hid (below_step HB.out hb)
      clear hb
      obtain ⟨Ay, cy, rfl, hly, hc_⟩ := Kd.S_reads ho
      have Cy := Lib.hid hc_
      have Ey := Lib.hid hly
      clear hc_ hly
      go_wp2_with fail
      refine (matrix_Mul.calls k Ax cx l0 Ay cy l1 m e1 _ Cx.out Ex.out Cy.out Ey.out Ht2.out).mono ?_
      rintro e_ w6 ⟨vm, rfl, ho, hb⟩
      replace Ca := Lib.hid (Kd.C_below Ca.out hb)
      replace Cb := Lib.hid (Kd.C_below Cb.out hb)
      replace Cx := Lib.hid (Kd.C_below Cx.out hb)
      replace Cy := Lib.hid (Kd.C_below Cy.out hb)
      replace HB := Lib.hid (below_step HB.out hb)
      clear hb
      obtain ⟨Am, cm, rfl, hlm, hc_⟩ := Kd.S_reads ho
      have Cm := Lib.hid hc_
      have Em := Lib.hid hlm
      clear hc_ hlm
      have HBW := HB
      have HN := Lib.hid (Below.refl w6.heap.size w6)
      have Fa := Ca
      have Fb := Cb
      have Fx := Cx
      have Fy := Cy
      go_wp2_with fail
      refine (matrix_One.calls a2 n e2 _ Ht3.out).mono ?_
      rintro e_ w7 ⟨vn, rfl, ho, hb⟩
      replace Ca := Lib.hid (Kd.C_below Ca.out hb)
      replace Cb := Lib.hid (Kd.C_below Cb.out hb)
      replace Cx := Lib.hid (Kd.C_below Cx.out hb)
      replace Cy := Lib.hid (Kd.C_below Cy.out hb)
      replace Cm := Lib.hid (Kd.C_below Cm.out hb)
      replace HN := Lib.hid (below_step HN.out hb)
      clear hb
      have Sn := Lib.hid (Kd.S_mono (Kd.S_bound ho) (ok' := fun k_ => k_ < w7.heap.size) (fun k_ hk_ => hk_.2.2.1))
      obtain ⟨An, cn, rfl, hln, hc_⟩ := Kd.S_reads ho
      have Cn := Lib.hid hc_
      have En := Lib.hid hln
      clear hc_ hln
      have Zc := Lib.hid (show w6.heap.size ≤ w7.heap.size from HN.out.size)
      have SZ1 := Lib.hid (Nat.le_refl w7.heap.size)
      go_wp2_with fail
      refine (matrix_Cauchy.calls a2 a3 c e3 _ Ht4.out).mono ?_
      rintro e_ w8 ⟨vc, rfl, ho, hb⟩
      replace Ca := Lib.hid (Kd.C_below Ca.out hb)
      replace Cb := Lib.hid (Kd.C_below Cb.out hb)
      replace Cx := Lib.hid (Kd.C_below Cx.out hb)
      replace Cy := Lib.hid (Kd.C_below Cy.out hb)
      replace Cm := Lib.hid (Kd.C_below Cm.out hb)
      replace Cn := Lib.hid (Kd.C_below Cn.out hb)
      replace Sn := Lib.hid (Kd.S_below Sn.out hb)
      replace SZ1 := Lib.hid (Nat.le_trans SZ1.out hb.size)
      replace HN := Lib.hid (below_step HN.out hb)
      clear hb
      have SZ2 := Lib.hid (Nat.le_refl w8.heap.size)
      have Sc := Lib.hid (Kd.S_mono (Kd.S_bound ho) (ok' := fun k_ => w7.heap.size ≤ k_ ∧ k_ < w8.heap.size) (fun k_ hk_ => ⟨hk_.2.1, hk_.2.2.1⟩))
      obtain ⟨Ac, cc, rfl, hlc, hc_⟩ := Kd.S_reads ho
      have Cc := Lib.hid hc_
      have Ec := Lib.hid hlc
      clear hc_ hlc
      go_wp2_with fail
      refine (twoslotref03_Mul.calls k Aa ca l0 Ab cb l1 m e1 _ Ca.out Ea.out Cb.out Eb.out Hu0.out).mono ?_
      rintro e_ w9 ⟨vm2, rfl, ho, hb⟩
      replace Ca := Lib.hid (Kd.C_below Ca.out hb)
      replace Cb := Lib.hid (Kd.C_below Cb.out hb)
      replace Cx := Lib.hid (Kd.C_below Cx.out hb)
      replace Cy := Lib.hid (Kd.C_below Cy.out hb)
      replace Cm := Lib.hid (Kd.C_below Cm.out hb)
      replace Cn := Lib.hid (Kd.C_below Cn.out hb)
      replace Cc := Lib.hid (Kd.C_below Cc.out hb)
      replace Sn := Lib.hid (Kd.S_below Sn.out hb)
      replace Sc := Lib.hid (Kd.S_below Sc.out hb)
      replace SZ1 := Lib.hid (Nat.le_trans SZ1.out hb.size)
      replace SZ2 := Lib.hid (Nat.le_trans SZ2.out hb.size)
      replace HN := Lib.hid (below_step HN.out hb)
      clear hb
      obtain ⟨Am2, cm2, rfl, hlm2, hc_⟩ := Kd.S_reads ho
      have Cm2 := Lib.hid hc_
      have Em2 := Lib.hid hlm2
      clear hc_ hlm2
      go_wp2_with fail
      refine (twoslotref03_One.calls k a2 n e2 _ Hu1.out).mono ?_
      rintro e_ w10 ⟨vn2, rfl, ho, hb⟩
      replace Ca := Lib.hid (Kd.C_below Ca.out hb)
      replace Cb := Lib.hid (Kd.C_below Cb.out hb)
      replace Cx := Lib.hid (Kd.C_below Cx.out hb)
      replace Cy := Lib.hid (Kd.C_below Cy.out hb)
      replace Cm := Lib.hid (Kd.C_below Cm.out hb)
      replace Cn := Lib.hid (Kd.C_below Cn.out hb)
      replace Cc := Lib.hid (Kd.C_below Cc.out hb)
      replace Cm2 := Lib.hid (Kd.C_below Cm2.out hb)
      replace Sn := Lib.hid (Kd.S_below Sn.out hb)
      replace Sc := Lib.hid (Kd.S_below Sc.out hb)
      replace SZ1 := Lib.hid (Nat.le_trans SZ1.out hb.size)
      replace SZ2 := Lib.hid (Nat.le_trans SZ2.out hb.size)
      replace HN := Lib.hid (below_step HN.out hb)
      clear hb
      obtain ⟨An2, cn2, rfl, hln2, hc_⟩ := Kd.S_reads ho
      have Cn2 := Lib.hid hc_
      have En2 := Lib.hid hln2
      clear hc_ hln2
      go_wp2_with fail
      refine (twoslotref03_Cauchy.calls k a2 a3 c e3 _ Hu2.out).mono ?_
      rintro e_ w11 ⟨vc2, rfl, ho, hb⟩
      replace Ca := Lib.hid (Kd.C_below Ca.out hb)
      replace Cb := Lib.hid (Kd.C_below Cb.out hb)
      replace Cx := Lib.hid (Kd.C_below Cx.out hb)
      replace Cy := Lib.hid (Kd.C_below Cy.out hb)
      replace Cm := Lib.hid (Kd.C_below Cm.out hb)
      replace Cn := Lib.hid (Kd.C_below Cn.out hb)
      replace Cc := Lib.hid (Kd.C_below Cc.out hb)
      replace Cm2 := Lib.hid (Kd.C_below Cm2.out hb)
      replace Cn2 := Lib.hid (Kd.C_below Cn2.out hb)
      replace Sn := Lib.hid (Kd.S_below Sn.out hb)
      replace Sc := Lib.hid (Kd.S_below Sc.out hb)
      replace HN := Lib.hid (below_step HN.out hb)
      clear hb
      have Sc2 := Lib.hid (Kd.S_mono (Kd.S_bound ho) (ok' := fun k_ => w10.heap.size ≤ k_) (fun k_ hk_ => hk_.2.1))
      obtain ⟨Ac2, cc2, rfl, hlc2, hc_⟩ := Kd.S_reads ho
      have Cc2 := Lib.hid hc_
      have Ec2 := Lib.hid hlc2
      clear hc_ hlc2
      go_wp2_with fail
      refine (twoslotref03_Same.calls k Am cm m Am2 cm2 m true _ Cm.out Em.out Cm2.out Em2.out Hs0.out).mono ?_
      rintro e_ w12 ⟨rfl, n_, hw_⟩
      have hb : Below (World.heap w11).size w11 w12 := by rw [hw_]; exact pw_below_drewN (Below.refl _ _) n_
      clear hw_
      replace Ca := Lib.hid (Kd.C_below Ca.out hb)
      replace Cb := Lib.hid (Kd.C_below Cb.out hb)
      replace Cx := Lib.hid (Kd.C_below Cx.out hb)
      replace Cy := Lib.hid (Kd.C_below Cy.out hb)
      replace Cm := Lib.hid (Kd.C_below Cm.out hb)
      replace Cn := Lib.hid (Kd.C_below Cn.out hb)
      replace Cc := Lib.hid (Kd.C_below Cc.out hb)
      replace Cm2 := Lib.hid (Kd.C_below Cm2.out hb)
      replace Cn2 := Lib.hid (Kd.C_below Cn2.out hb)
      replace Cc2 := Lib.hid (Kd.C_below Cc2.out hb)
      replace Sn := Lib.hid (Kd.S_below Sn.out hb)
      replace Sc := Lib.hid (Kd.S_below Sc.out hb)
      replace Sc2 := Lib.hid (Kd.S_below Sc2.out hb)
      replace HN := Lib.hid (below_step HN.out hb)
      clear hb
      go_wp2_with fail
      refine (twoslotref03_Same.calls k An cn n An2 cn2 n true _ Cn.out En.out Cn2.out En2.out Hs1.out).mono ?_
      rintro e_ w13 ⟨rfl, n_, hw_⟩
      have hb : Below (World.heap w12).size w12 w13 := by rw [hw_]; exact pw_below_drewN (Below.refl _ _) n_
      clear hw_
      replace Ca := Lib.hid (Kd.C_below Ca.out hb)
      replace Cb := Lib.hid (Kd.C_below Cb.out hb)
      replace Cx := Lib.hid (Kd.C_below Cx.out hb)
      replace Cy := Lib.hid (Kd.C_below Cy.out hb)
      replace Cm := Lib.hid (Kd.C_below Cm.out hb)
      replace Cn := Lib.hid (Kd.C_below Cn.out hb)
      replace Cc := Lib.hid (Kd.C_below Cc.out hb)
      replace Cm2 := Lib.hid (Kd.C_below Cm2.out hb)
      replace Cn2 := Lib.hid (Kd.C_below Cn2.out hb)
      replace Cc2 := Lib.hid (Kd.C_below Cc2.out hb)
      replace Sn := Lib.hid (Kd.S_below Sn.out hb)
      replace Sc := Lib.hid (Kd.S_below Sc.out hb)
      replace Sc2 := Lib.hid (Kd.S_below Sc2.out hb)
      replace HN := Lib.hid (below_step HN.out hb)
      clear hb
      go_wp2_with fail
      refine (twoslotref03_Same.calls k Ac cc c Ac2 cc2 c true _ Cc.out Ec.out Cc2.out Ec2.out Hs2.out).mono ?_
      rintro e_ w14 ⟨rfl, n_, hw_⟩
      have hb : Below (World.heap w13).size w13 w14 := by rw [hw_]; exact pw_below_drewN (Below.refl _ _) n_
      clear hw_
      replace Ca := Lib.hid (Kd.C_below Ca.out hb)
      replace Cb := Lib.hid (Kd.C_below Cb.out hb)
      replace Cx := Lib.hid (Kd.C_below Cx.out hb)
      replace Cy := Lib.hid (Kd.C_below Cy.out hb)
      replace Cm := Lib.hid (Kd.C_below Cm.out hb)
      replace Cn := Lib.hid (Kd.C_below Cn.out hb)
      replace Cc := Lib.hid (Kd.C_below Cc.out hb)
      replace Cm2 := Lib.hid (Kd.C_below Cm2.out hb)
      replace Cn2 := Lib.hid (Kd.C_below Cn2.out hb)
      replace Cc2 := Lib.hid (Kd.C_below Cc2.out hb)
      replace Sn := Lib.hid (Kd.S_below Sn.out hb)
      replace Sc := Lib.hid (Kd.S_below Sc.out hb)
      replace Sc2 := Lib.hid (Kd.S_below Sc2.out hb)
      replace HN := Lib.hid (below_step HN.out hb)
      clear hb
      have HZ := Lib.hid (show w7.heap.size ≤ w10.heap.size ∧ w8.heap.size ≤ w10.heap.size from ⟨SZ1.out, SZ2.out⟩)
      clear Ca Cb Cx Cy Cm Cn Cc Cm2 Cn2 Cc2
      go_wp2_with fail
      refine (twoslotlaw03_spoil.real _ _ _ n w6 _ HN.out (Nat.le_refl _) Sn.out Hz0.out).mono ?_
      rintro e_ w15 ⟨rfl, hk_, hb⟩
      replace Sc := Lib.hid (Kd.S_kept Sc.out hk_ (fun k_ ho_ hs_ => by have h1 : k_ < w7.heap.size := hs_.2; have h2 : w7.heap.size ≤ k_ := ho_.1; omega))
      replace Sc2 := Lib.hid (Kd.S_kept Sc2.out hk_ (fun k_ ho_ hs_ => by have h1 : k_ < w7.heap.size := hs_.2; have h2 : w10.heap.size ≤ k_ := ho_; have h3 := HZ.out.1; omega))
      replace HN := Lib.hid hb
      clear hb hk_ Sn
      go_wp2_with fail
      refine (twoslotlaw03_spoil.real _ _ _ c w6 _ HN.out Zc.out Sc.out Hz1.out).mono ?_
      rintro e_ w16 ⟨rfl, hk_, hb⟩
      replace Sc2 := Lib.hid (Kd.S_kept Sc2.out hk_ (fun k_ ho_ hs_ => by have h1 : k_ < w8.heap.size := hs_.2.2; have h2 : w10.heap.size ≤ k_ := ho_; have h3 := HZ.out.2; omega))
      replace HN := Lib.hid hb
      clear hb hk_ Sc
      have Cc2 := Lib.hid (Kd.S_reads' Sc2.out).2.2
      go_wp2_with fail
      refine (matrix_Cauchy.calls a2 a3 c e3 _ Ht4.out).mono ?_
      rintro e_ w17 ⟨vg, rfl, ho, hb⟩
      replace Cc2 := Lib.hid (Kd.C_below Cc2.out hb)
      replace HN := Lib.hid (below_step HN.out hb)
      clear hb
      obtain ⟨Ag, cg, rfl, hlg, hc_⟩ := Kd.S_reads ho
      have Cg := Lib.hid hc_
      have Eg := Lib.hid hlg
      clear hc_ hlg
      have Ca := Lib.hid (Kd.C_below Fa.out HN.out)
      have Cb := Lib.hid (Kd.C_below Fb.out HN.out)
      have Cx := Lib.hid (Kd.C_below Fx.out HN.out)
      have Cy := Lib.hid (Kd.C_below Fy.out HN.out)
      go_wp2_with fail
      refine (twoslotref03_Same.calls k Ag cg c Ac2 cc2 c true _ Cg.out Eg.out Cc2.out Ec2.out Hs2.out).mono ?_
      rintro e_ w18 ⟨rfl, n_, hw_⟩
      have hb : Below (World.heap w17).size w17 w18 := by rw [hw_]; exact pw_below_drewN (Below.refl _ _) n_
      clear hw_
      replace Cc2 := Lib.hid (Kd.C_below Cc2.out hb)
      replace Cg := Lib.hid (Kd.C_below Cg.out hb)
      replace Ca := Lib.hid (Kd.C_below Ca.out hb)
      replace Cb := Lib.hid (Kd.C_below Cb.out hb)
      replace Cx := Lib.hid (Kd.C_below Cx.out hb)
      replace Cy := Lib.hid (Kd.C_below Cy.out hb)
      replace HN := Lib.hid (below_step HN.out hb)
      clear hb
      go_wp2_with fail
      refine (twoslotref03_Same.calls k Ax cx l0 Aa ca l0 true _ Cx.out Ex.out Ca.out Ea.out Hs3.out).mono ?_
      rintro e_ w19 ⟨rfl, n_, hw_⟩
      have hb : Below (World.heap w18).size w18 w19 := by rw [hw_]; exact pw_below_drewN (Below.refl _ _) n_
      clear hw_
      replace Cc2 := Lib.hid (Kd.C_below Cc2.out hb)
      replace Cg := Lib.hid (Kd.C_below Cg.out hb)
      replace Ca := Lib.hid (Kd.C_below Ca.out hb)
      replace Cb := Lib.hid (Kd.C_below Cb.out hb)
      replace Cx := Lib.hid (Kd.C_below Cx.out hb)
      replace Cy := Lib.hid (Kd.C_below Cy.out hb)
      replace HN := Lib.hid (below_step HN.out hb)
      clear hb
      go_wp2_with fail
      refine (twoslotref03_Same.calls k Ay cy l1 Ab cb l1 true _ Cy.out Ey.out Cb.out Eb.out Hs4.out).mono ?_
      rintro e_ w20 ⟨rfl, n_, hw_⟩
      have hb : Below (World.heap w19).size w19 w20 := by rw [hw_]; exact pw_below_drewN (Below.refl _ _) n_
      clear hw_
      replace Cc2 := Lib.hid (Kd.C_below Cc2.out hb)
      replace Cg := Lib.hid (Kd.C_below Cg.out hb)
      replace Ca := Lib.hid (Kd.C_below Ca.out hb)
      replace Cb := Lib.hid (Kd.C_below Cb.out hb)
      replace Cx := Lib.hid (Kd.C_below Cx.out hb)
      replace Cy := Lib.hid (Kd.C_below Cy.out hb)
      replace HN := Lib.hid (below_step HN.out hb)
      clear hb
      have qe1 : (e1 == e1) = true := beq_self_eq_true e1
      have qe2 : (e2 == e2) = true := beq_self_eq_true e2
      have qe3 : (e3 == e3) = true := beq_self_eq_true e3
      go_wp2_with fail
      go_ret
      exact ⟨rfl, below_step HBW.out HN.out⟩
end Go.Proofs.Ytmeckhfoajfapaa.PT
