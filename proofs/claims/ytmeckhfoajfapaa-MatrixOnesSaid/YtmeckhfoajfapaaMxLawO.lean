/- The walk of MatrixOnes: it answers true. No condition. -/
import Derived.Test.YtmeckhfoajfapaaPTx13
import Derived.Test.YtmeckhfoajfapaaPTx14
import Derived.Test.YtmeckhfoajfapaaPTx12
import Derived.Test.YtmeckhfoajfapaaPTx18
import Derived.Test.YtmeckhfoajfapaaPTx20
import Derived.Test.YtmeckhfoajfapaaPTx7
import Derived.Test.YtmeckhfoajfapaaPTx22
import Derived.Test.YtmeckhfoajfapaaPTx23
import Derived.Test.YtmeckhfoajfapaaMxSpo
namespace Go.Proofs.Ytmeckhfoajfapaa.PT
open Go Go.RowKit Go.Proofs.Ytmeckhfoajfapaa Go.Proofs.YtmeckhfoajfapaaW.PrintWords Go.Proofs.YtmeckhfoajfapaaW.PrintLast Go.Proofs.YtmeckhfoajfapaaW.PrintMore
set_option linter.unusedVariables false

set_option maxHeartbeats 16000000 in
set_option maxRecDepth 100000 in
theorem law_Ones (k : Nat) (Aa : Option Addr) (ca : Nat) (l0 : List (List Int)) (Ab : Option Addr) (cb : Nat) (l1 : List Int) (w : World) (hr0 : Kd.C (Kd.slice 5 (Kd.int .u8)) w Aa l0.length l0) (hc0 : l0.length ≤ ca) (hr1 : Kd.C (Kd.int .i64) w Ab l1.length l1) (hc1 : l1.length ≤ cb)
    (hal : twoslotlaw03_alive.f k = some true) (b0 : Bool) (hm0 : twoslotlaw03_much.f k l0 = some b0)
    (h : b0 = false → l1.length ≤ 1000 → ∃ (t : List (List Int)) (e1 : Int) (p : List (List Int)) (e2 r e3 : Int) (v : List (List Int)) (e4 ck : Int), (twoslotref03_Twin.f k l0 = some l0 ∧ matrix_Turned.f k l0 = some (t, e1) ∧ matrix_Pick.f k l0 l1 = some (p, e2) ∧ matrix_Rank.f k l0 = some (r, e3) ∧ matrix_Inverse.f k l0 = some (v, e4) ∧ matrix_Check.f k l0 = some ck) ∧
      (twoslotref03_Turned.f k l0 = some (t, e1) ∧ twoslotref03_Pick.f k l0 l1 = some (p, e2) ∧ twoslotref03_Rank.f k l0 = some (r, e3) ∧ twoslotref03_Inverse.f k l0 = some (v, e4) ∧ twoslotref03_Check.f k l0 = some ck) ∧ (twoslotref03_Same.f k t t = some true ∧ twoslotref03_Same.f k p p = some true ∧ twoslotref03_Same.f k v v = some true ∧ twoslotref03_Same.f k l0 l0 = some true) ∧ (twoslotlaw03_spoil.f t = some () ∧ twoslotlaw03_spoil.f p = some () ∧ twoslotlaw03_spoil.f v = some ())) :
    Calls Try.prog 7 #[.slice Aa l0.length ca, .slice Ab l1.length cb] w fun e w' => e = .returned (.bool true) ∧ Below w.heap.size w w' := by
  have Ca := Lib.hid hr0
  have Cb := Lib.hid hr1
  have Ea := Lib.hid hc0
  have Eb := Lib.hid hc1
  have HAL := Lib.hid hal
  have HM0 := Lib.hid hm0
  have H := Lib.hid h
  have HB := Lib.hid (Below.refl w.heap.size w)
  clear hr0 hr1 hc0 hc1 hal hm0 h
  go_enter Try.func7, Try.ntmps7
  go_wp2_with fail
  refine (twoslotlaw03_alive.calls k true _ HAL.out).mono ?_
  rintro e_ w1 ⟨rfl, hb⟩
  replace Ca := Lib.hid (Kd.C_below Ca.out hb)
  replace Cb := Lib.hid (Kd.C_below Cb.out hb)
  replace HB := Lib.hid (below_step HB.out hb)
  clear hb
  go_wp2_with fail
  refine (twoslotlaw03_much.calls k Aa ca l0 b0 _ Ca.out Ea.out HM0.out).mono ?_
  rintro e_ w2 ⟨rfl, n_, hw_⟩
  have hb : Below (World.heap w1).size w1 w2 := by rw [hw_]; exact pw_below_drewN (Below.refl _ _) n_
  clear hw_
  replace Ca := Lib.hid (Kd.C_below Ca.out hb)
  replace Cb := Lib.hid (Kd.C_below Cb.out hb)
  replace HB := Lib.hid (below_step HB.out hb)
  clear hb
  cases b0 with
  | true =>
    go_wp2_with fail
    go_ret
    exact ⟨rfl, HB.out⟩
  | false =>
    by_cases hl1 : (l1.length : Int) > 1000
    case pos =>
      have hl2 : decide ((l1.length : Int) > 1000) = true := decide_eq_true hl1
      have hl3 : (1000 : Int) < (l1.length : Int) := hl1
      go_wp2_with fail
      go_ret
      exact ⟨rfl, HB.out⟩
    have hl2 : decide ((l1.length : Int) > 1000) = false := decide_eq_false hl1
    have hl3 : ¬ (1000 : Int) < (l1.length : Int) := hl1
    obtain ⟨t, e1, p, e2, r, e3, v, e4, ck, ⟨t0, t1, t2, t3, t4, t5⟩, ⟨u1, u2, u3, u4, u5⟩, ⟨s0, s1, s2, s3⟩, z0, z1, z2⟩ := H.out (by first | rfl | trivial) (by omega)
    have Ht0 := Lib.hid t0
    have Ht1 := Lib.hid t1
    have Ht2 := Lib.hid t2
    have Ht3 := Lib.hid t3
    have Ht4 := Lib.hid t4
    have Ht5 := Lib.hid t5
    have Hu1 := Lib.hid u1
    have Hu2 := Lib.hid u2
    have Hu3 := Lib.hid u3
    have Hu4 := Lib.hid u4
    have Hu5 := Lib.hid u5
    have Hs0 := Lib.hid s0
    have Hs1 := Lib.hid s1
    have Hs2 := Lib.hid s2
    have Hs3 := Lib.hid s3
    have Hz0 := Lib.hid z0
    have Hz1 := Lib.hid z1
    have Hz2 := Lib.hid z2
    clear t0 t1 t2 t3 t4 t5 u1 u2 u3 u4 u5 s0 s1 s2 s3 z0 z1 z2 H
    go_wp2_with fail
    refine (twoslotref03_Twin.calls k Aa ca l0 l0 _ Ca.out Ea.out Ht0.out).mono ?_
    rintro e_ w3 ⟨vx, rfl, ho, hb⟩
    replace Ca := Lib.hid (Kd.C_below Ca.out hb)
    replace Cb := Lib.hid (Kd.C_below Cb.out hb)
    replace HB := Lib.hid (below_step HB.out hb)
    clear hb
    obtain ⟨Ax, cx, rfl, hlx, hc_⟩ := Kd.S_reads ho
    have Cx := Lib.hid hc_
    have Ex := Lib.hid hlx
    clear hc_ hlx
    clear hl1 hl2 hl3
    have HBW := HB
    have HN := Lib.hid (Below.refl w3.heap.size w3)
    have Fa := Ca
    have Fb := Cb
    have Fx := Cx
    go_wp2_with fail
    refine (matrix_Turned.calls k Ax cx l0 t e1 _ Cx.out Ex.out Ht1.out).mono ?_
    rintro e_ w4 ⟨vt, rfl, ho, hb⟩
    replace Ca := Lib.hid (Kd.C_below Ca.out hb)
    replace Cb := Lib.hid (Kd.C_below Cb.out hb)
    replace Cx := Lib.hid (Kd.C_below Cx.out hb)
    replace HN := Lib.hid (below_step HN.out hb)
    clear hb
    have St := Lib.hid (Kd.S_mono (Kd.S_bound ho) (ok' := fun k_ => w3.heap.size ≤ k_ ∧ k_ < w4.heap.size) (fun k_ hk_ => ⟨hk_.2.1, hk_.2.2.1⟩))
    obtain ⟨At, ct, rfl, hlt, hc_⟩ := Kd.S_reads ho
    have Ct := Lib.hid hc_
    have Et := Lib.hid hlt
    clear hc_ hlt
    have Zp := Lib.hid (show w3.heap.size ≤ w4.heap.size from HN.out.size)
    have Z1 := Lib.hid (Nat.le_refl w4.heap.size)
    go_wp2_with fail
    refine (matrix_Pick.calls k Ax cx l0 Ab cb l1 p e2 _ Cx.out Ex.out Cb.out Eb.out Ht2.out).mono ?_
    rintro e_ w5 ⟨vp, rfl, ho, hb⟩
    replace Ca := Lib.hid (Kd.C_below Ca.out hb)
    replace Cb := Lib.hid (Kd.C_below Cb.out hb)
    replace Cx := Lib.hid (Kd.C_below Cx.out hb)
    replace Ct := Lib.hid (Kd.C_below Ct.out hb)
    replace St := Lib.hid (Kd.S_below St.out hb)
    replace Z1 := Lib.hid (Nat.le_trans Z1.out hb.size)
    replace HN := Lib.hid (below_step HN.out hb)
    clear hb
    have Sp := Lib.hid (Kd.S_mono (Kd.S_bound ho) (ok' := fun k_ => w4.heap.size ≤ k_ ∧ k_ < w5.heap.size) (fun k_ hk_ => ⟨hk_.2.1, hk_.2.2.1⟩))
    obtain ⟨Ap, cp, rfl, hlp, hc_⟩ := Kd.S_reads ho
    have Cp := Lib.hid hc_
    have Ep := Lib.hid hlp
    clear hc_ hlp
    have Z2 := Lib.hid (Nat.le_refl w5.heap.size)
    go_wp2_with fail
    refine (matrix_Rank.calls k Ax cx l0 r e3 _ Cx.out Ex.out Ht3.out).mono ?_
    rintro e_ w6 ⟨rfl, hb⟩
    replace Ca := Lib.hid (Kd.C_below Ca.out hb)
    replace Cb := Lib.hid (Kd.C_below Cb.out hb)
    replace Cx := Lib.hid (Kd.C_below Cx.out hb)
    replace Ct := Lib.hid (Kd.C_below Ct.out hb)
    replace Cp := Lib.hid (Kd.C_below Cp.out hb)
    replace St := Lib.hid (Kd.S_below St.out hb)
    replace Sp := Lib.hid (Kd.S_below Sp.out hb)
    replace Z2 := Lib.hid (Nat.le_trans Z2.out hb.size)
    replace HN := Lib.hid (below_step HN.out hb)
    clear hb
    have Zv := Lib.hid (show w3.heap.size ≤ w6.heap.size from HN.out.size)
    have Z3 := Lib.hid (Nat.le_refl w6.heap.size)
    go_wp2_with fail
    refine (matrix_Inverse.calls k Ax cx l0 v e4 _ Cx.out Ex.out Ht4.out).mono ?_
    rintro e_ w7 ⟨vv, rfl, ho, hb⟩
    replace Ca := Lib.hid (Kd.C_below Ca.out hb)
    replace Cb := Lib.hid (Kd.C_below Cb.out hb)
    replace Cx := Lib.hid (Kd.C_below Cx.out hb)
    replace Ct := Lib.hid (Kd.C_below Ct.out hb)
    replace Cp := Lib.hid (Kd.C_below Cp.out hb)
    replace St := Lib.hid (Kd.S_below St.out hb)
    replace Sp := Lib.hid (Kd.S_below Sp.out hb)
    replace Z3 := Lib.hid (Nat.le_trans Z3.out hb.size)
    replace HN := Lib.hid (below_step HN.out hb)
    clear hb
    have Sv := Lib.hid (Kd.S_mono (Kd.S_bound ho) (ok' := fun k_ => w6.heap.size ≤ k_ ∧ k_ < w7.heap.size) (fun k_ hk_ => ⟨hk_.2.1, hk_.2.2.1⟩))
    obtain ⟨Av, cv, rfl, hlv, hc_⟩ := Kd.S_reads ho
    have Cv := Lib.hid hc_
    have Ev := Lib.hid hlv
    clear hc_ hlv
    have Z4 := Lib.hid (Nat.le_refl w7.heap.size)
    go_wp2_with fail
    refine (matrix_Pick.calls k Ax cx l0 Ab cb l1 p e2 _ Cx.out Ex.out Cb.out Eb.out Ht2.out).mono ?_
    rintro e_ w8 ⟨vq, rfl, ho, hb⟩
    replace Ca := Lib.hid (Kd.C_below Ca.out hb)
    replace Cb := Lib.hid (Kd.C_below Cb.out hb)
    replace Cx := Lib.hid (Kd.C_below Cx.out hb)
    replace Ct := Lib.hid (Kd.C_below Ct.out hb)
    replace Cp := Lib.hid (Kd.C_below Cp.out hb)
    replace Cv := Lib.hid (Kd.C_below Cv.out hb)
    replace St := Lib.hid (Kd.S_below St.out hb)
    replace Sp := Lib.hid (Kd.S_below Sp.out hb)
    replace Sv := Lib.hid (Kd.S_below Sv.out hb)
    replace Z4 := Lib.hid (Nat.le_trans Z4.out hb.size)
    replace HN := Lib.hid (below_step HN.out hb)
    clear hb
    have Sq := Lib.hid (Kd.S_mono (Kd.S_bound ho) (ok' := fun k_ => w7.heap.size ≤ k_) (fun k_ hk_ => hk_.2.1))
    obtain ⟨Aq, cq, rfl, hlq, hc_⟩ := Kd.S_reads ho
    have Cq := Lib.hid hc_
    have Eq := Lib.hid hlq
    clear hc_ hlq
    go_wp2_with fail
    refine (twoslotref03_Turned.calls k Aa ca l0 t e1 _ Ca.out Ea.out Hu1.out).mono ?_
    rintro e_ w9 ⟨vt2, rfl, ho, hb⟩
    replace Ca := Lib.hid (Kd.C_below Ca.out hb)
    replace Cb := Lib.hid (Kd.C_below Cb.out hb)
    replace Cx := Lib.hid (Kd.C_below Cx.out hb)
    replace Ct := Lib.hid (Kd.C_below Ct.out hb)
    replace Cp := Lib.hid (Kd.C_below Cp.out hb)
    replace Cv := Lib.hid (Kd.C_below Cv.out hb)
    replace Cq := Lib.hid (Kd.C_below Cq.out hb)
    replace St := Lib.hid (Kd.S_below St.out hb)
    replace Sp := Lib.hid (Kd.S_below Sp.out hb)
    replace Sv := Lib.hid (Kd.S_below Sv.out hb)
    replace Sq := Lib.hid (Kd.S_below Sq.out hb)
    replace Z4 := Lib.hid (Nat.le_trans Z4.out hb.size)
    replace HN := Lib.hid (below_step HN.out hb)
    clear hb
    obtain ⟨At2, ct2, rfl, hlt2, hc_⟩ := Kd.S_reads ho
    have Ct2 := Lib.hid hc_
    have Et2 := Lib.hid hlt2
    clear hc_ hlt2
    go_wp2_with fail
    refine (twoslotref03_Pick.calls k Aa ca l0 Ab cb l1 p e2 _ Ca.out Ea.out Cb.out Eb.out Hu2.out).mono ?_
    rintro e_ w10 ⟨vp2, rfl, ho, hb⟩
    replace Ca := Lib.hid (Kd.C_below Ca.out hb)
    replace Cb := Lib.hid (Kd.C_below Cb.out hb)
    replace Cx := Lib.hid (Kd.C_below Cx.out hb)
    replace Ct := Lib.hid (Kd.C_below Ct.out hb)
    replace Cp := Lib.hid (Kd.C_below Cp.out hb)
    replace Cv := Lib.hid (Kd.C_below Cv.out hb)
    replace Cq := Lib.hid (Kd.C_below Cq.out hb)
    replace Ct2 := Lib.hid (Kd.C_below Ct2.out hb)
    replace St := Lib.hid (Kd.S_below St.out hb)
    replace Sp := Lib.hid (Kd.S_below Sp.out hb)
    replace Sv := Lib.hid (Kd.S_below Sv.out hb)
    replace Sq := Lib.hid (Kd.S_below Sq.out hb)
    replace HN := Lib.hid (below_step HN.out hb)
    clear hb
    have Sp2 := Lib.hid (Kd.S_mono (Kd.S_bound ho) (ok' := fun k_ => w9.heap.size ≤ k_) (fun k_ hk_ => hk_.2.1))
    obtain ⟨Ap2, cp2, rfl, hlp2, hc_⟩ := Kd.S_reads ho
    have Cp2 := Lib.hid hc_
    have Ep2 := Lib.hid hlp2
    clear hc_ hlp2
    go_wp2_with fail
    refine (twoslotref03_Rank.calls k Aa ca l0 r e3 _ Ca.out Ea.out Hu3.out).mono ?_
    rintro e_ w11 ⟨rfl, hb⟩
    replace Ca := Lib.hid (Kd.C_below Ca.out hb)
    replace Cb := Lib.hid (Kd.C_below Cb.out hb)
    replace Cx := Lib.hid (Kd.C_below Cx.out hb)
    replace Ct := Lib.hid (Kd.C_below Ct.out hb)
    replace Cp := Lib.hid (Kd.C_below Cp.out hb)
    replace Cv := Lib.hid (Kd.C_below Cv.out hb)
    replace Cq := Lib.hid (Kd.C_below Cq.out hb)
    replace Ct2 := Lib.hid (Kd.C_below Ct2.out hb)
    replace Cp2 := Lib.hid (Kd.C_below Cp2.out hb)
    replace St := Lib.hid (Kd.S_below St.out hb)
    replace Sp := Lib.hid (Kd.S_below Sp.out hb)
    replace Sv := Lib.hid (Kd.S_below Sv.out hb)
    replace Sq := Lib.hid (Kd.S_below Sq.out hb)
    replace Sp2 := Lib.hid (Kd.S_below Sp2.out hb)
    replace HN := Lib.hid (below_step HN.out hb)
    clear hb
    go_wp2_with fail
    refine (twoslotref03_Inverse.calls k Aa ca l0 v e4 _ Ca.out Ea.out Hu4.out).mono ?_
    rintro e_ w12 ⟨vv2, rfl, ho, hb⟩
    replace Ca := Lib.hid (Kd.C_below Ca.out hb)
    replace Cb := Lib.hid (Kd.C_below Cb.out hb)
    replace Cx := Lib.hid (Kd.C_below Cx.out hb)
    replace Ct := Lib.hid (Kd.C_below Ct.out hb)
    replace Cp := Lib.hid (Kd.C_below Cp.out hb)
    replace Cv := Lib.hid (Kd.C_below Cv.out hb)
    replace Cq := Lib.hid (Kd.C_below Cq.out hb)
    replace Ct2 := Lib.hid (Kd.C_below Ct2.out hb)
    replace Cp2 := Lib.hid (Kd.C_below Cp2.out hb)
    replace St := Lib.hid (Kd.S_below St.out hb)
    replace Sp := Lib.hid (Kd.S_below Sp.out hb)
    replace Sv := Lib.hid (Kd.S_below Sv.out hb)
    replace Sq := Lib.hid (Kd.S_below Sq.out hb)
    replace Sp2 := Lib.hid (Kd.S_below Sp2.out hb)
    replace HN := Lib.hid (below_step HN.out hb)
    clear hb
    obtain ⟨Av2, cv2, rfl, hlv2, hc_⟩ := Kd.S_reads ho
    have Cv2 := Lib.hid hc_
    have Ev2 := Lib.hid hlv2
    clear hc_ hlv2
    have qr : (r == r) = true := beq_self_eq_true r
    have qc : (ck == ck) = true := beq_self_eq_true ck
    go_wp2_with fail
    refine (twoslotref03_Same.calls k At ct t At2 ct2 t true _ Ct.out Et.out Ct2.out Et2.out Hs0.out).mono ?_
    rintro e_ w13 ⟨rfl, n_, hw_⟩
    have hb : Below (World.heap w12).size w12 w13 := by rw [hw_]; exact pw_below_drewN (Below.refl _ _) n_
    clear hw_
    replace Ca := Lib.hid (Kd.C_below Ca.out hb)
    replace Cb := Lib.hid (Kd.C_below Cb.out hb)
    replace Cx := Lib.hid (Kd.C_below Cx.out hb)
    replace Ct := Lib.hid (Kd.C_below Ct.out hb)
    replace Cp := Lib.hid (Kd.C_below Cp.out hb)
    replace Cv := Lib.hid (Kd.C_below Cv.out hb)
    replace Cq := Lib.hid (Kd.C_below Cq.out hb)
    replace Ct2 := Lib.hid (Kd.C_below Ct2.out hb)
    replace Cp2 := Lib.hid (Kd.C_below Cp2.out hb)
    replace Cv2 := Lib.hid (Kd.C_below Cv2.out hb)
    replace St := Lib.hid (Kd.S_below St.out hb)
    replace Sp := Lib.hid (Kd.S_below Sp.out hb)
    replace Sv := Lib.hid (Kd.S_below Sv.out hb)
    replace Sq := Lib.hid (Kd.S_below Sq.out hb)
    replace Sp2 := Lib.hid (Kd.S_below Sp2.out hb)
    replace HN := Lib.hid (below_step HN.out hb)
    clear hb
    go_wp2_with fail
    refine (twoslotref03_Same.calls k Ap cp p Ap2 cp2 p true _ Cp.out Ep.out Cp2.out Ep2.out Hs1.out).mono ?_
    rintro e_ w14 ⟨rfl, n_, hw_⟩
    have hb : Below (World.heap w13).size w13 w14 := by rw [hw_]; exact pw_below_drewN (Below.refl _ _) n_
    clear hw_
    replace Ca := Lib.hid (Kd.C_below Ca.out hb)
    replace Cb := Lib.hid (Kd.C_below Cb.out hb)
    replace Cx := Lib.hid (Kd.C_below Cx.out hb)
    replace Ct := Lib.hid (Kd.C_below Ct.out hb)
    replace Cp := Lib.hid (Kd.C_below Cp.out hb)
    replace Cv := Lib.hid (Kd.C_below Cv.out hb)
    replace Cq := Lib.hid (Kd.C_below Cq.out hb)
    replace Ct2 := Lib.hid (Kd.C_below Ct2.out hb)
    replace Cp2 := Lib.hid (Kd.C_below Cp2.out hb)
    replace Cv2 := Lib.hid (Kd.C_below Cv2.out hb)
    replace St := Lib.hid (Kd.S_below St.out hb)
    replace Sp := Lib.hid (Kd.S_below Sp.out hb)
    replace Sv := Lib.hid (Kd.S_below Sv.out hb)
    replace Sq := Lib.hid (Kd.S_below Sq.out hb)
    replace Sp2 := Lib.hid (Kd.S_below Sp2.out hb)
    replace HN := Lib.hid (below_step HN.out hb)
    clear hb
    go_wp2_with fail
    refine (twoslotref03_Same.calls k Av cv v Av2 cv2 v true _ Cv.out Ev.out Cv2.out Ev2.out Hs2.out).mono ?_
    rintro e_ w15 ⟨rfl, n_, hw_⟩
    have hb : Below (World.heap w14).size w14 w15 := by rw [hw_]; exact pw_below_drewN (Below.refl _ _) n_
    clear hw_
    replace Ca := Lib.hid (Kd.C_below Ca.out hb)
    replace Cb := Lib.hid (Kd.C_below Cb.out hb)
    replace Cx := Lib.hid (Kd.C_below Cx.out hb)
    replace Ct := Lib.hid (Kd.C_below Ct.out hb)
    replace Cp := Lib.hid (Kd.C_below Cp.out hb)
    replace Cv := Lib.hid (Kd.C_below Cv.out hb)
    replace Cq := Lib.hid (Kd.C_below Cq.out hb)
    replace Ct2 := Lib.hid (Kd.C_below Ct2.out hb)
    replace Cp2 := Lib.hid (Kd.C_below Cp2.out hb)
    replace Cv2 := Lib.hid (Kd.C_below Cv2.out hb)
    replace St := Lib.hid (Kd.S_below St.out hb)
    replace Sp := Lib.hid (Kd.S_below Sp.out hb)
    replace Sv := Lib.hid (Kd.S_below Sv.out hb)
    replace Sq := Lib.hid (Kd.S_below Sq.out hb)
    replace Sp2 := Lib.hid (Kd.S_below Sp2.out hb)
    replace HN := Lib.hid (below_step HN.out hb)
    clear hb
    go_wp2_with fail
    refine (matrix_Check.calls k Ax cx l0 ck _ Cx.out Ex.out Ht5.out).mono ?_
    rintro e_ w16 ⟨rfl, n_, hw_⟩
    have hb : Below (World.heap w15).size w15 w16 := by rw [hw_]; exact pw_below_drewN (Below.refl _ _) n_
    clear hw_
    replace Ca := Lib.hid (Kd.C_below Ca.out hb)
    replace Cb := Lib.hid (Kd.C_below Cb.out hb)
    replace Cx := Lib.hid (Kd.C_below Cx.out hb)
    replace Ct := Lib.hid (Kd.C_below Ct.out hb)
    replace Cp := Lib.hid (Kd.C_below Cp.out hb)
    replace Cv := Lib.hid (Kd.C_below Cv.out hb)
    replace Cq := Lib.hid (Kd.C_below Cq.out hb)
    replace Ct2 := Lib.hid (Kd.C_below Ct2.out hb)
    replace Cp2 := Lib.hid (Kd.C_below Cp2.out hb)
    replace Cv2 := Lib.hid (Kd.C_below Cv2.out hb)
    replace St := Lib.hid (Kd.S_below St.out hb)
    replace Sp := Lib.hid (Kd.S_below Sp.out hb)
    replace Sv := Lib.hid (Kd.S_below Sv.out hb)
    replace Sq := Lib.hid (Kd.S_below Sq.out hb)
    replace Sp2 := Lib.hid (Kd.S_below Sp2.out hb)
    replace HN := Lib.hid (below_step HN.out hb)
    clear hb
    go_wp2_with fail
    refine (twoslotref03_Check.calls k Aa ca l0 ck _ Ca.out Ea.out Hu5.out).mono ?_
    rintro e_ w17 ⟨rfl, n_, hw_⟩
    have hb : Below (World.heap w16).size w16 w17 := by rw [hw_]; exact pw_below_drewN (Below.refl _ _) n_
    clear hw_
    replace Ca := Lib.hid (Kd.C_below Ca.out hb)
    replace Cb := Lib.hid (Kd.C_below Cb.out hb)
    replace Cx := Lib.hid (Kd.C_below Cx.out hb)
    replace Ct := Lib.hid (Kd.C_below Ct.out hb)
    replace Cp := Lib.hid (Kd.C_below Cp.out hb)
    replace Cv := Lib.hid (Kd.C_below Cv.out hb)
    replace Cq := Lib.hid (Kd.C_below Cq.out hb)
    replace Ct2 := Lib.hid (Kd.C_below Ct2.out hb)
    replace Cp2 := Lib.hid (Kd.C_below Cp2.out hb)
    replace Cv2 := Lib.hid (Kd.C_below Cv2.out hb)
    replace St := Lib.hid (Kd.S_below St.out hb)
    replace Sp := Lib.hid (Kd.S_below Sp.out hb)
    replace Sv := Lib.hid (Kd.S_below Sv.out hb)
    replace Sq := Lib.hid (Kd.S_below Sq.out hb)
    replace Sp2 := Lib.hid (Kd.S_below Sp2.out hb)
    replace HN := Lib.hid (below_step HN.out hb)
    clear hb
    clear Ca Cb Cx Ct Cp Cv Cq Ct2 Cp2 Cv2
    go_wp2_with fail
    refine (twoslotlaw03_spoil.real _ _ _ t w3 _ HN.out (Nat.le_refl _) St.out Hz0.out).mono ?_
    rintro e_ w18 ⟨rfl, hk_, hb⟩
    replace Sp := Lib.hid (Kd.S_kept Sp.out hk_ (fun k_ ho_ hs_ => by have y1 := Z1.out; have y2 := Z2.out; have y3 := Z3.out; have y4 := Z4.out; have h1 : k_ < w4.heap.size := hs_.2.2; have h2 : w4.heap.size ≤ k_ := ho_.1; omega))
    replace Sv := Lib.hid (Kd.S_kept Sv.out hk_ (fun k_ ho_ hs_ => by have y1 := Z1.out; have y2 := Z2.out; have y3 := Z3.out; have y4 := Z4.out; have h1 : k_ < w4.heap.size := hs_.2.2; have h2 : w6.heap.size ≤ k_ := ho_.1; omega))
    replace Sq := Lib.hid (Kd.S_kept Sq.out hk_ (fun k_ ho_ hs_ => by have y1 := Z1.out; have y2 := Z2.out; have y3 := Z3.out; have y4 := Z4.out; have h1 : k_ < w4.heap.size := hs_.2.2; have h2 : w7.heap.size ≤ k_ := ho_; omega))
    replace Sp2 := Lib.hid (Kd.S_kept Sp2.out hk_ (fun k_ ho_ hs_ => by have y1 := Z1.out; have y2 := Z2.out; have y3 := Z3.out; have y4 := Z4.out; have h1 : k_ < w4.heap.size := hs_.2.2; have h2 : w9.heap.size ≤ k_ := ho_; omega))
    replace HN := Lib.hid hb
    clear hb hk_ St
    go_wp2_with fail
    refine (twoslotlaw03_spoil.real _ _ _ p w3 _ HN.out Zp.out Sp.out Hz1.out).mono ?_
    rintro e_ w19 ⟨rfl, hk_, hb⟩
    replace Sv := Lib.hid (Kd.S_kept Sv.out hk_ (fun k_ ho_ hs_ => by have y1 := Z1.out; have y2 := Z2.out; have y3 := Z3.out; have y4 := Z4.out; have h1 : k_ < w5.heap.size := hs_.2.2; have h2 : w6.heap.size ≤ k_ := ho_.1; omega))
    replace Sq := Lib.hid (Kd.S_kept Sq.out hk_ (fun k_ ho_ hs_ => by have y1 := Z1.out; have y2 := Z2.out; have y3 := Z3.out; have y4 := Z4.out; have h1 : k_ < w5.heap.size := hs_.2.2; have h2 : w7.heap.size ≤ k_ := ho_; omega))
    replace Sp2 := Lib.hid (Kd.S_kept Sp2.out hk_ (fun k_ ho_ hs_ => by have y1 := Z1.out; have y2 := Z2.out; have y3 := Z3.out; have y4 := Z4.out; have h1 : k_ < w5.heap.size := hs_.2.2; have h2 : w9.heap.size ≤ k_ := ho_; omega))
    replace HN := Lib.hid hb
    clear hb hk_ Sp
    go_wp2_with fail
    refine (twoslotlaw03_spoil.real _ _ _ v w3 _ HN.out Zv.out Sv.out Hz2.out).mono ?_
    rintro e_ w20 ⟨rfl, hk_, hb⟩
    replace Sq := Lib.hid (Kd.S_kept Sq.out hk_ (fun k_ ho_ hs_ => by have y1 := Z1.out; have y2 := Z2.out; have y3 := Z3.out; have y4 := Z4.out; have h1 : k_ < w7.heap.size := hs_.2.2; have h2 : w7.heap.size ≤ k_ := ho_; omega))
    replace Sp2 := Lib.hid (Kd.S_kept Sp2.out hk_ (fun k_ ho_ hs_ => by have y1 := Z1.out; have y2 := Z2.out; have y3 := Z3.out; have y4 := Z4.out; have h1 : k_ < w7.heap.size := hs_.2.2; have h2 : w9.heap.size ≤ k_ := ho_; omega))
    replace HN := Lib.hid hb
    clear hb hk_ Sv
    have Cq := Lib.hid (Kd.S_reads' Sq.out).2.2
    have Cp2 := Lib.hid (Kd.S_reads' Sp2.out).2.2
    have Ca := Lib.hid (Kd.C_below Fa.out HN.out)
    have Cx := Lib.hid (Kd.C_below Fx.out HN.out)
    have qe1 : (e1 == e1) = true := beq_self_eq_true e1
    have qe2 : (e2 == e2) = true := beq_self_eq_true e2
    have qe3 : (e3 == e3) = true := beq_self_eq_true e3
    have qe4 : (e4 == e4) = true := beq_self_eq_true e4
    go_wp2_with fail
    refine (twoslotref03_Same.calls k Aq cq p Ap2 cp2 p true _ Cq.out Eq.out Cp2.out Ep2.out Hs1.out).mono ?_
    rintro e_ w21 ⟨rfl, n_, hw_⟩
    have hb : Below (World.heap w20).size w20 w21 := by rw [hw_]; exact pw_below_drewN (Below.refl _ _) n_
    clear hw_
    replace Cq := Lib.hid (Kd.C_below Cq.out hb)
    replace Cp2 := Lib.hid (Kd.C_below Cp2.out hb)
    replace Ca := Lib.hid (Kd.C_below Ca.out hb)
    replace Cx := Lib.hid (Kd.C_below Cx.out hb)
    replace HN := Lib.hid (below_step HN.out hb)
    clear hb
    go_wp2_with fail
    refine (twoslotref03_Same.calls k Ax cx l0 Aa ca l0 true _ Cx.out Ex.out Ca.out Ea.out Hs3.out).mono ?_
    rintro e_ w22 ⟨rfl, n_, hw_⟩
    have hb : Below (World.heap w21).size w21 w22 := by rw [hw_]; exact pw_below_drewN (Below.refl _ _) n_
    clear hw_
    replace Cq := Lib.hid (Kd.C_below Cq.out hb)
    replace Cp2 := Lib.hid (Kd.C_below Cp2.out hb)
    replace Ca := Lib.hid (Kd.C_below Ca.out hb)
    replace Cx := Lib.hid (Kd.C_below Cx.out hb)
    replace HN := Lib.hid (below_step HN.out hb)
    clear hb
    go_wp2_with fail
    go_ret
    exact ⟨rfl, below_step HBW.out HN.out⟩
end Go.Proofs.Ytmeckhfoajfapaa.PT
