-- written by the session's own program (wip/prt.py) over the kit's print: not print.sh's own text
import Derived.Test.YtmmbojeikppinaaPDx0
import Derived.Test.YtmmbojeikppinaaPDx3
import Derived.Test.YtmmbojeikppinaaPDx5
import Derived.Test.YtmmbojeikppinaaPDx6
namespace Go.Proofs.Ytmmbojeikppinaa.PD
open Go.RowKit Go.Proofs.YtmmbojeikppinaaW.PrintWords Go.Proofs.YtmmbojeikppinaaW.PrintLast Go.Proofs.YtmmbojeikppinaaW.PrintMore
attribute [local go_sem] max2_int min2_int max_two min_two max_three min_three max_four min_four   -- for this text's walks alone
set_option linter.unusedVariables false
set_option linter.unusedSimpArgs false

/-! ### twoslotref02_SameAll: function 17 -/
def twoslotref02_SameAll.l0 : Nat → List (List Int) → List (List Int) → Int → Option (Bool)
  | 0, _, _, _ => none
  | k + 1, x0, x1, x5 => if x5 < (x0.length : Int) then (if 0 ≤ x5 then (if x5 < (x1.length : Int) then (if (strOfNums (rd_L1 x0 x5)).toList = (strOfNums (rd_L1 x1 x5)).toList then (twoslotref02_SameAll.l0 k x0 x1 (wrap64 (x5 + 1))) else (some false)) else (none)) else (none)) else (some true)
def twoslotref02_SameAll.f (k : Nat) (l0 : List (List Int)) (l1 : List (List Int)) : Option (Bool) := if (l0.length : Int) = (l1.length : Int) then (twoslotref02_SameAll.l0 k l0 l1 0) else (some false)
theorem twoslotref02_SameAll.mono_l : ∀ k, (∀ y0 y1 y2, LeO (twoslotref02_SameAll.l0 k y0 y1 y2) (twoslotref02_SameAll.l0 (k + 1) y0 y1 y2))
  | 0 => fun _ _ _ r h => by simp [twoslotref02_SameAll.l0] at h
  | k + 1 => by
    have ih0 := twoslotref02_SameAll.mono_l k
    · intro y0 y1 y2
      unfold twoslotref02_SameAll.l0
      repeat' first
      | (with_reducible exact ih0 _ _ _)
      | (with_reducible exact LeO.refl _)
      | (with_reducible exact LeO.none _)
      | (with_reducible refine LeO.ite ?_ ?_)
      | (with_reducible refine LeO.bind ?_ (fun _ => ?_))
      | exact ih0 _ _ _
      | exact LeO.none _
      | refine LeO.ite ?_ ?_
      | refine LeO.bind ?_ (fun _ => ?_)
theorem twoslotref02_SameAll.mono : ∀ a0 a1 k, LeO (twoslotref02_SameAll.f k a0 a1) (twoslotref02_SameAll.f (k + 1) a0 a1) := by
  intro a0 a1 k
  have ih0 := twoslotref02_SameAll.mono_l k
  unfold twoslotref02_SameAll.f
  repeat' first
      | (with_reducible exact ih0 _ _ _)
      | (with_reducible exact LeO.refl _)
      | (with_reducible exact LeO.none _)
      | (with_reducible refine LeO.ite ?_ ?_)
      | (with_reducible refine LeO.bind ?_ (fun _ => ?_))
      | exact ih0 _ _ _
      | exact LeO.none _
      | refine LeO.ite ?_ ?_
      | refine LeO.bind ?_ (fun _ => ?_)
set_option maxHeartbeats 8000000 in
set_option maxRecDepth 100000 in
theorem twoslotref02_SameAll.calls (k : Nat) (A0 : Option Addr) (c0 : Nat) (l0 : List (List Int)) (A1 : Option Addr) (c1 : Nat) (l1 : List (List Int)) (r : Bool) (w : World) (hr0 : Kd.C (Kd.slice 5 (Kd.int .u8)) w A0 l0.length l0) (hc0 : l0.length ≤ c0) (hr1 : Kd.C (Kd.slice 5 (Kd.int .u8)) w A1 l1.length l1) (hc1 : l1.length ≤ c1) (h : twoslotref02_SameAll.f k l0 l1 = some r) :
    Calls Try.prog 17 #[.slice A0 l0.length c0, .slice A1 l1.length c1] w fun e w' => e = .returned (.bool r) ∧ Drawn0 w w' := by
  have HR0 := Aside0.mk hr0
  have HC0 := Aside0.mk hc0
  clear hr0 hc0
  have HR1 := Aside0.mk hr1
  have HC1 := Aside0.mk hc1
  clear hr1 hc1
  have H : (if (l0.length : Int) = (l1.length : Int) then (twoslotref02_SameAll.l0 k l0 l1 0) else (some false)) = some r := h
  clear h
  by_cases c3 : (l0.length : Int) = (l1.length : Int)
  · rw [if_pos c3] at H
    have c3b0 : ((l0.length : Int) == (l1.length : Int)) = true := beq_iff_eq.mpr c3
    have c3b1 : ((l0.length : Int) != (l1.length : Int)) = false := bne_eq_false_iff_eq.mpr c3
    have c3b2 : (l0.length == l1.length) = true := by first | simpa using c3 | (simp at c3 ⊢; omega)
    clear c3
    have H' := Aside0.mk H
    clear H
    go_enter Try.func17, Try.ntmps17
    go_wp2
    repeat (go_quiet (fail); try go_wp2)
    go_loopg [5] k (fun kq v5 w' => ∃ (x5_1 : Int), v5 = .int .i64 x5_1 ∧ Aside0 (twoslotref02_SameAll.l0 kq l0 l1 x5_1 = some r) ∧ Aside0 (kq ≤ k) ∧ Drawn0 w w')
    case atStart => exact ⟨(0), (by first | rfl | (simp; done) | (simp [*]; done)), H', ⟨Nat.le_refl _⟩, by repeat (first | exact Drawn0.refl _ | apply Drawn0.step)⟩
    case round =>
      clear H'
      try clear c1
      try clear p2
      try clear c3
      try clear c3b0
      try clear c3b1
      try clear c3b2
      obtain ⟨x5_1, rfl, HA, HK1, ⟨m1, rfl⟩⟩ := hrel
      cases gk with
      | zero => exact absurd HA.out (by simp [twoslotref02_SameAll.l0])
      | succ k1 =>
        have H := HA.out
        clear HA
        simp only [twoslotref02_SameAll.l0] at H
        by_cases c4 : x5_1 < (l0.length : Int)
        · rw [if_pos c4] at H
          have c4b0 : decide (x5_1 < (l0.length : Int)) = true := decide_eq_true c4
          clear c4
          by_cases c5 : 0 ≤ x5_1
          · rw [if_pos c5] at H
            have c5b0 : decide (0 ≤ x5_1) = true := decide_eq_true c5
            clear c5
            by_cases c6 : x5_1 < (l1.length : Int)
            · rw [if_pos c6] at H
              have c6b0 : decide (x5_1 < (l1.length : Int)) = true := decide_eq_true c6
              clear c6
              by_cases c7 : (strOfNums (rd_L1 l0 x5_1)).toList = (strOfNums (rd_L1 l1 x5_1)).toList
              · rw [if_pos c7] at H
                have c7b0 : ((strOfNums (rd_L1 l0 x5_1)).toList == (strOfNums (rd_L1 l1 x5_1)).toList) = true := beq_iff_eq.mpr c7
                have c7b1 : ((strOfNums (rd_L1 l0 x5_1)).toList != (strOfNums (rd_L1 l1 x5_1)).toList) = false := bne_eq_false_iff_eq.mpr c7
                clear c7
                have H' := Aside0.mk H
                clear H
                have p144 : 0 ≤ (x5_1 : Int) := of_decide_eq_true (by first | (with_reducible assumption) | assumption)
                have q144 : x5_1 < (l0.length : Int) := of_decide_eq_true (by first | (with_reducible assumption) | assumption)
                obtain ⟨ad144, A144_0, c144_0, e144, hx144_0, hl144_0, hi144_0⟩ := at_L1 HR0.out x5_1 p144 q144
                cases e144
                have HR144_0 := Aside0.mk hi144_0
                have HC144_0 := Aside0.mk hl144_0
                clear hi144_0 hl144_0
                replace p144 := eq_true p144
                replace q144 := eq_true q144
                have hcv8 := Kd.C_string (P := Try.prog) (A := A144_0) (c := c144_0) Try.underlying23 Try.underlying5 Try.underlying9 HR144_0.out
                have hcv9 := fun n_ : Nat => Kd.C_string (P := Try.prog) (A := A144_0) (c := c144_0) Try.underlying23 Try.underlying5 Try.underlying9 (Kd.C_drewN (HR144_0.out) n_)
                have p145 : 0 ≤ (x5_1 : Int) := of_decide_eq_true (by first | (with_reducible assumption) | assumption)
                have q145 : x5_1 < (l1.length : Int) := of_decide_eq_true (by first | (with_reducible assumption) | assumption)
                obtain ⟨ad145, A145_0, c145_0, e145, hx145_0, hl145_0, hi145_0⟩ := at_L1 HR1.out x5_1 p145 q145
                cases e145
                have HR145_0 := Aside0.mk hi145_0
                have HC145_0 := Aside0.mk hl145_0
                clear hi145_0 hl145_0
                replace p145 := eq_true p145
                replace q145 := eq_true q145
                have hcv10 := Kd.C_string (P := Try.prog) (A := A145_0) (c := c145_0) Try.underlying23 Try.underlying5 Try.underlying9 HR145_0.out
                have hcv11 := fun n_ : Nat => Kd.C_string (P := Try.prog) (A := A145_0) (c := c145_0) Try.underlying23 Try.underlying5 Try.underlying9 (Kd.C_drewN (HR145_0.out) n_)
                go_wp2
                repeat (go_quiet (fail); try go_wp2)
                go_roundg k1
                case measure => have := HK1.out; omega
                case rel => exact ⟨(wrap64 (x5_1 + 1)), (by first | rfl | (simp; done) | (simp [*]; done)), H', ⟨by have := HK1.out; omega⟩, by repeat (first | exact Drawn0.refl _ | apply Drawn0.step)⟩
              · rw [if_neg c7] at H
                have c7b0 : ((strOfNums (rd_L1 l0 x5_1)).toList == (strOfNums (rd_L1 l1 x5_1)).toList) = false := beq_eq_false_iff_ne.mpr c7
                have c7b1 : ((strOfNums (rd_L1 l0 x5_1)).toList != (strOfNums (rd_L1 l1 x5_1)).toList) = true := bne_iff_ne.mpr c7
                obtain rfl := Option.some.inj H
                have p144 : 0 ≤ (x5_1 : Int) := of_decide_eq_true (by first | (with_reducible assumption) | assumption)
                have q144 : x5_1 < (l0.length : Int) := of_decide_eq_true (by first | (with_reducible assumption) | assumption)
                obtain ⟨ad144, A144_0, c144_0, e144, hx144_0, hl144_0, hi144_0⟩ := at_L1 HR0.out x5_1 p144 q144
                cases e144
                have HR144_0 := Aside0.mk hi144_0
                have HC144_0 := Aside0.mk hl144_0
                clear hi144_0 hl144_0
                replace p144 := eq_true p144
                replace q144 := eq_true q144
                have hcv12 := Kd.C_string (P := Try.prog) (A := A144_0) (c := c144_0) Try.underlying23 Try.underlying5 Try.underlying9 HR144_0.out
                have hcv13 := fun n_ : Nat => Kd.C_string (P := Try.prog) (A := A144_0) (c := c144_0) Try.underlying23 Try.underlying5 Try.underlying9 (Kd.C_drewN (HR144_0.out) n_)
                have p145 : 0 ≤ (x5_1 : Int) := of_decide_eq_true (by first | (with_reducible assumption) | assumption)
                have q145 : x5_1 < (l1.length : Int) := of_decide_eq_true (by first | (with_reducible assumption) | assumption)
                obtain ⟨ad145, A145_0, c145_0, e145, hx145_0, hl145_0, hi145_0⟩ := at_L1 HR1.out x5_1 p145 q145
                cases e145
                have HR145_0 := Aside0.mk hi145_0
                have HC145_0 := Aside0.mk hl145_0
                clear hi145_0 hl145_0
                replace p145 := eq_true p145
                replace q145 := eq_true q145
                have hcv14 := Kd.C_string (P := Try.prog) (A := A145_0) (c := c145_0) Try.underlying23 Try.underlying5 Try.underlying9 HR145_0.out
                have hcv15 := fun n_ : Nat => Kd.C_string (P := Try.prog) (A := A145_0) (c := c145_0) Try.underlying23 Try.underlying5 Try.underlying9 (Kd.C_drewN (HR145_0.out) n_)
                go_wp2
                repeat (go_quiet (fail); try go_wp2)
                go_ret
                exact ⟨by first | rfl | (simp; done) | (simp [*]; done), by repeat (first | exact Drawn0.refl _ | apply Drawn0.step)⟩
            · rw [if_neg c6] at H
              exact absurd H (by simp)
          · rw [if_neg c5] at H
            exact absurd H (by simp)
        · rw [if_neg c4] at H
          have c4b0 : decide (x5_1 < (l0.length : Int)) = false := decide_eq_false c4
          clear c4
          obtain rfl := Option.some.inj H
          go_wp2
          repeat (go_quiet (fail); try go_wp2)
          go_ret
          exact ⟨by first | rfl | (simp; done) | (simp [*]; done), by repeat (first | exact Drawn0.refl _ | apply Drawn0.step)⟩
  · rw [if_neg c3] at H
    have c3b0 : ((l0.length : Int) == (l1.length : Int)) = false := beq_eq_false_iff_ne.mpr c3
    have c3b1 : ((l0.length : Int) != (l1.length : Int)) = true := bne_iff_ne.mpr c3
    have c3b2 : (l0.length == l1.length) = false := by first | simpa using c3 | (simp at c3 ⊢; omega)
    obtain rfl := Option.some.inj H
    go_enter Try.func17, Try.ntmps17
    go_wp2
    repeat (go_quiet (fail); try go_wp2)
    go_ret
    exact ⟨by first | rfl | (simp; done) | (simp [*]; done), by repeat (first | exact Drawn0.refl _ | apply Drawn0.step)⟩

-- NOT PRINTED: function 36 (codec_rows_cells)

/-! ### codec_Encode: function 20 -/
theorem codec_Encode.i2 : (Try.prog.info? 23).map (fun i => (i.zero, i.size, i.bytes)) = some (some (.slice none 0 0), 1, 24) := by kernel_rfl
/-- cells by their rows -/
def codec_Encode.dots (K : Nat) : List (List Int) → List (List Int) → List (List Int) → Option (List (List Int) × Int)
  | [], _, out => some (out, 0)
  | row :: rs, data, out => (kernel_Dot.f K row data).bind fun c => if c.2 ≠ 0 then some ([], c.2) else codec_Encode.dots K rs data (out ++ [c.1])
theorem codec_Encode.dots_mono {K : Nat} : ∀ (rs data out : List (List Int)), LeO (codec_Encode.dots K rs data out) (codec_Encode.dots (K + 1) rs data out)
  | [], _, _ => LeO.refl _
  | _ :: rs, _, _ => LeO.bind (kernel_Dot.mono _ _ _) (fun _ => LeO.ite (LeO.refl _) (codec_Encode.dots_mono rs _ _))
def codec_Encode.f (K : Nat) (a0 a1 : Int) (data : List (List Int)) : Option (List (List Int) × Int) :=
  if codec_Row.bad a0 a1 then some ([], 2) else if codec_Row.inv a0 a1 then (codec_there.f K data a0).bind fun t => if t.2 = false then some ([], 40) else if (t.1.length : Int) < a0 then some ([], 40) else codec_Encode.dots K ((codec_Row.M a0.toNat a1.toNat).drop a0.toNat) data [] else none
theorem codec_Encode.mono : ∀ a0 a1 a2 k, LeO (codec_Encode.f k a0 a1 a2) (codec_Encode.f (k + 1) a0 a1 a2) := fun _ _ _ _ => LeO.ite (LeO.refl _) (LeO.ite (LeO.bind (codec_there.mono _ _ _) (fun _ => LeO.ite (LeO.refl _) (LeO.ite (LeO.refl _) (codec_Encode.dots_mono _ _ _)))) (LeO.refl _))
set_option maxHeartbeats 4000000 in
/-- from row k on -/
theorem codec_Encode.cells (K k r : Nat) (hk : k ≤ 12) (hr : r ≤ 4) (g : Nat) (val : Nat → Value) (A : Option Addr) (c : Nat) (data : List (List Int)) (r1 : List (List Int)) (r2 : Int) (W : World) (hmp : MapIs W g (k + r) (fun i => pk k r i) val) (hv : ∀ i, i < k + r → RowC W (val i) (rw_ (codec_Row.M k r) i))
    (hC : Kd.C (Kd.slice 5 (Kd.int .u8)) W A data.length data) (hc : data.length ≤ c) (h : codec_Encode.dots K ((codec_Row.M k r).drop k) data [] = some (r1, r2)) :
    Calls Try.prog 36 #[.map (some g), .int .i64 k, .int .i64 r, .int .i64 k, .int .i64 ((k : Int) + r), .slice A data.length c] W fun e w' => ∃ v, e = .returned (.tuple #[v, .int .i64 r2]) ∧ Kd.S (Kd.slice 5 (Kd.int .u8)) 23 w' W.heap.size (fun _ => True) v r1 ∧ Below W.heap.size W w' := by
  have H := Lib.hid h
  have HMP := Lib.hid hmp
  have HV := Lib.hid hv
  have HC := Lib.hid hC
  have HCL := Lib.hid hc
  have HK := Lib.hid hk
  have HR := Lib.hid hr
  have HB := Lib.hid (Below.refl W.heap.size W)
  clear h hmp hv hC hc hk hr
  go_enter Try.func36, Try.ntmps36
  go_wp2_with fail
  go_loopg [14, 15, 16, 17] r (fun gk s14 s15 s16 s17 wx => ∃ (i : Nat) (out : List (List Int)), i + gk = r ∧ s15 = .int .i64 ((k : Int) + i) ∧ Hid (out.length = i) ∧ Hid (codec_Encode.dots K ((codec_Row.M k r).drop (k + i)) data out = some (r1, r2)) ∧ Hid (Kd.S (Kd.slice 5 (Kd.int .u8)) 23 wx W.heap.size (fun _ => True) s14 out) ∧ Hid (Below W.heap.size W wx))
  case atStart => exact ⟨0, [], by omega, by simp, Lib.hid rfl, H, Lib.hid (Kd.S_nil _ _ _ _ _), HB⟩
  case round =>
    clear H HB
    obtain ⟨i, out, hig, rfl, HOL, H, HS, HB⟩ := hrel
    cases gk with
    | zero =>
      obtain rfl : i = r := by omega
      have h := H.out
      rw [List.drop_of_length_le (by rw [codec_Row.M_len]; exact Nat.le_refl _), codec_Encode.dots] at h
      injection h with h; injection h with ha hc; subst ha hc
      have hd : decide ((k : Int) + (i : Int) < (k : Int) + (i : Int)) = false := decide_eq_false (Int.lt_irrefl _)
      clear H hig
      go_wp2_with fail
      go_ret2
      exact ⟨_, rfl, HS.out, HB.out⟩
    | succ d =>
      have hlt : (k : Int) + (i : Int) < (k : Int) + (r : Int) := by omega
      have hin : k + i < (codec_Row.M k r).length := by rw [codec_Row.M_len]; omega
      have h := H.out
      rw [List.drop_eq_getElem_cons hin, codec_Encode.dots] at h
      have hrow : (codec_Row.M k r)[k + i] = rw_ (codec_Row.M k r) (k + i) := by simp [rw_, hin]
      rw [hrow] at h
      obtain ⟨⟨y, ye⟩, hdot, h⟩ := Option.bind_eq_some_iff.mp h
      obtain ⟨Ar, cr, hval, hcr, hCr⟩ := HV.out (k + i) (by omega)
      have HD := Lib.hid hdot
      have H2 := Lib.hid h
      have HCR := Lib.hid (Kd.C_below hCr HB.out)
      have HCRL := Lib.hid hcr
      have hlook : (Instr.lookup 53 (.map (some g)) (.agg #[.int .i64 (k : Int), .int .i64 (r : Int), .int .i64 ((k : Int) + (i : Int))]) false).run Try.prog wr = .ok (.slice Ar (rw_ (codec_Row.M k r) (k + i)).length cr) wr := by
        have hkey := fun q (hq : q < k + r) => codec_Row.keys (n := 0) (i := q) HK.out HR.out (by have := HK.out; have := HR.out; omega)
        have e1 : ((k + i : Nat) : Int) = (k : Int) + (i : Int) := by omega
        rcases (HMP.out.below HB.out).look hkey (.slice none 0 0) (codec_Row.zero wr) false (hkey (k + i) (by omega)) with ⟨j, hj, hx, hl⟩ | ⟨hno, -⟩
        · have := pk_inj hx
          obtain rfl : k + i = j := by omega
          simp only [pk, e1, Bool.false_eq_true, if_false, hval] at hl
          exact hl
        · exact absurd rfl (hno (k + i) (by omega))
      have HIN := Lib.hid hin
      clear h hdot hrow H hval hcr hCr hin
      go_wp2_with fail
      refine (kernel_Dot.calls K Ar cr (rw_ (codec_Row.M k r) (k + i)) A c data y ye _ HCR.out HCRL.out (Kd.C_below HC.out HB.out) HCL.out HD.out).mono ?_
      rintro e w1 ⟨v1, rfl, ho, hb⟩
      have HY := Lib.hid ho
      have HB1 := Lib.hid (below_step HB.out hb)
      have HW := Lib.hid hb
      clear ho hb hlook HCR HCRL HD
      by_cases h0 : ye = 0
      case neg =>
        have h := H2.out
        try dsimp only at h
        rw [if_pos h0] at h
        injection h with h; injection h with ha hc; subst ha hc
        have e1 : (ye != 0) = true := bne_iff_ne.mpr h0
        clear h0 H2
        go_wp2_with fail
        go_ret2
        exact ⟨_, rfl, Kd.S_nil _ _ _ _ _, HB1.out⟩
      subst h0
      have h := H2.out
      try dsimp only at h
      rw [if_neg (fun z => z rfl)] at h
      have HN := Lib.hid (show codec_Encode.dots K ((codec_Row.M k r).drop (k + (i + 1))) data (out ++ [y]) = some (r1, r2) from h)
      obtain ⟨Ay, cy, rfl⟩ := Kd.R_slice HY.out
      have hw : wrap64 ((k : Int) + (i : Int) + 1) = (k : Int) + ((i + 1 : Nat) : Int) := by have := HK.out; have := HR.out; unfold wrap64; omega
      have HWR := Lib.hid hw
      have HOLD := Lib.hid (Kd.S_mono (Kd.S_old HS.out HW.out) (ok' := fun k_ => True ∧ ¬ wr.heap.size ≤ k_) (fun k_ hk_ => ⟨trivial, by have := hk_.2; omega⟩))
      have HLT := Lib.hid (Kd.S_lt HS.out)
      have HYM := Lib.hid (Kd.M_row (Kd.R_lower (Kd.R_mono (Kd.R_bound HY.out) (ok' := fun k_ => wr.heap.size ≤ k_) (fun k_ hk_ => hk_.2.1)) HB.out.size))
      have HRB := Lib.hid (show r ≤ 4 from HR.out)
      clear h H2 hw HS HY HW
      go_wp2_with ((with_reducible refine gate_builtin (b := .append) (xs := #[.tmp 38, .tmp 40]) rfl ?_); at_builtin; refine Kd.S_append (Kd.slice 5 (Kd.int .u8)) (w0 := W) W.heap.size rfl (.tmp 38) (.tmp 40) 27 23 (.slice none 0 0) 24 rfl Try.underlying27 codec_Encode.i2 rfl (by decide) (by omega) _ out y [.slice Ay y.length cy] (fun _ => True) (fun k_ => wr.heap.size ≤ k_) rfl rfl HYM.out (fun k_ hk_ => ⟨trivial, fun e_ => by have := HLT.out k_ e_.symm; omega⟩) (fun _ _ => trivial) HOLD.out HB1.out HB1.out.size (by have := HOL.out; have := HRB.out; omega) ?_; intro v5 w5 ho hb hg hat; have HS := Lib.hid ho; have HB := Lib.hid hb; clear ho hb hg hat)
      go_roundg d
      case measure => omega
      case rel => exact ⟨i + 1, out ++ [y], by omega, by first | rw [HWR.out] | (simp [Int.add_assoc]; done), Lib.hid (by rw [List.length_append, HOL.out]; rfl), HN, HS, HB⟩
theorem codec_Encode.calls (k : Nat) (a0 a1 : Int) (A2 : Option Addr) (c2 : Nat) (l2 : List (List Int)) (r1 : List (List Int)) (r2 : Int) (w : World) (hr2 : Kd.C (Kd.slice 5 (Kd.int .u8)) w A2 l2.length l2) (hc2 : l2.length ≤ c2) (h : codec_Encode.f k a0 a1 l2 = some (r1, r2)) :
    Calls Try.prog 20 #[.int .i64 a0, .int .i64 a1, .slice A2 l2.length c2] w fun e w' => ∃ v0_ : Value, e = .returned (.tuple #[v0_, .int .i64 r2]) ∧ Kd.S (Kd.slice 5 (Kd.int .u8)) 23 w' w.heap.size (fun _ => True) v0_ r1 ∧ Below w.heap.size w w' := by
  unfold codec_Encode.f at h
  have HR2 := Lib.hid hr2
  have HC2 := Lib.hid hc2
  clear hr2 hc2
  by_cases hbad : codec_Row.bad a0 a1
  case pos =>
    rw [if_pos hbad] at h
    injection h with h; injection h with ha hc; subst ha hc
    have HBAD := Lib.hid hbad
    clear hbad
    go_enter Try.func20, Try.ntmps20
    go_wp2_with fail
    refine (codec_Row.bad1 a0 a1 HBAD.out _).mono ?_
    rintro e w1 ⟨rfl, rfl⟩
    have heq := map_eql_nil none w
    go_wp2_with fail
    go_ret2
    exact ⟨_, rfl, Kd.S_nil _ _ _ _ _, Below.refl _ _⟩
  rw [if_neg hbad] at h
  by_cases hinv : codec_Row.inv a0 a1
  case neg => rw [if_neg hinv] at h; cases h
  rw [if_pos hinv] at h
  unfold codec_Row.bad at hbad
  obtain ⟨n, rfl⟩ := Int.eq_ofNat_of_zero_le (show 0 ≤ a0 by omega)
  obtain ⟨m, rfl⟩ := Int.eq_ofNat_of_zero_le (show 0 ≤ a1 by omega)
  simp only [Int.toNat_natCast] at h
  have hk0 : 1 ≤ n := by omega
  have hk : n ≤ 12 := by omega
  have hr : m ≤ 4 := by omega
  obtain ⟨⟨tl, tb⟩, hth, h⟩ := Option.bind_eq_some_iff.mp h
  have HI := Lib.hid hinv
  have HK0 := Lib.hid hk0
  have HK := Lib.hid hk
  have HR := Lib.hid hr
  have HTH := Lib.hid hth
  have H := Lib.hid h
  clear hbad hinv hk0 hk hr hth h
  go_enter Try.func20, Try.ntmps20
  go_wp2_with fail
  refine (codec_Row.made n m HK0.out HK.out HR.out HI.out _).mono ?_
  rintro e w1 ⟨g, val, rfl, hmp, hrow, hb⟩
  have heq := map_eql_nil (some g) w1
  have HB := Lib.hid hb
  have HMP := Lib.hid hmp
  have HRW := Lib.hid (fun i (hi : i < n + m) => RowC.of_R (hrow i hi))
  clear hmp hrow hb
  go_wp2_with fail
  refine (codec_there.calls k A2 c2 l2 (n : Int) tl tb _ (Kd.C_below HR2.out HB.out) HC2.out HTH.out).mono ?_
  rintro e w2 ⟨v2, rfl, ho, hb⟩
  obtain ⟨At, ct, rfl⟩ := Kd.R_slice ho
  replace HMP := Lib.hid (HMP.out.below hb)
  replace HRW := Lib.hid (fun i (hi : i < n + m) => (HRW.out i hi).below hb)
  replace HB := Lib.hid (below_step HB.out hb)
  clear ho hb HTH heq
  have h := H.out
  try dsimp only at h
  cases tb with
  | false =>
    rw [if_pos rfl] at h
    injection h with h; injection h with ha hc; subst ha hc
    clear H
    go_wp2_with fail
    go_ret2
    exact ⟨_, rfl, Kd.S_nil _ _ _ _ _, HB.out⟩
  | true =>
    rw [if_neg (by decide)] at h
    by_cases hlt : (tl.length : Int) < (n : Int)
    case pos =>
      rw [if_pos hlt] at h
      injection h with h; injection h with ha hc; subst ha hc
      have hd : decide ((tl.length : Int) < (n : Int)) = true := decide_eq_true hlt
      clear H
      go_wp2_with fail
      go_ret2
      exact ⟨_, rfl, Kd.S_nil _ _ _ _ _, HB.out⟩
    rw [if_neg hlt] at h
    have hd : decide ((tl.length : Int) < (n : Int)) = false := decide_eq_false hlt
    have HD := Lib.hid h
    have hb1 : (n : Int) ≤ 12 := by have := HK.out; omega
    have hb2 : (m : Int) ≤ 4 := by have := HR.out; omega
    clear H h
    go_wp2_with fail
    refine (codec_Encode.cells k n m HK.out HR.out g val A2 c2 l2 r1 r2 _ HMP.out HRW.out (Kd.C_below HR2.out HB.out) HC2.out HD.out).mono ?_
    rintro e w3 ⟨v3, rfl, ho, hb⟩
    have HO := Lib.hid (Kd.S_lower ho HB.out.size)
    have HB3 := Lib.hid (below_step HB.out hb)
    clear ho hb
    go_wp2_with fail
    go_ret2
    exact ⟨_, rfl, HO.out, HB3.out⟩

end Go.Proofs.Ytmmbojeikppinaa.PD
