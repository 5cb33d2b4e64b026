-- written by the session's own program (wip/prt.py) over the kit's print: not print.sh's own text
import Derived.Test.YtmmbojeikppinaaPAx0
import Derived.Test.YtmmbojeikppinaaPAx1
namespace Go.Proofs.Ytmmbojeikppinaa.PA
open Go.RowKit Go.Proofs.YtmmbojeikppinaaW.PrintWords Go.Proofs.YtmmbojeikppinaaW.PrintLast Go.Proofs.YtmmbojeikppinaaW.PrintMore
attribute [local go_sem] max2_int min2_int max_two min_two max_three min_three max_four min_four   -- for this text's walks alone
set_option linter.unusedVariables false
set_option linter.unusedSimpArgs false

/-! ### kernel_add: function 43 -/
def kernel_add.tab (k : Nat) (c : Int) : Nat → Option (List Int)
  | 0 => some []
  | n + 1 => (kernel_add.tab k c n).bind fun t => (gf_Mul.f k c n).bind fun m => some (t ++ [m])
def kernel_add.f (k : Nat) (l0 : List Int) (c : Int) (l2 : List Int) : Option (List Int) := (kernel_add.tab k c 256).bind fun T => if l0.length ≤ l2.length ∧ ∀ x ∈ l2, 0 ≤ x ∧ x < 256 then some (List.zipWith (fun x y => Go.bits .xor .u8 x (rd T y)) l0 l2) else none
theorem kernel_add.tab_mono (c : Int) : ∀ n k, LeO (kernel_add.tab k c n) (kernel_add.tab (k + 1) c n)
  | 0, _ => LeO.refl _
  | n + 1, k => LeO.bind (kernel_add.tab_mono c n k) (fun _ => LeO.bind (gf_Mul.mono _ _ _) (fun _ => LeO.refl _))
theorem kernel_add.mono : ∀ a0 a1 a2 k, LeO (kernel_add.f k a0 a1 a2) (kernel_add.f (k + 1) a0 a1 a2) := fun _ a1 _ k => LeO.bind (kernel_add.tab_mono a1 256 k) (fun _ => LeO.refl _)
theorem kernel_add.tab_some {k : Nat} {c : Int} : ∀ {n : Nat} {t : List Int}, kernel_add.tab k c n = some t → t.length = n ∧ ∀ i : Nat, i < n → gf_Mul.f k c i = some (rd t i)
  | 0, t, h => by
    injection h with h; subst h
    exact ⟨rfl, fun i hi => by omega⟩
  | n + 1, t, h => by
    obtain ⟨t', h1, h⟩ := Option.bind_eq_some_iff.mp h
    obtain ⟨m, h2, h⟩ := Option.bind_eq_some_iff.mp h
    injection h with h; subst h
    obtain ⟨hl, hi⟩ := kernel_add.tab_some h1
    refine ⟨by simp [hl], fun i hlt => ?_⟩
    by_cases e : i = n
    · subst e
      rw [h2]; congr 1
      unfold rd; simp [List.getD, ← hl]
    · rw [hi i (by omega)]; congr 1
      unfold rd; simp only [Int.toNat_natCast, List.getD_eq_getElem?_getD]
      rw [List.getElem?_append_left (by omega)]
def kernel_add.tc (T : List Int) : Nat → Array Value
  | 0 => Array.replicate 256 (.int .u8 0)
  | n + 1 => (kernel_add.tc T n).setIfInBounds n (.int .u8 (rd T n))
theorem kernel_add.tc_size (T : List Int) (n : Nat) : (kernel_add.tc T n).size = 256 := by induction n with | zero => simp [kernel_add.tc] | succ n ih => simp [kernel_add.tc, ih]
theorem kernel_add.tc_at (T : List Int) (n i : Nat) (h : i < 256) : (kernel_add.tc T n)[i]? = some (.int .u8 (if i < n then rd T i else 0)) := by
  induction n with
  | zero => simp [kernel_add.tc, h]
  | succ n ih =>
    by_cases e : n = i
    · subst e; simp [kernel_add.tc, kernel_add.tc_size, h]
    · rw [kernel_add.tc, Array.getElem?_setIfInBounds_ne (by exact e), ih]
      congr 2
      by_cases h2 : i < n
      · rw [if_pos h2, if_pos (by omega)]
      · rw [if_neg h2, if_neg (by omega)]
def kernel_add.mid (T l0 l2 : List Int) (n : Nat) : List Int := (List.zipWith (fun x y => Go.bits .xor .u8 x (rd T y)) l0 l2).take n ++ l0.drop n
theorem kernel_add.mid_len {T l0 l2 : List Int} (h : l0.length ≤ l2.length) {n : Nat} (hn : n ≤ l0.length) : (kernel_add.mid T l0 l2 n).length = l0.length := by
  unfold kernel_add.mid; simp; omega
theorem kernel_add.mid_at {T l0 l2 : List Int} (h : l0.length ≤ l2.length) {n : Nat} (hn : n < l0.length) : rd (kernel_add.mid T l0 l2 n) n = rd l0 n := by
  have hz : (List.take n (List.zipWith (fun x y => Go.bits .xor .u8 x (rd T y)) l0 l2)).length = n := by simp; omega
  unfold kernel_add.mid
  generalize List.take n (List.zipWith (fun x y => Go.bits .xor .u8 x (rd T y)) l0 l2) = z at hz ⊢
  unfold rd; simp only [Int.toNat_natCast, List.getD_eq_getElem?_getD]
  rw [List.getElem?_append_right (by omega), hz]; simp
theorem kernel_add.mid_set {T l0 l2 : List Int} (h : l0.length ≤ l2.length) {n : Nat} (hn : n < l0.length) : (kernel_add.mid T l0 l2 n).set n (Go.bits .xor .u8 (rd l0 n) (rd T (rd l2 n))) = kernel_add.mid T l0 l2 (n + 1) := by
  unfold kernel_add.mid
  have hz : (List.zipWith (fun x y => Go.bits .xor .u8 x (rd T y)) l0 l2).length = l0.length := by simp; omega
  have ht : (List.take n (List.zipWith (fun x y => Go.bits .xor .u8 x (rd T y)) l0 l2)).length = n := by rw [List.length_take, hz]; omega
  rw [List.set_append_right _ _ (by omega), ht, Nat.sub_self, List.drop_eq_getElem_cons hn, List.set_cons_zero, List.take_succ_eq_append_getElem (by omega), List.append_assoc]
  congr 2
  rw [List.getElem_zipWith]
  have e1 : rd l0 n = l0[n] := by simp [rd, hn]
  have e2 : rd l2 n = l2[n]'(by omega) := by simp [rd, show n < l2.length by omega]
  rw [e1, e2]
theorem kernel_add.mid_end {T l0 l2 : List Int} (h : l0.length ≤ l2.length) : kernel_add.mid T l0 l2 l0.length = List.zipWith (fun x y => Go.bits .xor .u8 x (rd T y)) l0 l2 := by
  unfold kernel_add.mid
  rw [List.drop_length, List.append_nil, List.take_of_length_le]; simp; omega
theorem kernel_add.zero (w : World) : (zeroValue 73).run Try.prog w = .ok (.agg (Array.replicate 256 (.int .u8 0))) w := (zero_of_info (v := .agg (Array.replicate 256 (.int .u8 0))) (n := 256) (by kernel_rfl)).1 w
theorem kernel_add.gfAdd (x y : Int) (w : World) : Calls Try.prog 52 #[.int .u8 x, .int .u8 y] w fun e w' => e = .returned (.int .u8 (Go.bits .xor .u8 x y)) ∧ w' = w := by
  go_enter Try.func52, Try.ntmps52
  go_wp2
  go_ret
  exact ⟨rfl, rfl⟩
set_option maxHeartbeats 8000000 in
set_option maxRecDepth 100000 in
theorem kernel_add.calls (k : Nat) (P0_ : Nat → Prop) (u9000_ : Value) (l0 : List Int) (a1 : Int) (A2 : Option Addr) (c2 : Nat) (l2 : List Int) (r : List Int) (w0 w : World) (hB : Below w0.heap.size w0 w) (ho0 : Kd.R (Kd.int .u8) 5 w w0.heap.size P0_ u9000_ l0) (hr2 : ∀ W_, Kept w W_ (fun k_ => P0_ k_) → Kd.C (Kd.int .u8) W_ A2 l2.length l2) (hc2 : l2.length ≤ c2) (h : kernel_add.f k l0 a1 l2 = some r) :
    Calls Try.prog 43 #[u9000_, .int .u8 a1, .slice A2 l2.length c2] w fun e w' => e = .returned (.tuple #[]) ∧ Kd.R (Kd.int .u8) 5 w' w0.heap.size (fun k_ => (P0_ k_ ∨ w.heap.size ≤ k_)) u9000_ r ∧ Below w0.heap.size w0 w' ∧ Kept w w' (fun k_ => P0_ k_) := by
  unfold kernel_add.f at h
  obtain ⟨T, hT, h⟩ := Option.bind_eq_some_iff.mp h
  by_cases hl : l0.length ≤ l2.length ∧ ∀ x ∈ l2, 0 ≤ x ∧ x < 256
  case neg => rw [if_neg hl] at h; cases h
  rw [if_pos hl] at h
  injection h with h
  subst h
  have HT := Lib.hid (kernel_add.tab_some hT)
  have HLEN := Lib.hid hl.1
  have HBY := Lib.hid hl.2
  obtain ⟨A0, c0, rfl⟩ := Kd.R_slice ho0
  have HO := Lib.hid ho0
  have HR2 := Lib.hid hr2
  have HB0 := Lib.hid hB
  have hz := kernel_add.zero
  have hfin := (Kd.R_reads' ho0).2.2.2.1
  clear h hl hT ho0 hr2 hB hc2
  go_enter Try.func43, Try.ntmps43
  go_wp2
  clear hz
  go_loopg [9] 256 (fun g s9 wx => ∃ n : Nat, n + g = 256 ∧ s9 = .int .i64 n ∧ Aside0 (wx.heap[w.heap.size]? = some (.cells (kernel_add.tc T n) 73 (0, 0))) ∧ Aside0 (Below w.heap.size w wx))
  case atStart => exact ⟨0, by omega, rfl, ⟨blk_new w _⟩, ⟨below_alloc (Below.refl _ _) _⟩⟩
  case round =>
    obtain ⟨n, hng, rfl, HX, HW⟩ := hrel
    cases gk with
    | succ g =>
      have hn : (n : Int) < 256 := by omega
      have HM := Lib.hid (HT.out.2 n (by omega))
      go_wp2_with fail
      ((with_reducible refine (gf_Mul.calls k a1 (n : Int) (rd T n) _ HM.out).mono ?_); rintro e w' ⟨rfl, ⟨nd, rfl⟩⟩)
      have hc1 : wr.cell? ⟨w.heap.size, n, none⟩ = some (.int .u8 (if n < n then rd T n else 0)) := (blk_cell HX.out n).trans (kernel_add.tc_at T n n (by omega))
      have hf1 := blk_frozen HX.out n
      go_wp2_with fail
      go_roundg g
      case measure => omega
      case rel => exact ⟨n + 1, by omega, by go_num, ⟨blk_set (blk_drewN HX.out nd) n _⟩, ⟨below_set (pw_below_drewN HW.out nd) (Nat.le_refl _)⟩⟩
    | zero =>
      obtain rfl : n = 256 := by omega
      have HO1 := Lib.hid (Kd.R_below HO.out HW.out)
      have HB1 := Lib.hid (below_then HB0.out HB0.out.size HW.out)
      have HK1 := Lib.hid (Kept.of_below HW.out (fun k_ => P0_ k_))
      clear HO HB0 HW
      go_wp2_with fail
      go_loopg [21] l0.length (fun g s21 wx => ∃ n : Nat, n + g = l0.length ∧ s21 = .int .i64 n ∧ Aside0 (wx.heap[w.heap.size]? = some (.cells (kernel_add.tc T 256) 73 (0, 0))) ∧ Aside0 (Kd.R (Kd.int .u8) 5 wx w0.heap.size P0_ (.slice A0 l0.length c0) (kernel_add.mid T l0 l2 n)) ∧ Aside0 (Below w0.heap.size w0 wx) ∧ Aside0 (Kept w wx (fun k_ => P0_ k_)))
      case atStart => exact ⟨0, by omega, rfl, HX, ⟨by unfold kernel_add.mid; simpa using HO1.out⟩, ⟨HB1.out⟩, ⟨HK1.out⟩⟩
      case round =>
        clear HX HO1 HB1 HK1
        rename_i wz
        obtain ⟨n, hng, rfl, HX, HO, HB, HK⟩ := hrel
        cases gk with
        | succ g =>
          have hn : (n : Int) < (l0.length : Int) := by omega
          have hn2 : (n : Int) < (l2.length : Int) := by have := HLEN.out; omega
          have hbn := HBY.out (rd l2 n) (by unfold rd; simp only [Int.toNat_natCast, List.getD_eq_getElem?_getD]; rw [List.getElem?_eq_getElem (by omega)]; exact List.getElem_mem _)
          obtain ⟨hb0, hb1⟩ := hbn
          obtain ⟨ga, ca, ea, hga, hgl, cells, hgc⟩ := Kd.R_form HO.out (by rw [kernel_add.mid_len HLEN.out (by omega)]; omega)
          (injection ea with ea1 ea2 ea3)
          subst ea1 ea3
          have hne : ga ≠ w.heap.size := fun e => by
            subst e; rw [HX.out] at hgc; injection hgc with hgc; injection hgc with _ hgc; exact absurd hgc (by decide)
          obtain ⟨hxa, hfa⟩ := Kd.R_celln 0 HO.out (n : Int) (by omega) (by omega)
          obtain ⟨ad, rfl, hxb⟩ := Kd.at_int (Kd.C_kept_now HR2.out HK.out) (n : Int) (by omega) hn2
          have hxt : wr.cell? ⟨w.heap.size, (rd l2 n).toNat, none⟩ = some (.int .u8 (rd T (rd l2 n))) := by
            rw [blk_cell HX.out, kernel_add.tc_at T 256 _ (by omega), if_pos (by omega), Int.toNat_of_nonneg hb0]
          have ema : rdOf 0 (kernel_add.mid T l0 l2 n) (n : Int) = rd l0 n := kernel_add.mid_at HLEN.out (by omega)
          rw [ema] at hxa
          have HP := Kd.R_putg HO.out (n : Int) (Go.bits .xor .u8 (rd l0 n) (rd T (rd l2 n)))
          simp only [Int.toNat_natCast] at HP hxa hfa hxb
          rw [kernel_add.mid_set HLEN.out (by omega)] at HP
          have HP2 := Lib.hid HP
          clear ema hgc HP ea2
          replace hne := Lib.hid hne
          go_wp2_with fail
          go_still_tail 14, (by kernel_rfl)
          still_call (kernel_add.gfAdd _ _ _)
          repeat still_step
          refine wpStill_nil ?_
          change wpList _ _ _ _ _ wr.drew
          have hxa2 : (wr.drew).cell? ⟨ga, n, none⟩ = some (.int .u8 (rd l0 ↑n)) := hxa
          have hfa2 : (wr.drew).frozen? ⟨ga, n, none⟩ = false := hfa
          clear hxa hfa hxb hxt
          go_wp2_with fail
          go_roundg g
          case measure => omega
          case rel => exact ⟨n + 1, by omega, by go_num, ⟨blk_far HX.out (p := ⟨ga, n, none⟩) (fun e => hne.out e.symm) _⟩, ⟨Kd.R_drew HP2.out.1⟩, ⟨below_drew1 (below_set HB.out hga)⟩, ⟨Kept.drew (Kept.setCell HK.out (.inl (HO.out.1 ga rfl)) _)⟩⟩
        | zero =>
          obtain rfl : n = l0.length := by omega
          go_wp2_with fail
          go_end0
          exact ⟨rfl, by rw [← kernel_add.mid_end HLEN.out]; exact Kd.R_mono HO.out (fun _ h => .inl h), HB.out, HK.out⟩

end Go.Proofs.Ytmmbojeikppinaa.PA
