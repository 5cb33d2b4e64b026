/- The tables of gf: gf.table, gf.Log, gf.Pow by contracts: each comes to a plain function of its arguments. No condition but that a byte is one. -/
import Derived.Test.YthhncoogmncdkaaProg
import Derived.Test.YthhncoogmncdkaaKit
import Derived.Test.YthhncoogmncdkaaWWords
import Derived.WalkKit
import Derived.KernelRfl
import Derived.Below
import Derived.Deep.LoopGhost
import Derived.Deep.WholeRow
import Derived.Laws.NewBlocks
import Derived.Laws.ResultCell
import Derived.Lib.Hide
import Derived.Laws.BitsAllLaws
import Derived.Deep.Quiet
import Derived.BigQuiet
namespace Go.Proofs.Ythhncoogmncdkaa
open Go Go.RowKit Go.Proofs.YthhncoogmncdkaaW.PrintWords
def twI (a : Int) : Int := Go.bits .xor .u8 ((a * 2) % 256) (Go.bits .and .u8 29 ((-(a / 128)) % 256))
theorem tw_fin : ∀ a : Fin 256, 0 ≤ twI a.val ∧ twI a.val < 256 := by decide +kernel
theorem tw_rng {a : Int} (h0 : 0 ≤ a) (h1 : a < 256) : 0 ≤ twI a ∧ twI a < 256 := by
  obtain ⟨n, rfl⟩ := Int.eq_ofNat_of_zero_le h0
  exact tw_fin ⟨n, by omega⟩
def pwI : Nat → Int
  | 0 => 1
  | n + 1 => twI (pwI n)
theorem pw_rng (n : Nat) : 0 ≤ pwI n ∧ pwI n < 256 := by
  induction n with
  | zero => exact ⟨by decide, by decide⟩
  | succ n ih => exact tw_rng ih.1 ih.2
def pcells : Nat → Array Value
  | 0 => Array.replicate 256 (.int .u8 0)
  | n + 1 => (pcells n).setIfInBounds n (.int .u8 (pwI n))
def wcells : Nat → Array Value
  | 0 => Array.replicate 256 (.int .u8 0)
  | n + 1 => (wcells n).setIfInBounds (pwI n).toNat (.int .u8 n)
theorem pcells_size (n : Nat) : (pcells n).size = 256 := by induction n with | zero => simp [pcells] | succ n ih => simp [pcells, ih]
theorem wcells_size (n : Nat) : (wcells n).size = 256 := by induction n with | zero => simp [wcells] | succ n ih => simp [wcells, ih]
theorem pcells_int (n i : Nat) (h : i < 256) : ∃ x : Int, (pcells n)[i]? = some (.int .u8 x) ∧ 0 ≤ x ∧ x < 256 := by
  induction n with
  | zero => exact ⟨0, by simp [pcells, h], by omega, by omega⟩
  | succ n ih =>
    obtain ⟨x, hx, hx0, hx1⟩ := ih
    by_cases e : n = i
    · subst e; exact ⟨pwI n, by simp [pcells, pcells_size, h], (pw_rng n).1, (pw_rng n).2⟩
    · exact ⟨x, by simp [pcells, e, hx, Array.getElem?_setIfInBounds_ne], by omega, by omega⟩
theorem wcells_int (n i : Nat) (h : i < 256) : ∃ x : Int, (wcells n)[i]? = some (.int .u8 x) ∧ 0 ≤ x ∧ x ≤ n := by
  induction n with
  | zero => exact ⟨0, by simp [wcells, h], by omega, by omega⟩
  | succ n ih =>
    obtain ⟨x, hx, hx0, hx1⟩ := ih
    by_cases e : (pwI n).toNat = i
    · subst e; exact ⟨n, by simp [wcells, wcells_size, h], by omega, by omega⟩
    · exact ⟨x, by simp [wcells, e, hx, Array.getElem?_setIfInBounds_ne], by omega, by omega⟩
theorem twice_calls (a : Int) (w : World) : Calls Try.prog 61 #[.int .u8 a] w fun e w' => e = .returned (.int .u8 (twI a)) ∧ w' = w := by
  go_enter Try.func61, Try.ntmps61
  go_wp2
  go_ret
  exact ⟨rfl, rfl⟩
theorem t_z : ∀ w, (zeroValue 72).run Try.prog w = .ok (.agg (Array.replicate 256 (.int .u8 0))) w := by
  exact (zero_of_info (v := .agg (Array.replicate 256 (.int .u8 0))) (n := 256) (by kernel_rfl)).1
theorem t_i : (Try.prog.info? 72).map (·.size) = some 256 := by
  exact (zero_of_info (v := .agg (Array.replicate 256 (.int .u8 0))) (n := 256) (by kernel_rfl)).2
theorem pcells_one (n : Nat) : (pcells n).all (·.oneCell') = true := by
  rw [Array.all_eq_true]
  intro i hi
  obtain ⟨x, hx, _, _⟩ := pcells_int n i (by rw [pcells_size] at hi; exact hi)
  rw [Array.getElem?_eq_getElem hi] at hx
  injection hx with hx
  rw [hx]; rfl
theorem wcells_one (n : Nat) : (wcells n).all (·.oneCell') = true := by
  rw [Array.all_eq_true]
  intro i hi
  obtain ⟨x, hx, _, _⟩ := wcells_int n i (by rw [wcells_size] at hi; exact hi)
  rw [Array.getElem?_eq_getElem hi] at hx
  injection hx with hx
  rw [hx]; rfl
set_option maxHeartbeats 4000000 in
set_option maxRecDepth 1000000 in
theorem table_calls (w : World) : Calls Try.prog 63 #[] w fun e w' => e = .returned (.tuple #[.agg (pcells 255), .agg (wcells 255)]) ∧ ∃ n, w' = ((w.alloc (.cells (pcells 255) 72)).alloc (.cells (wcells 255) 72)).drewN n := by
  have hz := t_z
  go_enter Try.func63, Try.ntmps63
  go_wp2
  clear hz
  go_loopg [2, 4] 255 (fun g s2 s4 wx => ∃ n : Nat, n + g = 255 ∧ s4 = .int .i64 n ∧ s2 = .int .u8 (pwI n) ∧ wx = (w.alloc (.cells (pcells n) 72)).alloc (.cells (wcells n) 72))
  case atStart => exact ⟨0, by omega, rfl, rfl, rfl⟩
  case round =>
    obtain ⟨n, hng, rfl, rfl, rfl⟩ := hrel
    cases gk with
    | zero =>
      obtain rfl : n = 255 := by omega
      go_wp2
      have hP : ((w.alloc (.cells (pcells 255) 72)).alloc (.cells (wcells 255) 72)).heap[w.heap.size]? = some (.cells (pcells 255) 72) := heap_alloc2_old w _ _
      have hW : ((w.alloc (.cells (pcells 255) 72)).alloc (.cells (wcells 255) 72)).heap[w.heap.size + 1]? = some (.cells (wcells 255) 72) := heap_alloc2_new w _ _
      have hps : (Try.prog.info? 72).map (·.size) = some (pcells 255).size := by rw [pcells_size]; exact t_i
      have hws : (Try.prog.info? 72).map (·.size) = some (wcells 255).size := by rw [wcells_size]; exact t_i
      refine wp_region_quiet_lit (by kernel_rfl) (by kernel_rfl) ?_
      refine wpQuiet_step (fun K hK => ?_)
      refine quiet_load_row 72 _ rfl rfl _ rfl _ _ _ _ hP Try.underlying72 rfl hps (hK _ ?_); clear hK K
      refine wpQuiet_step (fun K hK => ?_)
      refine quiet_load_row 72 _ rfl rfl _ rfl _ _ _ _ hW Try.underlying72 rfl hws (hK _ ?_); clear hK K
      refine wpQuiet_step (fun K hK => ?_)
      refine quiet_store_same 72 _ _ rfl rfl _ _ rfl rfl _ hP hps (pcells_one 255) (hK _ ?_); clear hK K
      refine wpQuiet_step (fun K hK => ?_)
      refine quiet_store_same 72 _ _ rfl rfl _ _ rfl rfl _ hW hws (wcells_one 255) (hK _ ?_); clear hK K
      refine wpQuiet_nil ?_
      rintro _ ⟨nq, rfl⟩
      go_wp2
      refine bodyPost_ret (v := .tuple #[.agg (pcells 255), .agg (wcells 255)]) ?_ rfl ⟨rfl, nq, rfl⟩
      have l1 := run_loadVar_row (P := Try.prog) (((w.alloc (.cells (pcells 255) 72)).alloc (.cells (wcells 255) 72)).drewN nq) _ 72 72 _ _ _ hP Try.underlying72 rfl hps
      have l2 := run_loadVar_row (P := Try.prog) (((w.alloc (.cells (pcells 255) 72)).alloc (.cells (wcells 255) 72)).drewN nq) _ 72 72 _ _ _ hW Try.underlying72 rfl hws
      simp [results, Try.results63, asAddr, l1, l2, Result.andThen, Act.put]
    | succ g =>
      have hn : (n : Int) < 255 := by omega
      have hp0 := (pw_rng n).1
      have hp1 := (pw_rng n).2
      obtain ⟨xp, hxp, _, _⟩ := pcells_int n n (by omega)
      obtain ⟨xw, hxw, _, _⟩ := wcells_int n (pwI n).toNat (by omega)
      go_wp2_with (go_at_call 61; refine (twice_calls _ _).mono ?_; rintro e w' ⟨rfl, rfl⟩)
      go_roundg g
      case measure => omega
      case rel => exact ⟨n + 1, by omega, by go_num, rfl, rfl⟩
def cellI (o : Option Value) : Int := match o with | some (.int _ x) => x | _ => 0
def logI (a : Nat) : Int := cellI (wcells 255)[a]?
def powI (a : Nat) : Int := cellI (pcells 255)[a]?
def powIx (x n : Int) : Int := if Int.tmod (x * Int.tmod n 255) 255 < 0 then Int.tmod (x * Int.tmod n 255) 255 + 255 else Int.tmod (x * Int.tmod n 255) 255
theorem tmod_rng (n : Int) : -255 < Int.tmod n 255 ∧ Int.tmod n 255 < 255 := by
  rcases Int.le_total 0 n with h | h
  · rw [Int.tmod_eq_emod_of_nonneg h]; omega
  · obtain ⟨k, rfl⟩ : ∃ k, n = -k := ⟨-n, by omega⟩
    rw [Int.neg_tmod, Int.tmod_eq_emod_of_nonneg (by omega)]; omega
theorem mul_rng {x m : Int} (h0 : 0 ≤ x) (h1 : x ≤ 255) (h2 : -255 < m) (h3 : m < 255) : -65025 ≤ x * m ∧ x * m ≤ 65025 := by
  have a1 := Int.mul_le_mul_of_nonneg_left (show m ≤ 255 by omega) h0
  have a2 := Int.mul_le_mul_of_nonneg_left (show -255 ≤ m by omega) h0
  omega
set_option maxHeartbeats 4000000 in
set_option maxRecDepth 1000000 in
theorem pow_calls (a n : Int) (h0 : 0 ≤ a) (h1 : a < 256) (hz : ¬ a = 0) (hn : ¬ n = 0) (w : World) : Calls Try.prog 62 #[.int .u8 a, .int .i64 n] w fun e w' => e = .returned (.tuple #[.int .u8 (powI (powIx (logI a.toNat) n).toNat), .int .i64 0]) ∧ Below w.heap.size w w' := by
  have hv : ∀ w, (zeroValue 72).run Try.prog w = .ok (.agg (pcells 0)) w := t_z
  have hz1 : (a == 0) = false := beq_eq_false_iff_ne.mpr hz
  have hn1 : (n == 0) = false := beq_eq_false_iff_ne.mpr hn
  go_enter Try.func62, Try.ntmps62
  have hps : (Try.prog.info? 72).map (·.size) = some (pcells 255).size := by rw [pcells_size]; exact t_i
  have hws : (Try.prog.info? 72).map (·.size) = some (wcells 255).size := by rw [wcells_size]; exact t_i
  obtain ⟨x, hx, hx0, hx1⟩ := wcells_int 255 a.toNat (by omega)
  obtain ⟨m, hm⟩ : ∃ m, Int.tmod n 255 = m := ⟨_, rfl⟩
  have mr := tmod_rng n
  have pr := mul_rng hx0 hx1 (hm ▸ mr.1) (hm ▸ mr.2)
  obtain ⟨pr1, pr2⟩ := pr
  have kr := tmod_rng (x * m)
  obtain ⟨kr1, kr2⟩ := kr
  have Hx := Lib.hid (show logI a.toNat = x by unfold logI; rw [hx]; rfl)
  have Hp := Lib.hid hps
  have Hw := Lib.hid hws
  clear hps hws mr
  by_cases hk : Int.tmod (x * m) 255 < 0
  · obtain ⟨y, hy, _, _⟩ := pcells_int 255 (Int.tmod (x * m) 255 + 255).toNat (by omega)
    have Hy := Lib.hid (show powI (powIx (logI a.toNat) n).toNat = y by rw [Hx.out]; unfold powIx powI; rw [hm, if_pos hk, hy]; rfl)
    go_wp2_with (first | (go_at_call 63; refine (table_calls _).mono ?_; rintro e w' ⟨rfl, n, rfl⟩) | (refine wpList_store_row rfl 72 (.tmp 6) (.tmp 24) rfl _ (pcells 255) rfl rfl 72 (pcells 0) (by rw [heap_alloc_past _ _ (by simp only [sz, World.heap_drewN]; omega), heap_alloc_at _ _ (by simp only [sz, World.heap_drewN])]) Hp.out (by rw [pcells_size, pcells_size]) (pcells_one 255) ?_; rw [setRow_alloc_past _ _ _ (by simp only [sz, World.heap_drewN]; omega), setRow_alloc_at _ _ _ _ (by simp only [sz, World.heap_drewN])]) | (refine wpList_store_row rfl 72 (.tmp 7) (.tmp 25) rfl _ (wcells 255) rfl rfl 72 (pcells 0) (by rw [heap_alloc_at _ _ (by simp only [sz, World.heap_drewN])]) Hw.out (by rw [wcells_size, pcells_size]) (wcells_one 255) ?_; rw [setRow_alloc_at _ _ _ _ (by simp only [sz, World.heap_drewN])]))
    go_ret2
    exact ⟨by rw [Hy.out]; simp, by repeat (first | exact Below.refl _ _ | apply below_alloc | apply pw_below_drewN)⟩
  · obtain ⟨y, hy, _, _⟩ := pcells_int 255 (Int.tmod (x * m) 255).toNat (by omega)
    have Hy := Lib.hid (show powI (powIx (logI a.toNat) n).toNat = y by rw [Hx.out]; unfold powIx powI; rw [hm, if_neg hk, hy]; rfl)
    go_wp2_with (first | (go_at_call 63; refine (table_calls _).mono ?_; rintro e w' ⟨rfl, n, rfl⟩) | (refine wpList_store_row rfl 72 (.tmp 6) (.tmp 24) rfl _ (pcells 255) rfl rfl 72 (pcells 0) (by rw [heap_alloc_past _ _ (by simp only [sz, World.heap_drewN]; omega), heap_alloc_at _ _ (by simp only [sz, World.heap_drewN])]) Hp.out (by rw [pcells_size, pcells_size]) (pcells_one 255) ?_; rw [setRow_alloc_past _ _ _ (by simp only [sz, World.heap_drewN]; omega), setRow_alloc_at _ _ _ _ (by simp only [sz, World.heap_drewN])]) | (refine wpList_store_row rfl 72 (.tmp 7) (.tmp 25) rfl _ (wcells 255) rfl rfl 72 (pcells 0) (by rw [heap_alloc_at _ _ (by simp only [sz, World.heap_drewN])]) Hw.out (by rw [wcells_size, pcells_size]) (wcells_one 255) ?_; rw [setRow_alloc_at _ _ _ _ (by simp only [sz, World.heap_drewN])]))
    go_ret2
    exact ⟨by rw [Hy.out]; simp, by repeat (first | exact Below.refl _ _ | apply below_alloc | apply pw_below_drewN)⟩

set_option maxHeartbeats 4000000 in
set_option maxRecDepth 1000000 in
theorem pow_one (a : Int) (w : World) : Calls Try.prog 62 #[.int .u8 a, .int .i64 0] w fun e w' => e = .returned (.tuple #[.int .u8 1, .int .i64 0]) ∧ Below w.heap.size w w' := by
  go_enter Try.func62, Try.ntmps62
  go_wp2
  go_ret2
  exact ⟨rfl, Below.refl _ _⟩
set_option maxHeartbeats 4000000 in
set_option maxRecDepth 1000000 in
theorem pow_neg (n : Int) (hn : n < 0) (w : World) : Calls Try.prog 62 #[.int .u8 0, .int .i64 n] w fun e w' => e = .returned (.tuple #[.int .u8 0, .int .i64 10]) ∧ Below w.heap.size w w' := by
  have hn1 : (n == 0) = false := beq_eq_false_iff_ne.mpr (by omega)
  have hn2 : decide (n < 0) = true := decide_eq_true hn
  go_enter Try.func62, Try.ntmps62
  go_wp2
  go_ret2
  exact ⟨rfl, Below.refl _ _⟩
set_option maxHeartbeats 4000000 in
set_option maxRecDepth 1000000 in
theorem pow_pos (n : Int) (hn : 0 < n) (w : World) : Calls Try.prog 62 #[.int .u8 0, .int .i64 n] w fun e w' => e = .returned (.tuple #[.int .u8 0, .int .i64 0]) ∧ Below w.heap.size w w' := by
  have hn1 : (n == 0) = false := beq_eq_false_iff_ne.mpr (by omega)
  have hn2 : decide (n < 0) = false := decide_eq_false (by omega)
  go_enter Try.func62, Try.ntmps62
  go_wp2
  go_ret2
  exact ⟨rfl, Below.refl _ _⟩
end Go.Proofs.Ythhncoogmncdkaa
