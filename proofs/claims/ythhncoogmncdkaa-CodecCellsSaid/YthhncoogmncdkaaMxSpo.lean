/- A matrix that is handed over and spoilt: what is its own, and what stays. No condition. -/
import Derived.WalkKit
import Derived.Deep.WholeRow
import Derived.Deep.Quiet
import Derived.Laws.ResultCell
import Derived.Laws.NewBlocks
import Derived.StillTailTactics
import Derived.Lib.Bytes
import Derived.Test.YthhncoogmncdkaaProg
import Derived.Test.YthhncoogmncdkaaWWords
import Derived.KernelRfl
import Derived.Below
import Derived.Deep.LoopGhost
import Derived.Lib.Hide
import Derived.Laws.BitsAllLaws
import Derived.BigQuiet
import Derived.Test.YthhncoogmncdkaaHK
import Derived.Test.YthhncoogmncdkaaCopy
import Derived.Test.YthhncoogmncdkaaWApart
import Derived.Deep.RegionHeld3
namespace Go.Proofs.Ythhncoogmncdkaa
section
variable {P : Program}
theorem setRow_same {w : World} {g : Nat} {cs : Array Value} {t : TypeId} {fr : Nat × Nat} (hg : w.heap[g]? = some (.cells cs t fr)) : w.setRow g cs = w := by
  have : w.heap.modify g (fun o => match o with | .cells _ t fr => .cells cs t fr | o => o) = w.heap := by
    apply Array.ext_getElem?
    intro i
    rw [Array.getElem?_modify]
    by_cases h : g = i
    · subst h; simp [hg]
    · simp [h]
  cases w
  simp only [World.setRow] at *
  congr 1
theorem quiet_load_row {ops : Array Oper} {o : Oper} {a : Act} {w : World} {K : Act → Prop} (ty : TypeId) (x : Operand) (hgd : o.guard = none) (ho : o.op = .load ty x)
    (g : Nat) (hx : a.eval x = .pointer (some ⟨g, 0, none⟩)) (t : TypeId) (cs : Array Value) (fr : Nat × Nat) (d : TypeDesc) (hg : w.heap[g]? = some (.cells cs t fr))
    (hu : P.underlying ty = some d) (hd : (match d with | .struct _ | .array _ _ => true | _ => false) = true) (hi : (P.info? ty).map (·.size) = some cs.size)
    (h : K (a.put o.dst (.agg cs))) : if Region.wanted o (yielded ops a.tmps) then o.quiet P a (fun w' => ∃ n, w' = w.drewN n) K else K (a.put o.dst undef) := by
  have hw : Region.wanted o (yielded ops a.tmps) = true := by simp [Region.wanted, hgd]
  rw [if_pos hw]
  refine ⟨_, ?_, h⟩
  rintro w' ⟨n, rfl⟩
  unfold Oper.quietAt execOp
  simp only [ho, hx, Instr.loadAt, Instr.sureAddr, Sem.run_bind, Sem.run_pure, Result.andThen_ok, run_loadVar_row (w.drewN n) g t ty cs fr d hg hu hd hi]
  exact ⟨rfl, rfl⟩
theorem quiet_store_same {ops : Array Oper} {o : Oper} {a : Act} {w : World} {K : Act → Prop} (ty : TypeId) (x y : Operand) (hgd : o.guard = none) (ho : o.op = .store ty x y)
    (g : Nat) (cells : Array Value) (hx : a.eval x = .pointer (some ⟨g, 0, none⟩)) (hy : a.eval y = .agg cells)
    (t : TypeId) (hg : w.heap[g]? = some (.cells cells t (0, 0))) (hi : (P.info? ty).map (·.size) = some cells.size) (h1 : cells.all (·.oneCell') = true)
    (h : K (a.put o.dst undef)) : if Region.wanted o (yielded ops a.tmps) then o.quiet P a (fun w' => ∃ n, w' = w.drewN n) K else K (a.put o.dst undef) := by
  have hw : Region.wanted o (yielded ops a.tmps) = true := by simp [Region.wanted, hgd]
  rw [if_pos hw]
  refine ⟨undef, ?_, h⟩
  rintro w' ⟨n, rfl⟩
  unfold Oper.quietAt execOp
  have e := setRow_same (w := w.drewN n) (g := g) (cs := cells) hg
  simp only [ho, hx, hy, Instr.storeAt, Instr.sureAddr, Sem.run_bind, Sem.run_pure, Result.andThen_ok, run_storeVar_row (w.drewN n) g t ty cells cells hg hi rfl h1, e]
  exact ⟨rfl, rfl⟩
theorem setRow_alloc_past {w : World} (o : Obj) (g : Nat) (cs : Array Value) (h : g < w.heap.size) : (w.alloc o).setRow g cs = (w.setRow g cs).alloc o := by
  simp only [World.setRow, World.alloc]
  congr 1
  apply Array.ext_getElem?
  intro i
  rw [Array.getElem?_modify]
  rw [Array.getElem?_push, Array.getElem?_push]
  by_cases e : i = w.heap.size
  · subst e
    have : ¬ g = w.heap.size := by omega
    simp [this]
  · simp [e, Array.getElem?_modify]
theorem setRow_alloc_at {w : World} (c c' : Array Value) (t : TypeId) (n : Nat) (hn : n = w.heap.size) : (w.alloc (.cells c t)).setRow n c' = w.alloc (.cells c' t) := by
  subst hn; exact World.setRow_alloc_new w c c' t
theorem heap_alloc_at {w : World} (o : Obj) (n : Nat) (hn : n = w.heap.size) : (w.alloc o).heap[n]? = some o := by subst hn; exact heap_alloc_new w o
theorem heap_alloc_past {w : World} (o : Obj) (n : Nat) (hn : n < w.heap.size) : (w.alloc o).heap[n]? = w.heap[n]? := by
  show (w.heap.push o)[n]? = _
  rw [Array.getElem?_push, if_neg (by omega)]
theorem sz (w : World) (o : Obj) : (w.alloc o).heap.size = w.heap.size + 1 := by show (w.heap.push o).size = _; exact Array.size_push _
end
end Go.Proofs.Ythhncoogmncdkaa
namespace Go.Proofs.Ythhncoogmncdkaa
open Go Go.RowKit Go.Proofs.YthhncoogmncdkaaW.PrintWords
def twI (a : Int) : Int := Go.bits .xor .u8 ((a * 2) % 256) (Go.bits .and .u8 29 ((-(a / 128)) % 256))
theorem tw_fin : ∀ a : Fin 256, 0 ≤ twI a.val ∧ twI a.val < 256 := by decide +kernel
theorem tw_rng {a : Int} (h0 : 0 ≤ a) (h1 : a < 256) : 0 ≤ twI a ∧ twI a < 256 := by
  obtain ⟨n, rfl⟩ := Int.eq_ofNat_of_zero_le h0
  exact tw_fin ⟨n, by omega⟩
def pwI : Nat → Int
  | 0 => 1
  | n + 1 => twI (pwI n)
theorem pw_rng (n : Nat) : 0 ≤ pwI n ∧ pwI n < 256 := by
  induction n with
  | zero => exact ⟨by decide, by decide⟩
  | succ n ih => exact tw_rng ih.1 ih.2
def pcells : Nat → Array Value
  | 0 => Array.replicate 256 (.int .u8 0)
  | n + 1 => (pcells n).setIfInBounds n (.int .u8 (pwI n))
def wcells : Nat → Array Value
  | 0 => Array.replicate 256 (.int .u8 0)
  | n + 1 => (wcells n).setIfInBounds (pwI n).toNat (.int .u8 n)
theorem pcells_size (n : Nat) : (pcells n).size = 256 := by induction n with | zero => simp [pcells] | succ n ih => simp [pcells, ih]
theorem wcells_size (n : Nat) : (wcells n).size = 256 := by induction n with | zero => simp [wcells] | succ n ih => simp [wcells, ih]
theorem pcells_int (n i : Nat) (h : i < 256) : ∃ x : Int, (pcells n)[i]? = some (.int .u8 x) ∧ 0 ≤ x ∧ x < 256 := by
  induction n with
  | zero => exact ⟨0, by simp [pcells, h], by omega, by omega⟩
  | succ n ih =>
    obtain ⟨x, hx, hx0, hx1⟩ := ih
    by_cases e : n = i
    · subst e; exact ⟨pwI n, by simp [pcells, pcells_size, h], (pw_rng n).1, (pw_rng n).2⟩
    · exact ⟨x, by simp [pcells, e, hx, Array.getElem?_setIfInBounds_ne], by omega, by omega⟩
theorem wcells_int (n i : Nat) (h : i < 256) : ∃ x : Int, (wcells n)[i]? = some (.int .u8 x) ∧ 0 ≤ x ∧ x ≤ n := by
  induction n with
  | zero => exact ⟨0, by simp [wcells, h], by omega, by omega⟩
  | succ n ih =>
    obtain ⟨x, hx, hx0, hx1⟩ := ih
    by_cases e : (pwI n).toNat = i
    · subst e; exact ⟨n, by simp [wcells, wcells_size, h], by omega, by omega⟩
    · exact ⟨x, by simp [wcells, e, hx, Array.getElem?_setIfInBounds_ne], by omega, by omega⟩
theorem twice_calls (a : Int) (w : World) : Calls Try.prog 61 #[.int .u8 a] w fun e w' => e = .returned (.int .u8 (twI a)) ∧ w' = w := by
  go_enter Try.func61, Try.ntmps61
  go_wp2
  go_ret
  exact ⟨rfl, rfl⟩
theorem t_z : ∀ w, (zeroValue 72).run Try.prog w = .ok (.agg (Array.replicate 256 (.int .u8 0))) w := by
  exact (zero_of_info (v := .agg (Array.replicate 256 (.int .u8 0))) (n := 256) (by kernel_rfl)).1
theorem t_i : (Try.prog.info? 72).map (·.size) = some 256 := by
  exact (zero_of_info (v := .agg (Array.replicate 256 (.int .u8 0))) (n := 256) (by kernel_rfl)).2
theorem pcells_one (n : Nat) : (pcells n).all (·.oneCell') = true := by
  rw [Array.all_eq_true]
  intro i hi
  obtain ⟨x, hx, _, _⟩ := pcells_int n i (by rw [pcells_size] at hi; exact hi)
  rw [Array.getElem?_eq_getElem hi] at hx
  injection hx with hx
  rw [hx]; rfl
theorem wcells_one (n : Nat) : (wcells n).all (·.oneCell') = true := by
  rw [Array.all_eq_true]
  intro i hi
  obtain ⟨x, hx, _, _⟩ := wcells_int n i (by rw [wcells_size] at hi; exact hi)
  rw [Array.getElem?_eq_getElem hi] at hx
  injection hx with hx
  rw [hx]; rfl
set_option maxHeartbeats 4000000 in
set_option maxRecDepth 1000000 in
theorem table_calls (w : World) : Calls Try.prog 63 #[] w fun e w' => e = .returned (.tuple #[.agg (pcells 255), .agg (wcells 255)]) ∧ ∃ n, w' = ((w.alloc (.cells (pcells 255) 72)).alloc (.cells (wcells 255) 72)).drewN n := by
  have hz := t_z
  go_enter Try.func63, Try.ntmps63
  go_wp2
  clear hz
  go_loopg [2, 4] 255 (fun g s2 s4 wx => ∃ n : Nat, n + g = 255 ∧ s4 = .int .i64 n ∧ s2 = .int .u8 (pwI n) ∧ wx = (w.alloc (.cells (pcells n) 72)).alloc (.cells (wcells n) 72))
  case atStart => exact ⟨0, by omega, rfl, rfl, rfl⟩
  case round =>
    obtain ⟨n, hng, rfl, rfl, rfl⟩ := hrel
    cases gk with
    | zero =>
      obtain rfl : n = 255 := by omega
      go_wp2
      have hP : ((w.alloc (.cells (pcells 255) 72)).alloc (.cells (wcells 255) 72)).heap[w.heap.size]? = some (.cells (pcells 255) 72) := heap_alloc2_old w _ _
      have hW : ((w.alloc (.cells (pcells 255) 72)).alloc (.cells (wcells 255) 72)).heap[w.heap.size + 1]? = some (.cells (wcells 255) 72) := heap_alloc2_new w _ _
      have hps : (Try.prog.info? 72).map (·.size) = some (pcells 255).size := by rw [pcells_size]; exact t_i
      have hws : (Try.prog.info? 72).map (·.size) = some (wcells 255).size := by rw [wcells_size]; exact t_i
      refine wp_region_quiet_lit (by kernel_rfl) (by kernel_rfl) ?_
      refine wpQuiet_step (fun K hK => ?_)
      refine quiet_load_row 72 _ rfl rfl _ rfl _ _ _ _ hP Try.underlying72 rfl hps (hK _ ?_); clear hK K
      refine wpQuiet_step (fun K hK => ?_)
      refine quiet_load_row 72 _ rfl rfl _ rfl _ _ _ _ hW Try.underlying72 rfl hws (hK _ ?_); clear hK K
      refine wpQuiet_step (fun K hK => ?_)
      refine quiet_store_same 72 _ _ rfl rfl _ _ rfl rfl _ hP hps (pcells_one 255) (hK _ ?_); clear hK K
      refine wpQuiet_step (fun K hK => ?_)
      refine quiet_store_same 72 _ _ rfl rfl _ _ rfl rfl _ hW hws (wcells_one 255) (hK _ ?_); clear hK K
      refine wpQuiet_nil ?_
      rintro _ ⟨nq, rfl⟩
      go_wp2
      refine bodyPost_ret (v := .tuple #[.agg (pcells 255), .agg (wcells 255)]) ?_ rfl ⟨rfl, nq, rfl⟩
      have l1 := run_loadVar_row (P := Try.prog) (((w.alloc (.cells (pcells 255) 72)).alloc (.cells (wcells 255) 72)).drewN nq) _ 72 72 _ _ _ hP Try.underlying72 rfl hps
      have l2 := run_loadVar_row (P := Try.prog) (((w.alloc (.cells (pcells 255) 72)).alloc (.cells (wcells 255) 72)).drewN nq) _ 72 72 _ _ _ hW Try.underlying72 rfl hws
      simp [results, Try.results63, asAddr, l1, l2, Result.andThen, Act.put]
    | succ g =>
      have hn : (n : Int) < 255 := by omega
      have hp0 := (pw_rng n).1
      have hp1 := (pw_rng n).2
      obtain ⟨xp, hxp, _, _⟩ := pcells_int n n (by omega)
      obtain ⟨xw, hxw, _, _⟩ := wcells_int n (pwI n).toNat (by omega)
      go_wp2_with (go_at_call 61; refine (twice_calls _ _).mono ?_; rintro e w' ⟨rfl, rfl⟩)
      go_roundg g
      case measure => omega
      case rel => exact ⟨n + 1, by omega, by go_num, rfl, rfl⟩
def cellI (o : Option Value) : Int := match o with | some (.int _ x) => x | _ => 0
def logI (a : Nat) : Int := cellI (wcells 255)[a]?
def powI (a : Nat) : Int := cellI (pcells 255)[a]?
def powIx (x n : Int) : Int := if Int.tmod (x * Int.tmod n 255) 255 < 0 then Int.tmod (x * Int.tmod n 255) 255 + 255 else Int.tmod (x * Int.tmod n 255) 255
theorem tmod_rng (n : Int) : -255 < Int.tmod n 255 ∧ Int.tmod n 255 < 255 := by
  rcases Int.le_total 0 n with h | h
  · rw [Int.tmod_eq_emod_of_nonneg h]; omega
  · obtain ⟨k, rfl⟩ : ∃ k, n = -k := ⟨-n, by omega⟩
    rw [Int.neg_tmod, Int.tmod_eq_emod_of_nonneg (by omega)]; omega
theorem mul_rng {x m : Int} (h0 : 0 ≤ x) (h1 : x ≤ 255) (h2 : -255 < m) (h3 : m < 255) : -65025 ≤ x * m ∧ x * m ≤ 65025 := by
  have a1 := Int.mul_le_mul_of_nonneg_left (show m ≤ 255 by omega) h0
  have a2 := Int.mul_le_mul_of_nonneg_left (show -255 ≤ m by omega) h0
  omega
set_option maxHeartbeats 4000000 in
set_option maxRecDepth 1000000 in
theorem pow_calls (a n : Int) (h0 : 0 ≤ a) (h1 : a < 256) (hz : ¬ a = 0) (hn : ¬ n = 0) (w : World) : Calls Try.prog 62 #[.int .u8 a, .int .i64 n] w fun e w' => e = .returned (.tuple #[.int .u8 (powI (powIx (logI a.toNat) n).toNat), .int .i64 0]) ∧ Below w.heap.size w w' := by
  have hv : ∀ w, (zeroValue 72).run Try.prog w = .ok (.agg (pcells 0)) w := t_z
  have hz1 : (a == 0) = false := beq_eq_false_iff_ne.mpr hz
  have hn1 : (n == 0) = false := beq_eq_false_iff_ne.mpr hn
  go_enter Try.func62, Try.ntmps62
  have hps : (Try.prog.info? 72).map (·.size) = some (pcells 255).size := by rw [pcells_size]; exact t_i
  have hws : (Try.prog.info? 72).map (·.size) = some (wcells 255).size := by rw [wcells_size]; exact t_i
  obtain ⟨x, hx, hx0, hx1⟩ := wcells_int 255 a.toNat (by omega)
  obtain ⟨m, hm⟩ : ∃ m, Int.tmod n 255 = m := ⟨_, rfl⟩
  have mr := tmod_rng n
  have pr := mul_rng hx0 hx1 (hm ▸ mr.1) (hm ▸ mr.2)
  obtain ⟨pr1, pr2⟩ := pr
  have kr := tmod_rng (x * m)
  obtain ⟨kr1, kr2⟩ := kr
  have Hx := Lib.hid (show logI a.toNat = x by unfold logI; rw [hx]; rfl)
  have Hp := Lib.hid hps
  have Hw := Lib.hid hws
  clear hps hws mr
  by_cases hk : Int.tmod (x * m) 255 < 0
  · obtain ⟨y, hy, _, _⟩ := pcells_int 255 (Int.tmod (x * m) 255 + 255).toNat (by omega)
    have Hy := Lib.hid (show powI (powIx (logI a.toNat) n).toNat = y by rw [Hx.out]; unfold powIx powI; rw [hm, if_pos hk, hy]; rfl)
    go_wp2_with (first | (go_at_call 63; refine (table_calls _).mono ?_; rintro e w' ⟨rfl, n, rfl⟩) | (refine wpList_store_row rfl 72 (.tmp 6) (.tmp 24) rfl _ (pcells 255) rfl rfl 72 (pcells 0) (by rw [heap_alloc_past _ _ (by simp only [sz, World.heap_drewN]; omega), heap_alloc_at _ _ (by simp only [sz, World.heap_drewN])]) Hp.out (by rw [pcells_size, pcells_size]) (pcells_one 255) ?_; rw [setRow_alloc_past _ _ _ (by simp only [sz, World.heap_drewN]; omega), setRow_alloc_at _ _ _ _ (by simp only [sz, World.heap_drewN])]) | (refine wpList_store_row rfl 72 (.tmp 7) (.tmp 25) rfl _ (wcells 255) rfl rfl 72 (pcells 0) (by rw [heap_alloc_at _ _ (by simp only [sz, World.heap_drewN])]) Hw.out (by rw [wcells_size, pcells_size]) (wcells_one 255) ?_; rw [setRow_alloc_at _ _ _ _ (by simp only [sz, World.heap_drewN])]))
    go_ret2
    exact ⟨by rw [Hy.out]; simp, by repeat (first | exact Below.refl _ _ | apply below_alloc | apply pw_below_drewN)⟩
  · obtain ⟨y, hy, _, _⟩ := pcells_int 255 (Int.tmod (x * m) 255).toNat (by omega)
    have Hy := Lib.hid (show powI (powIx (logI a.toNat) n).toNat = y by rw [Hx.out]; unfold powIx powI; rw [hm, if_neg hk, hy]; rfl)
    go_wp2_with (first | (go_at_call 63; refine (table_calls _).mono ?_; rintro e w' ⟨rfl, n, rfl⟩) | (refine wpList_store_row rfl 72 (.tmp 6) (.tmp 24) rfl _ (pcells 255) rfl rfl 72 (pcells 0) (by rw [heap_alloc_past _ _ (by simp only [sz, World.heap_drewN]; omega), heap_alloc_at _ _ (by simp only [sz, World.heap_drewN])]) Hp.out (by rw [pcells_size, pcells_size]) (pcells_one 255) ?_; rw [setRow_alloc_past _ _ _ (by simp only [sz, World.heap_drewN]; omega), setRow_alloc_at _ _ _ _ (by simp only [sz, World.heap_drewN])]) | (refine wpList_store_row rfl 72 (.tmp 7) (.tmp 25) rfl _ (wcells 255) rfl rfl 72 (pcells 0) (by rw [heap_alloc_at _ _ (by simp only [sz, World.heap_drewN])]) Hw.out (by rw [wcells_size, pcells_size]) (wcells_one 255) ?_; rw [setRow_alloc_at _ _ _ _ (by simp only [sz, World.heap_drewN])]))
    go_ret2
    exact ⟨by rw [Hy.out]; simp, by repeat (first | exact Below.refl _ _ | apply below_alloc | apply pw_below_drewN)⟩

set_option maxHeartbeats 4000000 in
set_option maxRecDepth 1000000 in
theorem pow_one (a : Int) (w : World) : Calls Try.prog 62 #[.int .u8 a, .int .i64 0] w fun e w' => e = .returned (.tuple #[.int .u8 1, .int .i64 0]) ∧ Below w.heap.size w w' := by
  go_enter Try.func62, Try.ntmps62
  go_wp2
  go_ret2
  exact ⟨rfl, Below.refl _ _⟩
set_option maxHeartbeats 4000000 in
set_option maxRecDepth 1000000 in
theorem pow_neg (n : Int) (hn : n < 0) (w : World) : Calls Try.prog 62 #[.int .u8 0, .int .i64 n] w fun e w' => e = .returned (.tuple #[.int .u8 0, .int .i64 10]) ∧ Below w.heap.size w w' := by
  have hn1 : (n == 0) = false := beq_eq_false_iff_ne.mpr (by omega)
  have hn2 : decide (n < 0) = true := decide_eq_true hn
  go_enter Try.func62, Try.ntmps62
  go_wp2
  go_ret2
  exact ⟨rfl, Below.refl _ _⟩
set_option maxHeartbeats 4000000 in
set_option maxRecDepth 1000000 in
theorem pow_pos (n : Int) (hn : 0 < n) (w : World) : Calls Try.prog 62 #[.int .u8 0, .int .i64 n] w fun e w' => e = .returned (.tuple #[.int .u8 0, .int .i64 0]) ∧ Below w.heap.size w w' := by
  have hn1 : (n == 0) = false := beq_eq_false_iff_ne.mpr (by omega)
  have hn2 : decide (n < 0) = false := decide_eq_false (by omega)
  go_enter Try.func62, Try.ntmps62
  go_wp2
  go_ret2
  exact ⟨rfl, Below.refl _ _⟩
end Go.Proofs.Ythhncoogmncdkaa
namespace Go.Proofs.Ythhncoogmncdkaa
open Go Go.RowKit Go.Proofs.YthhncoogmncdkaaW.PrintWords Go.Proofs.YthhncoogmncdkaaW.PrintLast Go.Proofs.YthhncoogmncdkaaW.PrintMore
theorem mk_info : (Try.prog.info? 5).map (fun i => (i.zero, i.size, i.bytes)) = some (some (.int .u8 0), 1, 1) := by kernel_rfl
theorem mk_info2 : (Try.prog.info? 23).map (fun i => (i.zero, i.size, i.bytes)) = some (some (.slice none 0 0), 1, 24) := by kernel_rfl
/-- the rows of a matrix, each in a block of its own -/
def inn (W : World) (g n : Nat) (b : Nat → Nat) (M : Nat → List Int) (m : Nat) : Prop :=
  (∀ i, i < n → W.heap[b i]? = some (.cells (encs (Value.int .u8) (M i)).toArray 5 (0, 0)) ∧ (M i).length = m ∧ g < b i) ∧ ∀ i j, i < n → j < n → b i = b j → i = j
theorem inn.keep {W W' : World} {g n : Nat} {b : Nat → Nat} {M : Nat → List Int} {m : Nat} (h : inn W g n b M m) (hk : ∀ k, k < n → W'.heap[b k]? = W.heap[b k]?) : inn W' g n b M m :=
  ⟨fun i hi => ⟨(hk i hi).trans (h.1 i hi).1, (h.1 i hi).2⟩, h.2⟩
theorem inn.below {W W' : World} {g n : Nat} {b : Nat → Nat} {M : Nat → List Int} {m : Nat} (h : inn W g n b M m) (hb : Below W.heap.size W W') : inn W' g n b M m :=
  h.keep fun k hk => hb.block _ (blk_lt (h.1 k hk).1)
theorem inn.snoc {W : World} {g n nb : Nat} {b : Nat → Nat} {M : Nat → List Int} {m : Nat} (h : inn W g n b M m) (hn : ∀ k, k < n → b k < nb) (h1 : W.heap[nb]? = some (.cells (encs (Value.int .u8) (M n)).toArray 5 (0, 0))) (h2 : (M n).length = m) (h3 : g < nb) : inn W g (n + 1) (fun k => if k = n then nb else b k) M m := by
  refine ⟨fun i hi => ?_, fun i j hi hj e => ?_⟩
  · by_cases e : i = n
    · subst e; simp only [if_true]; exact ⟨h1, h2, h3⟩
    · simp only [if_neg e]; exact h.1 i (by omega)
  · by_cases e1 : i = n
    · by_cases e2 : j = n
      · omega
      · simp only [if_pos e1, if_neg e2] at e
        have := hn j (by omega); omega
    · by_cases e2 : j = n
      · simp only [if_neg e1, if_pos e2] at e
        have := hn i (by omega); omega
      · simp only [if_neg e1, if_neg e2] at e
        exact h.2 i j (by omega) (by omega) e
theorem far_cell {w : World} {p q : Addr} (h : q.block ≠ p.block) (v : Value) : (w.setCell p v).cell? q = w.cell? q := by unfold World.cell?; rw [Below.heap_setCell w p v q.block h]
def mrow (G : Nat → Int) (cols j : Nat) : List Int := (List.range j).map G ++ List.replicate (cols - j) 0
theorem mrow_len (G : Nat → Int) {cols j : Nat} (h : j ≤ cols) : (mrow G cols j).length = cols := by simp [mrow]; omega
theorem mrow_set (G : Nat → Int) {cols j : Nat} (h : j < cols) : (mrow G cols j).set j (G j) = mrow G cols (j + 1) := by
  unfold mrow
  rw [List.set_append_right _ _ (by simp), List.length_map, List.length_range, Nat.sub_self, List.range_succ, List.map_append]
  obtain ⟨q, hq⟩ : ∃ q, cols - j = q + 1 := ⟨cols - j - 1, by omega⟩
  rw [hq, List.replicate_succ, List.set_cons_zero, show cols - (j + 1) = q by omega]
  simp
theorem mrow_all (G : Nat → Int) (cols : Nat) : mrow G cols cols = (List.range cols).map G := by simp [mrow]
theorem mrow_zero (G : Nat → Int) (cols : Nat) : madeCells #[Value.int .u8 0] cols = (encs (Value.int .u8) (mrow G cols 0)).toArray := by
  rw [← Array.toArray_toList (xs := madeCells #[Value.int .u8 0] cols), toList_madeCells_one]
  simp [encs, mrow]
def Rows (W : World) (g n : Nat) (b : Nat → Nat) (M : Nat → List Int) (m : Nat) : Prop := (∃ cs : Array Value, W.heap[g]? = some (.cells cs 23 (0, 0)) ∧ cs.size = n ∧ ∀ i, i < n → cs[i]? = some (.slice (some ⟨b i, 0, none⟩) m m)) ∧ inn W g n b M m
theorem find_b {b : Nat → Nat} {n i : Nat} (hi : i < n) (h : ∀ i j, i < n → j < n → b i = b j → i = j) : ((List.range n).find? (fun j => b j == b i)).getD 0 = i := by
  cases e : (List.range n).find? (fun j => b j == b i) with
  | none =>
    have := List.find?_eq_none.1 e i (List.mem_range.2 hi)
    simp at this
  | some j =>
    have h1 := List.find?_some e
    have h2 := List.mem_of_find?_eq_some e
    rw [beq_iff_eq] at h1
    exact h j i (List.mem_range.1 h2) hi h1
theorem Rows.S {W : World} {g n base : Nat} {b : Nat → Nat} {M : Nat → List Int} {m : Nat} (h : Rows W g n b M m) (hg : base ≤ g) (hn : n ≤ 1000000) (hm : m ≤ 1000000) : Kd.S (Kd.slice 5 (Kd.int .u8)) 23 W base (fun _ => True) (.slice (some ⟨g, 0, none⟩) n n) ((List.range n).map M) := by
  obtain ⟨⟨cs, hcs, hsz, hat⟩, hin, hap⟩ := h
  have ecs : cs = ((List.range n).map (fun i => Value.slice (some ⟨b i, 0, none⟩) m m)).toArray := by
    apply Array.ext_getElem?
    intro i
    by_cases hi : i < n
    · rw [hat i hi]; simp [hi]
    · rw [Array.getElem?_eq_none (by omega), Array.getElem?_eq_none (by simp; omega)]
  subst ecs
  refine ⟨fun k => ((List.range n).find? (fun j => b j == k)).getD 0, fun k _ => trivial, _, (show W.ownsRow base 23 1 _ _ _ from by simpa using own_of_block hcs hg (by simp [maxLen]; omega)), by simp [Kd.tag, Kd.slice], fun j p hj => ?_⟩
  have hjn : j < n := by
    have := (List.getElem?_eq_some_iff.1 hj).1
    simpa using this
  have hp : p = (M j, j) := by
    have := (List.getElem?_eq_some_iff.1 hj).2
    rw [← this]; simp
  subst hp
  have hd : (((List.range n).map (fun i => Value.slice (some ⟨b i, 0, none⟩) m m)).drop (j * (Kd.tag (fun k => ((List.range n).find? (fun j => b j == k)).getD 0) (Kd.slice 5 (Kd.int .u8))).sz)).take (Kd.tag (fun k => ((List.range n).find? (fun j => b j == k)).getD 0) (Kd.slice 5 (Kd.int .u8))).sz = [Value.slice (some ⟨b j, 0, none⟩) m m] := by
    show (List.drop (j * 1) _).take 1 = _
    rw [Nat.mul_one, List.drop_eq_getElem_cons (by simpa using hjn)]
    simp
  rw [hd]
  obtain ⟨h1, h2, h3⟩ := hin j hjn
  refine ⟨_, rfl, ?_⟩
  have hown := own_of_block (base := base) h1 (by omega) (by simp [encs, maxLen]; omega)
  have hlen : (encs (Value.int .u8) (M j)).length = m := by simp [encs, h2]
  rw [hlen] at hown
  refine Kd.R_of_own (h1 := fun _ => rfl) (by rw [h2]; exact hown) (fun k hk => ?_)
  have : k = b j := by simpa [Value.ownBlock, eq_comm] using hk
  subst this
  exact ⟨⟨trivial, by simp [Value.ownBlock]; omega⟩, find_b hjn hap⟩
set_option maxHeartbeats 4000000 in
theorem made_One (rows cols : Nat) (G : Nat → Nat → Int) (w : World) (hr : rows ≤ 100) (hc : cols ≤ 100) 
    (hcall : ∀ (i j : Nat) (W : World), i < rows → j < cols → Below w.heap.size w W → Calls Try.prog 53 #[.int .i64 i, .int .i64 j] W (fun e w' => e = .returned (.int .u8 (G i j)) ∧ Below W.heap.size W w')) :
    Calls Try.prog 52 #[.int .i64 rows, .int .i64 cols, .func (.func 53) #[] #[]] w fun e w' => ∃ b, e = .returned (.slice (some ⟨w.heap.size, 0, none⟩) rows rows) ∧ Rows w' w.heap.size rows b (fun i => (List.range cols).map (G i)) cols ∧ Below w.heap.size w w' := by
  have hm1 := print_make_of 24 23 (.slice none 0 0) 24 Try.underlying24 mk_info2 rfl (by omega) rows (by omega) w
  have e2 : (madeCells #[Value.slice none 0 0] rows).size = rows := by
    rw [← Array.length_toList, toList_madeCells_one, List.length_replicate]
  generalize madeCells #[Value.slice none 0 0] rows = C0 at hm1 e2
  have E2 := Lib.hid e2
  have HC := Lib.hid hcall
  clear e2 hcall
  go_enter Try.func52, Try.ntmps52
  go_wp2_with fail
  go_loopg [14] rows (fun g s14 wx => ∃ (i : Nat) (b : Nat → Nat) (cs : Array Value), i + g = rows ∧ s14 = .int .i64 i ∧ Aside0 (cs.size = rows ∧ wx.heap[w.heap.size]? = some (.cells cs 23 (0, 0)) ∧ ∀ k, k < i → cs[k]? = some (.slice (some ⟨b k, 0, none⟩) cols cols)) ∧ Aside0 (inn wx w.heap.size i b (fun i => (List.range cols).map (G i)) cols) ∧ Aside0 (Below w.heap.size w wx))
  case atStart => exact ⟨0, fun _ => 0, C0, by omega, rfl, ⟨E2.out, blk_new w _, fun k hk => absurd hk (by omega)⟩, ⟨fun i hi => absurd hi (by omega), fun i j hi => absurd hi (by omega)⟩, ⟨below_alloc (Below.refl _ _) _⟩⟩
  case round =>
    clear hm1
    obtain ⟨i, b, cs, hig, rfl, HO, HR, HB⟩ := hrel
    cases gk with
    | zero =>
      obtain rfl : i = rows := by omega
      go_wp2_with fail
      go_ret
      exact ⟨b, rfl, ⟨⟨cs, HO.out.2.1, HO.out.1, HO.out.2.2⟩, HR.out⟩, HB.out⟩
    | succ g =>
      have hi : (i : Int) < (rows : Int) := by omega
      have hm2 := print_make 23 5 .u8 1 Try.underlying23 mk_info (by omega) cols (by omega) wr
      have ez := mrow_zero (G i) cols
      generalize madeCells #[Value.int .u8 0] cols = C1 at hm2 ez
      have HG := Lib.hid (blk_alloc HO.out.2.1 (.cells C1 5))
      obtain ⟨v0, hv0⟩ : ∃ v0, cs[i]? = some v0 := ⟨cs[i]'(by have := HO.out.1; omega), by simp⟩
      have hx : (wr.alloc (.cells C1 5)).cell? ⟨w.heap.size, i, none⟩ = some v0 := (blk_cell HG.out i).trans hv0
      have hf := blk_frozen HG.out i
      have HN := Lib.hid (blk_new wr (.cells C1 5))
      have HIN := Lib.hid (HR.out.below (below_alloc (Below.refl _ _) (.cells C1 5)))
      have HBn := Lib.hid (show ∀ k, k < i → b k < wr.heap.size from fun k hk => blk_lt (HR.out.1 k hk).1)
      have HB2 := Lib.hid (below_alloc HB.out (.cells C1 5))
      have HGl := Lib.hid (blk_lt HO.out.2.1)
      have EZ := Lib.hid ez
      clear hv0 HR HB ez
      go_wp2_with fail
      have hO2 := blk_set HG.out i (.slice (some ⟨wr.heap.size, 0, none⟩) cols cols)
      have hN2 := blk_far HN.out (p := ⟨w.heap.size, i, none⟩) (by have := HGl.out; show wr.heap.size ≠ w.heap.size; omega) (.slice (some ⟨wr.heap.size, 0, none⟩) cols cols)
      have hI2 := HIN.out.keep (W' := (wr.alloc (.cells C1 5)).setCell ⟨w.heap.size, i, none⟩ (.slice (some ⟨wr.heap.size, 0, none⟩) cols cols)) (fun k hk => Below.heap_setCell _ _ _ _ (by have := (HIN.out.1 k hk).2.2; show b k ≠ w.heap.size; omega))
      have hB3 := below_set (j := i) (v := .slice (some ⟨wr.heap.size, 0, none⟩) cols cols) HB2.out (Nat.le_refl _)
      clear hx hf hm2 HG HN HIN HB2
      generalize (wr.alloc (.cells C1 5)).setCell ⟨w.heap.size, i, none⟩ (.slice (some ⟨wr.heap.size, 0, none⟩) cols cols) = w2 at hO2 hN2 hI2 hB3 ⊢
      generalize wr.heap.size = nb at HBn HGl hO2 hN2 hB3 ⊢
      rw [EZ.out] at hN2
      clear EZ
      have HCS := Lib.hid HO.out.1
      have HCB := Lib.hid HO.out.2.2
      have HO2 := Lib.hid hO2
      have HN2 := Lib.hid hN2
      have HI2 := Lib.hid hI2
      have HB3 := Lib.hid hB3
      clear hO2 hN2 hI2 hB3 HO
      go_loopg [27] cols (fun g2 s27 wx => ∃ j : Nat, j + g2 = cols ∧ s27 = .int .i64 j ∧ Aside0 (wx.heap[w.heap.size]? = some (.cells (cs.setIfInBounds i (.slice (some ⟨nb, 0, none⟩) cols cols)) 23 (0, 0))) ∧ Aside0 (wx.heap[nb]? = some (.cells (encs (Value.int .u8) (mrow (G i) cols j)).toArray 5 (0, 0))) ∧ Aside0 (inn wx w.heap.size i b (fun i => (List.range cols).map (G i)) cols) ∧ Aside0 (Below w.heap.size w wx))
      case atStart => exact ⟨0, by omega, rfl, ⟨HO2.out⟩, ⟨HN2.out⟩, ⟨HI2.out⟩, ⟨HB3.out⟩⟩
      case round =>
        clear HO2 HN2 HI2 HB3
        obtain ⟨j, hjg, rfl, HO, HN, HI, HB⟩ := hrel
        cases gk with
        | zero =>
          obtain rfl : j = cols := by omega
          go_wp2_with fail
          go_roundg g
          case measure => omega
          case rel =>
            refine ⟨i + 1, fun k => if k = i then nb else b k, _, by omega, by go_num, ⟨?_, HO.out, fun k hk => ?_⟩, ⟨HI.out.snoc HBn.out (by rw [← mrow_all]; exact HN.out) (by simp) HGl.out⟩, ⟨HB.out⟩⟩
            · rw [Array.size_setIfInBounds]; exact HCS.out
            · by_cases e : k = i
              · subst e; rw [Array.getElem?_setIfInBounds_self_of_lt (by have := HCS.out; omega)]; simp
              · rw [Array.getElem?_setIfInBounds_ne (fun h => e h.symm)]; show cs[k]? = some (.slice (some ⟨if k = i then nb else b k, 0, none⟩) _ _); rw [if_neg e]; exact HCB.out k (by omega)
        | succ g2 =>
          have hj : (j : Int) < (cols : Int) := by omega
          have hcs : (cs.setIfInBounds i (.slice (some ⟨nb, 0, none⟩) cols cols))[i]? = some (.slice (some ⟨nb, 0, none⟩) cols cols) := Array.getElem?_setIfInBounds_self_of_lt (by have := HCS.out; omega)
          have hx1 : wr.cell? ⟨w.heap.size, i, none⟩ = some (.slice (some ⟨nb, 0, none⟩) cols cols) := (blk_cell HO.out i).trans hcs
          have HC1 := Lib.hid (HC.out i j)
          clear hcs
          have hm : (encs (Value.int .u8) (mrow (G i) cols j)).toArray[j]? = some (.int .u8 ((mrow (G i) cols j)[j]'(by rw [mrow_len _ (by omega)]; omega))) := by
            rw [List.getElem?_toArray]; simp [encs]
          have HM := Lib.hid hm
          clear hm
          go_wp2_with fail
          go_region_held3 (fun w' => w'.cell? ⟨w.heap.size, i, none⟩ = some (.slice (some ⟨nb, 0, none⟩) cols cols)) (first | go_keep | assumption | (rw [far_cell (by have := HGl.out; show w.heap.size ≠ nb; omega)]; assumption)) (first | ((go_at_call 53; refine (HC1.out _ (by omega) (by omega) (below_drew HB.out)).mono ?_; rintro e w' ⟨rfl, hb⟩; have hx2 : w'.cell? ⟨w.heap.size, i, none⟩ = some (.slice (some ⟨nb, 0, none⟩) cols cols) := (hb.cell (p := ⟨w.heap.size, i, none⟩) (blk_lt HO.out)).trans hx1; have hN2 := (hb.block _ (blk_lt HN.out)).trans HN.out; have hy2 := (blk_cell hN2 j).trans HM.out; have hz2 := blk_frozen hN2 j; have HB4 := Lib.hid hb; clear hb; replace hN2 := Lib.hid hN2)))
          have HW := Lib.hid (below_step (below_drew (Below.refl wr.heap.size wr)) HB4.out)
          have HB5 := Lib.hid (below_step (below_drew HB.out) HB4.out)
          have HO5 := Lib.hid (blk_far ((HW.out.block _ (blk_lt HO.out)).trans HO.out) (p := ⟨nb, j, none⟩) (by have := HGl.out; show w.heap.size ≠ nb; omega) (.int .u8 (G i j)))
          have HI5 := Lib.hid ((HI.out.below HW.out).keep (W' := w'.setCell ⟨nb, j, none⟩ (.int .u8 (G i j))) (fun k hk => Below.heap_setCell _ _ _ _ (by have := HBn.out k hk; show b k ≠ nb; omega)))
          have HN5 := Lib.hid (blk_put (cs' := (encs (Value.int .u8) (mrow (G i) cols (j + 1))).toArray) hN2.out j (.int .u8 (G i j)) (by rw [← mrow_set (G i) (by omega)]; simp [encs]))
          clear hx2 hy2 hz2 hx1
          go_wp2_with fail
          go_roundg g2
          case measure => omega
          case rel => exact ⟨j + 1, by omega, by go_num, ⟨HO5.out⟩, ⟨HN5.out⟩, ⟨HI5.out⟩, ⟨below_set HB5.out (by have := HGl.out; omega)⟩⟩
set_option maxHeartbeats 4000000 in
theorem made_Cauchy (rows cols : Nat) (G : Nat → Nat → Int) (w : World) (hr : rows ≤ 100) (hc : cols ≤ 100) (cap0 : Addr)
    (hcall : ∀ (i j : Nat) (W : World), i < rows → j < cols → Below w.heap.size w W → Calls Try.prog 54 #[.int .i64 i, .int .i64 j, .pointer (some cap0)] W (fun e w' => e = .returned (.int .u8 (G i j)) ∧ Below W.heap.size W w')) :
    Calls Try.prog 52 #[.int .i64 rows, .int .i64 cols, .func (.func 54) #[] #[.pointer (some cap0)]] w fun e w' => ∃ b, e = .returned (.slice (some ⟨w.heap.size, 0, none⟩) rows rows) ∧ Rows w' w.heap.size rows b (fun i => (List.range cols).map (G i)) cols ∧ Below w.heap.size w w' := by
  have hm1 := print_make_of 24 23 (.slice none 0 0) 24 Try.underlying24 mk_info2 rfl (by omega) rows (by omega) w
  have e2 : (madeCells #[Value.slice none 0 0] rows).size = rows := by
    rw [← Array.length_toList, toList_madeCells_one, List.length_replicate]
  generalize madeCells #[Value.slice none 0 0] rows = C0 at hm1 e2
  have E2 := Lib.hid e2
  have HC := Lib.hid hcall
  clear e2 hcall
  go_enter Try.func52, Try.ntmps52
  go_wp2_with fail
  go_loopg [14] rows (fun g s14 wx => ∃ (i : Nat) (b : Nat → Nat) (cs : Array Value), i + g = rows ∧ s14 = .int .i64 i ∧ Aside0 (cs.size = rows ∧ wx.heap[w.heap.size]? = some (.cells cs 23 (0, 0)) ∧ ∀ k, k < i → cs[k]? = some (.slice (some ⟨b k, 0, none⟩) cols cols)) ∧ Aside0 (inn wx w.heap.size i b (fun i => (List.range cols).map (G i)) cols) ∧ Aside0 (Below w.heap.size w wx))
  case atStart => exact ⟨0, fun _ => 0, C0, by omega, rfl, ⟨E2.out, blk_new w _, fun k hk => absurd hk (by omega)⟩, ⟨fun i hi => absurd hi (by omega), fun i j hi => absurd hi (by omega)⟩, ⟨below_alloc (Below.refl _ _) _⟩⟩
  case round =>
    clear hm1
    obtain ⟨i, b, cs, hig, rfl, HO, HR, HB⟩ := hrel
    cases gk with
    | zero =>
      obtain rfl : i = rows := by omega
      go_wp2_with fail
      go_ret
      exact ⟨b, rfl, ⟨⟨cs, HO.out.2.1, HO.out.1, HO.out.2.2⟩, HR.out⟩, HB.out⟩
    | succ g =>
      have hi : (i : Int) < (rows : Int) := by omega
      have hm2 := print_make 23 5 .u8 1 Try.underlying23 mk_info (by omega) cols (by omega) wr
      have ez := mrow_zero (G i) cols
      generalize madeCells #[Value.int .u8 0] cols = C1 at hm2 ez
      have HG := Lib.hid (blk_alloc HO.out.2.1 (.cells C1 5))
      obtain ⟨v0, hv0⟩ : ∃ v0, cs[i]? = some v0 := ⟨cs[i]'(by have := HO.out.1; omega), by simp⟩
      have hx : (wr.alloc (.cells C1 5)).cell? ⟨w.heap.size, i, none⟩ = some v0 := (blk_cell HG.out i).trans hv0
      have hf := blk_frozen HG.out i
      have HN := Lib.hid (blk_new wr (.cells C1 5))
      have HIN := Lib.hid (HR.out.below (below_alloc (Below.refl _ _) (.cells C1 5)))
      have HBn := Lib.hid (show ∀ k, k < i → b k < wr.heap.size from fun k hk => blk_lt (HR.out.1 k hk).1)
      have HB2 := Lib.hid (below_alloc HB.out (.cells C1 5))
      have HGl := Lib.hid (blk_lt HO.out.2.1)
      have EZ := Lib.hid ez
      clear hv0 HR HB ez
      go_wp2_with fail
      have hO2 := blk_set HG.out i (.slice (some ⟨wr.heap.size, 0, none⟩) cols cols)
      have hN2 := blk_far HN.out (p := ⟨w.heap.size, i, none⟩) (by have := HGl.out; show wr.heap.size ≠ w.heap.size; omega) (.slice (some ⟨wr.heap.size, 0, none⟩) cols cols)
      have hI2 := HIN.out.keep (W' := (wr.alloc (.cells C1 5)).setCell ⟨w.heap.size, i, none⟩ (.slice (some ⟨wr.heap.size, 0, none⟩) cols cols)) (fun k hk => Below.heap_setCell _ _ _ _ (by have := (HIN.out.1 k hk).2.2; show b k ≠ w.heap.size; omega))
      have hB3 := below_set (j := i) (v := .slice (some ⟨wr.heap.size, 0, none⟩) cols cols) HB2.out (Nat.le_refl _)
      clear hx hf hm2 HG HN HIN HB2
      generalize (wr.alloc (.cells C1 5)).setCell ⟨w.heap.size, i, none⟩ (.slice (some ⟨wr.heap.size, 0, none⟩) cols cols) = w2 at hO2 hN2 hI2 hB3 ⊢
      generalize wr.heap.size = nb at HBn HGl hO2 hN2 hB3 ⊢
      rw [EZ.out] at hN2
      clear EZ
      have HCS := Lib.hid HO.out.1
      have HCB := Lib.hid HO.out.2.2
      have HO2 := Lib.hid hO2
      have HN2 := Lib.hid hN2
      have HI2 := Lib.hid hI2
      have HB3 := Lib.hid hB3
      clear hO2 hN2 hI2 hB3 HO
      go_loopg [27] cols (fun g2 s27 wx => ∃ j : Nat, j + g2 = cols ∧ s27 = .int .i64 j ∧ Aside0 (wx.heap[w.heap.size]? = some (.cells (cs.setIfInBounds i (.slice (some ⟨nb, 0, none⟩) cols cols)) 23 (0, 0))) ∧ Aside0 (wx.heap[nb]? = some (.cells (encs (Value.int .u8) (mrow (G i) cols j)).toArray 5 (0, 0))) ∧ Aside0 (inn wx w.heap.size i b (fun i => (List.range cols).map (G i)) cols) ∧ Aside0 (Below w.heap.size w wx))
      case atStart => exact ⟨0, by omega, rfl, ⟨HO2.out⟩, ⟨HN2.out⟩, ⟨HI2.out⟩, ⟨HB3.out⟩⟩
      case round =>
        clear HO2 HN2 HI2 HB3
        obtain ⟨j, hjg, rfl, HO, HN, HI, HB⟩ := hrel
        cases gk with
        | zero =>
          obtain rfl : j = cols := by omega
          go_wp2_with fail
          go_roundg g
          case measure => omega
          case rel =>
            refine ⟨i + 1, fun k => if k = i then nb else b k, _, by omega, by go_num, ⟨?_, HO.out, fun k hk => ?_⟩, ⟨HI.out.snoc HBn.out (by rw [← mrow_all]; exact HN.out) (by simp) HGl.out⟩, ⟨HB.out⟩⟩
            · rw [Array.size_setIfInBounds]; exact HCS.out
            · by_cases e : k = i
              · subst e; rw [Array.getElem?_setIfInBounds_self_of_lt (by have := HCS.out; omega)]; simp
              · rw [Array.getElem?_setIfInBounds_ne (fun h => e h.symm)]; show cs[k]? = some (.slice (some ⟨if k = i then nb else b k, 0, none⟩) _ _); rw [if_neg e]; exact HCB.out k (by omega)
        | succ g2 =>
          have hj : (j : Int) < (cols : Int) := by omega
          have hcs : (cs.setIfInBounds i (.slice (some ⟨nb, 0, none⟩) cols cols))[i]? = some (.slice (some ⟨nb, 0, none⟩) cols cols) := Array.getElem?_setIfInBounds_self_of_lt (by have := HCS.out; omega)
          have hx1 : wr.cell? ⟨w.heap.size, i, none⟩ = some (.slice (some ⟨nb, 0, none⟩) cols cols) := (blk_cell HO.out i).trans hcs
          have HC1 := Lib.hid (HC.out i j)
          clear hcs
          have hm : (encs (Value.int .u8) (mrow (G i) cols j)).toArray[j]? = some (.int .u8 ((mrow (G i) cols j)[j]'(by rw [mrow_len _ (by omega)]; omega))) := by
            rw [List.getElem?_toArray]; simp [encs]
          have HM := Lib.hid hm
          clear hm
          go_wp2_with fail
          go_region_held3 (fun w' => w'.cell? ⟨w.heap.size, i, none⟩ = some (.slice (some ⟨nb, 0, none⟩) cols cols)) (first | go_keep | assumption | (rw [far_cell (by have := HGl.out; show w.heap.size ≠ nb; omega)]; assumption)) (first | ((go_at_call 54; refine (HC1.out _ (by omega) (by omega) (below_drew HB.out)).mono ?_; rintro e w' ⟨rfl, hb⟩; have hx2 : w'.cell? ⟨w.heap.size, i, none⟩ = some (.slice (some ⟨nb, 0, none⟩) cols cols) := (hb.cell (p := ⟨w.heap.size, i, none⟩) (blk_lt HO.out)).trans hx1; have hN2 := (hb.block _ (blk_lt HN.out)).trans HN.out; have hy2 := (blk_cell hN2 j).trans HM.out; have hz2 := blk_frozen hN2 j; have HB4 := Lib.hid hb; clear hb; replace hN2 := Lib.hid hN2)))
          have HW := Lib.hid (below_step (below_drew (Below.refl wr.heap.size wr)) HB4.out)
          have HB5 := Lib.hid (below_step (below_drew HB.out) HB4.out)
          have HO5 := Lib.hid (blk_far ((HW.out.block _ (blk_lt HO.out)).trans HO.out) (p := ⟨nb, j, none⟩) (by have := HGl.out; show w.heap.size ≠ nb; omega) (.int .u8 (G i j)))
          have HI5 := Lib.hid ((HI.out.below HW.out).keep (W' := w'.setCell ⟨nb, j, none⟩ (.int .u8 (G i j))) (fun k hk => Below.heap_setCell _ _ _ _ (by have := HBn.out k hk; show b k ≠ nb; omega)))
          have HN5 := Lib.hid (blk_put (cs' := (encs (Value.int .u8) (mrow (G i) cols (j + 1))).toArray) hN2.out j (.int .u8 (G i j)) (by rw [← mrow_set (G i) (by omega)]; simp [encs]))
          clear hx2 hy2 hz2 hx1
          go_wp2_with fail
          go_roundg g2
          case measure => omega
          case rel => exact ⟨j + 1, by omega, by go_num, ⟨HO5.out⟩, ⟨HN5.out⟩, ⟨HI5.out⟩, ⟨below_set HB5.out (by have := HGl.out; omega)⟩⟩
end Go.Proofs.Ythhncoogmncdkaa
namespace Go.Proofs.Ythhncoogmncdkaa
open Go Go.RowKit Go.Proofs.YthhncoogmncdkaaW.PrintWords Go.Proofs.YthhncoogmncdkaaW.PrintLast Go.Proofs.YthhncoogmncdkaaW.PrintMore
set_option linter.unusedVariables false
/-- a block whose first cells are these -/
def RowV (W : World) (g : Nat) (t : TypeId) (c : Nat) (vs : List Value) : Prop :=
  ∃ cur : Array Value, W.heap[g]? = some (.cells cur t (0, 0)) ∧ vs.length ≤ c ∧ c ≤ maxLen ∧ cur.size = c ∧ cur.toList.take vs.length = vs
theorem RowV.lt {W : World} {g : Nat} {t : TypeId} {c : Nat} {vs : List Value} (h : RowV W g t c vs) : g < W.heap.size := by
  obtain ⟨cur, h1, _⟩ := h
  exact blk_lt h1
theorem RowV.keep {W W' : World} {g : Nat} {t : TypeId} {c : Nat} {vs : List Value} (h : RowV W g t c vs) (hk : W'.heap[g]? = W.heap[g]?) : RowV W' g t c vs := by
  obtain ⟨cur, h1, h2⟩ := h
  exact ⟨cur, hk.trans h1, h2⟩
theorem RowV.cell {W : World} {g : Nat} {t : TypeId} {c : Nat} {vs : List Value} (h : RowV W g t c vs) {i : Nat} (hi : i < vs.length) : W.cell? ⟨g, i, none⟩ = some vs[i] := by
  obtain ⟨cur, h1, h2, h3, h4, h5⟩ := h
  rw [blk_cell h1, ← Array.getElem?_toList]
  have : vs[i]? = (cur.toList.take vs.length)[i]? := by rw [h5]
  rw [List.getElem?_take_of_lt hi] at this
  rw [← this, List.getElem?_eq_getElem hi]
theorem RowV.frozen {W : World} {g : Nat} {t : TypeId} {c : Nat} {vs : List Value} (h : RowV W g t c vs) (i : Nat) : W.frozen? ⟨g, i, none⟩ = false := by
  obtain ⟨cur, h1, _⟩ := h
  exact blk_frozen h1 i
theorem RowV.set {W : World} {g : Nat} {t : TypeId} {c : Nat} {vs : List Value} (h : RowV W g t c vs) {i : Nat} (hi : i < vs.length) (v : Value) : RowV (W.setCell ⟨g, i, none⟩ v) g t c (vs.set i v) := by
  obtain ⟨cur, h1, h2, h3, h4, h5⟩ := h
  refine ⟨cur.setIfInBounds i v, blk_put h1 i v rfl, by simpa using h2, h3, by simpa using h4, ?_⟩
  rw [Array.toList_setIfInBounds, List.length_set, List.take_set, h5]
theorem RowV.far {W : World} {g : Nat} {t : TypeId} {c : Nat} {vs : List Value} (h : RowV W g t c vs) {p : Addr} (hp : g ≠ p.block) (v : Value) : RowV (W.setCell p v) g t c vs :=
  h.keep (Below.heap_setCell W p v g hp)
theorem RowV.R {W : World} {g base c : Nat} {l : List Int} (h : RowV W g 5 c (encs (Value.int .u8) l)) (hb : base ≤ g) : Kd.R (Kd.int .u8) 5 W base (fun k => k = g) (.slice (some ⟨g, 0, none⟩) l.length c) l := by
  obtain ⟨cur, h1, h2, h3, h4, h5⟩ := h
  have hl : (encs (Value.int .u8) l).length = l.length := by simp [encs]
  rw [hl] at h2 h5
  refine Kd.R_of_own (h1 := fun _ => rfl) ⟨by simp [encs], .inr ⟨g, c, cur, rfl, hb, h1, h2, h3, by rw [h4, Nat.mul_one], by rw [Nat.mul_one]; exact h5⟩⟩ (fun k hk => ?_)
  have : k = g := by simpa [Value.ownBlock, eq_comm] using hk
  exact this
theorem RowV.of_R {W : World} {g base c n : Nat} {l : List Int} {ok : Nat → Prop} (h : Kd.R (Kd.int .u8) 5 W base ok (.slice (some ⟨g, 0, none⟩) n c) l) : RowV W g 5 c (encs (Value.int .u8) l) ∧ l.length = n := by
  obtain ⟨_, inner, ho, hl, hrep⟩ := h
  have hn : n = l.length := (Kd.R_reads' ⟨‹_›, inner, ho, hl, hrep⟩).1
  subst hn
  have hi : inner = encs (Value.int .u8) l := by
    apply List.ext_getElem?
    intro j
    have hs : inner.length = l.length := by simpa [Kd.int, Kd.scalar] using hl
    by_cases hj : j < l.length
    · have := hrep j l[j] (List.getElem?_eq_getElem hj)
      have e : (inner.drop (j * 1)).take 1 = [Value.int .u8 l[j]] := this
      rw [Nat.mul_one, List.drop_eq_getElem_cons (by omega)] at e
      simp only [List.take_succ_cons, List.take_zero, List.cons.injEq, and_true] at e
      rw [List.getElem?_eq_getElem (by omega), e]
      simp [encs, hj]
    · rw [List.getElem?_eq_none (by omega), List.getElem?_eq_none (by simp [encs]; omega)]
  subst hi
  refine ⟨?_, rfl⟩
  rcases ho.2 with ⟨h0, _⟩ | ⟨g', cap, cur, hv, hb, hh, h2, h3, h4, h5⟩
  · cases h0
  · injection hv with hv1 hv2 hv3
    injection hv1 with hv1
    injection hv1 with hv1
    subst hv1 hv3
    refine ⟨cur, hh, by simpa [encs] using h2, h3, by simpa [Kd.int, Kd.scalar] using h4, ?_⟩
    have : cur.toList.take (l.length * 1) = encs (Value.int .u8) l := h5
    rw [Nat.mul_one] at this
    simpa [encs] using this
theorem RowV.of_raw {W : World} {g base c n : Nat} {t : TypeId} {rows : List (List Value)} {ok : Nat → Prop} (h : Kd.R (Kd.raw 1) t W base ok (.slice (some ⟨g, 0, none⟩) n c) rows) : ∃ vs : List Value, RowV W g t c vs ∧ vs.length = n ∧ n = rows.length ∧ base ≤ g := by
  obtain ⟨_, inner, ho, hl, hrep⟩ := h
  have hn : n = rows.length := (Kd.R_reads' ⟨‹_›, inner, ho, hl, hrep⟩).1
  have hi : inner.length = n := by rw [hl, hn]; simp [Kd.raw]
  rcases ho.2 with ⟨h0, _⟩ | ⟨g', cap, cur, hv, hb, hh, h2, h3, h4, h5⟩
  · cases h0
  · injection hv with hv1 hv2 hv3
    injection hv1 with hv1
    injection hv1 with hv1
    subst hv1 hv3
    refine ⟨inner, ⟨cur, hh, by omega, h3, by simpa [Kd.raw] using h4, ?_⟩, hi, hn, hb⟩
    have : cur.toList.take (rows.length * 1) = inner := h5
    rw [Nat.mul_one, ← hn, ← hi] at this
    exact this
def rw_ (M : List (List Int)) (i : Nat) : List Int := M.getD i []
theorem rw_set {M : List (List Int)} {i : Nat} (hi : i < M.length) (r : List Int) (k : Nat) : rw_ (M.set i r) k = if k = i then r else rw_ M k := by
  unfold rw_
  rw [List.getD_eq_getElem?_getD, List.getD_eq_getElem?_getD, List.getElem?_set]
  by_cases h : i = k
  · subst h; simp [hi]
  · rw [if_neg h, if_neg (fun z => h z.symm)]
def outC (n : Nat) (b c : Nat → Nat) (m : Nat) : List Value := (List.range n).map (fun i => Value.slice (some ⟨b i, 0, none⟩) m (c i))
theorem outC_length (n : Nat) (b c : Nat → Nat) (m : Nat) : (outC n b c m).length = n := by simp [outC]
def Mat (W : World) (S : Nat → Prop) (g cap : Nat) (b c : Nat → Nat) (M : List (List Int)) (m : Nat) : Prop :=
  RowV W g 23 cap (outC M.length b c m) ∧ S g ∧ (∀ i, i < M.length → b i ≠ g ∧ S (b i) ∧ (rw_ M i).length = m ∧ RowV W (b i) 5 (c i) (encs (Value.int .u8) (rw_ M i))) ∧ ∀ i j, i < M.length → j < M.length → b i = b j → i = j
section
variable {W W' : World} {S : Nat → Prop} {g cap m : Nat} {b c : Nat → Nat} {M : List (List Int)}
theorem Mat.out (h : Mat W S g cap b c M m) {i : Nat} (hi : i < M.length) : W.cell? ⟨g, i, none⟩ = some (.slice (some ⟨b i, 0, none⟩) m (c i)) := by
  have := h.1.cell (i := i) (by rw [outC_length]; exact hi)
  rw [this]
  simp [outC]
theorem Mat.outF (h : Mat W S g cap b c M m) (i : Nat) : W.frozen? ⟨g, i, none⟩ = false := h.1.frozen i
theorem Mat.at_ (h : Mat W S g cap b c M m) {i j : Nat} (hi : i < M.length) (hj : j < m) : W.cell? ⟨b i, j, none⟩ = some (.int .u8 (rd (rw_ M i) (j : Int))) := by
  obtain ⟨h1, h2, h3, h4⟩ := h.2.2.1 i hi
  have := h4.cell (i := j) (by simp [encs]; omega)
  rw [this]
  simp [encs, rd, show j < (rw_ M i).length by omega]
theorem Mat.keep (h : Mat W S g cap b c M m) (hk : ∀ k, S k → W'.heap[k]? = W.heap[k]?) : Mat W' S g cap b c M m :=
  ⟨h.1.keep (hk g h.2.1), h.2.1, fun i hi => ⟨(h.2.2.1 i hi).1, (h.2.2.1 i hi).2.1, (h.2.2.1 i hi).2.2.1, (h.2.2.1 i hi).2.2.2.keep (hk _ (h.2.2.1 i hi).2.1)⟩, h.2.2.2⟩
theorem Mat.size (h : Mat W S g cap b c M m) : Mat W (fun k => S k ∧ k < W.heap.size) g cap b c M m :=
  ⟨h.1, ⟨h.2.1, h.1.lt⟩, fun i hi => ⟨(h.2.2.1 i hi).1, ⟨(h.2.2.1 i hi).2.1, (h.2.2.1 i hi).2.2.2.lt⟩, (h.2.2.1 i hi).2.2⟩, h.2.2.2⟩
theorem Mat.mono {S' : Nat → Prop} (h : Mat W S g cap b c M m) (hS : ∀ k, S k → S' k) : Mat W S' g cap b c M m :=
  ⟨h.1, hS g h.2.1, fun i hi => ⟨(h.2.2.1 i hi).1, hS _ (h.2.2.1 i hi).2.1, (h.2.2.1 i hi).2.2⟩, h.2.2.2⟩
theorem Mat.below (h : Mat W S g cap b c M m) (hb : Below W.heap.size W W') : Mat W' S g cap b c M m :=
  (h.size.keep fun k hk => hb.block k hk.2).mono fun _ hk => hk.1
theorem Mat.len (h : Mat W S g cap b c M m) {i : Nat} (hi : i < M.length) : (rw_ M i).length = m := (h.2.2.1 i hi).2.2.1
theorem Mat.R (h : Mat W S g cap b c M m) {i base : Nat} (hi : i < M.length) (hb : base ≤ b i) : Kd.R (Kd.int .u8) 5 W base (fun k => k = b i) (.slice (some ⟨b i, 0, none⟩) m (c i)) (rw_ M i) := by
  obtain ⟨h1, h2, h3, h4⟩ := h.2.2.1 i hi
  have := h4.R hb
  rwa [h3] at this
theorem Mat.C (h : Mat W S g cap b c M m) {i : Nat} (hi : i < M.length) : Kd.C (Kd.int .u8) W (some ⟨b i, 0, none⟩) (rw_ M i).length (rw_ M i) ∧ (rw_ M i).length ≤ c i := by
  have := Kd.R_reads' (h.R hi (Nat.le_refl _))
  exact ⟨this.2.2, by rw [← this.1]; exact this.2.1⟩
/-- a row is written -/
theorem Mat.setrow (h : Mat W S g cap b c M m) {i base : Nat} {ok : Nat → Prop} {r : List Int} (hi : i < M.length) (hr : Kd.R (Kd.int .u8) 5 W' base ok (.slice (some ⟨b i, 0, none⟩) m (c i)) r) (hk : ∀ k, S k → k < W.heap.size → k ≠ b i → W'.heap[k]? = W.heap[k]?) : Mat W' S g cap b c (M.set i r) m := by
  obtain ⟨hr1, hr2⟩ := RowV.of_R hr
  refine ⟨?_, h.2.1, fun k hk' => ?_, fun p q hp hq => h.2.2.2 p q (by simpa using hp) (by simpa using hq)⟩
  · rw [List.length_set]
    exact h.1.keep (hk g h.2.1 h.1.lt (fun z => (h.2.2.1 i hi).1 z.symm))
  · have hk2 : k < M.length := by simpa using hk'
    rw [rw_set hi]
    obtain ⟨h1, h2, h3, h4⟩ := h.2.2.1 k hk2
    by_cases e : k = i
    · subst e
      rw [if_pos rfl]
      exact ⟨h1, h2, hr2, hr1⟩
    · rw [if_neg e]
      exact ⟨h1, h2, h3, h4.keep (hk _ h2 h4.lt (fun z => e (h.2.2.2 _ _ hk2 hi z)))⟩
theorem Mat.setrowV (h : Mat W S g cap b c M m) {i : Nat} {r : List Int} (hi : i < M.length) (hr : RowV W' (b i) 5 (c i) (encs (Value.int .u8) r)) (hl : r.length = m) (hk : ∀ k, S k → k < W.heap.size → k ≠ b i → W'.heap[k]? = W.heap[k]?) : Mat W' S g cap b c (M.set i r) m := by
  refine ⟨?_, h.2.1, fun k hk' => ?_, fun p q hp hq => h.2.2.2 p q (by simpa using hp) (by simpa using hq)⟩
  · rw [List.length_set]
    exact h.1.keep (hk g h.2.1 h.1.lt (fun z => (h.2.2.1 i hi).1 z.symm))
  · have hk2 : k < M.length := by simpa using hk'
    rw [rw_set hi]
    obtain ⟨h1, h2, h3, h4⟩ := h.2.2.1 k hk2
    by_cases e : k = i
    · subst e
      rw [if_pos rfl]
      exact ⟨h1, h2, hl, hr⟩
    · rw [if_neg e]
      exact ⟨h1, h2, h3, h4.keep (hk _ h2 h4.lt (fun z => e (h.2.2.2 _ _ hk2 hi z)))⟩
/-- one number is written -/
theorem Mat.store (h : Mat W S g cap b c M m) {i j : Nat} (hi : i < M.length) (hj : j < m) (v : Int) : Mat (W.setCell ⟨b i, j, none⟩ (.int .u8 v)) S g cap b c (M.set i ((rw_ M i).set j v)) m := by
  obtain ⟨h1, h2, h3, h4⟩ := h.2.2.1 i hi
  refine h.setrowV hi ?_ (by rw [List.length_set]; exact h3) (fun k _ _ hne => Below.heap_setCell _ ⟨b i, j, none⟩ _ k hne)
  have := h4.set (i := j) (by simp [encs]; omega) (.int .u8 v)
  have e : (encs (Value.int .u8) (rw_ M i)).set j (.int .u8 v) = encs (Value.int .u8) ((rw_ M i).set j v) := by simp [encs]
  rwa [e] at this
theorem Mat.atF (h : Mat W S g cap b c M m) {i : Nat} (hi : i < M.length) (j : Nat) : W.frozen? ⟨b i, j, none⟩ = false := (h.2.2.1 i hi).2.2.2.frozen j
/-- cells are copied to the row's start -/
theorem Mat.copy (h : Mat W S g cap b c M m) {i : Nat} (hi : i < M.length) (l : List Int) (hl : l.length ≤ m) : ∃ cur : Array Value, W.heap[b i]? = some (.cells cur 5 (0, 0)) ∧ l.length ≤ cur.size ∧
    Mat (W.setRow (b i) (cur.toList.take 0 ++ (nums .u8 l ++ cur.toList.drop (0 + (nums .u8 l).length))).toArray) S g cap b c (M.set i (l ++ (rw_ M i).drop l.length)) m := by
  obtain ⟨h1, h2, h3, cur, q1, q2, q3, q4, q5⟩ := h.2.2.1 i hi
  have hr : (encs (Value.int .u8) (rw_ M i)).length = m := by simp [encs, h3]
  rw [hr] at q2 q5
  refine ⟨cur, q1, by omega, h.setrowV hi ⟨_, setRow_heap W (b i) _ _ _ _ q1, ?_, q3, ?_, ?_⟩ (by simp; omega) (fun k _ _ hne => setRow_other W (b i) k _ hne)⟩
  · simp [encs]; omega
  · simp [nums]; omega
  · have e : cur.toList.take 0 ++ (nums .u8 l ++ cur.toList.drop (0 + (nums .u8 l).length)) = nums .u8 l ++ cur.toList.drop l.length := by simp [nums]
    have e2 : (encs (Value.int .u8) (l ++ (rw_ M i).drop l.length)).length = m := by simp [encs]; omega
    rw [e, e2, List.toList_toArray, List.take_append]
    have e3 : (nums .u8 l).length = l.length := by simp [nums]
    rw [e3, List.take_of_length_le (by omega)]
    have e4 : (cur.toList.drop l.length).take (m - l.length) = (cur.toList.take m).drop l.length := by rw [List.drop_take]
    rw [e4, q5]
    simp [encs, nums]
/-- two rows change places -/
def swp (i j : Nat) {α : Type} (f : Nat → α) (k : Nat) : α := if k = i then f j else if k = j then f i else f k
def swL (M : List (List Int)) (i j : Nat) : List (List Int) := (M.set i (rw_ M j)).set j (rw_ M i)
theorem swL_len (M : List (List Int)) (i j : Nat) : (swL M i j).length = M.length := by simp [swL]
theorem rw_swL {M : List (List Int)} {i j : Nat} (hi : i < M.length) (hj : j < M.length) (k : Nat) : rw_ (swL M i j) k = swp i j (rw_ M) k := by
  unfold swL swp
  rw [rw_set (by simpa using hj), rw_set hi]
  by_cases e : k = j
  · by_cases e2 : k = i
    · rw [if_pos e, if_pos e2, ← e2, e]
    · rw [if_pos e, if_neg e2, if_pos e]
  · rw [if_neg e]
    by_cases e2 : k = i
    · rw [if_pos e2, if_pos e2]
    · rw [if_neg e2, if_neg e2, if_neg e]
theorem Mat.swap (h : Mat W S g cap b c M m) {i j : Nat} (hi : i < M.length) (hj : j < M.length) : Mat ((W.setCell ⟨g, i, none⟩ (.slice (some ⟨b j, 0, none⟩) m (c j))).setCell ⟨g, j, none⟩ (.slice (some ⟨b i, 0, none⟩) m (c i))) S g cap (swp i j b) (swp i j c) (swL M i j) m := by
  refine ⟨?_, h.2.1, fun k hk => ?_, fun p q hp hq e => ?_⟩
  · have := (h.1.set (i := i) (by rw [outC_length]; exact hi) (.slice (some ⟨b j, 0, none⟩) m (c j))).set (i := j) (by rw [List.length_set, outC_length]; exact hj) (.slice (some ⟨b i, 0, none⟩) m (c i))
    rw [swL_len]
    have e : ((outC M.length b c m).set i (.slice (some ⟨b j, 0, none⟩) m (c j))).set j (.slice (some ⟨b i, 0, none⟩) m (c i)) = outC M.length (swp i j b) (swp i j c) m := by
      apply List.ext_getElem?
      intro k
      by_cases hk : k < M.length
      · rw [List.getElem?_set, List.getElem?_set]
        simp only [outC, List.length_set, List.length_map, List.length_range, List.getElem?_map, List.getElem?_range hk, Option.map_some, swp]
        by_cases e1 : j = k
        · subst e1
          by_cases e2 : j = i
          · subst e2; simp [hk]
          · simp [hk, e2]
        · by_cases e2 : i = k
          · subst e2; simp [hk, e1]
          · have n1 : ¬ k = i := fun z => e2 z.symm
            have n2 : ¬ k = j := fun z => e1 z.symm
            simp [e1, e2, n1, n2]
      · rw [List.getElem?_eq_none (by simp [outC]; omega), List.getElem?_eq_none (by simp [outC]; omega)]
    rw [e] at this
    exact this
  · rw [swL_len] at hk
    rw [rw_swL hi hj]
    have hall : ∀ q, q < M.length → b q ≠ g ∧ S (b q) ∧ (rw_ M q).length = m ∧ RowV ((W.setCell ⟨g, i, none⟩ (.slice (some ⟨b j, 0, none⟩) m (c j))).setCell ⟨g, j, none⟩ (.slice (some ⟨b i, 0, none⟩) m (c i))) (b q) 5 (c q) (encs (Value.int .u8) (rw_ M q)) := fun q hq => by
      obtain ⟨h1, h2, h3, h4⟩ := h.2.2.1 q hq
      exact ⟨h1, h2, h3, (h4.far (p := ⟨g, i, none⟩) h1 _).far (p := ⟨g, j, none⟩) h1 _⟩
    unfold swp
    by_cases e1 : k = i
    · simp only [if_pos e1]; exact hall j hj
    · by_cases e2 : k = j
      · simp only [if_neg e1, if_pos e2]; exact hall i hi
      · simp only [if_neg e1, if_neg e2]; exact hall k hk
  · rw [swL_len] at hp hq
    unfold swp at e
    split at e <;> split at e <;> (try split at e) <;> (try split at e) <;> (first | omega | (have := h.2.2.2 _ _ (by omega) (by omega) e; omega))
theorem Mat.mid (h : Mat W S g cap b c M m) {i j : Nat} (hi : i < M.length) (hj : j < M.length) (v : Value) : (∃ X, (W.setCell ⟨g, i, none⟩ v).cell? ⟨g, j, none⟩ = some X) ∧ (W.setCell ⟨g, i, none⟩ v).frozen? ⟨g, j, none⟩ = false :=
  ⟨⟨_, (h.1.set (i := i) (by rw [outC_length]; exact hi) v).cell (i := j) (by rw [List.length_set, outC_length]; exact hj)⟩, (h.1.set (i := i) (by rw [outC_length]; exact hi) v).frozen j⟩
theorem Mat.kept {P : Nat → Prop} (h : Mat W S g cap b c M m) (hk : Kept W W' P) (hp : ∀ k, S k → ¬ P k) : Mat W' S g cap b c M m :=
  (h.size.keep fun k hk' => hk.2 k hk'.2 (hp k hk'.1)).mono fun _ hk => hk.1
theorem Mat.own (h : Mat W S g cap b c M m) {i : Nat} (hi : i < M.length) : S (b i) := (h.2.2.1 i hi).2.1
theorem Mat.other (h : Mat W S g cap b c M m) {i j : Nat} (hi : i < M.length) (hj : j < M.length) (hne : i ≠ j) : ∀ W_, Kept W W_ (fun k_ => k_ = b i) → Kd.C (Kd.int .u8) W_ (some ⟨b j, 0, none⟩) (rw_ M j).length (rw_ M j) := fun W_ hk => by
  have h1 := h.R hj (Nat.le_refl _)
  have h2 := Kd.R_step (w1 := W_) h1 (fun k ho hlt => by
    subst ho
    exact hk.2 _ hlt (fun z => hne (h.2.2.2 _ _ hj hi z).symm))
  exact (Kd.R_reads' h2).2.2
theorem Mat.toS (h : Mat W S g cap b c M m) {base : Nat} (hS : ∀ k, S k → base ≤ k) : Kd.S (Kd.slice 5 (Kd.int .u8)) 23 W base (fun _ => True) (.slice (some ⟨g, 0, none⟩) M.length cap) M := by
  obtain ⟨⟨cur, q1, q2, q3, q4, q5⟩, hg, hin, hap⟩ := h
  rw [outC_length] at q2 q5
  refine ⟨fun k => ((List.range M.length).find? (fun j => b j == k)).getD 0, fun k _ => trivial, outC M.length b c m, ⟨by simp [outC, Kd.tag, Kd.slice], .inr ⟨g, cap, cur, by simp, hS g hg, q1, by simpa using q2, q3, by simpa [Kd.tag, Kd.slice] using q4, by simpa [Kd.tag, Kd.slice] using q5⟩⟩, by simp [outC, Kd.tag, Kd.slice], fun j p hj => ?_⟩
  have hjn : j < M.length := by
    have := (List.getElem?_eq_some_iff.1 hj).1
    simpa using this
  have hp : p = (rw_ M j, j) := by
    have := (List.getElem?_eq_some_iff.1 hj).2
    rw [← this]; simp [rw_, hjn]
  subst hp
  have hd : ((outC M.length b c m).drop (j * 1)).take 1 = [Value.slice (some ⟨b j, 0, none⟩) m (c j)] := by
    rw [Nat.mul_one, List.drop_eq_getElem_cons (by rw [outC_length]; exact hjn)]
    simp [outC]
  obtain ⟨h1, h2, h3, h4⟩ := hin j hjn
  have h5 := h4.R (hS _ h2)
  rw [h3] at h5
  show (Kd.tag _ (Kd.slice 5 (Kd.int .u8))).M W base _ _ (((outC M.length b c m).drop (j * 1)).take 1)
  rw [hd]
  refine ⟨_, rfl, Kd.R_mono h5 (fun k hk => ?_)⟩
  subst hk
  exact ⟨⟨trivial, by simp [Value.ownBlock]; exact h1⟩, find_b hjn hap⟩
end
/-- rows of the call's own are a matrix -/
theorem Mat.of_S {W : World} {base : Nat} {ok : Nat → Prop} {v : Value} {M : List (List Int)} {m : Nat} (h : Kd.S (Kd.slice 5 (Kd.int .u8)) 23 W base ok v M) (hM : ∀ r ∈ M, r.length = m) (h0 : 0 < M.length) (hm : 0 < m) : ∃ g cap b c, v = .slice (some ⟨g, 0, none⟩) M.length cap ∧ M.length ≤ cap ∧ Mat W (fun k => base ≤ k) g cap b c M m := by
  obtain ⟨f, hf0, inner, ho, hl, hrep⟩ := h
  have hz : M.zipIdx.length = M.length := by simp
  rw [hz] at ho hl
  rcases ho.2 with ⟨_, h1⟩ | ⟨g, cap, cur, hv, hb, hh, h2, h3, h4, h5⟩
  · omega
  have hin : ∀ i, i < M.length → ∃ bi ci, inner[i]? = some (Value.slice (some ⟨bi, 0, none⟩) m ci) ∧ bi ≠ g ∧ base ≤ bi ∧ f bi = i ∧ RowV W bi 5 ci (encs (Value.int .u8) (rw_ M i)) := by
    intro i hi
    have hrl : (rw_ M i).length = m := hM _ (by simp [rw_, hi])
    have e1 : M.zipIdx[i]? = some (rw_ M i, i) := by
      rw [Kd.zip_at (p := rw_ M i) (by simp [rw_, hi])]
    have e2 : (Kd.tag f (Kd.slice 5 (Kd.int .u8))).M W base (fun k => ok k ∧ some k ≠ v.ownBlock) (rw_ M i, i) ((inner.drop (i * 1)).take 1) := hrep i _ e1
    obtain ⟨u, hu, hR⟩ := e2
    have hil : i < inner.length := by
      have : inner.length = M.length * 1 := hl
      omega
    rw [Nat.mul_one, List.drop_eq_getElem_cons hil] at hu
    simp only [List.take_succ_cons, List.take_zero, List.cons.injEq, and_true] at hu
    obtain ⟨bi, ci, hu2, hb2, hlt, cells, hc⟩ := Kd.R_form hR (by simp only; omega)
    simp only at hu2
    rw [hrl] at hu2
    subst hu2
    have hR1 := hR.1 bi (by simp [Value.ownBlock])
    refine ⟨bi, ci, by rw [List.getElem?_eq_getElem hil, hu], fun z => hR1.1.2 (by rw [hv, z]; simp [Value.ownBlock]), hb2, hR1.2, (RowV.of_R hR).1⟩
  have hch : ∃ b c : Nat → Nat, ∀ i, i < M.length → inner[i]? = some (Value.slice (some ⟨b i, 0, none⟩) m (c i)) ∧ b i ≠ g ∧ base ≤ b i ∧ f (b i) = i ∧ RowV W (b i) 5 (c i) (encs (Value.int .u8) (rw_ M i)) :=
    ⟨fun i => if hi : i < M.length then Classical.choose (hin i hi) else 0, fun i => if hi : i < M.length then Classical.choose (Classical.choose_spec (hin i hi)) else 0, fun i hi => by
      simp only [dif_pos hi]
      exact Classical.choose_spec (Classical.choose_spec (hin i hi))⟩
  obtain ⟨b, c, hbc⟩ := hch
  have hio : inner = outC M.length b c m := by
    apply List.ext_getElem?
    intro i
    by_cases hi : i < M.length
    · rw [(hbc i hi).1]; simp [outC, hi]
    · have : inner.length = M.length * 1 := hl
      rw [List.getElem?_eq_none (by omega), List.getElem?_eq_none (by simp [outC]; omega)]
  refine ⟨g, cap, b, c, hv, h2, ⟨cur, hh, by rw [outC_length]; exact h2, h3, ?_, ?_⟩, hb, fun i hi => ⟨(hbc i hi).2.1, (hbc i hi).2.2.1, hM _ (by simp [rw_, hi]), (hbc i hi).2.2.2.2⟩, fun i j hi hj e => ?_⟩
  · have : cur.size = cap * 1 := h4
    rw [this, Nat.mul_one]
  · rw [outC_length]
    have : cur.toList.take (M.length * 1) = inner := h5
    rw [Nat.mul_one] at this
    rw [this, hio]
  · rw [← (hbc i hi).2.2.2.1, ← (hbc j hj).2.2.2.1, e]
end Go.Proofs.Ythhncoogmncdkaa
namespace Go.Proofs.Ythhncoogmncdkaa
open Go Go.RowKit Go.Proofs.YthhncoogmncdkaaW.PrintWords Go.Proofs.YthhncoogmncdkaaW.PrintLast Go.Proofs.YthhncoogmncdkaaW.PrintMore
set_option linter.unusedVariables false
/-- rows of the call's own are a matrix -/
theorem Mat.of_SQ {W : World} {base : Nat} {ok : Nat → Prop} {v : Value} {M : List (List Int)} {m : Nat} (h : Kd.S (Kd.slice 5 (Kd.int .u8)) 23 W base ok v M) (hM : ∀ r ∈ M, r.length = m) (h0 : 0 < M.length) (hm : 0 < m) : ∃ g cap b c, v = .slice (some ⟨g, 0, none⟩) M.length cap ∧ M.length ≤ cap ∧ Mat W (fun k => base ≤ k ∧ ok k) g cap b c M m := by
  obtain ⟨f, hf0, inner, ho, hl, hrep⟩ := h
  have hz : M.zipIdx.length = M.length := by simp
  rw [hz] at ho hl
  rcases ho.2 with ⟨_, h1⟩ | ⟨g, cap, cur, hv, hb, hh, h2, h3, h4, h5⟩
  · omega
  have hin : ∀ i, i < M.length → ∃ bi ci, inner[i]? = some (Value.slice (some ⟨bi, 0, none⟩) m ci) ∧ bi ≠ g ∧ (base ≤ bi ∧ ok bi) ∧ f bi = i ∧ RowV W bi 5 ci (encs (Value.int .u8) (rw_ M i)) := by
    intro i hi
    have hrl : (rw_ M i).length = m := hM _ (by simp [rw_, hi])
    have e1 : M.zipIdx[i]? = some (rw_ M i, i) := by
      rw [Kd.zip_at (p := rw_ M i) (by simp [rw_, hi])]
    have e2 : (Kd.tag f (Kd.slice 5 (Kd.int .u8))).M W base (fun k => ok k ∧ some k ≠ v.ownBlock) (rw_ M i, i) ((inner.drop (i * 1)).take 1) := hrep i _ e1
    obtain ⟨u, hu, hR⟩ := e2
    have hil : i < inner.length := by
      have : inner.length = M.length * 1 := hl
      omega
    rw [Nat.mul_one, List.drop_eq_getElem_cons hil] at hu
    simp only [List.take_succ_cons, List.take_zero, List.cons.injEq, and_true] at hu
    obtain ⟨bi, ci, hu2, hb2, hlt, cells, hc⟩ := Kd.R_form hR (by simp only; omega)
    simp only at hu2
    rw [hrl] at hu2
    subst hu2
    have hR1 := hR.1 bi (by simp [Value.ownBlock])
    refine ⟨bi, ci, by rw [List.getElem?_eq_getElem hil, hu], fun z => hR1.1.2 (by rw [hv, z]; simp [Value.ownBlock]), ⟨hb2, hR1.1.1⟩, hR1.2, (RowV.of_R hR).1⟩
  have hch : ∃ b c : Nat → Nat, ∀ i, i < M.length → inner[i]? = some (Value.slice (some ⟨b i, 0, none⟩) m (c i)) ∧ b i ≠ g ∧ (base ≤ b i ∧ ok (b i)) ∧ f (b i) = i ∧ RowV W (b i) 5 (c i) (encs (Value.int .u8) (rw_ M i)) :=
    ⟨fun i => if hi : i < M.length then Classical.choose (hin i hi) else 0, fun i => if hi : i < M.length then Classical.choose (Classical.choose_spec (hin i hi)) else 0, fun i hi => by
      simp only [dif_pos hi]
      exact Classical.choose_spec (Classical.choose_spec (hin i hi))⟩
  obtain ⟨b, c, hbc⟩ := hch
  have hio : inner = outC M.length b c m := by
    apply List.ext_getElem?
    intro i
    by_cases hi : i < M.length
    · rw [(hbc i hi).1]; simp [outC, hi]
    · have : inner.length = M.length * 1 := hl
      rw [List.getElem?_eq_none (by omega), List.getElem?_eq_none (by simp [outC]; omega)]
  refine ⟨g, cap, b, c, hv, h2, ⟨cur, hh, by rw [outC_length]; exact h2, h3, ?_, ?_⟩, ⟨hb, hf0 g (by rw [hv]; simp [Value.ownBlock])⟩, fun i hi => ⟨(hbc i hi).2.1, (hbc i hi).2.2.1, hM _ (by simp [rw_, hi]), (hbc i hi).2.2.2.2⟩, fun i j hi hj e => ?_⟩
  · have : cur.size = cap * 1 := h4
    rw [this, Nat.mul_one]
  · rw [outC_length]
    have : cur.toList.take (M.length * 1) = inner := h5
    rw [Nat.mul_one] at this
    rw [this, hio]
  · rw [← (hbc i hi).2.2.2.1, ← (hbc j hj).2.2.2.1, e]
theorem lit8 {W : World} {g : Nat} {xs : List Int} {e : TypeId} {cs : Array Value} (h : W.heap[g]? = some (.cells cs e (0, 0))) (hcs : cs = (encs (Value.int .u8) xs).toArray) (hl : xs.length ≤ 1000) : Kd.C (Kd.int .u8) W (some ⟨g, 0, none⟩) xs.length xs := by
  subst hcs
  have hown := own_of_block (base := 0) h (Nat.zero_le _) (by simp [encs, maxLen]; omega)
  have hlen : (encs (Value.int .u8) xs).length = xs.length := by simp [encs]
  rw [hlen] at hown
  exact (Kd.R_reads' (Kd.R_of_own (h1 := fun _ => rfl) (ok := fun _ => True) hown (fun _ _ => trivial))).2.2
/-- rows from i on are as they may be; nothing but Q's blocks has changed -/
def Sp (w wx : World) (Q : Nat → Prop) (g cap n m i : Nat) (b c : Nat → Nat) : Prop :=
  RowV wx g 23 cap (outC n b c m) ∧ Q g ∧ (∀ q, q < n → b q ≠ g ∧ Q (b q)) ∧ (∀ p q, p < n → q < n → b p = b q → p = q) ∧ (∀ q, i ≤ q → q < n → ∃ r : List Int, r.length = m ∧ RowV wx (b q) 5 (c q) (encs (Value.int .u8) r)) ∧ Kept w wx Q
theorem Sp.start {W : World} {Q : Nat → Prop} {g cap m : Nat} {b c : Nat → Nat} {M : List (List Int)} (h : Mat W Q g cap b c M m) : Sp W W Q g cap M.length m 0 b c :=
  ⟨h.1, h.2.1, fun q hq => ⟨(h.2.2.1 q hq).1, (h.2.2.1 q hq).2.1⟩, h.2.2.2, fun q _ hq => ⟨_, (h.2.2.1 q hq).2.2.1, (h.2.2.1 q hq).2.2.2⟩, Kept.refl W Q⟩
theorem Sp.out {w wx : World} {Q : Nat → Prop} {g cap n m i : Nat} {b c : Nat → Nat} (h : Sp w wx Q g cap n m i b c) {q : Nat} (hq : q < n) : wx.cell? ⟨g, q, none⟩ = some (.slice (some ⟨b q, 0, none⟩) m (c q)) := by
  have := h.1.cell (i := q) (by rw [outC_length]; exact hq)
  rw [this]
  simp [outC]
theorem Sp.below {w wx wy : World} {Q : Nat → Prop} {g cap n m i : Nat} {b c : Nat → Nat} (h : Sp w wx Q g cap n m i b c) (hb : Below wx.heap.size wx wy) : Sp w wy Q g cap n m i b c :=
  ⟨h.1.keep (hb.block _ h.1.lt), h.2.1, h.2.2.1, h.2.2.2.1, fun q h1 h2 => by
    obtain ⟨r, hr1, hr2⟩ := h.2.2.2.2.1 q h1 h2
    exact ⟨r, hr1, hr2.keep (hb.block _ hr2.lt)⟩, ⟨Nat.le_trans h.2.2.2.2.2.1 hb.size, fun k hk hq => (hb.block k (Nat.lt_of_lt_of_le hk h.2.2.2.2.2.1)).trans (h.2.2.2.2.2.2 k hk hq)⟩⟩
/-- the row i is written somewhere, or a new block -/
theorem Sp.step {w wx wy : World} {Q : Nat → Prop} {g cap n m i : Nat} {b c : Nat → Nat} (h : Sp w wx Q g cap n m i b c) (hi : i < n) (hs : wx.heap.size ≤ wy.heap.size) (hk : ∀ k, k < wx.heap.size → k ≠ b i → wy.heap[k]? = wx.heap[k]?) : Sp w wy Q g cap n m (i + 1) b c :=
  ⟨h.1.keep (hk g h.1.lt (fun z => (h.2.2.1 i hi).1 z.symm)), h.2.1, h.2.2.1, h.2.2.2.1, fun q h1 h2 => by
    obtain ⟨r, hr1, hr2⟩ := h.2.2.2.2.1 q (by omega) h2
    exact ⟨r, hr1, hr2.keep (hk _ hr2.lt (fun z => by have := h.2.2.2.1 q i h2 hi z; omega))⟩, ⟨Nat.le_trans h.2.2.2.2.2.1 hs, fun k hk' hq => (hk k (Nat.lt_of_lt_of_le hk' h.2.2.2.2.2.1) (fun z => hq (z ▸ (h.2.2.1 i hi).2))).trans (h.2.2.2.2.2.2 k hk' hq)⟩⟩
theorem Sp.store {w wx : World} {Q : Nat → Prop} {g cap n m i : Nat} {b c : Nat → Nat} (h : Sp w wx Q g cap n m i b c) (hi : i < n) {j : Nat} (hj : j < m) (v : Int) : Sp w (wx.setCell ⟨b i, j, none⟩ (.int .u8 v)) Q g cap n m i b c :=
  ⟨h.1.far (p := ⟨b i, j, none⟩) (fun z => (h.2.2.1 i hi).1 z.symm) _, h.2.1, h.2.2.1, h.2.2.2.1, fun q h1 h2 => by
    obtain ⟨r, hr1, hr2⟩ := h.2.2.2.2.1 q h1 h2
    by_cases e : q = i
    · subst e
      refine ⟨r.set j v, by simpa using hr1, ?_⟩
      have := hr2.set (i := j) (by simp [encs]; omega) (.int .u8 v)
      have e : (encs (Value.int .u8) r).set j (.int .u8 v) = encs (Value.int .u8) (r.set j v) := by simp [encs]
      rwa [e] at this
    · exact ⟨r, hr1, hr2.far (p := ⟨b i, j, none⟩) (fun z => e (h.2.2.2.1 q i h2 hi z)) _⟩, ⟨by have := h.2.2.2.2.2.1; simpa using this, fun k hk' hq => (Below.heap_setCell _ ⟨b i, j, none⟩ _ k (fun z => hq (z ▸ (h.2.2.1 i hi).2))).trans (h.2.2.2.2.2.2 k hk' hq)⟩⟩
end Go.Proofs.Ythhncoogmncdkaa
