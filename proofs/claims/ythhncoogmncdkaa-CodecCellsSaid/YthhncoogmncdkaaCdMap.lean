/- Small laws on a map whose keys are three whole numbers, written key by key. No condition. -/
import Derived.Test.YthhncoogmncdkaaProg
import Derived.Test.YthhncoogmncdkaaHK
import Derived.Maps.Keyed
import Derived.DeepKeys4
import Derived.Carry
import Derived.WalkKit
import Derived.KernelRfl
import Derived.OwnWalk
import Derived.WalkSpells
namespace Go.Proofs.Ythhncoogmncdkaa
open Go Go.RowKit Go.Maps Go.WideMaps Go.Proofs.YthhncoogmncdkaaW.PrintWords
theorem pk_laid : laidOutB Try.prog = true := by kernel_rfl
theorem pk_row : (50 : TypeId) < Try.prog.types.size := of_decide_eq_true (by kernel_rfl)
theorem pk_wide : (match Try.prog.underlying 50 with | some (.array _ _) | some (.struct _) => true | _ => false) = true := by rw [Try.underlying50]
theorem pk_law : Keyed Try.prog 50 := Keyed.of_law (deep_law_laid pk_laid (m := 2) (by omega) pk_row (by kernel_rfl) pk_wide)
theorem pk_types : ∃ n, Try.prog.types.size = n + 1 := ⟨Try.prog.types.size - 1, (Nat.sub_add_cancel (Nat.lt_of_le_of_lt (Nat.zero_le _) pk_row)).symm⟩
theorem pk_cells : Try.prog.cellsOf 50 = 3 := by kernel_rfl
theorem pk_cell1 : Try.prog.cellsOf 3 = 1 := by kernel_rfl
theorem pk_type : Try.prog.keyType 50 = true := by kernel_rfl
def in64 (a : Int) : Prop := (Lit.int .i64 a).wf = true
instance (a : Int) : Decidable (in64 a) := by unfold in64; infer_instance
/-- the key of three numbers -/
def pk (a b c : Int) : Value := .agg #[.int .i64 a, .int .i64 b, .int .i64 c]
theorem pk_inj {a b c a' b' c' : Int} (h : pk a b c = pk a' b' c') : c = c' := by
  unfold pk at h; simp at h; exact h.2.2
theorem pk_key {a b c : Int} (ha : in64 a) (hb : in64 b) (hc : in64 c) : ∃ l, keyOf Try.prog 50 (pk a b c) = some l := by
  unfold in64 at ha hb hc
  obtain ⟨n, hn⟩ := pk_types
  have hf : (pk a b c).formed Try.prog 50 = true := by simp [pk, Value.formed, Try.underlying50, pk_cells]
  have hl : ∃ ls, Try.prog.keyLits (Try.prog.types.size + 1) 50 (pk a b c).cells.toList = some ls := by
    rw [hn]
    simp [pk, Value.cells, Program.keyLits, Try.underlying50, Try.underlying3, pk_cells, pk_cell1, ha, hb, hc]
  obtain ⟨ls, hls⟩ := hl
  exact ⟨.string (keyBytes ls), by unfold keyOf; rw [Try.underlying50]; dsimp only; rw [if_pos (by rw [pk_type, hf]; rfl), hls]; rfl⟩
/-- a map of n entries: key by key -/
def MapIs (W : World) (g n : Nat) (key val : Nat → Value) : Prop := ∃ (es : Array MapEntry) (clock : Nat), W.heap[g]? = some (.map es clock) ∧ es.size = n ∧ ∀ i, i < n → ∃ e, es[i]? = some e ∧ e.key = key i ∧ e.val = val i
theorem MapIs.congr {W : World} {g n : Nat} {key val val' : Nat → Value} (h : MapIs W g n key val) (hv : ∀ i, i < n → val i = val' i) : MapIs W g n key val' := by
  obtain ⟨es, c, h1, h2, h3⟩ := h
  refine ⟨es, c, h1, h2, fun i hi => ?_⟩
  obtain ⟨e, q1, q2, q3⟩ := h3 i hi
  exact ⟨e, q1, q2, q3.trans (hv i hi)⟩
theorem MapIs.new (W : World) (key val : Nat → Value) : MapIs (W.alloc (.map #[] 0)) W.heap.size 0 key val := ⟨#[], 0, (MapKept.heap_alloc W _).1, rfl, fun i hi => by omega⟩
theorem MapIs.keep {W W' : World} {g n : Nat} {key val : Nat → Value} (h : MapIs W g n key val) (hk : W'.heap[g]? = W.heap[g]?) : MapIs W' g n key val := by
  obtain ⟨es, c, h1, h2, h3⟩ := h
  exact ⟨es, c, hk.trans h1, h2, h3⟩
theorem MapIs.lt {W : World} {g n : Nat} {key val : Nat → Value} (h : MapIs W g n key val) : g < W.heap.size := by
  obtain ⟨es, c, h1, _⟩ := h
  exact (Array.getElem?_eq_some_iff.1 h1).1
theorem MapIs.below {W W' : World} {g n : Nat} {key val : Nat → Value} (h : MapIs W g n key val) (hb : Below W.heap.size W W') : MapIs W' g n key val := h.keep (hb.block g h.lt)
theorem MapIs.get {W : World} {g n : Nat} {key val : Nat → Value} (h : MapIs W g n key val) (hk : ∀ i, i < n → ∃ l, keyOf Try.prog 50 (key i) = some l) : ∃ (es : Array MapEntry) (clock : Nat), W.heap[g]? = some (.map es clock) ∧ es.size = n ∧ (∀ i, i < n → ∃ e, es[i]? = some e ∧ e.key = key i ∧ e.val = val i) ∧ ∀ e ∈ es.toList, ∃ l, keyOf Try.prog 50 e.key = some l := by
  obtain ⟨es, c, h1, h2, h3⟩ := h
  refine ⟨es, c, h1, h2, h3, fun e he => ?_⟩
  obtain ⟨i, hi, rfl⟩ := List.getElem_of_mem he
  have hi' : i < n := by simpa [h2] using hi
  obtain ⟨e, he1, he2, _⟩ := h3 i hi'
  have : es.toList[i] = e := by
    have := Array.getElem?_eq_some_iff.1 he1
    obtain ⟨_, h⟩ := this
    simpa using h
  rw [this, he2]
  exact hk i hi'
/-- one more -/
theorem MapIs.put {W : World} {g n : Nat} {key val : Nat → Value} (h : MapIs W g n key val) (hk : ∀ i, i ≤ n → ∃ l, keyOf Try.prog 50 (key i) = some l) (hne : ∀ i, i < n → key i ≠ key n) :
    ∃ o : Obj, (Instr.mapUpdate 44 (.map (some g)) (key n) (val n)).run Try.prog W = .ok () (ChangeMaps.setBlock W g o) ∧ MapIs (ChangeMaps.setBlock W g o) g (n + 1) key val := by
  obtain ⟨es, c, h1, h2, h3, h4⟩ := h.get (fun i hi => hk i (by omega))
  obtain ⟨l, hl⟩ := hk n (Nat.le_refl _)
  have hnone : ∀ e ∈ es.toList, e.key ≠ key n := fun e he => by
    obtain ⟨i, hi, rfl⟩ := List.getElem_of_mem he
    have hi' : i < n := by simpa [h2] using hi
    obtain ⟨e, he1, he2, _⟩ := h3 i hi'
    have : es.toList[i] = e := by
      obtain ⟨_, h⟩ := Array.getElem?_eq_some_iff.1 he1
      simpa using h
    rw [this, he2]
    exact hne i hi'
  rcases pk_law.find W hl es.toList h4 with ⟨hf, _⟩ | ⟨j, e, hf, he, hke⟩
  · refine ⟨.map (es.push ⟨key n, val n, c⟩) (c + 1), ?_, es.push ⟨key n, val n, c⟩, c + 1, ChangeMaps.heap_setBlock_same h1 _, by simp [h2], fun i hi => ?_⟩
    · simp [Instr.mapUpdate, run_underlying Try.underlying44, MapKept.run_getObj_map h1, pk_law.check W false hl, hf, MapKept.run_setObj_map _ h1, Result.andThen, ChangeMaps.setBlock]
    · by_cases e : i = n
      · subst e
        exact ⟨⟨key i, val i, c⟩, by rw [← h2]; simp, rfl, rfl⟩
      · obtain ⟨x, hx, hx1, hx2⟩ := h3 i (by omega)
        exact ⟨x, by rw [Array.getElem?_push, if_neg (by omega)]; exact hx, hx1, hx2⟩
  · exact absurd hke (hnone e (List.mem_of_getElem? he))
theorem put_other {W : World} {g k : Nat} (h : k ≠ g) (o : Obj) (_hg : g < W.heap.size) : (ChangeMaps.setBlock W g o).heap[k]? = W.heap[k]? := by
  simp [ChangeMaps.setBlock, Ne.symm h]
theorem put_below {W w : World} {g B : Nat} (h : Below B w W) (hg : B ≤ g) (o : Obj) (hlt : g < W.heap.size) : Below B w (ChangeMaps.setBlock W g o) :=
  h.trans ⟨rfl, rfl, rfl, by simp [ChangeMaps.setBlock], fun i hi => put_other (by omega) o hlt⟩
/-- a key that is there -/
theorem MapIs.look {W : World} {g n : Nat} {key val : Nat → Value} (h : MapIs W g n key val) (hk : ∀ i, i < n → ∃ l, keyOf Try.prog 50 (key i) = some l) (z : Value) (hz : (zeroValue 23).run Try.prog W = .ok z W) (c : Bool)
    {x : Value} (hx : ∃ l, keyOf Try.prog 50 x = some l) :
    (∃ i, i < n ∧ x = key i ∧ (Instr.lookup 44 (.map (some g)) x c).run Try.prog W = .ok (if c then .tuple #[val i, .bool true] else val i) W) ∨
    ((∀ i, i < n → x ≠ key i) ∧ (Instr.lookup 44 (.map (some g)) x c).run Try.prog W = .ok (if c then .tuple #[z, .bool false] else z) W) := by
  obtain ⟨es, cl, h1, h2, h3, h4⟩ := h.get hk
  obtain ⟨l, hl⟩ := hx
  have hat : ∀ i, (hi : i < n) → ∃ e, es.toList[i]? = some e ∧ e ∈ es.toList ∧ e.key = key i ∧ e.val = val i := fun i hi => by
    obtain ⟨e, he1, he2, he3⟩ := h3 i hi
    have : es.toList[i]? = some e := by simpa using he1
    exact ⟨e, this, List.mem_of_getElem? this, he2, he3⟩
  rcases pk_law.find W hl es.toList h4 with ⟨hf, hno⟩ | ⟨j, e, hf, he, hke⟩
  · right
    refine ⟨fun i hi e => ?_, ?_⟩
    · obtain ⟨x', _, hm, hk', _⟩ := hat i hi
      exact hno x' hm (hk'.trans e.symm)
    · simp [Instr.lookup, run_underlying Try.underlying44, MapKept.run_getObj_map h1, pk_law.check W _ hl, hf, hz, Result.andThen]
  · left
    have hj : j < n := by
      have := (List.getElem?_eq_some_iff.1 he).1
      simpa [h2] using this
    obtain ⟨e', he', _, hk', hv'⟩ := hat j hj
    rw [he] at he'
    injection he' with he'
    subst he'
    refine ⟨j, hj, hke.symm.trans hk', ?_⟩
    simp [Instr.lookup, run_underlying Try.underlying44, MapKept.run_getObj_map h1, pk_law.check W _ hl, hf, Result.andThen, hv']
theorem map_eql_nil (r : Option Nat) (w : World) : (binOp .eql 44 (.map r) (.map none)).run Try.prog w = .ok (.bool r.isNone) w := by
  simp only [binOp]
  simp [Op.equal, Op.maxDepth, run_equalIn_map_nil w 9999 44 50 23 r Try.underlying44]
/-- a nil map holds nothing -/
theorem look_nil (W : World) (z : Value) (hz : (zeroValue 23).run Try.prog W = .ok z W) (c : Bool) {x : Value} (hx : ∃ l, keyOf Try.prog 50 x = some l) :
    (Instr.lookup 44 (.map none) x c).run Try.prog W = .ok (if c then .tuple #[z, .bool false] else z) W := by
  obtain ⟨l, hl⟩ := hx
  rcases pk_law.find W hl [] (fun e he => by cases he) with ⟨hf, _⟩ | ⟨j, e, _, he, _⟩
  · simp [Instr.lookup, run_underlying Try.underlying44, pk_law.check W _ hl, hf, hz, Result.andThen]
  · simp at he
end Go.Proofs.Ythhncoogmncdkaa
