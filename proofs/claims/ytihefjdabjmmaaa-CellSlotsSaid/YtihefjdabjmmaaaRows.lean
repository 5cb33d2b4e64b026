/-
  No cell of these rows narrows 'for every input' (looked for: loops, veiled, ifaces, maps, wideKeys, modest, calm, conditions, laid).
  DERIVED. THE GIVEN ROWS OF THIS SEAT. 7 by the template 'for every input the law returns true; each argument reads behind the call as it read before'; 0 by the template 'total and deterministic' (their statements: YtihefjdabjmmaaaTotals.lean).
  GIVEN WITH THE SEED: the statements are not yours to turn. If you find one false, say at which input.
  Laid BY PROGRAM, IN A SANDBOX (cutbox-rows.mjs): the forced cells as the released guide's own fill.sh prints them over the translation 721a00d1f6491e3b… (all of the seat's roots in one cut). By AI agents, Wed Nov 11 2026. No macro, syntax, notation, axiom, sorry.
-/
import Derived.Test.YtihefjdabjmmaaaChecked
import GoSem.Claim
import GoSem.ClaimJoined
import GoSem.ClaimMapViews
import Derived.JoinedTies
import Derived.KernelRfl
namespace Go.Proofs.Ytihefjdabjmmaaa
/- THE CELL 'sum', in the pinned program and in every row, IS THE sha256 OF THE DUMP (.gsa) THAT YtihefjdabjmmaaaProg.lean LOADS. Nothing in Lean hashes anything: it is a label: what it is worth is what the hold of that sum in a sandbox is worth. -/
noncomputable def Try.pinned : Pinned := { name := "ytihefjdabjmmaaa", sum := "721a00d1f6491e3b2518e0cb5948f0778d735c3b63f69b16847cc067a19640c8", checked := Try.checked }
namespace Rows
def none {H : Type} : Left H := { results := [], args := [] }

/-- 'twoslotlaw10.SlotBytes': WHATEVER THE INPUT: true; the input reads as it did. -/
def slotBytesSpec : ChangeSpec := { name := "slotBytes", fn := fun _ => fun
  | [d1, d2] => { results := [.lit (.bool true)], args := [d1, d2] }
  | _ => none }
def slotBytesRow : OpenClaim := { program := "ytihefjdabjmmaaa", sum := "721a00d1f6491e3b2518e0cb5948f0778d735c3b63f69b16847cc067a19640c8", func := "twoslot/twoslotlaw10.SlotBytes", spec := "slotBytes", unfollowed := true, recurses := true, apart := false }
def SlotBytesSaid : Prop := slotBytesRow.holds Try.pinned (OpenSpec.ofChange slotBytesSpec)

/-- ITS FALSE NEIGHBOUR: 'it returns false'. Refute it at one input. -/
def slotBytesWrong : ChangeSpec := { name := "slotBytes", fn := fun _ => fun
  | [d1, d2] => { results := [.lit (.bool false)], args := [d1, d2] }
  | _ => none }
def SlotBytesWrongFalsely : Prop := slotBytesRow.holds Try.pinned (OpenSpec.ofChange slotBytesWrong)

/-- 'twoslotlaw10.SlotParse': WHATEVER THE INPUT: true; the input reads as it did. -/
def slotParseSpec : ChangeSpec := { name := "slotParse", fn := fun _ => fun
  | [d1, d2] => { results := [.lit (.bool true)], args := [d1, d2] }
  | _ => none }
def slotParseRow : OpenClaim := { program := "ytihefjdabjmmaaa", sum := "721a00d1f6491e3b2518e0cb5948f0778d735c3b63f69b16847cc067a19640c8", func := "twoslot/twoslotlaw10.SlotParse", spec := "slotParse", unfollowed := true, recurses := true, apart := false }
def SlotParseSaid : Prop := slotParseRow.holds Try.pinned (OpenSpec.ofChange slotParseSpec)

/-- ITS FALSE NEIGHBOUR: 'it returns false'. Refute it at one input. -/
def slotParseWrong : ChangeSpec := { name := "slotParse", fn := fun _ => fun
  | [d1, d2] => { results := [.lit (.bool false)], args := [d1, d2] }
  | _ => none }
def SlotParseWrongFalsely : Prop := slotParseRow.holds Try.pinned (OpenSpec.ofChange slotParseWrong)

/-- 'twoslotlaw10.SlotBack': WHATEVER THE INPUT: true; the input reads as it did. -/
def slotBackSpec : ChangeSpec := { name := "slotBack", fn := fun _ => fun
  | [d1, d2, d3] => { results := [.lit (.bool true)], args := [d1, d2, d3] }
  | _ => none }
def slotBackRow : OpenClaim := { program := "ytihefjdabjmmaaa", sum := "721a00d1f6491e3b2518e0cb5948f0778d735c3b63f69b16847cc067a19640c8", func := "twoslot/twoslotlaw10.SlotBack", spec := "slotBack", unfollowed := true, recurses := true, apart := false }
def SlotBackSaid : Prop := slotBackRow.holds Try.pinned (OpenSpec.ofChange slotBackSpec)

/-- ITS FALSE NEIGHBOUR: 'it returns false'. Refute it at one input. -/
def slotBackWrong : ChangeSpec := { name := "slotBack", fn := fun _ => fun
  | [d1, d2, d3] => { results := [.lit (.bool false)], args := [d1, d2, d3] }
  | _ => none }
def SlotBackWrongFalsely : Prop := slotBackRow.holds Try.pinned (OpenSpec.ofChange slotBackWrong)

/-- 'twoslotlaw10.SlotOnce': WHATEVER THE INPUT: true; the input reads as it did. -/
def slotOnceSpec : ChangeSpec := { name := "slotOnce", fn := fun _ => fun
  | [d1, d2] => { results := [.lit (.bool true)], args := [d1, d2] }
  | _ => none }
def slotOnceRow : OpenClaim := { program := "ytihefjdabjmmaaa", sum := "721a00d1f6491e3b2518e0cb5948f0778d735c3b63f69b16847cc067a19640c8", func := "twoslot/twoslotlaw10.SlotOnce", spec := "slotOnce", unfollowed := true, recurses := true, apart := false }
def SlotOnceSaid : Prop := slotOnceRow.holds Try.pinned (OpenSpec.ofChange slotOnceSpec)

/-- ITS FALSE NEIGHBOUR: 'it returns false'. Refute it at one input. -/
def slotOnceWrong : ChangeSpec := { name := "slotOnce", fn := fun _ => fun
  | [d1, d2] => { results := [.lit (.bool false)], args := [d1, d2] }
  | _ => none }
def SlotOnceWrongFalsely : Prop := slotOnceRow.holds Try.pinned (OpenSpec.ofChange slotOnceWrong)

/-- 'twoslotlaw11.CellSlots': WHATEVER THE INPUT: true; the input reads as it did. -/
def cellSlotsSpec : ChangeSpec := { name := "cellSlots", fn := fun _ => fun
  | [d1, d2, d3, d4, d5] => { results := [.lit (.bool true)], args := [d1, d2, d3, d4, d5] }
  | _ => none }
def cellSlotsRow : OpenClaim := { program := "ytihefjdabjmmaaa", sum := "721a00d1f6491e3b2518e0cb5948f0778d735c3b63f69b16847cc067a19640c8", func := "twoslot/twoslotlaw11.CellSlots", spec := "cellSlots", unfollowed := true, recurses := true, apart := false }
def CellSlotsSaid : Prop := cellSlotsRow.holds Try.pinned (OpenSpec.ofChange cellSlotsSpec)

/-- ITS FALSE NEIGHBOUR: 'it returns false'. Refute it at one input. -/
def cellSlotsWrong : ChangeSpec := { name := "cellSlots", fn := fun _ => fun
  | [d1, d2, d3, d4, d5] => { results := [.lit (.bool false)], args := [d1, d2, d3, d4, d5] }
  | _ => none }
def CellSlotsWrongFalsely : Prop := cellSlotsRow.holds Try.pinned (OpenSpec.ofChange cellSlotsWrong)

/-- 'twoslotlaw11.CellNewest': WHATEVER THE INPUT: true; the input reads as it did. -/
def cellNewestSpec : ChangeSpec := { name := "cellNewest", fn := fun _ => fun
  | [d1, d2, d3, d4] => { results := [.lit (.bool true)], args := [d1, d2, d3, d4] }
  | _ => none }
def cellNewestRow : OpenClaim := { program := "ytihefjdabjmmaaa", sum := "721a00d1f6491e3b2518e0cb5948f0778d735c3b63f69b16847cc067a19640c8", func := "twoslot/twoslotlaw11.CellNewest", spec := "cellNewest", unfollowed := true, recurses := true, apart := false }
def CellNewestSaid : Prop := cellNewestRow.holds Try.pinned (OpenSpec.ofChange cellNewestSpec)

/-- ITS FALSE NEIGHBOUR: 'it returns false'. Refute it at one input. -/
def cellNewestWrong : ChangeSpec := { name := "cellNewest", fn := fun _ => fun
  | [d1, d2, d3, d4] => { results := [.lit (.bool false)], args := [d1, d2, d3, d4] }
  | _ => none }
def CellNewestWrongFalsely : Prop := cellNewestRow.holds Try.pinned (OpenSpec.ofChange cellNewestWrong)

/-- 'twoslotlaw11.CellKept': WHATEVER THE INPUT: true; the input reads as it did. -/
def cellKeptSpec : ChangeSpec := { name := "cellKept", fn := fun _ => fun
  | [d1, d2, d3, d4] => { results := [.lit (.bool true)], args := [d1, d2, d3, d4] }
  | _ => none }
def cellKeptRow : OpenClaim := { program := "ytihefjdabjmmaaa", sum := "721a00d1f6491e3b2518e0cb5948f0778d735c3b63f69b16847cc067a19640c8", func := "twoslot/twoslotlaw11.CellKept", spec := "cellKept", unfollowed := true, recurses := true, apart := false }
def CellKeptSaid : Prop := cellKeptRow.holds Try.pinned (OpenSpec.ofChange cellKeptSpec)

/-- ITS FALSE NEIGHBOUR: 'it returns false'. Refute it at one input. -/
def cellKeptWrong : ChangeSpec := { name := "cellKept", fn := fun _ => fun
  | [d1, d2, d3, d4] => { results := [.lit (.bool false)], args := [d1, d2, d3, d4] }
  | _ => none }
def CellKeptWrongFalsely : Prop := cellKeptRow.holds Try.pinned (OpenSpec.ofChange cellKeptWrong)

/- THE SECOND FORM. 'bulk': how many values and letters a reading holds, each counted each time it is reached (what is shared counts as often as it is met; a slice's spare places count too). A statement '..UptoSaid' is the law's where the arguments, and the package variables that the reading takes, are together of bulk at most 1048576: NARROWER than '..Said'. Prove '..Said' where nothing that the law and all that it calls make is longer than what came in: it says more and counts as full. Else prove '..UptoSaid'. A law counts once. -/
mutual
def uptoBulk {H : Type} : DataW H → Nat
  | .lit (.string bytes) => bytes.length + 1
  | .lit _ => 1
  | .nil => 1
  | .ptr d => uptoBulk d + 1
  | .slice elems spare => uptoBulkAll elems + uptoBulkAll spare + 1
  | .agg parts => uptoBulkAll parts + 1
  | .iface _ d => uptoBulk d + 1
  | .map entries => uptoBulkEntries entries + 1
  | .held _ => 1
def uptoBulkAll {H : Type} : List (DataW H) → Nat
  | [] => 0
  | d :: r => uptoBulk d + uptoBulkAll r
def uptoBulkEntries {H : Type} : List (Lit × DataW H) → Nat
  | [] => 0
  | x :: r => uptoBulkEntry x + uptoBulkEntries r
def uptoBulkEntry {H : Type} : Lit × DataW H → Nat
  | (.string bytes, d) => bytes.length + uptoBulk d + 1
  | (_, d) => uptoBulk d + 1
 end
def uptoSmall : (H : Type) → List (DataW H) → Bool := fun _ ds => decide (uptoBulkAll ds ≤ 1048576)
def OpenSpec.upto (s : _root_.Go.ChangeSpec) : _root_.Go.OpenSpec := { _root_.Go.OpenSpec.ofChange s with cond := some uptoSmall }

/-- 'twoslotlaw10.SlotBytes', WHERE WHAT IT READS IS OF BULK AT MOST 1048576: true; the input reads as it did. -/
def slotBytesUptoRow : OpenClaim := { program := "ytihefjdabjmmaaa", sum := "721a00d1f6491e3b2518e0cb5948f0778d735c3b63f69b16847cc067a19640c8", func := "twoslot/twoslotlaw10.SlotBytes", spec := "slotBytes", unfollowed := true, recurses := true, apart := false, narrowed := true }
def SlotBytesUptoSaid : Prop := slotBytesUptoRow.holds Try.pinned (OpenSpec.upto slotBytesSpec)

/-- 'twoslotlaw10.SlotParse', WHERE WHAT IT READS IS OF BULK AT MOST 1048576: true; the input reads as it did. -/
def slotParseUptoRow : OpenClaim := { program := "ytihefjdabjmmaaa", sum := "721a00d1f6491e3b2518e0cb5948f0778d735c3b63f69b16847cc067a19640c8", func := "twoslot/twoslotlaw10.SlotParse", spec := "slotParse", unfollowed := true, recurses := true, apart := false, narrowed := true }
def SlotParseUptoSaid : Prop := slotParseUptoRow.holds Try.pinned (OpenSpec.upto slotParseSpec)

/-- 'twoslotlaw10.SlotBack', WHERE WHAT IT READS IS OF BULK AT MOST 1048576: true; the input reads as it did. -/
def slotBackUptoRow : OpenClaim := { program := "ytihefjdabjmmaaa", sum := "721a00d1f6491e3b2518e0cb5948f0778d735c3b63f69b16847cc067a19640c8", func := "twoslot/twoslotlaw10.SlotBack", spec := "slotBack", unfollowed := true, recurses := true, apart := false, narrowed := true }
def SlotBackUptoSaid : Prop := slotBackUptoRow.holds Try.pinned (OpenSpec.upto slotBackSpec)

/-- 'twoslotlaw10.SlotOnce', WHERE WHAT IT READS IS OF BULK AT MOST 1048576: true; the input reads as it did. -/
def slotOnceUptoRow : OpenClaim := { program := "ytihefjdabjmmaaa", sum := "721a00d1f6491e3b2518e0cb5948f0778d735c3b63f69b16847cc067a19640c8", func := "twoslot/twoslotlaw10.SlotOnce", spec := "slotOnce", unfollowed := true, recurses := true, apart := false, narrowed := true }
def SlotOnceUptoSaid : Prop := slotOnceUptoRow.holds Try.pinned (OpenSpec.upto slotOnceSpec)

/-- 'twoslotlaw11.CellSlots', WHERE WHAT IT READS IS OF BULK AT MOST 1048576: true; the input reads as it did. -/
def cellSlotsUptoRow : OpenClaim := { program := "ytihefjdabjmmaaa", sum := "721a00d1f6491e3b2518e0cb5948f0778d735c3b63f69b16847cc067a19640c8", func := "twoslot/twoslotlaw11.CellSlots", spec := "cellSlots", unfollowed := true, recurses := true, apart := false, narrowed := true }
def CellSlotsUptoSaid : Prop := cellSlotsUptoRow.holds Try.pinned (OpenSpec.upto cellSlotsSpec)

/-- 'twoslotlaw11.CellNewest', WHERE WHAT IT READS IS OF BULK AT MOST 1048576: true; the input reads as it did. -/
def cellNewestUptoRow : OpenClaim := { program := "ytihefjdabjmmaaa", sum := "721a00d1f6491e3b2518e0cb5948f0778d735c3b63f69b16847cc067a19640c8", func := "twoslot/twoslotlaw11.CellNewest", spec := "cellNewest", unfollowed := true, recurses := true, apart := false, narrowed := true }
def CellNewestUptoSaid : Prop := cellNewestUptoRow.holds Try.pinned (OpenSpec.upto cellNewestSpec)

/-- 'twoslotlaw11.CellKept', WHERE WHAT IT READS IS OF BULK AT MOST 1048576: true; the input reads as it did. -/
def cellKeptUptoRow : OpenClaim := { program := "ytihefjdabjmmaaa", sum := "721a00d1f6491e3b2518e0cb5948f0778d735c3b63f69b16847cc067a19640c8", func := "twoslot/twoslotlaw11.CellKept", spec := "cellKept", unfollowed := true, recurses := true, apart := false, narrowed := true }
def CellKeptUptoSaid : Prop := cellKeptUptoRow.holds Try.pinned (OpenSpec.upto cellKeptSpec)

end Rows
end Go.Proofs.Ytihefjdabjmmaaa
