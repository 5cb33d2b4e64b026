/-
  No cell of these rows narrows 'for every input' (looked for: loops, veiled, ifaces, maps, wideKeys, modest, calm, conditions, laid).
  DERIVED. THE GIVEN ROWS OF THIS SEAT. 5 by the template 'for every input the law returns true; each argument reads behind the call as it read before'; 0 by the template 'total and deterministic' (their statements: YthhncoogmncdkaaTotals.lean).
  GIVEN WITH THE SEED: the statements are not yours to turn. If you find one false, say at which input.
  Laid BY PROGRAM, IN A SANDBOX (cutbox-rows.mjs): the forced cells as the released guide's own fill.sh prints them over the translation 56375b3ee4750bc3… (all of the seat's roots in one cut). By AI agents, Wed Nov 11 2026. No macro, syntax, notation, axiom, sorry.
-/
import Derived.Test.YthhncoogmncdkaaChecked
import GoSem.Claim
import GoSem.ClaimJoined
import GoSem.ClaimMapViews
import Derived.JoinedTies
import Derived.KernelRfl
namespace Go.Proofs.Ythhncoogmncdkaa
/- THE CELL 'sum', in the pinned program and in every row, IS THE sha256 OF THE DUMP (.gsa) THAT YthhncoogmncdkaaProg.lean LOADS. Nothing in Lean hashes anything: it is a label: what it is worth is what the hold of that sum in a sandbox is worth. -/
noncomputable def Try.pinned : Pinned := { name := "ythhncoogmncdkaa", sum := "56375b3ee4750bc30a7dc069a10e4564becdf58e0c3b9ffff81bf05a1cfaa78f", checked := Try.checked }
namespace Rows
def none {H : Type} : Left H := { results := [], args := [] }

/-- 'twoslotlaw04.CodecNames': WHATEVER THE INPUT: true; the input reads as it did. -/
def codecNamesSpec : ChangeSpec := { name := "codecNames", fn := fun _ => fun
  | [] => { results := [.lit (.bool true)], args := [] }
  | _ => none }
def codecNamesRow : OpenClaim := { program := "ythhncoogmncdkaa", sum := "56375b3ee4750bc30a7dc069a10e4564becdf58e0c3b9ffff81bf05a1cfaa78f", func := "twoslot/twoslotlaw04.CodecNames", spec := "codecNames", unfollowed := true, recurses := true, plainKeys := false, apart := false }
def CodecNamesSaid : Prop := codecNamesRow.holds Try.pinned (OpenSpec.ofChange codecNamesSpec)

/-- ITS FALSE NEIGHBOUR: 'it returns false'. Refute it at one input. -/
def codecNamesWrong : ChangeSpec := { name := "codecNames", fn := fun _ => fun
  | [] => { results := [.lit (.bool false)], args := [] }
  | _ => none }
def CodecNamesWrongFalsely : Prop := codecNamesRow.holds Try.pinned (OpenSpec.ofChange codecNamesWrong)

/-- 'twoslotlaw04.CodecCells': WHATEVER THE INPUT: true; the input reads as it did. -/
def codecCellsSpec : ChangeSpec := { name := "codecCells", fn := fun _ => fun
  | [d1, d2, d3, d4] => { results := [.lit (.bool true)], args := [d1, d2, d3, d4] }
  | _ => none }
def codecCellsRow : OpenClaim := { program := "ythhncoogmncdkaa", sum := "56375b3ee4750bc30a7dc069a10e4564becdf58e0c3b9ffff81bf05a1cfaa78f", func := "twoslot/twoslotlaw04.CodecCells", spec := "codecCells", unfollowed := true, recurses := true, plainKeys := false, apart := false }
def CodecCellsSaid : Prop := codecCellsRow.holds Try.pinned (OpenSpec.ofChange codecCellsSpec)

/-- ITS FALSE NEIGHBOUR: 'it returns false'. Refute it at one input. -/
def codecCellsWrong : ChangeSpec := { name := "codecCells", fn := fun _ => fun
  | [d1, d2, d3, d4] => { results := [.lit (.bool false)], args := [d1, d2, d3, d4] }
  | _ => none }
def CodecCellsWrongFalsely : Prop := codecCellsRow.holds Try.pinned (OpenSpec.ofChange codecCellsWrong)

/-- 'twoslotlaw04.CodecAny': WHATEVER THE INPUT: true; the input reads as it did. -/
def codecAnySpec : ChangeSpec := { name := "codecAny", fn := fun _ => fun
  | [d1, d2, d3, d4] => { results := [.lit (.bool true)], args := [d1, d2, d3, d4] }
  | _ => none }
def codecAnyRow : OpenClaim := { program := "ythhncoogmncdkaa", sum := "56375b3ee4750bc30a7dc069a10e4564becdf58e0c3b9ffff81bf05a1cfaa78f", func := "twoslot/twoslotlaw04.CodecAny", spec := "codecAny", unfollowed := true, recurses := true, plainKeys := false, apart := false }
def CodecAnySaid : Prop := codecAnyRow.holds Try.pinned (OpenSpec.ofChange codecAnySpec)

/-- ITS FALSE NEIGHBOUR: 'it returns false'. Refute it at one input. -/
def codecAnyWrong : ChangeSpec := { name := "codecAny", fn := fun _ => fun
  | [d1, d2, d3, d4] => { results := [.lit (.bool false)], args := [d1, d2, d3, d4] }
  | _ => none }
def CodecAnyWrongFalsely : Prop := codecAnyRow.holds Try.pinned (OpenSpec.ofChange codecAnyWrong)

/-- 'twoslotlaw04.CodecWhole': WHATEVER THE INPUT: true; the input reads as it did. -/
def codecWholeSpec : ChangeSpec := { name := "codecWhole", fn := fun _ => fun
  | [d1, d2, d3] => { results := [.lit (.bool true)], args := [d1, d2, d3] }
  | _ => none }
def codecWholeRow : OpenClaim := { program := "ythhncoogmncdkaa", sum := "56375b3ee4750bc30a7dc069a10e4564becdf58e0c3b9ffff81bf05a1cfaa78f", func := "twoslot/twoslotlaw04.CodecWhole", spec := "codecWhole", unfollowed := true, recurses := true, plainKeys := false, apart := false }
def CodecWholeSaid : Prop := codecWholeRow.holds Try.pinned (OpenSpec.ofChange codecWholeSpec)

/-- ITS FALSE NEIGHBOUR: 'it returns false'. Refute it at one input. -/
def codecWholeWrong : ChangeSpec := { name := "codecWhole", fn := fun _ => fun
  | [d1, d2, d3] => { results := [.lit (.bool false)], args := [d1, d2, d3] }
  | _ => none }
def CodecWholeWrongFalsely : Prop := codecWholeRow.holds Try.pinned (OpenSpec.ofChange codecWholeWrong)

/-- 'twoslotlaw04.CodecRows': WHATEVER THE INPUT: true; the input reads as it did. -/
def codecRowsSpec : ChangeSpec := { name := "codecRows", fn := fun _ => fun
  | [d1, d2, d3, d4] => { results := [.lit (.bool true)], args := [d1, d2, d3, d4] }
  | _ => none }
def codecRowsRow : OpenClaim := { program := "ythhncoogmncdkaa", sum := "56375b3ee4750bc30a7dc069a10e4564becdf58e0c3b9ffff81bf05a1cfaa78f", func := "twoslot/twoslotlaw04.CodecRows", spec := "codecRows", unfollowed := true, recurses := true, plainKeys := false, apart := false }
def CodecRowsSaid : Prop := codecRowsRow.holds Try.pinned (OpenSpec.ofChange codecRowsSpec)

/-- ITS FALSE NEIGHBOUR: 'it returns false'. Refute it at one input. -/
def codecRowsWrong : ChangeSpec := { name := "codecRows", fn := fun _ => fun
  | [d1, d2, d3, d4] => { results := [.lit (.bool false)], args := [d1, d2, d3, d4] }
  | _ => none }
def CodecRowsWrongFalsely : Prop := codecRowsRow.holds Try.pinned (OpenSpec.ofChange codecRowsWrong)

/- THE SECOND FORM. 'bulk': how many values and letters a reading holds, each counted each time it is reached (what is shared counts as often as it is met; a slice's spare places count too). A statement '..UptoSaid' is the law's where the arguments, and the package variables that the reading takes, are together of bulk at most 1048576: NARROWER than '..Said'. Prove '..Said' where nothing that the law and all that it calls make is longer than what came in: it says more and counts as full. Else prove '..UptoSaid'. A law counts once. -/
mutual
def uptoBulk {H : Type} : DataW H → Nat
  | .lit (.string bytes) => bytes.length + 1
  | .lit _ => 1
  | .nil => 1
  | .ptr d => uptoBulk d + 1
  | .slice elems spare => uptoBulkAll elems + uptoBulkAll spare + 1
  | .agg parts => uptoBulkAll parts + 1
  | .iface _ d => uptoBulk d + 1
  | .map entries => uptoBulkEntries entries + 1
  | .held _ => 1
def uptoBulkAll {H : Type} : List (DataW H) → Nat
  | [] => 0
  | d :: r => uptoBulk d + uptoBulkAll r
def uptoBulkEntries {H : Type} : List (Lit × DataW H) → Nat
  | [] => 0
  | x :: r => uptoBulkEntry x + uptoBulkEntries r
def uptoBulkEntry {H : Type} : Lit × DataW H → Nat
  | (.string bytes, d) => bytes.length + uptoBulk d + 1
  | (_, d) => uptoBulk d + 1
 end
def uptoSmall : (H : Type) → List (DataW H) → Bool := fun _ ds => decide (uptoBulkAll ds ≤ 1048576)
def OpenSpec.upto (s : _root_.Go.ChangeSpec) : _root_.Go.OpenSpec := { _root_.Go.OpenSpec.ofChange s with cond := some uptoSmall }

/-- 'twoslotlaw04.CodecNames', WHERE WHAT IT READS IS OF BULK AT MOST 1048576: true; the input reads as it did. -/
def codecNamesUptoRow : OpenClaim := { program := "ythhncoogmncdkaa", sum := "56375b3ee4750bc30a7dc069a10e4564becdf58e0c3b9ffff81bf05a1cfaa78f", func := "twoslot/twoslotlaw04.CodecNames", spec := "codecNames", unfollowed := true, recurses := true, plainKeys := false, apart := false, narrowed := true }
def CodecNamesUptoSaid : Prop := codecNamesUptoRow.holds Try.pinned (OpenSpec.upto codecNamesSpec)

/-- 'twoslotlaw04.CodecCells', WHERE WHAT IT READS IS OF BULK AT MOST 1048576: true; the input reads as it did. -/
def codecCellsUptoRow : OpenClaim := { program := "ythhncoogmncdkaa", sum := "56375b3ee4750bc30a7dc069a10e4564becdf58e0c3b9ffff81bf05a1cfaa78f", func := "twoslot/twoslotlaw04.CodecCells", spec := "codecCells", unfollowed := true, recurses := true, plainKeys := false, apart := false, narrowed := true }
def CodecCellsUptoSaid : Prop := codecCellsUptoRow.holds Try.pinned (OpenSpec.upto codecCellsSpec)

/-- 'twoslotlaw04.CodecAny', WHERE WHAT IT READS IS OF BULK AT MOST 1048576: true; the input reads as it did. -/
def codecAnyUptoRow : OpenClaim := { program := "ythhncoogmncdkaa", sum := "56375b3ee4750bc30a7dc069a10e4564becdf58e0c3b9ffff81bf05a1cfaa78f", func := "twoslot/twoslotlaw04.CodecAny", spec := "codecAny", unfollowed := true, recurses := true, plainKeys := false, apart := false, narrowed := true }
def CodecAnyUptoSaid : Prop := codecAnyUptoRow.holds Try.pinned (OpenSpec.upto codecAnySpec)

/-- 'twoslotlaw04.CodecWhole', WHERE WHAT IT READS IS OF BULK AT MOST 1048576: true; the input reads as it did. -/
def codecWholeUptoRow : OpenClaim := { program := "ythhncoogmncdkaa", sum := "56375b3ee4750bc30a7dc069a10e4564becdf58e0c3b9ffff81bf05a1cfaa78f", func := "twoslot/twoslotlaw04.CodecWhole", spec := "codecWhole", unfollowed := true, recurses := true, plainKeys := false, apart := false, narrowed := true }
def CodecWholeUptoSaid : Prop := codecWholeUptoRow.holds Try.pinned (OpenSpec.upto codecWholeSpec)

/-- 'twoslotlaw04.CodecRows', WHERE WHAT IT READS IS OF BULK AT MOST 1048576: true; the input reads as it did. -/
def codecRowsUptoRow : OpenClaim := { program := "ythhncoogmncdkaa", sum := "56375b3ee4750bc30a7dc069a10e4564becdf58e0c3b9ffff81bf05a1cfaa78f", func := "twoslot/twoslotlaw04.CodecRows", spec := "codecRows", unfollowed := true, recurses := true, plainKeys := false, apart := false, narrowed := true }
def CodecRowsUptoSaid : Prop := codecRowsUptoRow.holds Try.pinned (OpenSpec.upto codecRowsSpec)

end Rows
end Go.Proofs.Ythhncoogmncdkaa
