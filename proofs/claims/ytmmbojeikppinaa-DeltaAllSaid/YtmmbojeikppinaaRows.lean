/-
  No cell of these rows narrows 'for every input' (looked for: loops, veiled, ifaces, maps, wideKeys, modest, calm, conditions, laid).
  DERIVED. THE GIVEN ROWS OF THIS SEAT. 5 by the template 'for every input the law returns true; each argument reads behind the call as it read before'; 0 by the template 'total and deterministic' (their statements: YtmmbojeikppinaaTotals.lean).
  GIVEN WITH THE SEED: the statements are not yours to turn. If you find one false, say at which input.
  Laid BY PROGRAM, IN A SANDBOX (cutbox-rows.mjs): the forced cells as the released guide's own fill.sh prints them over the translation 16ed26786e2ff690… (all of the seat's roots in one cut). By AI agents, Wed Nov 11 2026. No macro, syntax, notation, axiom, sorry.
-/
import Derived.Test.YtmmbojeikppinaaChecked
import GoSem.Claim
import GoSem.ClaimJoined
import GoSem.ClaimMapViews
import Derived.JoinedTies
import Derived.KernelRfl
namespace Go.Proofs.Ytmmbojeikppinaa
/- THE CELL 'sum', in the pinned program and in every row, IS THE sha256 OF THE DUMP (.gsa) THAT YtmmbojeikppinaaProg.lean LOADS. Nothing in Lean hashes anything: it is a label: what it is worth is what the hold of that sum in a sandbox is worth. -/
noncomputable def Try.pinned : Pinned := { name := "ytmmbojeikppinaa", sum := "16ed26786e2ff6900b0b4ae71c94918e0e4e22f859d8fd6628a02126cd2117b9", checked := Try.checked }
namespace Rows
def none {H : Type} : Left H := { results := [], args := [] }

/-- 'twoslotlaw05.DeltaNames': WHATEVER THE INPUT: true; the input reads as it did. -/
def deltaNamesSpec : ChangeSpec := { name := "deltaNames", fn := fun _ => fun
  | [] => { results := [.lit (.bool true)], args := [] }
  | _ => none }
def deltaNamesRow : OpenClaim := { program := "ytmmbojeikppinaa", sum := "16ed26786e2ff6900b0b4ae71c94918e0e4e22f859d8fd6628a02126cd2117b9", func := "twoslot/twoslotlaw05.DeltaNames", spec := "deltaNames", unfollowed := true, recurses := true, plainKeys := false, apart := false }
def DeltaNamesSaid : Prop := deltaNamesRow.holds Try.pinned (OpenSpec.ofChange deltaNamesSpec)

/-- ITS FALSE NEIGHBOUR: 'it returns false'. Refute it at one input. -/
def deltaNamesWrong : ChangeSpec := { name := "deltaNames", fn := fun _ => fun
  | [] => { results := [.lit (.bool false)], args := [] }
  | _ => none }
def DeltaNamesWrongFalsely : Prop := deltaNamesRow.holds Try.pinned (OpenSpec.ofChange deltaNamesWrong)

/-- 'twoslotlaw05.DeltaCells': WHATEVER THE INPUT: true; the input reads as it did. -/
def deltaCellsSpec : ChangeSpec := { name := "deltaCells", fn := fun _ => fun
  | [d1, d2, d3, d4, d5, d6] => { results := [.lit (.bool true)], args := [d1, d2, d3, d4, d5, d6] }
  | _ => none }
def deltaCellsRow : OpenClaim := { program := "ytmmbojeikppinaa", sum := "16ed26786e2ff6900b0b4ae71c94918e0e4e22f859d8fd6628a02126cd2117b9", func := "twoslot/twoslotlaw05.DeltaCells", spec := "deltaCells", unfollowed := true, recurses := true, plainKeys := false, apart := false }
def DeltaCellsSaid : Prop := deltaCellsRow.holds Try.pinned (OpenSpec.ofChange deltaCellsSpec)

/-- ITS FALSE NEIGHBOUR: 'it returns false'. Refute it at one input. -/
def deltaCellsWrong : ChangeSpec := { name := "deltaCells", fn := fun _ => fun
  | [d1, d2, d3, d4, d5, d6] => { results := [.lit (.bool false)], args := [d1, d2, d3, d4, d5, d6] }
  | _ => none }
def DeltaCellsWrongFalsely : Prop := deltaCellsRow.holds Try.pinned (OpenSpec.ofChange deltaCellsWrong)

/-- 'twoslotlaw05.DeltaAll': WHATEVER THE INPUT: true; the input reads as it did. -/
def deltaAllSpec : ChangeSpec := { name := "deltaAll", fn := fun _ => fun
  | [d1, d2, d3, d4, d5] => { results := [.lit (.bool true)], args := [d1, d2, d3, d4, d5] }
  | _ => none }
def deltaAllRow : OpenClaim := { program := "ytmmbojeikppinaa", sum := "16ed26786e2ff6900b0b4ae71c94918e0e4e22f859d8fd6628a02126cd2117b9", func := "twoslot/twoslotlaw05.DeltaAll", spec := "deltaAll", unfollowed := true, recurses := true, plainKeys := false, apart := false }
def DeltaAllSaid : Prop := deltaAllRow.holds Try.pinned (OpenSpec.ofChange deltaAllSpec)

/-- ITS FALSE NEIGHBOUR: 'it returns false'. Refute it at one input. -/
def deltaAllWrong : ChangeSpec := { name := "deltaAll", fn := fun _ => fun
  | [d1, d2, d3, d4, d5] => { results := [.lit (.bool false)], args := [d1, d2, d3, d4, d5] }
  | _ => none }
def DeltaAllWrongFalsely : Prop := deltaAllRow.holds Try.pinned (OpenSpec.ofChange deltaAllWrong)

/-- 'twoslotlaw05.DeltaSteps': WHATEVER THE INPUT: true; the input reads as it did. -/
def deltaStepsSpec : ChangeSpec := { name := "deltaSteps", fn := fun _ => fun
  | [d1, d2, d3, d4, d5] => { results := [.lit (.bool true)], args := [d1, d2, d3, d4, d5] }
  | _ => none }
def deltaStepsRow : OpenClaim := { program := "ytmmbojeikppinaa", sum := "16ed26786e2ff6900b0b4ae71c94918e0e4e22f859d8fd6628a02126cd2117b9", func := "twoslot/twoslotlaw05.DeltaSteps", spec := "deltaSteps", unfollowed := true, recurses := true, plainKeys := false, apart := false }
def DeltaStepsSaid : Prop := deltaStepsRow.holds Try.pinned (OpenSpec.ofChange deltaStepsSpec)

/-- ITS FALSE NEIGHBOUR: 'it returns false'. Refute it at one input. -/
def deltaStepsWrong : ChangeSpec := { name := "deltaSteps", fn := fun _ => fun
  | [d1, d2, d3, d4, d5] => { results := [.lit (.bool false)], args := [d1, d2, d3, d4, d5] }
  | _ => none }
def DeltaStepsWrongFalsely : Prop := deltaStepsRow.holds Try.pinned (OpenSpec.ofChange deltaStepsWrong)

/-- 'twoslotlaw05.DeltaData': WHATEVER THE INPUT: true; the input reads as it did. -/
def deltaDataSpec : ChangeSpec := { name := "deltaData", fn := fun _ => fun
  | [d1, d2, d3, d4, d5] => { results := [.lit (.bool true)], args := [d1, d2, d3, d4, d5] }
  | _ => none }
def deltaDataRow : OpenClaim := { program := "ytmmbojeikppinaa", sum := "16ed26786e2ff6900b0b4ae71c94918e0e4e22f859d8fd6628a02126cd2117b9", func := "twoslot/twoslotlaw05.DeltaData", spec := "deltaData", unfollowed := true, recurses := true, plainKeys := false, apart := false }
def DeltaDataSaid : Prop := deltaDataRow.holds Try.pinned (OpenSpec.ofChange deltaDataSpec)

/-- ITS FALSE NEIGHBOUR: 'it returns false'. Refute it at one input. -/
def deltaDataWrong : ChangeSpec := { name := "deltaData", fn := fun _ => fun
  | [d1, d2, d3, d4, d5] => { results := [.lit (.bool false)], args := [d1, d2, d3, d4, d5] }
  | _ => none }
def DeltaDataWrongFalsely : Prop := deltaDataRow.holds Try.pinned (OpenSpec.ofChange deltaDataWrong)

/- THE SECOND FORM. 'bulk': how many values and letters a reading holds, each counted each time it is reached (what is shared counts as often as it is met; a slice's spare places count too). A statement '..UptoSaid' is the law's where the arguments, and the package variables that the reading takes, are together of bulk at most 1048576: NARROWER than '..Said'. Prove '..Said' where nothing that the law and all that it calls make is longer than what came in: it says more and counts as full. Else prove '..UptoSaid'. A law counts once. -/
mutual
def uptoBulk {H : Type} : DataW H → Nat
  | .lit (.string bytes) => bytes.length + 1
  | .lit _ => 1
  | .nil => 1
  | .ptr d => uptoBulk d + 1
  | .slice elems spare => uptoBulkAll elems + uptoBulkAll spare + 1
  | .agg parts => uptoBulkAll parts + 1
  | .iface _ d => uptoBulk d + 1
  | .map entries => uptoBulkEntries entries + 1
  | .held _ => 1
def uptoBulkAll {H : Type} : List (DataW H) → Nat
  | [] => 0
  | d :: r => uptoBulk d + uptoBulkAll r
def uptoBulkEntries {H : Type} : List (Lit × DataW H) → Nat
  | [] => 0
  | x :: r => uptoBulkEntry x + uptoBulkEntries r
def uptoBulkEntry {H : Type} : Lit × DataW H → Nat
  | (.string bytes, d) => bytes.length + uptoBulk d + 1
  | (_, d) => uptoBulk d + 1
 end
def uptoSmall : (H : Type) → List (DataW H) → Bool := fun _ ds => decide (uptoBulkAll ds ≤ 1048576)
def OpenSpec.upto (s : _root_.Go.ChangeSpec) : _root_.Go.OpenSpec := { _root_.Go.OpenSpec.ofChange s with cond := some uptoSmall }

/-- 'twoslotlaw05.DeltaNames', WHERE WHAT IT READS IS OF BULK AT MOST 1048576: true; the input reads as it did. -/
def deltaNamesUptoRow : OpenClaim := { program := "ytmmbojeikppinaa", sum := "16ed26786e2ff6900b0b4ae71c94918e0e4e22f859d8fd6628a02126cd2117b9", func := "twoslot/twoslotlaw05.DeltaNames", spec := "deltaNames", unfollowed := true, recurses := true, plainKeys := false, apart := false, narrowed := true }
def DeltaNamesUptoSaid : Prop := deltaNamesUptoRow.holds Try.pinned (OpenSpec.upto deltaNamesSpec)

/-- 'twoslotlaw05.DeltaCells', WHERE WHAT IT READS IS OF BULK AT MOST 1048576: true; the input reads as it did. -/
def deltaCellsUptoRow : OpenClaim := { program := "ytmmbojeikppinaa", sum := "16ed26786e2ff6900b0b4ae71c94918e0e4e22f859d8fd6628a02126cd2117b9", func := "twoslot/twoslotlaw05.DeltaCells", spec := "deltaCells", unfollowed := true, recurses := true, plainKeys := false, apart := false, narrowed := true }
def DeltaCellsUptoSaid : Prop := deltaCellsUptoRow.holds Try.pinned (OpenSpec.upto deltaCellsSpec)

/-- 'twoslotlaw05.DeltaAll', WHERE WHAT IT READS IS OF BULK AT MOST 1048576: true; the input reads as it did. -/
def deltaAllUptoRow : OpenClaim := { program := "ytmmbojeikppinaa", sum := "16ed26786e2ff6900b0b4ae71c94918e0e4e22f859d8fd6628a02126cd2117b9", func := "twoslot/twoslotlaw05.DeltaAll", spec := "deltaAll", unfollowed := true, recurses := true, plainKeys := false, apart := false, narrowed := true }
def DeltaAllUptoSaid : Prop := deltaAllUptoRow.holds Try.pinned (OpenSpec.upto deltaAllSpec)

/-- 'twoslotlaw05.DeltaSteps', WHERE WHAT IT READS IS OF BULK AT MOST 1048576: true; the input reads as it did. -/
def deltaStepsUptoRow : OpenClaim := { program := "ytmmbojeikppinaa", sum := "16ed26786e2ff6900b0b4ae71c94918e0e4e22f859d8fd6628a02126cd2117b9", func := "twoslot/twoslotlaw05.DeltaSteps", spec := "deltaSteps", unfollowed := true, recurses := true, plainKeys := false, apart := false, narrowed := true }
def DeltaStepsUptoSaid : Prop := deltaStepsUptoRow.holds Try.pinned (OpenSpec.upto deltaStepsSpec)

/-- 'twoslotlaw05.DeltaData', WHERE WHAT IT READS IS OF BULK AT MOST 1048576: true; the input reads as it did. -/
def deltaDataUptoRow : OpenClaim := { program := "ytmmbojeikppinaa", sum := "16ed26786e2ff6900b0b4ae71c94918e0e4e22f859d8fd6628a02126cd2117b9", func := "twoslot/twoslotlaw05.DeltaData", spec := "deltaData", unfollowed := true, recurses := true, plainKeys := false, apart := false, narrowed := true }
def DeltaDataUptoSaid : Prop := deltaDataUptoRow.holds Try.pinned (OpenSpec.upto deltaDataSpec)

end Rows
end Go.Proofs.Ytmmbojeikppinaa
