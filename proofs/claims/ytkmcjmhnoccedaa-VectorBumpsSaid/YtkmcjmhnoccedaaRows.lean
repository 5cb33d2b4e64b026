/-
  No cell of these rows narrows 'for every input' (looked for: loops, veiled, ifaces, maps, wideKeys, modest, calm, conditions, laid).
  DERIVED. THE GIVEN ROWS OF THIS SEAT. 5 by the template 'for every input the law returns true; each argument reads behind the call as it read before'; 0 by the template 'total and deterministic' (their statements: YtkmcjmhnoccedaaTotals.lean).
  GIVEN WITH THE SEED: the statements are not yours to turn. If you find one false, say at which input.
  Laid BY PROGRAM, IN A SANDBOX (cutbox-rows.mjs): the forced cells as the released guide's own fill.sh prints them over the translation 22d544b1f537cc55… (all of the seat's roots in one cut). By AI agents, Wed Nov 11 2026. No macro, syntax, notation, axiom, sorry.
-/
import Derived.Test.YtkmcjmhnoccedaaChecked
import GoSem.Claim
import GoSem.ClaimJoined
import GoSem.ClaimMapViews
import Derived.JoinedTies
import Derived.KernelRfl
namespace Go.Proofs.Ytkmcjmhnoccedaa
/- THE CELL 'sum', in the pinned program and in every row, IS THE sha256 OF THE DUMP (.gsa) THAT YtkmcjmhnoccedaaProg.lean LOADS. Nothing in Lean hashes anything: it is a label: what it is worth is what the hold of that sum in a sandbox is worth. -/
noncomputable def Try.pinned : Pinned := { name := "ytkmcjmhnoccedaa", sum := "22d544b1f537cc55b443c7b23c776792bace4b1be2ba1734ceb526756f5c0ca0", checked := Try.checked }
namespace Rows
def none {H : Type} : Left H := { results := [], args := [] }

/-- 'twoslotlaw07.VectorNames': WHATEVER THE INPUT: true; the input reads as it did. -/
def vectorNamesSpec : ChangeSpec := { name := "vectorNames", fn := fun _ => fun
  | [] => { results := [.lit (.bool true)], args := [] }
  | _ => none }
def vectorNamesRow : OpenClaim := { program := "ytkmcjmhnoccedaa", sum := "22d544b1f537cc55b443c7b23c776792bace4b1be2ba1734ceb526756f5c0ca0", func := "twoslot/twoslotlaw07.VectorNames", spec := "vectorNames", unfollowed := true, recurses := true, apart := false }
def VectorNamesSaid : Prop := vectorNamesRow.holds Try.pinned (OpenSpec.ofChange vectorNamesSpec)

/-- ITS FALSE NEIGHBOUR: 'it returns false'. Refute it at one input. -/
def vectorNamesWrong : ChangeSpec := { name := "vectorNames", fn := fun _ => fun
  | [] => { results := [.lit (.bool false)], args := [] }
  | _ => none }
def VectorNamesWrongFalsely : Prop := vectorNamesRow.holds Try.pinned (OpenSpec.ofChange vectorNamesWrong)

/-- 'twoslotlaw07.VectorOnes': WHATEVER THE INPUT: true; the input reads as it did. -/
def vectorOnesSpec : ChangeSpec := { name := "vectorOnes", fn := fun _ => fun
  | [d1, d2, d3, d4] => { results := [.lit (.bool true)], args := [d1, d2, d3, d4] }
  | _ => none }
def vectorOnesRow : OpenClaim := { program := "ytkmcjmhnoccedaa", sum := "22d544b1f537cc55b443c7b23c776792bace4b1be2ba1734ceb526756f5c0ca0", func := "twoslot/twoslotlaw07.VectorOnes", spec := "vectorOnes", unfollowed := true, recurses := true, apart := false }
def VectorOnesSaid : Prop := vectorOnesRow.holds Try.pinned (OpenSpec.ofChange vectorOnesSpec)

/-- ITS FALSE NEIGHBOUR: 'it returns false'. Refute it at one input. -/
def vectorOnesWrong : ChangeSpec := { name := "vectorOnes", fn := fun _ => fun
  | [d1, d2, d3, d4] => { results := [.lit (.bool false)], args := [d1, d2, d3, d4] }
  | _ => none }
def VectorOnesWrongFalsely : Prop := vectorOnesRow.holds Try.pinned (OpenSpec.ofChange vectorOnesWrong)

/-- 'twoslotlaw07.VectorTwos': WHATEVER THE INPUT: true; the input reads as it did. -/
def vectorTwosSpec : ChangeSpec := { name := "vectorTwos", fn := fun _ => fun
  | [d1, d2, d3] => { results := [.lit (.bool true)], args := [d1, d2, d3] }
  | _ => none }
def vectorTwosRow : OpenClaim := { program := "ytkmcjmhnoccedaa", sum := "22d544b1f537cc55b443c7b23c776792bace4b1be2ba1734ceb526756f5c0ca0", func := "twoslot/twoslotlaw07.VectorTwos", spec := "vectorTwos", unfollowed := true, recurses := true, apart := false }
def VectorTwosSaid : Prop := vectorTwosRow.holds Try.pinned (OpenSpec.ofChange vectorTwosSpec)

/-- ITS FALSE NEIGHBOUR: 'it returns false'. Refute it at one input. -/
def vectorTwosWrong : ChangeSpec := { name := "vectorTwos", fn := fun _ => fun
  | [d1, d2, d3] => { results := [.lit (.bool false)], args := [d1, d2, d3] }
  | _ => none }
def VectorTwosWrongFalsely : Prop := vectorTwosRow.holds Try.pinned (OpenSpec.ofChange vectorTwosWrong)

/-- 'twoslotlaw07.VectorOrder': WHATEVER THE INPUT: true; the input reads as it did. -/
def vectorOrderSpec : ChangeSpec := { name := "vectorOrder", fn := fun _ => fun
  | [d1, d2, d3, d4] => { results := [.lit (.bool true)], args := [d1, d2, d3, d4] }
  | _ => none }
def vectorOrderRow : OpenClaim := { program := "ytkmcjmhnoccedaa", sum := "22d544b1f537cc55b443c7b23c776792bace4b1be2ba1734ceb526756f5c0ca0", func := "twoslot/twoslotlaw07.VectorOrder", spec := "vectorOrder", unfollowed := true, recurses := true, apart := false }
def VectorOrderSaid : Prop := vectorOrderRow.holds Try.pinned (OpenSpec.ofChange vectorOrderSpec)

/-- ITS FALSE NEIGHBOUR: 'it returns false'. Refute it at one input. -/
def vectorOrderWrong : ChangeSpec := { name := "vectorOrder", fn := fun _ => fun
  | [d1, d2, d3, d4] => { results := [.lit (.bool false)], args := [d1, d2, d3, d4] }
  | _ => none }
def VectorOrderWrongFalsely : Prop := vectorOrderRow.holds Try.pinned (OpenSpec.ofChange vectorOrderWrong)

/-- 'twoslotlaw07.VectorBumps': WHATEVER THE INPUT: true; the input reads as it did. -/
def vectorBumpsSpec : ChangeSpec := { name := "vectorBumps", fn := fun _ => fun
  | [d1, d2, d3, d4] => { results := [.lit (.bool true)], args := [d1, d2, d3, d4] }
  | _ => none }
def vectorBumpsRow : OpenClaim := { program := "ytkmcjmhnoccedaa", sum := "22d544b1f537cc55b443c7b23c776792bace4b1be2ba1734ceb526756f5c0ca0", func := "twoslot/twoslotlaw07.VectorBumps", spec := "vectorBumps", unfollowed := true, recurses := true, apart := false }
def VectorBumpsSaid : Prop := vectorBumpsRow.holds Try.pinned (OpenSpec.ofChange vectorBumpsSpec)

/-- ITS FALSE NEIGHBOUR: 'it returns false'. Refute it at one input. -/
def vectorBumpsWrong : ChangeSpec := { name := "vectorBumps", fn := fun _ => fun
  | [d1, d2, d3, d4] => { results := [.lit (.bool false)], args := [d1, d2, d3, d4] }
  | _ => none }
def VectorBumpsWrongFalsely : Prop := vectorBumpsRow.holds Try.pinned (OpenSpec.ofChange vectorBumpsWrong)

/- THE SECOND FORM. 'bulk': how many values and letters a reading holds, each counted each time it is reached (what is shared counts as often as it is met; a slice's spare places count too). A statement '..UptoSaid' is the law's where the arguments, and the package variables that the reading takes, are together of bulk at most 1048576: NARROWER than '..Said'. Prove '..Said' where nothing that the law and all that it calls make is longer than what came in: it says more and counts as full. Else prove '..UptoSaid'. A law counts once. -/
mutual
def uptoBulk {H : Type} : DataW H → Nat
  | .lit (.string bytes) => bytes.length + 1
  | .lit _ => 1
  | .nil => 1
  | .ptr d => uptoBulk d + 1
  | .slice elems spare => uptoBulkAll elems + uptoBulkAll spare + 1
  | .agg parts => uptoBulkAll parts + 1
  | .iface _ d => uptoBulk d + 1
  | .map entries => uptoBulkEntries entries + 1
  | .held _ => 1
def uptoBulkAll {H : Type} : List (DataW H) → Nat
  | [] => 0
  | d :: r => uptoBulk d + uptoBulkAll r
def uptoBulkEntries {H : Type} : List (Lit × DataW H) → Nat
  | [] => 0
  | x :: r => uptoBulkEntry x + uptoBulkEntries r
def uptoBulkEntry {H : Type} : Lit × DataW H → Nat
  | (.string bytes, d) => bytes.length + uptoBulk d + 1
  | (_, d) => uptoBulk d + 1
 end
def uptoSmall : (H : Type) → List (DataW H) → Bool := fun _ ds => decide (uptoBulkAll ds ≤ 1048576)
def OpenSpec.upto (s : _root_.Go.ChangeSpec) : _root_.Go.OpenSpec := { _root_.Go.OpenSpec.ofChange s with cond := some uptoSmall }

/-- 'twoslotlaw07.VectorNames', WHERE WHAT IT READS IS OF BULK AT MOST 1048576: true; the input reads as it did. -/
def vectorNamesUptoRow : OpenClaim := { program := "ytkmcjmhnoccedaa", sum := "22d544b1f537cc55b443c7b23c776792bace4b1be2ba1734ceb526756f5c0ca0", func := "twoslot/twoslotlaw07.VectorNames", spec := "vectorNames", unfollowed := true, recurses := true, apart := false, narrowed := true }
def VectorNamesUptoSaid : Prop := vectorNamesUptoRow.holds Try.pinned (OpenSpec.upto vectorNamesSpec)

/-- 'twoslotlaw07.VectorOnes', WHERE WHAT IT READS IS OF BULK AT MOST 1048576: true; the input reads as it did. -/
def vectorOnesUptoRow : OpenClaim := { program := "ytkmcjmhnoccedaa", sum := "22d544b1f537cc55b443c7b23c776792bace4b1be2ba1734ceb526756f5c0ca0", func := "twoslot/twoslotlaw07.VectorOnes", spec := "vectorOnes", unfollowed := true, recurses := true, apart := false, narrowed := true }
def VectorOnesUptoSaid : Prop := vectorOnesUptoRow.holds Try.pinned (OpenSpec.upto vectorOnesSpec)

/-- 'twoslotlaw07.VectorTwos', WHERE WHAT IT READS IS OF BULK AT MOST 1048576: true; the input reads as it did. -/
def vectorTwosUptoRow : OpenClaim := { program := "ytkmcjmhnoccedaa", sum := "22d544b1f537cc55b443c7b23c776792bace4b1be2ba1734ceb526756f5c0ca0", func := "twoslot/twoslotlaw07.VectorTwos", spec := "vectorTwos", unfollowed := true, recurses := true, apart := false, narrowed := true }
def VectorTwosUptoSaid : Prop := vectorTwosUptoRow.holds Try.pinned (OpenSpec.upto vectorTwosSpec)

/-- 'twoslotlaw07.VectorOrder', WHERE WHAT IT READS IS OF BULK AT MOST 1048576: true; the input reads as it did. -/
def vectorOrderUptoRow : OpenClaim := { program := "ytkmcjmhnoccedaa", sum := "22d544b1f537cc55b443c7b23c776792bace4b1be2ba1734ceb526756f5c0ca0", func := "twoslot/twoslotlaw07.VectorOrder", spec := "vectorOrder", unfollowed := true, recurses := true, apart := false, narrowed := true }
def VectorOrderUptoSaid : Prop := vectorOrderUptoRow.holds Try.pinned (OpenSpec.upto vectorOrderSpec)

/-- 'twoslotlaw07.VectorBumps', WHERE WHAT IT READS IS OF BULK AT MOST 1048576: true; the input reads as it did. -/
def vectorBumpsUptoRow : OpenClaim := { program := "ytkmcjmhnoccedaa", sum := "22d544b1f537cc55b443c7b23c776792bace4b1be2ba1734ceb526756f5c0ca0", func := "twoslot/twoslotlaw07.VectorBumps", spec := "vectorBumps", unfollowed := true, recurses := true, apart := false, narrowed := true }
def VectorBumpsUptoSaid : Prop := vectorBumpsUptoRow.holds Try.pinned (OpenSpec.upto vectorBumpsSpec)

end Rows
end Go.Proofs.Ytkmcjmhnoccedaa
