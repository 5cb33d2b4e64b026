/-
  No cell of these rows narrows 'for every input' (looked for: loops, veiled, ifaces, maps, wideKeys, modest, calm, conditions, laid).
  DERIVED. THE GIVEN ROWS OF THIS SEAT. 6 by the template 'for every input the law returns true; each argument reads behind the call as it read before'; 0 by the template 'total and deterministic' (their statements: YtmeckhfoajfapaaTotals.lean).
  GIVEN WITH THE SEED: the statements are not yours to turn. If you find one false, say at which input.
  Laid BY PROGRAM, IN A SANDBOX (cutbox-rows.mjs): the forced cells as the released guide's own fill.sh prints them over the translation e3e75231b0c67619… (all of the seat's roots in one cut). By AI agents, Wed Nov 11 2026. No macro, syntax, notation, axiom, sorry.
-/
import Derived.Test.YtmeckhfoajfapaaChecked
import GoSem.Claim
import GoSem.ClaimJoined
import GoSem.ClaimMapViews
import Derived.JoinedTies
import Derived.KernelRfl
namespace Go.Proofs.Ytmeckhfoajfapaa
/- THE CELL 'sum', in the pinned program and in every row, IS THE sha256 OF THE DUMP (.gsa) THAT YtmeckhfoajfapaaProg.lean LOADS. Nothing in Lean hashes anything: it is a label: what it is worth is what the hold of that sum in a sandbox is worth. -/
noncomputable def Try.pinned : Pinned := { name := "ytmeckhfoajfapaa", sum := "e3e75231b0c67619e30deeee799b1e05f79c76201bd3bb9f19360f96ff6d1239", checked := Try.checked }
namespace Rows
def none {H : Type} : Left H := { results := [], args := [] }

/-- 'twoslotlaw03.MatrixNames': WHATEVER THE INPUT: true; the input reads as it did. -/
def matrixNamesSpec : ChangeSpec := { name := "matrixNames", fn := fun _ => fun
  | [] => { results := [.lit (.bool true)], args := [] }
  | _ => none }
def matrixNamesRow : OpenClaim := { program := "ytmeckhfoajfapaa", sum := "e3e75231b0c67619e30deeee799b1e05f79c76201bd3bb9f19360f96ff6d1239", func := "twoslot/twoslotlaw03.MatrixNames", spec := "matrixNames", unfollowed := true, recurses := true, apart := false }
def MatrixNamesSaid : Prop := matrixNamesRow.holds Try.pinned (OpenSpec.ofChange matrixNamesSpec)

/-- ITS FALSE NEIGHBOUR: 'it returns false'. Refute it at one input. -/
def matrixNamesWrong : ChangeSpec := { name := "matrixNames", fn := fun _ => fun
  | [] => { results := [.lit (.bool false)], args := [] }
  | _ => none }
def MatrixNamesWrongFalsely : Prop := matrixNamesRow.holds Try.pinned (OpenSpec.ofChange matrixNamesWrong)

/-- 'twoslotlaw03.MatrixTwos': WHATEVER THE INPUT: true; the input reads as it did. -/
def matrixTwosSpec : ChangeSpec := { name := "matrixTwos", fn := fun _ => fun
  | [d1, d2, d3, d4] => { results := [.lit (.bool true)], args := [d1, d2, d3, d4] }
  | _ => none }
def matrixTwosRow : OpenClaim := { program := "ytmeckhfoajfapaa", sum := "e3e75231b0c67619e30deeee799b1e05f79c76201bd3bb9f19360f96ff6d1239", func := "twoslot/twoslotlaw03.MatrixTwos", spec := "matrixTwos", unfollowed := true, recurses := true, apart := false }
def MatrixTwosSaid : Prop := matrixTwosRow.holds Try.pinned (OpenSpec.ofChange matrixTwosSpec)

/-- ITS FALSE NEIGHBOUR: 'it returns false'. Refute it at one input. -/
def matrixTwosWrong : ChangeSpec := { name := "matrixTwos", fn := fun _ => fun
  | [d1, d2, d3, d4] => { results := [.lit (.bool false)], args := [d1, d2, d3, d4] }
  | _ => none }
def MatrixTwosWrongFalsely : Prop := matrixTwosRow.holds Try.pinned (OpenSpec.ofChange matrixTwosWrong)

/-- 'twoslotlaw03.MatrixInverse': WHATEVER THE INPUT: true; the input reads as it did. -/
def matrixInverseSpec : ChangeSpec := { name := "matrixInverse", fn := fun _ => fun
  | [d] => { results := [.lit (.bool true)], args := [d] }
  | _ => none }
def matrixInverseRow : OpenClaim := { program := "ytmeckhfoajfapaa", sum := "e3e75231b0c67619e30deeee799b1e05f79c76201bd3bb9f19360f96ff6d1239", func := "twoslot/twoslotlaw03.MatrixInverse", spec := "matrixInverse", unfollowed := true, recurses := true, apart := false }
def MatrixInverseSaid : Prop := matrixInverseRow.holds Try.pinned (OpenSpec.ofChange matrixInverseSpec)

/-- ITS FALSE NEIGHBOUR: 'it returns false'. Refute it at one input. -/
def matrixInverseWrong : ChangeSpec := { name := "matrixInverse", fn := fun _ => fun
  | [d] => { results := [.lit (.bool false)], args := [d] }
  | _ => none }
def MatrixInverseWrongFalsely : Prop := matrixInverseRow.holds Try.pinned (OpenSpec.ofChange matrixInverseWrong)

/-- 'twoslotlaw03.MatrixCode': WHATEVER THE INPUT: true; the input reads as it did. -/
def matrixCodeSpec : ChangeSpec := { name := "matrixCode", fn := fun _ => fun
  | [d1, d2, d3] => { results := [.lit (.bool true)], args := [d1, d2, d3] }
  | _ => none }
def matrixCodeRow : OpenClaim := { program := "ytmeckhfoajfapaa", sum := "e3e75231b0c67619e30deeee799b1e05f79c76201bd3bb9f19360f96ff6d1239", func := "twoslot/twoslotlaw03.MatrixCode", spec := "matrixCode", unfollowed := true, recurses := true, apart := false }
def MatrixCodeSaid : Prop := matrixCodeRow.holds Try.pinned (OpenSpec.ofChange matrixCodeSpec)

/-- ITS FALSE NEIGHBOUR: 'it returns false'. Refute it at one input. -/
def matrixCodeWrong : ChangeSpec := { name := "matrixCode", fn := fun _ => fun
  | [d1, d2, d3] => { results := [.lit (.bool false)], args := [d1, d2, d3] }
  | _ => none }
def MatrixCodeWrongFalsely : Prop := matrixCodeRow.holds Try.pinned (OpenSpec.ofChange matrixCodeWrong)

/-- 'twoslotlaw03.MatrixOnes': WHATEVER THE INPUT: true; the input reads as it did. -/
def matrixOnesSpec : ChangeSpec := { name := "matrixOnes", fn := fun _ => fun
  | [d1, d2] => { results := [.lit (.bool true)], args := [d1, d2] }
  | _ => none }
def matrixOnesRow : OpenClaim := { program := "ytmeckhfoajfapaa", sum := "e3e75231b0c67619e30deeee799b1e05f79c76201bd3bb9f19360f96ff6d1239", func := "twoslot/twoslotlaw03.MatrixOnes", spec := "matrixOnes", unfollowed := true, recurses := true, apart := false }
def MatrixOnesSaid : Prop := matrixOnesRow.holds Try.pinned (OpenSpec.ofChange matrixOnesSpec)

/-- ITS FALSE NEIGHBOUR: 'it returns false'. Refute it at one input. -/
def matrixOnesWrong : ChangeSpec := { name := "matrixOnes", fn := fun _ => fun
  | [d1, d2] => { results := [.lit (.bool false)], args := [d1, d2] }
  | _ => none }
def MatrixOnesWrongFalsely : Prop := matrixOnesRow.holds Try.pinned (OpenSpec.ofChange matrixOnesWrong)

/-- 'twoslotlaw03.MatrixProducts': WHATEVER THE INPUT: true; the input reads as it did. -/
def matrixProductsSpec : ChangeSpec := { name := "matrixProducts", fn := fun _ => fun
  | [d1, d2, d3] => { results := [.lit (.bool true)], args := [d1, d2, d3] }
  | _ => none }
def matrixProductsRow : OpenClaim := { program := "ytmeckhfoajfapaa", sum := "e3e75231b0c67619e30deeee799b1e05f79c76201bd3bb9f19360f96ff6d1239", func := "twoslot/twoslotlaw03.MatrixProducts", spec := "matrixProducts", unfollowed := true, recurses := true, apart := false }
def MatrixProductsSaid : Prop := matrixProductsRow.holds Try.pinned (OpenSpec.ofChange matrixProductsSpec)

/-- ITS FALSE NEIGHBOUR: 'it returns false'. Refute it at one input. -/
def matrixProductsWrong : ChangeSpec := { name := "matrixProducts", fn := fun _ => fun
  | [d1, d2, d3] => { results := [.lit (.bool false)], args := [d1, d2, d3] }
  | _ => none }
def MatrixProductsWrongFalsely : Prop := matrixProductsRow.holds Try.pinned (OpenSpec.ofChange matrixProductsWrong)

/- THE SECOND FORM. 'bulk': how many values and letters a reading holds, each counted each time it is reached (what is shared counts as often as it is met; a slice's spare places count too). A statement '..UptoSaid' is the law's where the arguments, and the package variables that the reading takes, are together of bulk at most 1048576: NARROWER than '..Said'. Prove '..Said' where nothing that the law and all that it calls make is longer than what came in: it says more and counts as full. Else prove '..UptoSaid'. A law counts once. -/
mutual
def uptoBulk {H : Type} : DataW H → Nat
  | .lit (.string bytes) => bytes.length + 1
  | .lit _ => 1
  | .nil => 1
  | .ptr d => uptoBulk d + 1
  | .slice elems spare => uptoBulkAll elems + uptoBulkAll spare + 1
  | .agg parts => uptoBulkAll parts + 1
  | .iface _ d => uptoBulk d + 1
  | .map entries => uptoBulkEntries entries + 1
  | .held _ => 1
def uptoBulkAll {H : Type} : List (DataW H) → Nat
  | [] => 0
  | d :: r => uptoBulk d + uptoBulkAll r
def uptoBulkEntries {H : Type} : List (Lit × DataW H) → Nat
  | [] => 0
  | x :: r => uptoBulkEntry x + uptoBulkEntries r
def uptoBulkEntry {H : Type} : Lit × DataW H → Nat
  | (.string bytes, d) => bytes.length + uptoBulk d + 1
  | (_, d) => uptoBulk d + 1
 end
def uptoSmall : (H : Type) → List (DataW H) → Bool := fun _ ds => decide (uptoBulkAll ds ≤ 1048576)
def OpenSpec.upto (s : _root_.Go.ChangeSpec) : _root_.Go.OpenSpec := { _root_.Go.OpenSpec.ofChange s with cond := some uptoSmall }

/-- 'twoslotlaw03.MatrixNames', WHERE WHAT IT READS IS OF BULK AT MOST 1048576: true; the input reads as it did. -/
def matrixNamesUptoRow : OpenClaim := { program := "ytmeckhfoajfapaa", sum := "e3e75231b0c67619e30deeee799b1e05f79c76201bd3bb9f19360f96ff6d1239", func := "twoslot/twoslotlaw03.MatrixNames", spec := "matrixNames", unfollowed := true, recurses := true, apart := false, narrowed := true }
def MatrixNamesUptoSaid : Prop := matrixNamesUptoRow.holds Try.pinned (OpenSpec.upto matrixNamesSpec)

/-- 'twoslotlaw03.MatrixTwos', WHERE WHAT IT READS IS OF BULK AT MOST 1048576: true; the input reads as it did. -/
def matrixTwosUptoRow : OpenClaim := { program := "ytmeckhfoajfapaa", sum := "e3e75231b0c67619e30deeee799b1e05f79c76201bd3bb9f19360f96ff6d1239", func := "twoslot/twoslotlaw03.MatrixTwos", spec := "matrixTwos", unfollowed := true, recurses := true, apart := false, narrowed := true }
def MatrixTwosUptoSaid : Prop := matrixTwosUptoRow.holds Try.pinned (OpenSpec.upto matrixTwosSpec)

/-- 'twoslotlaw03.MatrixInverse', WHERE WHAT IT READS IS OF BULK AT MOST 1048576: true; the input reads as it did. -/
def matrixInverseUptoRow : OpenClaim := { program := "ytmeckhfoajfapaa", sum := "e3e75231b0c67619e30deeee799b1e05f79c76201bd3bb9f19360f96ff6d1239", func := "twoslot/twoslotlaw03.MatrixInverse", spec := "matrixInverse", unfollowed := true, recurses := true, apart := false, narrowed := true }
def MatrixInverseUptoSaid : Prop := matrixInverseUptoRow.holds Try.pinned (OpenSpec.upto matrixInverseSpec)

/-- 'twoslotlaw03.MatrixCode', WHERE WHAT IT READS IS OF BULK AT MOST 1048576: true; the input reads as it did. -/
def matrixCodeUptoRow : OpenClaim := { program := "ytmeckhfoajfapaa", sum := "e3e75231b0c67619e30deeee799b1e05f79c76201bd3bb9f19360f96ff6d1239", func := "twoslot/twoslotlaw03.MatrixCode", spec := "matrixCode", unfollowed := true, recurses := true, apart := false, narrowed := true }
def MatrixCodeUptoSaid : Prop := matrixCodeUptoRow.holds Try.pinned (OpenSpec.upto matrixCodeSpec)

/-- 'twoslotlaw03.MatrixOnes', WHERE WHAT IT READS IS OF BULK AT MOST 1048576: true; the input reads as it did. -/
def matrixOnesUptoRow : OpenClaim := { program := "ytmeckhfoajfapaa", sum := "e3e75231b0c67619e30deeee799b1e05f79c76201bd3bb9f19360f96ff6d1239", func := "twoslot/twoslotlaw03.MatrixOnes", spec := "matrixOnes", unfollowed := true, recurses := true, apart := false, narrowed := true }
def MatrixOnesUptoSaid : Prop := matrixOnesUptoRow.holds Try.pinned (OpenSpec.upto matrixOnesSpec)

/-- 'twoslotlaw03.MatrixProducts', WHERE WHAT IT READS IS OF BULK AT MOST 1048576: true; the input reads as it did. -/
def matrixProductsUptoRow : OpenClaim := { program := "ytmeckhfoajfapaa", sum := "e3e75231b0c67619e30deeee799b1e05f79c76201bd3bb9f19360f96ff6d1239", func := "twoslot/twoslotlaw03.MatrixProducts", spec := "matrixProducts", unfollowed := true, recurses := true, apart := false, narrowed := true }
def MatrixProductsUptoSaid : Prop := matrixProductsUptoRow.holds Try.pinned (OpenSpec.upto matrixProductsSpec)

end Rows
end Go.Proofs.Ytmeckhfoajfapaa
