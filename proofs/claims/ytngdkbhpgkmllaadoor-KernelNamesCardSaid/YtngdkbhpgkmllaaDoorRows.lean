/-
  NARROWER THAN 'FOR EVERY INPUT', by the rows' own cells (each row's printed sentence says how): KernelNames: laid · KernelSums: laid · KernelDots: laid · KernelBytes: laid · KernelSteps: laid.
  DERIVED. THE GIVEN ROWS OF THIS SEAT. 5 by the template 'for every input the law returns true; each argument reads behind the call as it read before'; 0 by the template 'total and deterministic' (their statements: YtngdkbhpgkmllaaDoorTotals.lean).
  GIVEN WITH THE SEED: the statements are not yours to turn. If you find one false, say at which input.
  Laid BY PROGRAM, IN A SANDBOX (cutbox-rows.mjs): the forced cells as the released guide's own fill.sh prints them over the translation 2b58e49e4e497bbc… (all of the seat's roots in one cut). By AI agents, Wed Nov 11 2026. No macro, syntax, notation, axiom, sorry.
-/
import Derived.Test.YtngdkbhpgkmllaaDoorChecked
import GoSem.PinnedTables
import GoSem.Claim
import GoSem.ClaimJoined
import GoSem.ClaimMapViews
import Derived.JoinedTies
import Derived.KernelRfl
namespace Go.Proofs.YtngdkbhpgkmllaaDoor
/- THE CELL 'sum', in the pinned program and in every row, IS THE sha256 OF THE DUMP (.gsa) THAT YtngdkbhpgkmllaaDoorProg.lean LOADS. Nothing in Lean hashes anything: it is a label: what it is worth is what the hold of that sum in a sandbox is worth. -/
noncomputable def Tryd.pinned : Pinned := { name := "ytngdkbhpgkmllaadoor", sum := "2b58e49e4e497bbc00807702d6538cc051e817a82868b603f7d95e259064dfb8", checked := Tryd.checked }
namespace Rows
def none {H : Type} : Left H := { results := [], args := [] }

/- WHAT THE LISTED PACKAGE-LEVEL VARIABLES READ AS WHEN THE CALL BEGINS. Each datum BY PROGRAM (the guide's laid-datum.mjs) off the statement by which the dump's own 'gosem.cut.vars' lays the variable. In a bare row this is a premise. The card (YtngdkbhpgkmllaaDoorCards.lean) ties it to the program's text. -/
def laid_unicode_utf8_acceptRanges {H : Type} : DataW H := .agg [.agg [.lit (.int .u8 128), .lit (.int .u8 191)], .agg [.lit (.int .u8 160), .lit (.int .u8 191)], .agg [.lit (.int .u8 128), .lit (.int .u8 159)], .agg [.lit (.int .u8 144), .lit (.int .u8 191)], .agg [.lit (.int .u8 128), .lit (.int .u8 143)], .agg [.lit (.int .u8 0), .lit (.int .u8 0)], .agg [.lit (.int .u8 0), .lit (.int .u8 0)], .agg [.lit (.int .u8 0), .lit (.int .u8 0)], .agg [.lit (.int .u8 0), .lit (.int .u8 0)], .agg [.lit (.int .u8 0), .lit (.int .u8 0)], .agg [.lit (.int .u8 0), .lit (.int .u8 0)], .agg [.lit (.int .u8 0), .lit (.int .u8 0)], .agg [.lit (.int .u8 0), .lit (.int .u8 0)], .agg [.lit (.int .u8 0), .lit (.int .u8 0)], .agg [.lit (.int .u8 0), .lit (.int .u8 0)], .agg [.lit (.int .u8 0), .lit (.int .u8 0)]]
/-- One of Go's own tables, pinned by name: the form's constant. -/
def laid_unicode_utf8_first : DataW Unit := Go.Pinned.utf8First

/-- 'twoslotlaw02.KernelNames': WHATEVER THE INPUT: true; the input reads as it did. -/
def kernelNamesSpec : ChangeSpec := { name := "kernelNames", fn := fun _ => fun
  | [] => { results := [.lit (.bool true)], args := [] }
  | _ => none }
def kernelNamesRow : OpenClaim := { program := "ytngdkbhpgkmllaadoor", sum := "2b58e49e4e497bbc00807702d6538cc051e817a82868b603f7d95e259064dfb8", func := "twoslot/twoslotlaw02.KernelNames", spec := "kernelNames", named := ["unicode/utf8.first", "unicode/utf8.acceptRanges"], apart := false, laid := [("unicode/utf8.acceptRanges", laid_unicode_utf8_acceptRanges), ("unicode/utf8.first", laid_unicode_utf8_first)] }
def KernelNamesSaid : Prop := kernelNamesRow.holds Tryd.pinned (OpenSpec.ofChange kernelNamesSpec)

/-- ITS FALSE NEIGHBOUR: 'it returns false'. Refute it at one input. -/
def kernelNamesWrong : ChangeSpec := { name := "kernelNames", fn := fun _ => fun
  | [] => { results := [.lit (.bool false)], args := [] }
  | _ => none }
def KernelNamesWrongFalsely : Prop := kernelNamesRow.holds Tryd.pinned (OpenSpec.ofChange kernelNamesWrong)

/-- 'twoslotlaw02.KernelSums': WHATEVER THE INPUT: true; the input reads as it did. -/
def kernelSumsSpec : ChangeSpec := { name := "kernelSums", fn := fun _ => fun
  | [d1, d2, d3, d4] => { results := [.lit (.bool true)], args := [d1, d2, d3, d4] }
  | _ => none }
def kernelSumsRow : OpenClaim := { program := "ytngdkbhpgkmllaadoor", sum := "2b58e49e4e497bbc00807702d6538cc051e817a82868b603f7d95e259064dfb8", func := "twoslot/twoslotlaw02.KernelSums", spec := "kernelSums", named := ["unicode/utf8.first", "unicode/utf8.acceptRanges"], apart := false, laid := [("unicode/utf8.acceptRanges", laid_unicode_utf8_acceptRanges), ("unicode/utf8.first", laid_unicode_utf8_first)] }
def KernelSumsSaid : Prop := kernelSumsRow.holds Tryd.pinned (OpenSpec.ofChange kernelSumsSpec)

/-- ITS FALSE NEIGHBOUR: 'it returns false'. Refute it at one input. -/
def kernelSumsWrong : ChangeSpec := { name := "kernelSums", fn := fun _ => fun
  | [d1, d2, d3, d4] => { results := [.lit (.bool false)], args := [d1, d2, d3, d4] }
  | _ => none }
def KernelSumsWrongFalsely : Prop := kernelSumsRow.holds Tryd.pinned (OpenSpec.ofChange kernelSumsWrong)

/-- 'twoslotlaw02.KernelDots': WHATEVER THE INPUT: true; the input reads as it did. -/
def kernelDotsSpec : ChangeSpec := { name := "kernelDots", fn := fun _ => fun
  | [d1, d2] => { results := [.lit (.bool true)], args := [d1, d2] }
  | _ => none }
def kernelDotsRow : OpenClaim := { program := "ytngdkbhpgkmllaadoor", sum := "2b58e49e4e497bbc00807702d6538cc051e817a82868b603f7d95e259064dfb8", func := "twoslot/twoslotlaw02.KernelDots", spec := "kernelDots", named := ["unicode/utf8.first", "unicode/utf8.acceptRanges"], apart := false, laid := [("unicode/utf8.acceptRanges", laid_unicode_utf8_acceptRanges), ("unicode/utf8.first", laid_unicode_utf8_first)] }
def KernelDotsSaid : Prop := kernelDotsRow.holds Tryd.pinned (OpenSpec.ofChange kernelDotsSpec)

/-- ITS FALSE NEIGHBOUR: 'it returns false'. Refute it at one input. -/
def kernelDotsWrong : ChangeSpec := { name := "kernelDots", fn := fun _ => fun
  | [d1, d2] => { results := [.lit (.bool false)], args := [d1, d2] }
  | _ => none }
def KernelDotsWrongFalsely : Prop := kernelDotsRow.holds Tryd.pinned (OpenSpec.ofChange kernelDotsWrong)

/-- 'twoslotlaw02.KernelBytes': WHATEVER THE INPUT: true; the input reads as it did. -/
def kernelBytesSpec : ChangeSpec := { name := "kernelBytes", fn := fun _ => fun
  | [d1, d2, d3] => { results := [.lit (.bool true)], args := [d1, d2, d3] }
  | _ => none }
def kernelBytesRow : OpenClaim := { program := "ytngdkbhpgkmllaadoor", sum := "2b58e49e4e497bbc00807702d6538cc051e817a82868b603f7d95e259064dfb8", func := "twoslot/twoslotlaw02.KernelBytes", spec := "kernelBytes", named := ["unicode/utf8.first", "unicode/utf8.acceptRanges"], apart := false, laid := [("unicode/utf8.acceptRanges", laid_unicode_utf8_acceptRanges), ("unicode/utf8.first", laid_unicode_utf8_first)] }
def KernelBytesSaid : Prop := kernelBytesRow.holds Tryd.pinned (OpenSpec.ofChange kernelBytesSpec)

/-- ITS FALSE NEIGHBOUR: 'it returns false'. Refute it at one input. -/
def kernelBytesWrong : ChangeSpec := { name := "kernelBytes", fn := fun _ => fun
  | [d1, d2, d3] => { results := [.lit (.bool false)], args := [d1, d2, d3] }
  | _ => none }
def KernelBytesWrongFalsely : Prop := kernelBytesRow.holds Tryd.pinned (OpenSpec.ofChange kernelBytesWrong)

/-- 'twoslotlaw02.KernelSteps': WHATEVER THE INPUT: true; the input reads as it did. -/
def kernelStepsSpec : ChangeSpec := { name := "kernelSteps", fn := fun _ => fun
  | [d1, d2, d3] => { results := [.lit (.bool true)], args := [d1, d2, d3] }
  | _ => none }
def kernelStepsRow : OpenClaim := { program := "ytngdkbhpgkmllaadoor", sum := "2b58e49e4e497bbc00807702d6538cc051e817a82868b603f7d95e259064dfb8", func := "twoslot/twoslotlaw02.KernelSteps", spec := "kernelSteps", named := ["unicode/utf8.first", "unicode/utf8.acceptRanges"], apart := false, laid := [("unicode/utf8.acceptRanges", laid_unicode_utf8_acceptRanges), ("unicode/utf8.first", laid_unicode_utf8_first)] }
def KernelStepsSaid : Prop := kernelStepsRow.holds Tryd.pinned (OpenSpec.ofChange kernelStepsSpec)

/-- ITS FALSE NEIGHBOUR: 'it returns false'. Refute it at one input. -/
def kernelStepsWrong : ChangeSpec := { name := "kernelSteps", fn := fun _ => fun
  | [d1, d2, d3] => { results := [.lit (.bool false)], args := [d1, d2, d3] }
  | _ => none }
def KernelStepsWrongFalsely : Prop := kernelStepsRow.holds Tryd.pinned (OpenSpec.ofChange kernelStepsWrong)

/- THE SECOND FORM. 'bulk': how many values and letters a reading holds, each counted each time it is reached (what is shared counts as often as it is met; a slice's spare places count too). A statement '..UptoSaid' is the law's where the arguments, and the package variables that the reading takes, are together of bulk at most 1048576: NARROWER than '..Said'. Prove '..Said' where nothing that the law and all that it calls make is longer than what came in: it says more and counts as full. Else prove '..UptoSaid'. A law counts once. -/
mutual
def uptoBulk {H : Type} : DataW H → Nat
  | .lit (.string bytes) => bytes.length + 1
  | .lit _ => 1
  | .nil => 1
  | .ptr d => uptoBulk d + 1
  | .slice elems spare => uptoBulkAll elems + uptoBulkAll spare + 1
  | .agg parts => uptoBulkAll parts + 1
  | .iface _ d => uptoBulk d + 1
  | .map entries => uptoBulkEntries entries + 1
  | .held _ => 1
def uptoBulkAll {H : Type} : List (DataW H) → Nat
  | [] => 0
  | d :: r => uptoBulk d + uptoBulkAll r
def uptoBulkEntries {H : Type} : List (Lit × DataW H) → Nat
  | [] => 0
  | x :: r => uptoBulkEntry x + uptoBulkEntries r
def uptoBulkEntry {H : Type} : Lit × DataW H → Nat
  | (.string bytes, d) => bytes.length + uptoBulk d + 1
  | (_, d) => uptoBulk d + 1
 end
def uptoSmall : (H : Type) → List (DataW H) → Bool := fun _ ds => decide (uptoBulkAll ds ≤ 1048576)
def OpenSpec.upto (s : _root_.Go.ChangeSpec) : _root_.Go.OpenSpec := { _root_.Go.OpenSpec.ofChange s with cond := some uptoSmall }

/-- 'twoslotlaw02.KernelNames', WHERE WHAT IT READS IS OF BULK AT MOST 1048576: true; the input reads as it did. -/
def kernelNamesUptoRow : OpenClaim := { program := "ytngdkbhpgkmllaadoor", sum := "2b58e49e4e497bbc00807702d6538cc051e817a82868b603f7d95e259064dfb8", func := "twoslot/twoslotlaw02.KernelNames", spec := "kernelNames", named := ["unicode/utf8.first", "unicode/utf8.acceptRanges"], apart := false, laid := [("unicode/utf8.acceptRanges", laid_unicode_utf8_acceptRanges), ("unicode/utf8.first", laid_unicode_utf8_first)], narrowed := true }
def KernelNamesUptoSaid : Prop := kernelNamesUptoRow.holds Tryd.pinned (OpenSpec.upto kernelNamesSpec)

/-- 'twoslotlaw02.KernelSums', WHERE WHAT IT READS IS OF BULK AT MOST 1048576: true; the input reads as it did. -/
def kernelSumsUptoRow : OpenClaim := { program := "ytngdkbhpgkmllaadoor", sum := "2b58e49e4e497bbc00807702d6538cc051e817a82868b603f7d95e259064dfb8", func := "twoslot/twoslotlaw02.KernelSums", spec := "kernelSums", named := ["unicode/utf8.first", "unicode/utf8.acceptRanges"], apart := false, laid := [("unicode/utf8.acceptRanges", laid_unicode_utf8_acceptRanges), ("unicode/utf8.first", laid_unicode_utf8_first)], narrowed := true }
def KernelSumsUptoSaid : Prop := kernelSumsUptoRow.holds Tryd.pinned (OpenSpec.upto kernelSumsSpec)

/-- 'twoslotlaw02.KernelDots', WHERE WHAT IT READS IS OF BULK AT MOST 1048576: true; the input reads as it did. -/
def kernelDotsUptoRow : OpenClaim := { program := "ytngdkbhpgkmllaadoor", sum := "2b58e49e4e497bbc00807702d6538cc051e817a82868b603f7d95e259064dfb8", func := "twoslot/twoslotlaw02.KernelDots", spec := "kernelDots", named := ["unicode/utf8.first", "unicode/utf8.acceptRanges"], apart := false, laid := [("unicode/utf8.acceptRanges", laid_unicode_utf8_acceptRanges), ("unicode/utf8.first", laid_unicode_utf8_first)], narrowed := true }
def KernelDotsUptoSaid : Prop := kernelDotsUptoRow.holds Tryd.pinned (OpenSpec.upto kernelDotsSpec)

/-- 'twoslotlaw02.KernelBytes', WHERE WHAT IT READS IS OF BULK AT MOST 1048576: true; the input reads as it did. -/
def kernelBytesUptoRow : OpenClaim := { program := "ytngdkbhpgkmllaadoor", sum := "2b58e49e4e497bbc00807702d6538cc051e817a82868b603f7d95e259064dfb8", func := "twoslot/twoslotlaw02.KernelBytes", spec := "kernelBytes", named := ["unicode/utf8.first", "unicode/utf8.acceptRanges"], apart := false, laid := [("unicode/utf8.acceptRanges", laid_unicode_utf8_acceptRanges), ("unicode/utf8.first", laid_unicode_utf8_first)], narrowed := true }
def KernelBytesUptoSaid : Prop := kernelBytesUptoRow.holds Tryd.pinned (OpenSpec.upto kernelBytesSpec)

/-- 'twoslotlaw02.KernelSteps', WHERE WHAT IT READS IS OF BULK AT MOST 1048576: true; the input reads as it did. -/
def kernelStepsUptoRow : OpenClaim := { program := "ytngdkbhpgkmllaadoor", sum := "2b58e49e4e497bbc00807702d6538cc051e817a82868b603f7d95e259064dfb8", func := "twoslot/twoslotlaw02.KernelSteps", spec := "kernelSteps", named := ["unicode/utf8.first", "unicode/utf8.acceptRanges"], apart := false, laid := [("unicode/utf8.acceptRanges", laid_unicode_utf8_acceptRanges), ("unicode/utf8.first", laid_unicode_utf8_first)], narrowed := true }
def KernelStepsUptoSaid : Prop := kernelStepsUptoRow.holds Tryd.pinned (OpenSpec.upto kernelStepsSpec)

end Rows
end Go.Proofs.YtngdkbhpgkmllaaDoor
