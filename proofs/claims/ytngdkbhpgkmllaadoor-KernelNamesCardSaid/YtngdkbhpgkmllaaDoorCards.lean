/-
  DERIVED. GIVEN WITH THE SEED: THE CARDS: each row of YtngdkbhpgkmllaaDoorRows.lean that lists a variable, with what it lists TIED to the program's text (the seventh form; the later family's looks); each row that meets fmt, with fmt's text TOLD by the authors' own Lean function (tested against real Go, not proved from fmt's source: count such statements apart). THE CARD IS WHAT COUNTS. Prove the row's statement (the work); the ties are given (YtngdkbhpgkmllaaDoorTie.lean); close each card by the builder's one call (the guide's Derived/Test/ToyasCard.lean, 'card_holds'). Laid BY PROGRAM, IN A SANDBOX (cutbox-door.mjs). By AI agents, Wed Nov 11 2026. No macro, syntax, notation, axiom, sorry.
-/
import Derived.Test.YtngdkbhpgkmllaaDoorRows
import GoSem.ClaimSeven
namespace Go.Proofs.YtngdkbhpgkmllaaDoor
namespace Rows

/-- THE TIED CARD OF 'twoslotlaw02.KernelNames'. -/
def kernelNamesCard : Claim7 := { stood := { row := kernelNamesRow, standIns := [], harness := (true, "50f9f14ad098dfab5f6081a88e9ea9e5747509d4f4239a3113dd4c793973c2a6"), looks := false }, kinds := [], alts := [], laidByText := true, laidKinds := [.data, .pinned], laidTests := true, laidLooks := .later }
def KernelNamesCardSaid : Prop := Claim7.holds Tryd.pinned (.plain (OpenSpec.ofChange kernelNamesSpec)) kernelNamesCard

/-- THE TIED CARD OF 'twoslotlaw02.KernelSums'. -/
def kernelSumsCard : Claim7 := { stood := { row := kernelSumsRow, standIns := [], harness := (true, "50f9f14ad098dfab5f6081a88e9ea9e5747509d4f4239a3113dd4c793973c2a6"), looks := false }, kinds := [], alts := [], laidByText := true, laidKinds := [.data, .pinned], laidTests := true, laidLooks := .later }
def KernelSumsCardSaid : Prop := Claim7.holds Tryd.pinned (.plain (OpenSpec.ofChange kernelSumsSpec)) kernelSumsCard

/-- THE TIED CARD OF 'twoslotlaw02.KernelDots'. -/
def kernelDotsCard : Claim7 := { stood := { row := kernelDotsRow, standIns := [], harness := (true, "50f9f14ad098dfab5f6081a88e9ea9e5747509d4f4239a3113dd4c793973c2a6"), looks := false }, kinds := [], alts := [], laidByText := true, laidKinds := [.data, .pinned], laidTests := true, laidLooks := .later }
def KernelDotsCardSaid : Prop := Claim7.holds Tryd.pinned (.plain (OpenSpec.ofChange kernelDotsSpec)) kernelDotsCard

/-- THE TIED CARD OF 'twoslotlaw02.KernelBytes'. -/
def kernelBytesCard : Claim7 := { stood := { row := kernelBytesRow, standIns := [], harness := (true, "50f9f14ad098dfab5f6081a88e9ea9e5747509d4f4239a3113dd4c793973c2a6"), looks := false }, kinds := [], alts := [], laidByText := true, laidKinds := [.data, .pinned], laidTests := true, laidLooks := .later }
def KernelBytesCardSaid : Prop := Claim7.holds Tryd.pinned (.plain (OpenSpec.ofChange kernelBytesSpec)) kernelBytesCard

/-- THE TIED CARD OF 'twoslotlaw02.KernelSteps'. -/
def kernelStepsCard : Claim7 := { stood := { row := kernelStepsRow, standIns := [], harness := (true, "50f9f14ad098dfab5f6081a88e9ea9e5747509d4f4239a3113dd4c793973c2a6"), looks := false }, kinds := [], alts := [], laidByText := true, laidKinds := [.data, .pinned], laidTests := true, laidLooks := .later }
def KernelStepsCardSaid : Prop := Claim7.holds Tryd.pinned (.plain (OpenSpec.ofChange kernelStepsSpec)) kernelStepsCard

/-- THE SECOND FORM's CARD OF 'twoslotlaw02.KernelNames'. -/
def kernelNamesUptoCard : Claim7 := { stood := { row := kernelNamesUptoRow, standIns := [], harness := (true, "50f9f14ad098dfab5f6081a88e9ea9e5747509d4f4239a3113dd4c793973c2a6"), looks := false }, kinds := [], alts := [], laidByText := true, laidKinds := [.data, .pinned], laidTests := true, laidLooks := .later }
def KernelNamesUptoCardSaid : Prop := Claim7.holds Tryd.pinned (.plain (OpenSpec.upto kernelNamesSpec)) kernelNamesUptoCard

/-- THE SECOND FORM's CARD OF 'twoslotlaw02.KernelSums'. -/
def kernelSumsUptoCard : Claim7 := { stood := { row := kernelSumsUptoRow, standIns := [], harness := (true, "50f9f14ad098dfab5f6081a88e9ea9e5747509d4f4239a3113dd4c793973c2a6"), looks := false }, kinds := [], alts := [], laidByText := true, laidKinds := [.data, .pinned], laidTests := true, laidLooks := .later }
def KernelSumsUptoCardSaid : Prop := Claim7.holds Tryd.pinned (.plain (OpenSpec.upto kernelSumsSpec)) kernelSumsUptoCard

/-- THE SECOND FORM's CARD OF 'twoslotlaw02.KernelDots'. -/
def kernelDotsUptoCard : Claim7 := { stood := { row := kernelDotsUptoRow, standIns := [], harness := (true, "50f9f14ad098dfab5f6081a88e9ea9e5747509d4f4239a3113dd4c793973c2a6"), looks := false }, kinds := [], alts := [], laidByText := true, laidKinds := [.data, .pinned], laidTests := true, laidLooks := .later }
def KernelDotsUptoCardSaid : Prop := Claim7.holds Tryd.pinned (.plain (OpenSpec.upto kernelDotsSpec)) kernelDotsUptoCard

/-- THE SECOND FORM's CARD OF 'twoslotlaw02.KernelBytes'. -/
def kernelBytesUptoCard : Claim7 := { stood := { row := kernelBytesUptoRow, standIns := [], harness := (true, "50f9f14ad098dfab5f6081a88e9ea9e5747509d4f4239a3113dd4c793973c2a6"), looks := false }, kinds := [], alts := [], laidByText := true, laidKinds := [.data, .pinned], laidTests := true, laidLooks := .later }
def KernelBytesUptoCardSaid : Prop := Claim7.holds Tryd.pinned (.plain (OpenSpec.upto kernelBytesSpec)) kernelBytesUptoCard

/-- THE SECOND FORM's CARD OF 'twoslotlaw02.KernelSteps'. -/
def kernelStepsUptoCard : Claim7 := { stood := { row := kernelStepsUptoRow, standIns := [], harness := (true, "50f9f14ad098dfab5f6081a88e9ea9e5747509d4f4239a3113dd4c793973c2a6"), looks := false }, kinds := [], alts := [], laidByText := true, laidKinds := [.data, .pinned], laidTests := true, laidLooks := .later }
def KernelStepsUptoCardSaid : Prop := Claim7.holds Tryd.pinned (.plain (OpenSpec.upto kernelStepsSpec)) kernelStepsUptoCard
end Rows
end Go.Proofs.YtngdkbhpgkmllaaDoor
