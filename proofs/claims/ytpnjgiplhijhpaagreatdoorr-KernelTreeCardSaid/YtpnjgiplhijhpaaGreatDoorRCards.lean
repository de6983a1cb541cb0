/-
  DERIVED. GIVEN WITH THE SEED: THE CARDS: each row of YtpnjgiplhijhpaaGreatDoorRRows.lean that lists a variable, with what it lists TIED to the program's text (the seventh form; the later family's looks); each row that meets fmt, with fmt's text TOLD by the authors' own Lean function (tested against real Go, not proved from fmt's source: count such statements apart). THE CARD IS WHAT COUNTS. Prove the row's statement (the work); the ties are given (YtpnjgiplhijhpaaGreatDoorRTie.lean); close each card by the builder's one call (the guide's Derived/Test/ToyasCard.lean, 'card_holds'). Laid BY PROGRAM, IN A SANDBOX (cutbox-door.mjs). By AI agents, Wed Nov 11 2026. No macro, syntax, notation, axiom, sorry.
-/
import Derived.Test.YtpnjgiplhijhpaaGreatDoorRRows
import GoSem.ClaimSeven
namespace Go.Proofs.YtpnjgiplhijhpaaGreatDoorR
namespace Rows

/-- THE TIED CARD OF 'lispproverlaw22.KernelTree'. -/
def kernelTreeCard : Claim7 := { stood := { row := kernelTreeRow, standIns := [], harness := (true, "bec974e291038a82f5e54cc4acb466b023d06ad7817e1d87de3e04d76b17b88f"), looks := true }, kinds := [], alts := [], laidByText := true, laidKinds := [.data, .data, .data, .data, .pinned, .data, .listed, .sentinel, .sentinel], laidTests := true, laidLooks := .later }
def KernelTreeCardSaid : Prop := Claim7.holds Tryz.pinned (.plain (OpenSpec.ofChange kernelTreeSpec)) kernelTreeCard

/-- THE SECOND FORM's CARD OF 'lispproverlaw22.KernelTree'. -/
def kernelTreeUptoCard : Claim7 := { stood := { row := kernelTreeUptoRow, standIns := [], harness := (true, "bec974e291038a82f5e54cc4acb466b023d06ad7817e1d87de3e04d76b17b88f"), looks := true }, kinds := [], alts := [], laidByText := true, laidKinds := [.data, .data, .data, .data, .pinned, .data, .listed, .sentinel, .sentinel], laidTests := true, laidLooks := .later }
def KernelTreeUptoCardSaid : Prop := Claim7.holds Tryz.pinned (.plain (OpenSpec.upto kernelTreeSpec)) kernelTreeUptoCard
end Rows
end Go.Proofs.YtpnjgiplhijhpaaGreatDoorR
