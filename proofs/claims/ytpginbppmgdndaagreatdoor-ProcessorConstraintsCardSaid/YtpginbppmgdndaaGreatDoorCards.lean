/-
  DERIVED. GIVEN WITH THE SEED: THE CARDS: each row of YtpginbppmgdndaaGreatDoorRows.lean that lists a variable, with what it lists TIED to the program's text (the seventh form; the later family's looks); each row that meets fmt, with fmt's text TOLD by the authors' own Lean function (tested against real Go, not proved from fmt's source: count such statements apart). THE CARD IS WHAT COUNTS. Prove the row's statement (the work); the ties are given (YtpginbppmgdndaaGreatDoorTie.lean); close each card by the builder's one call (the guide's Derived/Test/ToyasCard.lean, 'card_holds'). Laid BY PROGRAM, IN A SANDBOX (cutbox-door.mjs). By AI agents, Wed Nov 11 2026. No macro, syntax, notation, axiom, sorry.
-/
import Derived.Test.YtpginbppmgdndaaGreatDoorRows
import GoSem.ClaimSeven
namespace Go.Proofs.YtpginbppmgdndaaGreatDoor
namespace Rows

/-- THE TIED CARD OF 'lispproverlaw41.ProcessorQuote'. -/
def processorQuoteCard : Claim7 := { stood := { row := processorQuoteRow, standIns := [], harness := (true, "25d70e701cfe16b64d4998cb0d1a585cfe32958a8e3816e2529fbcd3264aed28"), looks := true }, kinds := [], alts := [], laidByText := true, laidKinds := [.data, .data, .data, .sentinel, .sentinel], laidTests := true, laidLooks := .later }
def ProcessorQuoteCardSaid : Prop := Claim7.holds Tryz.pinned (.plain (OpenSpec.ofChange processorQuoteSpec)) processorQuoteCard

/-- THE TIED CARD OF 'lispproverlaw41.ProcessorUnquote'. -/
def processorUnquoteCard : Claim7 := { stood := { row := processorUnquoteRow, standIns := [], harness := (true, "25d70e701cfe16b64d4998cb0d1a585cfe32958a8e3816e2529fbcd3264aed28"), looks := true }, kinds := [], alts := [], laidByText := true, laidKinds := [.data, .data, .data, .sentinel, .sentinel], laidTests := true, laidLooks := .later }
def ProcessorUnquoteCardSaid : Prop := Claim7.holds Tryz.pinned (.plain (OpenSpec.ofChange processorUnquoteSpec)) processorUnquoteCard

/-- THE TIED CARD OF 'lispproverlaw41.ProcessorConstraints'. -/
def processorConstraintsCard : Claim7 := { stood := { row := processorConstraintsRow, standIns := [], harness := (true, "25d70e701cfe16b64d4998cb0d1a585cfe32958a8e3816e2529fbcd3264aed28"), looks := true }, kinds := [], alts := [], laidByText := true, laidKinds := [.data, .data, .data, .sentinel, .sentinel], laidTests := true, laidLooks := .later }
def ProcessorConstraintsCardSaid : Prop := Claim7.holds Tryz.pinned (.plain (OpenSpec.ofChange processorConstraintsSpec)) processorConstraintsCard

/-- THE SECOND FORM's CARD OF 'lispproverlaw41.ProcessorQuote'. -/
def processorQuoteUptoCard : Claim7 := { stood := { row := processorQuoteUptoRow, standIns := [], harness := (true, "25d70e701cfe16b64d4998cb0d1a585cfe32958a8e3816e2529fbcd3264aed28"), looks := true }, kinds := [], alts := [], laidByText := true, laidKinds := [.data, .data, .data, .sentinel, .sentinel], laidTests := true, laidLooks := .later }
def ProcessorQuoteUptoCardSaid : Prop := Claim7.holds Tryz.pinned (.plain (OpenSpec.upto processorQuoteSpec)) processorQuoteUptoCard

/-- THE SECOND FORM's CARD OF 'lispproverlaw41.ProcessorUnquote'. -/
def processorUnquoteUptoCard : Claim7 := { stood := { row := processorUnquoteUptoRow, standIns := [], harness := (true, "25d70e701cfe16b64d4998cb0d1a585cfe32958a8e3816e2529fbcd3264aed28"), looks := true }, kinds := [], alts := [], laidByText := true, laidKinds := [.data, .data, .data, .sentinel, .sentinel], laidTests := true, laidLooks := .later }
def ProcessorUnquoteUptoCardSaid : Prop := Claim7.holds Tryz.pinned (.plain (OpenSpec.upto processorUnquoteSpec)) processorUnquoteUptoCard

/-- THE SECOND FORM's CARD OF 'lispproverlaw41.ProcessorConstraints'. -/
def processorConstraintsUptoCard : Claim7 := { stood := { row := processorConstraintsUptoRow, standIns := [], harness := (true, "25d70e701cfe16b64d4998cb0d1a585cfe32958a8e3816e2529fbcd3264aed28"), looks := true }, kinds := [], alts := [], laidByText := true, laidKinds := [.data, .data, .data, .sentinel, .sentinel], laidTests := true, laidLooks := .later }
def ProcessorConstraintsUptoCardSaid : Prop := Claim7.holds Tryz.pinned (.plain (OpenSpec.upto processorConstraintsSpec)) processorConstraintsUptoCard
end Rows
end Go.Proofs.YtpginbppmgdndaaGreatDoor
