/-
  DERIVED. GIVEN WITH THE SEED: THE CARDS: each row of YtolnnaanmfnkjaaGreatDoorRows.lean that lists a variable, with what it lists TIED to the program's text (the seventh form; the later family's looks); each row that meets fmt, with fmt's text TOLD by the authors' own Lean function (tested against real Go, not proved from fmt's source: count such statements apart). THE CARD IS WHAT COUNTS. Prove the row's statement (the work); the ties are given (YtolnnaanmfnkjaaGreatDoorTie.lean); close each card by the builder's one call (the guide's Derived/Test/ToyasCard.lean, 'card_holds'). Laid BY PROGRAM, IN A SANDBOX (cutbox-door.mjs). By AI agents, Wed Nov 11 2026. No macro, syntax, notation, axiom, sorry.
-/
import Derived.Test.YtolnnaanmfnkjaaGreatDoorRows
import GoSem.ClaimSeven
namespace Go.Proofs.YtolnnaanmfnkjaaGreatDoor
namespace Rows

/-- THE TIED CARD OF 'lispproverlaw37.InductionSuggest'. -/
def inductionSuggestCard : Claim7 := { stood := { row := inductionSuggestRow, standIns := [], harness := (true, "553e0069a973972142efee23b9f5ec7bad0651dc19b133852792b5bb8afd5c39"), looks := false }, kinds := [], alts := [], laidByText := true, laidKinds := [.data, .data, .data, .data, .pinned, .pinned, .pinned, .pinned, .pinned, .pinned], laidTests := true, laidLooks := .later }
def InductionSuggestCardSaid : Prop := Claim7.holds Tryz.pinned (.plain (OpenSpec.ofChange inductionSuggestSpec)) inductionSuggestCard

/-- THE TIED CARD OF 'lispproverlaw37.InductionMade'. -/
def inductionMadeCard : Claim7 := { stood := { row := inductionMadeRow, standIns := [], harness := (true, "553e0069a973972142efee23b9f5ec7bad0651dc19b133852792b5bb8afd5c39"), looks := false }, kinds := [], alts := [], laidByText := true, laidKinds := [.data, .data, .data, .data, .pinned, .pinned, .pinned, .pinned, .pinned, .pinned], laidTests := true, laidLooks := .later }
def InductionMadeCardSaid : Prop := Claim7.holds Tryz.pinned (.plain (OpenSpec.ofChange inductionMadeSpec)) inductionMadeCard

/-- THE TIED CARD OF 'lispproverlaw37.InductionPairs'. -/
def inductionPairsCard : Claim7 := { stood := { row := inductionPairsRow, standIns := [], harness := (true, "553e0069a973972142efee23b9f5ec7bad0651dc19b133852792b5bb8afd5c39"), looks := false }, kinds := [], alts := [], laidByText := true, laidKinds := [.data, .data, .data, .data, .pinned, .pinned, .pinned, .pinned, .pinned, .pinned], laidTests := true, laidLooks := .later }
def InductionPairsCardSaid : Prop := Claim7.holds Tryz.pinned (.plain (OpenSpec.ofChange inductionPairsSpec)) inductionPairsCard

/-- THE TIED CARD OF 'lispproverlaw37.InductionOrder'. -/
def inductionOrderCard : Claim7 := { stood := { row := inductionOrderRow, standIns := [], harness := (true, "553e0069a973972142efee23b9f5ec7bad0651dc19b133852792b5bb8afd5c39"), looks := false }, kinds := [], alts := [], laidByText := true, laidKinds := [.data, .data, .data, .data, .pinned, .pinned, .pinned, .pinned, .pinned, .pinned], laidTests := true, laidLooks := .later }
def InductionOrderCardSaid : Prop := Claim7.holds Tryz.pinned (.plain (OpenSpec.ofChange inductionOrderSpec)) inductionOrderCard

/-- THE TIED CARD OF 'lispproverlaw37.InductionBest'. -/
def inductionBestCard : Claim7 := { stood := { row := inductionBestRow, standIns := [], harness := (true, "553e0069a973972142efee23b9f5ec7bad0651dc19b133852792b5bb8afd5c39"), looks := false }, kinds := [], alts := [], laidByText := true, laidKinds := [.data, .data, .data, .data, .pinned, .pinned, .pinned, .pinned, .pinned, .pinned], laidTests := true, laidLooks := .later }
def InductionBestCardSaid : Prop := Claim7.holds Tryz.pinned (.plain (OpenSpec.ofChange inductionBestSpec)) inductionBestCard

/-- THE TIED CARD OF 'lispproverlaw37.InductionGoals'. -/
def inductionGoalsCard : Claim7 := { stood := { row := inductionGoalsRow, standIns := [], harness := (true, "553e0069a973972142efee23b9f5ec7bad0651dc19b133852792b5bb8afd5c39"), looks := false }, kinds := [], alts := [], laidByText := true, laidKinds := [.data, .data, .data, .data, .pinned, .pinned, .pinned, .pinned, .pinned, .pinned], laidTests := true, laidLooks := .later }
def InductionGoalsCardSaid : Prop := Claim7.holds Tryz.pinned (.plain (OpenSpec.ofChange inductionGoalsSpec)) inductionGoalsCard

/-- THE SECOND FORM's CARD OF 'lispproverlaw37.InductionSuggest'. -/
def inductionSuggestUptoCard : Claim7 := { stood := { row := inductionSuggestUptoRow, standIns := [], harness := (true, "553e0069a973972142efee23b9f5ec7bad0651dc19b133852792b5bb8afd5c39"), looks := false }, kinds := [], alts := [], laidByText := true, laidKinds := [.data, .data, .data, .data, .pinned, .pinned, .pinned, .pinned, .pinned, .pinned], laidTests := true, laidLooks := .later }
def InductionSuggestUptoCardSaid : Prop := Claim7.holds Tryz.pinned (.plain (OpenSpec.upto inductionSuggestSpec)) inductionSuggestUptoCard

/-- THE SECOND FORM's CARD OF 'lispproverlaw37.InductionMade'. -/
def inductionMadeUptoCard : Claim7 := { stood := { row := inductionMadeUptoRow, standIns := [], harness := (true, "553e0069a973972142efee23b9f5ec7bad0651dc19b133852792b5bb8afd5c39"), looks := false }, kinds := [], alts := [], laidByText := true, laidKinds := [.data, .data, .data, .data, .pinned, .pinned, .pinned, .pinned, .pinned, .pinned], laidTests := true, laidLooks := .later }
def InductionMadeUptoCardSaid : Prop := Claim7.holds Tryz.pinned (.plain (OpenSpec.upto inductionMadeSpec)) inductionMadeUptoCard

/-- THE SECOND FORM's CARD OF 'lispproverlaw37.InductionPairs'. -/
def inductionPairsUptoCard : Claim7 := { stood := { row := inductionPairsUptoRow, standIns := [], harness := (true, "553e0069a973972142efee23b9f5ec7bad0651dc19b133852792b5bb8afd5c39"), looks := false }, kinds := [], alts := [], laidByText := true, laidKinds := [.data, .data, .data, .data, .pinned, .pinned, .pinned, .pinned, .pinned, .pinned], laidTests := true, laidLooks := .later }
def InductionPairsUptoCardSaid : Prop := Claim7.holds Tryz.pinned (.plain (OpenSpec.upto inductionPairsSpec)) inductionPairsUptoCard

/-- THE SECOND FORM's CARD OF 'lispproverlaw37.InductionOrder'. -/
def inductionOrderUptoCard : Claim7 := { stood := { row := inductionOrderUptoRow, standIns := [], harness := (true, "553e0069a973972142efee23b9f5ec7bad0651dc19b133852792b5bb8afd5c39"), looks := false }, kinds := [], alts := [], laidByText := true, laidKinds := [.data, .data, .data, .data, .pinned, .pinned, .pinned, .pinned, .pinned, .pinned], laidTests := true, laidLooks := .later }
def InductionOrderUptoCardSaid : Prop := Claim7.holds Tryz.pinned (.plain (OpenSpec.upto inductionOrderSpec)) inductionOrderUptoCard

/-- THE SECOND FORM's CARD OF 'lispproverlaw37.InductionBest'. -/
def inductionBestUptoCard : Claim7 := { stood := { row := inductionBestUptoRow, standIns := [], harness := (true, "553e0069a973972142efee23b9f5ec7bad0651dc19b133852792b5bb8afd5c39"), looks := false }, kinds := [], alts := [], laidByText := true, laidKinds := [.data, .data, .data, .data, .pinned, .pinned, .pinned, .pinned, .pinned, .pinned], laidTests := true, laidLooks := .later }
def InductionBestUptoCardSaid : Prop := Claim7.holds Tryz.pinned (.plain (OpenSpec.upto inductionBestSpec)) inductionBestUptoCard

/-- THE SECOND FORM's CARD OF 'lispproverlaw37.InductionGoals'. -/
def inductionGoalsUptoCard : Claim7 := { stood := { row := inductionGoalsUptoRow, standIns := [], harness := (true, "553e0069a973972142efee23b9f5ec7bad0651dc19b133852792b5bb8afd5c39"), looks := false }, kinds := [], alts := [], laidByText := true, laidKinds := [.data, .data, .data, .data, .pinned, .pinned, .pinned, .pinned, .pinned, .pinned], laidTests := true, laidLooks := .later }
def InductionGoalsUptoCardSaid : Prop := Claim7.holds Tryz.pinned (.plain (OpenSpec.upto inductionGoalsSpec)) inductionGoalsUptoCard
end Rows
end Go.Proofs.YtolnnaanmfnkjaaGreatDoor
