/-
  No cell of these rows narrows 'for every input' (looked for: loops, veiled, ifaces, maps, wideKeys, modest, calm, conditions, laid).
  DERIVED. THE GIVEN ROWS OF THIS SEAT. 7 by the template 'for every input the law returns true; each argument reads behind the call as it read before'; 0 by the template 'total and deterministic' (their statements: YtfphnpelampoeaaTotals.lean).
  GIVEN WITH THE SEED: the statements are not yours to turn. If you find one false, say at which input.
  Laid BY PROGRAM, IN A SANDBOX (cutbox-rows.mjs): the forced cells as the released guide's own fill.sh prints them over the translation 009696687e911092… (all of the seat's roots in one cut). By AI agents, Wed Nov 11 2026. No macro, syntax, notation, axiom, sorry.
-/
import Derived.Test.YtfphnpelampoeaaChecked
import GoSem.Claim
import GoSem.ClaimJoined
import GoSem.ClaimMapViews
import Derived.JoinedTies
import Derived.KernelRfl
namespace Go.Proofs.Ytfphnpelampoeaa
/- THE CELL 'sum', in the pinned program and in every row, IS THE sha256 OF THE DUMP (.gsa) THAT YtfphnpelampoeaaProg.lean LOADS. Nothing in Lean hashes anything: it is a label: what it is worth is what the hold of that sum in a sandbox is worth. -/
noncomputable def Try.pinned : Pinned := { name := "ytfphnpelampoeaa", sum := "009696687e9110921fb0fb218756607edbea1b0f5f14c562807f79608004b395", checked := Try.checked }
namespace Rows
def none {H : Type} : Left H := { results := [], args := [] }

/-- 'lispproverlaw44.StoreSizes': WHATEVER THE INPUT: true; the input reads as it did. -/
def storeSizesSpec : ChangeSpec := { name := "storeSizes", fn := fun _ => fun
  | [d] => { results := [.lit (.bool true)], args := [d] }
  | _ => none }
def storeSizesRow : OpenClaim := { program := "ytfphnpelampoeaa", sum := "009696687e9110921fb0fb218756607edbea1b0f5f14c562807f79608004b395", func := "lispprover/lispproverlaw44.StoreSizes", spec := "storeSizes", apart := false }
def StoreSizesSaid : Prop := storeSizesRow.holds Try.pinned (OpenSpec.ofChange storeSizesSpec)

/-- ITS FALSE NEIGHBOUR: 'it returns false'. Refute it at one input. -/
def storeSizesWrong : ChangeSpec := { name := "storeSizes", fn := fun _ => fun
  | [d] => { results := [.lit (.bool false)], args := [d] }
  | _ => none }
def StoreSizesWrongFalsely : Prop := storeSizesRow.holds Try.pinned (OpenSpec.ofChange storeSizesWrong)

/-- 'lispproverlaw44.StoreValid': WHATEVER THE INPUT: true; the input reads as it did. -/
def storeValidSpec : ChangeSpec := { name := "storeValid", fn := fun _ => fun
  | [d1, d2, d3, d4] => { results := [.lit (.bool true)], args := [d1, d2, d3, d4] }
  | _ => none }
def storeValidRow : OpenClaim := { program := "ytfphnpelampoeaa", sum := "009696687e9110921fb0fb218756607edbea1b0f5f14c562807f79608004b395", func := "lispprover/lispproverlaw44.StoreValid", spec := "storeValid", apart := false }
def StoreValidSaid : Prop := storeValidRow.holds Try.pinned (OpenSpec.ofChange storeValidSpec)

/-- ITS FALSE NEIGHBOUR: 'it returns false'. Refute it at one input. -/
def storeValidWrong : ChangeSpec := { name := "storeValid", fn := fun _ => fun
  | [d1, d2, d3, d4] => { results := [.lit (.bool false)], args := [d1, d2, d3, d4] }
  | _ => none }
def StoreValidWrongFalsely : Prop := storeValidRow.holds Try.pinned (OpenSpec.ofChange storeValidWrong)

/-- 'lispproverlaw44.StorePower': WHATEVER THE INPUT: true; the input reads as it did. -/
def storePowerSpec : ChangeSpec := { name := "storePower", fn := fun _ => fun
  | [d1, d2, d3, d4, d5] => { results := [.lit (.bool true)], args := [d1, d2, d3, d4, d5] }
  | _ => none }
def storePowerRow : OpenClaim := { program := "ytfphnpelampoeaa", sum := "009696687e9110921fb0fb218756607edbea1b0f5f14c562807f79608004b395", func := "lispprover/lispproverlaw44.StorePower", spec := "storePower", apart := false }
def StorePowerSaid : Prop := storePowerRow.holds Try.pinned (OpenSpec.ofChange storePowerSpec)

/-- ITS FALSE NEIGHBOUR: 'it returns false'. Refute it at one input. -/
def storePowerWrong : ChangeSpec := { name := "storePower", fn := fun _ => fun
  | [d1, d2, d3, d4, d5] => { results := [.lit (.bool false)], args := [d1, d2, d3, d4, d5] }
  | _ => none }
def StorePowerWrongFalsely : Prop := storePowerRow.holds Try.pinned (OpenSpec.ofChange storePowerWrong)

/-- 'lispproverlaw44.StoreAgain': WHATEVER THE INPUT: true; the input reads as it did. -/
def storeAgainSpec : ChangeSpec := { name := "storeAgain", fn := fun _ => fun
  | [d1, d2, d3] => { results := [.lit (.bool true)], args := [d1, d2, d3] }
  | _ => none }
def storeAgainRow : OpenClaim := { program := "ytfphnpelampoeaa", sum := "009696687e9110921fb0fb218756607edbea1b0f5f14c562807f79608004b395", func := "lispprover/lispproverlaw44.StoreAgain", spec := "storeAgain", apart := false }
def StoreAgainSaid : Prop := storeAgainRow.holds Try.pinned (OpenSpec.ofChange storeAgainSpec)

/-- ITS FALSE NEIGHBOUR: 'it returns false'. Refute it at one input. -/
def storeAgainWrong : ChangeSpec := { name := "storeAgain", fn := fun _ => fun
  | [d1, d2, d3] => { results := [.lit (.bool false)], args := [d1, d2, d3] }
  | _ => none }
def StoreAgainWrongFalsely : Prop := storeAgainRow.holds Try.pinned (OpenSpec.ofChange storeAgainWrong)

/-- 'lispproverlaw44.StoreRecords': WHATEVER THE INPUT: true; the input reads as it did. -/
def storeRecordsSpec : ChangeSpec := { name := "storeRecords", fn := fun _ => fun
  | [d1, d2, d3, d4] => { results := [.lit (.bool true)], args := [d1, d2, d3, d4] }
  | _ => none }
def storeRecordsRow : OpenClaim := { program := "ytfphnpelampoeaa", sum := "009696687e9110921fb0fb218756607edbea1b0f5f14c562807f79608004b395", func := "lispprover/lispproverlaw44.StoreRecords", spec := "storeRecords", apart := false }
def StoreRecordsSaid : Prop := storeRecordsRow.holds Try.pinned (OpenSpec.ofChange storeRecordsSpec)

/-- ITS FALSE NEIGHBOUR: 'it returns false'. Refute it at one input. -/
def storeRecordsWrong : ChangeSpec := { name := "storeRecords", fn := fun _ => fun
  | [d1, d2, d3, d4] => { results := [.lit (.bool false)], args := [d1, d2, d3, d4] }
  | _ => none }
def StoreRecordsWrongFalsely : Prop := storeRecordsRow.holds Try.pinned (OpenSpec.ofChange storeRecordsWrong)

/-- 'lispproverlaw44.StoreErrors': WHATEVER THE INPUT: true; the input reads as it did. -/
def storeErrorsSpec : ChangeSpec := { name := "storeErrors", fn := fun _ => fun
  | [d1, d2] => { results := [.lit (.bool true)], args := [d1, d2] }
  | _ => none }
def storeErrorsRow : OpenClaim := { program := "ytfphnpelampoeaa", sum := "009696687e9110921fb0fb218756607edbea1b0f5f14c562807f79608004b395", func := "lispprover/lispproverlaw44.StoreErrors", spec := "storeErrors", apart := false }
def StoreErrorsSaid : Prop := storeErrorsRow.holds Try.pinned (OpenSpec.ofChange storeErrorsSpec)

/-- ITS FALSE NEIGHBOUR: 'it returns false'. Refute it at one input. -/
def storeErrorsWrong : ChangeSpec := { name := "storeErrors", fn := fun _ => fun
  | [d1, d2] => { results := [.lit (.bool false)], args := [d1, d2] }
  | _ => none }
def StoreErrorsWrongFalsely : Prop := storeErrorsRow.holds Try.pinned (OpenSpec.ofChange storeErrorsWrong)

/-- 'lispproverlaw44.StoreDisk': WHATEVER THE INPUT: true; the input reads as it did. -/
def storeDiskSpec : ChangeSpec := { name := "storeDisk", fn := fun _ => fun
  | [d1, d2] => { results := [.lit (.bool true)], args := [d1, d2] }
  | _ => none }
def storeDiskRow : OpenClaim := { program := "ytfphnpelampoeaa", sum := "009696687e9110921fb0fb218756607edbea1b0f5f14c562807f79608004b395", func := "lispprover/lispproverlaw44.StoreDisk", spec := "storeDisk", apart := false }
def StoreDiskSaid : Prop := storeDiskRow.holds Try.pinned (OpenSpec.ofChange storeDiskSpec)

/-- ITS FALSE NEIGHBOUR: 'it returns false'. Refute it at one input. -/
def storeDiskWrong : ChangeSpec := { name := "storeDisk", fn := fun _ => fun
  | [d1, d2] => { results := [.lit (.bool false)], args := [d1, d2] }
  | _ => none }
def StoreDiskWrongFalsely : Prop := storeDiskRow.holds Try.pinned (OpenSpec.ofChange storeDiskWrong)

/- THE SECOND FORM. 'bulk': how many values and letters a reading holds, each counted each time it is reached (what is shared counts as often as it is met; a slice's spare places count too). A statement '..UptoSaid' is the law's where the arguments, and the package variables that the reading takes, are together of bulk at most 1048576: NARROWER than '..Said'. Prove '..Said' where nothing that the law and all that it calls make is longer than what came in: it says more and counts as full. Else prove '..UptoSaid'. A law counts once. -/
mutual
def uptoBulk {H : Type} : DataW H → Nat
  | .lit (.string bytes) => bytes.length + 1
  | .lit _ => 1
  | .nil => 1
  | .ptr d => uptoBulk d + 1
  | .slice elems spare => uptoBulkAll elems + uptoBulkAll spare + 1
  | .agg parts => uptoBulkAll parts + 1
  | .iface _ d => uptoBulk d + 1
  | .map entries => uptoBulkEntries entries + 1
  | .held _ => 1
def uptoBulkAll {H : Type} : List (DataW H) → Nat
  | [] => 0
  | d :: r => uptoBulk d + uptoBulkAll r
def uptoBulkEntries {H : Type} : List (Lit × DataW H) → Nat
  | [] => 0
  | x :: r => uptoBulkEntry x + uptoBulkEntries r
def uptoBulkEntry {H : Type} : Lit × DataW H → Nat
  | (.string bytes, d) => bytes.length + uptoBulk d + 1
  | (_, d) => uptoBulk d + 1
 end
def uptoSmall : (H : Type) → List (DataW H) → Bool := fun _ ds => decide (uptoBulkAll ds ≤ 1048576)
def OpenSpec.upto (s : _root_.Go.ChangeSpec) : _root_.Go.OpenSpec := { _root_.Go.OpenSpec.ofChange s with cond := some uptoSmall }

/-- 'lispproverlaw44.StoreSizes', WHERE WHAT IT READS IS OF BULK AT MOST 1048576: true; the input reads as it did. -/
def storeSizesUptoRow : OpenClaim := { program := "ytfphnpelampoeaa", sum := "009696687e9110921fb0fb218756607edbea1b0f5f14c562807f79608004b395", func := "lispprover/lispproverlaw44.StoreSizes", spec := "storeSizes", apart := false, narrowed := true }
def StoreSizesUptoSaid : Prop := storeSizesUptoRow.holds Try.pinned (OpenSpec.upto storeSizesSpec)

/-- 'lispproverlaw44.StoreValid', WHERE WHAT IT READS IS OF BULK AT MOST 1048576: true; the input reads as it did. -/
def storeValidUptoRow : OpenClaim := { program := "ytfphnpelampoeaa", sum := "009696687e9110921fb0fb218756607edbea1b0f5f14c562807f79608004b395", func := "lispprover/lispproverlaw44.StoreValid", spec := "storeValid", apart := false, narrowed := true }
def StoreValidUptoSaid : Prop := storeValidUptoRow.holds Try.pinned (OpenSpec.upto storeValidSpec)

/-- 'lispproverlaw44.StorePower', WHERE WHAT IT READS IS OF BULK AT MOST 1048576: true; the input reads as it did. -/
def storePowerUptoRow : OpenClaim := { program := "ytfphnpelampoeaa", sum := "009696687e9110921fb0fb218756607edbea1b0f5f14c562807f79608004b395", func := "lispprover/lispproverlaw44.StorePower", spec := "storePower", apart := false, narrowed := true }
def StorePowerUptoSaid : Prop := storePowerUptoRow.holds Try.pinned (OpenSpec.upto storePowerSpec)

/-- 'lispproverlaw44.StoreAgain', WHERE WHAT IT READS IS OF BULK AT MOST 1048576: true; the input reads as it did. -/
def storeAgainUptoRow : OpenClaim := { program := "ytfphnpelampoeaa", sum := "009696687e9110921fb0fb218756607edbea1b0f5f14c562807f79608004b395", func := "lispprover/lispproverlaw44.StoreAgain", spec := "storeAgain", apart := false, narrowed := true }
def StoreAgainUptoSaid : Prop := storeAgainUptoRow.holds Try.pinned (OpenSpec.upto storeAgainSpec)

/-- 'lispproverlaw44.StoreRecords', WHERE WHAT IT READS IS OF BULK AT MOST 1048576: true; the input reads as it did. -/
def storeRecordsUptoRow : OpenClaim := { program := "ytfphnpelampoeaa", sum := "009696687e9110921fb0fb218756607edbea1b0f5f14c562807f79608004b395", func := "lispprover/lispproverlaw44.StoreRecords", spec := "storeRecords", apart := false, narrowed := true }
def StoreRecordsUptoSaid : Prop := storeRecordsUptoRow.holds Try.pinned (OpenSpec.upto storeRecordsSpec)

/-- 'lispproverlaw44.StoreErrors', WHERE WHAT IT READS IS OF BULK AT MOST 1048576: true; the input reads as it did. -/
def storeErrorsUptoRow : OpenClaim := { program := "ytfphnpelampoeaa", sum := "009696687e9110921fb0fb218756607edbea1b0f5f14c562807f79608004b395", func := "lispprover/lispproverlaw44.StoreErrors", spec := "storeErrors", apart := false, narrowed := true }
def StoreErrorsUptoSaid : Prop := storeErrorsUptoRow.holds Try.pinned (OpenSpec.upto storeErrorsSpec)

/-- 'lispproverlaw44.StoreDisk', WHERE WHAT IT READS IS OF BULK AT MOST 1048576: true; the input reads as it did. -/
def storeDiskUptoRow : OpenClaim := { program := "ytfphnpelampoeaa", sum := "009696687e9110921fb0fb218756607edbea1b0f5f14c562807f79608004b395", func := "lispprover/lispproverlaw44.StoreDisk", spec := "storeDisk", apart := false, narrowed := true }
def StoreDiskUptoSaid : Prop := storeDiskUptoRow.holds Try.pinned (OpenSpec.upto storeDiskSpec)

end Rows
end Go.Proofs.Ytfphnpelampoeaa
