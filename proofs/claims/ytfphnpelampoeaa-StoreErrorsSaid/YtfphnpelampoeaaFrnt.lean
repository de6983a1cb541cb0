/-
  From a run of the evaluator to a walk.
-/
import Derived.Test.YtfphnpelampoeaaEvTab
import Derived.Test.YtfphnpelampoeaaWrd
namespace Go.Proofs.Ytfphnpelampoeaa
open Go Go.Ev Go.RowKit

theorem walk_of {f : Nat} {vs : List V} (h : RunF F f vs [.one (boolC true)]) {w : World} {us : List Value} (hr : All2 (RepV w (fun _ _ => True)) vs us) :
    Calls Try.prog f us.toArray w fun e w' => e = .returned (.bool true) ∧ Below w.heap.size w w' := by
  obtain ⟨n, hn⟩ := h.get
  have ok := ev_sound table hn
  refine (ok.2 _ w us hr).mono fun e w' ⟨v, he, hv, hb⟩ => ⟨?_, hb⟩
  rw [he]
  obtain ⟨rfl, _⟩ : v = .bool true ∧ _ := hv
  rfl

theorem wf_u8 {a : Int} (w : (Lit.int .u8 a).wf = true) : 0 ≤ a ∧ a < 256 := by
  have h : IntKind.u8.min ≤ a ∧ a ≤ IntKind.u8.max := by simpa [Lit.wf] using w
  have e1 : IntKind.u8.min = 0 := rfl
  have e2 : IntKind.u8.max = 255 := rfl
  omega
theorem wf_u16 {a : Int} (w : (Lit.int .u16 a).wf = true) : 0 ≤ a ∧ a < 65536 := by
  have h : IntKind.u16.min ≤ a ∧ a ≤ IntKind.u16.max := by simpa [Lit.wf] using w
  have e1 : IntKind.u16.min = 0 := rfl
  have e2 : IntKind.u16.max = 65535 := rfl
  omega

/-- a slice of integers that came in: nil, or it leads to a row of cells, the numbers, each fitting its kind -/
def IsRow (k : IntKind) (w : World) (a : Option Addr) (len cap : Nat) (zs : List Int) : Prop :=
  (a = none ∧ len = 0 ∧ cap = 0 ∧ zs = []) ∨
  ∃ x, a = some x ∧ len ≤ cap ∧ cap ≤ maxLen ∧ zs.length = cap ∧ (∀ i, i < zs.length → w.cell? (x.add i) = some (.int k (zs.getD i 0))) ∧ ∀ n ∈ zs, (Lit.int k n).wf = true

end Go.Proofs.Ytfphnpelampoeaa
