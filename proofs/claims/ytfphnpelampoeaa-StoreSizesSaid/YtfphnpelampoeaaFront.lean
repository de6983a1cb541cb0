/-
  From a run of the evaluator to a walk.
-/
import Derived.Test.YtfphnpelampoeaaEvTab
import Derived.Test.YtfphnpelampoeaaVoc
namespace Go.Proofs.Ytfphnpelampoeaa
open Go Go.Ev Go.RowKit

theorem walk_of {f : Nat} {vs : List V} (h : RunF F f vs [.one (boolC true)]) {w : World} {us : List Value} (hr : All2 (RepV w (fun _ _ => True)) vs us) :
    Calls Try.prog f us.toArray w fun e w' => e = .returned (.bool true) ∧ Below w.heap.size w w' := by
  obtain ⟨n, hn⟩ := h.get
  have ok := ev_sound table hn
  refine (ok.2 _ w us hr).mono fun e w' ⟨v, he, hv, hb⟩ => ⟨?_, hb⟩
  rw [he]
  obtain ⟨rfl, _⟩ : v = .bool true ∧ _ := hv
  rfl

end Go.Proofs.Ytfphnpelampoeaa
