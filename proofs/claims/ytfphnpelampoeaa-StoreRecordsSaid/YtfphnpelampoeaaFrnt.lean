/-
  From a run of the evaluator to a walk.
-/
import Derived.Test.YtfphnpelampoeaaEvTab
import Derived.Test.YtfphnpelampoeaaWrd
namespace Go.Proofs.Ytfphnpelampoeaa
open Go Go.Ev Go.RowKit

theorem walk_of {f : Nat} {vs : List V} (h : RunF F f vs [.one (boolC true)]) {w : World} {us : List Value} (hr : All2 (RepV w (fun _ _ => True)) vs us) :
    Calls Try.prog f us.toArray w fun e w' => e = .returned (.bool true) ∧ Below w.heap.size w w' := by
  obtain ⟨n, hn⟩ := h.get
  have ok := ev_sound table hn
  refine (ok.2 _ w us hr).mono fun e w' ⟨v, he, hv, hb⟩ => ⟨?_, hb⟩
  rw [he]
  obtain ⟨rfl, _⟩ : v = .bool true ∧ _ := hv
  rfl

theorem wf_u8 {a : Int} (w : (Lit.int .u8 a).wf = true) : 0 ≤ a ∧ a < 256 := by
  have h : IntKind.u8.min ≤ a ∧ a ≤ IntKind.u8.max := by simpa [Lit.wf] using w
  have e1 : IntKind.u8.min = 0 := rfl
  have e2 : IntKind.u8.max = 255 := rfl
  omega
theorem wf_u16 {a : Int} (w : (Lit.int .u16 a).wf = true) : 0 ≤ a ∧ a < 65536 := by
  have h : IntKind.u16.min ≤ a ∧ a ≤ IntKind.u16.max := by simpa [Lit.wf] using w
  have e1 : IntKind.u16.min = 0 := rfl
  have e2 : IntKind.u16.max = 65535 := rfl
  omega

/-- a slice of integers that came in: nil, or it leads to a row of cells, the numbers, each fitting its kind -/
def IsRow (k : IntKind) (w : World) (a : Option Addr) (len cap : Nat) (zs : List Int) : Prop :=
  (a = none ∧ len = 0 ∧ cap = 0 ∧ zs = []) ∨
  ∃ x, a = some x ∧ len ≤ cap ∧ cap ≤ maxLen ∧ zs.length = cap ∧ (∀ i, i < zs.length → w.cell? (x.add i) = some (.int k (zs.getD i 0))) ∧ ∀ n ∈ zs, (Lit.int k n).wf = true

theorem rep_ints (k : IntKind) (w : World) (b : Nat) : ∀ (zs : List Int) (o : Nat), (∀ i, i < zs.length → w.cell? ⟨b, o + i, none⟩ = some (.int k (zs.getD i 0))) → RepCs w (fun _ _ => True) (zs.map fun n => C.lit (.int k n)) b o
  | [], o, _ => by simp [RepCs]
  | z :: zs, o, h => by
    simp only [List.map_cons, RepCs]
    refine ⟨⟨.int k z, by simpa using h 0 (by simp), trivial, by simp [RepC, scalar]⟩, rep_ints k w b zs (o + 1) fun i hi => ?_⟩
    have := h (i + 1) (by simpa using hi)
    rw [Nat.add_assoc, Nat.add_comm 1 i]
    simpa using this

/-- a slice of integers that came in, as the evaluator sees it -/
theorem rep_row {k : IntKind} {w : World} {a : Option Addr} {len cap : Nat} {zs : List Int} (h : IsRow k w a len cap zs) :
    ∃ (z : List Int) (lc : C), ((lc = nilC ∧ z = []) ∨ lc = .slice (z.map fun n => C.lit (.int k n)) z.length) ∧ (∀ n ∈ z, (Lit.int k n).wf = true) ∧ RepV w (fun _ _ => True) (.one lc) (.slice a len cap) := by
  rcases h with ⟨rfl, rfl, rfl, rfl⟩ | ⟨x, rfl, hl, hm, hz, hc, hw⟩
  · exact ⟨[], nilC, .inl ⟨rfl, rfl⟩, (fun n h => by cases h), ⟨rfl, rfl⟩⟩
  · have hlen : (zs.take len).length = len := by rw [List.length_take]; omega
    refine ⟨zs.take len, _, .inr rfl, fun n hn => hw n (List.mem_of_mem_take hn), ?_⟩
    have hget : ∀ i, i < len → (zs.take len).getD i 0 = zs.getD i 0 := by
      intro i hi
      simp [List.getD_eq_getElem?_getD, hi]
    obtain ⟨b, o, sp⟩ := x
    simp only [RepV, RepC]
    refine ⟨⟨b, o, sp⟩, cap, by rw [hlen], by omega, ?_, ?_⟩
    · intro hne
      have h0 : 0 < zs.length := by
        rcases Nat.eq_zero_or_pos zs.length with h | h
        · have : zs = [] := List.eq_nil_of_length_eq_zero h
          subst this
          simp at hne
        · exact h
      simpa [Addr.add] using World.cell?_spot (hc 0 h0)
    · refine rep_ints k w b _ o fun i hi => ?_
      rw [hlen] at hi
      rw [hget i hi]
      have := hc i (by omega)
      unfold Addr.add at this
      split at this
      · rename_i h0
        subst h0
        have hs : sp = none := by simpa using World.cell?_spot this
        subst hs
        exact this
      · exact this

end Go.Proofs.Ytfphnpelampoeaa
