/-
  Arguments of plain types (bools, integers, strings, slices and structs of such), whatever memory they come in, are plain data to the evaluator.
-/
import Derived.Test.YtfphnpelampoeaaEzA
import Derived.Deep.Slices
set_option linter.unusedVariables false
set_option linter.unusedSimpArgs false
namespace Go.Ez
open Go.RowKit

/-- cells of a plain type -/
def Typed (P : Program) : Nat → TypeId → List C → Prop
  | 0, _, _ => False
  | n + 1, t, cs =>
    match P.underlying t with
    | some .bool => ∃ b, cs = [.lit (.bool b)]
    | some (.int k) => ∃ z, cs = [.lit (.int k z)] ∧ (Lit.int k z).wf = true
    | some .string => ∃ s : ByteArray, cs = [.lit (.string s)] ∧ s.size ≤ maxLen
    | some (.slice e) => ∃ rows : List (List C), cs = [.slice rows.flatten rows.length] ∧ rows.length ≤ maxLen ∧ ∀ r ∈ rows, r.length = P.cellsOf e ∧ Typed P n e r
    | some (.struct fs) => cs.length = P.cellsOf t ∧ ∀ f ∈ fs.toList, Typed P n f.type ((cs.drop f.offset).take (P.cellsOf f.type))
    | _ => False

/-- the fields fill the struct, one behind the other -/
def tile (P : Program) (total : Nat) : Nat → List Field → Bool
  | off, [] => decide (off = total)
  | off, f :: fs => decide (f.offset = off) && decide (off + P.cellsOf f.type ≤ total) && tile P total (off + P.cellsOf f.type) fs

def openB (P : Program) : Nat → TypeId → Bool
  | 0, _ => false
  | n + 1, t =>
    match P.underlying t with
    | some .bool | some (.int _) | some .string => true
    | some (.slice e) => decide (0 < P.cellsOf e) && openB P n e
    | some (.struct fs) => tile P (P.cellsOf t) 0 fs.toList && fs.toList.all fun f => openB P n f.type
    | _ => false

def Any : Nat → Nat → Prop := fun _ _ => True

section
variable {H : Type} {enc : TypeId × Value → H} {P : Program} {w : World} {base : Nat} {spare : Nat → Bool} {held : Bool}

theorem tile_open {n total : Nat} {vs : List Value} (hv : vs.length = total) : ∀ (fs : List Field) (off : Nat), off ≤ total → tile P total off fs = true →
    (∀ f ∈ fs, ∃ cs, All2 (RepC w Any) cs ((vs.drop f.offset).take (P.cellsOf f.type)) ∧ Typed P n f.type cs) →
    ∃ cs, All2 (RepC w Any) cs (vs.drop off) ∧ ∀ f ∈ fs, off ≤ f.offset ∧ Typed P n f.type ((cs.drop (f.offset - off)).take (P.cellsOf f.type))
  | [], off, _, ht, _ => by
    simp only [tile, decide_eq_true_eq] at ht
    subst ht
    exact ⟨[], by rw [List.drop_eq_nil_of_le (by omega)]; trivial, by simp⟩
  | f :: fs, off, ho, ht, hf => by
    simp only [tile, Bool.and_eq_true, decide_eq_true_eq] at ht
    obtain ⟨⟨h1, h2⟩, h3⟩ := ht
    obtain ⟨c0, k1, k2⟩ := hf f (by simp)
    obtain ⟨cs, k3, k4⟩ := tile_open hv fs (off + P.cellsOf f.type) h2 h3 fun g hg => hf g (by simp [hg])
    have hlen : c0.length = P.cellsOf f.type := by rw [k1.len, List.length_take, List.length_drop]; omega
    refine ⟨c0 ++ cs, ?_, fun g hg => ?_⟩
    · have := k1.append k3
      rw [h1, ← List.drop_drop, List.take_append_drop] at this
      exact this
    · simp only [List.mem_cons] at hg
      rcases hg with rfl | hg
      · refine ⟨by omega, ?_⟩
        rw [h1, Nat.sub_self, List.drop_zero, List.take_append_of_le_length (by omega), List.take_of_length_le (by omega)]
        exact k2
      · obtain ⟨k5, k6⟩ := k4 g hg
        refine ⟨by omega, ?_⟩
        rw [show g.offset - off = c0.length + (g.offset - (off + P.cellsOf f.type)) by omega, ← List.drop_drop, List.drop_left]
        exact k6


theorem rows_open {n c : Nat} {e : TypeId} {a : Addr} (hc : c = P.cellsOf e) : ∀ k, (∀ i, i < k → ∃ us cs, w.cells? base (a.add (i * c)) c = some us ∧ All2 (RepC w Any) cs us ∧ Typed P n e cs) →
    ∃ (rows : List (List C)) (us : List Value), rows.length = k ∧ us.length = k * c ∧ All2 (RepC w Any) rows.flatten us ∧ (∀ j u, us[j]? = some u → w.cell? (a.add j) = some u) ∧ ∀ r ∈ rows, r.length = c ∧ Typed P n e r
  | 0, _ => ⟨[], [], rfl, by simp, trivial, by simp, by simp⟩
  | k + 1, h => by
    obtain ⟨rows, us, h1, h2, h3, h4, h5⟩ := rows_open hc k fun i hi => h i (by omega)
    obtain ⟨vs, cs, k1, k2, k3⟩ := h k (by omega)
    obtain ⟨_, k4, k5⟩ := World.cells?_some k1
    refine ⟨rows ++ [cs], us ++ vs, by simp [h1], by rw [List.length_append, h2, k4, Nat.succ_mul], ?_, ?_, ?_⟩
    · simp only [List.flatten_append, List.flatten_cons, List.flatten_nil, List.append_nil]
      exact h3.append k2
    · intro j u hu
      by_cases hj : j < us.length
      · rw [List.getElem?_append_left hj] at hu; exact h4 j u hu
      · rw [List.getElem?_append_right (by omega)] at hu
        have hlt := (List.getElem?_eq_some_iff.1 hu).1
        have := k5 (j - us.length) (by omega)
        rw [Go.Deep.add_add, hu, h2] at this
        rw [show k * c + (j - k * c) = j by omega] at this
        exact this
    · intro r hr
      simp only [List.mem_append, List.mem_singleton] at hr
      rcases hr with hr | rfl
      · exact h5 r hr
      · exact ⟨by rw [k2.len, k4], k3⟩

theorem rep_slice {a : Addr} {rows : List C} {us : List Value} {len cap : Nat} (hl : len ≤ cap) (h3 : All2 (RepC w Any) rows us) (h4 : ∀ j u, us[j]? = some u → w.cell? (a.add j) = some u) : RepC w Any (.slice rows len) (.slice (some a) len cap) := by
  simp only [RepC]
  have hs : rows ≠ [] → a.spot = none := by
    intro hne
    cases us with
    | nil => cases rows with | nil => exact absurd rfl hne | cons _ _ => exact h3.elim
    | cons u us =>
      have := World.cell?_spot (h4 0 u rfl)
      simpa [Addr.add] using this
  refine .inr ⟨a, cap, rfl, hl, hs, RepCs_of h3 fun i u hi => ⟨?_, trivial⟩⟩
  have hne : rows ≠ [] := by
    intro e
    subst e
    cases us with
    | nil => simp at hi
    | cons _ _ => exact h3.elim
  obtain ⟨b, o, sp⟩ := a
  have : sp = none := hs hne
  subst this
  have := h4 i u hi
  unfold Addr.add at this
  split at this
  · rename_i h0; subst h0; exact this
  · exact this

theorem open_typed : ∀ (n : Nat) (t : TypeId), openB P n t = true → ∀ (fuel : Nat) (vs : List Value) (x : DataW H × List MemPlace), DataW.trod enc P w base spare held fuel t vs = some x → ∃ cs, All2 (RepC w Any) cs vs ∧ Typed P n t cs
  | 0, _, h, _, _, _, _ => by cases h
  | n + 1, t, h, fuel, vs, x, hx => by
    unfold openB at h
    cases ht : P.underlying t with
    | none => rw [ht] at h; cases h
    | some d =>
      rw [ht] at h
      cases d with
      | bool =>
        obtain ⟨b, rfl, _⟩ := DataW.trod_bool ht hx
        exact ⟨[.lit (.bool b)], ⟨⟨rfl, rfl⟩, trivial⟩, by unfold Typed; rw [ht]; exact ⟨b, rfl⟩⟩
      | int k =>
        obtain ⟨z, rfl, _, hw⟩ := DataW.trod_int ht hx
        exact ⟨[.lit (.int k z)], ⟨⟨rfl, rfl⟩, trivial⟩, by unfold Typed; rw [ht]; exact ⟨z, rfl, hw⟩⟩
      | string =>
        obtain ⟨s, rfl, _, hs⟩ := DataW.trod_string ht hx
        exact ⟨[.lit (.string s)], ⟨⟨rfl, rfl⟩, trivial⟩, by unfold Typed; rw [ht]; exact ⟨s, rfl, hs⟩⟩
      | slice e =>
        simp only [Bool.and_eq_true, decide_eq_true_eq] at h
        rcases Go.Deep.open_slice ht hx with ⟨rfl, _⟩ | ⟨a, len, cap, m, n', D, Pl, rfl, hb, hl, hm, hmm, _, hel⟩
        · refine ⟨[.slice [] 0], ⟨by unfold RepC; exact .inl ⟨rfl, rfl, rfl⟩, trivial⟩, ?_⟩
          unfold Typed; rw [ht]
          exact ⟨[], rfl, by simp, by simp⟩
        · have hlm : len ≤ m := by rw [hmm]; split <;> omega
          obtain ⟨rows, us, h1, h2, h3, h4, h5⟩ := rows_open (w := w) (base := base) (n := n) (a := a) (rfl : P.cellsOf e = P.cellsOf e) len fun i hi => by
            obtain ⟨us, k1, k2⟩ := hel i (by omega)
            obtain ⟨cs, k3, k4⟩ := open_typed n e h.2 n' us _ k2
            exact ⟨us, cs, k1, k3, k4⟩
          refine ⟨[.slice rows.flatten rows.length], ⟨?_, trivial⟩, ?_⟩
          · rw [h1]; exact rep_slice hl h3 h4
          · unfold Typed; rw [ht]
            exact ⟨rows, rfl, by omega, h5⟩
      | struct fs =>
        simp only [Bool.and_eq_true, List.all_eq_true] at h
        obtain ⟨xs, m, rfl, _, hl, hxl, hf⟩ := DataW.trod_struct ht hx
        obtain ⟨cs, k1, k2⟩ := tile_open (w := w) (n := n) hl fs.toList 0 (by omega) h.1 fun f hfm => by
          obtain ⟨i, hi, hif⟩ := List.getElem_of_mem hfm
          have hi' : i < fs.size := by simpa using hi
          have h1 := hf i f (by rw [Array.getElem?_eq_getElem hi']; simpa using hif)
          rw [List.getElem?_eq_getElem (by omega)] at h1
          exact open_typed n f.type (h.2 f hfm) m _ _ h1
        rw [List.drop_zero] at k1
        refine ⟨cs, k1, ?_⟩
        unfold Typed; rw [ht]
        refine ⟨by rw [k1.len]; exact hl, fun f hfm => ?_⟩
        have := (k2 f hfm).2
        rw [Nat.sub_zero] at this
        exact this
      | _ => cases h
end

end Go.Ez

