/-
  Freezing of rows of sectors.
-/
import Derived.Test.YtfphnpelampoeaaRw7M
import Derived.Test.YtfphnpelampoeaaEzD
set_option linter.unusedVariables false
set_option linter.unusedSimpArgs false
namespace Go.Proofs.Ytfphnpelampoeaa.Rw
open Go Go.Ez

/-- a cell that holds these bytes -/
def Cont (h : Heap) (d : D) (b : List UInt8) : Prop := ∃ id off cs fz ety, d = .arr id off b.length ∧ getH h id = .arr cs 1 fz ety ∧ off + b.length ≤ cs.length ∧ (cs.drop off).take b.length = bytesC b

def RowsC (h : Heap) : List D → List Sec → Prop
  | [], [] => True
  | d1 :: d2 :: d3 :: ds, s :: l => Cont h d1 s.sure ∧ Cont h d2 s.data ∧ d3 = .c (boolC s.fresh) ∧ RowsC h ds l
  | _, _ => False

def SameC (h h' : Heap) : Prop := ∀ id cs e fz t, getH h id = .arr cs e fz t → ∃ fz', getH h' id = .arr cs e fz' t

theorem SameC.refl (h : Heap) : SameC h h := fun _ _ _ fz _ hh => ⟨fz, hh⟩
theorem SameC.trans {h h' h'' : Heap} (a : SameC h h') (b : SameC h' h'') : SameC h h'' := fun id cs e fz t hh => by
  obtain ⟨f1, h1⟩ := a id cs e fz t hh
  exact b id cs e f1 t h1

theorem Cont.mono {h h' : Heap} (hs : SameC h h') {d : D} {b : List UInt8} (hc : Cont h d b) : Cont h' d b := by
  obtain ⟨id, off, cs, fz, ety, h1, h2, h3, h4⟩ := hc
  obtain ⟨fz', h5⟩ := hs _ _ _ _ _ h2
  exact ⟨id, off, cs, fz', ety, h1, h5, h3, h4⟩

theorem RowsC.mono {h h' : Heap} (hs : SameC h h') : ∀ {ds : List D} {l : List Sec}, RowsC h ds l → RowsC h' ds l
  | [], [], _ => trivial
  | _ :: _ :: _ :: ds, _ :: l, hh => ⟨hh.1.mono hs, hh.2.1.mono hs, hh.2.2.1, RowsC.mono hs hh.2.2.2⟩
  | [], _ :: _, hh => hh.elim
  | [_], _, hh => by cases ‹List Sec› <;> exact hh.elim
  | [_, _], _, hh => by cases ‹List Sec› <;> exact hh.elim
  | _ :: _ :: _ :: _, [], hh => hh.elim

theorem RowsC.app {h : Heap} : ∀ {ds ds' : List D} {l l' : List Sec}, RowsC h ds l → RowsC h ds' l' → RowsC h (ds ++ ds') (l ++ l')
  | [], _, [], _, _, h2 => h2
  | _ :: _ :: _ :: ds, _, _ :: l, _, h1, h2 => ⟨h1.1, h1.2.1, h1.2.2.1, RowsC.app h1.2.2.2 h2⟩
  | [], _, _ :: _, _, hh, _ => hh.elim
  | [_], _, l, _, hh, _ => by cases l <;> exact hh.elim
  | [_, _], _, l, _, hh, _ => by cases l <;> exact hh.elim
  | _ :: _ :: _ :: _, _, [], _, hh, _ => hh.elim

theorem frz1_cont {h : Heap} {d : D} {b : List UInt8} (hc : Cont h d b) : ∃ us, frz1 h d = some (bytesS b, us) ∧ (∀ p ∈ us, p.1 ∈ arrIds [d]) ∧ SameC h (updH h us) := by
  obtain ⟨id, off, cs, fz, ety, rfl, h2, h3, h4⟩ := hc
  simp only [frz1, h2, Nat.mul_one, h3, if_true, h4, bytesS]
  by_cases hz : off + b.length ≤ fz
  · exact ⟨[], by simp [hz], by simp, SameC.refl h⟩
  · refine ⟨[(id, .arr cs 1 (off + b.length) ety)], by simp [hz], by simp [arrIds], fun i cs' e f t hh => ?_⟩
    simp only [updH, getH_cons]
    by_cases hi : id = i
    · subst hi
      rw [h2] at hh
      injection hh with a1 a2 a3 a4
      subst a1 a2 a4
      exact ⟨off + b.length, by simp⟩
    · exact ⟨f, by simp [hi, hh]⟩

theorem frzL1_rows' : ∀ {ds : List D} {l : List Sec} {h : Heap}, RowsC h ds l → ∃ us, frzL1 h ds = some (secsC l, us) ∧ (∀ p ∈ us, p.1 ∈ arrIds ds) ∧ SameC h (updH h us)
  | [], [], h, _ => ⟨[], rfl, by simp, SameC.refl h⟩
  | d1 :: d2 :: d3 :: ds, s :: l, h, hh => by
    obtain ⟨h1, h2, rfl, h4⟩ := hh
    obtain ⟨u1, f1, g1, s1⟩ := frz1_cont h1
    obtain ⟨u2, f2, g2, s2⟩ := frz1_cont (h2.mono s1)
    have s12 := s1.trans s2
    obtain ⟨u3, f3, g3, s3⟩ := frzL1_rows' (h4.mono s12)
    refine ⟨u1 ++ (u2 ++ ([] ++ u3)), ?_, ?_, ?_⟩
    · have f0 : ∀ (h : Heap) (c : C), frz1 h (.c c) = some (c, []) := fun _ _ => rfl
      simp only [frzL1, f1, f2, f0, f3, updH, Option.bind_eq_bind, Option.bind_some]
      rfl
    · obtain ⟨i1, o1, _, _, _, rfl, _⟩ := h1
      obtain ⟨i2, o2, _, _, _, rfl, _⟩ := h2
      intro p hp
      simp only [List.mem_append, List.nil_append] at hp
      simp only [arrIds, List.mem_cons]
      rcases hp with hp | hp | hp
      · have := g1 p hp; simp [arrIds] at this; exact .inl this
      · have := g2 p hp; simp [arrIds] at this; exact .inr (.inl this)
      · exact .inr (.inr (g3 p hp))
    · rw [updH_append, updH_append]
      exact s12.trans s3
  | [], _ :: _, _, hh => hh.elim
  | [_], l, _, hh => by cases l <;> exact hh.elim
  | [_, _], l, _, hh => by cases l <;> exact hh.elim
  | _ :: _ :: _ :: _, [], _, hh => hh.elim

theorem updH_out : ∀ {us : List (Nat × Ez.Obj)} {h : Heap} {id : Nat}, (∀ p ∈ us, p.1 ≠ id) → getH (updH h us) id = getH h id
  | [], _, _, _ => rfl
  | (i, o) :: us, h, id, hn => by
    have h1 : i ≠ id := hn (i, o) (by simp)
    simp only [updH]
    rw [updH_out (us := us) fun p hp => hn p (by simp [hp])]
    simp [getH_cons, h1]

/-- a row of sectors is frozen, and again -/
theorem frz_rows {h : Heap} {rid : Nat} {ds : List D} {l : List Sec} (hr : getH h rid = .rows ds 3 32) (hc : RowsC h ds l) : ∃ us, frz h (.arr rid 0 l.length) = some (secsS l, us) ∧ (∀ p ∈ us, p.1 = rid ∨ p.1 ∈ arrIds ds) ∧
    ∃ us2, frz (updH h us) (.arr rid 0 l.length) = some (secsS l, us2) := by
  obtain ⟨us, f1, g1, s1⟩ := frzL1_rows' hc
  have hlen := secsC_len l
  have hat : ∀ fz, frz1 ((rid, .arr (secsC l) 3 fz 32) :: updH h us) (.arr rid 0 l.length) = some (secsS l, if l.length * 3 ≤ fz then [] else [(rid, .arr (secsC l) 3 (l.length * 3) 32)]) := by
    intro fz
    simp only [frz1, getH_cons, if_true, Nat.zero_add, hlen, Nat.le_refl, List.drop_zero]
    rw [List.take_of_length_le (by omega)]
    rfl
  refine ⟨(us ++ [(rid, .arr (secsC l) 3 0 32)]) ++ (if l.length * 3 ≤ 0 then [] else [(rid, .arr (secsC l) 3 (l.length * 3) 32)]), ?_, ?_, ?_⟩
  · simp only [frz, hr, f1, Option.bind_eq_bind, Option.bind_some]
    rw [updH_append]
    simp only [updH, hat 0, Option.bind_some]
  · intro p hp
    simp only [List.mem_append, List.mem_singleton] at hp
    rcases hp with (hp | rfl) | hp
    · exact .inr (g1 p hp)
    · exact .inl rfl
    · split at hp
      · cases hp
      · simp only [List.mem_singleton] at hp; subst hp; exact .inl rfl
  · rw [updH_append, updH_append]
    by_cases hz : l.length * 3 ≤ 0
    · rw [if_pos hz]
      refine ⟨[], ?_⟩
      simp only [updH, frz, getH_cons, if_true]
      rw [hat 0, if_pos hz]
    · rw [if_neg hz]
      refine ⟨[], ?_⟩
      simp only [updH, frz, getH_cons, if_true, frz1, Nat.zero_add, hlen, Nat.le_refl, List.drop_zero]
      rw [List.take_of_length_le (by omega)]
      rfl

theorem held_rows {h : Heap} : ∀ {ids : List (Nat × Nat)} {l : List Sec}, Held h ids l → Okay l → RowsC h (rowD ids l) l
  | [], [], _, _ => trivial
  | p :: ids, s :: l, hh, ho => by
    have h1 := ho s (by simp)
    refine ⟨⟨p.1, 0, _, _, _, by rw [h1.2], hh.1, by rw [bytesC_len]; omega, ?_⟩, ⟨p.2, 0, _, _, _, by rw [h1.1], hh.2.1, by rw [bytesC_len]; omega, ?_⟩, rfl, held_rows hh.2.2 fun t ht => ho t (by simp [ht])⟩
    · rw [List.drop_zero, List.take_of_length_le (by rw [bytesC_len]; omega)]
    · rw [List.drop_zero, List.take_of_length_le (by rw [bytesC_len]; omega)]
  | [], _ :: _, hh, _ => hh.elim
  | _ :: _, [], hh, _ => hh.elim

theorem arrIds_rowD : ∀ {ids : List (Nat × Nat)} {l : List Sec}, ∀ x ∈ arrIds (rowD ids l), x ∈ flat ids
  | p :: ids, s :: l, x, hx => by
    simp only [rowD, arrIds, List.mem_cons] at hx
    simp only [flat, List.flatMap_cons, List.mem_append, List.mem_cons, List.not_mem_nil, or_false]
    rcases hx with hx | hx | hx
    · exact .inl (.inl hx)
    · exact .inl (.inr hx)
    · exact .inr (arrIds_rowD x hx)
  | [], [], _, hx => by cases hx
  | [], _ :: _, _, hx => by cases hx
  | _ :: _, [], _, hx => by cases hx

end Go.Proofs.Ytfphnpelampoeaa.Rw

