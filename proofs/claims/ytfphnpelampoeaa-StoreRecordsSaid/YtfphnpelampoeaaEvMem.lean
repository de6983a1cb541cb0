/-
  Freezing, rows of cells, sources of append and copy: what they are in the model's memory.
-/
import Derived.Test.YtfphnpelampoeaaEvRep
import Derived.Laws.Append
import Derived.Laws.OwnMore
namespace Go.Ev
open Go.RowKit

section
variable {w : World} {Sf : Nat → Nat → Prop}

theorem RepCs_of : ∀ {cs : List C} {us : List Value} {b o : Nat}, All2 (RepC w Sf) cs us → (∀ i u, us[i]? = some u → w.cell? ⟨b, o + i, none⟩ = some u ∧ Sf b (o + i)) → RepCs w Sf cs b o
  | [], [], _, _, _, _ => by simp [RepCs]
  | c :: cs, u :: us, b, o, h, hc => by
    simp only [RepCs]
    obtain ⟨h1, h2⟩ := hc 0 u (by simp)
    refine ⟨⟨u, by simpa using h1, by simpa using h2, h.1⟩, RepCs_of h.2 fun i v hv => ?_⟩
    have := hc (i + 1) v (by simpa using hv)
    rw [show o + 1 + i = o + (i + 1) by omega]
    exact this
  | [], _ :: _, _, _, h, _ => h.elim
  | _ :: _, [], _, _, h, _ => h.elim

theorem RepCs_get : ∀ {cs : List C} {b o : Nat}, RepCs w Sf cs b o → ∃ us : List Value, All2 (RepC w Sf) cs us ∧ (∀ i u, us[i]? = some u → w.cell? ⟨b, o + i, none⟩ = some u ∧ Sf b (o + i))
  | [], _, _, _ => ⟨[], trivial, by simp⟩
  | c :: cs, b, o, h => by
    simp only [RepCs] at h
    obtain ⟨⟨u, h1, h2, h3⟩, h4⟩ := h
    obtain ⟨us, h5, h6⟩ := RepCs_get h4
    refine ⟨u :: us, ⟨h3, h5⟩, fun i v hv => ?_⟩
    cases i with
    | zero => simp at hv; subst hv; exact ⟨by simpa using h1, by simpa using h2⟩
    | succ i =>
      have := h6 i v (by simpa using hv)
      rw [show o + (i + 1) = o + 1 + i by omega]
      exact this

theorem RepCs_drop : ∀ (n : Nat) {cs : List C} {b o : Nat}, RepCs w Sf cs b o → RepCs w Sf (cs.drop n) b (o + n)
  | 0, _, _, _, h => by simpa using h
  | n + 1, [], _, _, _ => by simp [RepCs]
  | n + 1, c :: cs, b, o, h => by
    simp only [RepCs] at h
    have := RepCs_drop n h.2
    simp only [List.drop_succ_cons]
    rw [show o + (n + 1) = o + 1 + n by omega]
    exact this

theorem RepCs_take : ∀ (n : Nat) {cs : List C} {b o : Nat}, RepCs w Sf cs b o → RepCs w Sf (cs.take n) b o
  | 0, _, _, _, _ => by simp [RepCs]
  | n + 1, [], _, _, _ => by simp [RepCs]
  | n + 1, c :: cs, b, o, h => by
    simp only [RepCs, List.take_succ_cons] at h ⊢
    exact ⟨h.1, RepCs_take n h.2⟩

theorem RepC.oneCell {c : C} {u : Value} (h : RepC w Sf c u) : u.oneCell' = true := by
  cases c with
  | lit v =>
    simp only [RepC] at h
    obtain ⟨rfl, h⟩ := h
    unfold scalar at h
    split at h <;> first | rfl | cases h
  | slice cs n =>
    simp only [RepC] at h
    obtain ⟨a, cap, rfl, _⟩ := h
    rfl
end

theorem All2.mem_right {α β : Type} {R : α → β → Prop} {p : β → Prop} (h : ∀ a b, R a b → p b) : ∀ {as : List α} {bs : List β}, All2 R as bs → ∀ b ∈ bs, p b
  | [], [], _, _, hb => by simp at hb
  | _ :: _, _ :: _, h1, b, hb => by
    simp only [List.mem_cons] at hb
    rcases hb with rfl | hb
    · exact h _ _ h1.1
    · exact All2.mem_right h h1.2 b hb
  | [], _ :: _, h1, _, _ => h1.elim
  | _ :: _, [], h1, _, _ => h1.elim

section
variable {B : Nat} {S : Nat → Nat → Prop}

/-- more numbers may be in use -/
def M.grow (m : M) (slot : Nat) : M := ⟨m.w, m.h, m.β, fun i => m.U i ∨ i = slot⟩

theorem grow_evolves (m : M) (slot : Nat) : Evolves B S m (m.grow slot) :=
  ⟨fun _ _ _ h1 h2 => ⟨h1, h2⟩, fun _ h => .inl h, fun _ _ h => h, fun _ _ => rfl, fun _ cs' _ fz' _ _ h => ⟨cs', fz', h, rfl⟩⟩

theorem grow_hok {m : M} (hk : HOK B S m) (slot : Nat) : HOK B S (m.grow slot) := by
  refine ⟨fun id => ?_, hk.inj, fun id h => hk.dom id fun hu => h (.inl hu), hk.base⟩
  exact (grow_evolves m slot).repOb rfl (hk.obj id)

/-- what is known of an array's object -/
theorem HOK.arr {m : M} (hk : HOK B S m) {id : Nat} {cs : List C} {esz fz ety : Nat} (ho : getH m.h id = .arr cs esz fz ety) :
    B ≤ m.β id ∧ ∃ us : List Value, m.w.heap[m.β id]? = some (.cells us.toArray ety (0, 0)) ∧ cs.length ≤ us.length ∧ All2 (RepC m.w (Safe B S m)) cs (us.take cs.length) := by
  have h := hk.obj id
  unfold RepO at h
  rw [ho] at h
  exact h

theorem HOK.box {m : M} (hk : HOK B S m) {id : Nat} {ds : List D} (ho : getH m.h id = .box ds) :
    B ≤ m.β id ∧ ∃ (us : List Value) (e : TypeId), m.w.heap[m.β id]? = some (.cells us.toArray e (0, 0)) ∧ All2 (RepDc B S m) ds us := by
  have h := hk.obj id
  unfold RepO at h
  rw [ho] at h
  exact h

theorem cell_row {w : World} {b o : Nat} {us : List Value} {e : TypeId} {fr : Nat × Nat} (h : w.heap[b]? = some (.cells us.toArray e fr)) : w.cell? ⟨b, o, none⟩ = us[o]? := by
  simp [World.cell?, h]

def M.heap (m : M) (h : Heap) : M := ⟨m.w, h, m.β, m.U⟩

/-- the frozen part of an array grows -/
theorem fz_evolves {m : M} (hk : HOK B S m) {id : Nat} {cs : List C} {esz fz ety fz' : Nat} (ho : getH m.h id = .arr cs esz fz ety) (hf : fz ≤ fz') :
    Evolves B S m (m.heap ((id, .arr cs esz fz' ety) :: m.h)) :=
  upd_evolves hk ho (o' := .arr cs esz fz' ety) (w' := m.w) ⟨rfl, rfl, hf⟩ (fun _ _ => rfl) (fun _ _ _ h => h) rfl

theorem fz_hok {m : M} (hk : HOK B S m) {id : Nat} {cs : List C} {esz fz ety fz' : Nat} (ho : getH m.h id = .arr cs esz fz ety) (hf : fz ≤ fz') :
    HOK B S (m.heap ((id, .arr cs esz fz' ety) :: m.h)) := by
  have hev := fz_evolves hk ho hf
  refine upd_hok hk (w' := m.w) (by rw [ho]; simp) hev (fun _ _ => rfl) (Nat.le_refl _) ?_
  obtain ⟨h1, us, h2, h3, h4⟩ := hk.arr ho
  exact ⟨h1, us, h2, h3, h4.mono fun x u h5 => RepC.mono hev.cell x u h5⟩

theorem frz_ok {m : M} (hk : HOK B S m) {d : D} {u : Value} (hr : RepDc B S m d u) {c : C} {us : List (Nat × Obj)} (hf : frz m.h d = some (c, us)) :
    HOK B S (m.heap (updH m.h us)) ∧ Evolves B S m (m.heap (updH m.h us)) ∧ RepC m.w (Safe B S (m.heap (updH m.h us))) c u := by
  cases d with
  | c x =>
    simp only [frz, Option.some.injEq, Prod.mk.injEq] at hf
    obtain ⟨rfl, rfl⟩ := hf
    exact ⟨hk, Evolves.refl m, hr⟩
  | arr id off len =>
    simp only [frz] at hf
    obtain ⟨hu, ad, cap, hv, hcap, hr⟩ := hr
    cases ho : getH m.h id with
    | dead => rw [ho] at hf; cases hf
    | box ds => rw [ho] at hf; cases hf
    | arr cs esz fz ety =>
      rw [ho] at hf hr
      simp only at hf hr
      split at hf
      case isFalse => cases hf
      rename_i hlen
      simp only [Option.some.injEq, Prod.mk.injEq] at hf
      obtain ⟨rfl, rfl⟩ := hf
      obtain ⟨hB, vs, hv1, hv2, hv3⟩ := hk.arr ho
      -- the memory behind the freezing, and how much is frozen there
      have key : ∃ fz', off + len * esz ≤ fz' ∧ HOK B S (m.heap (updH m.h (if off + len * esz ≤ fz then [] else [(id, .arr cs esz (off + len * esz) ety)]))) ∧
          Evolves B S m (m.heap (updH m.h (if off + len * esz ≤ fz then [] else [(id, .arr cs esz (off + len * esz) ety)]))) ∧
          getH (updH m.h (if off + len * esz ≤ fz then [] else [(id, .arr cs esz (off + len * esz) ety)])) id = .arr cs esz fz' ety := by
        by_cases hz : off + len * esz ≤ fz
        · rw [if_pos hz]; exact ⟨fz, hz, hk, Evolves.refl m, ho⟩
        · rw [if_neg hz]
          exact ⟨off + len * esz, Nat.le_refl _, fz_hok hk ho (by omega), fz_evolves hk ho (by omega), by simp [updH, getH_cons]⟩
      obtain ⟨fz', hz1, hk', hev, ho'⟩ := key
      refine ⟨hk', hev, ?_⟩
      generalize (if off + len * esz ≤ fz then [] else [(id, Obj.arr cs esz (off + len * esz) ety)]) = us at *
      simp only [RepC]
      have hsub : ∀ i c, ((cs.drop off).take (len * esz))[i]? = some c → i < len * esz := by
        intro i c h
        have := (List.getElem?_eq_some_iff.1 h).1
        simp at this; omega
      have hall : All2 (RepC m.w (Safe B S (m.heap (updH m.h us)))) ((cs.drop off).take (len * esz)) (((vs.take cs.length).drop off).take (len * esz)) :=
        ((hv3.mono fun x u h5 => RepC.mono hev.cell x u h5).drop off).take _
      have hcs : RepCs m.w (Safe B S (m.heap (updH m.h us))) ((cs.drop off).take (len * esz)) (m.β id) off := by
        refine RepCs_of hall fun i u hi => ?_
        have hi2 : i < len * esz := by
          have := (List.getElem?_eq_some_iff.1 hi).1
          simp at this; omega
        have hi3 : vs[off + i]? = some u := by
          rw [List.getElem?_take_of_lt hi2, List.getElem?_drop, List.getElem?_take_of_lt (by omega)] at hi
          exact hi
        refine ⟨by rw [cell_row hv1]; exact hi3, fun hb => ?_, fun j => ?_⟩
        · exact absurd hB (by omega)
        · show match getH (updH m.h us) j with | .dead => True | .box _ => m.β j ≠ m.β id | .arr _ _ fz _ => m.β j = m.β id → off + i < fz
          by_cases hj : j = id
          · subst hj; rw [ho']; exact fun _ => by omega
          · cases hoj : getH (updH m.h us) j with
            | dead => trivial
            | box ds => exact fun e => hj (hk'.inj j id (by show getH (updH m.h us) j ≠ _; rw [hoj]; simp) (by show getH (updH m.h us) id ≠ _; rw [ho']; simp) e)
            | arr cs2 esz2 fz2 ety2 => exact fun e => absurd (hk'.inj j id (by show getH (updH m.h us) j ≠ _; rw [hoj]; simp) (by show getH (updH m.h us) id ≠ _; rw [ho']; simp) e) hj
      rcases hr with ⟨rfl, _⟩ | ⟨rfl, rfl⟩
      · exact ⟨⟨m.β id, off, none⟩, cap, hv, hcap, fun _ => rfl, hcs⟩
      · refine ⟨ad, 0, hv, Nat.le_refl _, fun h => ?_, ?_⟩
        · simp at h
        · simp [RepCs]
  | unk => simp [frz] at hf
  | loc id off => simp [frz] at hf
  | ptr cs => simp [frz] at hf
  | agg ds => simp [frz] at hf
  | tup ds => simp [frz] at hf

theorem updH_append : ∀ (us vs : List (Nat × Obj)) (h : Heap), updH h (us ++ vs) = updH (updH h us) vs
  | [], _, _ => rfl
  | u :: us, vs, h => by simp only [List.cons_append, updH]; exact updH_append us vs (u :: h)

theorem frzL_ok : ∀ {ds : List D} {us : List Value} {m : M}, HOK B S m → All2 (RepDc B S m) ds us → ∀ {cs : List C} {xs : List (Nat × Obj)}, frzL m.h ds = some (cs, xs) →
    HOK B S (m.heap (updH m.h xs)) ∧ Evolves B S m (m.heap (updH m.h xs)) ∧ All2 (RepC m.w (Safe B S (m.heap (updH m.h xs)))) cs us
  | [], [], m, hk, _, cs, xs, hf => by
    simp only [frzL, Option.some.injEq, Prod.mk.injEq] at hf
    obtain ⟨rfl, rfl⟩ := hf
    exact ⟨hk, Evolves.refl m, trivial⟩
  | d :: ds, u :: us, m, hk, hr, cs, xs, hf => by
    simp only [frzL, Option.bind_eq_bind, Option.bind_eq_some_iff, Prod.exists, Option.some.injEq, Prod.mk.injEq] at hf
    obtain ⟨c, x, h1, cs', xs', h2, rfl, rfl⟩ := hf
    obtain ⟨k1, k2, k3⟩ := frz_ok hk hr.1 h1
    have hr2 : All2 (RepDc B S (m.heap (updH m.h x))) ds us := hr.2.mono fun _ _ h => k2.repDc h
    obtain ⟨k4, k5, k6⟩ := frzL_ok (m := m.heap (updH m.h x)) k1 hr2 h2
    rw [updH_append]
    exact ⟨k4, k2.trans k5, RepC.mono k5.cell c u k3, k6⟩
  | [], _ :: _, _, _, hr, _, _, _ => hr.elim
  | _ :: _, [], _, _, hr, _, _, _ => hr.elim

/-- a plain argument or result -/
def RepV (w : World) (Sf : Nat → Nat → Prop) : V → Value → Prop
  | .one c, u => RepC w Sf c u
  | .agg cs, u => ∃ us : List Value, u = .agg us.toArray ∧ All2 (RepC w Sf) cs us

theorem RepV.mono {w w' : World} {Sf Sf' : Nat → Nat → Prop} (h : ∀ b o u, w.cell? ⟨b, o, none⟩ = some u → Sf b o → w'.cell? ⟨b, o, none⟩ = some u ∧ Sf' b o) {v : V} {u : Value} (hr : RepV w Sf v u) : RepV w' Sf' v u := by
  cases v with
  | one c => exact RepC.mono h c u hr
  | agg cs => obtain ⟨us, h1, h2⟩ := hr; exact ⟨us, h1, h2.mono fun x v hx => RepC.mono h x v hx⟩

theorem frzV_ok {m : M} (hk : HOK B S m) {d : D} {u : Value} (hr : RepA B S m d u) {v : V} {xs : List (Nat × Obj)} (hf : frzV m.h d = some (v, xs)) :
    HOK B S (m.heap (updH m.h xs)) ∧ Evolves B S m (m.heap (updH m.h xs)) ∧ RepV m.w (Safe B S (m.heap (updH m.h xs))) v u := by
  have one : ∀ d, RepDc B S m d u → (do let (c, y) ← frz m.h d; some (V.one c, y)) = some (v, xs) →
      HOK B S (m.heap (updH m.h xs)) ∧ Evolves B S m (m.heap (updH m.h xs)) ∧ RepV m.w (Safe B S (m.heap (updH m.h xs))) v u := by
    intro d hr hf
    simp only [Option.bind_eq_bind, Option.bind_eq_some_iff, Prod.exists, Option.some.injEq, Prod.mk.injEq] at hf
    obtain ⟨c, x, h1, rfl, rfl⟩ := hf
    exact frz_ok hk hr h1
  cases d with
  | agg ds =>
    simp only [frzV, Option.bind_eq_bind, Option.bind_eq_some_iff, Prod.exists, Option.some.injEq, Prod.mk.injEq] at hf
    obtain ⟨cs, x, h1, rfl, rfl⟩ := hf
    obtain ⟨us, rfl, h2⟩ := hr
    obtain ⟨k1, k2, k3⟩ := frzL_ok hk h2 h1
    exact ⟨k1, k2, us, rfl, k3⟩
  | unk => exact one .unk hr hf
  | c x => exact one (.c x) hr hf
  | loc id off => exact one (.loc id off) hr hf
  | arr id off len => exact one (.arr id off len) hr hf
  | ptr cs => exact one (.ptr cs) hr hf
  | tup ds => exact one (.tup ds) hr hf

theorem frzVs_ok : ∀ {ds : List D} {us : List Value} {m : M}, HOK B S m → All2 (RepA B S m) ds us → ∀ {vs : List V} {xs : List (Nat × Obj)}, frzVs m.h ds = some (vs, xs) →
    HOK B S (m.heap (updH m.h xs)) ∧ Evolves B S m (m.heap (updH m.h xs)) ∧ All2 (RepV m.w (Safe B S (m.heap (updH m.h xs)))) vs us
  | [], [], m, hk, _, cs, xs, hf => by
    simp only [frzVs, Option.some.injEq, Prod.mk.injEq] at hf
    obtain ⟨rfl, rfl⟩ := hf
    exact ⟨hk, Evolves.refl m, trivial⟩
  | d :: ds, u :: us, m, hk, hr, cs, xs, hf => by
    simp only [frzVs, Option.bind_eq_bind, Option.bind_eq_some_iff, Prod.exists, Option.some.injEq, Prod.mk.injEq] at hf
    obtain ⟨c, x, h1, cs', xs', h2, rfl, rfl⟩ := hf
    obtain ⟨k1, k2, k3⟩ := frzV_ok hk hr.1 h1
    have hr2 : All2 (RepA B S (m.heap (updH m.h x))) ds us := hr.2.mono fun _ _ h => k2.repA h
    obtain ⟨k4, k5, k6⟩ := frzVs_ok (m := m.heap (updH m.h x)) k1 hr2 h2
    rw [updH_append]
    exact ⟨k4, k2.trans k5, RepV.mono k5.cell k3, k6⟩
  | [], _ :: _, _, _, hr, _, _, _ => hr.elim
  | _ :: _, [], _, _, hr, _, _, _ => hr.elim

end
end Go.Ev
