/-
  A loop's head: forgetting, striking, numbering anew: the model's memory still holds what the evaluator says.
-/
import Derived.Test.YtfphnpelampoeaaEvDraw
namespace Go.Ev
open Go.RowKit

section
variable {B : Nat} {S : Nat → Nat → Prop} {nt : Nat} {w0 : World} {m : M} {a : Act} {e : Env}

theorem getE_keepE (e : Env) : ∀ (ks : List Nat) (t : Nat), getE (keepE e ks) t = if t ∈ ks then getE e t else .unk
  | [], t => by simp [keepE, getE]
  | k :: ks, t => by
    simp only [keepE, getE, List.mem_cons]
    by_cases h : k = t
    · subst h; simp
    · have h' : ¬ t = k := fun x => h x.symm
      rw [if_neg h, getE_keepE e ks t]
      simp [h']

theorem Rel.keep (hr : Rel B S w0 nt m e a) (ks : List Nat) : Rel B S w0 nt m (keepE e ks) a :=
  ⟨hr.defers, hr.size, fun t => by
    rw [getE_keepE]
    split
    · exact hr.env t
    · trivial, hr.hok, hr.below⟩

theorem nodup_inj {l : List Nat} (hn : l.Nodup) {i j : Nat} (hi : i < l.length) (hj : j < l.length) (h : l[i] = l[j]) : i = j := by
  have := List.nodup_iff_pairwise_ne.1 hn
  rw [List.pairwise_iff_getElem] at this
  rcases Nat.lt_trichotomy i j with h1 | h1 | h1
  · exact absurd h (this i j hi hj h1)
  · exact h1
  · exact absurd h.symm (this j i hj hi h1)

theorem reach_nodup (h : Heap) : ∀ (n : Nat) (todo seen : List Nat), seen.Nodup → (reach h n todo seen).Nodup
  | 0, _, _, hs => hs
  | _ + 1, [], _, hs => hs
  | n + 1, i :: todo, seen, hs => by
    simp only [reach]
    split
    · exact reach_nodup h n todo seen hs
    · rename_i hi
      refine reach_nodup h n _ _ ?_
      rw [List.nodup_append]
      refine ⟨hs, by simp, ?_⟩
      intro a ha b hb
      simp at hb
      subst hb
      intro hab
      subst hab
      exact hi ha

theorem getE_renE (seen : List Nat) : ∀ (e : Env) (t : Nat), getE (renE seen e) t = renD seen (getE e t)
  | [], t => by simp [renE, getE, renD, renC]
  | (t', d) :: e, t => by
    simp only [renE, getE]
    split
    · rfl
    · exact getE_renE seen e t

theorem getH_renH (h : Heap) (sn : List Nat) : ∀ (seen : List Nat) (k i : Nat), getH (renH h sn k seen) i = if k ≤ i then (match seen[i - k]? with | some j => renO sn (getH h j) | none => .dead) else .dead
  | [], k, i => by simp [renH, getH]
  | j :: seen, k, i => by
    simp only [renH, getH]
    by_cases h1 : k = i
    · subst h1; simp
    · rw [if_neg h1, getH_renH h sn seen (k + 1) i]
      by_cases h2 : k + 1 ≤ i
      · rw [if_pos h2, if_pos (by omega)]
        have : i - k = (i - (k + 1)) + 1 := by omega
        rw [this]
        simp
      · rw [if_neg h2, if_neg (by omega)]

/-- the numbers that are left, anew -/
def M.ren (m : M) (seen : List Nat) : M := ⟨m.w, renH m.h seen 0 seen, fun i => m.β (seen.getD i 0), fun i => i < seen.length⟩

theorem getH_ren (seen : List Nat) (i : Nat) : getH (m.ren seen).h i = match seen[i]? with | some j => renO seen (getH m.h j) | none => .dead := by
  show getH (renH m.h seen 0 seen) i = _
  rw [getH_renH]
  simp

theorem renO_dead {seen : List Nat} {o : Obj} : renO seen o = .dead ↔ o = .dead := by cases o <;> simp [renO]

theorem ren_safe {seen : List Nat} {b q : Nat} (h : Safe B S m b q) : Safe B S (m.ren seen) b q := by
  refine ⟨h.1, fun i => ?_⟩
  rw [getH_ren]
  cases hi : seen[i]? with
  | none => trivial
  | some j =>
    have hj := h.2 j
    have hβ : (m.ren seen).β i = m.β j := by simp [M.ren, List.getD, hi]
    rw [hβ]
    simp only
    cases ho : getH m.h j with
    | dead => trivial
    | box ds => rw [ho] at hj; exact hj
    | arr cs esz fz ety => rw [ho] at hj; exact hj

theorem ren_cell {seen : List Nat} : ∀ b o u, m.w.cell? ⟨b, o, none⟩ = some u → Safe B S m b o → (m.ren seen).w.cell? ⟨b, o, none⟩ = some u ∧ Safe B S (m.ren seen) b o :=
  fun _ _ _ h1 h2 => ⟨h1, ren_safe h2⟩

theorem idx_get {seen : List Nat} {id : Nat} (h : id ∈ seen) : seen[seen.idxOf id]? = some id := by
  have hlt : seen.idxOf id < seen.length := List.idxOf_lt_length_of_mem h
  rw [List.getElem?_eq_getElem hlt]
  simp

theorem ren_repC {seen : List Nat} {d : D} {u : Value} (h : RepDc B S m d u) : RepDc B S (m.ren seen) (renC seen d) u := by
  cases d with
  | unk => trivial
  | c x => exact RepC.mono ren_cell x u h
  | loc id off =>
    simp only [renC]
    split
    · rename_i hm
      obtain ⟨_, rfl⟩ := h
      refine ⟨List.idxOf_lt_length_of_mem hm, ?_⟩
      have : (m.ren seen).β (seen.idxOf id) = m.β id := by simp [M.ren, List.getD, idx_get hm]
      rw [this]
    · trivial
  | arr id off len =>
    simp only [renC]
    split
    · rename_i hm
      obtain ⟨_, ad, cap, e1, e2, e3⟩ := h
      refine ⟨List.idxOf_lt_length_of_mem hm, ad, cap, e1, e2, ?_⟩
      have hβ : (m.ren seen).β (seen.idxOf id) = m.β id := by simp [M.ren, List.getD, idx_get hm]
      rw [getH_ren, idx_get hm, hβ]
      simp only
      cases ho : getH m.h id with
      | dead => trivial
      | box ds => trivial
      | arr cs esz fz ety => rw [ho] at e3; exact e3
    · trivial
  | ptr cs => obtain ⟨ad, e1, e2, e3⟩ := h; exact ⟨ad, e1, e2, RepCs.mono ren_cell cs _ _ e3⟩
  | agg ds => exact h.elim
  | tup ds => exact h.elim

theorem All2.map_mono {α β γ : Type} {R : α → β → Prop} {R' : γ → β → Prop} {f : α → γ} (h : ∀ a b, R a b → R' (f a) b) : ∀ {as : List α} {bs : List β}, All2 R as bs → All2 R' (as.map f) bs
  | [], [], _ => trivial
  | _ :: _, _ :: _, h1 => ⟨h _ _ h1.1, All2.map_mono h h1.2⟩
  | [], _ :: _, h1 => h1.elim
  | _ :: _, [], h1 => h1.elim

theorem ren_repD {seen : List Nat} {d : D} {u : Value} (h : RepD B S m d u) : RepD B S (m.ren seen) (renD seen d) u := by
  cases d with
  | agg ds => obtain ⟨us, e1, e2⟩ := h; exact ⟨us, e1, e2.map_mono fun _ _ h => ren_repC h⟩
  | tup ds => trivial
  | unk => trivial
  | c x => exact RepC.mono ren_cell x u h
  | loc id off => exact (ren_repC (seen := seen) (d := .loc id off) h).toD
  | arr id off len => exact (ren_repC (seen := seen) (d := .arr id off len) h).toD
  | ptr cs => exact (ren_repC (seen := seen) (d := .ptr cs) h).toD

theorem ren_hok (hk : HOK B S m) {seen : List Nat} (hn : seen.Nodup) : HOK B S (m.ren seen) := by
  refine ⟨fun i => ?_, fun i j hi hj he => ?_, fun i hu => ?_, hk.base⟩
  · unfold RepO
    rw [getH_ren]
    cases hi : seen[i]? with
    | none => trivial
    | some j =>
      have hβ : (m.ren seen).β i = m.β j := by simp [M.ren, List.getD, hi]
      rw [hβ]
      have ho := hk.obj j
      unfold RepO at ho
      simp only
      cases hoj : getH m.h j with
      | dead => trivial
      | box ds =>
        rw [hoj] at ho
        obtain ⟨h1, us, e, h2, h3⟩ := ho
        exact ⟨h1, us, e, h2, h3.map_mono fun _ _ h => ren_repC h⟩
      | arr cs esz fz ety =>
        rw [hoj] at ho
        obtain ⟨h1, us, h2, h3, h4⟩ := ho
        exact ⟨h1, us, h2, h3, h4.mono fun x u h => RepC.mono ren_cell x u h⟩
  · rw [getH_ren] at hi hj
    cases hi' : seen[i]? with
    | none => rw [hi'] at hi; exact absurd rfl hi
    | some p =>
      cases hj' : seen[j]? with
      | none => rw [hj'] at hj; exact absurd rfl hj
      | some q =>
        rw [hi'] at hi
        rw [hj'] at hj
        have e1 : (m.ren seen).β i = m.β p := by simp [M.ren, List.getD, hi']
        have e2 : (m.ren seen).β j = m.β q := by simp [M.ren, List.getD, hj']
        rw [e1, e2] at he
        have hp : getH m.h p ≠ .dead := fun h => hi (renO_dead.2 h)
        have hq : getH m.h q ≠ .dead := fun h => hj (renO_dead.2 h)
        have hpq := hk.inj p q hp hq he
        subst hpq
        obtain ⟨l1, v1⟩ := List.getElem?_eq_some_iff.1 hi'
        obtain ⟨l2, v2⟩ := List.getElem?_eq_some_iff.1 hj'
        exact nodup_inj hn l1 l2 (v1.trans v2.symm)
  · rw [getH_ren]
    have : ¬ i < seen.length := hu
    rw [List.getElem?_eq_none (by omega)]

/-- what a loop's head does to what is known -/
theorem norm_ok {s : St} (hh : m.h = s.heap) (hU : UIs m s.nx) (hr : Rel B S w0 nt m s.env a) (keep : List Nat) :
    ∃ m' : M, m'.w = m.w ∧ m'.h = (normSt keep s).heap ∧ UIs m' (normSt keep s).nx ∧ Rel B S w0 nt m' (normSt keep s).env a ∧ (normSt keep s).sh = s.sh ∧ (s.sh = true → Evolves B S m m') := by
  have hr1 := hr.keep keep
  unfold normSt
  cases hs : s.sh with
  | true =>
    simp only [if_true]
    exact ⟨m, rfl, hh, hU, hr1, trivial, fun _ => Evolves.refl m⟩
  | false =>
    simp only [if_false, Bool.false_eq_true]
    have hn : (seenOf (keepE s.env keep) s.heap).Nodup := reach_nodup _ _ _ _ List.nodup_nil
    generalize seenOf (keepE s.env keep) s.heap = seen at hn
    refine ⟨m.ren seen, rfl, ?_, fun i => Iff.rfl, ⟨hr1.defers, hr1.size, fun t => ?_, ren_hok hr1.hok hn, hr1.below⟩, rfl, fun h => by cases h⟩
    · show renH m.h seen 0 seen = renH s.heap seen 0 seen
      rw [hh]
    · show RepD B S (m.ren seen) (getE (renE seen (keepE s.env keep)) t) _
      rw [getE_renE]
      exact ren_repD (hr1.env t)

end
end Go.Ev
