/-
  Running code with calls: one operation after another, whatever it calls.
-/
import Derived.Test.YtfphnpelampoeaaRw3M
set_option linter.unusedVariables false
set_option linter.unusedSimpArgs false
namespace Go.Proofs.Ytfphnpelampoeaa.Rw
open Go Go.Ez

def RunS (F : Tab) (is : List Inst) (s s' : St) : Prop := ∃ n0, ∀ n, n0 ≤ n → evSeq (evFn F n) (evBody F n) is s = some s'
def RunD (F : Tab) (nx k : Nat) (is : List Inst) (e : Env) (h : Heap) (r : Env × Heap × List Trace) : Prop := ∃ n0, ∀ n, n0 ≤ n → evDraw (evFn F n) nx k is e h = some r

def sq (F : Tab) (is : List Inst) (s : St) (Q : St → Prop) : Prop := ∃ s', RunS F is s s' ∧ Q s'
def dr (F : Tab) (nx k : Nat) (is : List Inst) (e : Env) (h : Heap) (Q : Env → Heap → List Trace → Prop) : Prop := ∃ e' h' ts, RunD F nx k is e h (e', h', ts) ∧ Q e' h' ts

def plain : Ins → Bool
  | .callS _ _ _ | .callV _ _ | .call _ _ => false
  | _ => true

section
variable {F : Tab} {is : List Inst} {e : Env} {hp : Heap} {n : Nat} {dst : Option Nat} {ins : Ins} {Q : St → Prop}

theorem wp_sq {s : St} {Q : Ex → St → Prop} (h : sq F is s (Q .normal)) : WP F (.region is) s Q := by
  obtain ⟨s', ⟨n0, h1⟩, h2⟩ := h
  refine ⟨_, s', ⟨n0 + 1, fun n hn => ?_⟩, h2⟩
  obtain ⟨k, rfl⟩ : ∃ k, n = k + 1 := ⟨n - 1, by omega⟩
  simp [evCode, h1 k (by omega)]

theorem wp_dr {ws : List Nat} {Q : Ex → St → Prop} (h : dr F n 0 is e hp fun e' h' ts => drawOk ts ws = true ∧ Q .normal ⟨e', h', n + is.length⟩) : WP F (.draw is ws) ⟨e, hp, n⟩ Q := by
  obtain ⟨e', h', ts, ⟨n0, h1⟩, h2, h3⟩ := h
  refine ⟨_, _, ⟨n0 + 1, fun n hn => ?_⟩, h3⟩
  obtain ⟨k, rfl⟩ : ∃ k, n = k + 1 := ⟨n - 1, by omega⟩
  simp [evCode, h1 k (by omega), h2]

theorem sq_nil {s : St} (h : Q s) : sq F [] s Q := ⟨s, ⟨0, fun _ _ => rfl⟩, h⟩

theorem sq_cons (hl : plain ins = true) (h : oneW (step (evX e) hp n ins) fun d us => sq F is ⟨putE e dst d, updH hp us, n + 1⟩ Q) : sq F (⟨dst, ins, none⟩ :: is) ⟨e, hp, n⟩ Q := by
  unfold oneW at h
  cases hs : step (evX e) hp n ins with
  | none => rw [hs] at h; exact h.elim
  | some p =>
    obtain ⟨d, us⟩ := p
    rw [hs] at h
    obtain ⟨s', ⟨n0, h1⟩, h2⟩ := h
    refine ⟨s', ⟨n0, fun j hj => ?_⟩, h2⟩
    rw [evSeq]
    simp only [wanted, Option.bind_eq_bind, Option.bind_some, if_true]
    cases ins <;> first | (simp only [stepC, hs, Option.bind_some]; exact h1 j hj) | cases hl

theorem sq_call {f : Nat} {xs : List X} {vs rs : List V} {us : List (Nat × Ez.Obj)} (hf : frzVs hp (xs.map (evX e)) = some (vs, us)) (hr : RunF F f vs rs) (h : sq F is ⟨putE e dst (retD rs), updH hp us, n + 1⟩ Q) : sq F (⟨dst, .call f xs, none⟩ :: is) ⟨e, hp, n⟩ Q := by
  obtain ⟨n1, hr⟩ := hr
  obtain ⟨s', ⟨n0, h1⟩, h2⟩ := h
  refine ⟨s', ⟨max n0 n1, fun j hj => ?_⟩, h2⟩
  rw [evSeq]
  simp only [wanted, Option.bind_eq_bind, Option.bind_some, if_true, stepC, hf, hr j (by omega)]
  exact h1 j (by omega)

theorem sq_lend {f : Nat} {xs : List X} {ds rs : List D} {us : List (Nat × Ez.Obj)} {hp' : Heap} {n' : Nat} (hf : frzDs hp (xs.map (evX e)) = some (ds, us)) (hr : RunB F f ds (updH hp us) n rs hp' n') (h : sq F is ⟨putE e dst (tupD rs), hp', n'⟩ Q) : sq F (⟨dst, .callS f true xs, none⟩ :: is) ⟨e, hp, n⟩ Q := by
  obtain ⟨n1, hr⟩ := hr
  obtain ⟨s', ⟨n0, h1⟩, h2⟩ := h
  refine ⟨s', ⟨max n0 n1, fun j hj => ?_⟩, h2⟩
  rw [evSeq]
  simp only [wanted, Option.bind_eq_bind, Option.bind_some, if_true, lendC, hf, hr j (by omega)]
  exact h1 j (by omega)

theorem sq_lendF {f : Nat} {xs : List X} {ds rs rs' : List D} {us us' : List (Nat × Ez.Obj)} {hp' : Heap} {n' : Nat} (hf : frzDs hp (xs.map (evX e)) = some (ds, us)) (hr : RunB F f ds (updH hp us) n rs hp' n') (hg : frzDs hp' rs = some (rs', us'))
    (h : sq F is ⟨putE e dst (tupD rs'), updH hp' us', n'⟩ Q) : sq F (⟨dst, .callS f false xs, none⟩ :: is) ⟨e, hp, n⟩ Q := by
  obtain ⟨n1, hr⟩ := hr
  obtain ⟨s', ⟨n0, h1⟩, h2⟩ := h
  refine ⟨s', ⟨max n0 n1, fun j hj => ?_⟩, h2⟩
  rw [evSeq]
  simp only [wanted, Option.bind_eq_bind, Option.bind_some, if_true, lendC, hf, hr j (by omega), hg, if_false, Bool.false_eq_true]
  exact h1 j (by omega)

theorem sq_yes {t : Nat} {want : Bool} (hw : wanted e (some (t, want)) = some true) (h : sq F (⟨dst, ins, none⟩ :: is) ⟨e, hp, n⟩ Q) : sq F (⟨dst, ins, some (t, want)⟩ :: is) ⟨e, hp, n⟩ Q := by
  obtain ⟨s', ⟨n0, h1⟩, h2⟩ := h
  refine ⟨s', ⟨n0, fun j hj => ?_⟩, h2⟩
  rw [← h1 j hj, evSeq, evSeq]
  simp only [hw]
  rfl

theorem sq_no {t : Nat} {want : Bool} (hw : wanted e (some (t, want)) = some false) (h : sq F is ⟨putE e dst undefD, hp, n⟩ Q) : sq F (⟨dst, ins, some (t, want)⟩ :: is) ⟨e, hp, n⟩ Q := by
  obtain ⟨s', ⟨n0, h1⟩, h2⟩ := h
  refine ⟨s', ⟨n0, fun j hj => ?_⟩, h2⟩
  rw [← h1 j hj, evSeq]
  simp only [hw, Option.bind_eq_bind, Option.bind_some, Bool.false_eq_true, if_false]
end

section
variable {F : Tab} {is : List Inst} {e : Env} {hp : Heap} {nx k : Nat} {dst : Option Nat} {ins : Ins} {Q : Env → Heap → List Trace → Prop}

theorem dr_nil (h : Q e hp []) : dr F nx k [] e hp Q := ⟨e, hp, [], ⟨0, fun _ _ => rfl⟩, h⟩

theorem dr_cons (hl : plain ins = true) (h : oneW (step (evX e) hp (nx + k) ins) fun d us => dr F nx (k + 1) is (putE e dst d) (updH hp us) fun e' h' ts => Q e' h' (⟨tmpsX (opX ins), dst.toList, touches hp (evX e) ins, us.map (·.1)⟩ :: ts)) :
    dr F nx k (⟨dst, ins, none⟩ :: is) e hp Q := by
  unfold oneW at h
  cases hs : step (evX e) hp (nx + k) ins with
  | none => rw [hs] at h; exact h.elim
  | some p =>
    obtain ⟨d, us⟩ := p
    rw [hs] at h
    obtain ⟨e', h', ts, ⟨n0, h1⟩, h2⟩ := h
    refine ⟨e', h', _, ⟨n0, fun j hj => ?_⟩, h2⟩
    have hc : stepC (evFn F j) (evX e) hp (nx + k) ins = some (d, us) := by cases ins <;> first | exact hs | cases hl
    simp only [evDraw, wanted, Option.bind_eq_bind, Option.bind_some, if_true, hc, h1 j hj, List.nil_append]

theorem dr_call {f : Nat} {xs : List X} {vs rs : List V} {us : List (Nat × Ez.Obj)} (hf : frzVs hp (xs.map (evX e)) = some (vs, us)) (hr : RunF F f vs rs)
    (h : dr F nx (k + 1) is (putE e dst (retD rs)) (updH hp us) fun e' h' ts => Q e' h' (⟨tmpsX xs, dst.toList, touches hp (evX e) (.call f xs), us.map (·.1)⟩ :: ts)) : dr F nx k (⟨dst, .call f xs, none⟩ :: is) e hp Q := by
  obtain ⟨n1, hr⟩ := hr
  obtain ⟨e', h', ts, ⟨n0, h1⟩, h2⟩ := h
  refine ⟨e', h', _, ⟨max n0 n1, fun j hj => ?_⟩, h2⟩
  simp only [evDraw, wanted, Option.bind_eq_bind, Option.bind_some, if_true, stepC, hf, hr j (by omega), h1 j (by omega), List.nil_append, opX]
end

end Go.Proofs.Ytfphnpelampoeaa.Rw

