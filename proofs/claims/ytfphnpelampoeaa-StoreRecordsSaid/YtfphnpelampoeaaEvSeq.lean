/-
  A region whose order is fixed.
-/
import Derived.Test.YtfphnpelampoeaaEvInst
namespace Go.Ev
open Go.RowKit

def UIs (m : M) (nx : Nat) : Prop := ∀ i, m.U i ↔ i < nx

/-- what is known of a shared call -/
def ShOK (B : Nat) (S : Nat → Nat → Prop) (P : Program) (f : Nat) (ds : List D) (h : Heap) (nx : Nat) (ds' : List D) (h' : Heap) (nx' : Nat) : Prop :=
  Callable P f ∧ ∀ (m : M) (us : List Value), m.h = h → UIs m nx → HOK B S m → All2 (RepD B S m) ds us →
    Calls P f us.toArray m.w fun e w' => ∃ (v : Value) (m' : M), e = .returned v ∧ m'.w = w' ∧ m'.h = h' ∧ UIs m' nx' ∧ HOK B S m' ∧ Evolves B S m m' ∧ RepD B S m' (tupD ds') v ∧ Below B m.w m'.w

section
variable {B : Nat} {S : Nat → Nat → Prop} {P : Program} {o : Oper} {a : Act} {m : M} {shF : Nat → Bool} {nt : Nat} {w0 : World} {call : Callee} {shared : Nat → List D → Heap → Nat → Option (List D × Heap × Nat)}

theorem compOp_callS {f : Nat} {xs : List X} (h : compOp P shF o.op = some (.callS f xs)) : ∃ args ts, o.op = .call { callee := .value (.func f), args, argTypes := ts } ∧ compXs args.toList = some xs := by
  unfold compOp at h
  split at h <;> try (cases h; done)
  all_goals simp only [Option.bind_eq_bind, Option.bind_eq_some_iff, Option.some.injEq] at h
  case h_21 f' args ts hop =>
    obtain ⟨ys, h1, h2⟩ := h
    split at h2
    · simp only [Ins.callS.injEq] at h2
      obtain ⟨rfl, rfl⟩ := h2
      exact ⟨args, ts, hop, h1⟩
    · cases h2
  all_goals (exfalso; revert h)
  case h_22 b args ts hop =>
    rintro ⟨ys, h1, h2⟩
    split at h2 <;> try (cases h2; done)
    · split at h2 <;> simp at h2
    · simp only [Option.bind_eq_some_iff] at h2
      obtain ⟨_, _, _, _, _, _, h2⟩ := h2
      split at h2
      · split at h2 <;> simp at h2
      · split at h2 <;> simp at h2
      · simp at h2
    · simp only [Option.bind_eq_some_iff] at h2
      obtain ⟨_, _, _, _, h2⟩ := h2
      split at h2 <;> simp at h2
  case h_11 => rintro ⟨_, _, _, _, h⟩; split at h <;> simp at h
  case h_13 => rintro ⟨_, _, h⟩; split at h <;> first | (simp at h; done) | (split at h <;> simp at h)
  case h_15 => rintro ⟨_, _, _, _, _, _, h⟩; split at h <;> first | (simp at h; done) | (simp only [Option.bind_eq_some_iff] at h; obtain ⟨_, _, h⟩ := h; simp at h)
  case h_19 => rintro ⟨_, _, _, _, h⟩; split at h <;> simp at h
  all_goals (intro h; simp at h)

theorem seq_ok {ops : Array Oper} {Q : Exit → Act → World → Prop} (hcall : ∀ f vs rs, call f vs = some rs → FnOK P f vs rs)
    (hsh : ∀ f ds h nx ds' h' nx', shared f ds h nx = some (ds', h', nx') → ShOK B S P f ds h nx ds' h' nx') :
    ∀ (l : List Oper) (is : List Inst), compInsts P shF nt ops l = some is → ∀ (s s' : St) (m : M) (a : Act), m.h = s.heap → UIs m s.nx → Rel B S w0 nt m s.env a → evSeq call shared is s = some s' →
      (∀ (a' : Act) (m' : M), m'.h = s'.heap → UIs m' s'.nx → s'.sh = s.sh → Evolves B S m m' → Rel B S w0 nt m' s'.env a' → Q .normal a' m'.w) → wpList P ops Q l a m.w
  | [], is, hc, s, s', m, a, hh, hU, hr, hev, hK => by
    simp only [compInsts, Option.some.injEq] at hc
    subst hc
    simp only [evSeq, Option.some.injEq] at hev
    subst hev
    exact wpList_nil (hK a m hh hU rfl (Evolves.refl m) hr)
  | o :: l, is, hc, s, s', m, a, hh, hU, hr, hev, hK => by
    simp only [compInsts, Option.bind_eq_bind, Option.bind_eq_some_iff, Option.some.injEq] at hc
    obtain ⟨i, hc1, is', hc2, rfl⟩ := hc
    simp only [evSeq, Option.bind_eq_bind, Option.bind_eq_some_iff] at hev
    obtain ⟨b, hw, hev⟩ := hev
    have hwant := wanted_ok hr hc1 hw
    obtain ⟨p1, p2, p3, _⟩ := compInst_parts hc1
    unfold wpList
    rw [hwant]
    cases b with
    | false =>
      simp only [if_false, Bool.false_eq_true] at hev ⊢
      have hr2 : Rel B S w0 nt m (putE s.env i.dst undefD) (a.put o.dst undef) := by
        rw [p2]; exact hr.put p3 ⟨[], rfl, trivial⟩
      exact seq_ok hcall hsh l is' hc2 ⟨putE s.env i.dst undefD, s.heap, s.nx, s.sh⟩ s' m _ hh hU hr2 hev hK
    | true =>
      simp only [if_true] at hev ⊢
      refine .inl ?_
      have other : (∀ f xs, i.ins ≠ .callS f xs) → (do let (d, us) ← stepC call (evX s.env) s.heap s.nx i.ins; evSeq call shared is' ⟨putE s.env i.dst d, updH s.heap us, s.nx + 1, s.sh⟩) = some s' → o.wp P a m.w (wpList P ops Q l) Q := by
        intro hns hev
        simp only [Option.bind_eq_bind, Option.bind_eq_some_iff, Prod.exists] at hev
        obtain ⟨d, us, h1, h2⟩ := hev
        refine inst_wp hc1 hns hr (slot := s.nx) (by rw [hU]; omega) hcall (by rw [hh]; exact h1) fun a' m' q1 q2 q3 q4 => ?_
        refine seq_ok hcall hsh l is' hc2 ⟨putE s.env i.dst d, updH s.heap us, s.nx + 1, s.sh⟩ s' m' a' (by rw [q1, hh]) (fun j => ?_) q4 h2 fun a'' m'' r1 r2 r3 r4 r5 => hK a'' m'' r1 r2 r3 (q3.trans r4) r5
        rw [q2]
        show m.U j ∨ j = s.nx ↔ j < s.nx + 1
        rw [hU]
        omega
      cases hins : i.ins with
      | callS f xs =>
        rw [hins] at hev p1
        simp only [Option.bind_eq_some_iff, Prod.exists] at hev
        obtain ⟨ds', h', nx', h1, h2⟩ := hev
        obtain ⟨args, ts, hop, h7⟩ := compOp_callS p1
        have hall := compXs_all hr h7
        obtain ⟨hcal, hs2⟩ := hsh _ _ _ _ _ _ _ h1
        have hc := hs2 m (args.map a.eval).toList hh hU hr.hok (by simpa using hall)
        rw [Array.toArray_toList] at hc
        unfold Oper.wp
        rw [run_call hcal hop]
        show Calls P f (args.map a.eval) m.w _
        refine hc.mono fun e w' ⟨v, m', q0, q1, q2, q3, q4, q5, q6, q7⟩ => ?_
        subst q0 q1
        have hr2 : Rel B S w0 nt m' (putE s.env i.dst (tupD ds')) (a.put o.dst v) := by
          rw [p2]; exact (hr.evolve q5 q4 q7).put p3 q6
        exact seq_ok hcall hsh l is' hc2 ⟨putE s.env i.dst (tupD ds'), h', nx', s.sh⟩ s' m' _ q2 q3 hr2 h2 fun a'' m'' r1 r2 r3 r4 r5 => hK a'' m'' r1 r2 r3 (q5.trans r4) r5
      | _ => exact other (fun f xs h => by rw [hins] at h; cases h) (by rw [hins] at hev ⊢; exact hev)
end
end Go.Ev
