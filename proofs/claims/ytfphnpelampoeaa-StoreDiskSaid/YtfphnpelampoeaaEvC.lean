/-
  Every operation but a call: the evaluator's step is the model's.
-/
import Derived.Test.YtfphnpelampoeaaEvB
import Derived.Test.YtfphnpelampoeaaEvBaseM
import Derived.Orders
set_option linter.unusedVariables false
set_option linter.unusedSimpArgs false
namespace Go.Ev
open Go.RowKit

section
variable {B : Nat} {S : Nat → Nat → Prop} {P : Program} {o : Oper} {a : Act} {m : M} {slot : Nat} {ρ : X → D} {d : D} {us : List (Nat × Obj)} {shF : Nat → Bool}

theorem compXs_one {args : Array Operand} {x : X} (h : compXs args.toList = some [x]) : ∃ p, args = #[p] ∧ compX p = some x := by
  obtain ⟨l⟩ := args
  simp only at h
  cases l with
  | nil => simp [compXs] at h
  | cons p l =>
    simp only [compXs, Option.bind_eq_bind, Option.bind_eq_some_iff, Option.some.injEq, List.cons.injEq] at h
    obtain ⟨y, h1, ys, h2, rfl, rfl⟩ := h
    cases l with
    | nil => exact ⟨p, rfl, h1⟩
    | cons q l =>
      simp only [compXs, Option.bind_eq_bind, Option.bind_eq_some_iff, Option.some.injEq] at h2
      obtain ⟨_, _, _, _, h⟩ := h2
      cases h

theorem compXs_two {args : Array Operand} {x y : X} (h : compXs args.toList = some [x, y]) : ∃ p q, args = #[p, q] ∧ compX p = some x ∧ compX q = some y := by
  obtain ⟨l⟩ := args
  simp only at h
  cases l with
  | nil => simp [compXs] at h
  | cons p l =>
    simp only [compXs, Option.bind_eq_bind, Option.bind_eq_some_iff, Option.some.injEq, List.cons.injEq] at h
    obtain ⟨z, h1, ys, h2, rfl, rfl⟩ := h
    obtain ⟨q, h3, h4⟩ := compXs_one (args := l.toArray) (by simpa using h2)
    have : l = [q] := by simpa using congrArg Array.toList h3
    subst this
    exact ⟨p, q, rfl, h1, h4⟩

theorem list_one {α : Type} {l : Array α} {x : α} (h : l.toList = [x]) : l = #[x] := by
  obtain ⟨l⟩ := l; simp at h; subst h; rfl
theorem list_two {α : Type} {l : Array α} {x y : α} (h : l.toList = [x, y]) : l = #[x, y] := by
  obtain ⟨l⟩ := l; simp at h; subst h; rfl

def isCall : Ins → Bool
  | .call _ _ | .callS _ _ => true
  | _ => false

theorem step_ok {ins : Ins} (hc : compOp P shF o.op = some ins) (hn : isCall ins = false) (hk : HOK B S m) (ho : Opd B S m ρ a) (hs0 : ¬ m.U slot) (hs : step ρ m.h slot ins = some (d, us)) : Does B S P o a m slot d us := by
  unfold compOp at hc
  split at hc <;> try (cases hc; done)
  all_goals simp only [Option.bind_eq_bind, Option.bind_eq_some_iff, Option.some.injEq] at hc
  case h_1 x hop => obtain ⟨X', hx, rfl⟩ := hc; exact does_mov hk ho (.inl hop) hx hs
  case h_2 x hop => obtain ⟨X', hx, rfl⟩ := hc; exact does_mov hk ho (.inr hop) hx hs
  case h_3 c x y hop => obtain ⟨C', hc', X', hx, Y', hy, rfl⟩ := hc; exact does_pick hk ho hop hc' hx hy hs
  case h_4 t hop => obtain ⟨z, hz, rfl⟩ := hc; exact does_new hk hs0 hop hz hs
  case h_5 t x hop => obtain ⟨X', hx, rfl⟩ := hc; exact does_box hk ho hs0 hop hx hs
  case h_6 t parts hop =>
    obtain ⟨fs, h1, z, h2, qs, h3, h4⟩ := hc
    split at h4
    case isFalse => cases h4
    rename_i hkn
    simp only [Option.some.injEq] at h4
    subst h4
    exact does_build hk ho hop h1 h2 h3 hkn hs
  case h_7 t len parts hop =>
    obtain ⟨e, h1, i, h2, z, h3, qs, h4, h5⟩ := hc
    split at h5
    case isFalse => cases h5
    rename_i hcc
    simp only [Option.some.injEq] at h5
    subst h5
    exact does_lits hk ho hs0 hop h1 h2 h3 h4 hcc.1 hcc.2 hs
  case h_8 t x hop => obtain ⟨agg, h1, i, h2, X', hx, rfl⟩ := hc; exact does_load hk ho hop h1 h2 hx hs
  case h_9 t x y hop => obtain ⟨i, h1, X', hx, Y', hy, rfl⟩ := hc; exact does_store hk ho hop h1 hx hy hs
  case h_10 x hop => obtain ⟨X', hx, rfl⟩ := hc; exact does_nilck hk ho hop hx hs
  case h_11 op t x y t' hop =>
    obtain ⟨X', hx, Y', hy, h1⟩ := hc
    split at h1 <;> try (cases h1; done)
    all_goals simp only [Option.some.injEq] at h1; subst h1
    · rename_i ht; exact does_bin hk ho hop (fun _ => ht) hx hy hs
    · exact does_bin hk ho hop (fun h => by cases h) hx hy hs
    · exact does_bin hk ho hop (fun h => by cases h) hx hy hs
  case h_12 op t x hop => obtain ⟨X', hx, rfl⟩ := hc; exact does_un hk ho hop hx hs
  case h_13 src dst x hop =>
    obtain ⟨X', hx, h1⟩ := hc
    split at h1
    · rename_i h2 h3; simp only [Option.some.injEq] at h1; subst h1; exact does_conv hk ho hop h2 h3 hx hs
    · rename_i e h2 h3
      split at h1
      · rename_i h4; simp only [Option.some.injEq] at h1; subst h1; exact does_toStr hk ho hop h2 h3 h4 hx hs
      · cases h1
    · cases h1
  case h_14 t x y hop =>
    obtain ⟨e, h1, i, h2, z, h3, X', hx, Y', hy, h4⟩ := hc
    split at h4
    case isFalse => cases h4
    simp only [Option.some.injEq] at h4
    subst h4
    exact does_mk hk ho hs0 hop h1 h2 h3 hx hy hs
  case h_15 t x lo hi hop =>
    obtain ⟨X', hx, Lo, hlo, Hi, hhi, h1⟩ := hc
    split at h1
    · rename_i h2; simp only [Option.some.injEq] at h1; subst h1; exact does_sls hk ho hop h2 hx hlo hhi hs
    · rename_i e h2
      simp only [Option.bind_eq_some_iff, Option.some.injEq] at h1
      obtain ⟨i, h3, rfl⟩ := h1
      exact does_slc hk ho hop h2 h3 hx hlo hhi hs
    · cases h1
  case h_16 t x f hop =>
    obtain ⟨fs, h1, fl, h2, i, h3, X', hx, h4⟩ := hc
    split at h4
    case isFalse => cases h4
    rename_i hp
    simp only [Option.some.injEq] at h4
    subst h4
    exact does_fadr hk ho hop h1 h2 h3 hp hx hs
  case h_17 t x f hop => obtain ⟨fs, h1, fl, h2, i, h3, agg, h4, X', hx, rfl⟩ := hc; exact does_fld hk ho hop h1 h2 h3 h4 hx hs
  case h_18 t x y hop => obtain ⟨e, h1, i, h2, X', hx, Y', hy, rfl⟩ := hc; exact does_iadr hk ho hop h1 h2 hx hy hs
  case h_19 t x y hop =>
    obtain ⟨X', hx, Y', hy, h1⟩ := hc
    split at h1
    · rename_i h2; simp only [Option.some.injEq] at h1; subst h1; exact does_sidx hk ho hop h2 hx hy hs
    · cases h1
  case h_20 x i hop => obtain ⟨X', hx, rfl⟩ := hc; exact does_ext hk ho hop hx hs
  case h_21 f args ts hop =>
    obtain ⟨xs, hx, rfl⟩ := hc
    split at hn <;> cases hn
  case h_22 b args ts hop =>
    obtain ⟨xs, hx, h1⟩ := hc
    split at h1
    · rename_i x t hxs hts
      obtain ⟨p, rfl, hp⟩ := compXs_one hx
      have ht := list_one hts
      subst ht
      split at h1
      · rename_i h2; simp only [Option.some.injEq] at h1; subst h1; exact does_len hk ho hop (isStr := true) h2 hp hs
      · rename_i e h2; simp only [Option.some.injEq] at h1; subst h1; exact does_len hk ho hop (isStr := false) ⟨e, h2⟩ hp hs
      · cases h1
    · rename_i x y t t' hxs hts
      obtain ⟨p, q, rfl, hp, hq⟩ := compXs_two hx
      have ht := list_two hts
      subst ht
      simp only [Option.bind_eq_some_iff] at h1
      obtain ⟨e, h2, i, h3, z, h4, h5⟩ := h1
      split at h5
      · rename_i e' h6
        split at h5
        case isFalse => cases h5
        simp only [Option.some.injEq] at h5
        subst h5
        exact does_app hk ho hs0 hop h2 h3 h4 h6 (by simp) hp hq hs
      · rename_i h6
        split at h5
        case isFalse => cases h5
        simp only [Option.some.injEq] at h5
        subst h5
        exact does_app hk ho hs0 hop h2 h3 h4 h6 (by simp) hp hq hs
      · cases h5
    · rename_i x y t t' hxs hts
      obtain ⟨p, q, rfl, hp, hq⟩ := compXs_two hx
      have ht := list_two hts
      subst ht
      simp only [Option.bind_eq_some_iff] at h1
      obtain ⟨e, h2, i, h3, h5⟩ := h1
      split at h5
      case isFalse => cases h5
      simp only [Option.some.injEq] at h5
      subst h5
      exact does_cpy hk ho hop h2 h3 hp hq hs
    · rename_i x y hxs
      obtain ⟨p, q, rfl, hp, hq⟩ := compXs_two hx
      simp only [Option.some.injEq] at h1
      subst h1
      exact does_mx hk ho hop hp hq hs
    · rename_i x y hxs
      obtain ⟨p, q, rfl, hp, hq⟩ := compXs_two hx
      simp only [Option.some.injEq] at h1
      subst h1
      exact does_mn hk ho hop hp hq hs
    · cases h1

end
end Go.Ev

namespace Go.Ev
open Go.RowKit

/-- what a call hands back -/
def RepRet (w : World) (Sf : Nat → Nat → Prop) : List V → Value → Prop
  | [r], v => RepV w Sf r v
  | rs, v => ∃ us : List Value, v = .tuple us.toArray ∧ All2 (RepV w Sf) rs us

def Callable (P : Program) (f : Nat) : Prop := ∃ fn, P.funcs[f]? = some fn ∧ fn.body.isNone = false ∧ (fn.name == "runtime.NumGoroutine") = false

/-- what is known of a function at some arguments: it returns, what it returns is rs, nothing that was there has turned -/
def FnOK (P : Program) (f : Nat) (vs rs : List V) : Prop :=
  Callable P f ∧ ∀ (S : Nat → Nat → Prop) (w : World) (us : List Value), All2 (RepV w S) vs us →
    Calls P f us.toArray w fun e w' => ∃ v, e = .returned v ∧ RepRet w' (fun b o => b < w.heap.size → S b o) rs v ∧ Below w.heap.size w w'

section
variable {B : Nat} {S : Nat → Nat → Prop} {P : Program} {o : Oper} {a : Act} {m : M} {slot : Nat} {d : D} {us : List (Nat × Obj)} {shF : Nat → Bool} {nt : Nat} {w0 : World} {e : Env}

theorem run_call {f : Nat} (hf : Callable P f) {args : Array Operand} {ts : Array TypeId} (hop : o.op = .call { callee := .value (.func f), args, argTypes := ts }) (w : World) :
    (execOp a.eval o).run P w = .ok (.enter f (args.map a.eval)) w := by
  obtain ⟨fn, h1, h2, h3⟩ := hf
  have h2' : ¬ fn.body = none := fun h => by rw [h] at h2; cases h2
  have h3' : ¬ fn.name = "runtime.NumGoroutine" := by simpa using h3
  simp [execOp, hop, resolve, Act.eval, Deferred.ofValue, invoke, callFunc, h1, h2', h3']

theorem frzVs_ok' : ∀ {ds : List D} {us : List Value} {m : M}, HOK B S m → All2 (RepD B S m) ds us → ∀ {vs : List V} {xs : List (Nat × Obj)}, frzVs m.h ds = some (vs, xs) →
    HOK B S (m.heap (updH m.h xs)) ∧ Evolves B S m (m.heap (updH m.h xs)) ∧ All2 (RepV m.w (Safe B S (m.heap (updH m.h xs)))) vs us
  | [], [], m, hk, _, cs, xs, hf => by
    simp only [frzVs, Option.some.injEq, Prod.mk.injEq] at hf
    obtain ⟨rfl, rfl⟩ := hf
    exact ⟨hk, Evolves.refl m, trivial⟩
  | d :: ds, u :: us, m, hk, hr, cs, xs, hf => by
    simp only [frzVs, Option.bind_eq_bind, Option.bind_eq_some_iff, Prod.exists, Option.some.injEq, Prod.mk.injEq] at hf
    obtain ⟨c, x, h1, cs', xs', h2, rfl, rfl⟩ := hf
    have hr1 : RepA B S m d u := by
      cases d with
      | tup ds => simp [frzV, frz] at h1
      | _ => exact hr.1
    obtain ⟨k1, k2, k3⟩ := frzV_ok hk hr1 h1
    have hr2 : All2 (RepD B S (m.heap (updH m.h x))) ds us := hr.2.mono fun _ _ h => k2.repD h
    obtain ⟨k4, k5, k6⟩ := frzVs_ok' (m := m.heap (updH m.h x)) k1 hr2 h2
    rw [updH_append]
    exact ⟨k4, k2.trans k5, RepV.mono k5.cell k3, k6⟩
  | [], _ :: _, _, _, hr, _, _, _ => hr.elim
  | _ :: _, [], _, _, hr, _, _, _ => hr.elim

theorem RepV.toD {m : M} {v : V} {u : Value} (h : RepV m.w (Safe B S m) v u) : RepA B S m v.toD u := by
  cases v with
  | one c => exact h
  | agg cs => obtain ⟨us, h1, h2⟩ := h; exact ⟨us, h1, All2.map_left h2⟩

theorem RepRet.toD {m : M} {rs : List V} {u : Value} (h : RepRet m.w (Safe B S m) rs u) : RepD B S m (retD rs) u := by
  match rs, h with
  | [r], h => exact (RepV.toD h).toD
  | [], h => obtain ⟨us, rfl, h2⟩ := h; exact ⟨us, rfl, All2.map_left (h2.mono fun v u h => RepV.toD h)⟩
  | r :: r' :: rs, h => obtain ⟨us, rfl, h2⟩ := h; exact ⟨us, rfl, All2.map_left (h2.mono fun v u h => RepV.toD h)⟩

theorem RepV.weaken {w : World} {Sf Sf' : Nat → Nat → Prop} (h : ∀ b o, Sf b o → b < w.heap.size → Sf' b o) {v : V} {u : Value} (hr : RepV w Sf v u) : RepV w Sf' v u :=
  RepV.mono (fun b o _ h1 h2 => ⟨h1, h b o h2 (cell_lt h1)⟩) hr

theorem RepRet.weaken {w : World} {Sf Sf' : Nat → Nat → Prop} (h : ∀ b o, Sf b o → b < w.heap.size → Sf' b o) {rs : List V} {u : Value} (hr : RepRet w Sf rs u) : RepRet w Sf' rs u := by
  unfold RepRet at hr ⊢
  split at hr
  · exact RepV.weaken h hr
  · obtain ⟨us, h1, h2⟩ := hr
    exact ⟨us, h1, h2.mono fun _ _ h3 => RepV.weaken h h3⟩

theorem below_mono_base {w w' : World} {k : Nat} (h : Below k w w') (hB : B ≤ k) : Below B w w' := h.mono hB

/-- what lies in new blocks, or was safe, is safe behind a call -/
theorem safe_after {m : M} (hk : HOK B S m) {w' : World} {b q : Nat} (h : b < m.w.heap.size → Safe B S m b q) : Safe B S (m.world w') b q := by
  by_cases hb : b < m.w.heap.size
  · exact h hb
  · refine ⟨fun h1 => ?_, fun id => ?_⟩
    · have := hk.base; omega
    · show match getH m.h id with | .dead => True | .box _ => m.β id ≠ b | .arr _ _ fz _ => m.β id = b → q < fz
      cases ho : getH m.h id with
      | dead => trivial
      | box ds => have := hk.lt (id := id) (by rw [ho]; simp); intro e; omega
      | arr cs esz fz ety => have := hk.lt (id := id) (by rw [ho]; simp); intro e; omega

theorem call_wp (hk : HOK B S m) {f : Nat} {args : Array Operand} {ts : Array TypeId} (hop : o.op = .call { callee := .value (.func f), args, argTypes := ts }) {ds : List D} (hd : All2 (RepD B S m) ds (args.map a.eval).toList) {vs rs : List V}
    (hf : frzVs m.h ds = some (vs, us)) (hfn : FnOK P f vs rs) {K : Act → World → Prop} {Q : Exit → Act → World → Prop} (hK : ∀ v w', Post B S m slot us (retD rs) v w' → K (a.put o.dst v) w') : o.wp P a m.w K Q := by
  obtain ⟨k1, k2, k3⟩ := frzVs_ok' hk hd hf
  unfold Oper.wp
  rw [run_call hfn.1 hop]
  show Calls P f (args.map a.eval) m.w _
  have hc := hfn.2 _ m.w _ k3
  have he : (args.map a.eval).toList.toArray = args.map a.eval := Array.toArray_toList
  rw [he] at hc
  refine hc.mono fun e w' ⟨v, hv, h1, h2⟩ => ?_
  subst hv
  refine hK v w' ⟨m.β, ?_⟩
  have hb : ∀ k, k < m.w.heap.size → w'.heap[k]? = m.w.heap[k]? := h2.block
  have ev2 := world_evolves k1 (w' := w') hb
  have hk2 := world_hok k1 (w' := w') hb h2.size
  refine ⟨grow_hok hk2 slot, (k2.trans ev2).trans (grow_evolves _ slot), ?_, h2.mono hk.base⟩
  refine (grow_evolves ((m.heap (updH m.h us)).world w') slot).repD (RepRet.toD ?_)
  exact RepRet.weaken (fun b q h _ => safe_after k1 h) h1

/-- what holds of a frame and a memory -/
structure Rel (B : Nat) (S : Nat → Nat → Prop) (w0 : World) (nt : Nat) (m : M) (e : Env) (a : Act) : Prop where
  defers : a.defers = []
  size : a.tmps.size = nt
  env : ∀ t, RepD B S m (getE e t) (a.tmps.getD t undef)
  hok : HOK B S m
  below : Below B w0 m.w

theorem Rel.opd (hr : Rel B S w0 nt m e a) : Opd B S m (evX e) a := by
  intro x X' hx
  cases x with
  | tmp t => simp [compX] at hx; subst hx; exact hr.env t
  | const v =>
    simp only [compX] at hx
    split at hx
    · rename_i hs
      simp only [Option.some.injEq] at hx
      subst hx
      simp only [evX, hs, if_true]
      exact RepD.mkLit hs
    · cases hx
  | global g => simp [compX] at hx
  | func f => simp [compX] at hx

theorem getE_putE (e : Env) (dst : Option Nat) (d : D) (t : Nat) : getE (putE e dst d) t = if dst = some t then d else getE e t := by
  cases dst with
  | none => simp [putE]
  | some t' =>
    simp only [putE, getE, Option.some.injEq]

theorem Rel.put (hr : Rel B S w0 nt m e a) {dst : Option Nat} (hd : dstOk nt dst = true) {d : D} {v : Value} (h : RepD B S m d v) : Rel B S w0 nt m (putE e dst d) (a.put dst v) := by
  cases dst with
  | none => exact hr
  | some t' =>
    have hlt : t' < nt := by simpa [dstOk] using hd
    refine ⟨hr.defers, by simpa [Act.put] using hr.size, fun t => ?_, hr.hok, hr.below⟩
    rw [getE_putE]
    by_cases ht : t' = t
    · subst ht
      have : (a.put (some t') v).tmps.getD t' undef = v := by simp [Act.put, hr.size, hlt]
      simp only [if_true, this]
      exact h
    · have : (a.put (some t') v).tmps.getD t undef = a.tmps.getD t undef := by simp [Act.put, Array.getElem?_setIfInBounds_ne ht]
      rw [this, if_neg (by simpa using ht)]
      exact hr.env t

theorem Rel.evolve (hr : Rel B S w0 nt m e a) {m' : M} (hev : Evolves B S m m') (hk : HOK B S m') (hb : Below B m.w m'.w) : Rel B S w0 nt m' e a :=
  ⟨hr.defers, hr.size, fun t => hev.repD (hr.env t), hk, hr.below.trans hb⟩

theorem compInst_parts {ops : Array Oper} {i : Inst} (h : compInst P shF nt ops o = some i) :
    compOp P shF o.op = some i.ins ∧ i.dst = o.dst ∧ dstOk nt o.dst = true ∧
    (o.guard = none ∧ i.guard = none ∨ ∃ j want g t, o.guard = some (j, want) ∧ ops[j]? = some g ∧ g.dst = some t ∧ i.guard = some (t, want)) := by
  unfold compInst at h
  simp only [Option.bind_eq_bind, Option.bind_eq_some_iff] at h
  obtain ⟨ins, h1, h2⟩ := h
  split at h2
  · cases h2
  · rename_i hd
    have hd' : dstOk nt o.dst = true := by simpa using hd
    split at h2
    · rename_i hg
      simp only [Option.some.injEq] at h2
      subst h2
      exact ⟨h1, rfl, hd', .inl ⟨hg, rfl⟩⟩
    · rename_i j want hg
      simp only [Option.bind_eq_some_iff, Option.some.injEq] at h2
      obtain ⟨g, h3, t, h4, rfl⟩ := h2
      exact ⟨h1, rfl, hd', .inr ⟨j, want, g, t, hg, h3, h4, rfl⟩⟩

theorem wanted_ok (hr : Rel B S w0 nt m e a) {ops : Array Oper} {i : Inst} (h : compInst P shF nt ops o = some i) {b : Bool} (hw : wanted e i.guard = some b) : Region.wanted o (yielded ops a.tmps) = b := by
  obtain ⟨_, _, _, h4⟩ := compInst_parts h
  rcases h4 with ⟨h5, h6⟩ | ⟨j, want, g, t, h5, h6, h7, h8⟩
  · rw [h6] at hw
    simp only [wanted, Option.some.injEq] at hw
    subst hw
    simp [Region.wanted, h5]
  · rw [h8] at hw
    simp only [wanted] at hw
    have henv := hr.env t
    split at hw
    · rename_i q hq
      simp only [Option.some.injEq] at hw
      rw [hq] at henv
      have hv := henv.lit
      have ht : a.tmps[t]? = some (.bool q) := by
        cases ht : a.tmps[t]? with
        | none => simp [ht, undef] at hv
        | some x => simp [ht] at hv; rw [hv]
      simp [Region.wanted, h5, yielded, h6, h7, ht]
      rw [← hw]
    · rename_i hq
      simp only [Option.some.injEq] at hw
      subst hw
      rw [hq] at henv
      obtain ⟨us, hu, h9⟩ := henv
      cases us with
      | cons _ _ => exact h9.elim
      | nil =>
        have : yielded ops a.tmps j = none := by
          simp only [yielded, h6, h7, Option.bind_some]
          cases ht : a.tmps[t]? with
          | none => rfl
          | some x => simp [ht] at hu; subst hu; rfl
        simp [Region.wanted, h5, this]
    · cases hw

theorem compXs_all (hr : Rel B S w0 nt m e a) : ∀ {os : List Operand} {xs : List X}, compXs os = some xs → All2 (RepD B S m) (xs.map (evX e)) (os.map a.eval)
  | [], xs, h => by simp [compXs] at h; subst h; trivial
  | x :: os, xs, h => by
    simp only [compXs, Option.bind_eq_bind, Option.bind_eq_some_iff, Option.some.injEq] at h
    obtain ⟨y, h1, ys, h2, rfl⟩ := h
    exact ⟨hr.opd x y h1, compXs_all hr h2⟩

theorem compOp_call {f : Nat} {xs : List X} (h : compOp P shF o.op = some (.call f xs)) : ∃ args ts, o.op = .call { callee := .value (.func f), args, argTypes := ts } ∧ compXs args.toList = some xs := by
  unfold compOp at h
  split at h <;> try (cases h; done)
  all_goals simp only [Option.bind_eq_bind, Option.bind_eq_some_iff, Option.some.injEq] at h
  case h_21 f' args ts hop =>
    obtain ⟨ys, h1, h2⟩ := h
    split at h2
    · cases h2
    · simp only [Ins.call.injEq] at h2
      obtain ⟨rfl, rfl⟩ := h2
      exact ⟨args, ts, hop, h1⟩
  all_goals (exfalso; revert h)
  case h_22 b args ts hop =>
    rintro ⟨ys, h1, h2⟩
    split at h2 <;> try (cases h2; done)
    · split at h2 <;> simp at h2
    · simp only [Option.bind_eq_some_iff] at h2
      obtain ⟨_, _, _, _, _, _, h2⟩ := h2
      split at h2
      · split at h2 <;> simp at h2
      · split at h2 <;> simp at h2
      · simp at h2
    · simp only [Option.bind_eq_some_iff] at h2
      obtain ⟨_, _, _, _, h2⟩ := h2
      split at h2 <;> simp at h2
  case h_11 => rintro ⟨_, _, _, _, h⟩; split at h <;> simp at h
  case h_13 => rintro ⟨_, _, h⟩; split at h <;> first | (simp at h; done) | (split at h <;> simp at h)
  case h_15 => rintro ⟨_, _, _, _, _, _, h⟩; split at h <;> first | (simp at h; done) | (simp only [Option.bind_eq_some_iff] at h; obtain ⟨_, _, h⟩ := h; simp at h)
  case h_19 => rintro ⟨_, _, _, _, h⟩; split at h <;> simp at h
  all_goals (intro h; simp at h)

/-- one instruction that is carried out -/
theorem inst_wp {ops : Array Oper} {i : Inst} (h : compInst P shF nt ops o = some i) (hns : ∀ f xs, i.ins ≠ .callS f xs) (hr : Rel B S w0 nt m e a) (hs : ¬ m.U slot) {call : Callee} (hcall : ∀ f vs rs, call f vs = some rs → FnOK P f vs rs)
    (hst : stepC call (evX e) m.h slot i.ins = some (d, us)) {K : Act → World → Prop} {Q : Exit → Act → World → Prop}
    (hK : ∀ (a' : Act) (m' : M), m'.h = updH m.h us → m'.U = (fun i => m.U i ∨ i = slot) → Evolves B S m m' → Rel B S w0 nt m' (putE e i.dst d) a' → K a' m'.w) : o.wp P a m.w K Q := by
  obtain ⟨h1, h2, h3, _⟩ := compInst_parts h
  have fin : ∀ v w', Post B S m slot us d v w' → K (a.put o.dst v) w' := by
    rintro v w' ⟨β', p1, p2, p3, p4⟩
    have := (hr.evolve p2 p1 p4).put h3 p3
    rw [h2] at hK
    exact hK _ _ rfl rfl p2 this
  cases hins : i.ins with
  | callS f xs => exact absurd hins (hns f xs)
  | call f xs =>
    rw [hins] at hst h1
    simp only [stepC, Option.bind_eq_bind, Option.bind_eq_some_iff, Prod.exists, Option.some.injEq, Prod.mk.injEq] at hst
    obtain ⟨vs, us', h5, rs, h6, rfl, rfl⟩ := hst
    obtain ⟨args, ts, hop, h7⟩ := compOp_call h1
    have hall := compXs_all hr h7
    exact call_wp hr.hok hop (by simpa using hall) h5 (hcall _ _ _ h6) fin
  | _ =>
    rw [hins] at hst h1
    obtain ⟨n, v, w', h5, h6, h7⟩ := step_ok h1 rfl hr.hok hr.opd hs hst
    unfold Oper.wp
    rw [h5]
    rcases h6 with rfl | ⟨rfl, rfl⟩
    · exact fin v w' h7
    · exact fin undef w' h7

end
end Go.Ev

namespace Go.Ev
open Go.RowKit

def UIs (m : M) (nx : Nat) : Prop := ∀ i, m.U i ↔ i < nx

/-- what is known of a shared call -/
def ShOK (B : Nat) (S : Nat → Nat → Prop) (P : Program) (f : Nat) (ds : List D) (h : Heap) (nx : Nat) (ds' : List D) (h' : Heap) (nx' : Nat) : Prop :=
  Callable P f ∧ ∀ (m : M) (us : List Value), m.h = h → UIs m nx → HOK B S m → All2 (RepD B S m) ds us →
    Calls P f us.toArray m.w fun e w' => ∃ (v : Value) (m' : M), e = .returned v ∧ m'.w = w' ∧ m'.h = h' ∧ UIs m' nx' ∧ HOK B S m' ∧ Evolves B S m m' ∧ RepD B S m' (tupD ds') v ∧ Below B m.w m'.w

section
variable {B : Nat} {S : Nat → Nat → Prop} {P : Program} {o : Oper} {a : Act} {m : M} {shF : Nat → Bool} {nt : Nat} {w0 : World} {call : Callee} {shared : Nat → List D → Heap → Nat → Option (List D × Heap × Nat)}

theorem compOp_callS {f : Nat} {xs : List X} (h : compOp P shF o.op = some (.callS f xs)) : ∃ args ts, o.op = .call { callee := .value (.func f), args, argTypes := ts } ∧ compXs args.toList = some xs := by
  unfold compOp at h
  split at h <;> try (cases h; done)
  all_goals simp only [Option.bind_eq_bind, Option.bind_eq_some_iff, Option.some.injEq] at h
  case h_21 f' args ts hop =>
    obtain ⟨ys, h1, h2⟩ := h
    split at h2
    · simp only [Ins.callS.injEq] at h2
      obtain ⟨rfl, rfl⟩ := h2
      exact ⟨args, ts, hop, h1⟩
    · cases h2
  all_goals (exfalso; revert h)
  case h_22 b args ts hop =>
    rintro ⟨ys, h1, h2⟩
    split at h2 <;> try (cases h2; done)
    · split at h2 <;> simp at h2
    · simp only [Option.bind_eq_some_iff] at h2
      obtain ⟨_, _, _, _, _, _, h2⟩ := h2
      split at h2
      · split at h2 <;> simp at h2
      · split at h2 <;> simp at h2
      · simp at h2
    · simp only [Option.bind_eq_some_iff] at h2
      obtain ⟨_, _, _, _, h2⟩ := h2
      split at h2 <;> simp at h2
  case h_11 => rintro ⟨_, _, _, _, h⟩; split at h <;> simp at h
  case h_13 => rintro ⟨_, _, h⟩; split at h <;> first | (simp at h; done) | (split at h <;> simp at h)
  case h_15 => rintro ⟨_, _, _, _, _, _, h⟩; split at h <;> first | (simp at h; done) | (simp only [Option.bind_eq_some_iff] at h; obtain ⟨_, _, h⟩ := h; simp at h)
  case h_19 => rintro ⟨_, _, _, _, h⟩; split at h <;> simp at h
  all_goals (intro h; simp at h)

theorem seq_ok {ops : Array Oper} {Q : Exit → Act → World → Prop} (hcall : ∀ f vs rs, call f vs = some rs → FnOK P f vs rs)
    (hsh : ∀ f ds h nx ds' h' nx', shared f ds h nx = some (ds', h', nx') → ShOK B S P f ds h nx ds' h' nx') :
    ∀ (l : List Oper) (is : List Inst), compInsts P shF nt ops l = some is → ∀ (s s' : St) (m : M) (a : Act), m.h = s.heap → UIs m s.nx → Rel B S w0 nt m s.env a → evSeq call shared is s = some s' →
      (∀ (a' : Act) (m' : M), m'.h = s'.heap → UIs m' s'.nx → s'.sh = s.sh → Evolves B S m m' → Rel B S w0 nt m' s'.env a' → Q .normal a' m'.w) → wpList P ops Q l a m.w
  | [], is, hc, s, s', m, a, hh, hU, hr, hev, hK => by
    simp only [compInsts, Option.some.injEq] at hc
    subst hc
    simp only [evSeq, Option.some.injEq] at hev
    subst hev
    exact wpList_nil (hK a m hh hU rfl (Evolves.refl m) hr)
  | o :: l, is, hc, s, s', m, a, hh, hU, hr, hev, hK => by
    simp only [compInsts, Option.bind_eq_bind, Option.bind_eq_some_iff, Option.some.injEq] at hc
    obtain ⟨i, hc1, is', hc2, rfl⟩ := hc
    simp only [evSeq, Option.bind_eq_bind, Option.bind_eq_some_iff] at hev
    obtain ⟨b, hw, hev⟩ := hev
    have hwant := wanted_ok hr hc1 hw
    obtain ⟨p1, p2, p3, _⟩ := compInst_parts hc1
    unfold wpList
    rw [hwant]
    cases b with
    | false =>
      simp only [if_false, Bool.false_eq_true] at hev ⊢
      have hr2 : Rel B S w0 nt m (putE s.env i.dst undefD) (a.put o.dst undef) := by
        rw [p2]; exact hr.put p3 ⟨[], rfl, trivial⟩
      exact seq_ok hcall hsh l is' hc2 ⟨putE s.env i.dst undefD, s.heap, s.nx, s.sh⟩ s' m _ hh hU hr2 hev hK
    | true =>
      simp only [if_true] at hev ⊢
      refine .inl ?_
      have other : (∀ f xs, i.ins ≠ .callS f xs) → (do let (d, us) ← stepC call (evX s.env) s.heap s.nx i.ins; evSeq call shared is' ⟨putE s.env i.dst d, updH s.heap us, s.nx + 1, s.sh⟩) = some s' → o.wp P a m.w (wpList P ops Q l) Q := by
        intro hns hev
        simp only [Option.bind_eq_bind, Option.bind_eq_some_iff, Prod.exists] at hev
        obtain ⟨d, us, h1, h2⟩ := hev
        refine inst_wp hc1 hns hr (slot := s.nx) (by rw [hU]; omega) hcall (by rw [hh]; exact h1) fun a' m' q1 q2 q3 q4 => ?_
        refine seq_ok hcall hsh l is' hc2 ⟨putE s.env i.dst d, updH s.heap us, s.nx + 1, s.sh⟩ s' m' a' (by rw [q1, hh]) (fun j => ?_) q4 h2 fun a'' m'' r1 r2 r3 r4 r5 => hK a'' m'' r1 r2 r3 (q3.trans r4) r5
        rw [q2]
        show m.U j ∨ j = s.nx ↔ j < s.nx + 1
        rw [hU]
        omega
      cases hins : i.ins with
      | callS f xs =>
        rw [hins] at hev p1
        simp only [Option.bind_eq_some_iff, Prod.exists] at hev
        obtain ⟨ds', h', nx', h1, h2⟩ := hev
        obtain ⟨args, ts, hop, h7⟩ := compOp_callS p1
        have hall := compXs_all hr h7
        obtain ⟨hcal, hs2⟩ := hsh _ _ _ _ _ _ _ h1
        have hc := hs2 m (args.map a.eval).toList hh hU hr.hok (by simpa using hall)
        rw [Array.toArray_toList] at hc
        unfold Oper.wp
        rw [run_call hcal hop]
        show Calls P f (args.map a.eval) m.w _
        refine hc.mono fun e w' ⟨v, m', q0, q1, q2, q3, q4, q5, q6, q7⟩ => ?_
        subst q0 q1
        have hr2 : Rel B S w0 nt m' (putE s.env i.dst (tupD ds')) (a.put o.dst v) := by
          rw [p2]; exact (hr.evolve q5 q4 q7).put p3 q6
        exact seq_ok hcall hsh l is' hc2 ⟨putE s.env i.dst (tupD ds'), h', nx', s.sh⟩ s' m' _ q2 q3 hr2 h2 fun a'' m'' r1 r2 r3 r4 r5 => hK a'' m'' r1 r2 r3 (q5.trans r4) r5
      | _ => exact other (fun f xs h => by rw [hins] at h; cases h) (by rw [hins] at hev ⊢; exact hev)
end
end Go.Ev

namespace Go.Ev

def Agree (L : List Nat) (h h' : Heap) : Prop := ∀ id, id ∈ L → getH h id = getH h' id

theorem Agree.mono {L L' : List Nat} {h h' : Heap} (hh : Agree L h h') (hs : ∀ id, id ∈ L' → id ∈ L) : Agree L' h h' := fun id hi => hh id (hs id hi)

theorem Agree.upd {L : List Nat} : ∀ (us : List (Nat × Obj)) {h h' : Heap}, Agree L h h' → Agree L (updH h us) (updH h' us)
  | [], _, _, hh => hh
  | u :: us, h, h', hh => by
    refine Agree.upd us (h := u :: h) (h' := u :: h') fun id hi => ?_
    obtain ⟨i, o⟩ := u
    simp only [getH]
    rw [hh id hi]

variable {h h' : Heap}

theorem loadD_congr {agg : Bool} {size : Nat} {d : D} (hh : Agree (match d with | .loc id _ => [id] | _ => []) h h') : loadD h agg size d = loadD h' agg size d := by
  cases d with
  | loc id off => simp only [loadD, hh id (by simp)]
  | _ => rfl

theorem frz_congr {d : D} (hh : Agree (frzIds d) h h') : frz h d = frz h' d := by
  cases d with
  | arr id off len => simp only [frz, hh id (by simp [frzIds])]
  | _ => rfl

def arrIds : List D → List Nat
  | [] => []
  | .arr id _ _ :: ds => id :: arrIds ds
  | _ :: ds => arrIds ds

theorem arrIds_flat (ds : List D) : arrIds ds = ds.flatMap fun | .arr id _ _ => [id] | _ => [] := by
  induction ds with
  | nil => rfl
  | cons d ds ih => cases d <;> simp [arrIds, ih]

theorem arrIds_append (xs ys : List D) : arrIds (xs ++ ys) = arrIds xs ++ arrIds ys := by rw [arrIds_flat, arrIds_flat, arrIds_flat, List.flatMap_append]

theorem mem_arrIds {ds : List D} {id : Nat} : id ∈ arrIds ds ↔ ∃ off len, D.arr id off len ∈ ds := by
  induction ds with
  | nil => simp [arrIds]
  | cons d ds ih =>
    cases d with
    | arr i o l =>
      simp only [arrIds, List.mem_cons, ih]
      constructor
      · rintro (rfl | ⟨off, len, h⟩)
        · exact ⟨o, l, .inl rfl⟩
        · exact ⟨off, len, .inr h⟩
      · rintro ⟨off, len, h | h⟩
        · injection h with h1 _ _; exact .inl h1
        · exact .inr ⟨off, len, h⟩
    | _ => simp [arrIds, ih]

theorem frzL_congr : ∀ {ds : List D} {h h' : Heap}, Agree (arrIds ds) h h' → frzL h ds = frzL h' ds
  | [], _, _, _ => rfl
  | d :: ds, h, h', hh => by
    have h1 : frz h d = frz h' d := by
      cases d with
      | arr id off len => exact frz_congr fun i hi => hh i (by simp only [frzIds, List.mem_singleton] at hi; simp [arrIds, hi])
      | _ => rfl
    simp only [frzL, h1]
    cases hf : frz h' d with
    | none => rfl
    | some p =>
      obtain ⟨c, u⟩ := p
      have h2 : frzL (updH h u) ds = frzL (updH h' u) ds := frzL_congr (Agree.upd u (hh.mono fun id hi => by cases d <;> simp [arrIds] <;> first | exact hi | exact .inr hi))
      simp only [Option.bind_eq_bind, Option.bind_some, h2]

theorem frzV_congr {d : D} (hh : Agree (frzIds d) h h') : frzV h d = frzV h' d := by
  cases d with
  | agg ds =>
    have : frzL h ds = frzL h' ds := frzL_congr (hh.mono fun id hi => by rw [arrIds_flat] at hi; exact hi)
    simp only [frzV, this]
  | _ => simp only [frzV, frz_congr hh]

theorem frzVs_congr : ∀ {ds : List D} {h h' : Heap}, Agree (ds.flatMap frzIds) h h' → frzVs h ds = frzVs h' ds
  | [], _, _, _ => rfl
  | d :: ds, h, h', hh => by
    have h1 : frzV h d = frzV h' d := frzV_congr (hh.mono fun id hi => by simp [hi])
    simp only [frzVs, h1]
    cases hf : frzV h' d with
    | none => rfl
    | some p =>
      obtain ⟨c, u⟩ := p
      have h2 : frzVs (updH h u) ds = frzVs (updH h' u) ds := frzVs_congr (Agree.upd u (hh.mono fun id hi => by rw [List.flatMap_cons]; exact List.mem_append_right _ hi))
      simp only [Option.bind_eq_bind, Option.bind_some, h2]

theorem srcOf_congr {esz : Nat} {d : D} (hh : Agree (frzIds d) h h') : srcOf h esz d = srcOf h' esz d := by
  cases d with
  | arr id off len => simp only [srcOf, hh id (by simp [frzIds])]
  | c x => unfold srcOf; split <;> simp_all
  | _ => rfl

theorem srcB_congr {d : D} (hh : Agree (frzIds d) h h') : srcB h d = srcB h' d := by
  unfold srcB
  split
  · rfl
  · exact srcOf_congr hh

theorem slcD_congr {esz : Nat} {lo hi : Option D} {d : D} (hh : Agree (frzIds d) h h') : slcD h esz lo hi d = slcD h' esz lo hi d := by
  cases d with
  | arr id off len => simp only [slcD, hh id (by simp [frzIds])]
  | c x => unfold slcD; split <;> simp_all
  | _ => rfl

theorem iadrD_congr {esz : Nat} {i : D} {d : D} (hh : Agree (frzIds d) h h') : iadrD h esz i d = iadrD h' esz i d := by
  cases d with
  | arr id off len => simp only [iadrD, hh id (by simp [frzIds])]
  | c x => unfold iadrD; split <;> simp_all
  | _ => rfl

theorem appD_congr {slot esz ety bytes : Nat} {y d : D} (hh : Agree (frzIds d ++ frzIds y) h h') : appD h slot esz ety bytes y d = appD h' slot esz ety bytes y d := by
  have hs : srcOf h esz y = srcOf h' esz y := srcOf_congr (hh.mono fun id hi => by simp [hi])
  cases d with
  | arr id off len => simp only [appD, hh id (by simp [frzIds]), hs]
  | c x => unfold appD; split <;> simp_all
  | _ => rfl

theorem cpyD_congr {esz : Nat} {y d : D} (hh : Agree (frzIds d ++ frzIds y) h h') : cpyD h esz y d = cpyD h' esz y d := by
  have hs : srcOf h esz y = srcOf h' esz y := srcOf_congr (hh.mono fun id hi => by simp [hi])
  cases d with
  | arr id off len => simp only [cpyD, hh id (by simp [frzIds]), hs]
  | _ => rfl

theorem storeD_congr {size : Nat} {v d : D} (hh : Agree ((match d with | .loc id _ => [id] | _ => []) ++ frzIds v) h h') : storeD h size v d = storeD h' size v d := by
  have hs : frzV h v = frzV h' v := frzV_congr (hh.mono fun id hi => by simp [hi])
  cases d with
  | loc id off =>
    have h1 := hh id (by simp)
    simp only [storeD, h1, hs]
    cases getH h' id with
    | arr cs esz fz ety =>
      cases hf : frzV h' v with
      | none => rfl
      | some p =>
        obtain ⟨x, us⟩ := p
        simp only [Option.bind_eq_bind, Option.bind_some]
        rw [Agree.upd us hh id (by simp)]
    | _ => rfl
  | _ => rfl

theorem fillP_congr {ρ ρ' : X → D} : ∀ {ps : List (Nat × Nat × X)} {cs : List D}, (∀ p, p ∈ ps → ρ p.2.2 = ρ' p.2.2) → fillP ρ cs ps = fillP ρ' cs ps
  | [], _, _ => rfl
  | (off, size, x) :: ps, cs, hp => by
    have h1 : ρ x = ρ' x := hp (off, size, x) (by simp)
    simp only [fillP, h1]
    cases cellsD (ρ' x) with
    | none => rfl
    | some ds =>
      simp only [Option.bind_eq_bind, Option.bind_some]
      rw [fillP_congr (fun p h => hp p (by simp [h]))]

theorem cellsD_ids {d : D} {ds : List D} (h : cellsD d = some ds) : ∀ id, id ∈ arrIds ds → id ∈ frzIds d := by
  intro id hi
  unfold cellsD at h
  split at h
  · rename_i ds'
    split at h
    · simp only [Option.some.injEq] at h
      subst h
      rw [arrIds_flat] at hi
      exact hi
    · cases h
  · split at h
    · simp only [Option.some.injEq] at h
      subst h
      cases d <;> simp [arrIds] at hi
      simp [frzIds, hi]
    · cases h

theorem fillP_ids {ρ : X → D} : ∀ {ps : List (Nat × Nat × X)} {cs ds : List D}, fillP ρ cs ps = some ds → ∀ id, id ∈ arrIds ds → id ∈ arrIds cs ∨ id ∈ ps.flatMap fun p => frzIds (ρ p.2.2)
  | [], cs, ds, h, id, hi => by simp only [fillP, Option.some.injEq] at h; subst h; exact .inl hi
  | (off, size, x) :: ps, cs, ds, h, id, hi => by
    simp only [fillP, Option.bind_eq_bind, Option.bind_eq_some_iff] at h
    obtain ⟨xs, h1, h2⟩ := h
    split at h2
    case isFalse => cases h2
    rcases fillP_ids h2 id hi with h3 | h3
    · rw [mem_arrIds] at h3
      obtain ⟨o, l, h4⟩ := h3
      unfold splice at h4
      simp only [List.mem_append] at h4
      rcases h4 with (h4 | h4) | h4
      · exact .inl (mem_arrIds.2 ⟨o, l, List.mem_of_mem_take h4⟩)
      · refine .inr ?_
        rw [List.flatMap_cons]
        exact List.mem_append_left _ (cellsD_ids h1 id (mem_arrIds.2 ⟨o, l, h4⟩))
      · exact .inl (mem_arrIds.2 ⟨o, l, List.mem_of_mem_drop h4⟩)
    · refine .inr ?_
      rw [List.flatMap_cons]
      exact List.mem_append_right _ h3

theorem arrIds_c (cs : List C) : arrIds (cs.map D.c) = [] := by
  induction cs with
  | nil => rfl
  | cons c cs ih => simpa [arrIds] using ih

theorem stepC_congr {call : Callee} {ρ ρ' : X → D} {slot : Nat} {ins : Ins} (hx : ∀ x, x ∈ opX ins → ρ x = ρ' x) (hh : Agree (touches ρ ins) h h') : stepC call ρ h slot ins = stepC call ρ' h' slot ins := by
  cases ins with
  | mov x => simp only [stepC, step, hx x (by simp [opX])]
  | pick c a b => simp only [stepC, step, hx c (by simp [opX]), hx a (by simp [opX]), hx b (by simp [opX])]
  | alloc z => rfl
  | box x => simp only [stepC, step, hx x (by simp [opX])]
  | build z ps =>
    have : ∀ cs, fillP ρ cs ps = fillP ρ' cs ps := fun cs => fillP_congr fun p hp => hx _ (by simp only [opX]; exact List.mem_map.2 ⟨p, hp, rfl⟩)
    simp only [stepC, step, this]
  | lits a b c z ps =>
    have h1 : ∀ cs, fillP ρ cs ps = fillP ρ' cs ps := fun cs => fillP_congr fun p hp => hx _ (by simp only [opX]; exact List.mem_map.2 ⟨p, hp, rfl⟩)
    simp only [stepC, step, ← h1]
    cases hf : fillP ρ ((zeros z c).map .c) ps with
    | none => rfl
    | some ds =>
      have h2 : frzL h ds = frzL h' ds := frzL_congr (hh.mono fun id hi => by
        rcases fillP_ids hf id hi with h3 | h3
        · rw [arrIds_c] at h3; cases h3
        · exact h3)
      simp only [Option.bind_eq_bind, Option.bind_some, h2]
  | load agg size x =>
    have h1 := hx x (by simp [opX])
    have : loadD h agg size (ρ x) = loadD h' agg size (ρ x) := loadD_congr hh
    rw [h1] at this
    simp only [stepC, step, this, h1]
  | store size x y =>
    have h1 := hx x (by simp [opX])
    have h2 := hx y (by simp [opX])
    have : storeD h size (ρ y) (ρ x) = storeD h' size (ρ y) (ρ x) := storeD_congr hh
    rw [h1, h2] at this
    simp only [stepC, step, this, h1, h2]
  | nilck x => simp only [stepC, step, hx x (by simp [opX])]
  | bin op b x y => simp only [stepC, step, hx x (by simp [opX]), hx y (by simp [opX])]
  | un op x => simp only [stepC, step, hx x (by simp [opX])]
  | conv k x => simp only [stepC, step, hx x (by simp [opX])]
  | toStr x =>
    have h1 := hx x (by simp [opX])
    have : srcB h (ρ x) = srcB h' (ρ x) := srcB_congr hh
    rw [h1] at this
    simp only [stepC, step, this, h1]
  | mk a b c z l m => simp only [stepC, step, hx l (by simp [opX]), hx m (by simp [opX])]
  | slc esz x lo hi =>
    have h1 := hx x (by simp [opX])
    have hl : lo.map ρ = lo.map ρ' := by cases lo with | none => rfl | some y => simp [hx y (by simp [opX])]
    have hr : hi.map ρ = hi.map ρ' := by cases hi with | none => rfl | some y => simp [hx y (by simp [opX])]
    have : slcD h esz (lo.map ρ) (hi.map ρ) (ρ x) = slcD h' esz (lo.map ρ) (hi.map ρ) (ρ x) := slcD_congr hh
    rw [h1, hl, hr] at this
    simp only [stepC, step, this, h1, hl, hr]
  | sls x lo hi =>
    have h1 := hx x (by simp [opX])
    have hl : lo.map ρ = lo.map ρ' := by cases lo with | none => rfl | some y => simp [hx y (by simp [opX])]
    have hr : hi.map ρ = hi.map ρ' := by cases hi with | none => rfl | some y => simp [hx y (by simp [opX])]
    simp only [stepC, step, h1, hl, hr]
  | fadr o x => simp only [stepC, step, hx x (by simp [opX])]
  | fld o a s x => simp only [stepC, step, hx x (by simp [opX])]
  | iadr esz x i =>
    have h1 := hx x (by simp [opX])
    have h2 := hx i (by simp [opX])
    have : iadrD h esz (ρ i) (ρ x) = iadrD h' esz (ρ i) (ρ x) := iadrD_congr hh
    rw [h1, h2] at this
    simp only [stepC, step, this, h1, h2]
  | sidx x i => simp only [stepC, step, hx x (by simp [opX]), hx i (by simp [opX])]
  | ext x i => simp only [stepC, step, hx x (by simp [opX])]
  | len b x => simp only [stepC, step, hx x (by simp [opX])]
  | app a b c x y =>
    have h1 := hx x (by simp [opX])
    have h2 := hx y (by simp [opX])
    have : appD h slot a b c (ρ y) (ρ x) = appD h' slot a b c (ρ y) (ρ x) := appD_congr hh
    rw [h1, h2] at this
    simp only [stepC, step, this, h1, h2]
  | cpy esz x y =>
    have h1 := hx x (by simp [opX])
    have h2 := hx y (by simp [opX])
    have : cpyD h esz (ρ y) (ρ x) = cpyD h' esz (ρ y) (ρ x) := cpyD_congr hh
    rw [h1, h2] at this
    simp only [stepC, step, this, h1, h2]
  | mx x y => simp only [stepC, step, hx x (by simp [opX]), hx y (by simp [opX])]
  | mn x y => simp only [stepC, step, hx x (by simp [opX]), hx y (by simp [opX])]
  | call f xs =>
    have h1 : xs.map ρ = xs.map ρ' := List.map_congr_left fun x hxx => hx x (by simpa [opX] using hxx)
    have h2 : frzVs h (xs.map ρ) = frzVs h' (xs.map ρ) := frzVs_congr (hh.mono fun id hi => by simpa [touches, List.flatMap_map] using hi)
    rw [h1] at h2
    simp only [stepC, h2, h1]
  | callS f xs => rfl

end Go.Ev

namespace Go.Ev
open Go.RowKit

structure Eff where
  dst : Option Nat
  d : D
  us : List (Nat × Obj)
  tr : Trace

def gtOf (g : Option (Nat × Bool)) : List Nat := match g with | some (t, _) => [t] | none => []

def Did (call : Callee) (nx k : Nat) (i : Inst) (e : Env) (h : Heap) (f : Eff) : Prop :=
  f.dst = i.dst ∧
  ((wanted e i.guard = some true ∧ stepC call (evX e) h (nx + k) i.ins = some (f.d, f.us) ∧ f.tr = ⟨gtOf i.guard ++ tmpsX (opX i.ins), i.dst.toList, touches (evX e) i.ins, f.us.map (·.1)⟩) ∨
   (wanted e i.guard = some false ∧ f.d = undefD ∧ f.us = [] ∧ f.tr = ⟨gtOf i.guard, i.dst.toList, [], []⟩))

def Ran (call : Callee) (nx : Nat) : Nat → List Inst → Env → Heap → List Eff → Prop
  | _, [], _, _, [] => True
  | k, i :: is, e, h, f :: fs => Did call nx k i e h f ∧ Ran call nx (k + 1) is (putE e f.dst f.d) (updH h f.us) fs
  | _, _, _, _, _ => False

def runE (L : Nat → Bool) : Nat → List Eff → Env → Env
  | _, [], e => e
  | k, f :: fs, e => runE L (k + 1) fs (if L k then putE e f.dst f.d else e)

def runH (L : Nat → Bool) : Nat → List Eff → Heap → Heap
  | _, [], h => h
  | k, f :: fs, h => runH L (k + 1) fs (if L k then updH h f.us else h)

theorem ran_of {call : Callee} {nx : Nat} : ∀ {is : List Inst} {k : Nat} {e : Env} {h : Heap} {e' : Env} {h' : Heap} {ts : List Trace}, evDraw call nx k is e h = some (e', h', ts) →
    ∃ fs, Ran call nx k is e h fs ∧ ts = fs.map (·.tr) ∧ e' = runE (fun _ => true) k fs e ∧ h' = runH (fun _ => true) k fs h
  | [], k, e, h, e', h', ts, hd => by
    simp only [evDraw, Option.some.injEq, Prod.mk.injEq] at hd
    obtain ⟨rfl, rfl, rfl⟩ := hd
    exact ⟨[], trivial, rfl, rfl, rfl⟩
  | i :: is, k, e, h, e', h', ts, hd => by
    simp only [evDraw, Option.bind_eq_bind, Option.bind_eq_some_iff] at hd
    obtain ⟨b, hw, hd⟩ := hd
    cases b with
    | true =>
      simp only [if_true, Option.bind_eq_some_iff, Prod.exists, Option.some.injEq, Prod.mk.injEq] at hd
      obtain ⟨d, us, h1, e1, h1', ts', h2, rfl, rfl, rfl⟩ := hd
      obtain ⟨fs, r1, r2, r3, r4⟩ := ran_of h2
      exact ⟨⟨i.dst, d, us, ⟨gtOf i.guard ++ tmpsX (opX i.ins), i.dst.toList, touches (evX e) i.ins, us.map (·.1)⟩⟩ :: fs, ⟨⟨rfl, .inl ⟨hw, h1, rfl⟩⟩, r1⟩, by rw [r2]; rfl, by simpa [runE] using r3, by simpa [runH] using r4⟩
    | false =>
      simp only [if_false, Bool.false_eq_true, Option.bind_eq_some_iff, Prod.exists, Option.some.injEq, Prod.mk.injEq] at hd
      obtain ⟨e1, h1', ts', h2, rfl, rfl, rfl⟩ := hd
      obtain ⟨fs, r1, r2, r3, r4⟩ := ran_of h2
      exact ⟨⟨i.dst, undefD, [], ⟨gtOf i.guard, i.dst.toList, [], []⟩⟩ :: fs, ⟨⟨rfl, .inr ⟨hw, rfl, rfl, rfl⟩⟩, r1⟩, by rw [r2]; rfl, by simpa [runE] using r3, by simpa [runH, updH] using r4⟩

theorem runE_none {L : Nat → Bool} : ∀ {fs : List Eff} {k : Nat} {e : Env}, (∀ j, k ≤ j → L j = false) → runE L k fs e = e
  | [], _, _, _ => rfl
  | f :: fs, k, e, h => by
    simp only [runE, h k (Nat.le_refl _), if_false, Bool.false_eq_true]
    exact runE_none fun j hj => h j (by omega)

theorem runH_none {L : Nat → Bool} : ∀ {fs : List Eff} {k : Nat} {h : Heap}, (∀ j, k ≤ j → L j = false) → runH L k fs h = h
  | [], _, _, _ => rfl
  | f :: fs, k, e, h => by
    simp only [runH, h k (Nat.le_refl _), if_false, Bool.false_eq_true]
    exact runH_none fun j hj => h j (by omega)

theorem Ran.at {call : Callee} {nx : Nat} : ∀ {is : List Inst} {k : Nat} {e : Env} {h : Heap} {fs : List Eff}, Ran call nx k is e h fs → ∀ {i : Nat} {inst : Inst}, is[i]? = some inst →
    ∃ f, fs[i]? = some f ∧ Did call nx (k + i) inst (runE (fun j => decide (j < k + i)) k fs e) (runH (fun j => decide (j < k + i)) k fs h) f
  | [], _, _, _, [], _, i, inst, hi => by simp at hi
  | i0 :: is, k, e, h, f :: fs, hr, i, inst, hi => by
    obtain ⟨h1, h2⟩ := hr
    cases i with
    | zero =>
      simp only [List.getElem?_cons_zero, Option.some.injEq] at hi
      subst hi
      refine ⟨f, by simp, ?_⟩
      rw [Nat.add_zero, runE_none (fun j hj => by simp; omega), runH_none (fun j hj => by simp; omega)]
      exact h1
    | succ i =>
      simp only [List.getElem?_cons_succ] at hi
      obtain ⟨g, g1, g2⟩ := Ran.at h2 hi
      refine ⟨g, by simpa using g1, ?_⟩
      have hk : decide (k < k + (i + 1)) = true := by simp
      simp only [runE, runH, hk, if_true]
      rw [show k + (i + 1) = k + 1 + i by omega]
      exact g2
  | [], _, _, _, _ :: _, hr, _, _, _ => hr.elim
  | _ :: _, _, _, _, [], hr, _, _, _ => hr.elim

theorem runE_agree {L L' : Nat → Bool} {t : Nat} : ∀ {fs : List Eff} {k : Nat} {e e' : Env}, getE e t = getE e' t → (∀ (j : Nat) (f : Eff), fs[j]? = some f → L (k + j) ≠ L' (k + j) → f.dst ≠ some t) → getE (runE L k fs e) t = getE (runE L' k fs e') t
  | [], _, _, _, he, _ => he
  | f :: fs, k, e, e', he, h => by
    simp only [runE]
    refine runE_agree ?_ fun j g hg hne => h (j + 1) g (by simpa using hg) (by rw [show k + (j + 1) = k + 1 + j by omega]; exact hne)
    have h0 := h 0 f (by simp)
    simp only [Nat.add_zero] at h0
    cases h1 : L k <;> cases h2 : L' k <;> simp only [if_true, if_false, Bool.false_eq_true, getE_putE]
    · exact he
    · rw [if_neg (h0 (by rw [h1, h2]; simp))]; exact he
    · rw [if_neg (h0 (by rw [h1, h2]; simp))]; exact he
    · rw [he]

theorem updH_out {us : List (Nat × Obj)} : ∀ {h : Heap} {id : Nat}, id ∉ us.map (·.1) → getH (updH h us) id = getH h id := by
  induction us with
  | nil => intros; rfl
  | cons u us ih =>
    intro h id hn
    simp only [List.map_cons, List.mem_cons, not_or] at hn
    simp only [updH]
    rw [ih hn.2]
    obtain ⟨i, o⟩ := u
    have hne : ¬ i = id := fun e => hn.1 e.symm
    simp only [getH, if_neg hne]

theorem updH_in {us : List (Nat × Obj)} : ∀ {h h' : Heap} {id : Nat}, id ∈ us.map (·.1) → getH (updH h us) id = getH (updH h' us) id := by
  induction us with
  | nil => intro h h' id hi; simp at hi
  | cons u us ih =>
    intro h h' id hi
    simp only [updH]
    by_cases hm : id ∈ us.map (·.1)
    · exact ih hm
    · simp only [List.map_cons, List.mem_cons] at hi
      rcases hi with rfl | hi
      · rw [updH_out hm, updH_out hm]
        obtain ⟨i, o⟩ := u
        simp [getH]
      · exact absurd hi hm

theorem updH_ext {us : List (Nat × Obj)} {h h' : Heap} {id : Nat} (he : getH h id = getH h' id) : getH (updH h us) id = getH (updH h' us) id := by
  by_cases hm : id ∈ us.map (·.1)
  · exact updH_in hm
  · rw [updH_out hm, updH_out hm, he]

theorem runH_agree {L L' : Nat → Bool} {id : Nat} : ∀ {fs : List Eff} {k : Nat} {h h' : Heap}, getH h id = getH h' id → (∀ (j : Nat) (f : Eff), fs[j]? = some f → L (k + j) ≠ L' (k + j) → id ∉ f.us.map (·.1)) → getH (runH L k fs h) id = getH (runH L' k fs h') id
  | [], _, _, _, he, _ => he
  | f :: fs, k, e, e', he, h => by
    simp only [runH]
    refine runH_agree ?_ fun j g hg hne => h (j + 1) g (by simpa using hg) (by rw [show k + (j + 1) = k + 1 + j by omega]; exact hne)
    have h0 := h 0 f (by simp)
    simp only [Nat.add_zero] at h0
    cases h1 : L k <;> cases h2 : L' k <;> simp only [if_true, if_false, Bool.false_eq_true]
    · exact he
    · rw [updH_out (h0 (by rw [h1, h2]; simp))]; exact he
    · rw [updH_out (h0 (by rw [h1, h2]; simp))]; exact he
    · exact updH_ext he

/-- one operation more has been carried out -/
theorem runE_add {L L' : Nat → Bool} {t : Nat} : ∀ {fs : List Eff} {k i : Nat} {e : Env} {f : Eff}, fs[i]? = some f → L (k + i) = false → L' (k + i) = true → (∀ j, j ≠ i → L' (k + j) = L (k + j)) →
    (∀ (j : Nat) (g : Eff), i < j → fs[j]? = some g → L (k + j) = true → f.dst = some t → g.dst ≠ some t) → getE (runE L' k fs e) t = if f.dst = some t then f.d else getE (runE L k fs e) t
  | [], _, _, _, _, hi, _, _, _, _ => by simp at hi
  | f0 :: fs, k, 0, e, f, hi, h1, h2, h3, h4 => by
    simp only [List.getElem?_cons_zero, Option.some.injEq] at hi
    subst hi
    simp only [Nat.add_zero] at h1 h2
    simp only [runE, h1, h2, if_true, if_false, Bool.false_eq_true]
    have hsame : ∀ j, L' (k + 1 + j) = L (k + 1 + j) := fun j => by
      have := h3 (j + 1) (by omega)
      rw [show k + 1 + j = k + (j + 1) by omega]
      exact this
    by_cases hd : f0.dst = some t
    · rw [if_pos hd]
      have : ∀ {fs : List Eff} {k : Nat} {e : Env}, (∀ (j : Nat) (g : Eff), fs[j]? = some g → L' (k + j) = true → g.dst ≠ some t) → getE (runE L' k fs e) t = getE e t := by
        intro fs
        induction fs with
        | nil => intros; rfl
        | cons g fs ih =>
          intro k e h
          simp only [runE]
          rw [ih fun j g' hg hl => h (j + 1) g' (by simpa using hg) (by rw [show k + (j + 1) = k + 1 + j by omega]; exact hl)]
          cases hl : L' k
          · simp
          · simp only [if_true, getE_putE]
            rw [if_neg (h 0 g (by simp) (by simpa using hl))]
      rw [this fun j g hg hl => h4 (j + 1) g (by omega) (by simpa using hg) (by rw [show k + (j + 1) = k + 1 + j by omega, ← hsame]; exact hl) hd]
      simp [getE_putE, hd]
    · rw [if_neg hd]
      refine runE_agree (by simp [getE_putE, hd]) fun j g _ hne => absurd (hsame j) hne
  | f0 :: fs, k, i + 1, e, f, hi, h1, h2, h3, h4 => by
    simp only [List.getElem?_cons_succ] at hi
    have h0 : L' k = L k := by simpa using h3 0 (by omega)
    simp only [runE, h0]
    exact runE_add hi (by rw [show k + 1 + i = k + (i + 1) by omega]; exact h1) (by rw [show k + 1 + i = k + (i + 1) by omega]; exact h2)
      (fun j hj => by rw [show k + 1 + j = k + (j + 1) by omega]; exact h3 (j + 1) (by omega))
      (fun j g hj hg hl hd => h4 (j + 1) g (by omega) (by simpa using hg) (by rw [show k + (j + 1) = k + 1 + j by omega]; exact hl) hd)

theorem runH_add {L L' : Nat → Bool} {id : Nat} : ∀ {fs : List Eff} {k i : Nat} {h : Heap} {f : Eff}, fs[i]? = some f → L (k + i) = false → L' (k + i) = true → (∀ j, j ≠ i → L' (k + j) = L (k + j)) →
    (∀ (j : Nat) (g : Eff), i < j → fs[j]? = some g → L (k + j) = true → id ∈ f.us.map (·.1) → id ∉ g.us.map (·.1)) → getH (runH L' k fs h) id = getH (updH (runH L k fs h) f.us) id
  | [], _, _, _, _, hi, _, _, _, _ => by simp at hi
  | f0 :: fs, k, 0, e, f, hi, h1, h2, h3, h4 => by
    simp only [List.getElem?_cons_zero, Option.some.injEq] at hi
    subst hi
    simp only [Nat.add_zero] at h1 h2
    simp only [runH, h1, h2, if_true, if_false, Bool.false_eq_true]
    have hsame : ∀ j, L' (k + 1 + j) = L (k + 1 + j) := fun j => by
      have := h3 (j + 1) (by omega)
      rw [show k + 1 + j = k + (j + 1) by omega]
      exact this
    by_cases hd : id ∈ f0.us.map (·.1)
    · have : ∀ {fs : List Eff} {k : Nat} {e : Heap}, (∀ (j : Nat) (g : Eff), fs[j]? = some g → L' (k + j) = true → id ∉ g.us.map (·.1)) → getH (runH L' k fs e) id = getH e id := by
        intro fs
        induction fs with
        | nil => intros; rfl
        | cons g fs ih =>
          intro k e h
          simp only [runH]
          rw [ih fun j g' hg hl => h (j + 1) g' (by simpa using hg) (by rw [show k + (j + 1) = k + 1 + j by omega]; exact hl)]
          cases hl : L' k
          · simp
          · simp only [if_true]
            rw [updH_out (h 0 g (by simp) (by simpa using hl))]
      rw [this fun j g hg hl => h4 (j + 1) g (by omega) (by simpa using hg) (by rw [show k + (j + 1) = k + 1 + j by omega, ← hsame]; exact hl) hd]
      exact updH_in hd
    · rw [updH_out hd]
      refine runH_agree (updH_out hd) fun j g _ hne => absurd (hsame j) hne
  | f0 :: fs, k, i + 1, e, f, hi, h1, h2, h3, h4 => by
    simp only [List.getElem?_cons_succ] at hi
    have h0 : L' k = L k := by simpa using h3 0 (by omega)
    simp only [runH, h0]
    exact runH_add hi (by rw [show k + 1 + i = k + (i + 1) by omega]; exact h1) (by rw [show k + 1 + i = k + (i + 1) by omega]; exact h2)
      (fun j hj => by rw [show k + 1 + j = k + (j + 1) by omega]; exact h3 (j + 1) (by omega))
      (fun j g hj hg hl hd => h4 (j + 1) g (by omega) (by simpa using hg) (by rw [show k + (j + 1) = k + 1 + j by omega]; exact hl) hd)

/- ### who waits for whom -/

/-- all that an operation waits for directly is in L -/
def EdgesIn (L : Nat → Bool) (o : Oper) : Prop := ∀ e ∈ o.after.toList, Region.binds .any e = true → L e.on = true

theorem waits_len : ∀ (l : List Oper) (acc : List (List Nat)), (waits acc l).length = acc.length + l.length
  | [], _ => rfl
  | o :: l, acc => by simp only [waits]; rw [waits_len l]; simp; omega

theorem waits_ok {L : Nat → Bool} {ops : List Oper} (hcl : ∀ (j : Nat) (o : Oper), ops[j]? = some o → L j = true → EdgesIn L o) :
    ∀ (l : List Oper) (acc : List (List Nat)), (∀ j : Nat, l[j]? = ops[acc.length + j]?) → (∀ (j : Nat) (b : List Nat) (o : Oper), acc[j]? = some b → ops[j]? = some o → EdgesIn L o → ∀ x ∈ b, L x = true) →
      ∀ (j : Nat) (b : List Nat) (o : Oper), (waits acc l)[j]? = some b → ops[j]? = some o → EdgesIn L o → ∀ x ∈ b, L x = true
  | [], acc, _, h => h
  | p :: l, acc, hl, h => by
    simp only [waits]
    refine waits_ok hcl l _ (fun j => ?_) fun j b o hb ho he x hx => ?_
    · have := hl (j + 1)
      simp only [List.getElem?_cons_succ] at this
      rw [this]
      simp
      congr 1
      omega
    · rcases Nat.lt_or_ge j acc.length with hj | hj
      · rw [List.getElem?_append_left hj] at hb
        exact h j b o hb ho he x hx
      · rw [List.getElem?_append_right hj] at hb
        have hj0 : j = acc.length := by
          have := (List.getElem?_eq_some_iff.1 hb).1
          simp at this
          omega
        subst hj0
        have hp : ops[acc.length]? = some p := by have := hl 0; simpa using this.symm
        have : o = p := by rw [hp] at ho; exact (Option.some.inj ho).symm
        subst this
        simp at hb
        subst hb
        simp only [List.mem_flatMap] at hx
        obtain ⟨e, he1, hx⟩ := hx
        split at hx
        · rename_i hbd
          have hon := he e he1 hbd
          simp only [List.mem_cons] at hx
          rcases hx with rfl | hx
          · exact hon
          · cases hg : acc[e.on]? with
            | none => simp [hg] at hx
            | some b' =>
              simp [hg] at hx
              have hlt : e.on < acc.length := (List.getElem?_eq_some_iff.1 hg).1
              cases ho' : ops[e.on]? with
              | none =>
                have h1 : acc.length < ops.length := (List.getElem?_eq_some_iff.1 hp).1
                simp at ho'
                omega
              | some o' => exact h e.on b' o' hg ho' (hcl e.on o' ho' hon) x hx
        · cases hx

theorem freeOf_mem {bs : List (List Nat)} {i j : Nat} (hij : i < j) (hj : j < bs.length) (h : ∀ b : List Nat, bs[j]? = some b → i ∉ b) : (i, j) ∈ freeOf bs := by
  unfold freeOf
  simp only [List.mem_flatMap, List.mem_range]
  refine ⟨j, hj, ?_⟩
  simp only [List.mem_map, List.mem_filter, List.mem_range]
  refine ⟨i, ⟨hij, ?_⟩, rfl⟩
  have hb : bs[j]? = some bs[j] := List.getElem?_eq_getElem hj
  have := h _ hb
  simp [List.getD, hb, this]

theorem drawOk_mem {ts : List Trace} {free : List (Nat × Nat)} (h : drawOk ts free = true) {i j : Nat} (hm : (i, j) ∈ free) {a b : Trace} (ha : ts[i]? = some a) (hb : ts[j]? = some b) : clash a b = false := by
  have := List.all_eq_true.1 h (i, j) hm
  simp only [ha, hb] at this
  simpa using this

theorem meets_false {a b : List Nat} (h : meets a b = false) {x : Nat} (hx : x ∈ a) : x ∉ b := by
  unfold meets at h
  intro hb
  have := List.any_eq_false.1 h x hx
  simp [hb] at this

theorem clash_false {a b : Trace} (h : clash a b = false) : (∀ t, t ∈ a.wrT → t ∉ b.rdT ∧ t ∉ b.wrT) ∧ (∀ t, t ∈ b.wrT → t ∉ a.rdT) ∧ (∀ t, t ∈ a.wrH → t ∉ b.rdH ∧ t ∉ b.wrH) ∧ (∀ t, t ∈ b.wrH → t ∉ a.rdH) := by
  unfold clash at h
  simp only [Bool.or_eq_false_iff] at h
  obtain ⟨⟨⟨h1, h2⟩, h3⟩, h4⟩ := h
  refine ⟨fun t ht => ?_, fun t ht => meets_false h2 ht, fun t ht => ?_, fun t ht => meets_false h4 ht⟩
  · have := meets_false h1 ht; simp at this; exact this
  · have := meets_false h3 ht; simp at this; exact this

section
variable {B : Nat} {S : Nat → Nat → Prop} {P : Program} {o : Oper} {a : Act} {m : M} {shF : Nat → Bool} {nt : Nat} {w0 : World} {call : Callee}

/-- the evaluator's heap matters by what it holds alone -/
theorem heap_ext_evolves {m : M} {h : Heap} (hh : ∀ id, getH h id = getH m.h id) : Evolves B S m (m.heap h) where
  cell b q u h1 h2 := ⟨h1, h2.1, fun id => by show match getH h id with | .dead => True | .box _ => m.β id ≠ b | .arr _ _ fz _ => m.β id = b → q < fz; rw [hh]; exact h2.2 id⟩
  used _ hu := hu
  dead id _ hd := by show getH h id = .dead; rw [hh]; exact hd
  at_ _ _ := rfl
  kind id cs' esz' fz' ety' _ hk := ⟨cs', fz', by rw [← hh]; exact hk, rfl⟩

theorem heap_ext_hok {m : M} (hk : HOK B S m) {h : Heap} (hh : ∀ id, getH h id = getH m.h id) : HOK B S (m.heap h) := by
  have hev := heap_ext_evolves (B := B) (S := S) hh
  refine ⟨fun id => ?_, fun i j hi hj he => ?_, fun id hu => ?_, hk.base⟩
  · unfold RepO
    show RepOb B S _ (m.β id) (getH h id)
    rw [hh]
    exact hev.repOb rfl (hk.obj id)
  · exact hk.inj i j (by rw [← hh]; exact hi) (by rw [← hh]; exact hj) he
  · show getH h id = .dead
    rw [hh]; exact hk.dom id hu

theorem Rel.ext {e e' : Env} (hr : Rel B S w0 nt m e a) (h : ∀ t, getE e' t = getE e t) : Rel B S w0 nt m e' a :=
  ⟨hr.defers, hr.size, fun t => by rw [h]; exact hr.env t, hr.hok, hr.below⟩

theorem compInsts_get {ops : Array Oper} : ∀ {l : List Oper} {is : List Inst}, compInsts P shF nt ops l = some is → l.length = is.length ∧ ∀ (i : Nat) (o : Oper), l[i]? = some o → ∃ inst : Inst, is[i]? = some inst ∧ compInst P shF nt ops o = some inst
  | [], is, h => by simp only [compInsts, Option.some.injEq] at h; subst h; exact ⟨rfl, by simp⟩
  | p :: l, is, h => by
    simp only [compInsts, Option.bind_eq_bind, Option.bind_eq_some_iff, Option.some.injEq] at h
    obtain ⟨i, h1, is', h2, rfl⟩ := h
    obtain ⟨h3, h4⟩ := compInsts_get h2
    refine ⟨by simp [h3], fun k o hk => ?_⟩
    cases k with
    | zero => simp at hk; subst hk; exact ⟨i, by simp, h1⟩
    | succ k => simp at hk; obtain ⟨inst, h5, h6⟩ := h4 k o hk; exact ⟨inst, by simpa using h5, h6⟩

theorem noShared_get : ∀ {is : List Inst}, noShared is = true → ∀ (i : Nat) (inst : Inst), is[i]? = some inst → ∀ f xs, inst.ins ≠ .callS f xs
  | [], _, i, inst, hi => by simp at hi
  | p :: is, h, i, inst, hi => by
    simp only [noShared, Bool.and_eq_true] at h
    cases i with
    | zero => simp at hi; subst hi; intro f xs he; rw [he] at h; simp at h
    | succ i => simp at hi; exact noShared_get h.2 i inst hi

theorem downB_get : ∀ {l : List Oper} {k : Nat}, downB k l = true → ∀ (i : Nat) (o : Oper), l[i]? = some o → ∀ e ∈ o.after.toList, Region.binds .any e = true → e.on < k + i
  | [], _, _, i, o, hi => by simp at hi
  | p :: l, k, h, i, o, hi => by
    simp only [downB, Bool.and_eq_true] at h
    cases i with
    | zero =>
      simp at hi; subst hi
      intro e he hb
      have := List.all_eq_true.1 h.1 e he
      simp [hb] at this
      omega
    | succ i =>
      simp at hi
      intro e he hb
      have := downB_get h.2 i o hi e he hb
      omega

theorem mem_ready' {ops : Array Oper} {listed : Array Bool} {i : Nat} (h : i ∈ Region.ready .any ops listed) : i < ops.size ∧ listed.getD i true = false ∧ ∃ o, ops[i]? = some o ∧ ∀ e ∈ o.after.toList, Region.binds .any e = true → listed.getD e.on false = true := by
  unfold Region.ready at h
  simp only [List.mem_filter, List.mem_range, Bool.and_eq_true, Bool.not_eq_true'] at h
  obtain ⟨h1, h2, h3⟩ := h
  refine ⟨h1, h2, ?_⟩
  cases ho : ops[i]? with
  | none => simp [ho] at h3
  | some o =>
    simp only [ho, Option.map_some, Option.getD_some, Array.all_eq_true_iff_forall_mem] at h3
    refine ⟨o, rfl, fun e he hb => ?_⟩
    have := h3 e (by simpa using he)
    simpa [hb] using this

theorem ready_of {ops : Array Oper} {listed : Array Bool} {i : Nat} {o : Oper} (ho : ops[i]? = some o) (h2 : listed.getD i true = false) (h3 : ∀ e ∈ o.after.toList, Region.binds .any e = true → listed.getD e.on false = true) : i ∈ Region.ready .any ops listed := by
  unfold Region.ready
  simp only [List.mem_filter, List.mem_range, Bool.and_eq_true, Bool.not_eq_true']
  refine ⟨(Array.getElem?_eq_some_iff.1 ho).1, h2, ?_⟩
  simp only [ho, Option.map_some, Option.getD_some, Array.all_eq_true_iff_forall_mem]
  intro e he
  cases hb : Region.binds .any e with
  | false => simp
  | true => simpa [hb] using h3 e (by simpa using he) hb

structure DInv (B : Nat) (S : Nat → Nat → Prop) (w0 : World) (nt : Nat) (ops : Array Oper) (fs : List Eff) (nx : Nat) (e : Env) (h : Heap) (m0 : M) (listed : Array Bool) (a : Act) (m : M) : Prop where
  size : listed.size = ops.size
  closed : ∀ (j : Nat) (o : Oper), ops[j]? = some o → listed.getD j false = true → EdgesIn (fun j => listed.getD j false) o
  heap : ∀ id, getH m.h id = getH (runH (fun j => listed.getD j false) 0 fs h) id
  used : ∀ i, m.U i ↔ i < nx ∨ ∃ k, listed.getD k false = true ∧ i = nx + k
  rel : Rel B S w0 nt m (runE (fun j => listed.getD j false) 0 fs e) a
  ev : Evolves B S m0 m

theorem getD_set_eq {listed : Array Bool} {i : Nat} (hi : i < listed.size) : (listed.setIfInBounds i true).getD i false = true := by simp [hi]
theorem getD_set_ne' {listed : Array Bool} {i j : Nat} (h : j ≠ i) : (listed.setIfInBounds i true).getD j false = listed.getD j false := by simp [Array.getElem?_setIfInBounds_ne (Ne.symm h)]

theorem getD_tf {listed : Array Bool} {i : Nat} (h : listed.getD i true = false) : listed.getD i false = false := by
  rcases Nat.lt_or_ge i listed.size with h' | h'
  · simp [h'] at h ⊢; exact h
  · simp [Array.getElem?_eq_none h'] at h
theorem getD_ft {listed : Array Bool} {i : Nat} (hi : i < listed.size) (h : listed.getD i false = false) : listed.getD i true = false := by
  simp [hi] at h ⊢; exact h

theorem any_ok {ops : Array Oper} {is : List Inst} {fs : List Eff} {nx : Nat} {e : Env} {h : Heap} {m0 : M} {Q : Exit → Act → World → Prop} (hcall : ∀ f vs rs, call f vs = some rs → FnOK P f vs rs)
    (hc : compInsts P shF nt ops ops.toList = some is) (hns : noShared is = true) (hdown : downB 0 ops.toList = true) (hran : Ran call nx 0 is e h fs) (hok : drawOk (fs.map (·.tr)) (freeOf (waits [] ops.toList)) = true)
    (hK : ∀ (a' : Act) (m' : M), (∀ id, getH m'.h id = getH (runH (fun _ => true) 0 fs h) id) → UIs m' (nx + ops.size) → Evolves B S m0 m' → Rel B S w0 nt m' (runE (fun _ => true) 0 fs e) a' → Q .normal a' m'.w) :
    ∀ (n : Nat) (listed : Array Bool) (a : Act) (m : M), DInv B S w0 nt ops fs nx e h m0 listed a m → (∃ l : List Nat, l.length = n ∧ l.Nodup ∧ ∀ i, i ∈ l ↔ i < ops.size ∧ listed.getD i false = false) → wpAny P .any ops Q n listed a m.w := by
  obtain ⟨hlen, hget⟩ := compInsts_get hc
  have hlen' : ops.size = is.length := by rw [← hlen]; simp
  have hfl : ∀ {k : Nat} {is : List Inst} {e : Env} {h : Heap} {fs : List Eff}, Ran call nx k is e h fs → fs.length = is.length := by
    intro k is
    induction is generalizing k with
    | nil => intro e h fs hr; cases fs with | nil => rfl | cons _ _ => exact hr.elim
    | cons i is ih => intro e h fs hr; cases fs with | nil => exact hr.elim | cons f fs => simp [ih hr.2]
  have hfs : fs.length = ops.size := by rw [hfl hran, hlen']
  have finish : ∀ (listed : Array Bool) (a : Act) (m : M), DInv B S w0 nt ops fs nx e h m0 listed a m → (∀ i, i < ops.size → listed.getD i false = true) → Q .normal a m.w := by
    intro listed a m inv hall
    have hE : ∀ t, getE (runE (fun _ => true) 0 fs e) t = getE (runE (fun j => listed.getD j false) 0 fs e) t := fun t => runE_agree rfl fun j f hf hne => by
      exfalso
      have hj : j < ops.size := by rw [← hfs]; exact (List.getElem?_eq_some_iff.1 hf).1
      simp only [Nat.zero_add] at hne
      rw [hall j hj] at hne
      exact hne rfl
    have hH : ∀ id, getH m.h id = getH (runH (fun _ => true) 0 fs h) id := fun id => by
      rw [inv.heap]
      exact runH_agree rfl fun j f hf hne => by
        exfalso
        have hj : j < ops.size := by rw [← hfs]; exact (List.getElem?_eq_some_iff.1 hf).1
        simp only [Nat.zero_add] at hne
        rw [hall j hj] at hne
        exact hne rfl
    refine hK a m hH (fun i => ?_) inv.ev (inv.rel.ext hE)
    rw [inv.used]
    constructor
    · rintro (h1 | ⟨k, h1, rfl⟩)
      · omega
      · have : k < listed.size := by
          rcases Nat.lt_or_ge k listed.size with h2 | h2
          · exact h2
          · simp [Array.getElem?_eq_none h2] at h1
        rw [inv.size] at this
        omega
    · intro h1
      by_cases h2 : i < nx
      · exact .inl h2
      · exact .inr ⟨i - nx, hall _ (by omega), by omega⟩
  intro n
  induction n with
  | zero =>
    rintro listed a m inv ⟨l, hl1, _, hl2⟩
    have hl0 : l = [] := List.eq_nil_of_length_eq_zero hl1
    subst hl0
    have hall : ∀ i, i < ops.size → listed.getD i false = true := fun i hi => by
      cases hb : listed.getD i false with
      | true => rfl
      | false => have := (hl2 i).2 ⟨hi, hb⟩; cases this
    refine ⟨?_, finish listed a m inv hall⟩
    cases hr : Region.ready .any ops listed with
    | nil => rfl
    | cons i r =>
      have hi : i ∈ Region.ready .any ops listed := by rw [hr]; simp
      obtain ⟨h1, h2, _⟩ := mem_ready' hi
      have := hall i h1
      rw [getD_tf h2] at this
      cases this
  | succ n ih =>
    rintro listed a m inv ⟨l, hl1, hl2, hl3⟩
    refine ⟨fun hnone => finish listed a m inv fun i hi => ?_, fun i hi => ?_⟩
    · -- the least one that has not been carried out would be ready
      cases hb : listed.getD i false with
      | true => rfl
      | false =>
        exfalso
        have key : ∀ k, ∀ i, i ≤ k → i < ops.size → listed.getD i false = false → ∃ j, j ∈ Region.ready .any ops listed := by
          intro k
          induction k with
          | zero =>
            intro i hik his hib
            have hi0 : i = 0 := by omega
            subst hi0
            have ho : ops[0]? = some ops[0] := Array.getElem?_eq_getElem his
            refine ⟨0, ready_of ho (getD_ft (by rw [inv.size]; exact his) hib) fun e he hbd => ?_⟩
            have := downB_get hdown 0 ops[0] (by simp) e he hbd
            omega
          | succ k ihk =>
            intro i hik his hib
            have ho : ops[i]? = some ops[i] := Array.getElem?_eq_getElem his
            by_cases hed : ∀ e ∈ ops[i].after.toList, Region.binds .any e = true → listed.getD e.on false = true
            · exact ⟨i, ready_of ho (getD_ft (by rw [inv.size]; exact his) hib) hed⟩
            · have : ∃ e, e ∈ ops[i].after.toList ∧ Region.binds .any e = true ∧ listed.getD e.on false = false := by
                apply Classical.byContradiction
                intro hno
                apply hed
                intro e he hbd
                cases hq : listed.getD e.on false with
                | true => rfl
                | false => exact absurd ⟨e, he, hbd, hq⟩ hno
              obtain ⟨e, he, hbd, hq⟩ := this
              have hlt := downB_get hdown i ops[i] (by simp) e he hbd
              exact ihk e.on (by omega) (by omega) hq
        obtain ⟨j, hj⟩ := key i i (Nat.le_refl _) hi hb
        rw [hnone] at hj
        cases hj
    · obtain ⟨hi1, hi2, o, ho, hedge⟩ := mem_ready' hi
      have hif := getD_tf hi2
      have ho' : ops.toList[i]? = some o := by simpa using ho
      obtain ⟨inst, hinst, hcomp⟩ := hget i o ho'
      obtain ⟨f, hf, hdid⟩ := Ran.at hran hinst
      simp only [Nat.zero_add] at hdid
      obtain ⟨hdst, hdid⟩ := hdid
      -- who is free of whom
      have hbs : ∀ (j : Nat) (b : List Nat) (o : Oper), (waits [] ops.toList)[j]? = some b → ops.toList[j]? = some o → EdgesIn (fun j => listed.getD j false) o → ∀ x ∈ b, listed.getD x false = true :=
        waits_ok (L := fun j => listed.getD j false) (fun j o hj hl => inv.closed j o (by simpa using hj) hl) ops.toList [] (by simp) (by simp)
      have hwl : (waits [] ops.toList).length = ops.size := by rw [waits_len]; simp
      have free1 : ∀ j, j < i → listed.getD j false = false → (j, i) ∈ freeOf (waits [] ops.toList) := fun j hji hj =>
        freeOf_mem hji (by rw [hwl]; exact hi1) fun b hb hm => by
          have := hbs i b o hb ho' hedge j hm
          rw [hj] at this; cases this
      have free2 : ∀ j, i < j → listed.getD j false = true → (i, j) ∈ freeOf (waits [] ops.toList) := fun j hij hj => by
        have hjs : j < ops.size := by
          rcases Nat.lt_or_ge j listed.size with h2 | h2
          · rw [← inv.size]; exact h2
          · simp [Array.getElem?_eq_none h2] at hj
        refine freeOf_mem hij (by rw [hwl]; exact hjs) fun b hb hm => ?_
        have hoj : ops[j]? = some ops[j] := Array.getElem?_eq_getElem hjs
        have := hbs j b ops[j] hb (by simp) (inv.closed j _ hoj hj) i hm
        rw [hif] at this; cases this
      have htr : ∀ (j : Nat) (g : Eff), fs[j]? = some g → (fs.map (·.tr))[j]? = some g.tr := fun j g hg => by simp [hg]
      -- of an operation that differs between the two sets nothing is read
      have hdsts : ∀ (j : Nat) (g : Eff), fs[j]? = some g → g.tr.wrT = g.dst.toList ∧ g.tr.wrH = g.us.map (·.1) := fun j g hg => by
        have hjl : j < is.length := by rw [← hlen', ← hfs]; exact (List.getElem?_eq_some_iff.1 hg).1
        obtain ⟨g', hg', hd'⟩ := Ran.at hran (List.getElem?_eq_getElem hjl)
        rw [hg] at hg'
        simp only [Option.some.injEq] at hg'
        subst hg'
        obtain ⟨hd1, hd2⟩ := hd'
        rcases hd2 with ⟨_, _, h3⟩ | ⟨_, _, h2, h3⟩
        · rw [h3, hd1]; exact ⟨rfl, rfl⟩
        · rw [h3, hd1, h2]; exact ⟨rfl, rfl⟩
      have far : ∀ (j : Nat) (g : Eff), fs[j]? = some g → listed.getD j false ≠ decide (j < i) → (∀ t, t ∈ g.tr.wrT → t ∉ f.tr.rdT) ∧ (∀ t, t ∈ g.tr.wrH → t ∉ f.tr.rdH) := fun j g hg hne => by
        rcases Nat.lt_trichotomy j i with hlt | heq | hgt
        · have hj : listed.getD j false = false := by
            cases hb : listed.getD j false with
            | false => rfl
            | true => rw [hb] at hne; simp [hlt] at hne
          have hcl := clash_false (drawOk_mem hok (free1 j hlt hj) (htr j g hg) (htr i f hf))
          exact ⟨fun t ht => (hcl.1 t ht).1, fun t ht => (hcl.2.2.1 t ht).1⟩
        · subst heq; rw [hif] at hne; simp at hne
        · have hj : listed.getD j false = true := by
            cases hb : listed.getD j false with
            | true => rfl
            | false => rw [hb] at hne; simp at hne; omega
          have hcl := clash_false (drawOk_mem hok (free2 j hgt hj) (htr i f hf) (htr j g hg))
          exact ⟨hcl.2.1, hcl.2.2.2⟩
      have agE : ∀ t, t ∈ f.tr.rdT → getE (runE (fun j => listed.getD j false) 0 fs e) t = getE (runE (fun j => decide (j < i)) 0 fs e) t := fun t ht =>
        runE_agree rfl fun j g hg hne hd => by
          simp only [Nat.zero_add] at hne
          have := (far j g hg hne).1 t (by rw [(hdsts j g hg).1, hd]; simp)
          exact this ht
      have agH : ∀ id, id ∈ f.tr.rdH → getH m.h id = getH (runH (fun j => decide (j < i)) 0 fs h) id := fun id hid => by
        rw [inv.heap]
        exact runH_agree rfl fun j g hg hne hd => by
          simp only [Nat.zero_add] at hne
          have := (far j g hg hne).2 id (by rw [(hdsts j g hg).2]; exact hd)
          exact this hid
      -- what comes behind
      have hsetn : ∀ j, j ≠ i → (listed.setIfInBounds i true).getD j false = listed.getD j false := fun j hj => getD_set_ne' hj
      have hsets : (listed.setIfInBounds i true).getD i false = true := getD_set_eq (by rw [inv.size]; exact hi1)
      have nextE : ∀ t, getE (runE (fun j => (listed.setIfInBounds i true).getD j false) 0 fs e) t = getE (putE (runE (fun j => listed.getD j false) 0 fs e) f.dst f.d) t := fun t => by
        rw [getE_putE]
        exact runE_add (L := fun j => listed.getD j false) (L' := fun j => (listed.setIfInBounds i true).getD j false) hf (by simpa using hif) (by simpa using hsets) (fun j hj => by simpa using hsetn j hj) fun j g hij hg hl hd hgd => by
          simp only [Nat.zero_add] at hl
          have hcl := clash_false (drawOk_mem hok (free2 j hij hl) (htr i f hf) (htr j g hg))
          exact (hcl.1 t (by rw [(hdsts i f hf).1, hd]; simp)).2 (by rw [(hdsts j g hg).1, hgd]; simp)
      have nextH : ∀ (hp : Heap), (∀ id, getH hp id = getH (runH (fun j => listed.getD j false) 0 fs h) id) → ∀ id, getH (updH hp f.us) id = getH (runH (fun j => (listed.setIfInBounds i true).getD j false) 0 fs h) id := fun hp hhp id => by
        rw [runH_add (L := fun j => listed.getD j false) (L' := fun j => (listed.setIfInBounds i true).getD j false) hf (by simpa using hif) (by simpa using hsets) (fun j hj => by simpa using hsetn j hj) fun j g hij hg hl hd hgd => by
          simp only [Nat.zero_add] at hl
          have hcl := clash_false (drawOk_mem hok (free2 j hij hl) (htr i f hf) (htr j g hg))
          exact (hcl.2.2.1 id (by rw [(hdsts i f hf).2]; exact hd)).2 (by rw [(hdsts j g hg).2]; exact hgd)]
        exact updH_ext (hhp id)
      have hclosed' : ∀ (j : Nat) (o : Oper), ops[j]? = some o → (listed.setIfInBounds i true).getD j false = true → EdgesIn (fun j => (listed.setIfInBounds i true).getD j false) o := by
        intro j oj hoj hl e he hbd
        have hmono : ∀ k, listed.getD k false = true → (listed.setIfInBounds i true).getD k false = true := fun k hk => by
          by_cases hki : k = i
          · subst hki; exact hsets
          · rw [hsetn k hki]; exact hk
        by_cases hji : j = i
        · subst hji
          rw [ho] at hoj
          simp only [Option.some.injEq] at hoj
          subst hoj
          exact hmono _ (hedge e he hbd)
        · rw [hsetn j hji] at hl
          exact hmono _ (inv.closed j oj hoj hl e he hbd)
      have hcount : ∃ l' : List Nat, l'.length = n ∧ l'.Nodup ∧ ∀ j, j ∈ l' ↔ j < ops.size ∧ (listed.setIfInBounds i true).getD j false = false := by
        have hil : i ∈ l := (hl3 i).2 ⟨hi1, hif⟩
        refine ⟨l.erase i, by rw [List.length_erase_of_mem hil, hl1]; omega, hl2.erase i, fun j => ?_⟩
        rw [hl2.mem_erase_iff, hl3]
        constructor
        · rintro ⟨h1, h2, h3⟩; exact ⟨h2, by rw [hsetn j h1]; exact h3⟩
        · rintro ⟨h1, h2⟩
          have hji : j ≠ i := fun e => by subst e; rw [hsets] at h2; cases h2
          exact ⟨hji, h1, by rw [← hsetn j hji]; exact h2⟩
      unfold wpOp
      rw [ho]
      simp only
      have hguard : wanted (runE (fun j => listed.getD j false) 0 fs e) inst.guard = wanted (runE (fun j => decide (j < i)) 0 fs e) inst.guard := by
        cases hg : inst.guard with
        | none => rfl
        | some p =>
          obtain ⟨t, want⟩ := p
          have ht : t ∈ f.tr.rdT := by
            rcases hdid with ⟨_, _, h3⟩ | ⟨_, _, _, h3⟩ <;> rw [h3, hg] <;> simp [gtOf]
          simp only [wanted, agE t ht]
      have hslot : ¬ m.U (nx + i) := by
        rw [inv.used]
        rintro (h1 | ⟨k, h1, h2⟩)
        · omega
        · have : k = i := by omega
          subst this
          rw [hif] at h1; cases h1
      have hused' : ∀ (m' : M), m'.U = (fun j => m.U j ∨ j = nx + i) → ∀ j, m'.U j ↔ j < nx ∨ ∃ k, (listed.setIfInBounds i true).getD k false = true ∧ j = nx + k := by
        intro m' hm' j
        rw [hm']
        show m.U j ∨ j = nx + i ↔ _
        rw [inv.used]
        constructor
        · rintro ((h1 | ⟨k, h1, h2⟩) | h1)
          · exact .inl h1
          · refine .inr ⟨k, ?_, h2⟩
            by_cases hki : k = i
            · subst hki; exact hsets
            · rw [hsetn k hki]; exact h1
          · exact .inr ⟨i, hsets, h1⟩
        · rintro (h1 | ⟨k, h1, h2⟩)
          · exact .inl (.inl h1)
          · by_cases hki : k = i
            · subst hki; exact .inr h2
            · rw [hsetn k hki] at h1; exact .inl (.inr ⟨k, h1, h2⟩)
      rcases hdid with ⟨hw, hst, htrf⟩ | ⟨hw, hfd, hfu, htrf⟩
      · rw [wanted_ok inv.rel hcomp (b := true) (by rw [hguard]; exact hw)]
        simp only [if_true]
        refine .inl ?_
        have hst' : stepC call (evX (runE (fun j => listed.getD j false) 0 fs e)) m.h (nx + i) inst.ins = some (f.d, f.us) := by
          rw [← hst]
          symm
          refine stepC_congr (fun x hx => ?_) (fun id hid => ?_)
          · cases x with
            | k v => rfl
            | t n =>
              have : n ∈ f.tr.rdT := by
                rw [htrf]
                refine List.mem_append_right _ ?_
                unfold tmpsX
                exact List.mem_filterMap.2 ⟨_, hx, rfl⟩
              exact (agE n this).symm
          · exact (agH id (by rw [htrf]; exact hid)).symm
        refine inst_wp hcomp (noShared_get hns i inst hinst) inv.rel hslot hcall hst' fun a' m' q1 q2 q3 q4 => ?_
        refine ih _ a' m' ⟨by simpa using inv.size, hclosed', ?_, hused' m' q2, ?_, inv.ev.trans q3⟩ hcount
        · intro id
          rw [q1]
          exact nextH m.h inv.heap id
        · rw [← hdst] at q4
          exact q4.ext nextE
      · rw [wanted_ok inv.rel hcomp (b := false) (by rw [hguard]; exact hw)]
        simp only [if_false, Bool.false_eq_true]
        obtain ⟨_, p2, p3, _⟩ := compInst_parts hcomp
        have hr2 : Rel B S w0 nt m (putE (runE (fun j => listed.getD j false) 0 fs e) f.dst f.d) (a.put o.dst undef) := by
          rw [hfd, hdst, p2]; exact inv.rel.put p3 ⟨[], rfl, trivial⟩
        have hg := grow_evolves (B := B) (S := S) m (nx + i)
        refine ih _ _ (m.grow (nx + i)) ⟨by simpa using inv.size, hclosed', ?_, hused' _ rfl, ?_, inv.ev.trans hg⟩ hcount
        · intro id
          have := nextH m.h inv.heap id
          rw [hfu] at this
          exact this
        · have hr3 : Rel B S w0 nt (m.grow (nx + i)) (putE (runE (fun j => listed.getD j false) 0 fs e) f.dst f.d) (a.put o.dst undef) := hr2.evolve hg (grow_hok hr2.hok _) (Below.refl _ _)
          exact hr3.ext nextE

theorem draw_ok {id : Nat} {ops : Array Oper} {is : List Inst} {Q : Exit → Act → World → Prop} (hm : P.follows .mixedOrders = true) (hcall : ∀ f vs rs, call f vs = some rs → FnOK P f vs rs)
    (hc : compInsts P shF nt ops ops.toList = some is) (hns : noShared is = true) (hdown : downB 0 ops.toList = true) {s : St} {m : M} {a : Act} (hh : m.h = s.heap) (hU : UIs m s.nx) (hr : Rel B S w0 nt m s.env a)
    {e' : Env} {h' : Heap} {ts : List Trace} (hev : evDraw call s.nx 0 is s.env s.heap = some (e', h', ts)) (hok : drawOk ts (freeOf (waits [] ops.toList)) = true)
    (hK : ∀ (a' : Act) (m' : M), m'.h = h' → UIs m' (s.nx + is.length) → Evolves B S m m' → Rel B S w0 nt m' e' a' → Q .normal a' m'.w) : (Code.region id ops true).wp P Q a m.w := by
  obtain ⟨fs, r1, r2, rfl, rfl⟩ := ran_of hev
  subst r2
  refine wp_region_any hm ?_
  have hlen : ops.size = is.length := by rw [← (compInsts_get hc).1]; simp
  have hb : ∀ k, k < m.w.heap.size → m.w.drew.heap[k]? = m.w.heap[k]? := fun _ _ => rfl
  have ev0 := world_evolves hr.hok (w' := m.w.drew) hb
  have hk0 := world_hok hr.hok (w' := m.w.drew) hb (Nat.le_refl _)
  have hr0 : Rel B S w0 nt (m.world m.w.drew) s.env a := hr.evolve ev0 hk0 ((Below.refl B m.w).drew)
  have hnone : ∀ j, (Array.replicate ops.size false).getD j false = false := by
    intro j
    rcases Nat.lt_or_ge j ops.size with h | h
    · simp [h]
    · simp [h]
  refine any_ok (w0 := w0) (m0 := m) hcall hc hns hdown r1 hok (fun a' m' q1 q2 q3 q4 => ?_) ops.size (Array.replicate ops.size false) a (m.world m.w.drew) ⟨by simp, fun j o _ hl => ?_, fun i => ?_, fun i => ?_, ?_, ev0⟩ ⟨List.range ops.size, by simp, List.nodup_range, fun i => ?_⟩
  · have e1 := heap_ext_evolves (B := B) (S := S) (m := m') (h := runH (fun _ => true) 0 fs s.heap) fun i => (q1 i).symm
    have e2 := heap_ext_hok q4.hok (h := runH (fun _ => true) 0 fs s.heap) fun i => (q1 i).symm
    exact hK a' (m'.heap (runH (fun _ => true) 0 fs s.heap)) rfl (by rw [← hlen]; exact q2) (q3.trans e1) (q4.evolve e1 e2 (Below.refl _ _))
  · rw [hnone] at hl; cases hl
  · rw [runH_none (fun j _ => hnone j)]
    show getH m.h i = _
    rw [hh]
  · show m.U i ↔ _
    rw [hU]
    constructor
    · exact .inl
    · rintro (h1 | ⟨k, h1, _⟩)
      · exact h1
      · rw [hnone] at h1; cases h1
  · rw [runE_none (fun j _ => hnone j)]; exact hr0
  · rw [hnone]; simp

end
end Go.Ev

namespace Go.Ev
open Go.RowKit

section
variable {B : Nat} {S : Nat → Nat → Prop} {nt : Nat} {w0 : World} {m : M} {a : Act} {e : Env}

theorem getE_keepE (e : Env) : ∀ (ks : List Nat) (t : Nat), getE (keepE e ks) t = if t ∈ ks then getE e t else .unk
  | [], t => by simp [keepE, getE]
  | k :: ks, t => by
    simp only [keepE, getE, List.mem_cons]
    by_cases h : k = t
    · subst h; simp
    · have h' : ¬ t = k := fun x => h x.symm
      rw [if_neg h, getE_keepE e ks t]
      simp [h']

theorem Rel.keep (hr : Rel B S w0 nt m e a) (ks : List Nat) : Rel B S w0 nt m (keepE e ks) a :=
  ⟨hr.defers, hr.size, fun t => by
    rw [getE_keepE]
    split
    · exact hr.env t
    · trivial, hr.hok, hr.below⟩

theorem nodup_inj {l : List Nat} (hn : l.Nodup) {i j : Nat} (hi : i < l.length) (hj : j < l.length) (h : l[i] = l[j]) : i = j := by
  have := List.nodup_iff_pairwise_ne.1 hn
  rw [List.pairwise_iff_getElem] at this
  rcases Nat.lt_trichotomy i j with h1 | h1 | h1
  · exact absurd h (this i j hi hj h1)
  · exact h1
  · exact absurd h.symm (this j i hj hi h1)

theorem reach_nodup (h : Heap) : ∀ (n : Nat) (todo seen : List Nat), seen.Nodup → (reach h n todo seen).Nodup
  | 0, _, _, hs => hs
  | _ + 1, [], _, hs => hs
  | n + 1, i :: todo, seen, hs => by
    simp only [reach]
    split
    · exact reach_nodup h n todo seen hs
    · rename_i hi
      refine reach_nodup h n _ _ ?_
      rw [List.nodup_append]
      refine ⟨hs, by simp, ?_⟩
      intro a ha b hb
      simp at hb
      subst hb
      intro hab
      subst hab
      exact hi ha

theorem getE_renE (seen : List Nat) : ∀ (e : Env) (t : Nat), getE (renE seen e) t = renD seen (getE e t)
  | [], t => by simp [renE, getE, renD, renC]
  | (t', d) :: e, t => by
    simp only [renE, getE]
    split
    · rfl
    · exact getE_renE seen e t

theorem getH_renH (h : Heap) (sn : List Nat) : ∀ (seen : List Nat) (k i : Nat), getH (renH h sn k seen) i = if k ≤ i then (match seen[i - k]? with | some j => renO sn (getH h j) | none => .dead) else .dead
  | [], k, i => by simp [renH, getH]
  | j :: seen, k, i => by
    simp only [renH, getH]
    by_cases h1 : k = i
    · subst h1; simp
    · rw [if_neg h1, getH_renH h sn seen (k + 1) i]
      by_cases h2 : k + 1 ≤ i
      · rw [if_pos h2, if_pos (by omega)]
        have : i - k = (i - (k + 1)) + 1 := by omega
        rw [this]
        simp
      · rw [if_neg h2, if_neg (by omega)]

/-- the numbers that are left, anew -/
def M.ren (m : M) (seen : List Nat) : M := ⟨m.w, renH m.h seen 0 seen, fun i => m.β (seen.getD i 0), fun i => i < seen.length⟩

theorem getH_ren (seen : List Nat) (i : Nat) : getH (m.ren seen).h i = match seen[i]? with | some j => renO seen (getH m.h j) | none => .dead := by
  show getH (renH m.h seen 0 seen) i = _
  rw [getH_renH]
  simp

theorem renO_dead {seen : List Nat} {o : Obj} : renO seen o = .dead ↔ o = .dead := by cases o <;> simp [renO]

theorem ren_safe {seen : List Nat} {b q : Nat} (h : Safe B S m b q) : Safe B S (m.ren seen) b q := by
  refine ⟨h.1, fun i => ?_⟩
  rw [getH_ren]
  cases hi : seen[i]? with
  | none => trivial
  | some j =>
    have hj := h.2 j
    have hβ : (m.ren seen).β i = m.β j := by simp [M.ren, List.getD, hi]
    rw [hβ]
    simp only
    cases ho : getH m.h j with
    | dead => trivial
    | box ds => rw [ho] at hj; exact hj
    | arr cs esz fz ety => rw [ho] at hj; exact hj

theorem ren_cell {seen : List Nat} : ∀ b o u, m.w.cell? ⟨b, o, none⟩ = some u → Safe B S m b o → (m.ren seen).w.cell? ⟨b, o, none⟩ = some u ∧ Safe B S (m.ren seen) b o :=
  fun _ _ _ h1 h2 => ⟨h1, ren_safe h2⟩

theorem idx_get {seen : List Nat} {id : Nat} (h : id ∈ seen) : seen[seen.idxOf id]? = some id := by
  have hlt : seen.idxOf id < seen.length := List.idxOf_lt_length_of_mem h
  rw [List.getElem?_eq_getElem hlt]
  simp

theorem ren_repC {seen : List Nat} {d : D} {u : Value} (h : RepDc B S m d u) : RepDc B S (m.ren seen) (renC seen d) u := by
  cases d with
  | unk => trivial
  | c x => exact RepC.mono ren_cell x u h
  | loc id off =>
    simp only [renC]
    split
    · rename_i hm
      obtain ⟨_, rfl⟩ := h
      refine ⟨List.idxOf_lt_length_of_mem hm, ?_⟩
      have : (m.ren seen).β (seen.idxOf id) = m.β id := by simp [M.ren, List.getD, idx_get hm]
      rw [this]
    · trivial
  | arr id off len =>
    simp only [renC]
    split
    · rename_i hm
      obtain ⟨_, ad, cap, e1, e2, e3⟩ := h
      refine ⟨List.idxOf_lt_length_of_mem hm, ad, cap, e1, e2, ?_⟩
      have hβ : (m.ren seen).β (seen.idxOf id) = m.β id := by simp [M.ren, List.getD, idx_get hm]
      rw [getH_ren, idx_get hm, hβ]
      simp only
      cases ho : getH m.h id with
      | dead => trivial
      | box ds => trivial
      | arr cs esz fz ety => rw [ho] at e3; exact e3
    · trivial
  | ptr cs => obtain ⟨ad, e1, e2, e3⟩ := h; exact ⟨ad, e1, e2, RepCs.mono ren_cell cs _ _ e3⟩
  | agg ds => exact h.elim
  | tup ds => exact h.elim

theorem All2.map_mono {α β γ : Type} {R : α → β → Prop} {R' : γ → β → Prop} {f : α → γ} (h : ∀ a b, R a b → R' (f a) b) : ∀ {as : List α} {bs : List β}, All2 R as bs → All2 R' (as.map f) bs
  | [], [], _ => trivial
  | _ :: _, _ :: _, h1 => ⟨h _ _ h1.1, All2.map_mono h h1.2⟩
  | [], _ :: _, h1 => h1.elim
  | _ :: _, [], h1 => h1.elim

theorem ren_repD {seen : List Nat} {d : D} {u : Value} (h : RepD B S m d u) : RepD B S (m.ren seen) (renD seen d) u := by
  cases d with
  | agg ds => obtain ⟨us, e1, e2⟩ := h; exact ⟨us, e1, e2.map_mono fun _ _ h => ren_repC h⟩
  | tup ds => trivial
  | unk => trivial
  | c x => exact RepC.mono ren_cell x u h
  | loc id off => exact (ren_repC (seen := seen) (d := .loc id off) h).toD
  | arr id off len => exact (ren_repC (seen := seen) (d := .arr id off len) h).toD
  | ptr cs => exact (ren_repC (seen := seen) (d := .ptr cs) h).toD

theorem ren_hok (hk : HOK B S m) {seen : List Nat} (hn : seen.Nodup) : HOK B S (m.ren seen) := by
  refine ⟨fun i => ?_, fun i j hi hj he => ?_, fun i hu => ?_, hk.base⟩
  · unfold RepO
    rw [getH_ren]
    cases hi : seen[i]? with
    | none => trivial
    | some j =>
      have hβ : (m.ren seen).β i = m.β j := by simp [M.ren, List.getD, hi]
      rw [hβ]
      have ho := hk.obj j
      unfold RepO at ho
      simp only
      cases hoj : getH m.h j with
      | dead => trivial
      | box ds =>
        rw [hoj] at ho
        obtain ⟨h1, us, e, h2, h3⟩ := ho
        exact ⟨h1, us, e, h2, h3.map_mono fun _ _ h => ren_repC h⟩
      | arr cs esz fz ety =>
        rw [hoj] at ho
        obtain ⟨h1, us, h2, h3, h4⟩ := ho
        exact ⟨h1, us, h2, h3, h4.mono fun x u h => RepC.mono ren_cell x u h⟩
  · rw [getH_ren] at hi hj
    cases hi' : seen[i]? with
    | none => rw [hi'] at hi; exact absurd rfl hi
    | some p =>
      cases hj' : seen[j]? with
      | none => rw [hj'] at hj; exact absurd rfl hj
      | some q =>
        rw [hi'] at hi
        rw [hj'] at hj
        have e1 : (m.ren seen).β i = m.β p := by simp [M.ren, List.getD, hi']
        have e2 : (m.ren seen).β j = m.β q := by simp [M.ren, List.getD, hj']
        rw [e1, e2] at he
        have hp : getH m.h p ≠ .dead := fun h => hi (renO_dead.2 h)
        have hq : getH m.h q ≠ .dead := fun h => hj (renO_dead.2 h)
        have hpq := hk.inj p q hp hq he
        subst hpq
        obtain ⟨l1, v1⟩ := List.getElem?_eq_some_iff.1 hi'
        obtain ⟨l2, v2⟩ := List.getElem?_eq_some_iff.1 hj'
        exact nodup_inj hn l1 l2 (v1.trans v2.symm)
  · rw [getH_ren]
    have : ¬ i < seen.length := hu
    rw [List.getElem?_eq_none (by omega)]

/-- what a loop's head does to what is known -/
theorem norm_ok {s : St} (hh : m.h = s.heap) (hU : UIs m s.nx) (hr : Rel B S w0 nt m s.env a) (keep : List Nat) :
    ∃ m' : M, m'.w = m.w ∧ m'.h = (normSt keep s).heap ∧ UIs m' (normSt keep s).nx ∧ Rel B S w0 nt m' (normSt keep s).env a ∧ (normSt keep s).sh = s.sh ∧ (s.sh = true → Evolves B S m m') := by
  have hr1 := hr.keep keep
  unfold normSt
  cases hs : s.sh with
  | true =>
    simp only [if_true]
    exact ⟨m, rfl, hh, hU, hr1, trivial, fun _ => Evolves.refl m⟩
  | false =>
    simp only [if_false, Bool.false_eq_true]
    have hn : (seenOf (keepE s.env keep) s.heap).Nodup := reach_nodup _ _ _ _ List.nodup_nil
    generalize seenOf (keepE s.env keep) s.heap = seen at hn
    refine ⟨m.ren seen, rfl, ?_, fun i => Iff.rfl, ⟨hr1.defers, hr1.size, fun t => ?_, ren_hok hr1.hok hn, hr1.below⟩, rfl, fun h => by cases h⟩
    · show renH m.h seen 0 seen = renH s.heap seen 0 seen
      rw [hh]
    · show RepD B S (m.ren seen) (getE (renE seen (keepE s.env keep)) t) _
      rw [getE_renE]
      exact ren_repD (hr1.env t)

end
end Go.Ev

namespace Go.Ev
open Go.RowKit

/-- the evaluator's functions are the program's -/
structure Table (P : Program) (shF : Nat → Bool) (F : Nat → Option IFunc) : Prop where
  ok : ∀ f I, F f = some I → ∃ fn an, P.funcs[f]? = some fn ∧ compFn P shF an fn = some I ∧ (fn.name == "runtime.NumGoroutine") = false
  mixed : P.follows .mixedOrders = true

def exOf : Ex → Exit
  | .normal => .normal
  | .exit id => .exit id
  | .ret => .ret

section
variable {P : Program} {shF : Nat → Bool} {F : Nat → Option IFunc}

def CPost (B : Nat) (S : Nat → Nat → Prop) (w0 : World) (nt : Nat) (m : M) (s : St) (x : Ex) (s' : St) (e : Exit) (a' : Act) (w' : World) : Prop :=
  ∃ m' : M, m'.w = w' ∧ e = exOf x ∧ m'.h = s'.heap ∧ UIs m' s'.nx ∧ Rel B S w0 nt m' s'.env a' ∧ s'.sh = s.sh ∧ (s.sh = true → Evolves B S m m')

/-- what is said of code, of a body, of a function, up to n -/
structure Sound (P : Program) (shF : Nat → Bool) (F : Nat → Option IFunc) (n : Nat) : Prop where
  code : ∀ (c : Code) (ic : ICode) (an an' : List (List Nat)) (nt : Nat), comp P shF nt c an = some (ic, an') → ∀ (B : Nat) (S : Nat → Nat → Prop) (w0 : World) (s : St) (x : Ex) (s' : St) (m : M) (a : Act),
    m.h = s.heap → UIs m s.nx → Rel B S w0 nt m s.env a → evCode F n ic s = some (x, s') → c.wp P (CPost B S w0 nt m s x s') a m.w
  loop : ∀ (cb : Code) (ib : ICode) (an an' : List (List Nat)) (nt : Nat) (keep : List Nat), comp P shF nt cb an = some (ib, an') → ∀ (B : Nat) (S : Nat → Nat → Prop) (w0 : World) (s : St) (x : Ex) (s' : St) (m : M) (a : Act),
    m.h = s.heap → UIs m s.nx → Rel B S w0 nt m s.env a → evCode F n (.loop keep ib) s = some (x, s') →
      ∀ (b : Frame) (k : List Item) (cs : List Frame), ∃ e a' w', CPost B S w0 nt m s x s' e a' w' ∧ Arrives P (lone (b.at a (.code cb :: .inLoop cb :: k)) cs m.w) b k cs e a' w'
  body : ∀ (sh : Bool) (f : Nat) (ds : List D) (h : Heap) (nx : Nat) (rs : List D) (h' : Heap) (nx' : Nat), evBody F n sh f ds h nx = some (rs, h', nx') →
    Callable P f ∧ ∀ (B : Nat) (S : Nat → Nat → Prop) (m : M) (us : List Value), m.h = h → UIs m nx → HOK B S m → All2 (RepD B S m) ds us →
      Calls P f us.toArray m.w fun e w' => ∃ (v : Value) (m' : M), e = .returned v ∧ m'.w = w' ∧ m'.h = h' ∧ UIs m' nx' ∧ HOK B S m' ∧ (sh = true → Evolves B S m m') ∧ RepD B S m' (tupD rs) v ∧ Below B m.w m'.w ∧ ∀ d, d ∈ rs → ∀ ds, d ≠ .tup ds
  shared : ∀ (B : Nat) (S : Nat → Nat → Prop) f ds h nx ds' h' nx', evSh F n f ds h nx = some (ds', h', nx') → ShOK B S P f ds h nx ds' h' nx'
  fn : ∀ f vs rs, evFn F n f vs = some rs → FnOK P f vs rs

theorem compFn_parts {an : List (List Nat)} {fn : Func} {I : IFunc} (h : compFn P shF an fn = some I) :
    ∃ c ic an', fn.body = some c ∧ comp P shF fn.ntmps c an = some (ic, an') ∧ compRes P fn.results.toList = some I.res ∧ I.body = ic ∧ I.nparams = fn.params.size ∧ fn.params.size ≤ fn.ntmps := by
  unfold compFn at h
  simp only [Option.bind_eq_bind, Option.bind_eq_some_iff, Prod.exists] at h
  obtain ⟨c, h1, ic, an', h2, rs, h3, h4⟩ := h
  split at h4
  · rename_i hc
    simp only [Option.some.injEq] at h4
    subst h4
    exact ⟨c, ic, an', h1, h2, h3, rfl, rfl, hc.2⟩
  · cases h4

theorem resD_ok {B : Nat} {S : Nat → Nat → Prop} {w0 : World} {nt : Nat} {m : M} {e : Env} {a : Act} (hr : Rel B S w0 nt m e a) : ∀ {vars : List ResultVar} {rs : List Res} {ds : List D}, compRes P vars = some rs → resD e m.h rs = some ds →
    ∃ us : List Value, (vars.mapM (fun v => match v with | ResultVar.tmp t => (pure (a.tmps.getD t undef) : Sem Value) | ResultVar.cell x t => do loadVar t (← asAddr (a.tmps.getD x undef)))).run P m.w = .ok us m.w ∧ All2 (RepA B S m) ds us ∧ ∀ d, d ∈ ds → ∀ ds, d ≠ .tup ds
  | [], rs, ds, hc, hd => by
    simp only [compRes, Option.some.injEq] at hc
    subst hc
    simp only [resD, Option.some.injEq] at hd
    subst hd
    exact ⟨[], rfl, trivial, by simp⟩
  | .tmp t :: vars, rs, ds, hc, hd => by
    simp only [compRes, Option.bind_eq_bind, Option.bind_eq_some_iff, Option.some.injEq] at hc
    obtain ⟨rs', h1, rfl⟩ := hc
    simp only [resD, Option.bind_eq_bind, Option.bind_eq_some_iff] at hd
    obtain ⟨ds', h2, h3⟩ := hd
    obtain ⟨us, h4, h5, h6⟩ := resD_ok hr h1 h2
    have henv := hr.env t
    have hA : ∃ d, ds = d :: ds' ∧ RepA B S m d (a.tmps.getD t undef) ∧ ∀ q, d ≠ .tup q := by
      cases hg : getE e t with
      | tup q => rw [hg] at h3; cases h3
      | _ => rw [hg] at h3 henv; simp only [Option.some.injEq] at h3; exact ⟨_, h3.symm, henv, fun q h => by cases h⟩
    obtain ⟨d, rfl, hA1, hA2⟩ := hA
    refine ⟨a.tmps.getD t undef :: us, ?_, ⟨hA1, h5⟩, fun d' hd' => ?_⟩
    · simp only [List.mapM_cons, Sem.run_bind, Sem.run_pure, Result.andThen_ok, h4]
    · simp only [List.mem_cons] at hd'
      rcases hd' with rfl | hd'
      · exact hA2
      · exact h6 d' hd'
  | .cell x t :: vars, rs, ds, hc, hd => by
    simp only [compRes, Option.bind_eq_bind, Option.bind_eq_some_iff, Option.some.injEq] at hc
    obtain ⟨agg, g1, i, g2, rs', h1, rfl⟩ := hc
    simp only [resD, Option.bind_eq_bind, Option.bind_eq_some_iff, Option.some.injEq] at hd
    obtain ⟨d, h0, ds', h2, rfl⟩ := hd
    obtain ⟨us, h4, h5, h6⟩ := resD_ok hr h1 h2
    obtain ⟨ad, v, e1, e2, e3⟩ := loadD_ok hr.hok g1 g2 (hr.env x) h0
    refine ⟨v :: us, ?_, ⟨e3, h5⟩, fun d' hd' => ?_⟩
    · have hA : (asAddr (.pointer (some ad))).run P m.w = .ok ad m.w := rfl
      simp only [List.mapM_cons, Sem.run_bind, e1, hA, Sem.run_pure, Result.andThen_ok, e2, h4]
    · simp only [List.mem_cons] at hd'
      rcases hd' with rfl | hd'
      · intro q hq
        subst hq
        exact e3.elim
      · exact h6 d' hd'

theorem results_ok {B : Nat} {S : Nat → Nat → Prop} {w0 : World} {nt : Nat} {m : M} {e : Env} {a : Act} (hr : Rel B S w0 nt m e a) {fn : Func} {rs : List Res} {ds : List D} (hc : compRes P fn.results.toList = some rs) (hd : resD e m.h rs = some ds) :
    ∃ v, (results fn a.tmps).run P m.w = .ok v m.w ∧ RepD B S m (tupD ds) v ∧ ∀ d, d ∈ ds → ∀ ds, d ≠ .tup ds := by
  obtain ⟨us, h1, h2, h3⟩ := resD_ok hr hc hd
  have hrun : (fn.results.mapM (fun v => match v with | ResultVar.tmp t => (pure (a.tmps.getD t undef) : Sem Value) | ResultVar.cell x t => do loadVar t (← asAddr (a.tmps.getD x undef)))).run P m.w = .ok us.toArray m.w := by
    rw [Array.mapM_eq_mapM_toList, Sem.run_map, h1]
    rfl
  refine ⟨if h : us.toArray.size = 1 then us.toArray[0] else .tuple us.toArray, ?_, ?_, h3⟩
  · unfold results
    simp only [Sem.run_bind, Sem.run_pure]
    exact congrArg (fun r : Result (Array Value) => r.andThen fun a w' => Result.ok (if h : a.size = 1 then a[0] else Value.tuple a) w') hrun
  · match ds, us, h2 with
    | [d], [u], h2 => exact h2.1.toD
    | [], [], h2 => exact ⟨[], rfl, trivial⟩
    | d :: d' :: ds, u :: u' :: us, h2 => exact ⟨u :: u' :: us, rfl, h2⟩

theorem bindArgs_get : ∀ (ds : List D) (k t : Nat), getE (bindArgs k ds) t = if k ≤ t then (ds[t - k]?).getD .unk else .unk
  | [], k, t => by simp [bindArgs, getE]
  | d :: ds, k, t => by
    simp only [bindArgs, getE]
    by_cases h : k = t
    · subst h; simp
    · rw [if_neg h, bindArgs_get ds (k + 1) t]
      by_cases h2 : k + 1 ≤ t
      · rw [if_pos h2, if_pos (by omega), show t - k = (t - (k + 1)) + 1 by omega]
        simp
      · rw [if_neg h2, if_neg (by omega)]

theorem sound_zero : Sound P shF F 0 where
  code := by intro c ic an an' nt _ B S w0 s x s' m a _ _ _ h; simp [evCode] at h
  loop := by intro cb ib an an' nt keep _ B S w0 s x s' m a _ _ _ h; simp [evCode] at h
  body := by intro sh f ds h nx rs h' nx' hh; simp [evBody] at hh
  shared := by intro B S f ds h nx ds' h' nx' hh; simp [evSh] at hh
  fn := by intro f vs rs hh; simp [evFn] at hh

theorem sound_loop {n : Nat} (ih : Sound P shF F n) : ∀ (cb : Code) (ib : ICode) (an an' : List (List Nat)) (nt : Nat) (keep : List Nat), comp P shF nt cb an = some (ib, an') → ∀ (B : Nat) (S : Nat → Nat → Prop) (w0 : World) (s : St) (x : Ex) (s' : St) (m : M) (a : Act),
    m.h = s.heap → UIs m s.nx → Rel B S w0 nt m s.env a → evCode F (n + 1) (.loop keep ib) s = some (x, s') →
      ∀ (b : Frame) (k : List Item) (cs : List Frame), ∃ e a' w', CPost B S w0 nt m s x s' e a' w' ∧ Arrives P (lone (b.at a (.code cb :: .inLoop cb :: k)) cs m.w) b k cs e a' w' := by
  intro cb ib an an' nt keep h1 B S w0 s x s' m a hh hU hr hev b k cs
  simp only [evCode, Option.bind_eq_bind, Option.bind_eq_some_iff, Prod.exists] at hev
  obtain ⟨x1, s1, h3, h4⟩ := hev
  obtain ⟨m0, p1, p2, p3, p4, p5, p6⟩ := norm_ok hh hU hr keep
  have hbody := ih.code _ _ _ _ _ h1 B S w0 (normSt keep s) x1 s1 m0 a p2 p3 p4 h3
  rw [p1] at hbody
  obtain ⟨e1, a1, w1, hq, harr⟩ := hbody b (.inLoop cb :: k) cs
  obtain ⟨m1, rfl, rfl, q1, q2, q3, q4, q5⟩ := hq
  have q5' : s.sh = true → Evolves B S m m1 := fun hs => (p6 hs).trans (q5 (by rw [p5]; exact hs))
  cases x1 with
  | normal =>
    simp only at h4
    obtain ⟨e2, a2, w2, hq2, harr2⟩ := ih.loop cb ib an an' nt keep h1 B S w0 s1 x s' m1 a1 q1 q2 q3 h4 b k cs
    obtain ⟨m2, rfl, rfl, r1, r2, r3, r4, r5⟩ := hq2
    refine ⟨exOf x, a2, m2.w, ⟨m2, rfl, rfl, r1, r2, r3, (r4.trans q4).trans p5, fun hs => (q5' hs).trans (r5 (by rw [q4, p5]; exact hs))⟩, ?_⟩
    have hstart : Steps P (lone (b.at a (.code cb :: .inLoop cb :: k)) cs m.w) (lone (b.at a1 (.inLoop cb :: k)) cs m1.w) := harr
    exact .of_steps (hstart.trans (.one step_inLoop)) harr2
  | exit id =>
    simp only [Option.some.injEq, Prod.mk.injEq] at h4
    obtain ⟨rfl, rfl⟩ := h4
    exact ⟨exOf (.exit id), a1, m1.w, ⟨m1, rfl, rfl, q1, q2, q3, q4.trans p5, q5'⟩, .pass (x := .inLoop cb) rfl (fun _ _ => .inl (by simp [exOf])) harr⟩
  | ret =>
    simp only [Option.some.injEq, Prod.mk.injEq] at h4
    obtain ⟨rfl, rfl⟩ := h4
    exact ⟨exOf .ret, a1, m1.w, ⟨m1, rfl, rfl, q1, q2, q3, q4.trans p5, q5'⟩, .pass (x := .inLoop cb) rfl (fun _ _ => .inl (by simp [exOf])) harr⟩

theorem sound_code (hT : Table P shF F) {n : Nat} (ih : Sound P shF F n) : ∀ (c : Code) (ic : ICode) (an an' : List (List Nat)) (nt : Nat), comp P shF nt c an = some (ic, an') →
    ∀ (B : Nat) (S : Nat → Nat → Prop) (w0 : World) (s : St) (x : Ex) (s' : St) (m : M) (a : Act), m.h = s.heap → UIs m s.nx → Rel B S w0 nt m s.env a → evCode F (n + 1) ic s = some (x, s') → c.wp P (CPost B S w0 nt m s x s') a m.w := by
  intro c ic an an' nt hc B S w0 s x s' m a hh hU hr hev
  unfold comp at hc
  split at hc
  · simp only [Option.some.injEq, Prod.mk.injEq] at hc
    obtain ⟨rfl, rfl⟩ := hc
    simp only [evCode, Option.some.injEq, Prod.mk.injEq] at hev
    obtain ⟨rfl, rfl⟩ := hev
    exact wp_skip ⟨m, rfl, rfl, hh, hU, hr, rfl, fun _ => Evolves.refl m⟩
  · simp only [Option.some.injEq, Prod.mk.injEq] at hc
    obtain ⟨rfl, rfl⟩ := hc
    simp only [evCode, Option.some.injEq, Prod.mk.injEq] at hev
    obtain ⟨rfl, rfl⟩ := hev
    exact wp_ret ⟨m, rfl, rfl, hh, hU, hr, rfl, fun _ => Evolves.refl m⟩
  · simp only [Option.some.injEq, Prod.mk.injEq] at hc
    obtain ⟨rfl, rfl⟩ := hc
    simp only [evCode, Option.some.injEq, Prod.mk.injEq] at hev
    obtain ⟨rfl, rfl⟩ := hev
    exact wp_exit ⟨m, rfl, rfl, hh, hU, hr, rfl, fun _ => Evolves.refl m⟩
  · rename_i id ops
    simp only [Option.bind_eq_bind, Option.bind_eq_some_iff] at hc
    obtain ⟨is, h1, h2⟩ := hc
    split at h2
    case h_2 => cases h2
    simp only [Option.some.injEq, Prod.mk.injEq] at h2
    obtain ⟨rfl, rfl⟩ := h2
    simp only [evCode, Option.bind_eq_bind, Option.bind_eq_some_iff, Option.some.injEq, Prod.mk.injEq] at hev
    obtain ⟨s1, h3, rfl, rfl⟩ := hev
    refine wp_region_list (seq_ok ih.fn (fun f ds h nx ds' h' nx' hs => ih.shared B S f ds h nx ds' h' nx' hs) ops.toList is h1 s s1 m a hh hU hr h3 fun a' m' q1 q2 q3 q4 q5 => ?_)
    exact ⟨m', rfl, rfl, q1, q2, q5.keep _, q3, fun _ => q4⟩
  · rename_i id ops
    simp only [Option.bind_eq_bind, Option.bind_eq_some_iff] at hc
    obtain ⟨is, h1, h2⟩ := hc
    split at h2
    case h_2 => cases h2
    split at h2
    case isFalse => cases h2
    rename_i hcc
    simp only [Option.some.injEq, Prod.mk.injEq] at h2
    obtain ⟨rfl, rfl⟩ := h2
    simp only [evCode, Option.bind_eq_bind, Option.bind_eq_some_iff, Prod.exists] at hev
    obtain ⟨e1, h1', ts, h3, h4⟩ := hev
    split at h4
    case isFalse => cases h4
    rename_i hdr
    simp only [Option.some.injEq, Prod.mk.injEq] at h4
    obtain ⟨rfl, rfl⟩ := h4
    refine draw_ok hT.mixed ih.fn h1 hcc.1 hcc.2 hh hU hr h3 hdr fun a' m' q1 q2 q3 q4 => ?_
    exact ⟨m', rfl, rfl, q1, q2, q4.keep _, rfl, fun _ => q3⟩
  · rename_i ca cb
    simp only [Option.bind_eq_bind, Option.bind_eq_some_iff, Prod.exists, Option.some.injEq, Prod.mk.injEq] at hc
    obtain ⟨ia, an1, h1, ib, an2, h2, rfl, rfl⟩ := hc
    simp only [evCode, Option.bind_eq_bind, Option.bind_eq_some_iff, Prod.exists] at hev
    obtain ⟨x1, s1, h3, h4⟩ := hev
    refine wp_seq (wp_mono (ih.code _ _ _ _ _ h1 B S w0 s x1 s1 m a hh hU hr h3) fun e a1 w1 hp => ?_)
    obtain ⟨m1, rfl, rfl, q1, q2, q3, q4, q5⟩ := hp
    cases x1 with
    | normal =>
      simp only at h4
      refine wp_mono (ih.code _ _ _ _ _ h2 B S w0 s1 x s' m1 a1 q1 q2 q3 h4) fun e a2 w2 hp2 => ?_
      obtain ⟨m2, rfl, rfl, r1, r2, r3, r4, r5⟩ := hp2
      exact ⟨m2, rfl, rfl, r1, r2, r3, r4.trans q4, fun hs => (q5 hs).trans (r5 (by rw [q4]; exact hs))⟩
    | exit id =>
      simp only [Option.some.injEq, Prod.mk.injEq] at h4
      obtain ⟨rfl, rfl⟩ := h4
      exact ⟨m1, rfl, rfl, q1, q2, q3, q4, q5⟩
    | ret =>
      simp only [Option.some.injEq, Prod.mk.injEq] at h4
      obtain ⟨rfl, rfl⟩ := h4
      exact ⟨m1, rfl, rfl, q1, q2, q3, q4, q5⟩
  · rename_i cc ca cb
    simp only [Option.bind_eq_bind, Option.bind_eq_some_iff, Prod.exists, Option.some.injEq, Prod.mk.injEq] at hc
    obtain ⟨X', hx, ia, an1, h1, ib, an2, h2, rfl, rfl⟩ := hc
    simp only [evCode, Option.bind_eq_bind, Option.bind_eq_some_iff] at hev
    obtain ⟨t, h3, h4⟩ := hev
    have e1 := hr.opd cc X' hx
    rw [asBool_some h3] at e1
    refine wp_cond e1.lit ?_
    cases t with
    | true => exact ih.code _ _ _ _ _ h1 B S w0 s x s' m a hh hU hr h4
    | false => exact ih.code _ _ _ _ _ h2 B S w0 s x s' m a hh hU hr h4
  · rename_i id cb
    simp only [Option.bind_eq_bind, Option.bind_eq_some_iff, Prod.exists, Option.some.injEq, Prod.mk.injEq] at hc
    obtain ⟨ib, an1, h1, rfl, rfl⟩ := hc
    simp only [evCode, Option.bind_eq_bind, Option.bind_eq_some_iff, Prod.exists] at hev
    obtain ⟨x1, s1, h3, h4⟩ := hev
    refine wp_block (wp_mono (ih.code _ _ _ _ _ h1 B S w0 s x1 s1 m a hh hU hr h3) fun e a1 w1 hp => ?_)
    obtain ⟨m1, rfl, rfl, q1, q2, q3, q4, q5⟩ := hp
    cases x1 with
    | normal =>
      simp only [Option.some.injEq, Prod.mk.injEq] at h4
      obtain ⟨rfl, rfl⟩ := h4
      exact ⟨m1, rfl, rfl, q1, q2, q3, q4, q5⟩
    | ret =>
      simp only [Option.some.injEq, Prod.mk.injEq] at h4
      obtain ⟨rfl, rfl⟩ := h4
      exact ⟨m1, rfl, rfl, q1, q2, q3, q4, q5⟩
    | exit id' =>
      simp only at h4
      show (if id' = id then _ else _)
      split at h4
      · rename_i he
        rw [if_pos he]
        simp only [Option.some.injEq, Prod.mk.injEq] at h4
        obtain ⟨rfl, rfl⟩ := h4
        exact ⟨m1, rfl, rfl, q1, q2, q3, q4, q5⟩
      · rename_i he
        rw [if_neg he]
        simp only [Option.some.injEq, Prod.mk.injEq] at h4
        obtain ⟨rfl, rfl⟩ := h4
        exact ⟨m1, rfl, rfl, q1, q2, q3, q4, q5⟩
  · rename_i cb
    split at hc
    case h_2 => cases hc
    rename_i keep an0
    simp only [Option.bind_eq_bind, Option.bind_eq_some_iff, Prod.exists, Option.some.injEq, Prod.mk.injEq] at hc
    obtain ⟨ib, an1, h1, rfl, rfl⟩ := hc
    intro b k cs
    obtain ⟨e1, a1, w1, hq, harr⟩ := sound_loop ih cb ib an0 an1 nt keep h1 B S w0 s x s' m a hh hU hr hev b k cs
    exact ⟨e1, a1, w1, hq, .of_steps (.one step_loop) harr⟩
  · cases hc

theorem sound_body (hT : Table P shF F) {n : Nat} (ih : Sound P shF F n) : ∀ (sh : Bool) (f : Nat) (ds : List D) (h : Heap) (nx : Nat) (rs : List D) (h' : Heap) (nx' : Nat), evBody F (n + 1) sh f ds h nx = some (rs, h', nx') →
    Callable P f ∧ ∀ (B : Nat) (S : Nat → Nat → Prop) (m : M) (us : List Value), m.h = h → UIs m nx → HOK B S m → All2 (RepD B S m) ds us →
      Calls P f us.toArray m.w fun e w' => ∃ (v : Value) (m' : M), e = .returned v ∧ m'.w = w' ∧ m'.h = h' ∧ UIs m' nx' ∧ HOK B S m' ∧ (sh = true → Evolves B S m m') ∧ RepD B S m' (tupD rs) v ∧ Below B m.w m'.w ∧ ∀ d, d ∈ rs → ∀ ds, d ≠ .tup ds := by
  intro sh f ds h nx rs h' nx' hev
  simp only [evBody, Option.bind_eq_bind, Option.bind_eq_some_iff] at hev
  obtain ⟨I, hI, hev⟩ := hev
  split at hev
  case isFalse => cases hev
  rename_i hlen
  simp only [Option.bind_eq_some_iff, Prod.exists] at hev
  obtain ⟨x, s1, h1, h2⟩ := hev
  obtain ⟨fn, an, g1, g2, g3⟩ := hT.ok f I hI
  obtain ⟨c, ic, an', b1, b2, b3, b4, b5, b6⟩ := compFn_parts g2
  refine ⟨⟨fn, g1, by rw [b1]; rfl, g3⟩, fun B S m us hh hU hk hall => ?_⟩
  have hus : us.length = fn.params.size := by rw [← hall.len, hlen, b5]
  have hfin : ∃ rs0, resD s1.env s1.heap I.res = some rs0 ∧ rs = rs0 ∧ h' = s1.heap ∧ nx' = s1.nx ∧ x ≠ .exit 0 ∧ (∀ id, x ≠ .exit id) := by
    cases x with
    | exit id => simp at h2
    | normal =>
      simp only [Option.bind_eq_some_iff, Option.some.injEq, Prod.mk.injEq] at h2
      obtain ⟨rs0, h3, rfl, rfl, rfl⟩ := h2
      exact ⟨rs0, h3, rfl, rfl, rfl, by simp, by simp⟩
    | ret =>
      simp only [Option.bind_eq_some_iff, Option.some.injEq, Prod.mk.injEq] at h2
      obtain ⟨rs0, h3, rfl, rfl, rfl⟩ := h2
      exact ⟨rs0, h3, rfl, rfl, rfl, by simp, by simp⟩
  obtain ⟨rs0, hres, rfl, rfl, rfl, _, hnx⟩ := hfin
  refine calls_of_wp g1 b1 ?_
  have hsz : us.toArray.size = fn.params.size := by simpa using hus
  have hrel : Rel B S m.w fn.ntmps m (bindArgs 0 ds) { tmps := us.toArray ++ Array.replicate (fn.ntmps - us.toArray.size) undef, defers := [] } := by
    refine ⟨rfl, by simp; omega, fun t => ?_, hk, Below.refl _ _⟩
    rw [bindArgs_get]
    simp only [Nat.zero_le, if_true, Nat.sub_zero]
    cases hd : ds[t]? with
    | none => trivial
    | some d =>
      obtain ⟨u, hu, hR⟩ := hall.get t hd
      have : (us.toArray ++ Array.replicate (fn.ntmps - us.toArray.size) undef).getD t undef = u := by
        have hlt : t < us.length := (List.getElem?_eq_some_iff.1 hu).1
        simp [Array.getElem?_append, hlt]
        exact (List.getElem?_eq_some_iff.1 hu).2
      rw [this]
      exact hR
  rw [b4] at h1
  have hwp := ih.code c ic an an' fn.ntmps b2 B S m.w ⟨bindArgs 0 ds, h, nx, sh⟩ x s1 m _ hh hU hrel h1
  refine wp_mono hwp fun e a' w' hp => ?_
  obtain ⟨m', rfl, rfl, q1, q2, q3, q4, q5⟩ := hp
  obtain ⟨v, r1, r2, r3⟩ := results_ok q3 b3 (by rw [q1]; exact hres)
  have hpost : a'.defers = [] ∧ ∃ v, (results fn a'.tmps).run P m'.w = .ok v m'.w ∧ (∃ (v' : Value) (m'' : M), Ending.returned v = .returned v' ∧ m''.w = m'.w ∧ m''.h = s1.heap ∧ UIs m'' s1.nx ∧ HOK B S m'' ∧ (sh = true → Evolves B S m m'') ∧ RepD B S m'' (tupD rs) v' ∧ Below B m.w m''.w ∧ ∀ d, d ∈ rs → ∀ ds, d ≠ .tup ds) :=
    ⟨q3.defers, v, r1, v, m', rfl, rfl, q1, q2, q3.hok, q5, r2, q3.below, r3⟩
  cases x with
  | exit id => exact absurd rfl (hnx id)
  | normal => exact hpost
  | ret => exact hpost

theorem sound_shared {n : Nat} (ih : Sound P shF F n) : ∀ (B : Nat) (S : Nat → Nat → Prop) f ds h nx ds' h' nx', evSh F (n + 1) f ds h nx = some (ds', h', nx') → ShOK B S P f ds h nx ds' h' nx' := by
  intro B S f ds h nx ds' h' nx' hev
  simp only [evSh] at hev
  obtain ⟨hc, hb⟩ := ih.body true f ds h nx ds' h' nx' hev
  refine ⟨hc, fun m us hh hU hk hall => (hb B S m us hh hU hk hall).mono fun e w' ⟨v, m', q1, q2, q3, q4, q5, q6, q7, q8, _⟩ => ⟨v, m', q1, q2, q3, q4, q5, q6 rfl, q7, q8⟩⟩

theorem RepV.toD0 {B : Nat} {S : Nat → Nat → Prop} {m : M} (h0 : ∀ id, getH m.h id = .dead) {v : V} {u : Value} (h : RepV m.w S v u) : RepD B S m v.toD u := by
  have h1 : RepV m.w (Safe B S m) v u := RepV.weaken (fun b o hs _ => ⟨fun _ => hs, fun id => by rw [h0]; trivial⟩) h
  exact (RepV.toD h1).toD

theorem All2.map_mono' {α β γ : Type} {R : α → β → Prop} {R' : γ → β → Prop} {f : α → γ} (h : ∀ a b, R a b → R' (f a) b) {as : List α} {bs : List β} (h1 : All2 R as bs) : All2 R' (as.map f) bs := All2.map_mono h h1

theorem sound_fn {n : Nat} (ih : Sound P shF F n) : ∀ f vs rs, evFn F (n + 1) f vs = some rs → FnOK P f vs rs := by
  intro f vs rs hev
  simp only [evFn, Option.bind_eq_bind, Option.bind_eq_some_iff, Prod.exists, Option.some.injEq] at hev
  obtain ⟨ds, h, nx, h1, rs', us0, h2, rfl⟩ := hev
  obtain ⟨hc, hb⟩ := ih.body false f _ _ _ ds h nx h1
  refine ⟨hc, fun S w us hall => ?_⟩
  have hk : HOK w.heap.size S ⟨w, [], fun _ => 0, fun i => i < 0⟩ := ⟨fun id => trivial, fun i j hi _ _ => absurd rfl hi, fun _ _ => rfl, Nat.le_refl _⟩
  have hall' : All2 (RepD w.heap.size S ⟨w, [], fun _ => 0, fun i => i < 0⟩) (vs.map V.toD) us := hall.map_mono fun v u hv => RepV.toD0 (m := ⟨w, [], fun _ => 0, fun i => i < 0⟩) (fun _ => rfl) hv
  refine (hb w.heap.size S ⟨w, [], fun _ => 0, fun i => i < 0⟩ us rfl (fun _ => Iff.rfl) hk hall').mono fun e w' ⟨v, m', q1, q2, q3, q4, q5, _, q7, q8, q9⟩ => ?_
  subst q1 q2
  refine ⟨v, rfl, ?_, q8⟩
  have weak : ∀ {h'' : Heap} {r : V} {u : Value}, RepV m'.w (Safe w.heap.size S (m'.heap h'')) r u → RepV m'.w (fun b o => b < w.heap.size → S b o) r u := fun hr => RepV.weaken (fun b o hs _ => hs.1) hr
  rw [← q3] at h2
  match ds, q7, h2, q9 with
  | [d], q7, h2, q9 =>
    simp only [frzVs, Option.bind_eq_bind, Option.bind_eq_some_iff, Prod.exists, Option.some.injEq, Prod.mk.injEq] at h2
    obtain ⟨c, x, h3, cs', xs', ⟨rfl, rfl⟩, rfl, rfl⟩ := h2
    have hA : RepA w.heap.size S m' d v := by
      cases d with
      | tup q => exact absurd rfl (q9 (.tup q) (by simp) q)
      | _ => exact q7
    exact weak (frzV_ok q5 hA h3).2.2
  | [], q7, h2, q9 =>
    simp only [frzVs, Option.some.injEq, Prod.mk.injEq] at h2
    obtain ⟨rfl, rfl⟩ := h2
    obtain ⟨vs', rfl, hv⟩ := q7
    cases vs' with
    | nil => exact ⟨[], rfl, trivial⟩
    | cons _ _ => exact hv.elim
  | d :: d' :: ds, q7, h2, q9 =>
    obtain ⟨vs', rfl, hv⟩ := q7
    have h3 := (frzVs_ok q5 hv h2).2.2
    have hlen := h3.len
    match rs', h3 with
    | [], h3 => cases vs' with | nil => exact hv.elim | cons _ _ => exact h3.elim
    | [r], h3 =>
      exfalso
      have := hv.len
      rw [← hlen] at this
      simp at this
    | r :: r' :: rs'', h3 => exact ⟨vs', rfl, h3.mono fun _ _ h => weak h⟩

theorem sound (hT : Table P shF F) : ∀ n, Sound P shF F n
  | 0 => sound_zero
  | n + 1 => ⟨sound_code hT (sound hT n), sound_loop (sound hT n), sound_body hT (sound hT n), sound_shared (sound hT n), sound_fn (sound hT n)⟩

/-- THE EVALUATOR IS RIGHT. -/
theorem ev_sound (hT : Table P shF F) {n f : Nat} {vs rs : List V} (h : evFn F n f vs = some rs) : FnOK P f vs rs := (sound hT n).fn f vs rs h

end
end Go.Ev

