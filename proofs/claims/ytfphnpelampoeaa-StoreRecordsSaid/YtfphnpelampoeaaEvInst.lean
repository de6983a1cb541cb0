/-
  One instruction of a region, frozen calls among them; a region whose order is fixed.
-/
import Derived.Test.YtfphnpelampoeaaEvStep
namespace Go.Ev
open Go.RowKit

/-- what a call hands back -/
def RepRet (w : World) (Sf : Nat → Nat → Prop) : List V → Value → Prop
  | [r], v => RepV w Sf r v
  | rs, v => ∃ us : List Value, v = .tuple us.toArray ∧ All2 (RepV w Sf) rs us

def Callable (P : Program) (f : Nat) : Prop := ∃ fn, P.funcs[f]? = some fn ∧ fn.body.isNone = false ∧ (fn.name == "runtime.NumGoroutine") = false

/-- what is known of a function at some arguments: it returns, what it returns is rs, nothing that was there has turned -/
def FnOK (P : Program) (f : Nat) (vs rs : List V) : Prop :=
  Callable P f ∧ ∀ (S : Nat → Nat → Prop) (w : World) (us : List Value), All2 (RepV w S) vs us →
    Calls P f us.toArray w fun e w' => ∃ v, e = .returned v ∧ RepRet w' (fun b o => b < w.heap.size → S b o) rs v ∧ Below w.heap.size w w'

section
variable {B : Nat} {S : Nat → Nat → Prop} {P : Program} {o : Oper} {a : Act} {m : M} {slot : Nat} {d : D} {us : List (Nat × Obj)} {shF : Nat → Bool} {nt : Nat} {w0 : World} {e : Env}

theorem run_call {f : Nat} (hf : Callable P f) {args : Array Operand} {ts : Array TypeId} (hop : o.op = .call { callee := .value (.func f), args, argTypes := ts }) (w : World) :
    (execOp a.eval o).run P w = .ok (.enter f (args.map a.eval)) w := by
  obtain ⟨fn, h1, h2, h3⟩ := hf
  have h2' : ¬ fn.body = none := fun h => by rw [h] at h2; cases h2
  have h3' : ¬ fn.name = "runtime.NumGoroutine" := by simpa using h3
  simp [execOp, hop, resolve, Act.eval, Deferred.ofValue, invoke, callFunc, h1, h2', h3']

theorem frzVs_ok' : ∀ {ds : List D} {us : List Value} {m : M}, HOK B S m → All2 (RepD B S m) ds us → ∀ {vs : List V} {xs : List (Nat × Obj)}, frzVs m.h ds = some (vs, xs) →
    HOK B S (m.heap (updH m.h xs)) ∧ Evolves B S m (m.heap (updH m.h xs)) ∧ All2 (RepV m.w (Safe B S (m.heap (updH m.h xs)))) vs us
  | [], [], m, hk, _, cs, xs, hf => by
    simp only [frzVs, Option.some.injEq, Prod.mk.injEq] at hf
    obtain ⟨rfl, rfl⟩ := hf
    exact ⟨hk, Evolves.refl m, trivial⟩
  | d :: ds, u :: us, m, hk, hr, cs, xs, hf => by
    simp only [frzVs, Option.bind_eq_bind, Option.bind_eq_some_iff, Prod.exists, Option.some.injEq, Prod.mk.injEq] at hf
    obtain ⟨c, x, h1, cs', xs', h2, rfl, rfl⟩ := hf
    have hr1 : RepA B S m d u := by
      cases d with
      | tup ds => simp [frzV, frz] at h1
      | _ => exact hr.1
    obtain ⟨k1, k2, k3⟩ := frzV_ok hk hr1 h1
    have hr2 : All2 (RepD B S (m.heap (updH m.h x))) ds us := hr.2.mono fun _ _ h => k2.repD h
    obtain ⟨k4, k5, k6⟩ := frzVs_ok' (m := m.heap (updH m.h x)) k1 hr2 h2
    rw [updH_append]
    exact ⟨k4, k2.trans k5, RepV.mono k5.cell k3, k6⟩
  | [], _ :: _, _, _, hr, _, _, _ => hr.elim
  | _ :: _, [], _, _, hr, _, _, _ => hr.elim

theorem RepV.toD {m : M} {v : V} {u : Value} (h : RepV m.w (Safe B S m) v u) : RepA B S m v.toD u := by
  cases v with
  | one c => exact h
  | agg cs => obtain ⟨us, h1, h2⟩ := h; exact ⟨us, h1, All2.map_left h2⟩

theorem RepRet.toD {m : M} {rs : List V} {u : Value} (h : RepRet m.w (Safe B S m) rs u) : RepD B S m (retD rs) u := by
  match rs, h with
  | [r], h => exact (RepV.toD h).toD
  | [], h => obtain ⟨us, rfl, h2⟩ := h; exact ⟨us, rfl, All2.map_left (h2.mono fun v u h => RepV.toD h)⟩
  | r :: r' :: rs, h => obtain ⟨us, rfl, h2⟩ := h; exact ⟨us, rfl, All2.map_left (h2.mono fun v u h => RepV.toD h)⟩

theorem RepV.weaken {w : World} {Sf Sf' : Nat → Nat → Prop} (h : ∀ b o, Sf b o → b < w.heap.size → Sf' b o) {v : V} {u : Value} (hr : RepV w Sf v u) : RepV w Sf' v u :=
  RepV.mono (fun b o _ h1 h2 => ⟨h1, h b o h2 (cell_lt h1)⟩) hr

theorem RepRet.weaken {w : World} {Sf Sf' : Nat → Nat → Prop} (h : ∀ b o, Sf b o → b < w.heap.size → Sf' b o) {rs : List V} {u : Value} (hr : RepRet w Sf rs u) : RepRet w Sf' rs u := by
  unfold RepRet at hr ⊢
  split at hr
  · exact RepV.weaken h hr
  · obtain ⟨us, h1, h2⟩ := hr
    exact ⟨us, h1, h2.mono fun _ _ h3 => RepV.weaken h h3⟩

theorem below_mono_base {w w' : World} {k : Nat} (h : Below k w w') (hB : B ≤ k) : Below B w w' := h.mono hB

/-- what lies in new blocks, or was safe, is safe behind a call -/
theorem safe_after {m : M} (hk : HOK B S m) {w' : World} {b q : Nat} (h : b < m.w.heap.size → Safe B S m b q) : Safe B S (m.world w') b q := by
  by_cases hb : b < m.w.heap.size
  · exact h hb
  · refine ⟨fun h1 => ?_, fun id => ?_⟩
    · have := hk.base; omega
    · show match getH m.h id with | .dead => True | .box _ => m.β id ≠ b | .arr _ _ fz _ => m.β id = b → q < fz
      cases ho : getH m.h id with
      | dead => trivial
      | box ds => have := hk.lt (id := id) (by rw [ho]; simp); intro e; omega
      | arr cs esz fz ety => have := hk.lt (id := id) (by rw [ho]; simp); intro e; omega

theorem call_wp (hk : HOK B S m) {f : Nat} {args : Array Operand} {ts : Array TypeId} (hop : o.op = .call { callee := .value (.func f), args, argTypes := ts }) {ds : List D} (hd : All2 (RepD B S m) ds (args.map a.eval).toList) {vs rs : List V}
    (hf : frzVs m.h ds = some (vs, us)) (hfn : FnOK P f vs rs) {K : Act → World → Prop} {Q : Exit → Act → World → Prop} (hK : ∀ v w', Post B S m slot us (retD rs) v w' → K (a.put o.dst v) w') : o.wp P a m.w K Q := by
  obtain ⟨k1, k2, k3⟩ := frzVs_ok' hk hd hf
  unfold Oper.wp
  rw [run_call hfn.1 hop]
  show Calls P f (args.map a.eval) m.w _
  have hc := hfn.2 _ m.w _ k3
  have he : (args.map a.eval).toList.toArray = args.map a.eval := Array.toArray_toList
  rw [he] at hc
  refine hc.mono fun e w' ⟨v, hv, h1, h2⟩ => ?_
  subst hv
  refine hK v w' ⟨m.β, ?_⟩
  have hb : ∀ k, k < m.w.heap.size → w'.heap[k]? = m.w.heap[k]? := h2.block
  have ev2 := world_evolves k1 (w' := w') hb
  have hk2 := world_hok k1 (w' := w') hb h2.size
  refine ⟨grow_hok hk2 slot, (k2.trans ev2).trans (grow_evolves _ slot), ?_, h2.mono hk.base⟩
  refine (grow_evolves ((m.heap (updH m.h us)).world w') slot).repD (RepRet.toD ?_)
  exact RepRet.weaken (fun b q h _ => safe_after k1 h) h1

/-- what holds of a frame and a memory -/
structure Rel (B : Nat) (S : Nat → Nat → Prop) (w0 : World) (nt : Nat) (m : M) (e : Env) (a : Act) : Prop where
  defers : a.defers = []
  size : a.tmps.size = nt
  env : ∀ t, RepD B S m (getE e t) (a.tmps.getD t undef)
  hok : HOK B S m
  below : Below B w0 m.w

theorem Rel.opd (hr : Rel B S w0 nt m e a) : Opd B S m (evX e) a := by
  intro x X' hx
  cases x with
  | tmp t => simp [compX] at hx; subst hx; exact hr.env t
  | const v =>
    simp only [compX] at hx
    split at hx
    · rename_i hs
      simp only [Option.some.injEq] at hx
      subst hx
      simp only [evX, hs, if_true]
      exact RepD.mkLit hs
    · cases hx
  | global g => simp [compX] at hx
  | func f => simp [compX] at hx

theorem getE_putE (e : Env) (dst : Option Nat) (d : D) (t : Nat) : getE (putE e dst d) t = if dst = some t then d else getE e t := by
  cases dst with
  | none => simp [putE]
  | some t' =>
    simp only [putE, getE, Option.some.injEq]

theorem Rel.put (hr : Rel B S w0 nt m e a) {dst : Option Nat} (hd : dstOk nt dst = true) {d : D} {v : Value} (h : RepD B S m d v) : Rel B S w0 nt m (putE e dst d) (a.put dst v) := by
  cases dst with
  | none => exact hr
  | some t' =>
    have hlt : t' < nt := by simpa [dstOk] using hd
    refine ⟨hr.defers, by simpa [Act.put] using hr.size, fun t => ?_, hr.hok, hr.below⟩
    rw [getE_putE]
    by_cases ht : t' = t
    · subst ht
      have : (a.put (some t') v).tmps.getD t' undef = v := by simp [Act.put, hr.size, hlt]
      simp only [if_true, this]
      exact h
    · have : (a.put (some t') v).tmps.getD t undef = a.tmps.getD t undef := by simp [Act.put, Array.getElem?_setIfInBounds_ne ht]
      rw [this, if_neg (by simpa using ht)]
      exact hr.env t

theorem Rel.evolve (hr : Rel B S w0 nt m e a) {m' : M} (hev : Evolves B S m m') (hk : HOK B S m') (hb : Below B m.w m'.w) : Rel B S w0 nt m' e a :=
  ⟨hr.defers, hr.size, fun t => hev.repD (hr.env t), hk, hr.below.trans hb⟩

theorem compInst_parts {ops : Array Oper} {i : Inst} (h : compInst P shF nt ops o = some i) :
    compOp P shF o.op = some i.ins ∧ i.dst = o.dst ∧ dstOk nt o.dst = true ∧
    (o.guard = none ∧ i.guard = none ∨ ∃ j want g t, o.guard = some (j, want) ∧ ops[j]? = some g ∧ g.dst = some t ∧ i.guard = some (t, want)) := by
  unfold compInst at h
  simp only [Option.bind_eq_bind, Option.bind_eq_some_iff] at h
  obtain ⟨ins, h1, h2⟩ := h
  split at h2
  · cases h2
  · rename_i hd
    have hd' : dstOk nt o.dst = true := by simpa using hd
    split at h2
    · rename_i hg
      simp only [Option.some.injEq] at h2
      subst h2
      exact ⟨h1, rfl, hd', .inl ⟨hg, rfl⟩⟩
    · rename_i j want hg
      simp only [Option.bind_eq_some_iff, Option.some.injEq] at h2
      obtain ⟨g, h3, t, h4, rfl⟩ := h2
      exact ⟨h1, rfl, hd', .inr ⟨j, want, g, t, hg, h3, h4, rfl⟩⟩

theorem wanted_ok (hr : Rel B S w0 nt m e a) {ops : Array Oper} {i : Inst} (h : compInst P shF nt ops o = some i) {b : Bool} (hw : wanted e i.guard = some b) : Region.wanted o (yielded ops a.tmps) = b := by
  obtain ⟨_, _, _, h4⟩ := compInst_parts h
  rcases h4 with ⟨h5, h6⟩ | ⟨j, want, g, t, h5, h6, h7, h8⟩
  · rw [h6] at hw
    simp only [wanted, Option.some.injEq] at hw
    subst hw
    simp [Region.wanted, h5]
  · rw [h8] at hw
    simp only [wanted] at hw
    have henv := hr.env t
    split at hw
    · rename_i q hq
      simp only [Option.some.injEq] at hw
      rw [hq] at henv
      have hv := henv.lit
      have ht : a.tmps[t]? = some (.bool q) := by
        cases ht : a.tmps[t]? with
        | none => simp [ht, undef] at hv
        | some x => simp [ht] at hv; rw [hv]
      simp [Region.wanted, h5, yielded, h6, h7, ht]
      rw [← hw]
    · rename_i hq
      simp only [Option.some.injEq] at hw
      subst hw
      rw [hq] at henv
      obtain ⟨us, hu, h9⟩ := henv
      cases us with
      | cons _ _ => exact h9.elim
      | nil =>
        have : yielded ops a.tmps j = none := by
          simp only [yielded, h6, h7, Option.bind_some]
          cases ht : a.tmps[t]? with
          | none => rfl
          | some x => simp [ht] at hu; subst hu; rfl
        simp [Region.wanted, h5, this]
    · cases hw

theorem compXs_all (hr : Rel B S w0 nt m e a) : ∀ {os : List Operand} {xs : List X}, compXs os = some xs → All2 (RepD B S m) (xs.map (evX e)) (os.map a.eval)
  | [], xs, h => by simp [compXs] at h; subst h; trivial
  | x :: os, xs, h => by
    simp only [compXs, Option.bind_eq_bind, Option.bind_eq_some_iff, Option.some.injEq] at h
    obtain ⟨y, h1, ys, h2, rfl⟩ := h
    exact ⟨hr.opd x y h1, compXs_all hr h2⟩

theorem compOp_call {f : Nat} {xs : List X} (h : compOp P shF o.op = some (.call f xs)) : ∃ args ts, o.op = .call { callee := .value (.func f), args, argTypes := ts } ∧ compXs args.toList = some xs := by
  unfold compOp at h
  split at h <;> try (cases h; done)
  all_goals simp only [Option.bind_eq_bind, Option.bind_eq_some_iff, Option.some.injEq] at h
  case h_21 f' args ts hop =>
    obtain ⟨ys, h1, h2⟩ := h
    split at h2
    · cases h2
    · simp only [Ins.call.injEq] at h2
      obtain ⟨rfl, rfl⟩ := h2
      exact ⟨args, ts, hop, h1⟩
  all_goals (exfalso; revert h)
  case h_22 b args ts hop =>
    rintro ⟨ys, h1, h2⟩
    split at h2 <;> try (cases h2; done)
    · split at h2 <;> simp at h2
    · simp only [Option.bind_eq_some_iff] at h2
      obtain ⟨_, _, _, _, _, _, h2⟩ := h2
      split at h2
      · split at h2 <;> simp at h2
      · split at h2 <;> simp at h2
      · simp at h2
    · simp only [Option.bind_eq_some_iff] at h2
      obtain ⟨_, _, _, _, h2⟩ := h2
      split at h2 <;> simp at h2
  case h_11 => rintro ⟨_, _, _, _, h⟩; split at h <;> simp at h
  case h_13 => rintro ⟨_, _, h⟩; split at h <;> first | (simp at h; done) | (split at h <;> simp at h)
  case h_15 => rintro ⟨_, _, _, _, _, _, h⟩; split at h <;> first | (simp at h; done) | (simp only [Option.bind_eq_some_iff] at h; obtain ⟨_, _, h⟩ := h; simp at h)
  case h_19 => rintro ⟨_, _, _, _, h⟩; split at h <;> simp at h
  all_goals (intro h; simp at h)

/-- one instruction that is carried out -/
theorem inst_wp {ops : Array Oper} {i : Inst} (h : compInst P shF nt ops o = some i) (hns : ∀ f xs, i.ins ≠ .callS f xs) (hr : Rel B S w0 nt m e a) (hs : ¬ m.U slot) {call : Callee} (hcall : ∀ f vs rs, call f vs = some rs → FnOK P f vs rs)
    (hst : stepC call (evX e) m.h slot i.ins = some (d, us)) {K : Act → World → Prop} {Q : Exit → Act → World → Prop}
    (hK : ∀ (a' : Act) (m' : M), m'.h = updH m.h us → m'.U = (fun i => m.U i ∨ i = slot) → Evolves B S m m' → Rel B S w0 nt m' (putE e i.dst d) a' → K a' m'.w) : o.wp P a m.w K Q := by
  obtain ⟨h1, h2, h3, _⟩ := compInst_parts h
  have fin : ∀ v w', Post B S m slot us d v w' → K (a.put o.dst v) w' := by
    rintro v w' ⟨β', p1, p2, p3, p4⟩
    have := (hr.evolve p2 p1 p4).put h3 p3
    rw [h2] at hK
    exact hK _ _ rfl rfl p2 this
  cases hins : i.ins with
  | callS f xs => exact absurd hins (hns f xs)
  | call f xs =>
    rw [hins] at hst h1
    simp only [stepC, Option.bind_eq_bind, Option.bind_eq_some_iff, Prod.exists, Option.some.injEq, Prod.mk.injEq] at hst
    obtain ⟨vs, us', h5, rs, h6, rfl, rfl⟩ := hst
    obtain ⟨args, ts, hop, h7⟩ := compOp_call h1
    have hall := compXs_all hr h7
    exact call_wp hr.hok hop (by simpa using hall) h5 (hcall _ _ _ h6) fin
  | _ =>
    rw [hins] at hst h1
    obtain ⟨n, v, w', h5, h6, h7⟩ := step_ok h1 rfl hr.hok hr.opd hs hst
    unfold Oper.wp
    rw [h5]
    rcases h6 with rfl | ⟨rfl, rfl⟩
    · exact fin v w' h7
    · exact fin undef w' h7

end
end Go.Ev
