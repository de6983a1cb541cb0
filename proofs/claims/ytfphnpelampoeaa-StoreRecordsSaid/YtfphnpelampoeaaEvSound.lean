/-
  The evaluator is right: whatever it computes, the model's machine returns, on every schedule of a statement's operations, in whatever memory; nothing that was there before the call has turned.
-/
import Derived.Test.YtfphnpelampoeaaEvNorm
namespace Go.Ev
open Go.RowKit

/-- the evaluator's functions are the program's -/
structure Table (P : Program) (shF : Nat → Bool) (F : Nat → Option IFunc) : Prop where
  ok : ∀ f I, F f = some I → ∃ fn an, P.funcs[f]? = some fn ∧ compFn P shF an fn = some I ∧ (fn.name == "runtime.NumGoroutine") = false
  mixed : P.follows .mixedOrders = true

def exOf : Ex → Exit
  | .normal => .normal
  | .exit id => .exit id
  | .ret => .ret

section
variable {P : Program} {shF : Nat → Bool} {F : Nat → Option IFunc}

def CPost (B : Nat) (S : Nat → Nat → Prop) (w0 : World) (nt : Nat) (m : M) (s : St) (x : Ex) (s' : St) (e : Exit) (a' : Act) (w' : World) : Prop :=
  ∃ m' : M, m'.w = w' ∧ e = exOf x ∧ m'.h = s'.heap ∧ UIs m' s'.nx ∧ Rel B S w0 nt m' s'.env a' ∧ s'.sh = s.sh ∧ (s.sh = true → Evolves B S m m')

/-- what is said of code, of a body, of a function, up to n -/
structure Sound (P : Program) (shF : Nat → Bool) (F : Nat → Option IFunc) (n : Nat) : Prop where
  code : ∀ (c : Code) (ic : ICode) (an an' : List (List Nat)) (nt : Nat), comp P shF nt c an = some (ic, an') → ∀ (B : Nat) (S : Nat → Nat → Prop) (w0 : World) (s : St) (x : Ex) (s' : St) (m : M) (a : Act),
    m.h = s.heap → UIs m s.nx → Rel B S w0 nt m s.env a → evCode F n ic s = some (x, s') → c.wp P (CPost B S w0 nt m s x s') a m.w
  loop : ∀ (cb : Code) (ib : ICode) (an an' : List (List Nat)) (nt : Nat) (keep : List Nat), comp P shF nt cb an = some (ib, an') → ∀ (B : Nat) (S : Nat → Nat → Prop) (w0 : World) (s : St) (x : Ex) (s' : St) (m : M) (a : Act),
    m.h = s.heap → UIs m s.nx → Rel B S w0 nt m s.env a → evCode F n (.loop keep ib) s = some (x, s') →
      ∀ (b : Frame) (k : List Item) (cs : List Frame), ∃ e a' w', CPost B S w0 nt m s x s' e a' w' ∧ Arrives P (lone (b.at a (.code cb :: .inLoop cb :: k)) cs m.w) b k cs e a' w'
  body : ∀ (sh : Bool) (f : Nat) (ds : List D) (h : Heap) (nx : Nat) (rs : List D) (h' : Heap) (nx' : Nat), evBody F n sh f ds h nx = some (rs, h', nx') →
    Callable P f ∧ ∀ (B : Nat) (S : Nat → Nat → Prop) (m : M) (us : List Value), m.h = h → UIs m nx → HOK B S m → All2 (RepD B S m) ds us →
      Calls P f us.toArray m.w fun e w' => ∃ (v : Value) (m' : M), e = .returned v ∧ m'.w = w' ∧ m'.h = h' ∧ UIs m' nx' ∧ HOK B S m' ∧ (sh = true → Evolves B S m m') ∧ RepD B S m' (tupD rs) v ∧ Below B m.w m'.w ∧ ∀ d, d ∈ rs → ∀ ds, d ≠ .tup ds
  shared : ∀ (B : Nat) (S : Nat → Nat → Prop) f ds h nx ds' h' nx', evSh F n f ds h nx = some (ds', h', nx') → ShOK B S P f ds h nx ds' h' nx'
  fn : ∀ f vs rs, evFn F n f vs = some rs → FnOK P f vs rs

theorem compFn_parts {an : List (List Nat)} {fn : Func} {I : IFunc} (h : compFn P shF an fn = some I) :
    ∃ c ic an', fn.body = some c ∧ comp P shF fn.ntmps c an = some (ic, an') ∧ compRes P fn.results.toList = some I.res ∧ I.body = ic ∧ I.nparams = fn.params.size ∧ fn.params.size ≤ fn.ntmps := by
  unfold compFn at h
  simp only [Option.bind_eq_bind, Option.bind_eq_some_iff, Prod.exists] at h
  obtain ⟨c, h1, ic, an', h2, rs, h3, h4⟩ := h
  split at h4
  · rename_i hc
    simp only [Option.some.injEq] at h4
    subst h4
    exact ⟨c, ic, an', h1, h2, h3, rfl, rfl, hc.2⟩
  · cases h4

theorem resD_ok {B : Nat} {S : Nat → Nat → Prop} {w0 : World} {nt : Nat} {m : M} {e : Env} {a : Act} (hr : Rel B S w0 nt m e a) : ∀ {vars : List ResultVar} {rs : List Res} {ds : List D}, compRes P vars = some rs → resD e m.h rs = some ds →
    ∃ us : List Value, (vars.mapM (fun v => match v with | ResultVar.tmp t => (pure (a.tmps.getD t undef) : Sem Value) | ResultVar.cell x t => do loadVar t (← asAddr (a.tmps.getD x undef)))).run P m.w = .ok us m.w ∧ All2 (RepA B S m) ds us ∧ ∀ d, d ∈ ds → ∀ ds, d ≠ .tup ds
  | [], rs, ds, hc, hd => by
    simp only [compRes, Option.some.injEq] at hc
    subst hc
    simp only [resD, Option.some.injEq] at hd
    subst hd
    exact ⟨[], rfl, trivial, by simp⟩
  | .tmp t :: vars, rs, ds, hc, hd => by
    simp only [compRes, Option.bind_eq_bind, Option.bind_eq_some_iff, Option.some.injEq] at hc
    obtain ⟨rs', h1, rfl⟩ := hc
    simp only [resD, Option.bind_eq_bind, Option.bind_eq_some_iff] at hd
    obtain ⟨ds', h2, h3⟩ := hd
    obtain ⟨us, h4, h5, h6⟩ := resD_ok hr h1 h2
    have henv := hr.env t
    have hA : ∃ d, ds = d :: ds' ∧ RepA B S m d (a.tmps.getD t undef) ∧ ∀ q, d ≠ .tup q := by
      cases hg : getE e t with
      | tup q => rw [hg] at h3; cases h3
      | _ => rw [hg] at h3 henv; simp only [Option.some.injEq] at h3; exact ⟨_, h3.symm, henv, fun q h => by cases h⟩
    obtain ⟨d, rfl, hA1, hA2⟩ := hA
    refine ⟨a.tmps.getD t undef :: us, ?_, ⟨hA1, h5⟩, fun d' hd' => ?_⟩
    · simp only [List.mapM_cons, Sem.run_bind, Sem.run_pure, Result.andThen_ok, h4]
    · simp only [List.mem_cons] at hd'
      rcases hd' with rfl | hd'
      · exact hA2
      · exact h6 d' hd'
  | .cell x t :: vars, rs, ds, hc, hd => by
    simp only [compRes, Option.bind_eq_bind, Option.bind_eq_some_iff, Option.some.injEq] at hc
    obtain ⟨agg, g1, i, g2, rs', h1, rfl⟩ := hc
    simp only [resD, Option.bind_eq_bind, Option.bind_eq_some_iff, Option.some.injEq] at hd
    obtain ⟨d, h0, ds', h2, rfl⟩ := hd
    obtain ⟨us, h4, h5, h6⟩ := resD_ok hr h1 h2
    obtain ⟨ad, v, e1, e2, e3⟩ := loadD_ok hr.hok g1 g2 (hr.env x) h0
    refine ⟨v :: us, ?_, ⟨e3, h5⟩, fun d' hd' => ?_⟩
    · have hA : (asAddr (.pointer (some ad))).run P m.w = .ok ad m.w := rfl
      simp only [List.mapM_cons, Sem.run_bind, e1, hA, Sem.run_pure, Result.andThen_ok, e2, h4]
    · simp only [List.mem_cons] at hd'
      rcases hd' with rfl | hd'
      · intro q hq
        subst hq
        exact e3.elim
      · exact h6 d' hd'

theorem results_ok {B : Nat} {S : Nat → Nat → Prop} {w0 : World} {nt : Nat} {m : M} {e : Env} {a : Act} (hr : Rel B S w0 nt m e a) {fn : Func} {rs : List Res} {ds : List D} (hc : compRes P fn.results.toList = some rs) (hd : resD e m.h rs = some ds) :
    ∃ v, (results fn a.tmps).run P m.w = .ok v m.w ∧ RepD B S m (tupD ds) v ∧ ∀ d, d ∈ ds → ∀ ds, d ≠ .tup ds := by
  obtain ⟨us, h1, h2, h3⟩ := resD_ok hr hc hd
  have hrun : (fn.results.mapM (fun v => match v with | ResultVar.tmp t => (pure (a.tmps.getD t undef) : Sem Value) | ResultVar.cell x t => do loadVar t (← asAddr (a.tmps.getD x undef)))).run P m.w = .ok us.toArray m.w := by
    rw [Array.mapM_eq_mapM_toList, Sem.run_map, h1]
    rfl
  refine ⟨if h : us.toArray.size = 1 then us.toArray[0] else .tuple us.toArray, ?_, ?_, h3⟩
  · unfold results
    simp only [Sem.run_bind, Sem.run_pure]
    exact congrArg (fun r : Result (Array Value) => r.andThen fun a w' => Result.ok (if h : a.size = 1 then a[0] else Value.tuple a) w') hrun
  · match ds, us, h2 with
    | [d], [u], h2 => exact h2.1.toD
    | [], [], h2 => exact ⟨[], rfl, trivial⟩
    | d :: d' :: ds, u :: u' :: us, h2 => exact ⟨u :: u' :: us, rfl, h2⟩

theorem bindArgs_get : ∀ (ds : List D) (k t : Nat), getE (bindArgs k ds) t = if k ≤ t then (ds[t - k]?).getD .unk else .unk
  | [], k, t => by simp [bindArgs, getE]
  | d :: ds, k, t => by
    simp only [bindArgs, getE]
    by_cases h : k = t
    · subst h; simp
    · rw [if_neg h, bindArgs_get ds (k + 1) t]
      by_cases h2 : k + 1 ≤ t
      · rw [if_pos h2, if_pos (by omega), show t - k = (t - (k + 1)) + 1 by omega]
        simp
      · rw [if_neg h2, if_neg (by omega)]

theorem sound_zero : Sound P shF F 0 where
  code := by intro c ic an an' nt _ B S w0 s x s' m a _ _ _ h; simp [evCode] at h
  loop := by intro cb ib an an' nt keep _ B S w0 s x s' m a _ _ _ h; simp [evCode] at h
  body := by intro sh f ds h nx rs h' nx' hh; simp [evBody] at hh
  shared := by intro B S f ds h nx ds' h' nx' hh; simp [evSh] at hh
  fn := by intro f vs rs hh; simp [evFn] at hh

theorem sound_loop {n : Nat} (ih : Sound P shF F n) : ∀ (cb : Code) (ib : ICode) (an an' : List (List Nat)) (nt : Nat) (keep : List Nat), comp P shF nt cb an = some (ib, an') → ∀ (B : Nat) (S : Nat → Nat → Prop) (w0 : World) (s : St) (x : Ex) (s' : St) (m : M) (a : Act),
    m.h = s.heap → UIs m s.nx → Rel B S w0 nt m s.env a → evCode F (n + 1) (.loop keep ib) s = some (x, s') →
      ∀ (b : Frame) (k : List Item) (cs : List Frame), ∃ e a' w', CPost B S w0 nt m s x s' e a' w' ∧ Arrives P (lone (b.at a (.code cb :: .inLoop cb :: k)) cs m.w) b k cs e a' w' := by
  intro cb ib an an' nt keep h1 B S w0 s x s' m a hh hU hr hev b k cs
  simp only [evCode, Option.bind_eq_bind, Option.bind_eq_some_iff, Prod.exists] at hev
  obtain ⟨x1, s1, h3, h4⟩ := hev
  obtain ⟨m0, p1, p2, p3, p4, p5, p6⟩ := norm_ok hh hU hr keep
  have hbody := ih.code _ _ _ _ _ h1 B S w0 (normSt keep s) x1 s1 m0 a p2 p3 p4 h3
  rw [p1] at hbody
  obtain ⟨e1, a1, w1, hq, harr⟩ := hbody b (.inLoop cb :: k) cs
  obtain ⟨m1, rfl, rfl, q1, q2, q3, q4, q5⟩ := hq
  have q5' : s.sh = true → Evolves B S m m1 := fun hs => (p6 hs).trans (q5 (by rw [p5]; exact hs))
  cases x1 with
  | normal =>
    simp only at h4
    obtain ⟨e2, a2, w2, hq2, harr2⟩ := ih.loop cb ib an an' nt keep h1 B S w0 s1 x s' m1 a1 q1 q2 q3 h4 b k cs
    obtain ⟨m2, rfl, rfl, r1, r2, r3, r4, r5⟩ := hq2
    refine ⟨exOf x, a2, m2.w, ⟨m2, rfl, rfl, r1, r2, r3, (r4.trans q4).trans p5, fun hs => (q5' hs).trans (r5 (by rw [q4, p5]; exact hs))⟩, ?_⟩
    have hstart : Steps P (lone (b.at a (.code cb :: .inLoop cb :: k)) cs m.w) (lone (b.at a1 (.inLoop cb :: k)) cs m1.w) := harr
    exact .of_steps (hstart.trans (.one step_inLoop)) harr2
  | exit id =>
    simp only [Option.some.injEq, Prod.mk.injEq] at h4
    obtain ⟨rfl, rfl⟩ := h4
    exact ⟨exOf (.exit id), a1, m1.w, ⟨m1, rfl, rfl, q1, q2, q3, q4.trans p5, q5'⟩, .pass (x := .inLoop cb) rfl (fun _ _ => .inl (by simp [exOf])) harr⟩
  | ret =>
    simp only [Option.some.injEq, Prod.mk.injEq] at h4
    obtain ⟨rfl, rfl⟩ := h4
    exact ⟨exOf .ret, a1, m1.w, ⟨m1, rfl, rfl, q1, q2, q3, q4.trans p5, q5'⟩, .pass (x := .inLoop cb) rfl (fun _ _ => .inl (by simp [exOf])) harr⟩

theorem sound_code (hT : Table P shF F) {n : Nat} (ih : Sound P shF F n) : ∀ (c : Code) (ic : ICode) (an an' : List (List Nat)) (nt : Nat), comp P shF nt c an = some (ic, an') →
    ∀ (B : Nat) (S : Nat → Nat → Prop) (w0 : World) (s : St) (x : Ex) (s' : St) (m : M) (a : Act), m.h = s.heap → UIs m s.nx → Rel B S w0 nt m s.env a → evCode F (n + 1) ic s = some (x, s') → c.wp P (CPost B S w0 nt m s x s') a m.w := by
  intro c ic an an' nt hc B S w0 s x s' m a hh hU hr hev
  unfold comp at hc
  split at hc
  · simp only [Option.some.injEq, Prod.mk.injEq] at hc
    obtain ⟨rfl, rfl⟩ := hc
    simp only [evCode, Option.some.injEq, Prod.mk.injEq] at hev
    obtain ⟨rfl, rfl⟩ := hev
    exact wp_skip ⟨m, rfl, rfl, hh, hU, hr, rfl, fun _ => Evolves.refl m⟩
  · simp only [Option.some.injEq, Prod.mk.injEq] at hc
    obtain ⟨rfl, rfl⟩ := hc
    simp only [evCode, Option.some.injEq, Prod.mk.injEq] at hev
    obtain ⟨rfl, rfl⟩ := hev
    exact wp_ret ⟨m, rfl, rfl, hh, hU, hr, rfl, fun _ => Evolves.refl m⟩
  · simp only [Option.some.injEq, Prod.mk.injEq] at hc
    obtain ⟨rfl, rfl⟩ := hc
    simp only [evCode, Option.some.injEq, Prod.mk.injEq] at hev
    obtain ⟨rfl, rfl⟩ := hev
    exact wp_exit ⟨m, rfl, rfl, hh, hU, hr, rfl, fun _ => Evolves.refl m⟩
  · rename_i id ops
    simp only [Option.bind_eq_bind, Option.bind_eq_some_iff] at hc
    obtain ⟨is, h1, h2⟩ := hc
    split at h2
    case h_2 => cases h2
    simp only [Option.some.injEq, Prod.mk.injEq] at h2
    obtain ⟨rfl, rfl⟩ := h2
    simp only [evCode, Option.bind_eq_bind, Option.bind_eq_some_iff, Option.some.injEq, Prod.mk.injEq] at hev
    obtain ⟨s1, h3, rfl, rfl⟩ := hev
    refine wp_region_list (seq_ok ih.fn (fun f ds h nx ds' h' nx' hs => ih.shared B S f ds h nx ds' h' nx' hs) ops.toList is h1 s s1 m a hh hU hr h3 fun a' m' q1 q2 q3 q4 q5 => ?_)
    exact ⟨m', rfl, rfl, q1, q2, q5.keep _, q3, fun _ => q4⟩
  · rename_i id ops
    simp only [Option.bind_eq_bind, Option.bind_eq_some_iff] at hc
    obtain ⟨is, h1, h2⟩ := hc
    split at h2
    case h_2 => cases h2
    split at h2
    case isFalse => cases h2
    rename_i hcc
    simp only [Option.some.injEq, Prod.mk.injEq] at h2
    obtain ⟨rfl, rfl⟩ := h2
    simp only [evCode, Option.bind_eq_bind, Option.bind_eq_some_iff, Prod.exists] at hev
    obtain ⟨e1, h1', ts, h3, h4⟩ := hev
    split at h4
    case isFalse => cases h4
    rename_i hdr
    simp only [Option.some.injEq, Prod.mk.injEq] at h4
    obtain ⟨rfl, rfl⟩ := h4
    refine draw_ok hT.mixed ih.fn h1 hcc.1 hcc.2 hh hU hr h3 hdr fun a' m' q1 q2 q3 q4 => ?_
    exact ⟨m', rfl, rfl, q1, q2, q4.keep _, rfl, fun _ => q3⟩
  · rename_i ca cb
    simp only [Option.bind_eq_bind, Option.bind_eq_some_iff, Prod.exists, Option.some.injEq, Prod.mk.injEq] at hc
    obtain ⟨ia, an1, h1, ib, an2, h2, rfl, rfl⟩ := hc
    simp only [evCode, Option.bind_eq_bind, Option.bind_eq_some_iff, Prod.exists] at hev
    obtain ⟨x1, s1, h3, h4⟩ := hev
    refine wp_seq (wp_mono (ih.code _ _ _ _ _ h1 B S w0 s x1 s1 m a hh hU hr h3) fun e a1 w1 hp => ?_)
    obtain ⟨m1, rfl, rfl, q1, q2, q3, q4, q5⟩ := hp
    cases x1 with
    | normal =>
      simp only at h4
      refine wp_mono (ih.code _ _ _ _ _ h2 B S w0 s1 x s' m1 a1 q1 q2 q3 h4) fun e a2 w2 hp2 => ?_
      obtain ⟨m2, rfl, rfl, r1, r2, r3, r4, r5⟩ := hp2
      exact ⟨m2, rfl, rfl, r1, r2, r3, r4.trans q4, fun hs => (q5 hs).trans (r5 (by rw [q4]; exact hs))⟩
    | exit id =>
      simp only [Option.some.injEq, Prod.mk.injEq] at h4
      obtain ⟨rfl, rfl⟩ := h4
      exact ⟨m1, rfl, rfl, q1, q2, q3, q4, q5⟩
    | ret =>
      simp only [Option.some.injEq, Prod.mk.injEq] at h4
      obtain ⟨rfl, rfl⟩ := h4
      exact ⟨m1, rfl, rfl, q1, q2, q3, q4, q5⟩
  · rename_i cc ca cb
    simp only [Option.bind_eq_bind, Option.bind_eq_some_iff, Prod.exists, Option.some.injEq, Prod.mk.injEq] at hc
    obtain ⟨X', hx, ia, an1, h1, ib, an2, h2, rfl, rfl⟩ := hc
    simp only [evCode, Option.bind_eq_bind, Option.bind_eq_some_iff] at hev
    obtain ⟨t, h3, h4⟩ := hev
    have e1 := hr.opd cc X' hx
    rw [asBool_some h3] at e1
    refine wp_cond e1.lit ?_
    cases t with
    | true => exact ih.code _ _ _ _ _ h1 B S w0 s x s' m a hh hU hr h4
    | false => exact ih.code _ _ _ _ _ h2 B S w0 s x s' m a hh hU hr h4
  · rename_i id cb
    simp only [Option.bind_eq_bind, Option.bind_eq_some_iff, Prod.exists, Option.some.injEq, Prod.mk.injEq] at hc
    obtain ⟨ib, an1, h1, rfl, rfl⟩ := hc
    simp only [evCode, Option.bind_eq_bind, Option.bind_eq_some_iff, Prod.exists] at hev
    obtain ⟨x1, s1, h3, h4⟩ := hev
    refine wp_block (wp_mono (ih.code _ _ _ _ _ h1 B S w0 s x1 s1 m a hh hU hr h3) fun e a1 w1 hp => ?_)
    obtain ⟨m1, rfl, rfl, q1, q2, q3, q4, q5⟩ := hp
    cases x1 with
    | normal =>
      simp only [Option.some.injEq, Prod.mk.injEq] at h4
      obtain ⟨rfl, rfl⟩ := h4
      exact ⟨m1, rfl, rfl, q1, q2, q3, q4, q5⟩
    | ret =>
      simp only [Option.some.injEq, Prod.mk.injEq] at h4
      obtain ⟨rfl, rfl⟩ := h4
      exact ⟨m1, rfl, rfl, q1, q2, q3, q4, q5⟩
    | exit id' =>
      simp only at h4
      show (if id' = id then _ else _)
      split at h4
      · rename_i he
        rw [if_pos he]
        simp only [Option.some.injEq, Prod.mk.injEq] at h4
        obtain ⟨rfl, rfl⟩ := h4
        exact ⟨m1, rfl, rfl, q1, q2, q3, q4, q5⟩
      · rename_i he
        rw [if_neg he]
        simp only [Option.some.injEq, Prod.mk.injEq] at h4
        obtain ⟨rfl, rfl⟩ := h4
        exact ⟨m1, rfl, rfl, q1, q2, q3, q4, q5⟩
  · rename_i cb
    split at hc
    case h_2 => cases hc
    rename_i keep an0
    simp only [Option.bind_eq_bind, Option.bind_eq_some_iff, Prod.exists, Option.some.injEq, Prod.mk.injEq] at hc
    obtain ⟨ib, an1, h1, rfl, rfl⟩ := hc
    intro b k cs
    obtain ⟨e1, a1, w1, hq, harr⟩ := sound_loop ih cb ib an0 an1 nt keep h1 B S w0 s x s' m a hh hU hr hev b k cs
    exact ⟨e1, a1, w1, hq, .of_steps (.one step_loop) harr⟩
  · cases hc

theorem sound_body (hT : Table P shF F) {n : Nat} (ih : Sound P shF F n) : ∀ (sh : Bool) (f : Nat) (ds : List D) (h : Heap) (nx : Nat) (rs : List D) (h' : Heap) (nx' : Nat), evBody F (n + 1) sh f ds h nx = some (rs, h', nx') →
    Callable P f ∧ ∀ (B : Nat) (S : Nat → Nat → Prop) (m : M) (us : List Value), m.h = h → UIs m nx → HOK B S m → All2 (RepD B S m) ds us →
      Calls P f us.toArray m.w fun e w' => ∃ (v : Value) (m' : M), e = .returned v ∧ m'.w = w' ∧ m'.h = h' ∧ UIs m' nx' ∧ HOK B S m' ∧ (sh = true → Evolves B S m m') ∧ RepD B S m' (tupD rs) v ∧ Below B m.w m'.w ∧ ∀ d, d ∈ rs → ∀ ds, d ≠ .tup ds := by
  intro sh f ds h nx rs h' nx' hev
  simp only [evBody, Option.bind_eq_bind, Option.bind_eq_some_iff] at hev
  obtain ⟨I, hI, hev⟩ := hev
  split at hev
  case isFalse => cases hev
  rename_i hlen
  simp only [Option.bind_eq_some_iff, Prod.exists] at hev
  obtain ⟨x, s1, h1, h2⟩ := hev
  obtain ⟨fn, an, g1, g2, g3⟩ := hT.ok f I hI
  obtain ⟨c, ic, an', b1, b2, b3, b4, b5, b6⟩ := compFn_parts g2
  refine ⟨⟨fn, g1, by rw [b1]; rfl, g3⟩, fun B S m us hh hU hk hall => ?_⟩
  have hus : us.length = fn.params.size := by rw [← hall.len, hlen, b5]
  have hfin : ∃ rs0, resD s1.env s1.heap I.res = some rs0 ∧ rs = rs0 ∧ h' = s1.heap ∧ nx' = s1.nx ∧ x ≠ .exit 0 ∧ (∀ id, x ≠ .exit id) := by
    cases x with
    | exit id => simp at h2
    | normal =>
      simp only [Option.bind_eq_some_iff, Option.some.injEq, Prod.mk.injEq] at h2
      obtain ⟨rs0, h3, rfl, rfl, rfl⟩ := h2
      exact ⟨rs0, h3, rfl, rfl, rfl, by simp, by simp⟩
    | ret =>
      simp only [Option.bind_eq_some_iff, Option.some.injEq, Prod.mk.injEq] at h2
      obtain ⟨rs0, h3, rfl, rfl, rfl⟩ := h2
      exact ⟨rs0, h3, rfl, rfl, rfl, by simp, by simp⟩
  obtain ⟨rs0, hres, rfl, rfl, rfl, _, hnx⟩ := hfin
  refine calls_of_wp g1 b1 ?_
  have hsz : us.toArray.size = fn.params.size := by simpa using hus
  have hrel : Rel B S m.w fn.ntmps m (bindArgs 0 ds) { tmps := us.toArray ++ Array.replicate (fn.ntmps - us.toArray.size) undef, defers := [] } := by
    refine ⟨rfl, by simp; omega, fun t => ?_, hk, Below.refl _ _⟩
    rw [bindArgs_get]
    simp only [Nat.zero_le, if_true, Nat.sub_zero]
    cases hd : ds[t]? with
    | none => trivial
    | some d =>
      obtain ⟨u, hu, hR⟩ := hall.get t hd
      have : (us.toArray ++ Array.replicate (fn.ntmps - us.toArray.size) undef).getD t undef = u := by
        have hlt : t < us.length := (List.getElem?_eq_some_iff.1 hu).1
        simp [Array.getElem?_append, hlt]
        exact (List.getElem?_eq_some_iff.1 hu).2
      rw [this]
      exact hR
  rw [b4] at h1
  have hwp := ih.code c ic an an' fn.ntmps b2 B S m.w ⟨bindArgs 0 ds, h, nx, sh⟩ x s1 m _ hh hU hrel h1
  refine wp_mono hwp fun e a' w' hp => ?_
  obtain ⟨m', rfl, rfl, q1, q2, q3, q4, q5⟩ := hp
  obtain ⟨v, r1, r2, r3⟩ := results_ok q3 b3 (by rw [q1]; exact hres)
  have hpost : a'.defers = [] ∧ ∃ v, (results fn a'.tmps).run P m'.w = .ok v m'.w ∧ (∃ (v' : Value) (m'' : M), Ending.returned v = .returned v' ∧ m''.w = m'.w ∧ m''.h = s1.heap ∧ UIs m'' s1.nx ∧ HOK B S m'' ∧ (sh = true → Evolves B S m m'') ∧ RepD B S m'' (tupD rs) v' ∧ Below B m.w m''.w ∧ ∀ d, d ∈ rs → ∀ ds, d ≠ .tup ds) :=
    ⟨q3.defers, v, r1, v, m', rfl, rfl, q1, q2, q3.hok, q5, r2, q3.below, r3⟩
  cases x with
  | exit id => exact absurd rfl (hnx id)
  | normal => exact hpost
  | ret => exact hpost

theorem sound_shared {n : Nat} (ih : Sound P shF F n) : ∀ (B : Nat) (S : Nat → Nat → Prop) f ds h nx ds' h' nx', evSh F (n + 1) f ds h nx = some (ds', h', nx') → ShOK B S P f ds h nx ds' h' nx' := by
  intro B S f ds h nx ds' h' nx' hev
  simp only [evSh] at hev
  obtain ⟨hc, hb⟩ := ih.body true f ds h nx ds' h' nx' hev
  refine ⟨hc, fun m us hh hU hk hall => (hb B S m us hh hU hk hall).mono fun e w' ⟨v, m', q1, q2, q3, q4, q5, q6, q7, q8, _⟩ => ⟨v, m', q1, q2, q3, q4, q5, q6 rfl, q7, q8⟩⟩

theorem RepV.toD0 {B : Nat} {S : Nat → Nat → Prop} {m : M} (h0 : ∀ id, getH m.h id = .dead) {v : V} {u : Value} (h : RepV m.w S v u) : RepD B S m v.toD u := by
  have h1 : RepV m.w (Safe B S m) v u := RepV.weaken (fun b o hs _ => ⟨fun _ => hs, fun id => by rw [h0]; trivial⟩) h
  exact (RepV.toD h1).toD

theorem All2.map_mono' {α β γ : Type} {R : α → β → Prop} {R' : γ → β → Prop} {f : α → γ} (h : ∀ a b, R a b → R' (f a) b) {as : List α} {bs : List β} (h1 : All2 R as bs) : All2 R' (as.map f) bs := All2.map_mono h h1

theorem sound_fn {n : Nat} (ih : Sound P shF F n) : ∀ f vs rs, evFn F (n + 1) f vs = some rs → FnOK P f vs rs := by
  intro f vs rs hev
  simp only [evFn, Option.bind_eq_bind, Option.bind_eq_some_iff, Prod.exists, Option.some.injEq] at hev
  obtain ⟨ds, h, nx, h1, rs', us0, h2, rfl⟩ := hev
  obtain ⟨hc, hb⟩ := ih.body false f _ _ _ ds h nx h1
  refine ⟨hc, fun S w us hall => ?_⟩
  have hk : HOK w.heap.size S ⟨w, [], fun _ => 0, fun i => i < 0⟩ := ⟨fun id => trivial, fun i j hi _ _ => absurd rfl hi, fun _ _ => rfl, Nat.le_refl _⟩
  have hall' : All2 (RepD w.heap.size S ⟨w, [], fun _ => 0, fun i => i < 0⟩) (vs.map V.toD) us := hall.map_mono fun v u hv => RepV.toD0 (m := ⟨w, [], fun _ => 0, fun i => i < 0⟩) (fun _ => rfl) hv
  refine (hb w.heap.size S ⟨w, [], fun _ => 0, fun i => i < 0⟩ us rfl (fun _ => Iff.rfl) hk hall').mono fun e w' ⟨v, m', q1, q2, q3, q4, q5, _, q7, q8, q9⟩ => ?_
  subst q1 q2
  refine ⟨v, rfl, ?_, q8⟩
  have weak : ∀ {h'' : Heap} {r : V} {u : Value}, RepV m'.w (Safe w.heap.size S (m'.heap h'')) r u → RepV m'.w (fun b o => b < w.heap.size → S b o) r u := fun hr => RepV.weaken (fun b o hs _ => hs.1) hr
  rw [← q3] at h2
  match ds, q7, h2, q9 with
  | [d], q7, h2, q9 =>
    simp only [frzVs, Option.bind_eq_bind, Option.bind_eq_some_iff, Prod.exists, Option.some.injEq, Prod.mk.injEq] at h2
    obtain ⟨c, x, h3, cs', xs', ⟨rfl, rfl⟩, rfl, rfl⟩ := h2
    have hA : RepA w.heap.size S m' d v := by
      cases d with
      | tup q => exact absurd rfl (q9 (.tup q) (by simp) q)
      | _ => exact q7
    exact weak (frzV_ok q5 hA h3).2.2
  | [], q7, h2, q9 =>
    simp only [frzVs, Option.some.injEq, Prod.mk.injEq] at h2
    obtain ⟨rfl, rfl⟩ := h2
    obtain ⟨vs', rfl, hv⟩ := q7
    cases vs' with
    | nil => exact ⟨[], rfl, trivial⟩
    | cons _ _ => exact hv.elim
  | d :: d' :: ds, q7, h2, q9 =>
    obtain ⟨vs', rfl, hv⟩ := q7
    have h3 := (frzVs_ok q5 hv h2).2.2
    have hlen := h3.len
    match rs', h3 with
    | [], h3 => cases vs' with | nil => exact hv.elim | cons _ _ => exact h3.elim
    | [r], h3 =>
      exfalso
      have := hv.len
      rw [← hlen] at this
      simp at this
    | r :: r' :: rs'', h3 => exact ⟨vs', rfl, h3.mono fun _ _ h => weak h⟩

theorem sound (hT : Table P shF F) : ∀ n, Sound P shF F n
  | 0 => sound_zero
  | n + 1 => ⟨sound_code hT (sound hT n), sound_loop (sound hT n), sound_body hT (sound hT n), sound_shared (sound hT n), sound_fn (sound hT n)⟩

/-- THE EVALUATOR IS RIGHT. -/
theorem ev_sound (hT : Table P shF F) {n f : Nat} {vs rs : List V} (h : evFn F n f vs = some rs) : FnOK P f vs rs := (sound hT n).fn f vs rs h

end
end Go.Ev
