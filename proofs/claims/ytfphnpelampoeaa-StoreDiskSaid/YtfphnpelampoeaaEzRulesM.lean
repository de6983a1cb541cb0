/-
  More fuel changes nothing; rules for reasoning on the evaluator without its fuel.
-/
import Derived.Test.YtfphnpelampoeaaEzBaseM
set_option linter.unusedVariables false
set_option linter.unusedSimpArgs false
namespace Go.Ez

theorem stepC_mono {call call' : Callee} (hc : ∀ f vs rs, call f vs = some rs → call' f vs = some rs) {ρ : X → D} {h : Heap} {slot : Nat} {i : Ins} {r : D × List (Nat × Obj)} (hs : stepC call ρ h slot i = some r) : stepC call' ρ h slot i = some r := by
  cases i with
  | call f xs =>
    simp only [stepC, Option.bind_eq_bind, Option.bind_eq_some_iff, Prod.exists] at hs ⊢
    obtain ⟨vs, us, h1, rs, h2, h3⟩ := hs
    exact ⟨vs, us, h1, rs, hc _ _ _ h2, h3⟩
  | _ => exact hs

theorem lendC_mono {sh sh' : Lender} (hsh : ∀ f ds h nx r, sh f ds h nx = some r → sh' f ds h nx = some r) {own : Bool} {f : Nat} {ds : List D} {h : Heap} {nx : Nat} {r : D × Heap × Nat} (hh : lendC sh own f ds h nx = some r) : lendC sh' own f ds h nx = some r := by
  simp only [lendC, Option.bind_eq_bind, Option.bind_eq_some_iff, Prod.exists] at hh ⊢
  obtain ⟨ds', us, h1, rs, h', nx', h2, h3⟩ := hh
  exact ⟨ds', us, h1, rs, h', nx', hsh _ _ _ _ _ h2, h3⟩

theorem evSeq_mono {call call' : Callee} {sh sh' : Lender} (hc : ∀ f vs rs, call f vs = some rs → call' f vs = some rs) (hsh : ∀ f ds h nx r, sh f ds h nx = some r → sh' f ds h nx = some r) :
    ∀ {is : List Inst} {s s' : St}, evSeq call sh is s = some s' → evSeq call' sh' is s = some s'
  | [], s, s', h => h
  | i :: is, s, s', h => by
    simp only [evSeq, Option.bind_eq_bind, Option.bind_eq_some_iff] at h ⊢
    obtain ⟨w, h1, h2⟩ := h
    refine ⟨w, h1, ?_⟩
    cases w with
    | false => simp only [if_false, Bool.false_eq_true] at h2 ⊢; exact evSeq_mono hc hsh h2
    | true =>
      simp only [if_true] at h2 ⊢
      cases hi : i.ins with
      | callS f own xs =>
        rw [hi] at h2
        simp only [Option.bind_eq_some_iff, Prod.exists] at h2 ⊢
        obtain ⟨ds, h', nx, h3, h4⟩ := h2
        exact ⟨ds, h', nx, lendC_mono hsh h3, evSeq_mono hc hsh h4⟩
      | callV x xs =>
        rw [hi] at h2
        simp only at h2 ⊢
        cases hx : evX s.env x with
        | clo f caps =>
          rw [hx] at h2
          simp only [Option.bind_eq_some_iff, Prod.exists] at h2 ⊢
          obtain ⟨ds, h', nx, h3, h4⟩ := h2
          exact ⟨ds, h', nx, lendC_mono hsh h3, evSeq_mono hc hsh h4⟩
        | _ => rw [hx] at h2; cases h2
      | _ =>
        rw [hi] at h2
        simp only [Option.bind_eq_some_iff, Prod.exists] at h2 ⊢
        obtain ⟨d, us, h3, h4⟩ := h2
        exact ⟨d, us, stepC_mono hc h3, evSeq_mono hc hsh h4⟩

theorem evDraw_mono {call call' : Callee} {nx : Nat} (hc : ∀ f vs rs, call f vs = some rs → call' f vs = some rs) :
    ∀ {is : List Inst} {k : Nat} {e : Env} {h : Heap} {r : Env × Heap × List Trace}, evDraw call nx k is e h = some r → evDraw call' nx k is e h = some r
  | [], k, e, h, r, hd => hd
  | i :: is, k, e, h, r, hd => by
    simp only [evDraw, Option.bind_eq_bind, Option.bind_eq_some_iff] at hd ⊢
    obtain ⟨w, h1, h2⟩ := hd
    refine ⟨w, h1, ?_⟩
    cases w with
    | false =>
      simp only [if_false, Bool.false_eq_true, Option.bind_eq_some_iff] at h2 ⊢
      obtain ⟨p, h3, h4⟩ := h2
      exact ⟨p, evDraw_mono hc h3, h4⟩
    | true =>
      simp only [if_true, Option.bind_eq_some_iff] at h2 ⊢
      obtain ⟨p, h3, q, h4, h5⟩ := h2
      exact ⟨p, stepC_mono hc h3, q, evDraw_mono hc h4, h5⟩

variable {F : Tab}

structure Mono (F : Tab) (n : Nat) : Prop where
  code : ∀ c s r, evCode F n c s = some r → evCode F (n + 1) c s = some r
  body : ∀ f ds h nx r, evBody F n f ds h nx = some r → evBody F (n + 1) f ds h nx = some r
  fn : ∀ f vs r, evFn F n f vs = some r → evFn F (n + 1) f vs = some r

theorem mono_all : ∀ n, Mono F n
  | 0 => ⟨by intro c s r h; simp [evCode] at h, by intro f ds h nx r hh; simp [evBody] at hh, by intro f vs r hh; simp [evFn] at hh⟩
  | n + 1 => by
    have ih : Mono F n := mono_all n
    refine ⟨fun c s r h => ?_, fun f ds h nx r hh => ?_, fun f vs r hh => ?_⟩
    · cases c with
      | skip => rw [evCode] at h ⊢; exact h
      | exit id => rw [evCode] at h ⊢; exact h
      | ret => rw [evCode] at h ⊢; exact h
      | region is =>
        rw [evCode] at h ⊢
        simp only [Option.bind_eq_bind, Option.bind_eq_some_iff] at h ⊢
        obtain ⟨s', h1, h2⟩ := h
        exact ⟨s', evSeq_mono ih.fn ih.body h1, h2⟩
      | draw is ws =>
        rw [evCode] at h ⊢
        simp only [Option.bind_eq_bind, Option.bind_eq_some_iff] at h ⊢
        obtain ⟨p, h1, h2⟩ := h
        exact ⟨p, evDraw_mono ih.fn h1, h2⟩
      | seq a b =>
        rw [evCode] at h ⊢
        simp only [Option.bind_eq_bind, Option.bind_eq_some_iff, Prod.exists] at h ⊢
        obtain ⟨x, s', h1, h2⟩ := h
        refine ⟨x, s', ih.code _ _ _ h1, ?_⟩
        cases x with
        | normal => exact ih.code _ _ _ h2
        | _ => exact h2
      | cond c a b =>
        rw [evCode] at h ⊢
        simp only [Option.bind_eq_bind, Option.bind_eq_some_iff] at h ⊢
        obtain ⟨t, h1, h2⟩ := h
        exact ⟨t, h1, ih.code _ _ _ h2⟩
      | block id c =>
        rw [evCode] at h ⊢
        simp only [Option.bind_eq_bind, Option.bind_eq_some_iff, Prod.exists] at h ⊢
        obtain ⟨x, s', h1, h2⟩ := h
        exact ⟨x, s', ih.code _ _ _ h1, h2⟩
      | loop c =>
        rw [evCode] at h ⊢
        simp only [Option.bind_eq_bind, Option.bind_eq_some_iff, Prod.exists] at h ⊢
        obtain ⟨x, s', h1, h2⟩ := h
        refine ⟨x, s', ih.code _ _ _ h1, ?_⟩
        cases x with
        | normal => exact ih.code _ _ _ h2
        | _ => exact h2
    · rw [evBody] at hh ⊢
      simp only [Option.bind_eq_bind, Option.bind_eq_some_iff] at hh ⊢
      obtain ⟨I, h1, h2⟩ := hh
      refine ⟨I, h1, ?_⟩
      split at h2
      · rename_i hl
        rw [if_pos hl]
        simp only [Option.bind_eq_some_iff, Prod.exists] at h2 ⊢
        obtain ⟨x, s, h3, h4⟩ := h2
        exact ⟨x, s, ih.code _ _ _ h3, h4⟩
      · cases h2
    · rw [evFn] at hh ⊢
      split at hh
      · exact hh
      · simp only [Option.bind_eq_bind, Option.bind_eq_some_iff] at hh ⊢
        obtain ⟨p, h1, h2⟩ := hh
        exact ⟨p, ih.body _ _ _ _ _ h1, h2⟩

theorem evBody_le {n n' : Nat} (h : n ≤ n') {f : Nat} {ds : List D} {hp : Heap} {nx : Nat} {r : List D × Heap × Nat} (he : evBody F n f ds hp nx = some r) : evBody F n' f ds hp nx = some r := by
  induction h with
  | refl => exact he
  | step _ ih => exact (mono_all _).body _ _ _ _ _ ih

theorem evFn_le {n n' : Nat} (h : n ≤ n') {f : Nat} {vs r : List V} (he : evFn F n f vs = some r) : evFn F n' f vs = some r := by
  induction h with
  | refl => exact he
  | step _ ih => exact (mono_all _).fn _ _ _ ih

theorem evCode_le {n n' : Nat} (h : n ≤ n') {c : ICode} {s : St} {r : Ex × St} (he : evCode F n c s = some r) : evCode F n' c s = some r := by
  induction h with
  | refl => exact he
  | step _ ih => exact (mono_all _).code _ _ _ ih

/-- with enough fuel -/
def RunF (F : Tab) (f : Nat) (vs rs : List V) : Prop := ∃ n0, ∀ n, n0 ≤ n → evFn F n f vs = some rs
def RunC (F : Tab) (c : ICode) (s : St) (x : Ex) (s' : St) : Prop := ∃ n0, ∀ n, n0 ≤ n → evCode F n c s = some (x, s')

theorem RunF.of {n f : Nat} {vs rs : List V} (h : evFn F n f vs = some rs) : RunF F f vs rs := ⟨n, fun _ hn => evFn_le hn h⟩
theorem RunC.of {n : Nat} {c : ICode} {s s' : St} {x : Ex} (h : evCode F n c s = some (x, s')) : RunC F c s x s' := ⟨n, fun _ hn => evCode_le hn h⟩
theorem RunF.get {f : Nat} {vs rs : List V} (h : RunF F f vs rs) : ∃ n, evFn F n f vs = some rs := ⟨h.choose, h.choose_spec _ (Nat.le_refl _)⟩

theorem RunC.skip (s : St) : RunC F .skip s .normal s := .of (n := 1) (by simp [evCode])
theorem RunC.exit (id : Nat) (s : St) : RunC F (.exit id) s (.exit id) s := .of (n := 1) (by simp [evCode])
theorem RunC.ret (s : St) : RunC F .ret s .ret s := .of (n := 1) (by simp [evCode])

theorem RunC.seq {a b : ICode} {s s1 s2 : St} {x : Ex} (h1 : RunC F a s .normal s1) (h2 : RunC F b s1 x s2) : RunC F (.seq a b) s x s2 := by
  obtain ⟨n1, h1⟩ := h1
  obtain ⟨n2, h2⟩ := h2
  refine ⟨max n1 n2 + 1, fun n hn => ?_⟩
  obtain ⟨k, rfl⟩ : ∃ k, n = k + 1 := ⟨n - 1, by omega⟩
  simp [evCode, h1 k (by omega), h2 k (by omega)]

theorem RunC.seq_out {a b : ICode} {s s1 : St} {x : Ex} (h1 : RunC F a s x s1) (hx : x ≠ .normal) : RunC F (.seq a b) s x s1 := by
  obtain ⟨n1, h1⟩ := h1
  refine ⟨n1 + 1, fun n hn => ?_⟩
  obtain ⟨k, rfl⟩ : ∃ k, n = k + 1 := ⟨n - 1, by omega⟩
  simp only [evCode, h1 k (by omega), Option.bind_eq_bind, Option.bind_some]

theorem RunC.cond {c : X} {a b : ICode} {s s1 : St} {x : Ex} {t : Bool} (hc : evX s.env c = .c (.lit (.bool t))) (h : RunC F (if t then a else b) s x s1) : RunC F (.cond c a b) s x s1 := by
  obtain ⟨n1, h1⟩ := h
  refine ⟨n1 + 1, fun n hn => ?_⟩
  obtain ⟨k, rfl⟩ : ∃ k, n = k + 1 := ⟨n - 1, by omega⟩
  simp [evCode, hc, asBool, h1 k (by omega)]

theorem RunC.block {id : Nat} {c : ICode} {s s1 : St} {x : Ex} (h : RunC F c s x s1) (hx : x ≠ .exit id) : RunC F (.block id c) s x s1 := by
  obtain ⟨n1, h1⟩ := h
  refine ⟨n1 + 1, fun n hn => ?_⟩
  obtain ⟨k, rfl⟩ : ∃ k, n = k + 1 := ⟨n - 1, by omega⟩
  simp only [evCode, h1 k (by omega), Option.bind_eq_bind, Option.bind_some]
  cases x with
  | exit id' => simp only; rw [if_neg (fun e => hx (by rw [e]))]
  | _ => rfl

theorem RunC.block_exit {id : Nat} {c : ICode} {s s1 : St} (h : RunC F c s (.exit id) s1) : RunC F (.block id c) s .normal s1 := by
  obtain ⟨n1, h1⟩ := h
  refine ⟨n1 + 1, fun n hn => ?_⟩
  obtain ⟨k, rfl⟩ : ∃ k, n = k + 1 := ⟨n - 1, by omega⟩
  simp [evCode, h1 k (by omega)]

theorem RunC.loop {c : ICode} {s s1 s2 : St} {x : Ex} (h1 : RunC F c s .normal s1) (h2 : RunC F (.loop c) s1 x s2) : RunC F (.loop c) s x s2 := by
  obtain ⟨n1, h1⟩ := h1
  obtain ⟨n2, h2⟩ := h2
  refine ⟨max n1 n2 + 1, fun n hn => ?_⟩
  obtain ⟨k, rfl⟩ : ∃ k, n = k + 1 := ⟨n - 1, by omega⟩
  rw [evCode]
  simp [h1 k (by omega), h2 k (by omega)]

theorem RunC.loop_out {c : ICode} {s s1 : St} {x : Ex} (h1 : RunC F c s x s1) (hx : x ≠ .normal) : RunC F (.loop c) s x s1 := by
  obtain ⟨n1, h1⟩ := h1
  refine ⟨n1 + 1, fun n hn => ?_⟩
  obtain ⟨k, rfl⟩ : ∃ k, n = k + 1 := ⟨n - 1, by omega⟩
  rw [evCode]
  simp only [h1 k (by omega), Option.bind_eq_bind, Option.bind_some]

def noCall : Callee := fun _ _ => none
def noSh : Lender := fun _ _ _ _ => none

/-- calls that are known -/
def Knows (F : Tab) (call : Callee) : Prop := ∃ n0, ∀ n, n0 ≤ n → ∀ f vs rs, call f vs = some rs → evFn F n f vs = some rs
def KnowsS (F : Tab) (sh : Lender) : Prop := ∃ n0, ∀ n, n0 ≤ n → ∀ f ds h nx r, sh f ds h nx = some r → evBody F n f ds h nx = some r

theorem RunC.region {call : Callee} {sh : Lender} (hc : Knows F call) (hsh : KnowsS F sh) {is : List Inst} {s s' : St} (h : evSeq call sh is s = some s') :
    RunC F (.region is) s .normal s' := by
  obtain ⟨n1, hc⟩ := hc
  obtain ⟨n2, hsh⟩ := hsh
  refine ⟨max n1 n2 + 1, fun n hn => ?_⟩
  obtain ⟨k, rfl⟩ : ∃ k, n = k + 1 := ⟨n - 1, by omega⟩
  have := evSeq_mono (hc k (by omega)) (hsh k (by omega)) h
  simp [evCode, this]

theorem RunC.draw {call : Callee} (hc : Knows F call) {is : List Inst} {ws : List Nat} {s : St} {e : Env} {h' : Heap} {ts : List Trace} (h : evDraw call s.nx 0 is s.env s.heap = some (e, h', ts)) (hok : drawOk ts ws = true) :
    RunC F (.draw is ws) s .normal ⟨e, h', s.nx + is.length⟩ := by
  obtain ⟨n1, hc⟩ := hc
  refine ⟨n1 + 1, fun n hn => ?_⟩
  obtain ⟨k, rfl⟩ : ∃ k, n = k + 1 := ⟨n - 1, by omega⟩
  have := evDraw_mono (hc k (by omega)) h
  simp [evCode, this, hok]

theorem knows_none : Knows F noCall := ⟨0, fun _ _ _ _ _ h => by cases h⟩
theorem knowsS_none : KnowsS F noSh := ⟨0, fun _ _ _ _ _ _ _ h => by cases h⟩

/-- a body, with enough fuel -/
def RunB (F : Tab) (f : Nat) (ds : List D) (h : Heap) (nx : Nat) (rs : List D) (h' : Heap) (nx' : Nat) : Prop := ∃ n0, ∀ n, n0 ≤ n → evBody F n f ds h nx = some (rs, h', nx')

theorem RunB.fn {f : Nat} {ds : List D} {h : Heap} {nx : Nat} {I : IFunc} (hI : F.code f = some I) (hl : ds.length = I.nparams) {x : Ex} {s : St} (hr : RunC F I.body ⟨bindArgs 0 ds, h, nx⟩ x s) (hx : ∀ id, x ≠ .exit id) {rs : List D} (hd : resD s.env s.heap I.res = some rs) :
    RunB F f ds h nx rs s.heap s.nx := by
  obtain ⟨n0, hr⟩ := hr
  refine ⟨n0 + 1, fun n hn => ?_⟩
  obtain ⟨k, rfl⟩ : ∃ k, n = k + 1 := ⟨n - 1, by omega⟩
  have h1 := hr k (by omega)
  rw [evBody]
  simp only [hI, Option.bind_eq_bind, Option.bind_some, hl, if_true, h1]
  cases x with
  | exit id => exact absurd rfl (hx id)
  | normal => simp [hd]
  | ret => simp [hd]

theorem RunF.body {f : Nat} {vs rs : List V} (hn : F.nat f vs = none) {ds : List D} {h : Heap} {nx : Nat} (hr : RunB F f (vs.map V.toD) [] 0 ds h nx) {us : List (Nat × Obj)} (hf : frzVs h ds = some (rs, us)) : RunF F f vs rs := by
  obtain ⟨n0, hr⟩ := hr
  refine ⟨n0 + 1, fun n hn' => ?_⟩
  obtain ⟨k, rfl⟩ : ∃ k, n = k + 1 := ⟨n - 1, by omega⟩
  rw [evFn, hn]
  simp [hr k (by omega), hf]

theorem RunF.nat {f : Nat} {vs rs : List V} (hn : F.nat f vs = some rs) : RunF F f vs rs := by
  refine ⟨1, fun n hn' => ?_⟩
  obtain ⟨k, rfl⟩ : ∃ k, n = k + 1 := ⟨n - 1, by omega⟩
  rw [evFn, hn]

end Go.Ez

