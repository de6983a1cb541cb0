/-
  More fuel changes nothing; rules for reasoning on the evaluator without its fuel.
-/
import Derived.Test.YtfphnpelampoeaaEvBaseM
set_option linter.unusedVariables false
set_option linter.unusedSimpArgs false
namespace Go.Ev

theorem stepC_mono {call call' : Callee} (hc : ∀ f vs rs, call f vs = some rs → call' f vs = some rs) {ρ : X → D} {h : Heap} {slot : Nat} {i : Ins} {r : D × List (Nat × Obj)} (hs : stepC call ρ h slot i = some r) : stepC call' ρ h slot i = some r := by
  cases i with
  | call f xs =>
    simp only [stepC, Option.bind_eq_bind, Option.bind_eq_some_iff, Prod.exists] at hs ⊢
    obtain ⟨vs, us, h1, rs, h2, h3⟩ := hs
    exact ⟨vs, us, h1, rs, hc _ _ _ h2, h3⟩
  | _ => exact hs

theorem evSeq_mono {call call' : Callee} {sh sh' : Nat → List D → Heap → Nat → Option (List D × Heap × Nat)} (hc : ∀ f vs rs, call f vs = some rs → call' f vs = some rs) (hsh : ∀ f ds h nx r, sh f ds h nx = some r → sh' f ds h nx = some r) :
    ∀ {is : List Inst} {s s' : St}, evSeq call sh is s = some s' → evSeq call' sh' is s = some s'
  | [], s, s', h => h
  | i :: is, s, s', h => by
    simp only [evSeq, Option.bind_eq_bind, Option.bind_eq_some_iff] at h ⊢
    obtain ⟨w, h1, h2⟩ := h
    refine ⟨w, h1, ?_⟩
    cases w with
    | false => simp only [if_false, Bool.false_eq_true] at h2 ⊢; exact evSeq_mono hc hsh h2
    | true =>
      simp only [if_true] at h2 ⊢
      cases hi : i.ins with
      | callS f xs =>
        rw [hi] at h2
        simp only [Option.bind_eq_some_iff, Prod.exists] at h2 ⊢
        obtain ⟨ds, h', nx, h3, h4⟩ := h2
        exact ⟨ds, h', nx, hsh _ _ _ _ _ h3, evSeq_mono hc hsh h4⟩
      | _ =>
        rw [hi] at h2
        simp only [Option.bind_eq_some_iff, Prod.exists] at h2 ⊢
        obtain ⟨d, us, h3, h4⟩ := h2
        exact ⟨d, us, stepC_mono hc h3, evSeq_mono hc hsh h4⟩

theorem evDraw_mono {call call' : Callee} {nx : Nat} (hc : ∀ f vs rs, call f vs = some rs → call' f vs = some rs) :
    ∀ {is : List Inst} {k : Nat} {e : Env} {h : Heap} {r : Env × Heap × List Trace}, evDraw call nx k is e h = some r → evDraw call' nx k is e h = some r
  | [], k, e, h, r, hd => hd
  | i :: is, k, e, h, r, hd => by
    simp only [evDraw, Option.bind_eq_bind, Option.bind_eq_some_iff] at hd ⊢
    obtain ⟨w, h1, h2⟩ := hd
    refine ⟨w, h1, ?_⟩
    cases w with
    | false =>
      simp only [if_false, Bool.false_eq_true, Option.bind_eq_some_iff] at h2 ⊢
      obtain ⟨p, h3, h4⟩ := h2
      exact ⟨p, evDraw_mono hc h3, h4⟩
    | true =>
      simp only [if_true, Option.bind_eq_some_iff] at h2 ⊢
      obtain ⟨p, h3, q, h4, h5⟩ := h2
      exact ⟨p, stepC_mono hc h3, q, evDraw_mono hc h4, h5⟩

variable {F : Nat → Option IFunc}

structure Mono (F : Nat → Option IFunc) (n : Nat) : Prop where
  code : ∀ c s r, evCode F n c s = some r → evCode F (n + 1) c s = some r
  body : ∀ sh f ds h nx r, evBody F n sh f ds h nx = some r → evBody F (n + 1) sh f ds h nx = some r
  shared : ∀ f ds h nx r, evSh F n f ds h nx = some r → evSh F (n + 1) f ds h nx = some r
  fn : ∀ f vs r, evFn F n f vs = some r → evFn F (n + 1) f vs = some r

theorem mono_all : ∀ n, Mono F n
  | 0 => ⟨by intro c s r h; simp [evCode] at h, by intro sh f ds h nx r hh; simp [evBody] at hh, by intro f ds h nx r hh; simp [evSh] at hh, by intro f vs r hh; simp [evFn] at hh⟩
  | n + 1 => by
    have ih : Mono F n := mono_all n
    refine ⟨fun c s r h => ?_, fun sh f ds h nx r hh => ?_, fun f ds h nx r hh => ?_, fun f vs r hh => ?_⟩
    · cases c with
      | skip => rw [evCode] at h ⊢; exact h
      | exit id => rw [evCode] at h ⊢; exact h
      | ret => rw [evCode] at h ⊢; exact h
      | region is live =>
        rw [evCode] at h ⊢
        simp only [Option.bind_eq_bind, Option.bind_eq_some_iff] at h ⊢
        obtain ⟨s', h1, h2⟩ := h
        exact ⟨s', evSeq_mono ih.fn ih.shared h1, h2⟩
      | draw is free live =>
        rw [evCode] at h ⊢
        simp only [Option.bind_eq_bind, Option.bind_eq_some_iff] at h ⊢
        obtain ⟨p, h1, h2⟩ := h
        exact ⟨p, evDraw_mono ih.fn h1, h2⟩
      | seq a b =>
        rw [evCode] at h ⊢
        simp only [Option.bind_eq_bind, Option.bind_eq_some_iff, Prod.exists] at h ⊢
        obtain ⟨x, s', h1, h2⟩ := h
        refine ⟨x, s', ih.code _ _ _ h1, ?_⟩
        cases x with
        | normal => exact ih.code _ _ _ h2
        | _ => exact h2
      | cond c a b =>
        rw [evCode] at h ⊢
        simp only [Option.bind_eq_bind, Option.bind_eq_some_iff] at h ⊢
        obtain ⟨t, h1, h2⟩ := h
        exact ⟨t, h1, ih.code _ _ _ h2⟩
      | block id c =>
        rw [evCode] at h ⊢
        simp only [Option.bind_eq_bind, Option.bind_eq_some_iff, Prod.exists] at h ⊢
        obtain ⟨x, s', h1, h2⟩ := h
        exact ⟨x, s', ih.code _ _ _ h1, h2⟩
      | loop keep c =>
        rw [evCode] at h ⊢
        simp only [Option.bind_eq_bind, Option.bind_eq_some_iff, Prod.exists] at h ⊢
        obtain ⟨x, s', h1, h2⟩ := h
        refine ⟨x, s', ih.code _ _ _ h1, ?_⟩
        cases x with
        | normal => exact ih.code _ _ _ h2
        | _ => exact h2
    · rw [evBody] at hh ⊢
      simp only [Option.bind_eq_bind, Option.bind_eq_some_iff] at hh ⊢
      obtain ⟨I, h1, h2⟩ := hh
      refine ⟨I, h1, ?_⟩
      split at h2
      · rename_i hl
        rw [if_pos hl]
        simp only [Option.bind_eq_some_iff, Prod.exists] at h2 ⊢
        obtain ⟨x, s, h3, h4⟩ := h2
        exact ⟨x, s, ih.code _ _ _ h3, h4⟩
      · cases h2
    · rw [evSh] at hh ⊢
      exact ih.body _ _ _ _ _ _ hh
    · rw [evFn] at hh ⊢
      simp only [Option.bind_eq_bind, Option.bind_eq_some_iff] at hh ⊢
      obtain ⟨p, h1, h2⟩ := hh
      exact ⟨p, ih.body _ _ _ _ _ _ h1, h2⟩

theorem evFn_le {n n' : Nat} (h : n ≤ n') {f : Nat} {vs r : List V} (he : evFn F n f vs = some r) : evFn F n' f vs = some r := by
  induction h with
  | refl => exact he
  | step _ ih => exact (mono_all _).fn _ _ _ ih

theorem evCode_le {n n' : Nat} (h : n ≤ n') {c : ICode} {s : St} {r : Ex × St} (he : evCode F n c s = some r) : evCode F n' c s = some r := by
  induction h with
  | refl => exact he
  | step _ ih => exact (mono_all _).code _ _ _ ih

/-- with enough fuel -/
def RunF (F : Nat → Option IFunc) (f : Nat) (vs rs : List V) : Prop := ∃ n0, ∀ n, n0 ≤ n → evFn F n f vs = some rs
def RunC (F : Nat → Option IFunc) (c : ICode) (s : St) (x : Ex) (s' : St) : Prop := ∃ n0, ∀ n, n0 ≤ n → evCode F n c s = some (x, s')

theorem RunF.of {n f : Nat} {vs rs : List V} (h : evFn F n f vs = some rs) : RunF F f vs rs := ⟨n, fun _ hn => evFn_le hn h⟩
theorem RunC.of {n : Nat} {c : ICode} {s s' : St} {x : Ex} (h : evCode F n c s = some (x, s')) : RunC F c s x s' := ⟨n, fun _ hn => evCode_le hn h⟩
theorem RunF.get {f : Nat} {vs rs : List V} (h : RunF F f vs rs) : ∃ n, evFn F n f vs = some rs := ⟨h.choose, h.choose_spec _ (Nat.le_refl _)⟩

theorem RunC.skip (s : St) : RunC F .skip s .normal s := .of (n := 1) (by simp [evCode])
theorem RunC.exit (id : Nat) (s : St) : RunC F (.exit id) s (.exit id) s := .of (n := 1) (by simp [evCode])
theorem RunC.ret (s : St) : RunC F .ret s .ret s := .of (n := 1) (by simp [evCode])

theorem RunC.seq {a b : ICode} {s s1 s2 : St} {x : Ex} (h1 : RunC F a s .normal s1) (h2 : RunC F b s1 x s2) : RunC F (.seq a b) s x s2 := by
  obtain ⟨n1, h1⟩ := h1
  obtain ⟨n2, h2⟩ := h2
  refine ⟨max n1 n2 + 1, fun n hn => ?_⟩
  obtain ⟨k, rfl⟩ : ∃ k, n = k + 1 := ⟨n - 1, by omega⟩
  simp [evCode, h1 k (by omega), h2 k (by omega)]

theorem RunC.seq_out {a b : ICode} {s s1 : St} {x : Ex} (h1 : RunC F a s x s1) (hx : x ≠ .normal) : RunC F (.seq a b) s x s1 := by
  obtain ⟨n1, h1⟩ := h1
  refine ⟨n1 + 1, fun n hn => ?_⟩
  obtain ⟨k, rfl⟩ : ∃ k, n = k + 1 := ⟨n - 1, by omega⟩
  simp only [evCode, h1 k (by omega), Option.bind_eq_bind, Option.bind_some]

theorem RunC.cond {c : X} {a b : ICode} {s s1 : St} {x : Ex} {t : Bool} (hc : evX s.env c = .c (.lit (.bool t))) (h : RunC F (if t then a else b) s x s1) : RunC F (.cond c a b) s x s1 := by
  obtain ⟨n1, h1⟩ := h
  refine ⟨n1 + 1, fun n hn => ?_⟩
  obtain ⟨k, rfl⟩ : ∃ k, n = k + 1 := ⟨n - 1, by omega⟩
  simp [evCode, hc, asBool, h1 k (by omega)]

theorem RunC.block {id : Nat} {c : ICode} {s s1 : St} {x : Ex} (h : RunC F c s x s1) (hx : x ≠ .exit id) : RunC F (.block id c) s x s1 := by
  obtain ⟨n1, h1⟩ := h
  refine ⟨n1 + 1, fun n hn => ?_⟩
  obtain ⟨k, rfl⟩ : ∃ k, n = k + 1 := ⟨n - 1, by omega⟩
  simp only [evCode, h1 k (by omega), Option.bind_eq_bind, Option.bind_some]
  cases x with
  | exit id' => simp only; rw [if_neg (fun e => hx (by rw [e]))]
  | _ => rfl

theorem RunC.block_exit {id : Nat} {c : ICode} {s s1 : St} (h : RunC F c s (.exit id) s1) : RunC F (.block id c) s .normal s1 := by
  obtain ⟨n1, h1⟩ := h
  refine ⟨n1 + 1, fun n hn => ?_⟩
  obtain ⟨k, rfl⟩ : ∃ k, n = k + 1 := ⟨n - 1, by omega⟩
  simp [evCode, h1 k (by omega)]

theorem RunC.loop {keep : List Nat} {c : ICode} {s s1 s2 : St} {x : Ex} (h1 : RunC F c (normSt keep s) .normal s1) (h2 : RunC F (.loop keep c) s1 x s2) : RunC F (.loop keep c) s x s2 := by
  obtain ⟨n1, h1⟩ := h1
  obtain ⟨n2, h2⟩ := h2
  refine ⟨max n1 n2 + 1, fun n hn => ?_⟩
  obtain ⟨k, rfl⟩ : ∃ k, n = k + 1 := ⟨n - 1, by omega⟩
  rw [evCode]
  simp [h1 k (by omega), h2 k (by omega)]

theorem RunC.loop_out {keep : List Nat} {c : ICode} {s s1 : St} {x : Ex} (h1 : RunC F c (normSt keep s) x s1) (hx : x ≠ .normal) : RunC F (.loop keep c) s x s1 := by
  obtain ⟨n1, h1⟩ := h1
  refine ⟨n1 + 1, fun n hn => ?_⟩
  obtain ⟨k, rfl⟩ : ∃ k, n = k + 1 := ⟨n - 1, by omega⟩
  rw [evCode]
  simp only [h1 k (by omega), Option.bind_eq_bind, Option.bind_some]

/-- a region without calls -/
def noCall : Callee := fun _ _ => none
def noSh : Nat → List D → Heap → Nat → Option (List D × Heap × Nat) := fun _ _ _ _ => none

/-- calls that are known -/
def Knows (F : Nat → Option IFunc) (call : Callee) : Prop := ∃ n0, ∀ n, n0 ≤ n → ∀ f vs rs, call f vs = some rs → evFn F n f vs = some rs
def KnowsS (F : Nat → Option IFunc) (sh : Nat → List D → Heap → Nat → Option (List D × Heap × Nat)) : Prop := ∃ n0, ∀ n, n0 ≤ n → ∀ f ds h nx r, sh f ds h nx = some r → evSh F n f ds h nx = some r

theorem RunC.region {call : Callee} {sh : Nat → List D → Heap → Nat → Option (List D × Heap × Nat)} (hc : Knows F call) (hsh : KnowsS F sh) {is : List Inst} {live : List Nat} {s s' : St} (h : evSeq call sh is s = some s') :
    RunC F (.region is live) s .normal ⟨keepE s'.env live, s'.heap, s'.nx, s'.sh⟩ := by
  obtain ⟨n1, hc⟩ := hc
  obtain ⟨n2, hsh⟩ := hsh
  refine ⟨max n1 n2 + 1, fun n hn => ?_⟩
  obtain ⟨k, rfl⟩ : ∃ k, n = k + 1 := ⟨n - 1, by omega⟩
  have := evSeq_mono (hc k (by omega)) (hsh k (by omega)) h
  simp [evCode, this]

theorem RunC.draw {call : Callee} (hc : Knows F call) {is : List Inst} {free : List (Nat × Nat)} {live : List Nat} {s : St} {e : Env} {h' : Heap} {ts : List Trace} (h : evDraw call s.nx 0 is s.env s.heap = some (e, h', ts)) (hok : drawOk ts free = true) :
    RunC F (.draw is free live) s .normal ⟨keepE e live, h', s.nx + is.length, s.sh⟩ := by
  obtain ⟨n1, hc⟩ := hc
  refine ⟨n1 + 1, fun n hn => ?_⟩
  obtain ⟨k, rfl⟩ : ∃ k, n = k + 1 := ⟨n - 1, by omega⟩
  have := evDraw_mono (hc k (by omega)) h
  simp [evCode, this, hok]

theorem knows_none : Knows F noCall := ⟨0, fun _ _ _ _ _ h => by cases h⟩
theorem knowsS_none : KnowsS F noSh := ⟨0, fun _ _ _ _ _ _ _ h => by cases h⟩

theorem RunF.fn {f : Nat} {vs rs : List V} {I : IFunc} (hI : F f = some I) (hl : vs.length = I.nparams) {x : Ex} {s : St} (h : RunC F I.body ⟨bindArgs 0 (vs.map V.toD), [], 0, false⟩ x s) (hx : ∀ id, x ≠ .exit id) {ds : List D} (hd : resD s.env s.heap I.res = some ds)
    {us : List (Nat × Obj)} (hf : frzVs s.heap ds = some (rs, us)) : RunF F f vs rs := by
  obtain ⟨n0, h⟩ := h
  refine ⟨n0 + 2, fun n hn => ?_⟩
  obtain ⟨k, rfl⟩ : ∃ k, n = k + 2 := ⟨n - 2, by omega⟩
  have h1 := h k (by omega)
  have h2 : evBody F (k + 1) false f (vs.map V.toD) [] 0 = some (ds, s.heap, s.nx) := by
    rw [evBody]
    simp only [hI, Option.bind_eq_bind, Option.bind_some, List.length_map, hl, if_true, h1]
    cases x with
    | exit id => exact absurd rfl (hx id)
    | normal => simp [hd]
    | ret => simp [hd]
  simp [evFn, h2, hf]

end Go.Ev

