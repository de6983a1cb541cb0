/-
  The operations that touch no memory: what the evaluator says is what the model does.
-/
import Derived.Test.YtfphnpelampoeaaEvRun
namespace Go.Ev
open Go.RowKit

theorem scalar_binV {op : BinOp} {a b v : Value} (h : binV op a b = some v) : scalar v = true := by
  unfold binV at h
  split at h
  · split at h
    · unfold shiftBin at h
      split at h
      · cases h
      · cases op <;> simp at h <;> subst h <;> rfl
    · split at h
      · unfold intBin at h
        cases op <;> simp at h <;> first | (subst h; rfl) | (obtain ⟨_, rfl⟩ := h; rfl)
      · cases h
  · unfold strBin at h
    cases op <;> simp at h <;> subst h <;> rfl
  · cases h

theorem scalar_boolV {op : BinOp} {a b v : Value} (h : boolV op a b = some v) : scalar v = true := by
  unfold boolV at h
  split at h
  · cases op <;> simp at h <;> subst h <;> rfl
  · cases h

theorem scalar_unV {op : UnOp} {a v : Value} (h : unV op a = some v) : scalar v = true := by
  unfold unV at h
  split at h
  · cases op <;> simp at h <;> subst h <;> rfl
  · cases op <;> simp at h <;> subst h <;> rfl
  · cases h

section
variable {P : Program} {w : World}

theorem run_eqGuard_int (op : BinOp) (t : TypeId) (x y : Operand) (k k' : IntKind) (p q : Int) : (eqGuard op t x y (.int k p) (.int k' q)).run P w = .ok () w := by cases op <;> rfl
theorem run_eqGuard_bool (op : BinOp) (t : TypeId) (x y : Operand) (p q : Bool) : (eqGuard op t x y (.bool p) (.bool q)).run P w = .ok () w := by cases op <;> rfl
theorem run_eqGuard_string (op : BinOp) (t : TypeId) (x y : Operand) (p q : ByteArray) : (eqGuard op t x y (.string p) (.string q)).run P w = .ok () w := by cases op <;> rfl

theorem run_equalIn_bool (d : Nat) {t : TypeId} (ht : P.underlying t = some .bool) (p q : Bool) : (Op.equalIn (d + 1) t (.bool p) (.bool q)).run P w = .ok (p == q) w := by
  simp [Op.equalIn, run_underlying ht]
theorem run_equal_bool {t : TypeId} (ht : P.underlying t = some .bool) (p q : Bool) : (Op.equal t (.bool p) (.bool q)).run P w = .ok (p == q) w := run_equalIn_bool 9999 ht p q

theorem run_bin {op : BinOp} {t : TypeId} {x y : Operand} {a b v : Value} {isB : Bool} (hB : isB = true → P.underlying t = some .bool)
    (h : (if isB then boolV op a b else binV op a b) = some v) : (do eqGuard op t x y a b; binOp op t a b : Sem Value).run P w = .ok v w := by
  cases isB with
  | true =>
    have ht := hB rfl
    simp only [if_true] at h
    unfold boolV at h
    split at h
    · rename_i p q
      have hg := run_eqGuard_bool (P := P) (w := w) op t x y p q
      simp only [Sem.run_bind, hg, Result.andThen_ok]
      have he := run_equal_bool (P := P) (w := w) ht p q
      cases op <;> simp at h <;> subst h <;> simp [binOp, he]
    · cases h
  | false =>
    simp only [if_false, Bool.false_eq_true] at h
    unfold binV at h
    split at h
    · rename_i k p k' q
      have hg := run_eqGuard_int (P := P) (w := w) op t x y k k' p q
      simp only [Sem.run_bind, hg, Result.andThen_ok]
      split at h
      · rename_i hsh
        unfold shiftBin at h
        split at h
        · cases h
        · rename_i hneg
          cases op <;> simp [isShift] at hsh <;> simp at h <;> subst h <;> simp [binOp, Op.shift, hneg]
      · rename_i hsh
        split at h
        · rename_i hkk
          subst hkk
          unfold intBin at h
          cases op <;> simp [isShift] at hsh <;> simp at h <;>
            first
              | (subst h; simp [binOp, Op.intArith, Op.intBits, Op.intCmp]; done)
              | (obtain ⟨h0, rfl⟩ := h; simp [binOp, Op.intDiv, h0]; done)
        · cases h
    · rename_i p q
      have hg := run_eqGuard_string (P := P) (w := w) op t x y p q
      simp only [Sem.run_bind, hg, Result.andThen_ok]
      unfold strBin at h
      cases op <;> simp at h <;> subst h <;> simp [binOp, Op.stringOp]
    · cases h

theorem run_un {op : UnOp} {a v : Value} (h : unV op a = some v) : (Op.unary op a).run P w = .ok v w := by
  unfold unV at h
  split at h
  · cases op <;> simp at h <;> subst h <;> simp [Op.unary, Op.intArith, Op.intBits]
  · cases op <;> simp at h <;> subst h <;> simp [Op.unary]
  · cases h

theorem run_mx {ts : Array TypeId} {t : TypeId} {a b v : Value} (h : minmax true a b = some v) : (Builtin.max_ ts t #[a, b]).run P w = .ok v w := by
  unfold minmax at h
  split at h
  · simp only [if_true, Option.some.injEq] at h
    subst h
    simp [Builtin.max_, Builtin.max2]
  · cases h

theorem run_mn {ts : Array TypeId} {t : TypeId} {a b v : Value} (h : minmax false a b = some v) : (Builtin.min_ ts t #[a, b]).run P w = .ok v w := by
  unfold minmax at h
  split at h
  · simp only [if_false, Bool.false_eq_true, Option.some.injEq] at h
    subst h
    simp [Builtin.min_, Builtin.min2]
  · cases h

theorem scalar_minmax {m : Bool} {a b v : Value} (h : minmax m a b = some v) : scalar v = true := by
  unfold minmax at h
  split at h
  · simp only [Option.some.injEq] at h; subst h; rfl
  · cases h
end

theorem asLit_some {d : D} {v : Value} (h : asLit d = some v) : d = .c (.lit v) := by
  unfold asLit at h
  split at h
  · simp at h; subst h; rfl
  · cases h

theorem asInt_some {d : D} {n : Int} (h : Ev.asInt d = some n) : ∃ k, d = .c (.lit (.int k n)) := by
  unfold Ev.asInt at h
  split at h
  · rename_i k n'; simp at h; subst h; exact ⟨k, rfl⟩
  · cases h

theorem asBool_some {d : D} {b : Bool} (h : Ev.asBool d = some b) : d = .c (.lit (.bool b)) := by
  unfold Ev.asBool at h
  split at h
  · simp at h; subst h; rfl
  · cases h

section
variable {B : Nat} {S : Nat → Nat → Prop}

theorem RepD.lit {m : M} {v u : Value} (h : RepD B S m (.c (.lit v)) u) : u = v := by
  have h' : RepC m.w (Safe B S m) (.lit v) u := h
  simp only [RepC] at h'
  exact h'.1

theorem RepD.mkLit {m : M} {v : Value} (h : scalar v = true) : RepD B S m (.c (.lit v)) v := by
  show RepC m.w (Safe B S m) (.lit v) v
  simp only [RepC]
  exact ⟨trivial, h⟩

/-- what is known behind an operation -/
def Post (B : Nat) (S : Nat → Nat → Prop) (m : M) (slot : Nat) (us : List (Nat × Obj)) (d : D) (v : Value) (w' : World) : Prop :=
  ∃ β', HOK B S ⟨w', updH m.h us, β', fun i => m.U i ∨ i = slot⟩ ∧ Evolves B S m ⟨w', updH m.h us, β', fun i => m.U i ∨ i = slot⟩ ∧
    RepD B S ⟨w', updH m.h us, β', fun i => m.U i ∨ i = slot⟩ d v ∧ Below B m.w w'

def Does (B : Nat) (S : Nat → Nat → Prop) (P : Program) (o : Oper) (a : Act) (m : M) (slot : Nat) (d : D) (us : List (Nat × Obj)) : Prop :=
  ∃ n v w', (execOp a.eval o).run P m.w = .ok n w' ∧ (n = .value v ∨ (n = .skip ∧ v = undef)) ∧ Post B S m slot us d v w'

theorem does_pure {P : Program} {o : Oper} {a : Act} {m : M} (hk : HOK B S m) (slot : Nat) {d : D} {v : Value} (hrun : (execOp a.eval o).run P m.w = .ok (.value v) m.w) (hr : RepD B S m d v) :
    Does B S P o a m slot d [] :=
  ⟨_, v, m.w, hrun, .inl rfl, m.β, grow_hok hk slot, grow_evolves m slot, (grow_evolves m slot).repD hr, Below.refl _ _⟩

/-- what the operands hold -/
def Opd (B : Nat) (S : Nat → Nat → Prop) (m : M) (ρ : X → D) (a : Act) : Prop := ∀ x X, compX x = some X → RepD B S m (ρ X) (a.eval x)

theorem pureD_some {d : Option D} {x : D} {us : List (Nat × Obj)} (h : pureD d = some (x, us)) : d = some x ∧ us = [] := by
  unfold pureD at h
  cases d with
  | none => simp at h
  | some y => simp only [Option.map_some, Option.some.injEq, Prod.mk.injEq] at h; exact ⟨by rw [h.1], h.2.symm⟩

variable {P : Program} {o : Oper} {a : Act} {m : M} {slot : Nat} {ρ : X → D} {d : D} {us : List (Nat × Obj)}

theorem does_mov (hk : HOK B S m) (ho : Opd B S m ρ a) {x : Operand} {X : X} (hop : o.op = .move x ∨ o.op = .assign x) (hx : compX x = some X)
    (hs : step ρ m.h slot (.mov X) = some (d, us)) : Does B S P o a m slot d us := by
  simp only [step, pureD, Option.map_some, Option.some.injEq, Prod.mk.injEq] at hs
  obtain ⟨rfl, rfl⟩ := hs
  refine does_pure hk slot (v := a.eval x) ?_ (ho x X hx)
  rcases hop with h | h <;> simp [execOp, h]

theorem does_pick (hk : HOK B S m) (ho : Opd B S m ρ a) {c x y : Operand} {C' X' Y' : X} (hop : o.op = .pick c x y) (hc : compX c = some C') (hx : compX x = some X') (hy : compX y = some Y')
    (hs : step ρ m.h slot (.pick C' X' Y') = some (d, us)) : Does B S P o a m slot d us := by
  simp only [step] at hs
  obtain ⟨h1, rfl⟩ := pureD_some hs
  simp only [Option.bind_eq_bind, Option.bind_eq_some_iff, Option.some.injEq] at h1
  obtain ⟨t, h2, rfl⟩ := h1
  have h3 := ho c C' hc
  rw [asBool_some h2] at h3
  have h4 := h3.lit
  refine does_pure hk slot (v := if t then a.eval x else a.eval y) ?_ ?_
  · simp [execOp, hop, h4, Go.asBool]
  · cases t
    · exact ho y Y' hy
    · exact ho x X' hx

theorem does_bin (hk : HOK B S m) (ho : Opd B S m ρ a) {op : BinOp} {t t' : TypeId} {x y : Operand} {isB : Bool} {X' Y' : X} (hop : o.op = .binOp op t x y t') (hB : isB = true → P.underlying t = some .bool)
    (hx : compX x = some X') (hy : compX y = some Y') (hs : step ρ m.h slot (.bin op isB X' Y') = some (d, us)) : Does B S P o a m slot d us := by
  simp only [step] at hs
  obtain ⟨h1, rfl⟩ := pureD_some hs
  simp only [Option.bind_eq_bind, Option.bind_eq_some_iff, Option.map_eq_some_iff] at h1
  obtain ⟨p, h2, q, h3, v, h4, rfl⟩ := h1
  have e1 := ho x X' hx
  have e2 := ho y Y' hy
  rw [asLit_some h2] at e1
  rw [asLit_some h3] at e2
  refine does_pure hk slot (v := v) ?_ (RepD.mkLit ?_)
  · have hrun := run_bin (P := P) (w := m.w) (op := op) (t := t) (x := x) (y := y) hB h4
    simp only [execOp, hop, e1.lit, e2.lit]
    simp only [Sem.run_bind] at hrun ⊢
    rw [hrun]
    rfl
  · cases isB
    · exact scalar_binV h4
    · exact scalar_boolV h4

theorem does_un (hk : HOK B S m) (ho : Opd B S m ρ a) {op : UnOp} {t : TypeId} {x : Operand} {X' : X} (hop : o.op = .unOp op t x) (hx : compX x = some X')
    (hs : step ρ m.h slot (.un op X') = some (d, us)) : Does B S P o a m slot d us := by
  simp only [step] at hs
  obtain ⟨h1, rfl⟩ := pureD_some hs
  simp only [Option.bind_eq_bind, Option.bind_eq_some_iff, Option.map_eq_some_iff] at h1
  obtain ⟨p, h2, v, h4, rfl⟩ := h1
  have e1 := ho x X' hx
  rw [asLit_some h2] at e1
  refine does_pure hk slot (v := v) ?_ (RepD.mkLit (scalar_unV h4))
  have hrun := run_un (P := P) (w := m.w) h4
  simp [execOp, hop, e1.lit, hrun]

theorem does_conv (hk : HOK B S m) (ho : Opd B S m ρ a) {src dst : TypeId} {k0 k : IntKind} {x : Operand} {X' : X} (hop : o.op = .convert src dst x) (h1 : P.underlying src = some (.int k0)) (h2 : P.underlying dst = some (.int k))
    (hx : compX x = some X') (hs : step ρ m.h slot (.conv k X') = some (d, us)) : Does B S P o a m slot d us := by
  simp only [step] at hs
  obtain ⟨h3, rfl⟩ := pureD_some hs
  simp only [Option.bind_eq_bind, Option.bind_eq_some_iff, Option.some.injEq] at h3
  obtain ⟨n, h4, rfl⟩ := h3
  obtain ⟨k1, h5⟩ := asInt_some h4
  have e1 := ho x X' hx
  rw [h5] at e1
  refine does_pure hk slot (v := .int k (k.wrap n)) ?_ (RepD.mkLit rfl)
  simp [execOp, hop, e1.lit, convert, run_underlying h1, run_underlying h2, Conv.intToInt]

theorem does_mx (hk : HOK B S m) (ho : Opd B S m ρ a) {x y : Operand} {ts : Array TypeId} {X' Y' : X} (hop : o.op = .call { callee := .builtin .max, args := #[x, y], argTypes := ts })
    (hx : compX x = some X') (hy : compX y = some Y') (hs : step ρ m.h slot (.mx X' Y') = some (d, us)) : Does B S P o a m slot d us := by
  simp only [step] at hs
  obtain ⟨h1, rfl⟩ := pureD_some hs
  simp only [Option.bind_eq_bind, Option.bind_eq_some_iff, Option.map_eq_some_iff] at h1
  obtain ⟨p, h2, q, h3, v, h4, rfl⟩ := h1
  have e1 := ho x X' hx
  have e2 := ho y Y' hy
  rw [asLit_some h2] at e1
  rw [asLit_some h3] at e2
  refine does_pure hk slot (v := v) ?_ (RepD.mkLit (scalar_minmax h4))
  have hrun := run_mx (P := P) (w := m.w) (ts := ts) (t := o.type) h4
  simp [execOp, hop, resolve, invoke, builtin, e1.lit, e2.lit, hrun]

theorem does_mn (hk : HOK B S m) (ho : Opd B S m ρ a) {x y : Operand} {ts : Array TypeId} {X' Y' : X} (hop : o.op = .call { callee := .builtin .min, args := #[x, y], argTypes := ts })
    (hx : compX x = some X') (hy : compX y = some Y') (hs : step ρ m.h slot (.mn X' Y') = some (d, us)) : Does B S P o a m slot d us := by
  simp only [step] at hs
  obtain ⟨h1, rfl⟩ := pureD_some hs
  simp only [Option.bind_eq_bind, Option.bind_eq_some_iff, Option.map_eq_some_iff] at h1
  obtain ⟨p, h2, q, h3, v, h4, rfl⟩ := h1
  have e1 := ho x X' hx
  have e2 := ho y Y' hy
  rw [asLit_some h2] at e1
  rw [asLit_some h3] at e2
  refine does_pure hk slot (v := v) ?_ (RepD.mkLit (scalar_minmax h4))
  have hrun := run_mn (P := P) (w := m.w) (ts := ts) (t := o.type) h4
  simp [execOp, hop, resolve, invoke, builtin, e1.lit, e2.lit, hrun]

theorem RepD_get {ds : List D} {us : List Value} {i : Nat} {d : D} (h : All2 (RepA B S m) ds us) (hi : ds[i]? = some d) : ∃ u, us[i]? = some u ∧ RepA B S m d u := h.get i hi

theorem RepA.toD {m : M} {d : D} {u : Value} (h : RepA B S m d u) : RepD B S m d u := by
  cases d with
  | tup ds => exact h.elim
  | _ => exact h

theorem RepDc.toA {m : M} {d : D} {u : Value} (h : RepDc B S m d u) : RepA B S m d u := by
  cases d with
  | agg ds => exact h.elim
  | _ => exact h

theorem RepDc.toD {m : M} {d : D} {u : Value} (h : RepDc B S m d u) : RepD B S m d u := h.toA.toD

theorem does_ext (hk : HOK B S m) (ho : Opd B S m ρ a) {x : Operand} {X' : X} {i : Nat} (hop : o.op = .extract x i) (hx : compX x = some X')
    (hs : step ρ m.h slot (.ext X' i) = some (d, us)) : Does B S P o a m slot d us := by
  simp only [step] at hs
  obtain ⟨h1, rfl⟩ := pureD_some hs
  have e1 := ho x X' hx
  split at h1
  · rename_i ds hd
    rw [hd] at e1
    obtain ⟨vs, e2, e3⟩ := e1
    obtain ⟨u, e4, e5⟩ := RepD_get e3 h1
    refine does_pure hk slot (v := u) ?_ e5.toD
    simp [execOp, hop, e2, Instr.extract, e4]
  · cases h1

theorem does_len (hk : HOK B S m) (ho : Opd B S m ρ a) {x : Operand} {X' : X} {t : TypeId} {isStr : Bool} (hop : o.op = .call { callee := .builtin .len, args := #[x], argTypes := #[t] })
    (ht : if isStr then P.underlying t = some .string else ∃ e, P.underlying t = some (.slice e)) (hx : compX x = some X') (hs : step ρ m.h slot (.len isStr X') = some (d, us)) : Does B S P o a m slot d us := by
  simp only [step] at hs
  obtain ⟨h1, rfl⟩ := pureD_some hs
  have e1 := ho x X' hx
  unfold lenD at h1
  split at h1 <;> cases isStr <;> simp only [if_true, if_false, Bool.false_eq_true, Option.some.injEq, reduceCtorEq] at h1 ht <;> subst h1
  · rename_i id off len he
    rw [he] at e1
    obtain ⟨_, ad, cap, e2, _⟩ := e1
    obtain ⟨e, ht⟩ := ht
    refine does_pure hk slot (v := .int .i64 len) ?_ (RepD.mkLit rfl)
    simp [execOp, hop, resolve, invoke, builtin, e2, Builtin.len_, run_underlying ht, goInt]
  · rename_i cs n he
    rw [he] at e1
    have e1' : RepC m.w (Safe B S m) (.slice cs n) (a.eval x) := e1
    simp only [RepC] at e1'
    obtain ⟨ad, cap, e2, _⟩ := e1'
    obtain ⟨e, ht⟩ := ht
    refine does_pure hk slot (v := .int .i64 n) ?_ (RepD.mkLit rfl)
    simp [execOp, hop, resolve, invoke, builtin, e2, Builtin.len_, run_underlying ht, goInt]
  · rename_i he
    rw [he] at e1
    obtain ⟨e, ht⟩ := ht
    refine does_pure hk slot (v := .int .i64 0) ?_ (RepD.mkLit rfl)
    simp [execOp, hop, resolve, invoke, builtin, e1.lit, Builtin.len_, run_underlying ht, goInt]
  · rename_i s he
    rw [he] at e1
    refine does_pure hk slot (v := .int .i64 s.size) ?_ (RepD.mkLit rfl)
    simp [execOp, hop, resolve, invoke, builtin, e1.lit, Builtin.len_, run_underlying ht, goInt]

end
end Go.Ev
