/-
  From the model's code to the evaluator's: a program, checked function by function by the kernel. Nothing is claimed here.
-/
import Derived.Test.YtfphnpelampoeaaEzBaseM
import GoSem.Core.Region
import GoSem.Core.Layout
import GoSem.Op.Equal
import Derived.Below
import Derived.Laws.Append
import Derived.Laws.OwnMore
import Derived.WalkKit
set_option linter.unusedVariables false
set_option linter.unusedSimpArgs false
namespace Go.Ez

def isNilS : Value → Bool
  | .slice none 0 0 => true
  | _ => false

def compX : Operand → Option X
  | .tmp t => some (.t t)
  | .const v => if scalar v || isNilS v then some (.k v) else none
  | .func f => some (.f f)
  | _ => none

def compXs : List Operand → Option (List X)
  | [] => some []
  | o :: os => do
    let x ← compX o
    let xs ← compXs os
    some (x :: xs)

def compOX : Option Operand → Option (Option X)
  | none => some none
  | some o => do
    let x ← compX o
    some (some x)

def aggB (P : Program) (t : TypeId) : Option Bool :=
  match P.underlying t with
  | some (.struct _) | some (.array _ _) => some true
  | some _ => some false
  | none => none

/-- the cells of a type's zero value, if all of them are literals -/
def zeroOf (P : Program) (t : TypeId) : Option (List Value) := do
  let i ← P.info? t
  let z ← i.zero
  if (z.cells.toList.all fun v => scalar v || isNilS v) ∧ z.cells.size = i.size then some z.cells.toList else none

def fieldsOf (P : Program) (t : TypeId) : Option (List Field) :=
  match P.underlying t with
  | some (.struct fs) => some fs.toList
  | _ => none

def elemOfSlice (P : Program) (t : TypeId) : Option TypeId :=
  match P.underlying t with
  | some (.slice e) => some e
  | _ => none

def compFields (P : Program) (fs : List Field) : List (Nat × Operand) → Option (List (Nat × Nat × X))
  | [] => some []
  | (i, o) :: r => do
    let f ← fs[i]?
    let info ← P.info? f.type
    let x ← compX o
    let ps ← compFields P fs r
    some ((f.offset, info.size, x) :: ps)

def compElems (size : Nat) : List (Nat × Operand) → Option (List (Nat × Nat × X))
  | [] => some []
  | (i, o) :: r => do
    let x ← compX o
    let ps ← compElems size r
    some ((i * size, size, x) :: ps)

/-- every type of a field has an entry in the table -/
def fieldsKnown (P : Program) (fs : List Field) : Bool := fs.all fun f => (P.info? f.type).isSome

/-- a type whose values are compared as they are: one cell, a number, a string, a bool -/
def kindT (P : Program) (t : TypeId) : Option Nat :=
  match P.underlying t with
  | some (.int _) => some 0
  | some .string => some 1
  | some .bool => some 2
  | _ => none

/-- fields of one such cell each, one behind the other -/
def fieldKinds (P : Program) : Nat → List Field → Option (List Nat)
  | _, [] => some []
  | j, f :: fs => do
    let k ← kindT P f.type
    let ks ← fieldKinds P (j + 1) fs
    if f.offset = j ∧ f.name ≠ "_" then some (k :: ks) else none

def eqIns (ks : List Nat) (op : BinOp) (x y : X) : Option Ins :=
  match op with
  | .eql => some (.eqs ks false x y)
  | .neq => some (.eqs ks true x y)
  | _ => none

def compOp (P : Program) (sharedF : Nat → Nat) (op : Op) : Option Ins :=
  match op with
  | .move x | .assign x => do
    let x ← compX x
    some (.mov x)
  | .pick c a b => do
    let c ← compX c
    let a ← compX a
    let b ← compX b
    some (.pick c a b)
  | .alloc t => do
    let z ← zeroOf P t
    some (.alloc z)
  | .box _ x => do
    let x ← compX x
    some (.box x)
  | .build t parts => do
    let fs ← fieldsOf P t
    let z ← zeroOf P t
    let ps ← compFields P fs parts.toList
    if fieldsKnown P fs then some (.build z ps) else none
  | .buildSlice t len parts => do
    let e ← elemOfSlice P t
    let i ← P.info? e
    let z ← zeroOf P e
    let ps ← compElems i.size parts.toList
    if len * i.size ≤ 16777216 ∧ 0 < i.size then some (.lits i.size e len z ps) else none
  | .load t a => do
    let agg ← aggB P t
    let i ← P.info? t
    let x ← compX a
    some (.load agg i.size x)
  | .store t a v => do
    let i ← P.info? t
    let a ← compX a
    let v ← compX v
    some (.store i.size a v)
  | .nilCheck x => do
    let x ← compX x
    some (.nilck x)
  | .binOp op t x y _ => do
    let x ← compX x
    let y ← compX y
    match P.underlying t with
    | some .bool => some (.bin op true x y)
    | some (.int _) => some (.bin op false x y)
    | some .string => some (.bin op false x y)
    | some (.struct fs) => do
      let ks ← fieldKinds P 0 fs.toList
      if P.stoodInHeld t = false ∧ P.eqGuardType P.depth t = false then eqIns ks op x y else none
    | _ => none
  | .unOp op _ x => do
    let x ← compX x
    some (.un op x)
  | .convert src dst x => do
    let x ← compX x
    match P.underlying src, P.underlying dst with
    | some (.int _), some (.int k) => some (.conv k x)
    | some (.slice e), some .string => (match P.underlying e with
      | some (.int .u8) => some (.toStr x)
      | _ => none)
    | _, _ => none
  | .makeSlice t l c => do
    let e ← elemOfSlice P t
    let i ← P.info? e
    let z ← zeroOf P e
    let l ← compX l
    let c ← compX c
    if 0 < i.size then some (.mk i.size e i.bytes z l c) else none
  | .slice t x lo hi none => do
    let x ← compX x
    let lo ← compOX lo
    let hi ← compOX hi
    match P.underlying t with
    | some .string => some (.sls x lo hi)
    | some (.slice e) => do
      let i ← P.info? e
      some (.slc i.size x lo hi)
    | _ => none
  | .slice t x lo (some hi) (some mx) => do
    let x ← compX x
    let lo ← compOX lo
    let hi ← compX hi
    let mx ← compX mx
    match P.underlying t with
    | some (.slice e) => do
      let i ← P.info? e
      some (.clip i.size x lo hi mx)
    | _ => none
  | .makeFunc (.func f) first captured => do
    let xs ← compXs captured.toList
    if first.size = 0 then some (.mkf f xs) else none
  | .fieldAddr t x f => do
    let fs ← fieldsOf P t
    let fl ← fs[f]?
    let i ← P.info? fl.type
    let x ← compX x
    if 0 < i.size then some (.fadr fl.offset x) else none
  | .field t x f => do
    let fs ← fieldsOf P t
    let fl ← fs[f]?
    let i ← P.info? fl.type
    let agg ← aggB P fl.type
    let x ← compX x
    some (.fld fl.offset agg i.size x)
  | .indexAddr t x i => do
    let e ← elemOfSlice P t
    let info ← P.info? e
    let x ← compX x
    let i ← compX i
    some (.iadr info.size x i)
  | .index t x i => do
    let x ← compX x
    let i ← compX i
    match P.underlying t with
    | some .string => some (.sidx x i)
    | _ => none
  | .extract x i => do
    let x ← compX x
    some (.ext x i)
  | .call { callee := .value (.func f), args, argTypes := _ } => do
    let xs ← compXs args.toList
    some (match sharedF f with | 0 => .call f xs | 1 => .callS f false xs | _ => .callS f true xs)
  | .call { callee := .value (.tmp t), args, argTypes := _ } => do
    let xs ← compXs args.toList
    some (.callV (.t t) xs)
  | .call { callee := .builtin b, args, argTypes } => do
    let xs ← compXs args.toList
    match b, xs, argTypes.toList with
    | .len, [x], [t] => (match P.underlying t with
      | some .string => some (.len true x)
      | some (.slice _) => some (.len false x)
      | _ => none)
    | .append, [x, y], [t, t'] => do
      let e ← elemOfSlice P t
      let i ← P.info? e
      let _ ← zeroOf P e
      (match P.underlying t' with
      | some (.slice _) => if 0 < i.size then some (.app i.size e i.bytes x y) else none
      | some .string => if 0 < i.size then some (.app i.size e i.bytes x y) else none
      | _ => none)
    | .copy, [x, y], [t, _] => do
      let e ← elemOfSlice P t
      let i ← P.info? e
      if 0 < i.size then some (.cpy i.size x y) else none
    | .max, [x, y], _ => some (.mx x y)
    | .min, [x, y], _ => some (.mn x y)
    | _, _, _ => none
  | _ => none

def dstOk (nt : Nat) : Option Tmp → Bool
  | none => true
  | some t => decide (t < nt)

def compInst (P : Program) (sharedF : Nat → Nat) (nt : Nat) (ops : Array Oper) (o : Oper) : Option Inst := do
  let i ← compOp P sharedF o.op
  if dstOk nt o.dst = false then none else
  match o.guard with
  | none => some ⟨o.dst, i, none⟩
  | some (j, want) => do
    let g ← ops[j]?
    let t ← g.dst
    some ⟨o.dst, i, some (t, want)⟩

def compInsts (P : Program) (sharedF : Nat → Nat) (nt : Nat) (ops : Array Oper) : List Oper → Option (List Inst)
  | [] => some []
  | o :: os => do
    let i ← compInst P sharedF nt ops o
    let is ← compInsts P sharedF nt ops os
    some (i :: is)

def waitsOf (acc : List Nat) : List Edge → Nat
  | [] => 0
  | e :: es => if Region.binds .any e then ((1 <<< e.on) ||| acc.getD e.on 0) ||| waitsOf acc es else waitsOf acc es

/-- of each operation those that it waits for, near and far, as a mask -/
def waits (acc : List Nat) : List Oper → List Nat
  | [] => acc
  | o :: os => waits (acc ++ [waitsOf acc o.after.toList]) os

/-- every operation waits for earlier ones alone -/
def downB : Nat → List Oper → Bool
  | _, [] => true
  | k, o :: os => (o.after.toList.all fun e => !Region.binds .any e || decide (e.on < k)) && downB (k + 1) os

def noShared : List Inst → Bool
  | [] => true
  | i :: is => (match i.ins with | .callS _ _ _ | .callV _ _ => false | _ => true) && noShared is

def comp (P : Program) (sharedF : Nat → Nat) (nt : Nat) : Code → Option ICode
  | .skip => some .skip
  | .ret => some .ret
  | .exit id => some (.exit id)
  | .region _ ops false => do
    let is ← compInsts P sharedF nt ops ops.toList
    some (.region is)
  | .region _ ops true => do
    let is ← compInsts P (fun _ => 0) nt ops ops.toList
    if noShared is ∧ downB 0 ops.toList = true then some (.draw is (waits [] ops.toList)) else none
  | .seq a b => do
    let a ← comp P sharedF nt a
    let b ← comp P sharedF nt b
    some (.seq a b)
  | .cond c a b => do
    let c ← compX c
    let a ← comp P sharedF nt a
    let b ← comp P sharedF nt b
    some (.cond c a b)
  | .block id c => do
    let c ← comp P sharedF nt c
    some (.block id c)
  | .loop c => do
    let c ← comp P sharedF nt c
    some (.loop c)
  | _ => none

def compRes (P : Program) : List ResultVar → Option (List Res)
  | [] => some []
  | .tmp t :: r => do
    let rs ← compRes P r
    some (.tmp t :: rs)
  | .cell a t :: r => do
    let agg ← aggB P t
    let i ← P.info? t
    let rs ← compRes P r
    some (.cell a agg i.size :: rs)

def compFn (P : Program) (sharedF : Nat → Nat) (fn : Func) : Option IFunc := do
  let c ← fn.body
  let c ← comp P sharedF fn.ntmps c
  let rs ← compRes P fn.results.toList
  if fn.params.size + fn.nfree ≤ fn.ntmps then some ⟨fn.params.size + fn.nfree, rs, c⟩ else none

end Go.Ez

namespace Go.Ez
open Go.RowKit

section
variable (w : World) (Sf : Nat → Nat → Prop)
mutual
/-- the value u, in the world w, holds the plain cell c; all the memory that it needs is in Sf -/
def RepC : C → Value → Prop
  | .lit v, u => u = v ∧ scalar v = true
  | .slice cs n, u => (u = .slice none 0 0 ∧ n = 0 ∧ cs = []) ∨ ∃ a cap, u = .slice (some a) n cap ∧ n ≤ cap ∧ (cs ≠ [] → a.spot = none) ∧ RepCs cs a.block a.off
def RepCs : List C → Nat → Nat → Prop
  | [], _, _ => True
  | c :: cs, b, o => (∃ u, w.cell? ⟨b, o, none⟩ = some u ∧ Sf b o ∧ RepC c u) ∧ RepCs cs b (o + 1)
end
end

mutual
theorem RepC.mono {w w' : World} {Sf Sf' : Nat → Nat → Prop} (h : ∀ b o u, w.cell? ⟨b, o, none⟩ = some u → Sf b o → w'.cell? ⟨b, o, none⟩ = some u ∧ Sf' b o) :
    ∀ (c : C) (u : Value), RepC w Sf c u → RepC w' Sf' c u
  | .lit v, u, hr => by simpa [RepC] using hr
  | .slice cs n, u, hr => by
    simp only [RepC] at hr ⊢
    rcases hr with hr | ⟨a, cap, h1, h2, h3, h4⟩
    · exact .inl hr
    · exact .inr ⟨a, cap, h1, h2, h3, RepCs.mono h cs _ _ h4⟩
theorem RepCs.mono {w w' : World} {Sf Sf' : Nat → Nat → Prop} (h : ∀ b o u, w.cell? ⟨b, o, none⟩ = some u → Sf b o → w'.cell? ⟨b, o, none⟩ = some u ∧ Sf' b o) :
    ∀ (cs : List C) (b o : Nat), RepCs w Sf cs b o → RepCs w' Sf' cs b o
  | [], _, _, _ => by simp [RepCs]
  | c :: cs, b, o, hr => by
    simp only [RepCs] at hr ⊢
    obtain ⟨⟨u, h1, h2, h3⟩, h4⟩ := hr
    obtain ⟨h5, h6⟩ := h b o u h1 h2
    exact ⟨⟨u, h5, h6, RepC.mono h c u h3⟩, RepCs.mono h cs b (o + 1) h4⟩
end

def All2 {α β : Type} (R : α → β → Prop) : List α → List β → Prop
  | [], [] => True
  | a :: as, b :: bs => R a b ∧ All2 R as bs
  | _, _ => False

section
variable {α β : Type} {R R' : α → β → Prop}
theorem All2.mono (h : ∀ a b, R a b → R' a b) : ∀ {as : List α} {bs : List β}, All2 R as bs → All2 R' as bs
  | [], [], _ => trivial
  | _ :: _, _ :: _, h1 => ⟨h _ _ h1.1, All2.mono h h1.2⟩
  | [], _ :: _, h1 => h1.elim
  | _ :: _, [], h1 => h1.elim
theorem All2.len : ∀ {as : List α} {bs : List β}, All2 R as bs → as.length = bs.length
  | [], [], _ => rfl
  | _ :: _, _ :: _, h1 => by simp [All2.len h1.2]
  | [], _ :: _, h1 => h1.elim
  | _ :: _, [], h1 => h1.elim
theorem All2.append : ∀ {as : List α} {bs : List β} {as' : List α} {bs' : List β}, All2 R as bs → All2 R as' bs' → All2 R (as ++ as') (bs ++ bs')
  | [], [], _, _, _, h2 => h2
  | _ :: _, _ :: _, _, _, h1, h2 => ⟨h1.1, All2.append h1.2 h2⟩
  | [], _ :: _, _, _, h1, _ => h1.elim
  | _ :: _, [], _, _, h1, _ => h1.elim
theorem All2.take : ∀ (n : Nat) {as : List α} {bs : List β}, All2 R as bs → All2 R (as.take n) (bs.take n)
  | 0, _, _, _ => by simp [All2]
  | _ + 1, [], [], _ => by simp [All2]
  | n + 1, _ :: _, _ :: _, h1 => by simp only [List.take_succ_cons]; exact ⟨h1.1, All2.take n h1.2⟩
  | _ + 1, [], _ :: _, h1 => h1.elim
  | _ + 1, _ :: _, [], h1 => h1.elim
theorem All2.drop : ∀ (n : Nat) {as : List α} {bs : List β}, All2 R as bs → All2 R (as.drop n) (bs.drop n)
  | 0, _, _, h1 => by simpa using h1
  | _ + 1, [], [], _ => by simp [All2]
  | n + 1, _ :: _, _ :: _, h1 => by simp only [List.drop_succ_cons]; exact All2.drop n h1.2
  | _ + 1, [], _ :: _, h1 => h1.elim
  | _ + 1, _ :: _, [], h1 => h1.elim
theorem All2.get : ∀ (n : Nat) {as : List α} {bs : List β} {a : α}, All2 R as bs → as[n]? = some a → ∃ b, bs[n]? = some b ∧ R a b
  | _, [], [], _, _, h => by simp at h
  | 0, _ :: _, b :: _, _, h1, h => by simp at h; subst h; exact ⟨b, by simp, h1.1⟩
  | n + 1, _ :: _, _ :: _, _, h1, h => by simp at h; obtain ⟨b, h2, h3⟩ := All2.get n h1.2 h; exact ⟨b, by simpa using h2, h3⟩
  | _, [], _ :: _, _, h1, _ => h1.elim
  | _, _ :: _, [], _, h1, _ => h1.elim
theorem All2.map_left {γ : Type} {f : γ → α} : ∀ {as : List γ} {bs : List β}, All2 (fun a b => R (f a) b) as bs → All2 R (as.map f) bs
  | [], [], _ => trivial
  | _ :: _, _ :: _, h1 => ⟨h1.1, All2.map_left h1.2⟩
  | [], _ :: _, h1 => h1.elim
  | _ :: _, [], h1 => h1.elim
theorem All2.of_map_left {γ : Type} {f : γ → α} : ∀ {as : List γ} {bs : List β}, All2 R (as.map f) bs → All2 (fun a b => R (f a) b) as bs
  | [], [], _ => trivial
  | _ :: _, _ :: _, h1 => ⟨h1.1, All2.of_map_left h1.2⟩
  | [], _ :: _, h1 => h1.elim
  | _ :: _, [], h1 => h1.elim
theorem All2.splice {as : List α} {bs : List β} {xs : List α} {ys : List β} (off : Nat) (h : All2 R as bs) (hx : All2 R xs ys) :
    All2 R (splice as off xs) (bs.take off ++ ys ++ bs.drop (off + ys.length)) := by
  unfold Ez.splice
  rw [hx.len]
  exact ((h.take off).append hx).append (h.drop _)
end

/-- a memory: the model's world, the evaluator's heap, where the objects lie, which numbers are in use -/
structure M where
  w : World
  h : Heap
  β : Nat → Nat
  U : Nat → Prop

/-- rows: the cells of an element, the type -/
def form : Obj → Option (Nat × Nat)
  | .arr _ esz _ ety => some (esz, ety)
  | .rows _ esz ety => some (esz, ety)
  | _ => none

theorem form_live {o : Obj} {f : Nat × Nat} (h : form o = some f) : o ≠ .dead := by intro e; subst e; cases h

/-- cells that no store of the call's own may turn -/
def Safe (_ : Nat) (S : Nat → Nat → Prop) (m : M) (b o : Nat) : Prop :=
  S b o ∧ ∀ id, match getH m.h id with
    | .dead => True
    | .box _ => m.β id ≠ b
    | .arr _ _ fz _ => m.β id = b → o < fz
    | .rows _ _ _ => m.β id ≠ b

section
variable (B : Nat) (S : Nat → Nat → Prop)

def RepDc (m : M) : D → Value → Prop
  | .unk, _ => True
  | .c x, u => RepC m.w (Safe B S m) x u
  | .loc id off, u => m.U id ∧ u = .pointer (some ⟨m.β id, off, none⟩)
  | .arr id off len, u => m.U id ∧ ∃ ad cap, u = .slice (some ad) len cap ∧ len ≤ cap ∧ match getH m.h id with
    | .arr _ esz _ ety => (ad = ⟨m.β id, off, none⟩ ∧ ∃ sz, m.w.shape? (m.β id) = some (ety, sz) ∧ off + cap * esz = sz ∧ cap ≤ maxLen) ∨ (len = 0 ∧ cap = 0)
    | .rows _ esz ety => (ad = ⟨m.β id, off, none⟩ ∧ ∃ sz, m.w.shape? (m.β id) = some (ety, sz) ∧ off + cap * esz = sz ∧ cap ≤ maxLen) ∨ (len = 0 ∧ cap = 0)
    | _ => True
  | .ptr cs, u => ∃ a, u = .pointer (some a) ∧ (cs ≠ [] → a.spot = none) ∧ RepCs m.w (Safe B S m) cs a.block a.off
  | .full cs n, u => (u = .slice none 0 0 ∧ n = 0 ∧ cs = []) ∨ ∃ a, u = .slice (some a) n n ∧ (cs ≠ [] → a.spot = none) ∧ RepCs m.w (Safe B S m) cs a.block a.off
  | .clo f caps, u => u = .func (.func f) #[] (caps.map fun p => Value.pointer (some ⟨m.β p.1, p.2, none⟩)).toArray ∧ ∀ p ∈ caps, m.U p.1
  | _, _ => False

def RepA (m : M) : D → Value → Prop
  | .agg ds, u => ∃ us : List Value, u = .agg us.toArray ∧ All2 (RepDc B S m) ds us
  | d, u => RepDc B S m d u

def RepD (m : M) : D → Value → Prop
  | .tup ds, u => ∃ us : List Value, u = .tuple us.toArray ∧ All2 (RepA B S m) ds us
  | d, u => RepA B S m d u

def RepOb (m : M) (k : Nat) : Obj → Prop
  | .dead => True
  | .box ds => B ≤ k ∧ ∃ (us : List Value) (e : TypeId), m.w.heap[k]? = some (.cells us.toArray e (0, 0)) ∧ All2 (RepDc B S m) ds us
  | .arr cs _ _ ety => B ≤ k ∧ ∃ us : List Value, m.w.heap[k]? = some (.cells us.toArray ety (0, 0)) ∧ cs.length ≤ us.length ∧ All2 (RepC m.w (Safe B S m)) cs (us.take cs.length)
  | .rows ds _ ety => B ≤ k ∧ ∃ us : List Value, m.w.heap[k]? = some (.cells us.toArray ety (0, 0)) ∧ ds.length ≤ us.length ∧ All2 (RepDc B S m) ds (us.take ds.length)

def RepO (m : M) (id : Nat) : Prop := RepOb B S m (m.β id) (getH m.h id)

structure HOK (m : M) : Prop where
  obj : ∀ id, RepO B S m id
  inj : ∀ i j, getH m.h i ≠ .dead → getH m.h j ≠ .dead → m.β i = m.β j → i = j
  dom : ∀ id, ¬ m.U id → getH m.h id = .dead
  base : B ≤ m.w.heap.size
  fresh : ∀ b o, m.w.heap.size ≤ b → S b o
  arrS : ∀ id f, form (getH m.h id) = some f → ∀ o, S (m.β id) o

/-- What makes a change of memory harmless to all that is held. -/
structure Evolves (m m' : M) : Prop where
  cell : ∀ b o u, m.w.cell? ⟨b, o, none⟩ = some u → Safe B S m b o → m'.w.cell? ⟨b, o, none⟩ = some u ∧ Safe B S m' b o
  used : ∀ id, m.U id → m'.U id
  dead : ∀ id, m.U id → getH m.h id = .dead → getH m'.h id = .dead
  at_ : ∀ id, m.U id → m'.β id = m.β id
  kind : ∀ id f, m.U id → form (getH m'.h id) = some f → form (getH m.h id) = some f ∧ m'.w.shape? (m.β id) = m.w.shape? (m.β id)
  rest : ∀ b, B ≤ b → b < m.w.heap.size → (∀ id, getH m.h id ≠ .dead → m.β id ≠ b) → m'.w.heap[b]? = m.w.heap[b]? ∧ ∀ id, getH m'.h id ≠ .dead → m'.β id ≠ b

variable {B S}

theorem Evolves.refl (m : M) : Evolves B S m m :=
  ⟨fun _ _ _ h1 h2 => ⟨h1, h2⟩, fun _ h => h, fun _ _ h => h, fun _ _ => rfl, fun _ _ _ h => ⟨h, rfl⟩, fun _ _ _ h => ⟨rfl, h⟩⟩

theorem Evolves.trans {m m' m'' : M} (h : Evolves B S m m') (k : Evolves B S m' m'') : Evolves B S m m'' where
  cell b o u h1 h2 := k.cell b o u (h.cell b o u h1 h2).1 (h.cell b o u h1 h2).2
  used id hu := k.used id (h.used id hu)
  dead id hu hd := k.dead id (h.used id hu) (h.dead id hu hd)
  at_ id hu := by rw [k.at_ id (h.used id hu), h.at_ id hu]
  kind id f hu hk := by
    obtain ⟨h1, h2⟩ := k.kind id f (h.used id hu) hk
    obtain ⟨h3, h4⟩ := h.kind id f hu h1
    refine ⟨h3, ?_⟩
    rw [← h4, ← h.at_ id hu, h2]
  rest b hB hb hn := by
    obtain ⟨h1, h2⟩ := h.rest b hB hb hn
    have hb' : b < m'.w.heap.size := by
      rw [Array.getElem?_eq_getElem hb] at h1
      exact (Array.getElem?_eq_some_iff.1 h1).1
    obtain ⟨k1, k2⟩ := k.rest b hB hb' h2
    exact ⟨k1.trans h1, k2⟩

theorem Evolves.repDc {m m' : M} (h : Evolves B S m m') {d : D} {u : Value} (hr : RepDc B S m d u) : RepDc B S m' d u := by
  cases d with
  | unk => trivial
  | c x => exact RepC.mono h.cell x u hr
  | loc id off =>
    obtain ⟨h1, h2⟩ := hr
    exact ⟨h.used id h1, by rw [h.at_ id h1]; exact h2⟩
  | arr id off len =>
    obtain ⟨h1, ad, cap, e1, e2, h2⟩ := hr
    refine ⟨h.used id h1, ad, cap, e1, e2, ?_⟩
    have key : ∀ esz ety, form (getH m'.h id) = some (esz, ety) → (ad = ⟨m'.β id, off, none⟩ ∧ ∃ sz, m'.w.shape? (m'.β id) = some (ety, sz) ∧ off + cap * esz = sz ∧ cap ≤ maxLen) ∨ (len = 0 ∧ cap = 0) := by
      intro esz ety hf
      obtain ⟨h3, h4⟩ := h.kind id _ h1 hf
      have h5 := h.at_ id h1
      have h2' : (ad = ⟨m.β id, off, none⟩ ∧ ∃ sz, m.w.shape? (m.β id) = some (ety, sz) ∧ off + cap * esz = sz ∧ cap ≤ maxLen) ∨ (len = 0 ∧ cap = 0) := by
        cases ho : getH m.h id with
        | dead => rw [ho] at h3; cases h3
        | box ds => rw [ho] at h3; cases h3
        | arr cs e f t => rw [ho] at h2 h3; injection h3 with h3; injection h3 with h3 h3'; subst h3 h3'; exact h2
        | rows ds e t => rw [ho] at h2 h3; injection h3 with h3; injection h3 with h3 h3'; subst h3 h3'; exact h2
      rcases h2' with ⟨e6, sz, e3, e4, e5⟩ | h2'
      · exact .inl ⟨by rw [h5]; exact e6, sz, by rw [h5, h4]; exact e3, e4, e5⟩
      · exact .inr h2'
    split
    · rename_i hk; exact key _ _ (by rw [hk]; rfl)
    · rename_i hk; exact key _ _ (by rw [hk]; rfl)
    · trivial
  | ptr cs =>
    obtain ⟨a, h1, h2, h3⟩ := hr
    exact ⟨a, h1, h2, RepCs.mono h.cell cs _ _ h3⟩
  | full cs n =>
    rcases hr with hr | ⟨a, h1, h2, h3⟩
    · exact .inl hr
    · exact .inr ⟨a, h1, h2, RepCs.mono h.cell cs _ _ h3⟩
  | clo f caps =>
    obtain ⟨h1, h2⟩ := hr
    refine ⟨?_, fun p hp => h.used _ (h2 p hp)⟩
    rw [h1]
    congr 2
    exact List.map_congr_left fun p hp => by rw [h.at_ _ (h2 p hp)]
  | agg ds => exact hr.elim
  | tup ds => exact hr.elim

theorem Evolves.repA {m m' : M} (h : Evolves B S m m') {d : D} {u : Value} (hr : RepA B S m d u) : RepA B S m' d u := by
  cases d with
  | agg ds => obtain ⟨us, h1, h2⟩ := hr; exact ⟨us, h1, h2.mono fun _ _ h3 => h.repDc h3⟩
  | unk => exact h.repDc (d := .unk) (u := u) hr
  | c x => exact h.repDc (d := .c x) hr
  | loc id off => exact h.repDc (d := .loc id off) hr
  | arr id off len => exact h.repDc (d := .arr id off len) hr
  | ptr cs => exact h.repDc (d := .ptr cs) hr
  | full cs n => exact h.repDc (d := .full cs n) hr
  | clo f caps => exact h.repDc (d := .clo f caps) hr
  | tup ds => exact h.repDc (d := .tup ds) (u := u) hr

theorem Evolves.repD {m m' : M} (h : Evolves B S m m') {d : D} {u : Value} (hr : RepD B S m d u) : RepD B S m' d u := by
  cases d with
  | tup ds => obtain ⟨us, h1, h2⟩ := hr; exact ⟨us, h1, h2.mono fun _ _ h3 => h.repA h3⟩
  | unk => exact h.repA (d := .unk) (u := u) hr
  | c x => exact h.repA (d := .c x) hr
  | loc id off => exact h.repA (d := .loc id off) hr
  | arr id off len => exact h.repA (d := .arr id off len) hr
  | ptr cs => exact h.repA (d := .ptr cs) hr
  | full cs n => exact h.repA (d := .full cs n) hr
  | clo f caps => exact h.repA (d := .clo f caps) hr
  | agg ds => exact h.repA (d := .agg ds) hr


theorem Evolves.repOb {m m' : M} (h : Evolves B S m m') {k : Nat} {o : Obj} (hb : m'.w.heap[k]? = m.w.heap[k]?) (hr : RepOb B S m k o) : RepOb B S m' k o := by
  cases o with
  | dead => trivial
  | box ds =>
    obtain ⟨h1, us, e, h2, h3⟩ := hr
    exact ⟨h1, us, e, by rw [hb]; exact h2, h3.mono fun _ _ h4 => h.repDc h4⟩
  | arr cs esz fz ety =>
    obtain ⟨h1, us, h2, h3, h4⟩ := hr
    exact ⟨h1, us, by rw [hb]; exact h2, h3, h4.mono fun x u h5 => RepC.mono h.cell x u h5⟩
  | rows ds esz ety =>
    obtain ⟨h1, us, h2, h3, h4⟩ := hr
    exact ⟨h1, us, by rw [hb]; exact h2, h3, h4.mono fun _ _ h5 => h.repDc h5⟩

theorem HOK.lt {m : M} (hk : HOK B S m) {id : Nat} (hd : getH m.h id ≠ .dead) : m.β id < m.w.heap.size := by
  have h := hk.obj id
  unfold RepO at h
  cases ho : getH m.h id with
  | dead => exact absurd ho hd
  | box ds => rw [ho] at h; obtain ⟨_, us, e, h2, _⟩ := h; exact (Array.getElem?_eq_some_iff.1 h2).1
  | arr cs esz fz ety => rw [ho] at h; obtain ⟨_, us, h2, _⟩ := h; exact (Array.getElem?_eq_some_iff.1 h2).1
  | rows ds esz ety => rw [ho] at h; obtain ⟨_, us, h2, _⟩ := h; exact (Array.getElem?_eq_some_iff.1 h2).1

theorem HOK.ge {m : M} (hk : HOK B S m) {id : Nat} (hd : getH m.h id ≠ .dead) : B ≤ m.β id := by
  have h := hk.obj id
  unfold RepO at h
  cases ho : getH m.h id with
  | dead => exact absurd ho hd
  | box ds => rw [ho] at h; exact h.1
  | arr cs esz fz ety => rw [ho] at h; exact h.1
  | rows ds esz ety => rw [ho] at h; exact h.1

theorem HOK.used {m : M} (hk : HOK B S m) {id : Nat} (hd : getH m.h id ≠ .dead) : m.U id :=
  Classical.byContradiction fun h => hd (hk.dom id h)

theorem cell_lt {w : World} {b o : Nat} {u : Value} (h : w.cell? ⟨b, o, none⟩ = some u) : b < w.heap.size := World.block_lt_of_cell? w _ h

def setβ (β : Nat → Nat) (slot k : Nat) : Nat → Nat := fun i => if i = slot then k else β i

def M.put (m : M) (w' : World) (slot k : Nat) (o : Obj) : M := ⟨w', (slot, o) :: m.h, setβ m.β slot k, fun i => m.U i ∨ i = slot⟩

theorem getH_cons (i : Nat) (o : Obj) (h : Heap) (j : Nat) : getH ((i, o) :: h) j = if i = j then o else getH h j := rfl

/-- a new block -/
theorem alloc_evolves {m : M} (hk : HOK B S m) {slot : Nat} (hs : ¬ m.U slot) {w' : World} {ob : Go.Obj} (hw : w'.heap = m.w.heap.push ob) (o : Obj) :
    Evolves B S m (m.put w' slot m.w.heap.size o) where
  cell b q u h1 h2 := by
    have hb := cell_lt h1
    refine ⟨?_, h2.1, fun id => ?_⟩
    · have : w'.heap[b]? = m.w.heap[b]? := by rw [hw, Array.getElem?_push, if_neg (by omega)]
      rw [← h1]; exact World.cell?_of_block (w := m.w) (a := ⟨b, q, none⟩) this
    · simp only [M.put, getH_cons, setβ]
      by_cases hi : slot = id
      · subst hi
        simp only [if_true]
        cases o <;> simp <;> omega
      · have hi' : ¬ id = slot := fun e => hi e.symm
        simp only [hi, hi', if_false]
        exact h2.2 id
  used id hu := .inl hu
  dead id hu hd := by
    have hi : ¬ slot = id := fun e => hs (e ▸ hu)
    simp only [M.put, getH_cons, hi, if_false]
    exact hd
  at_ id hu := by
    have hi : ¬ id = slot := fun e => hs (e ▸ hu)
    simp [M.put, setβ, hi]
  kind id f hu h := by
    have hi : ¬ slot = id := fun e => hs (e ▸ hu)
    simp only [M.put, getH_cons, hi, if_false] at h
    refine ⟨h, ?_⟩
    have hlt := hk.lt (id := id) (form_live h)
    have : w'.heap[m.β id]? = m.w.heap[m.β id]? := by rw [hw, Array.getElem?_push, if_neg (by omega)]
    simp [World.shape?, M.put, this]
  rest b hB hb hn := by
    refine ⟨by simp only [M.put]; rw [hw, Array.getElem?_push, if_neg (by omega)], fun id hd => ?_⟩
    simp only [M.put, getH_cons, setβ] at hd ⊢
    by_cases hi : slot = id
    · subst hi; simp; omega
    · have hi' : ¬ id = slot := fun e => hi e.symm
      simp only [hi, if_false] at hd
      simp only [hi', if_false]
      exact hn id hd

theorem alloc_hok {m : M} (hk : HOK B S m) {slot : Nat} (hs : ¬ m.U slot) {w' : World} {ob : Go.Obj} (hw : w'.heap = m.w.heap.push ob) (o : Obj)
    (ho : RepOb B S (m.put w' slot m.w.heap.size o) m.w.heap.size o) : HOK B S (m.put w' slot m.w.heap.size o) := by
  have hev := alloc_evolves hk hs hw o
  refine ⟨fun id => ?_, fun i j hi hj he => ?_, fun id hu => ?_, ?_, fun b q hb => ?_, fun id f hg q => ?_⟩
  · unfold RepO
    by_cases hi : slot = id
    · subst hi
      simp only [M.put, getH_cons, setβ, if_true] at *
      exact ho
    · have hi' : ¬ id = slot := fun e => hi e.symm
      have h1 : getH (m.put w' slot m.w.heap.size o).h id = getH m.h id := by simp [M.put, getH_cons, hi]
      have h2 : (m.put w' slot m.w.heap.size o).β id = m.β id := by simp [M.put, setβ, hi']
      rw [h1, h2]
      by_cases hd : getH m.h id = .dead
      · rw [hd]; trivial
      · have hlt := hk.lt hd
        refine hev.repOb ?_ (hk.obj id)
        simp only [M.put]
        rw [hw, Array.getElem?_push, if_neg (by omega)]
  · simp only [M.put, getH_cons, setβ] at *
    by_cases h1 : slot = i <;> by_cases h2 : slot = j
    · omega
    · have h2' : ¬ j = slot := fun e => h2 e.symm
      have h1' : i = slot := h1.symm
      simp only [h2, h1', h2', if_true, if_false] at hj he
      have := hk.lt hj
      omega
    · have h1' : ¬ i = slot := fun e => h1 e.symm
      have h2' : j = slot := h2.symm
      simp only [h1, h1', h2', if_true, if_false] at hi he
      have := hk.lt hi
      omega
    · have h1' : ¬ i = slot := fun e => h1 e.symm
      have h2' : ¬ j = slot := fun e => h2 e.symm
      simp only [h1, h1', h2, h2', if_false] at hi hj he
      exact hk.inj i j hi hj he
  · simp only [M.put] at hu ⊢
    have h1 : ¬ m.U id := fun h => hu (.inl h)
    have h2 : ¬ slot = id := fun h => hu (.inr h.symm)
    simp only [getH_cons, h2, if_false]
    exact hk.dom id h1
  · have := hk.base
    simp only [M.put, hw, Array.size_push]
    omega
  · simp only [M.put, hw, Array.size_push] at hb
    exact hk.fresh b q (by omega)
  · simp only [M.put, getH_cons, setβ] at hg ⊢
    by_cases hi : slot = id
    · subst hi
      simp only [if_true]
      exact hk.fresh _ q (Nat.le_refl _)
    · have hi' : ¬ id = slot := fun e => hi e.symm
      simp only [hi, if_false] at hg
      simp only [hi', if_false]
      exact hk.arrS id f hg q

/-- an object in its place: another content, nothing else moves -/
def M.upd (m : M) (w' : World) (id : Nat) (o : Obj) : M := ⟨w', (id, o) :: m.h, m.β, m.U⟩

/-- a store into an object's block, beyond what is frozen -/
theorem upd_evolves {m : M} (hk : HOK B S m) {id : Nat} {o o' : Obj} {w' : World} (ho : getH m.h id = o)
    (hkind : match o, o' with
      | .box _, .box _ => True
      | .arr _ esz fz ety, .arr _ esz' fz' ety' => esz' = esz ∧ ety' = ety ∧ fz ≤ fz'
      | .rows _ esz ety, .rows _ esz' ety' => esz' = esz ∧ ety' = ety
      | .rows _ esz ety, .arr _ esz' _ ety' => esz' = esz ∧ ety' = ety
      | _, _ => False)
    (hother : ∀ k, k ≠ m.β id → w'.heap[k]? = m.w.heap[k]?)
    (hcell : ∀ q u, (match o with | .arr _ _ fz _ => q < fz | _ => False) → m.w.cell? ⟨m.β id, q, none⟩ = some u → w'.cell? ⟨m.β id, q, none⟩ = some u)
    (hshape : w'.shape? (m.β id) = m.w.shape? (m.β id)) :
    Evolves B S m (m.upd w' id o') where
  cell b q u h1 h2 := by
    refine ⟨?_, h2.1, fun i => ?_⟩
    · by_cases hb : b = m.β id
      · subst hb
        have h3 := h2.2 id
        rw [ho] at h3
        refine hcell q u ?_ h1
        cases o with
        | dead => cases o' <;> exact hkind.elim
        | box ds => exact (h3 rfl).elim
        | arr cs esz fz ety => exact h3 rfl
        | rows ds esz ety => exact (h3 rfl).elim
      · rw [← h1]; exact World.cell?_of_block (w := m.w) (a := ⟨b, q, none⟩) (hother b hb)
    · simp only [M.upd, getH_cons]
      by_cases hi : id = i
      · subst hi
        have h3 := h2.2 id
        rw [ho] at h3
        simp only [if_true]
        cases o <;> cases o' <;> first | exact hkind.elim | exact h3 | (intro he; have := h3 he; obtain ⟨_, _, h4⟩ := hkind; omega) | (intro he; exact absurd he h3)
      · simp only [hi, if_false]
        exact h2.2 i
  used _ hu := hu
  dead i hu hd := by
    by_cases hi : id = i
    · subst hi
      rw [ho] at hd
      subst hd
      cases o' <;> exact hkind.elim
    · simp only [M.upd, getH_cons, hi, if_false]
      exact hd
  at_ _ _ := rfl
  kind i f hu h := by
    by_cases hi : id = i
    · subst hi
      simp only [M.upd, getH_cons, if_true] at h
      rw [ho]
      cases o <;> cases o' <;> first | exact hkind.elim | (cases h; done) | (obtain ⟨rfl, rfl, _⟩ := hkind; exact ⟨h, hshape⟩) | (obtain ⟨rfl, rfl⟩ := hkind; exact ⟨h, hshape⟩)
    · simp only [M.upd, getH_cons, hi, if_false] at h
      refine ⟨h, ?_⟩
      have hd : getH m.h i ≠ .dead := form_live h
      have hd' : getH m.h id ≠ .dead := by
        rw [ho]; cases o with
        | dead => cases o' <;> exact hkind.elim
        | _ => simp
      have : m.β i ≠ m.β id := fun e => hi (hk.inj i id hd hd' e).symm
      simp [World.shape?, M.upd, hother _ this]
  rest b hB hb hn := by
    have hd' : getH m.h id ≠ .dead := by
      rw [ho]; cases o with
      | dead => cases o' <;> exact hkind.elim
      | _ => simp
    refine ⟨hother b fun e => hn id hd' e.symm, fun i hd => ?_⟩
    simp only [M.upd, getH_cons] at hd ⊢
    by_cases hi : id = i
    · subst hi; exact hn id hd'
    · simp only [hi, if_false] at hd
      exact hn i hd

theorem upd_hok {m : M} (hk : HOK B S m) {id : Nat} {o' : Obj} {w' : World} (hl : getH m.h id ≠ .dead) (hev : Evolves B S m (m.upd w' id o'))
    (hother : ∀ k, k ≠ m.β id → w'.heap[k]? = m.w.heap[k]?) (hsz : m.w.heap.size ≤ w'.heap.size)
    (ho : RepOb B S (m.upd w' id o') (m.β id) o') : HOK B S (m.upd w' id o') := by
  refine ⟨fun i => ?_, fun i j hi hj he => ?_, fun i hu => ?_, ?_, fun b q hb => hk.fresh b q (Nat.le_trans hsz hb), fun i f hg q => ?_⟩
  · unfold RepO
    by_cases hi : id = i
    · subst hi
      simp only [M.upd, getH_cons, if_true] at *
      exact ho
    · have h1 : getH (m.upd w' id o').h i = getH m.h i := by simp [M.upd, getH_cons, hi]
      rw [h1]
      show RepOb B S _ (m.β i) _
      by_cases hd : getH m.h i = .dead
      · rw [hd]; trivial
      · exact hev.repOb (hother _ fun e => hi (hk.inj i id hd hl e).symm) (hk.obj i)
  · simp only [M.upd, getH_cons] at hi hj he
    by_cases h1 : id = i <;> by_cases h2 : id = j
    · omega
    · subst h1; simp only [h2, if_false] at hj; exact hk.inj _ _ hl hj he
    · subst h2; simp only [h1, if_false] at hi; exact hk.inj _ _ hi hl he
    · simp only [h1, h2, if_false] at hi hj; exact hk.inj _ _ hi hj he
  · simp only [M.upd] at hu ⊢
    have h2 : ¬ id = i := fun h => hu (h ▸ hk.used hl)
    simp only [getH_cons, h2, if_false]
    exact hk.dom i hu
  · exact Nat.le_trans hk.base hsz
  · have hu : m.U i := by
      by_cases hi : id = i
      · subst hi; exact hk.used hl
      · simp only [M.upd, getH_cons, hi, if_false] at hg
        exact hk.used (form_live hg)
    exact hk.arrS i f (hev.kind i f hu hg).1 q

/-- the world alone moves, by new blocks that are nobody's -/
def M.world (m : M) (w' : World) : M := ⟨w', m.h, m.β, m.U⟩

theorem world_evolves {m : M} (hk : HOK B S m) {w' : World} (hb : ∀ k, k < m.w.heap.size → w'.heap[k]? = m.w.heap[k]?) : Evolves B S m (m.world w') where
  cell b q u h1 h2 := by
    refine ⟨?_, h2⟩
    rw [← h1]; exact World.cell?_of_block (w := m.w) (a := ⟨b, q, none⟩) (hb b (cell_lt h1))
  used _ hu := hu
  dead _ _ hd := hd
  at_ _ _ := rfl
  kind id f _ h := by
    refine ⟨h, ?_⟩
    have hlt := hk.lt (id := id) (form_live h)
    simp [World.shape?, M.world, hb _ hlt]
  rest b _ hb' hn := ⟨hb b hb', hn⟩

theorem world_hok {m : M} (hk : HOK B S m) {w' : World} (hb : ∀ k, k < m.w.heap.size → w'.heap[k]? = m.w.heap[k]?) (hsz : m.w.heap.size ≤ w'.heap.size) : HOK B S (m.world w') := by
  have hev := world_evolves hk hb
  refine ⟨fun id => ?_, hk.inj, hk.dom, Nat.le_trans hk.base hsz, fun b q hb' => hk.fresh b q (Nat.le_trans hsz hb'), hk.arrS⟩
  unfold RepO
  by_cases hd : getH m.h id = .dead
  · show RepOb B S _ _ (getH m.h id); rw [hd]; trivial
  · exact hev.repOb (hb _ (hk.lt hd)) (hk.obj id)

end
end Go.Ez

namespace Go.Ez
open Go.RowKit

section
variable {w : World} {Sf : Nat → Nat → Prop}

theorem RepCs_of : ∀ {cs : List C} {us : List Value} {b o : Nat}, All2 (RepC w Sf) cs us → (∀ i u, us[i]? = some u → w.cell? ⟨b, o + i, none⟩ = some u ∧ Sf b (o + i)) → RepCs w Sf cs b o
  | [], [], _, _, _, _ => by simp [RepCs]
  | c :: cs, u :: us, b, o, h, hc => by
    simp only [RepCs]
    obtain ⟨h1, h2⟩ := hc 0 u (by simp)
    refine ⟨⟨u, by simpa using h1, by simpa using h2, h.1⟩, RepCs_of h.2 fun i v hv => ?_⟩
    have := hc (i + 1) v (by simpa using hv)
    rw [show o + 1 + i = o + (i + 1) by omega]
    exact this
  | [], _ :: _, _, _, h, _ => h.elim
  | _ :: _, [], _, _, h, _ => h.elim

theorem RepCs_get : ∀ {cs : List C} {b o : Nat}, RepCs w Sf cs b o → ∃ us : List Value, All2 (RepC w Sf) cs us ∧ (∀ i u, us[i]? = some u → w.cell? ⟨b, o + i, none⟩ = some u ∧ Sf b (o + i))
  | [], _, _, _ => ⟨[], trivial, by simp⟩
  | c :: cs, b, o, h => by
    simp only [RepCs] at h
    obtain ⟨⟨u, h1, h2, h3⟩, h4⟩ := h
    obtain ⟨us, h5, h6⟩ := RepCs_get h4
    refine ⟨u :: us, ⟨h3, h5⟩, fun i v hv => ?_⟩
    cases i with
    | zero => simp at hv; subst hv; exact ⟨by simpa using h1, by simpa using h2⟩
    | succ i =>
      have := h6 i v (by simpa using hv)
      rw [show o + (i + 1) = o + 1 + i by omega]
      exact this

theorem RepCs_drop : ∀ (n : Nat) {cs : List C} {b o : Nat}, RepCs w Sf cs b o → RepCs w Sf (cs.drop n) b (o + n)
  | 0, _, _, _, h => by simpa using h
  | n + 1, [], _, _, _ => by simp [RepCs]
  | n + 1, c :: cs, b, o, h => by
    simp only [RepCs] at h
    have := RepCs_drop n h.2
    simp only [List.drop_succ_cons]
    rw [show o + (n + 1) = o + 1 + n by omega]
    exact this

theorem RepCs_take : ∀ (n : Nat) {cs : List C} {b o : Nat}, RepCs w Sf cs b o → RepCs w Sf (cs.take n) b o
  | 0, _, _, _, _ => by simp [RepCs]
  | n + 1, [], _, _, _ => by simp [RepCs]
  | n + 1, c :: cs, b, o, h => by
    simp only [RepCs, List.take_succ_cons] at h ⊢
    exact ⟨h.1, RepCs_take n h.2⟩

theorem RepC.oneCell {c : C} {u : Value} (h : RepC w Sf c u) : u.oneCell' = true := by
  cases c with
  | lit v =>
    simp only [RepC] at h
    obtain ⟨rfl, h⟩ := h
    unfold scalar at h
    split at h <;> first | rfl | cases h
  | slice cs n =>
    simp only [RepC] at h
    rcases h with ⟨rfl, _⟩ | ⟨a, cap, rfl, _⟩
    · rfl
    · rfl
end

theorem All2.mem_right {α β : Type} {R : α → β → Prop} {p : β → Prop} (h : ∀ a b, R a b → p b) : ∀ {as : List α} {bs : List β}, All2 R as bs → ∀ b ∈ bs, p b
  | [], [], _, _, hb => by simp at hb
  | _ :: _, _ :: _, h1, b, hb => by
    simp only [List.mem_cons] at hb
    rcases hb with rfl | hb
    · exact h _ _ h1.1
    · exact All2.mem_right h h1.2 b hb
  | [], _ :: _, h1, _, _ => h1.elim
  | _ :: _, [], h1, _, _ => h1.elim

section
variable {B : Nat} {S : Nat → Nat → Prop}

/-- more numbers may be in use -/
def M.grow (m : M) (slot : Nat) : M := ⟨m.w, m.h, m.β, fun i => m.U i ∨ i = slot⟩

theorem grow_evolves (m : M) (slot : Nat) : Evolves B S m (m.grow slot) :=
  ⟨fun _ _ _ h1 h2 => ⟨h1, h2⟩, fun _ h => .inl h, fun _ _ h => h, fun _ _ => rfl, fun _ _ _ h => ⟨h, rfl⟩, fun _ _ _ h => ⟨rfl, h⟩⟩

theorem grow_hok {m : M} (hk : HOK B S m) (slot : Nat) : HOK B S (m.grow slot) := by
  refine ⟨fun id => ?_, hk.inj, fun id h => hk.dom id fun hu => h (.inl hu), hk.base, hk.fresh, hk.arrS⟩
  exact (grow_evolves m slot).repOb rfl (hk.obj id)

/-- what is known of an array's object -/
theorem HOK.arr {m : M} (hk : HOK B S m) {id : Nat} {cs : List C} {esz fz ety : Nat} (ho : getH m.h id = .arr cs esz fz ety) :
    B ≤ m.β id ∧ ∃ us : List Value, m.w.heap[m.β id]? = some (.cells us.toArray ety (0, 0)) ∧ cs.length ≤ us.length ∧ All2 (RepC m.w (Safe B S m)) cs (us.take cs.length) := by
  have h := hk.obj id
  unfold RepO at h
  rw [ho] at h
  exact h

theorem HOK.box {m : M} (hk : HOK B S m) {id : Nat} {ds : List D} (ho : getH m.h id = .box ds) :
    B ≤ m.β id ∧ ∃ (us : List Value) (e : TypeId), m.w.heap[m.β id]? = some (.cells us.toArray e (0, 0)) ∧ All2 (RepDc B S m) ds us := by
  have h := hk.obj id
  unfold RepO at h
  rw [ho] at h
  exact h

theorem cell_row {w : World} {b o : Nat} {us : List Value} {e : TypeId} {fr : Nat × Nat} (h : w.heap[b]? = some (.cells us.toArray e fr)) : w.cell? ⟨b, o, none⟩ = us[o]? := by
  simp [World.cell?, h]

def M.heap (m : M) (h : Heap) : M := ⟨m.w, h, m.β, m.U⟩

/-- the frozen part of an array grows -/
theorem fz_evolves {m : M} (hk : HOK B S m) {id : Nat} {cs : List C} {esz fz ety fz' : Nat} (ho : getH m.h id = .arr cs esz fz ety) (hf : fz ≤ fz') :
    Evolves B S m (m.heap ((id, .arr cs esz fz' ety) :: m.h)) :=
  upd_evolves hk ho (o' := .arr cs esz fz' ety) (w' := m.w) ⟨rfl, rfl, hf⟩ (fun _ _ => rfl) (fun _ _ _ h => h) rfl

theorem fz_hok {m : M} (hk : HOK B S m) {id : Nat} {cs : List C} {esz fz ety fz' : Nat} (ho : getH m.h id = .arr cs esz fz ety) (hf : fz ≤ fz') :
    HOK B S (m.heap ((id, .arr cs esz fz' ety) :: m.h)) := by
  have hev := fz_evolves hk ho hf
  refine upd_hok hk (w' := m.w) (by rw [ho]; simp) hev (fun _ _ => rfl) (Nat.le_refl _) ?_
  obtain ⟨h1, us, h2, h3, h4⟩ := hk.arr ho
  exact ⟨h1, us, h2, h3, h4.mono fun x u h5 => RepC.mono hev.cell x u h5⟩

theorem frz1_ok {m : M} (hk : HOK B S m) {d : D} {u : Value} (hr : RepDc B S m d u) {c : C} {us : List (Nat × Obj)} (hf : frz1 m.h d = some (c, us)) :
    HOK B S (m.heap (updH m.h us)) ∧ Evolves B S m (m.heap (updH m.h us)) ∧ RepC m.w (Safe B S (m.heap (updH m.h us))) c u := by
  cases d with
  | c x =>
    simp only [frz1, Option.some.injEq, Prod.mk.injEq] at hf
    obtain ⟨rfl, rfl⟩ := hf
    exact ⟨hk, Evolves.refl m, hr⟩
  | arr id off len =>
    simp only [frz1] at hf
    obtain ⟨hu, ad, cap, hv, hcap, hr⟩ := hr
    cases ho : getH m.h id with
    | dead => rw [ho] at hf; cases hf
    | box ds => rw [ho] at hf; cases hf
    | rows ds esz ety => rw [ho] at hf; cases hf
    | arr cs esz fz ety =>
      rw [ho] at hf hr
      simp only at hf hr
      split at hf
      case isFalse => cases hf
      rename_i hlen
      simp only [Option.some.injEq, Prod.mk.injEq] at hf
      obtain ⟨rfl, rfl⟩ := hf
      obtain ⟨hB, vs, hv1, hv2, hv3⟩ := hk.arr ho
      -- the memory behind the freezing, and how much is frozen there
      have key : ∃ fz', off + len * esz ≤ fz' ∧ HOK B S (m.heap (updH m.h (if off + len * esz ≤ fz then [] else [(id, .arr cs esz (off + len * esz) ety)]))) ∧
          Evolves B S m (m.heap (updH m.h (if off + len * esz ≤ fz then [] else [(id, .arr cs esz (off + len * esz) ety)]))) ∧
          getH (updH m.h (if off + len * esz ≤ fz then [] else [(id, .arr cs esz (off + len * esz) ety)])) id = .arr cs esz fz' ety := by
        by_cases hz : off + len * esz ≤ fz
        · rw [if_pos hz]; exact ⟨fz, hz, hk, Evolves.refl m, ho⟩
        · rw [if_neg hz]
          exact ⟨off + len * esz, Nat.le_refl _, fz_hok hk ho (by omega), fz_evolves hk ho (by omega), by simp [updH, getH_cons]⟩
      obtain ⟨fz', hz1, hk', hev, ho'⟩ := key
      refine ⟨hk', hev, ?_⟩
      generalize (if off + len * esz ≤ fz then [] else [(id, Obj.arr cs esz (off + len * esz) ety)]) = us at *
      simp only [RepC]
      have hsub : ∀ i c, ((cs.drop off).take (len * esz))[i]? = some c → i < len * esz := by
        intro i c h
        have := (List.getElem?_eq_some_iff.1 h).1
        simp at this; omega
      have hall : All2 (RepC m.w (Safe B S (m.heap (updH m.h us)))) ((cs.drop off).take (len * esz)) (((vs.take cs.length).drop off).take (len * esz)) :=
        ((hv3.mono fun x u h5 => RepC.mono hev.cell x u h5).drop off).take _
      have hcs : RepCs m.w (Safe B S (m.heap (updH m.h us))) ((cs.drop off).take (len * esz)) (m.β id) off := by
        refine RepCs_of hall fun i u hi => ?_
        have hi2 : i < len * esz := by
          have := (List.getElem?_eq_some_iff.1 hi).1
          simp at this; omega
        have hi3 : vs[off + i]? = some u := by
          rw [List.getElem?_take_of_lt hi2, List.getElem?_drop, List.getElem?_take_of_lt (by omega)] at hi
          exact hi
        refine ⟨by rw [cell_row hv1]; exact hi3, hk.arrS id (esz, ety) (by rw [ho]; rfl) _, fun j => ?_⟩
        · show match getH (updH m.h us) j with | .dead => True | .box _ => m.β j ≠ m.β id | .arr _ _ fz _ => m.β j = m.β id → off + i < fz | .rows _ _ _ => m.β j ≠ m.β id
          by_cases hj : j = id
          · subst hj; rw [ho']; exact fun _ => by omega
          · cases hoj : getH (updH m.h us) j with
            | dead => trivial
            | box ds => exact fun e => hj (hk'.inj j id (by show getH (updH m.h us) j ≠ _; rw [hoj]; simp) (by show getH (updH m.h us) id ≠ _; rw [ho']; simp) e)
            | rows ds esz2 ety2 => exact fun e => hj (hk'.inj j id (by show getH (updH m.h us) j ≠ _; rw [hoj]; simp) (by show getH (updH m.h us) id ≠ _; rw [ho']; simp) e)
            | arr cs2 esz2 fz2 ety2 => exact fun e => absurd (hk'.inj j id (by show getH (updH m.h us) j ≠ _; rw [hoj]; simp) (by show getH (updH m.h us) id ≠ _; rw [ho']; simp) e) hj
      rcases hr with ⟨rfl, _⟩ | ⟨rfl, rfl⟩
      · exact .inr ⟨⟨m.β id, off, none⟩, cap, hv, hcap, fun _ => rfl, hcs⟩
      · refine .inr ⟨ad, 0, hv, Nat.le_refl _, fun h => ?_, ?_⟩
        · simp at h
        · simp [RepCs]
  | full cs n =>
    simp only [frz1, Option.some.injEq, Prod.mk.injEq] at hf
    obtain ⟨rfl, rfl⟩ := hf
    refine ⟨hk, Evolves.refl m, ?_⟩
    simp only [RepC]
    rcases hr with hr | ⟨a, h1, h2, h3⟩
    · exact .inl hr
    · exact .inr ⟨a, n, h1, Nat.le_refl _, h2, h3⟩
  | unk => simp [frz1] at hf
  | loc id off => simp [frz1] at hf
  | clo f caps => simp [frz1] at hf
  | ptr cs => simp [frz1] at hf
  | agg ds => simp [frz1] at hf
  | tup ds => simp [frz1] at hf

theorem updH_append : ∀ (us vs : List (Nat × Obj)) (h : Heap), updH h (us ++ vs) = updH (updH h us) vs
  | [], _, _ => rfl
  | u :: us, vs, h => by simp only [List.cons_append, updH]; exact updH_append us vs (u :: h)

theorem frzL1_ok : ∀ {ds : List D} {us : List Value} {m : M}, HOK B S m → All2 (RepDc B S m) ds us → ∀ {cs : List C} {xs : List (Nat × Obj)}, frzL1 m.h ds = some (cs, xs) →
    HOK B S (m.heap (updH m.h xs)) ∧ Evolves B S m (m.heap (updH m.h xs)) ∧ All2 (RepC m.w (Safe B S (m.heap (updH m.h xs)))) cs us
  | [], [], m, hk, _, cs, xs, hf => by
    simp only [frzL1, Option.some.injEq, Prod.mk.injEq] at hf
    obtain ⟨rfl, rfl⟩ := hf
    exact ⟨hk, Evolves.refl m, trivial⟩
  | d :: ds, u :: us, m, hk, hr, cs, xs, hf => by
    simp only [frzL1, Option.bind_eq_bind, Option.bind_eq_some_iff, Prod.exists, Option.some.injEq, Prod.mk.injEq] at hf
    obtain ⟨c, x, h1, cs', xs', h2, rfl, rfl⟩ := hf
    obtain ⟨k1, k2, k3⟩ := frz1_ok hk hr.1 h1
    have hr2 : All2 (RepDc B S (m.heap (updH m.h x))) ds us := hr.2.mono fun _ _ h => k2.repDc h
    obtain ⟨k4, k5, k6⟩ := frzL1_ok (m := m.heap (updH m.h x)) k1 hr2 h2
    rw [updH_append]
    exact ⟨k4, k2.trans k5, RepC.mono k5.cell c u k3, k6⟩
  | [], _ :: _, _, _, hr, _, _, _ => hr.elim
  | _ :: _, [], _, _, hr, _, _, _ => hr.elim


/-- shallow freezing leaves rows -/
theorem frz1_rows {h : Heap} {d : D} {c : C} {us : List (Nat × Obj)} (hf : frz1 h d = some (c, us)) : ∀ id, getH (updH h us) id = getH h id ∨ ((∃ cs esz fz ety, getH h id = .arr cs esz fz ety) ∧ ∃ cs esz fz ety, getH (updH h us) id = .arr cs esz fz ety) := by
  intro id
  cases d with
  | c x => simp only [frz1, Option.some.injEq, Prod.mk.injEq] at hf; obtain ⟨rfl, rfl⟩ := hf; exact .inl rfl
  | full cs n => simp only [frz1, Option.some.injEq, Prod.mk.injEq] at hf; obtain ⟨rfl, rfl⟩ := hf; exact .inl rfl
  | arr i off len =>
    simp only [frz1] at hf
    cases ho : getH h i with
    | arr cs esz fz ety =>
      rw [ho] at hf
      simp only at hf
      split at hf
      case isFalse => cases hf
      simp only [Option.some.injEq, Prod.mk.injEq] at hf
      obtain ⟨rfl, rfl⟩ := hf
      split
      · exact .inl rfl
      · simp only [updH, getH_cons]
        by_cases hi : i = id
        · subst hi; exact .inr ⟨⟨_, _, _, _, ho⟩, cs, esz, off + len * esz, ety, by simp⟩
        · exact .inl (by simp [hi])
    | dead => rw [ho] at hf; cases hf
    | box ds => rw [ho] at hf; cases hf
    | rows ds esz ety => rw [ho] at hf; cases hf
  | unk => simp [frz1] at hf
  | loc i off => simp [frz1] at hf
  | clo f caps => simp [frz1] at hf
  | ptr cs => simp [frz1] at hf
  | agg ds => simp [frz1] at hf
  | tup ds => simp [frz1] at hf

theorem frzL1_rows : ∀ {ds : List D} {h : Heap} {cs : List C} {us : List (Nat × Obj)}, frzL1 h ds = some (cs, us) → ∀ id, getH (updH h us) id = getH h id ∨ ((∃ cs esz fz ety, getH h id = .arr cs esz fz ety) ∧ ∃ cs esz fz ety, getH (updH h us) id = .arr cs esz fz ety)
  | [], h, cs, us, hf, id => by simp only [frzL1, Option.some.injEq, Prod.mk.injEq] at hf; obtain ⟨rfl, rfl⟩ := hf; exact .inl rfl
  | d :: ds, h, cs, us, hf, id => by
    simp only [frzL1, Option.bind_eq_bind, Option.bind_eq_some_iff, Prod.exists, Option.some.injEq, Prod.mk.injEq] at hf
    obtain ⟨c, u, h1, cs', us', h2, rfl, rfl⟩ := hf
    rw [updH_append]
    rcases frz1_rows h1 id with e1 | ⟨e1, e2⟩
    · rcases frzL1_rows h2 id with k1 | ⟨k1, k2⟩
      · exact .inl (k1.trans e1)
      · exact .inr ⟨by rw [← e1]; exact k1, k2⟩
    · rcases frzL1_rows h2 id with k1 | ⟨k1, k2⟩
      · exact .inr ⟨e1, by rw [k1]; exact e2⟩
      · exact .inr ⟨e1, k2⟩

theorem HOK.rows {m : M} (hk : HOK B S m) {id : Nat} {ds : List D} {esz ety : Nat} (ho : getH m.h id = .rows ds esz ety) :
    B ≤ m.β id ∧ ∃ us : List Value, m.w.heap[m.β id]? = some (.cells us.toArray ety (0, 0)) ∧ ds.length ≤ us.length ∧ All2 (RepDc B S m) ds (us.take ds.length) := by
  have h := hk.obj id
  unfold RepO at h
  rw [ho] at h
  exact h

/-- rows become an array -/
theorem thaw_ok {m : M} (hk : HOK B S m) {id : Nat} {ds : List D} {esz ety : Nat} (ho : getH m.h id = .rows ds esz ety) {cs : List C} {us : List (Nat × Obj)} (hf : frzL1 m.h ds = some (cs, us)) :
    HOK B S (m.heap (updH m.h (us ++ [(id, .arr cs esz 0 ety)]))) ∧ Evolves B S m (m.heap (updH m.h (us ++ [(id, .arr cs esz 0 ety)]))) := by
  obtain ⟨hB, vs, h1, h2, h3⟩ := hk.rows ho
  obtain ⟨k1, k2, k3⟩ := frzL1_ok hk h3 hf
  have ho' : getH (m.heap (updH m.h us)).h id = .rows ds esz ety := by
    rcases frzL1_rows hf id with e | ⟨⟨_, _, _, _, e⟩, _⟩
    · exact e.trans ho
    · rw [ho] at e; cases e
  have hl : cs.length = ds.length := by
    have a := k3.len
    rw [List.length_take] at a
    omega
  have hev : Evolves B S (m.heap (updH m.h us)) ((m.heap (updH m.h us)).upd m.w id (.arr cs esz 0 ety)) :=
    upd_evolves k1 ho' (o' := .arr cs esz 0 ety) (w' := m.w) ⟨rfl, rfl⟩ (fun _ _ => rfl) (fun _ _ h => h.elim) rfl
  have hok : HOK B S ((m.heap (updH m.h us)).upd m.w id (.arr cs esz 0 ety)) := by
    refine upd_hok k1 (w' := m.w) (by rw [ho']; simp) hev (fun _ _ => rfl) (Nat.le_refl _) ?_
    refine ⟨hB, vs, h1, by omega, ?_⟩
    rw [hl]
    exact k3.mono fun x u h5 => RepC.mono hev.cell x u h5
  rw [updH_append]
  exact ⟨hok, k2.trans hev⟩

theorem frz_ok {m : M} (hk : HOK B S m) {d : D} {u : Value} (hr : RepDc B S m d u) {c : C} {us : List (Nat × Obj)} (hf : frz m.h d = some (c, us)) :
    HOK B S (m.heap (updH m.h us)) ∧ Evolves B S m (m.heap (updH m.h us)) ∧ RepC m.w (Safe B S (m.heap (updH m.h us))) c u := by
  unfold frz at hf
  split at hf
  · rename_i id off len
    split at hf
    · rename_i ds esz ety ho
      simp only [Option.bind_eq_bind, Option.bind_eq_some_iff, Prod.exists, Option.some.injEq, Prod.mk.injEq] at hf
      obtain ⟨cs, us1, h1, c', vs, h2, rfl, rfl⟩ := hf
      obtain ⟨k1, k2⟩ := thaw_ok hk ho h1
      obtain ⟨k3, k4, k5⟩ := frz1_ok k1 (k2.repDc hr) h2
      rw [updH_append]
      exact ⟨k3, k2.trans k4, k5⟩
    · exact frz1_ok hk hr hf
  · exact frz1_ok hk hr hf

/-- freezing leaves all objects, or makes arrays of them -/
theorem frz_arr {h : Heap} {d : D} {c : C} {us : List (Nat × Obj)} (hf : frz h d = some (c, us)) : ∀ id, getH (updH h us) id = getH h id ∨ ∃ cs esz fz ety, getH (updH h us) id = .arr cs esz fz ety := by
  intro id
  unfold frz at hf
  split at hf
  · rename_i i off len
    split at hf
    · rename_i ds esz ety ho
      simp only [Option.bind_eq_bind, Option.bind_eq_some_iff, Prod.exists, Option.some.injEq, Prod.mk.injEq] at hf
      obtain ⟨cs, us1, h1, c', vs, h2, rfl, rfl⟩ := hf
      rw [updH_append]
      rcases frz1_rows h2 id with e | ⟨_, e⟩
      · rw [e, updH_append]
        simp only [updH, getH_cons]
        by_cases hi : i = id
        · exact .inr ⟨cs, esz, 0, ety, by simp [hi]⟩
        · simp only [hi, if_false]
          rcases frzL1_rows h1 id with e | ⟨_, e⟩
          · exact .inl e
          · exact .inr e
      · exact .inr e
    · rcases frz1_rows hf id with e | ⟨_, e⟩
      · exact .inl e
      · exact .inr e
  · rcases frz1_rows hf id with e | ⟨_, e⟩
    · exact .inl e
    · exact .inr e

theorem frzL_ok : ∀ {ds : List D} {us : List Value} {m : M}, HOK B S m → All2 (RepDc B S m) ds us → ∀ {cs : List C} {xs : List (Nat × Obj)}, frzL m.h ds = some (cs, xs) →
    HOK B S (m.heap (updH m.h xs)) ∧ Evolves B S m (m.heap (updH m.h xs)) ∧ All2 (RepC m.w (Safe B S (m.heap (updH m.h xs)))) cs us
  | [], [], m, hk, _, cs, xs, hf => by
    simp only [frzL, Option.some.injEq, Prod.mk.injEq] at hf
    obtain ⟨rfl, rfl⟩ := hf
    exact ⟨hk, Evolves.refl m, trivial⟩
  | d :: ds, u :: us, m, hk, hr, cs, xs, hf => by
    simp only [frzL, Option.bind_eq_bind, Option.bind_eq_some_iff, Prod.exists, Option.some.injEq, Prod.mk.injEq] at hf
    obtain ⟨c, x, h1, cs', xs', h2, rfl, rfl⟩ := hf
    obtain ⟨k1, k2, k3⟩ := frz_ok hk hr.1 h1
    have hr2 : All2 (RepDc B S (m.heap (updH m.h x))) ds us := hr.2.mono fun _ _ h => k2.repDc h
    obtain ⟨k4, k5, k6⟩ := frzL_ok (m := m.heap (updH m.h x)) k1 hr2 h2
    rw [updH_append]
    exact ⟨k4, k2.trans k5, RepC.mono k5.cell c u k3, k6⟩
  | [], _ :: _, _, _, hr, _, _, _ => hr.elim
  | _ :: _, [], _, _, hr, _, _, _ => hr.elim

/-- a plain argument or result -/
def RepV (w : World) (Sf : Nat → Nat → Prop) : V → Value → Prop
  | .one c, u => RepC w Sf c u
  | .agg cs, u => ∃ us : List Value, u = .agg us.toArray ∧ All2 (RepC w Sf) cs us

theorem RepV.mono {w w' : World} {Sf Sf' : Nat → Nat → Prop} (h : ∀ b o u, w.cell? ⟨b, o, none⟩ = some u → Sf b o → w'.cell? ⟨b, o, none⟩ = some u ∧ Sf' b o) {v : V} {u : Value} (hr : RepV w Sf v u) : RepV w' Sf' v u := by
  cases v with
  | one c => exact RepC.mono h c u hr
  | agg cs => obtain ⟨us, h1, h2⟩ := hr; exact ⟨us, h1, h2.mono fun x v hx => RepC.mono h x v hx⟩

theorem frzV_ok {m : M} (hk : HOK B S m) {d : D} {u : Value} (hr : RepA B S m d u) {v : V} {xs : List (Nat × Obj)} (hf : frzV m.h d = some (v, xs)) :
    HOK B S (m.heap (updH m.h xs)) ∧ Evolves B S m (m.heap (updH m.h xs)) ∧ RepV m.w (Safe B S (m.heap (updH m.h xs))) v u := by
  have one : ∀ d, RepDc B S m d u → (do let (c, y) ← frz m.h d; some (V.one c, y)) = some (v, xs) →
      HOK B S (m.heap (updH m.h xs)) ∧ Evolves B S m (m.heap (updH m.h xs)) ∧ RepV m.w (Safe B S (m.heap (updH m.h xs))) v u := by
    intro d hr hf
    simp only [Option.bind_eq_bind, Option.bind_eq_some_iff, Prod.exists, Option.some.injEq, Prod.mk.injEq] at hf
    obtain ⟨c, x, h1, rfl, rfl⟩ := hf
    exact frz_ok hk hr h1
  cases d with
  | agg ds =>
    simp only [frzV, Option.bind_eq_bind, Option.bind_eq_some_iff, Prod.exists, Option.some.injEq, Prod.mk.injEq] at hf
    obtain ⟨cs, x, h1, rfl, rfl⟩ := hf
    obtain ⟨us, rfl, h2⟩ := hr
    obtain ⟨k1, k2, k3⟩ := frzL_ok hk h2 h1
    exact ⟨k1, k2, us, rfl, k3⟩
  | unk => exact one .unk hr hf
  | c x => exact one (.c x) hr hf
  | loc id off => exact one (.loc id off) hr hf
  | arr id off len => exact one (.arr id off len) hr hf
  | ptr cs => exact one (.ptr cs) hr hf
  | full cs n => exact one (.full cs n) hr hf
  | clo f caps => exact one (.clo f caps) hr hf
  | tup ds => exact one (.tup ds) hr hf

theorem frzVs_ok : ∀ {ds : List D} {us : List Value} {m : M}, HOK B S m → All2 (RepA B S m) ds us → ∀ {vs : List V} {xs : List (Nat × Obj)}, frzVs m.h ds = some (vs, xs) →
    HOK B S (m.heap (updH m.h xs)) ∧ Evolves B S m (m.heap (updH m.h xs)) ∧ All2 (RepV m.w (Safe B S (m.heap (updH m.h xs)))) vs us
  | [], [], m, hk, _, cs, xs, hf => by
    simp only [frzVs, Option.some.injEq, Prod.mk.injEq] at hf
    obtain ⟨rfl, rfl⟩ := hf
    exact ⟨hk, Evolves.refl m, trivial⟩
  | d :: ds, u :: us, m, hk, hr, cs, xs, hf => by
    simp only [frzVs, Option.bind_eq_bind, Option.bind_eq_some_iff, Prod.exists, Option.some.injEq, Prod.mk.injEq] at hf
    obtain ⟨c, x, h1, cs', xs', h2, rfl, rfl⟩ := hf
    obtain ⟨k1, k2, k3⟩ := frzV_ok hk hr.1 h1
    have hr2 : All2 (RepA B S (m.heap (updH m.h x))) ds us := hr.2.mono fun _ _ h => k2.repA h
    obtain ⟨k4, k5, k6⟩ := frzVs_ok (m := m.heap (updH m.h x)) k1 hr2 h2
    rw [updH_append]
    exact ⟨k4, k2.trans k5, RepV.mono k5.cell k3, k6⟩
  | [], _ :: _, _, _, hr, _, _, _ => hr.elim
  | _ :: _, [], _, _, hr, _, _, _ => hr.elim

end
end Go.Ez

namespace Go.Ez
open Go.RowKit

/-- what append and copy take from a source -/
structure Src (P : Program) (w : World) (size n : Nat) (x : Value) (news : List Value) : Prop where
  len : Builtin.lenOf x = pure n
  cells : news.length = n * size
  first : ∀ w' : World, w'.heap = w.heap → ∀ k, k ≤ n → (Builtin.firstCells size k x).run P w' = .ok (news.take (k * size)).toArray w'

section
variable {P : Program} {w : World}

theorem Src.all {size n : Nat} {x : Value} {news : List Value} (h : Src P w size n x news) {w' : World} (hw : w'.heap = w.heap) : (Builtin.firstCells size n x).run P w' = .ok news.toArray w' := by
  have h1 := h.first w' hw n (Nat.le_refl _)
  rw [List.take_of_length_le (by rw [h.cells]; exact Nat.le_refl _)] at h1
  exact h1

theorem add_off (b o j : Nat) : (⟨b, o, none⟩ : Addr).add j = ⟨b, o + j, none⟩ := by unfold Addr.add; split <;> simp_all

theorem src_cells {size n cap : Nat} {a : Addr} {news : List Value} (hs : news ≠ [] → a.spot = none) (hl : news.length = n * size)
    (hc : ∀ j v, news[j]? = some v → w.cell? ⟨a.block, a.off + j, none⟩ = some v) : Src P w size n (.slice (some a) n cap) news := by
  refine ⟨rfl, hl, fun w' hw k hk => ?_⟩
  have hk' : k * size ≤ news.length := by rw [hl]; exact Nat.mul_le_mul_right _ hk
  refine run_firstCells_some (P := P) w' size k a n cap _ (by simp; omega) fun j v hv => ?_
  have hj : j < k * size := by have := (List.getElem?_eq_some_iff.1 hv).1; simp at this; omega
  rw [List.getElem?_take_of_lt hj] at hv
  have hne : news ≠ [] := by intro e; rw [e] at hv; simp at hv
  obtain ⟨b, o, sp⟩ := a
  have : sp = none := hs hne
  subst this
  rw [add_off]
  have := hc j v hv
  simp only [World.cell?, hw] at this ⊢
  exact this

theorem src_nil {size : Nat} : Src P w size 0 (.slice none 0 0) [] := by
  refine ⟨rfl, by simp, fun w' _ k hk => ?_⟩
  have : k = 0 := by omega
  subst this
  simp [Builtin.firstCells]

theorem src_string (s : ByteArray) : Src P w 1 s.size (.string s) (s.data.toList.map fun b => .int .u8 b.toNat) := by
  refine ⟨rfl, by rw [List.length_map, Nat.mul_one]; rfl, fun w' _ k hk => ?_⟩
  simp only [Builtin.firstCells]
  have h : (s.extract 0 k).data = (s.data.extract 0 k) := by simp [ByteArray.extract, ByteArray.copySlice]
  rw [h]
  show Result.ok _ _ = _
  congr 1
  apply Array.ext'
  simp [Array.toList_extract, List.extract]

section append
variable {t t' ty e : TypeId} {i : TypeInfo} {z : Value} {d' : TypeDesc}

theorem run_app_nil0 (ht : P.underlying t = some (.slice e)) (ht' : P.underlying t' = some d') (hd : ∀ k, d' ≠ .int k) (hi : P.info? e = some i) {x : Value} {news : List Value} (h : Src P w i.size 0 x news) :
    (Builtin.append_ #[t, t'] ty #[.slice none 0 0, x]).run P w = .ok (.slice none 0 0) w := by
  have hf := h.all (w' := w) rfl
  simp [Builtin.append_, run_underlying ht, run_underlying ht', sizeOf, typeInfo, hi, h.len, hf]

theorem run_app_zero (ht : P.underlying t = some (.slice e)) (ht' : P.underlying t' = some d') (hd : ∀ k, d' ≠ .int k) (hi : P.info? e = some i) {x : Value} {news : List Value} (h : Src P w i.size 0 x news) (ad : Addr) (sLen sCap : Nat) (hc : sLen ≤ sCap) :
    (Builtin.append_ #[t, t'] ty #[.slice (some ad) sLen sCap, x]).run P w = .ok (.slice (some ad) sLen sCap) w := by
  have hf := h.all (w' := w) rfl
  have hn : news = [] := List.eq_nil_of_length_eq_zero (by simpa using h.cells)
  subst hn
  simp [Builtin.append_, run_underlying ht, run_underlying ht', sizeOf, typeInfo, hi, h.len, hf, storeCells, hc]

theorem run_app_nil (ht : P.underlying t = some (.slice e)) (ht' : P.underlying t' = some d') (hd : ∀ k, d' ≠ .int k) (hi : P.info? e = some i) (hz : i.zero = some z) {x : Value} {n : Nat} {news : List Value} (h : Src P w i.size n x news)
    (h0 : 0 < n) (h63 : (n : Int) ≤ 9223372036854775807) (h48 : n * i.bytes ≤ 281474976710656) :
    (Builtin.append_ #[t, t'] ty #[.slice none 0 0, x]).run P w =
      .ok (.slice (some ⟨w.heap.size, 0, none⟩) n (grownCap w n 0 e)) (w.drew.alloc (.cells (news.toArray ++ Builtin.zeroCells z.cells (grownCap w n 0 e - n)) e)) := by
  have hn : n ≠ 0 := by omega
  have h63' : ¬ (9223372036854775807 < (n : Int)) := by omega
  have h48' : ¬ (281474976710656 < Builtin.nextslicecap n 0 * i.bytes) := by rw [nextslicecap_zero h0]; omega
  have hf := h.all (w' := w.drew) rfl
  simp [Builtin.append_, run_underlying ht, run_underlying ht', sizeOf, typeInfo, zeroValue, hi, hz, h.len, hn, h63', h48', Question.forced, run_firstCells_none, hf, newRow, grownCap]

theorem run_app_grow (ht : P.underlying t = some (.slice e)) (ht' : P.underlying t' = some d') (hd : ∀ k, d' ≠ .int k) (hi : P.info? e = some i) (hz : i.zero = some z) {x : Value} {n : Nat} {news : List Value} (h : Src P w i.size n x news)
    (b : Addr) (sLen sCap : Nat) (olds : List Value) (hlo : olds.length = sLen * i.size) (holds : ∀ j v, olds[j]? = some v → w.cell? (b.add j) = some v)
    (hg : sCap < sLen + n) (h63 : ((sLen + n : Nat) : Int) ≤ 9223372036854775807) (hfit : Builtin.nextslicecap (sLen + n) sCap * i.bytes ≤ 281474976710656) :
    (Builtin.append_ #[t, t'] ty #[.slice (some b) sLen sCap, x]).run P w =
      .ok (.slice (some ⟨w.heap.size, 0, none⟩) (sLen + n) (grownCap w (sLen + n) sCap e))
        (w.drew.alloc (.cells (olds.toArray ++ news.toArray ++ Builtin.zeroCells z.cells (grownCap w (sLen + n) sCap e - (sLen + n))) e)) := by
  have hn : ¬ (sLen + n ≤ sCap) := by omega
  have h63' : ¬ (9223372036854775807 < ((sLen : Int) + (n : Int))) := by omega
  have h48' : ¬ (281474976710656 < Builtin.nextslicecap (sLen + n) sCap * i.bytes) := by omega
  have hf := h.all (w' := w.drew) rfl
  have hfo := run_firstCells_some (P := P) w.drew i.size sLen b sLen sCap olds hlo (by simpa using holds)
  simp [Builtin.append_, run_underlying ht, run_underlying ht', sizeOf, typeInfo, zeroValue, hi, hz, h.len, hn, h63', h48', Question.forced, hf, hfo, newRow, grownCap]
  congr 2
  apply Array.ext'
  simp [List.append_assoc]

theorem run_app_room (ht : P.underlying t = some (.slice e)) (ht' : P.underlying t' = some d') (hd : ∀ k, d' ≠ .int k) (hi : P.info? e = some i) {x : Value} {n : Nat} {news : List Value} (h : Src P w i.size n x news)
    (g sLen sCap : Nat) (cur : Array Value) (hg : w.heap[g]? = some (.cells cur e (0, 0))) (h1 : ∀ u ∈ news, u.oneCell' = true)
    (hroom : sLen + n ≤ sCap) (hfit : sLen * i.size + news.length ≤ cur.size) :
    (Builtin.append_ #[t, t'] ty #[.slice (some ⟨g, 0, none⟩) sLen sCap, x]).run P w =
      .ok (.slice (some ⟨g, 0, none⟩) (sLen + n) sCap) (w.setRow g (cur.toList.take (sLen * i.size) ++ news ++ cur.toList.drop (sLen * i.size + news.length)).toArray) := by
  have hf := h.all (w' := w) rfl
  have hst := run_storeCells_at P g (sLen * i.size) e news 0 cur w hg (by simpa using hfit) h1
  simp only [Nat.add_zero] at hst
  simp [Builtin.append_, run_underlying ht, run_underlying ht', sizeOf, typeInfo, hi, h.len, hroom, hf, Addr.add_lit, hst]
end append

theorem run_cpy {dT sT ty e : TypeId} {i : TypeInfo} (ht : P.underlying dT = some (.slice e)) (hi : P.info? e = some i) {x : Value} {n : Nat} {news : List Value} (h : Src P w i.size n x news)
    (g o dLen dCap : Nat) (cur : Array Value) (t : TypeId) (hg : w.heap[g]? = some (.cells cur t (0, 0))) (h1 : ∀ u ∈ news, u.oneCell' = true) (hfit : o + dLen * i.size ≤ cur.size) :
    (Builtin.copy_ #[dT, sT] ty #[.slice (some ⟨g, o, none⟩) dLen dCap, x]).run P w =
      .ok (goInt (Nat.min n dLen : Nat)) (w.setRow g (cur.toList.take o ++ news.take (Nat.min n dLen * i.size) ++ cur.toList.drop (o + (news.take (Nat.min n dLen * i.size)).length)).toArray) := by
  have hmin : Nat.min n dLen ≤ n := Nat.min_le_left _ _
  have hmin2 : Nat.min n dLen ≤ dLen := Nat.min_le_right _ _
  have hf := h.first w rfl (Nat.min n dLen) hmin
  have hlen : (news.take (Nat.min n dLen * i.size)).length = Nat.min n dLen * i.size := by
    rw [List.length_take, h.cells]
    have := Nat.mul_le_mul_right i.size hmin
    omega
  have hle := Nat.mul_le_mul_right i.size hmin2
  have hst := run_storeCells_at P g o t (news.take (Nat.min n dLen * i.size)) 0 cur w hg (by rw [hlen]; omega) (fun u hu => h1 u (List.mem_of_mem_take hu))
  simp only [Nat.add_zero] at hst
  simp [Builtin.copy_, run_underlying ht, sizeOf, typeInfo, hi, h.len, hf, hst]

theorem run_cpy_empty {dT sT ty e : TypeId} {i : TypeInfo} (ht : P.underlying dT = some (.slice e)) (hi : P.info? e = some i) {x : Value} {n : Nat} {news : List Value} (h : Src P w i.size n x news) (a : Addr) (dCap : Nat) :
    (Builtin.copy_ #[dT, sT] ty #[.slice (some a) 0 dCap, x]).run P w = .ok (goInt 0) w := by
  have hf := h.first w rfl 0 (Nat.zero_le _)
  simp at hf
  simp [Builtin.copy_, run_underlying ht, sizeOf, typeInfo, hi, h.len, hf, storeCells]

end

section
variable {B : Nat} {S : Nat → Nat → Prop} {P : Program}

theorem src_of_cells {m : M} {cs : List C} {n esz cap : Nat} {a : Addr} (h2 : cs ≠ [] → a.spot = none) (h3 : RepCs m.w (Safe B S m) cs a.block a.off) (hl : cs.length = n * esz) :
    ∃ news, All2 (RepC m.w (Safe B S m)) cs news ∧ Src P m.w esz n (.slice (some a) n cap) news := by
  obtain ⟨us, h4, h5⟩ := RepCs_get h3
  refine ⟨us, h4, src_cells (fun hne => h2 fun e => hne ?_) (by rw [← h4.len]; exact hl) fun j v hv => (h5 j v hv).1⟩
  subst e
  cases us with
  | nil => rfl
  | cons _ _ => exact h4.elim

theorem srcOf_ok {m : M} (hk : HOK B S m) {d : D} {u : Value} (hr : RepD B S m d u) {esz n : Nat} {cs : List C} (hs : srcOf m.h esz d = some (cs, n)) (hl : cs.length = n * esz) :
    ∃ news, All2 (RepC m.w (Safe B S m)) cs news ∧ Src P m.w esz n u news := by
  cases d with
  | c x =>
    replace hr : RepC m.w (Safe B S m) x u := hr
    cases x with
    | lit v =>
      simp only [RepC] at hr
      obtain ⟨rfl, hsc⟩ := hr
      unfold srcOf at hs
      split at hs <;> try (simp only [reduceCtorEq, D.c.injEq] at *; done)
      · rename_i s h
        simp only [D.c.injEq, C.lit.injEq] at h
        subst h
        split at hs
        · rename_i he
          subst he
          simp only [Option.some.injEq, Prod.mk.injEq] at hs
          obtain ⟨rfl, rfl⟩ := hs
          refine ⟨_, ?_, src_string s⟩
          clear hl hsc
          generalize s.data.toList = l
          induction l with
          | nil => trivial
          | cons b l ih => exact ⟨⟨rfl, rfl⟩, ih⟩
        · cases hs
    | slice cs' n' =>
      simp only [RepC] at hr
      simp only [srcOf] at hs
      split at hs
      case isFalse => cases hs
      simp only [Option.some.injEq, Prod.mk.injEq] at hs
      obtain ⟨rfl, rfl⟩ := hs
      rcases hr with ⟨rfl, rfl, rfl⟩ | ⟨a, cap, rfl, h1, h2, h3⟩
      · exact ⟨[], trivial, src_nil⟩
      · exact src_of_cells h2 h3 hl
  | full cs' n' =>
    simp only [srcOf] at hs
    split at hs
    case isFalse => cases hs
    simp only [Option.some.injEq, Prod.mk.injEq] at hs
    obtain ⟨rfl, rfl⟩ := hs
    rcases hr with ⟨rfl, rfl, rfl⟩ | ⟨a, rfl, h2, h3⟩
    · exact ⟨[], trivial, src_nil⟩
    · exact src_of_cells h2 h3 hl
  | arr id off len =>
    obtain ⟨hu, ad, cap, hv, hcap, hr⟩ := hr
    simp only [srcOf] at hs
    cases ho : getH m.h id with
    | dead => rw [ho] at hs; cases hs
    | box ds => rw [ho] at hs; cases hs
    | rows ds esz ety => rw [ho] at hs; cases hs
    | arr cs0 esz0 fz ety =>
      rw [ho] at hs hr
      simp only at hs hr
      split at hs
      case isFalse => cases hs
      rename_i hc
      obtain ⟨rfl, hlen⟩ := hc
      simp only [Option.some.injEq, Prod.mk.injEq] at hs
      obtain ⟨rfl, rfl⟩ := hs
      obtain ⟨hB, vs, hv1, hv2, hv3⟩ := hk.arr ho
      have hall := (hv3.drop off).take (len * esz0)
      refine ⟨_, hall, ?_⟩
      subst hv
      rcases hr with ⟨rfl, _⟩ | ⟨rfl, rfl⟩
      · refine src_cells (fun _ => rfl) (by rw [← hall.len]; exact hl) fun j v hv => ?_
        have hj : j < len * esz0 := by have := (List.getElem?_eq_some_iff.1 hv).1; simp at this; omega
        rw [List.getElem?_take_of_lt hj, List.getElem?_drop, List.getElem?_take_of_lt (by omega)] at hv
        show m.w.cell? ⟨m.β id, off + j, none⟩ = _
        rw [cell_row hv1]; exact hv
      · refine src_cells (fun h => ?_) (by simp) fun j v hv => ?_
        · simp at h
        · simp at hv
  | unk => simp [srcOf] at hs
  | loc id off => simp [srcOf] at hs
  | clo f caps => simp [srcOf] at hs
  | ptr cs => simp [srcOf] at hs
  | agg ds => simp [srcOf] at hs
  | tup ds => simp [srcOf] at hs
end
end Go.Ez

