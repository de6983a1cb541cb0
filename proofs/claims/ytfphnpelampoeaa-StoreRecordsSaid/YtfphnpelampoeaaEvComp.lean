/-
  From the model's code to the evaluator's: a program, checked function by function by the kernel. Nothing is claimed here.
-/
import Derived.Test.YtfphnpelampoeaaEvBase
import GoSem.Core.Region
namespace Go.Ev

def compX : Operand → Option X
  | .tmp t => some (.t t)
  | .const v => if scalar v then some (.k v) else none
  | _ => none

def compXs : List Operand → Option (List X)
  | [] => some []
  | o :: os => do
    let x ← compX o
    let xs ← compXs os
    some (x :: xs)

def compOX : Option Operand → Option (Option X)
  | none => some none
  | some o => do
    let x ← compX o
    some (some x)

def aggB (P : Program) (t : TypeId) : Option Bool :=
  match P.underlying t with
  | some (.struct _) | some (.array _ _) => some true
  | some _ => some false
  | none => none

/-- the cells of a type's zero value, if all of them are literals -/
def zeroOf (P : Program) (t : TypeId) : Option (List Value) := do
  let i ← P.info? t
  let z ← i.zero
  if z.cells.toList.all scalar ∧ z.cells.size = i.size then some z.cells.toList else none

def fieldsOf (P : Program) (t : TypeId) : Option (List Field) :=
  match P.underlying t with
  | some (.struct fs) => some fs.toList
  | _ => none

def elemOfSlice (P : Program) (t : TypeId) : Option TypeId :=
  match P.underlying t with
  | some (.slice e) => some e
  | _ => none

def compFields (P : Program) (fs : List Field) : List (Nat × Operand) → Option (List (Nat × Nat × X))
  | [] => some []
  | (i, o) :: r => do
    let f ← fs[i]?
    let info ← P.info? f.type
    let x ← compX o
    let ps ← compFields P fs r
    some ((f.offset, info.size, x) :: ps)

def compElems (size : Nat) : List (Nat × Operand) → Option (List (Nat × Nat × X))
  | [] => some []
  | (i, o) :: r => do
    let x ← compX o
    let ps ← compElems size r
    some ((i * size, size, x) :: ps)

/-- every type of a field has an entry in the table -/
def fieldsKnown (P : Program) (fs : List Field) : Bool := fs.all fun f => (P.info? f.type).isSome

def compOp (P : Program) (sharedF : Nat → Bool) (op : Op) : Option Ins :=
  match op with
  | .move x | .assign x => do
    let x ← compX x
    some (.mov x)
  | .pick c a b => do
    let c ← compX c
    let a ← compX a
    let b ← compX b
    some (.pick c a b)
  | .alloc t => do
    let z ← zeroOf P t
    some (.alloc z)
  | .box _ x => do
    let x ← compX x
    some (.box x)
  | .build t parts => do
    let fs ← fieldsOf P t
    let z ← zeroOf P t
    let ps ← compFields P fs parts.toList
    if fieldsKnown P fs then some (.build z ps) else none
  | .buildSlice t len parts => do
    let e ← elemOfSlice P t
    let i ← P.info? e
    let z ← zeroOf P e
    let ps ← compElems i.size parts.toList
    if len * i.size ≤ 16777216 ∧ 0 < i.size then some (.lits i.size e len z ps) else none
  | .load t a => do
    let agg ← aggB P t
    let i ← P.info? t
    let x ← compX a
    some (.load agg i.size x)
  | .store t a v => do
    let i ← P.info? t
    let a ← compX a
    let v ← compX v
    some (.store i.size a v)
  | .nilCheck x => do
    let x ← compX x
    some (.nilck x)
  | .binOp op t x y _ => do
    let x ← compX x
    let y ← compX y
    match P.underlying t with
    | some .bool => some (.bin op true x y)
    | some (.int _) => some (.bin op false x y)
    | some .string => some (.bin op false x y)
    | _ => none
  | .unOp op _ x => do
    let x ← compX x
    some (.un op x)
  | .convert src dst x => do
    let x ← compX x
    match P.underlying src, P.underlying dst with
    | some (.int _), some (.int k) => some (.conv k x)
    | some (.slice e), some .string => (match P.underlying e with
      | some (.int .u8) => some (.toStr x)
      | _ => none)
    | _, _ => none
  | .makeSlice t l c => do
    let e ← elemOfSlice P t
    let i ← P.info? e
    let z ← zeroOf P e
    let l ← compX l
    let c ← compX c
    if 0 < i.size then some (.mk i.size e i.bytes z l c) else none
  | .slice t x lo hi none => do
    let x ← compX x
    let lo ← compOX lo
    let hi ← compOX hi
    match P.underlying t with
    | some .string => some (.sls x lo hi)
    | some (.slice e) => do
      let i ← P.info? e
      some (.slc i.size x lo hi)
    | _ => none
  | .fieldAddr t x f => do
    let fs ← fieldsOf P t
    let fl ← fs[f]?
    let i ← P.info? fl.type
    let x ← compX x
    if 0 < i.size then some (.fadr fl.offset x) else none
  | .field t x f => do
    let fs ← fieldsOf P t
    let fl ← fs[f]?
    let i ← P.info? fl.type
    let agg ← aggB P fl.type
    let x ← compX x
    some (.fld fl.offset agg i.size x)
  | .indexAddr t x i => do
    let e ← elemOfSlice P t
    let info ← P.info? e
    let x ← compX x
    let i ← compX i
    some (.iadr info.size x i)
  | .index t x i => do
    let x ← compX x
    let i ← compX i
    match P.underlying t with
    | some .string => some (.sidx x i)
    | _ => none
  | .extract x i => do
    let x ← compX x
    some (.ext x i)
  | .call { callee := .value (.func f), args, argTypes := _ } => do
    let xs ← compXs args.toList
    some (if sharedF f then .callS f xs else .call f xs)
  | .call { callee := .builtin b, args, argTypes } => do
    let xs ← compXs args.toList
    match b, xs, argTypes.toList with
    | .len, [x], [t] => (match P.underlying t with
      | some .string => some (.len true x)
      | some (.slice _) => some (.len false x)
      | _ => none)
    | .append, [x, y], [t, t'] => do
      let e ← elemOfSlice P t
      let i ← P.info? e
      let _ ← zeroOf P e
      (match P.underlying t' with
      | some (.slice _) => if 0 < i.size then some (.app i.size e i.bytes x y) else none
      | some .string => if 0 < i.size then some (.app i.size e i.bytes x y) else none
      | _ => none)
    | .copy, [x, y], [t, _] => do
      let e ← elemOfSlice P t
      let i ← P.info? e
      if 0 < i.size then some (.cpy i.size x y) else none
    | .max, [x, y], _ => some (.mx x y)
    | .min, [x, y], _ => some (.mn x y)
    | _, _, _ => none
  | _ => none

def dstOk (nt : Nat) : Option Tmp → Bool
  | none => true
  | some t => decide (t < nt)

def compInst (P : Program) (sharedF : Nat → Bool) (nt : Nat) (ops : Array Oper) (o : Oper) : Option Inst := do
  let i ← compOp P sharedF o.op
  if dstOk nt o.dst = false then none else
  match o.guard with
  | none => some ⟨o.dst, i, none⟩
  | some (j, want) => do
    let g ← ops[j]?
    let t ← g.dst
    some ⟨o.dst, i, some (t, want)⟩

def compInsts (P : Program) (sharedF : Nat → Bool) (nt : Nat) (ops : Array Oper) : List Oper → Option (List Inst)
  | [] => some []
  | o :: os => do
    let i ← compInst P sharedF nt ops o
    let is ← compInsts P sharedF nt ops os
    some (i :: is)

/-- of each operation those that it waits for, near and far -/
def waits (acc : List (List Nat)) : List Oper → List (List Nat)
  | [] => acc
  | o :: os => waits (acc ++ [o.after.toList.flatMap fun e => if Region.binds .any e then e.on :: acc.getD e.on [] else []]) os

def freeOf (bs : List (List Nat)) : List (Nat × Nat) :=
  (List.range bs.length).flatMap fun j => ((List.range j).filter fun i => !(bs.getD j []).contains i).map fun i => (i, j)

/-- every operation waits for earlier ones alone -/
def downB : Nat → List Oper → Bool
  | _, [] => true
  | k, o :: os => (o.after.toList.all fun e => !Region.binds .any e || decide (e.on < k)) && downB (k + 1) os

def noShared : List Inst → Bool
  | [] => true
  | i :: is => (match i.ins with | .callS _ _ => false | _ => true) && noShared is

def comp (P : Program) (sharedF : Nat → Bool) (nt : Nat) : Code → List (List Nat) → Option (ICode × List (List Nat))
  | .skip, an => some (.skip, an)
  | .ret, an => some (.ret, an)
  | .exit id, an => some (.exit id, an)
  | .region _ ops false, an => do
    let is ← compInsts P sharedF nt ops ops.toList
    match an with
    | live :: an => some (.region is live, an)
    | [] => none
  | .region _ ops true, an => do
    let is ← compInsts P sharedF nt ops ops.toList
    match an with
    | live :: an => if noShared is ∧ downB 0 ops.toList = true then some (.draw is (freeOf (waits [] ops.toList)) live, an) else none
    | [] => none
  | .seq a b, an => do
    let (a, an) ← comp P sharedF nt a an
    let (b, an) ← comp P sharedF nt b an
    some (.seq a b, an)
  | .cond c a b, an => do
    let c ← compX c
    let (a, an) ← comp P sharedF nt a an
    let (b, an) ← comp P sharedF nt b an
    some (.cond c a b, an)
  | .block id c, an => do
    let (c, an) ← comp P sharedF nt c an
    some (.block id c, an)
  | .loop c, an => do
    match an with
    | keep :: an => do
      let (c, an) ← comp P sharedF nt c an
      some (.loop keep c, an)
    | [] => none
  | _, _ => none

def compRes (P : Program) : List ResultVar → Option (List Res)
  | [] => some []
  | .tmp t :: r => do
    let rs ← compRes P r
    some (.tmp t :: rs)
  | .cell a t :: r => do
    let agg ← aggB P t
    let i ← P.info? t
    let rs ← compRes P r
    some (.cell a agg i.size :: rs)

def compFn (P : Program) (sharedF : Nat → Bool) (an : List (List Nat)) (fn : Func) : Option IFunc := do
  let c ← fn.body
  let (c, _) ← comp P sharedF fn.ntmps c an
  let rs ← compRes P fn.results.toList
  if fn.nfree = 0 ∧ fn.params.size ≤ fn.ntmps then some ⟨fn.params.size, rs, c⟩ else none

end Go.Ev
