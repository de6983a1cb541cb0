/-
  The evaluator of plain data: what a function of the program's own small fragment computes, said without a heap, an order or a tape. Definitions alone; nothing is claimed here.
-/
import GoSem.Core.View
set_option linter.unusedVariables false
set_option linter.unusedSimpArgs false
namespace Go.Ez

/-- A cell's content: a value without an address, or an immutable slice (the empty one may be nil). -/
inductive C where
  | lit (v : Value)
  | slice (cells : List C) (n : Nat)

/-- An argument or a result. -/
inductive V where
  | one (c : C)
  | agg (cs : List C)

/-- What a temporary holds. -/
inductive D where
  | unk
  | c (x : C)
  | loc (id off : Nat)
  | arr (id off len : Nat)
  | ptr (cs : List C)
  /-- an immutable slice without spare room; the empty one may be nil -/
  | full (cs : List C) (n : Nat)
  /-- a function and the variables that it captures: pointers into boxes -/
  | clo (f : Nat) (caps : List (Nat × Nat))
  | agg (ds : List D)
  | tup (ds : List D)

/-- What a call has made itself. -/
inductive Obj where
  | dead
  | box (ds : List D)
  | arr (cs : List C) (esz fz ety : Nat)
  /-- a row whose cells may be objects themselves -/
  | rows (ds : List D) (esz ety : Nat)

abbrev Env := List (Nat × D)
abbrev Heap := List (Nat × Obj)

def getE : Env → Nat → D
  | [], _ => .unk
  | (t', d) :: r, t => if t' = t then d else getE r t

def getH : Heap → Nat → Obj
  | [], _ => .dead
  | (i', o) :: r, i => if i' = i then o else getH r i

def updH (h : Heap) : List (Nat × Obj) → Heap
  | [] => h
  | u :: us => updH (u :: h) us

def scalar : Value → Bool
  | .int _ _ | .bool _ | .float _ _ | .complex _ _ _ | .string _ | .pointer none | .map none | .nilFunc | .nilIface => true
  | _ => false

/-- a literal's cell -/
def litC : Value → C
  | .slice none 0 0 => .slice [] 0
  | v => .lit v

/-- a zero value's cell in a variable -/
def litD : Value → D
  | .slice none 0 0 => .full [] 0
  | v => .c (.lit v)

inductive X where
  | t (n : Nat)
  | k (v : Value)
  | f (n : Nat)

inductive Ins where
  | mov (x : X)
  | pick (c a b : X)
  | alloc (zero : List Value)
  | box (x : X)
  | build (zero : List Value) (parts : List (Nat × Nat × X))
  | lits (esz ety len : Nat) (zero : List Value) (parts : List (Nat × Nat × X))
  | load (agg : Bool) (size : Nat) (x : X)
  | store (size : Nat) (a v : X)
  | nilck (x : X)
  | bin (op : BinOp) (isB : Bool) (x y : X)
  | eqs (ks : List Nat) (neg : Bool) (x y : X)
  | un (op : UnOp) (x : X)
  | conv (k : IntKind) (x : X)
  | toStr (x : X)
  | mk (esz ety bytes : Nat) (zero : List Value) (l c : X)
  | slc (esz : Nat) (x : X) (lo hi : Option X)
  | clip (esz : Nat) (x : X) (lo : Option X) (hi mx : X)
  | sls (x : X) (lo hi : Option X)
  | fadr (off : Nat) (x : X)
  | fld (off : Nat) (agg : Bool) (size : Nat) (x : X)
  | iadr (esz : Nat) (x i : X)
  | sidx (x i : X)
  | ext (x : X) (i : Nat)
  | len (isStr : Bool) (x : X)
  | app (esz ety bytes : Nat) (x y : X)
  | cpy (esz : Nat) (x y : X)
  | mx (x y : X)
  | mn (x y : X)
  | mkf (f : Nat) (caps : List X)
  | call (f : Nat) (args : List X)
  | callS (f : Nat) (own : Bool) (args : List X)
  | callV (x : X) (args : List X)

structure Inst where
  dst : Option Nat
  ins : Ins
  /-- the temporary of the guard, and what it must hold -/
  guard : Option (Nat × Bool)

inductive ICode where
  | skip
  | region (is : List Inst)
  | draw (is : List Inst) (ws : List Nat)
  | seq (a b : ICode)
  | cond (c : X) (a b : ICode)
  | block (id : Nat) (c : ICode)
  | loop (c : ICode)
  | exit (id : Nat)
  | ret

inductive Res where
  | tmp (t : Nat)
  | cell (t : Nat) (agg : Bool) (size : Nat)

structure IFunc where
  nparams : Nat
  res : List Res
  body : ICode

inductive Ex where
  | normal
  | exit (id : Nat)
  | ret

/- ### operators on literals -/

def intBin (op : BinOp) (k : IntKind) (a b : Int) : Option Value :=
  match op with
  | .add => some (.int k (k.wrap (a + b)))
  | .sub => some (.int k (k.wrap (a - b)))
  | .mul => some (.int k (k.wrap (a * b)))
  | .quo => if b = 0 then none else some (.int k (k.wrap (a.tdiv b)))
  | .rem => if b = 0 then none else some (.int k (a.tmod b))
  | .and => some (.int k (k.wrap (BitVec.ofInt k.bits a &&& BitVec.ofInt k.bits b).toNat))
  | .or => some (.int k (k.wrap (BitVec.ofInt k.bits a ||| BitVec.ofInt k.bits b).toNat))
  | .xor => some (.int k (k.wrap (BitVec.ofInt k.bits a ^^^ BitVec.ofInt k.bits b).toNat))
  | .andNot => some (.int k (k.wrap (BitVec.ofInt k.bits a &&& ~~~ BitVec.ofInt k.bits b).toNat))
  | .eql => some (.bool (a == b))
  | .neq => some (.bool (a != b))
  | .lss => some (.bool (decide (a < b)))
  | .leq => some (.bool (decide (a ≤ b)))
  | .gtr => some (.bool (decide (a > b)))
  | .geq => some (.bool (decide (a ≥ b)))
  | _ => none

def shiftBin (op : BinOp) (k : IntKind) (a b : Int) : Option Value :=
  if b < 0 then none else
  match op with
  | .shl => some (.int k (k.wrap (a * 2 ^ (min b.toNat k.bits))))
  | .shr => some (.int k (a.fdiv (2 ^ (min b.toNat k.bits))))
  | _ => none

def isShift : BinOp → Bool
  | .shl | .shr => true
  | _ => false

/-- strings: equality alone -/
def strBin (op : BinOp) (a b : ByteArray) : Option Value :=
  match op with
  | .eql => some (.bool (a.toList == b.toList))
  | .neq => some (.bool !(a.toList == b.toList))
  | _ => none

def binV (op : BinOp) : Value → Value → Option Value
  | .int k a, .int k' b => if isShift op then shiftBin op k a b else if k = k' then intBin op k a b else none
  | .string a, .string b => strBin op a b
  | _, _ => none

def boolV (op : BinOp) : Value → Value → Option Value
  | .bool a, .bool b => (match op with
    | .eql => some (.bool (a == b))
    | .neq => some (.bool !(a == b))
    | _ => none)
  | _, _ => none

def unV (op : UnOp) : Value → Option Value
  | .int k a => (match op with
    | .neg => some (.int k (k.wrap (0 - a)))
    | .xor => some (.int k (k.wrap (BitVec.ofInt k.bits (if k.signed then -1 else k.max) ^^^ BitVec.ofInt k.bits a).toNat))
    | _ => none)
  | .bool b => (match op with
    | .not => some (.bool !b)
    | _ => none)
  | _ => none

/-- cells of a known kind (0: a number, 1: a string, 2: a bool): equal? -/
def eqC : Nat → C → C → Option Bool
  | 0, .lit (.int k a), .lit (.int k' b) => if k = k' then some (a == b) else none
  | 1, .lit (.string a), .lit (.string b) => some (a.toList == b.toList)
  | 2, .lit (.bool a), .lit (.bool b) => some (a == b)
  | _, _, _ => none

/-- structs of such cells: equal cell by cell -/
def eqDs : List Nat → List D → List D → Option Bool
  | [], [], [] => some true
  | k :: ks, .c a :: as, .c b :: bs => do
    let x ← eqC k a b
    let y ← eqDs ks as bs
    some (x && y)
  | _, _, _ => none

def eqsD (ks : List Nat) (neg : Bool) : D → D → Option D
  | .agg as, .agg bs => (eqDs ks as bs).map fun b => .c (.lit (.bool (if neg then !b else b)))
  | _, _ => none

def asLit : D → Option Value
  | .c (.lit v) => some v
  | _ => none

def asInt : D → Option Int
  | .c (.lit (.int _ n)) => some n
  | _ => none

def asBool : D → Option Bool
  | .c (.lit (.bool b)) => some b
  | _ => none

def dInt (n : Int) : D := .c (.lit (.int .i64 n))

/- ### freezing: what leaves the call's own memory -/

def frz1 (h : Heap) : D → Option (C × List (Nat × Obj))
  | .c x => some (x, [])
  | .full cs n => some (.slice cs n, [])
  | .arr id off len =>
    match getH h id with
    | .arr cs esz fz ety =>
      if off + len * esz ≤ cs.length then
        some (.slice ((cs.drop off).take (len * esz)) len, if off + len * esz ≤ fz then [] else [(id, .arr cs esz (off + len * esz) ety)])
      else none
    | _ => none
  | _ => none

def frzL1 (h : Heap) : List D → Option (List C × List (Nat × Obj))
  | [] => some ([], [])
  | d :: ds => do
    let (c, u) ← frz1 h d
    let (cs, us) ← frzL1 (updH h u) ds
    some (c :: cs, u ++ us)

/-- rows first become arrays of immutable cells -/
def frz (h : Heap) : D → Option (C × List (Nat × Obj))
  | .arr id off len =>
    match getH h id with
    | .rows ds esz ety => do
      let (cs, us) ← frzL1 h ds
      let (c, vs) ← frz1 (updH h (us ++ [(id, .arr cs esz 0 ety)])) (.arr id off len)
      some (c, (us ++ [(id, .arr cs esz 0 ety)]) ++ vs)
    | _ => frz1 h (.arr id off len)
  | d => frz1 h d

def frzL (h : Heap) : List D → Option (List C × List (Nat × Obj))
  | [] => some ([], [])
  | d :: ds => do
    let (c, u) ← frz h d
    let (cs, us) ← frzL (updH h u) ds
    some (c :: cs, u ++ us)

def frzV (h : Heap) : D → Option (V × List (Nat × Obj))
  | .agg ds => do
    let (cs, us) ← frzL h ds
    some (.agg cs, us)
  | d => do
    let (c, u) ← frz h d
    some (.one c, u)

def frzVs (h : Heap) : List D → Option (List V × List (Nat × Obj))
  | [] => some ([], [])
  | d :: ds => do
    let (v, u) ← frzV h d
    let (vs, us) ← frzVs (updH h u) ds
    some (v :: vs, u ++ us)

def V.toD : V → D
  | .one c => .c c
  | .agg cs => .agg (cs.map .c)

def retD : List V → D
  | [v] => v.toD
  | vs => .tup (vs.map V.toD)

def V.cells : V → List C
  | .one c => [c]
  | .agg cs => cs

/-- the cells of a value that is stored into a box -/
def isCell : D → Bool
  | .c _ | .loc _ _ | .arr _ _ _ | .ptr _ | .full _ _ | .clo _ _ => true
  | _ => false

def cellsD : D → Option (List D)
  | .agg ds => if ds.all isCell then some ds else none
  | d => if isCell d then some [d] else none

def splice {α : Type} (l : List α) (off : Nat) (xs : List α) : List α := l.take off ++ xs ++ l.drop (off + xs.length)

def fillP (ρ : X → D) : List D → List (Nat × Nat × X) → Option (List D)
  | cs, [] => some cs
  | cs, (off, size, x) :: r => do
    let ds ← cellsD (ρ x)
    if ds.length = size ∧ off + size ≤ cs.length then fillP ρ (splice cs off ds) r else none

/-- the cells and the number of elements that append and copy take -/
def srcOf (h : Heap) (esz : Nat) : D → Option (List C × Nat)
  | .full cs n => if cs.length = n * esz then some (cs, n) else none
  | .c (.slice cs n) => if cs.length = n * esz then some (cs, n) else none
  | .c (.lit (.string s)) => if esz = 1 then some (s.data.toList.map fun b => .lit (.int .u8 b.toNat), s.size) else none
  | .arr id off len =>
    match getH h id with
    | .arr cs esz' _ _ => if esz' = esz ∧ off + len * esz ≤ cs.length then some ((cs.drop off).take (len * esz), len) else none
    | _ => none
  | _ => none

/-- the bytes of a slice, not of a string -/
def srcB (h : Heap) : D → Option (List C × Nat)
  | .c (.lit (.string _)) => none
  | d => srcOf h 1 d

def bytesOf : List C → Option (List UInt8)
  | [] => some []
  | .lit (.int .u8 n) :: r => do
    let bs ← bytesOf r
    some (UInt8.ofNat n.toNat :: bs)
  | _ => none

def zeros (zero : List Value) : Nat → List C
  | 0 => []
  | n + 1 => zero.map litC ++ zeros zero n

def roomMax : Nat := 140737488355328

/-- elements that hold slices -/
def rowsy : List Value → Bool
  | [] => false
  | .slice none 0 0 :: _ => true
  | _ :: r => rowsy r

abbrev Stepped := Option (D × List (Nat × Obj))

def pureD (d : Option D) : Stepped := d.map fun x => (x, [])

def loadD (h : Heap) (agg : Bool) (size : Nat) : D → Option D
  | .loc id off =>
    match getH h id with
    | .box ds => if agg then (if off + size ≤ ds.length then some (.agg ((ds.drop off).take size)) else none) else ds[off]?
    | .arr cs _ _ _ => if agg then (if off + size ≤ cs.length then some (.agg (((cs.drop off).take size).map .c)) else none) else (cs[off]?).map .c
    | .rows ds _ _ => if agg then (if off + size ≤ ds.length then some (.agg ((ds.drop off).take size)) else none) else ds[off]?
    | .dead => none
  | .ptr cs => if agg then (if size ≤ cs.length then some (.agg ((cs.take size).map .c)) else none) else (cs[0]?).map .c
  | _ => none

def storeD (h : Heap) (size : Nat) (v : D) : D → Stepped
  | .loc id off =>
    match getH h id with
    | .box ds => do
      let xs ← cellsD v
      if xs.length = size ∧ off + size ≤ ds.length then some (.unk, [(id, .box (splice ds off xs))]) else none
    | .arr _ _ _ _ => do
      let (x, us) ← frzV h v
      match getH (updH h us) id with
      | .arr cs esz fz ety =>
        if x.cells.length = size ∧ off + size ≤ cs.length ∧ fz ≤ off then some (.unk, us ++ [(id, .arr (splice cs off x.cells) esz fz ety)]) else none
      | _ => none
    | .rows ds esz ety => do
      let xs ← cellsD v
      if xs.length = size ∧ off + size ≤ ds.length then some (.unk, [(id, .rows (splice ds off xs) esz ety)]) else none
    | .dead => none
  | _ => none

def loOf (lo : Option D) : Option Nat :=
  match lo with
  | none => some 0
  | some d => do
    let n ← asInt d
    if 0 ≤ n then some n.toNat else none

def hiOf (len : Nat) (hi : Option D) : Option Nat :=
  match hi with
  | none => some len
  | some d => do
    let n ← asInt d
    if 0 ≤ n then some n.toNat else none

/-- the cells of an immutable slice's part -/
def cutC (esz : Nat) (cs : List C) (n : Nat) (lo hi : Option D) : Option (List C × Nat) := do
  let l ← loOf lo
  let r ← hiOf n hi
  if l ≤ r ∧ r ≤ n then some ((cs.drop (l * esz)).take ((r - l) * esz), r - l) else none

def slcD (h : Heap) (esz : Nat) (lo hi : Option D) : D → Option D
  | .c (.slice cs n) => do
    let (xs, k) ← cutC esz cs n lo hi
    some (.c (.slice xs k))
  | .full cs n => do
    let (xs, k) ← cutC esz cs n lo hi
    some (.c (.slice xs k))
  | .arr id off len =>
    match getH h id with
    | .arr _ esz' _ _ => do
      let l ← loOf lo
      let r ← hiOf len hi
      if esz' = esz ∧ l ≤ r ∧ r ≤ len then some (.arr id (off + l * esz) (r - l)) else none
    | _ => none
  | _ => none

/-- s[lo:hi:hi]: without spare room -/
def clipD (h : Heap) (esz : Nat) (lo : Option D) (hi mx d : D) : Stepped := do
  let a ← asInt hi
  let b ← asInt mx
  let (c, us) ← frz h d
  match c with
  | .slice cs n => do
    let (xs, k) ← cutC esz cs n lo (some hi)
    if a = b then some (.full xs k, us) else none
  | _ => none

def slsD (lo hi : Option D) : D → Option D
  | .c (.lit (.string s)) => do
    let l ← loOf lo
    let r ← hiOf s.size hi
    if l ≤ r ∧ r ≤ s.size then some (.c (.lit (.string (s.extract l r)))) else none
  | _ => none

def iadrD (h : Heap) (esz : Nat) (i : D) : D → Option D
  | .arr id off len =>
    match getH h id with
    | .arr _ _ _ _ => do
      let n ← asInt i
      if 0 ≤ n ∧ n < len then some (.loc id (off + n.toNat * esz)) else none
    | .rows _ _ _ => do
      let n ← asInt i
      if 0 ≤ n ∧ n < len then some (.loc id (off + n.toNat * esz)) else none
    | _ => none
  | .c (.slice cs m) => do
    let n ← asInt i
    if 0 ≤ n ∧ n < m then some (.ptr (cs.drop (n.toNat * esz))) else none
  | .full cs m => do
    let n ← asInt i
    if 0 ≤ n ∧ n < m then some (.ptr (cs.drop (n.toNat * esz))) else none
  | _ => none

def lenD (isStr : Bool) : D → Option D
  | .arr _ _ len => if isStr then none else some (dInt len)
  | .c (.slice _ n) => if isStr then none else some (dInt n)
  | .full _ n => if isStr then none else some (dInt n)
  | .c (.lit (.string s)) => if isStr then some (dInt s.size) else none
  | _ => none

/-- the cells of a source of rows -/
def rowsOf (h : Heap) (esz : Nat) : D → Option (List D × Nat)
  | .arr id off len =>
    match getH h id with
    | .rows ds esz' _ => if esz' = esz ∧ off + len * esz ≤ ds.length then some ((ds.drop off).take (len * esz), len) else none
    | _ => none
  | _ => none

/-- append of rows to nothing, or to rows -/
def appR (h : Heap) (slot esz ety bytes : Nat) (ys : List D) (n : Nat) : D → Stepped
  | .full [] 0 => if ys.length = n * esz ∧ n * bytes ≤ roomMax ∧ 0 < esz ∧ n ≤ roomMax ∧ 0 < n then some (.arr slot 0 n, [(slot, .rows ys esz ety)]) else none
  | .arr id off len =>
    match getH h id with
    | .rows xs esz' ety' =>
      if ys.length = n * esz ∧ (len + n) * bytes ≤ roomMax ∧ 0 < esz ∧ len + n ≤ roomMax ∧ off = 0 ∧ esz' = esz ∧ ety' = ety ∧ len * esz ≤ xs.length ∧ ys.all isCell = true then
        some (.arr slot 0 (len + n), [(id, .dead), (slot, .rows (xs.take (len * esz) ++ ys) esz ety)])
      else none
    | _ => none
  | _ => none

def appD (h : Heap) (slot esz ety bytes : Nat) (y : D) : D → Stepped
  | .full ds m => do
    let (cs, n) ← srcOf h esz y
    if cs.length = n * esz ∧ ds.length = m * esz ∧ (m + n) * bytes ≤ roomMax ∧ 0 < esz ∧ m + n ≤ roomMax then
      (if n = 0 then some (.full ds m, []) else some (.arr slot 0 (m + n), [(slot, .arr (ds ++ cs) esz 0 ety)]))
    else none
  | .arr id off len =>
    match getH h id with
    | .arr xs esz' fz ety' => do
      let (cs, n) ← srcOf h esz y
      if cs.length = n * esz ∧ (len + n) * bytes ≤ roomMax ∧ 0 < esz ∧ len + n ≤ roomMax ∧ off = 0 ∧ esz' = esz ∧ ety' = ety ∧ fz ≤ len * esz ∧ len * esz ≤ xs.length then
        some (.arr slot 0 (len + n), [(id, .dead), (slot, .arr (xs.take (len * esz) ++ cs) esz fz ety)])
      else none
    | _ => none
  | _ => none

def cpyD (h : Heap) (esz : Nat) (y : D) : D → Stepped
  | .arr id off len =>
    match getH h id with
    | .arr xs esz' fz ety => do
      let (cs, n) ← srcOf h esz y
      if cs.length = n * esz ∧ esz' = esz ∧ fz ≤ off ∧ off + len * esz ≤ xs.length then
        some (dInt (min n len : Nat), [(id, .arr (splice xs off (cs.take (min n len * esz))) esz fz ety)])
      else none
    | _ => none
  | _ => none

def minmax (isMax : Bool) : Value → Value → Option Value
  | .int k x, .int _ y => some (.int k (if isMax then (if y > x then y else x) else (if y < x then y else x)))
  | _, _ => none

def capsOf (ρ : X → D) : List X → Option (List (Nat × Nat))
  | [] => some []
  | x :: xs => match ρ x with
    | .loc id off => do
      let r ← capsOf ρ xs
      some ((id, off) :: r)
    | _ => none

/-- One operation that calls nothing: its value, and what becomes of the call's own memory. -/
def step (ρ : X → D) (h : Heap) (slot : Nat) : Ins → Stepped
  | .mov x => pureD (some (ρ x))
  | .pick c a b => pureD (do
      let t ← asBool (ρ c)
      some (if t then ρ a else ρ b))
  | .alloc zero => some (.loc slot 0, [(slot, .box (zero.map litD))])
  | .box x => do
    let ds ← cellsD (ρ x)
    some (.loc slot 0, [(slot, .box ds)])
  | .build zero parts => pureD (do
      let ds ← fillP ρ (zero.map litD) parts
      some (.agg ds))
  | .lits esz ety len zero parts => do
    let ds ← fillP ρ ((zeros zero len).map .c) parts
    if rowsy zero then
      if ds.length = len * esz ∧ len ≤ roomMax then some (.arr slot 0 len, [(slot, .rows ds esz ety)]) else none
    else do
      let (cs, us) ← frzL h ds
      if cs.length = len * esz ∧ len ≤ roomMax then some (.arr slot 0 len, us ++ [(slot, .arr cs esz 0 ety)]) else none
  | .load agg size x => pureD (loadD h agg size (ρ x))
  | .store size a v => storeD h size (ρ v) (ρ a)
  | .nilck x => (match ρ x with
    | .loc id off => some (.loc id off, [])
    | .ptr cs => some (.ptr cs, [])
    | _ => none)
  | .bin op isB x y => pureD (do
      let a ← asLit (ρ x)
      let b ← asLit (ρ y)
      (if isB then boolV op a b else binV op a b).map fun v => .c (.lit v))
  | .eqs ks neg x y => pureD (eqsD ks neg (ρ x) (ρ y))
  | .un op x => pureD (do
      let a ← asLit (ρ x)
      (unV op a).map fun v => .c (.lit v))
  | .conv k x => pureD (do
      let n ← asInt (ρ x)
      some (.c (.lit (.int k (k.wrap n)))))
  | .toStr x => pureD (do
      let (cs, n) ← srcB h (ρ x)
      let bs ← bytesOf cs
      if cs.length = n then some (.c (.lit (.string ⟨bs.toArray⟩))) else none)
  | .mk esz ety bytes zero l c => do
    let n ← asInt (ρ l)
    let m ← asInt (ρ c)
    if 0 ≤ n ∧ n ≤ m ∧ m.toNat * bytes ≤ roomMax ∧ m.toNat ≤ roomMax ∧ zero.length = esz then some (.arr slot 0 n.toNat, [(slot, .arr (zeros zero n.toNat) esz 0 ety)]) else none
  | .slc esz x lo hi => pureD (slcD h esz (lo.map ρ) (hi.map ρ) (ρ x))
  | .clip esz x lo hi mx => clipD h esz (lo.map ρ) (ρ hi) (ρ mx) (ρ x)
  | .sls x lo hi => pureD (slsD (lo.map ρ) (hi.map ρ) (ρ x))
  | .fadr off x => (match ρ x with
    | .loc id o => some (.loc id (o + off), [])
    | .ptr cs => some (.ptr (cs.drop off), [])
    | _ => none)
  | .fld off agg size x => (match ρ x with
    | .agg ds => if agg then (if off + size ≤ ds.length then some (.agg ((ds.drop off).take size), []) else none) else pureD ds[off]?
    | _ => none)
  | .iadr esz x i => pureD (iadrD h esz (ρ i) (ρ x))
  | .sidx x i => pureD (match ρ x with
    | .c (.lit (.string s)) => do
      let n ← asInt (ρ i)
      if 0 ≤ n then (s.data[n.toNat]?).map fun b => .c (.lit (.int .u8 b.toNat)) else none
    | _ => none)
  | .ext x i => pureD (match ρ x with
    | .tup ds => ds[i]?
    | _ => none)
  | .len isStr x => pureD (lenD isStr (ρ x))
  | .app esz ety bytes x y => (match rowsOf h esz (ρ y) with
    | some (ys, n) => appR h slot esz ety bytes ys n (ρ x)
    | none => appD h slot esz ety bytes (ρ y) (ρ x))
  | .cpy esz x y => cpyD h esz (ρ y) (ρ x)
  | .mx x y => pureD (do
      let a ← asLit (ρ x)
      let b ← asLit (ρ y)
      (minmax true a b).map fun v => .c (.lit v))
  | .mn x y => pureD (do
      let a ← asLit (ρ x)
      let b ← asLit (ρ y)
      (minmax false a b).map fun v => .c (.lit v))
  | .mkf f xs => pureD (do
      let ls ← capsOf ρ xs
      some (.clo f ls))
  | .call _ _ => none
  | .callS _ _ _ => none
  | .callV _ _ => none

def evX (e : Env) : X → D
  | .t n => getE e n
  | .k v => if scalar v then .c (.lit v) else (match v with | .slice none 0 0 => .full [] 0 | _ => .unk)
  | .f n => .clo n []

def putE (e : Env) (dst : Option Nat) (d : D) : Env :=
  match dst with
  | some t => (t, d) :: e
  | none => e

/-- Is the operation carried out? (none: it cannot be told) -/
def wanted (e : Env) : Option (Nat × Bool) → Option Bool
  | none => some true
  | some (t, want) => (match getE e t with
    | .c (.lit (.bool b)) => some (b == want)
    | .tup [] => some false
    | _ => none)

structure St where
  env : Env
  heap : Heap
  nx : Nat

def undefD : D := .tup []

/- ### drawn regions: the cells of the call's own memory that an operation touches -/

def arrIds : List D → List Nat
  | [] => []
  | .arr id _ _ :: ds => id :: arrIds ds
  | _ :: ds => arrIds ds

def ids1 (h : Heap) : D → List Nat
  | .arr id _ _ => id :: (match getH h id with | .rows ds _ _ => arrIds ds | _ => [])
  | _ => []

def frzIds (h : Heap) : D → List Nat
  | .agg ds => ds.flatMap (ids1 h)
  | d => ids1 h d

def touches (h : Heap) (ρ : X → D) : Ins → List Nat
  | .load _ _ x => (match ρ x with | .loc id _ => [id] | _ => [])
  | .store _ a v => (match ρ a with | .loc id _ => [id] | _ => []) ++ frzIds h (ρ v)
  | .lits _ _ _ _ ps => ps.flatMap fun p => frzIds h (ρ p.2.2)
  | .toStr x => frzIds h (ρ x)
  | .slc _ x _ _ => frzIds h (ρ x)
  | .clip _ x _ _ _ => frzIds h (ρ x)
  | .iadr _ x _ => frzIds h (ρ x)
  | .app _ _ _ x y => frzIds h (ρ x) ++ frzIds h (ρ y)
  | .cpy _ x y => frzIds h (ρ x) ++ frzIds h (ρ y)
  | .call _ xs => xs.flatMap fun x => frzIds h (ρ x)
  | _ => []

def opX : Ins → List X
  | .mov x | .box x | .load _ _ x | .nilck x | .un _ x | .conv _ x | .toStr x | .fadr _ x | .fld _ _ _ x | .ext x _ | .len _ x => [x]
  | .pick c a b => [c, a, b]
  | .alloc _ => []
  | .build _ ps | .lits _ _ _ _ ps => ps.map (·.2.2)
  | .store _ a v | .bin _ _ a v | .eqs _ _ a v | .mk _ _ _ _ a v | .iadr _ a v | .sidx a v | .app _ _ _ a v | .cpy _ a v | .mx a v | .mn a v => [a, v]
  | .slc _ x lo hi | .sls x lo hi => x :: lo.toList ++ hi.toList
  | .clip _ x lo hi mx => x :: lo.toList ++ [hi, mx]
  | .mkf _ xs | .call _ xs | .callS _ _ xs => xs
  | .callV x xs => x :: xs

def tmpsX (xs : List X) : List Nat := xs.filterMap fun | .t n => some n | _ => none

/-- what is known of an operation of a drawn region once it has been carried out -/
structure Trace where
  rdT : List Nat
  wrT : List Nat
  rdH : List Nat
  wrH : List Nat

def meets (a b : List Nat) : Bool := a.any fun x => b.contains x

def clash (a b : Trace) : Bool :=
  meets a.wrT (b.rdT ++ b.wrT) || meets b.wrT a.rdT || meets a.wrH (b.rdH ++ b.wrH) || meets b.wrH a.rdH

abbrev Callee := Nat → List V → Option (List V)

/-- One operation (no shared call): frozen calls go through 'call'. -/
def stepC (call : Callee) (ρ : X → D) (h : Heap) (slot : Nat) : Ins → Stepped
  | .call f xs => do
    let (vs, us) ← frzVs h (xs.map ρ)
    let rs ← call f vs
    some (retD rs, us)
  | i => step ρ h slot i

def tupD : List D → D
  | [d] => d
  | ds => .tup ds

/-- a call that runs in the caller's memory: the function, the arguments, the heap, the next number -/
abbrev Lender := Nat → List D → Heap → Nat → Option (List D × Heap × Nat)

/-- arrays that are handed over become immutable, all else stays -/
def frzA (h : Heap) : D → Option (D × List (Nat × Obj))
  | .arr id off len => do
    let (c, us) ← frz h (.arr id off len)
    some (.c c, us)
  | d => some (d, [])

def frzAs (h : Heap) : List D → Option (List D × List (Nat × Obj))
  | [] => some ([], [])
  | d :: ds => do
    let (x, u) ← frzA h d
    let (xs, us) ← frzAs (updH h u) ds
    some (x :: xs, u ++ us)

def frzD (h : Heap) : D → Option (D × List (Nat × Obj))
  | .agg ds => do
    let (xs, us) ← frzAs h ds
    some (.agg xs, us)
  | d => frzA h d

def frzDs (h : Heap) : List D → Option (List D × List (Nat × Obj))
  | [] => some ([], [])
  | d :: ds => do
    let (x, u) ← frzD h d
    let (xs, us) ← frzDs (updH h u) ds
    some (x :: xs, u ++ us)

/-- a call in the caller's memory: arrays among the arguments become immutable, and those among the results, unless the caller is to own them -/
def lendC (lend : Lender) (own : Bool) (f : Nat) (ds : List D) (h : Heap) (nx : Nat) : Option (D × Heap × Nat) := do
  let (ds, us) ← frzDs h ds
  let (rs, h', nx') ← lend f ds (updH h us) nx
  if own then some (tupD rs, h', nx') else do
    let (rs, us) ← frzDs h' rs
    some (tupD rs, updH h' us, nx')

def evSeq (call : Callee) (lend : Lender) : List Inst → St → Option St
  | [], s => some s
  | i :: is, s => do
    let w ← wanted s.env i.guard
    if w then
      match i.ins with
      | .callS f own xs => do
        let (d, h, nx) ← lendC lend own f (xs.map (evX s.env)) s.heap s.nx
        evSeq call lend is ⟨putE s.env i.dst d, h, nx⟩
      | .callV x xs =>
        match evX s.env x with
        | .clo f caps => do
          let (d, h, nx) ← lendC lend false f (xs.map (evX s.env) ++ caps.map fun p => .loc p.1 p.2) s.heap s.nx
          evSeq call lend is ⟨putE s.env i.dst d, h, nx⟩
        | _ => none
      | ins => do
        let (d, us) ← stepC call (evX s.env) s.heap s.nx ins
        evSeq call lend is ⟨putE s.env i.dst d, updH s.heap us, s.nx + 1⟩
    else evSeq call lend is ⟨putE s.env i.dst undefD, s.heap, s.nx⟩

def evDraw (call : Callee) (nx : Nat) : Nat → List Inst → Env → Heap → Option (Env × Heap × List Trace)
  | _, [], e, h => some (e, h, [])
  | k, i :: is, e, h => do
    let w ← wanted e i.guard
    let gt : List Nat := match i.guard with | some (t, _) => [t] | none => []
    if w then
      let (d, us) ← stepC call (evX e) h (nx + k) i.ins
      let (e', h', ts) ← evDraw call nx (k + 1) is (putE e i.dst d) (updH h us)
      some (e', h', ⟨gt ++ tmpsX (opX i.ins), i.dst.toList, touches h (evX e) i.ins, us.map (·.1)⟩ :: ts)
    else
      let (e', h', ts) ← evDraw call nx (k + 1) is (putE e i.dst undefD) h
      some (e', h', ⟨gt, i.dst.toList, [], []⟩ :: ts)

/-- b, which waits for those in the mask m, clashes with none of the others -/
def okRow (m : Nat) (b : Trace) : Nat → List Trace → Bool
  | _, [] => true
  | i, a :: as => (m.testBit i || !clash a b) && okRow m b (i + 1) as

def drawFrom (pre : List Trace) : List Trace → List Nat → Bool
  | [], _ => true
  | b :: bs, m :: ms => okRow m b 0 pre && drawFrom (pre ++ [b]) bs ms
  | _ :: _, [] => false

def drawOk (ts : List Trace) (ws : List Nat) : Bool := drawFrom [] ts ws

def bindArgs : Nat → List D → Env
  | _, [] => []
  | k, d :: ds => (k, d) :: bindArgs (k + 1) ds

def resD (e : Env) (h : Heap) : List Res → Option (List D)
  | [] => some []
  | .tmp t :: r => do
    let ds ← resD e h r
    match getE e t with
    | .tup _ => none
    | d => some (d :: ds)
  | .cell t agg size :: r => do
    let d ← loadD h agg size (getE e t)
    let ds ← resD e h r
    some (d :: ds)

/-- the code of the functions, and what is known of others by other means -/
structure Tab where
  code : Nat → Option IFunc
  nat : Nat → List V → Option (List V)

mutual
def evCode (F : Tab) : Nat → ICode → St → Option (Ex × St)
  | 0, _, _ => none
  | n + 1, c, s =>
    match c with
    | .skip => some (.normal, s)
    | .exit id => some (.exit id, s)
    | .ret => some (.ret, s)
    | .region is => do
      let s' ← evSeq (evFn F n) (evBody F n) is s
      some (.normal, s')
    | .draw is ws => do
      let (e, h, ts) ← evDraw (evFn F n) s.nx 0 is s.env s.heap
      if drawOk ts ws then some (.normal, ⟨e, h, s.nx + is.length⟩) else none
    | .seq a b => do
      let (x, s') ← evCode F n a s
      match x with
      | .normal => evCode F n b s'
      | x => some (x, s')
    | .cond c a b => do
      let t ← asBool (evX s.env c)
      evCode F n (if t then a else b) s
    | .block id c => do
      let (x, s') ← evCode F n c s
      match x with
      | .exit id' => if id' = id then some (.normal, s') else some (.exit id', s')
      | x => some (x, s')
    | .loop c => do
      let (x, s') ← evCode F n c s
      match x with
      | .normal => evCode F n (.loop c) s'
      | x => some (x, s')
def evBody (F : Tab) : Nat → Nat → List D → Heap → Nat → Option (List D × Heap × Nat)
  | 0, _, _, _, _ => none
  | n + 1, f, ds, h, k => do
    let I ← F.code f
    if ds.length = I.nparams then
      let (x, s) ← evCode F n I.body ⟨bindArgs 0 ds, h, k⟩
      match x with
      | .exit _ => none
      | _ => do
        let rs ← resD s.env s.heap I.res
        some (rs, s.heap, s.nx)
    else none
def evFn (F : Tab) : Nat → Nat → List V → Option (List V)
  | 0, _, _ => none
  | n + 1, f, vs =>
    match F.nat f vs with
    | some rs => some rs
    | none => do
      let (ds, h, _) ← evBody F n f (vs.map V.toD) [] 0
      let (rs, _) ← frzVs h ds
      some rs
end

end Go.Ez

