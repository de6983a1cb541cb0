/- A part of the proof. -/
import GoSem.Core.View
import GoSem.Op.String
set_option linter.all false
namespace Go.Ey
inductive C where
 |lit (v:Value)
 |slice (cells:List C) (n:Nat)
inductive V where
 |one (c:C)
 |agg (cs:List C)
inductive D where
 |unk
 |c (x:C)
 |loc (id off:Nat)
 |arr (id off len:Nat)
 |ptr (cs:List C)
 |full (cs:List C) (n:Nat)
 |clo (f:Nat) (caps:List (Nat×Nat))
 |mp (id:Nat)
 |agg (ds:List D)
 |tup (ds:List D)
inductive Obj where
 |dead
 |box (ds:List D)
 |arr (cs:List C) (esz fz ety:Nat)
 |map (es:List (V×V))
abbrev Env:=List (Nat×D)
abbrev Heap:=List (Nat×Obj)
def getE:Env→Nat→D
 |[],_=> .unk
 |(t',d)::r,t=>if t'=t then d else getE r t
def getH:Heap→Nat→Obj
 |[],_=> .dead
 |(i',o)::r,i=>if i'=i then o else getH r i
def updH (h:Heap):List (Nat×Obj)→Heap
 |[]=>h
 |u::us=>updH (u::h) us
def scalar:Value→Bool
 |.int _ _|.bool _|.float _ _|.complex _ _ _|.string _|.pointer none|.map none|.nilFunc|.nilIface=>true
 |_=>false
def litC:Value→C
 |.slice none 0 0=> .slice [] 0
 |v=> .lit v
def litD:Value→D
 |.slice none 0 0=> .full [] 0
 |v=> .c (.lit v)
inductive X where
 |t (n:Nat)
 |k (v:Value)
 |f (n:Nat)
inductive Ins where
 |mov (x:X)
 |pick (c a b:X)
 |alloc (zero:List Value)
 |box (x:X)
 |build (zero:List Value) (parts:List (Nat×Nat×X))
 |lits (esz ety len:Nat) (zero:List Value) (parts:List (Nat×Nat×X))
 |load (agg:Bool) (size:Nat) (x:X)
 |store (size:Nat) (a v:X)
 |nilck (x:X)
 |bin (op:BinOp) (isB:Bool) (x y:X)
 |eqs (ks:List Nat) (neg:Bool) (x y:X)
 |un (op:UnOp) (x:X)
 |conv (k:IntKind) (x:X)
 |toStr (x:X)
 |mk (esz ety bytes:Nat) (zero:List Value) (l c:X)
 |slc (esz:Nat) (x:X) (lo hi:Option X)
 |clip (esz:Nat) (x:X) (lo:Option X) (hi mx:X)
 |sls (x:X) (lo hi:Option X)
 |fadr (off:Nat) (x:X)
 |fld (off:Nat) (agg:Bool) (size:Nat) (x:X)
 |iadr (esz:Nat) (x i:X)
 |sidx (x i:X)
 |ext (x:X) (i:Nat)
 |len (isStr:Bool) (x:X)
 |app (esz ety bytes:Nat) (x y:X)
 |cpy (esz:Nat) (x y:X)
 |mx (x y:X)
 |mn (x y:X)
 |mkf (f:Nat) (caps:List X)
 |call (f:Nat) (args:List X)
 |callS (f:Nat) (own:Bool) (args:List X)
 |callL (f:Nat) (args:List X)
 |callV (x:X) (args:List X)
 |mkm
 |mget (kind n:Nat) (agg:Bool) (zero:List Value) (ok:Bool) (x k:X)
 |mput (kind n:Nat) (x k v:X)
structure Inst where
 dst:Option Nat
 ins:Ins
 guard:Option (Nat×Bool)
inductive ICode where
 |skip
 |region (is:List Inst)
 |draw (is:List Inst) (ws:List Nat)
 |seq (a b:ICode)
 |cond (c:X) (a b:ICode)
 |block (id:Nat) (c:ICode)
 |loop (c:ICode)
 |exit (id:Nat)
 |ret
inductive Res where
 |tmp (t:Nat)
 |cell (t:Nat) (agg:Bool) (size:Nat)
structure IFunc where
 nparams:Nat
 res:List Res
 body:ICode
inductive Ex where
 |normal
 |exit (id:Nat)
 |ret
def intBin (op:BinOp) (k:IntKind) (a b:Int):Option Value:=
 match op with
 |.add=>some (.int k (k.wrap (a+b)))
 |.sub=>some (.int k (k.wrap (a - b)))
 |.mul=>some (.int k (k.wrap (a * b)))
 |.quo=>if b=0 then none else some (.int k (k.wrap (a.tdiv b)))
 |.rem=>if b=0 then none else some (.int k (a.tmod b))
 |.and=>some (.int k (k.wrap (BitVec.ofInt k.bits a &&& BitVec.ofInt k.bits b).toNat))
 |.or=>some (.int k (k.wrap (BitVec.ofInt k.bits a|||BitVec.ofInt k.bits b).toNat))
 |.xor=>some (.int k (k.wrap (BitVec.ofInt k.bits a ^^^ BitVec.ofInt k.bits b).toNat))
 |.andNot=>some (.int k (k.wrap (BitVec.ofInt k.bits a &&& ~~~ BitVec.ofInt k.bits b).toNat))
 |.eql=>some (.bool (a==b))
 |.neq=>some (.bool (a !=b))
 |.lss=>some (.bool (decide (a < b)))
 |.leq=>some (.bool (decide (a≤b)))
 |.gtr=>some (.bool (decide (a > b)))
 |.geq=>some (.bool (decide (a≥b)))
 |_=>none
def shiftBin (op:BinOp) (k:IntKind) (a b:Int):Option Value:=
 if b < 0 then none else
 match op with
 |.shl=>some (.int k (k.wrap (a * 2 ^ (min b.toNat k.bits))))
 |.shr=>some (.int k (a.fdiv (2 ^ (min b.toNat k.bits))))
 |_=>none
def isShift:BinOp→Bool
 |.shl|.shr=>true
 |_=>false
def strBin (op:BinOp) (a b:ByteArray):Option Value:=
 match op with
 |.eql=>some (.bool (a.toList==b.toList))
 |.neq=>some (.bool !(a.toList==b.toList))
 |.add=>if a.size+b.size≤140737488355328 then some (.string (a++b)) else none
 |.lss=>some (.bool (Op.bytesLess a.toList b.toList))
 |.gtr=>some (.bool !(Op.bytesLess a.toList b.toList||a.toList==b.toList))
 |_=>none
def binV (op:BinOp):Value→Value→Option Value
 |.int k a,.int k' b=>if isShift op then shiftBin op k a b else if k=k' then intBin op k a b else none
 |.string a,.string b=>strBin op a b
 |_,_=>none
def boolV (op:BinOp):Value→Value→Option Value
 |.bool a,.bool b=>(match op with
  |.eql=>some (.bool (a==b))
  |.neq=>some (.bool !(a==b))
  |_=>none)
 |_,_=>none
def unV (op:UnOp):Value→Option Value
 |.int k a=>(match op with
  |.neg=>some (.int k (k.wrap (0 - a)))
  |.xor=>some (.int k (k.wrap (BitVec.ofInt k.bits (if k.signed then -1 else k.max) ^^^ BitVec.ofInt k.bits a).toNat))
  |_=>none)
 |.bool b=>(match op with
  |.not=>some (.bool !b)
  |_=>none)
 |_=>none
def eqC:Nat→C→C→Option Bool
 |0,.lit (.int k a),.lit (.int k' b)=>if k=k' then some (a==b) else none
 |1,.lit (.string a),.lit (.string b)=>some (a.toList==b.toList)
 |2,.lit (.bool a),.lit (.bool b)=>some (a==b)
 |_,_,_=>none
def eqDs:List Nat→List D→List D→Option Bool
 |[],[],[]=>some true
 |k::ks,.c a::as,.c b::bs=>do
  let x ←eqC k a b
  let y ←eqDs ks as bs
  some (x && y)
 |_,_,_=>none
def eqsD (ks:List Nat) (neg:Bool):D→D→Option D
 |.agg as,.agg bs=>(eqDs ks as bs).map fun b=> .c (.lit (.bool (if neg then !b else b)))
 |_,_=>none
def asLit:D→Option Value
 |.c (.lit v)=>some v
 |_=>none
def asInt:D→Option Int
 |.c (.lit (.int _ n))=>some n
 |_=>none
def asBool:D→Option Bool
 |.c (.lit (.bool b))=>some b
 |_=>none
def dInt (n:Int):D:=.c (.lit (.int .i64 n))
def frz (h:Heap):D→Option (C×List (Nat×Obj))
 |.c x=>some (x,[])
 |.full cs n=>some (.slice cs n,[])
 |.arr id off len=>
  match getH h id with
  |.arr cs esz fz ety=>
   if off+len * esz≤cs.length then
    some (.slice ((cs.drop off).take (len * esz)) len,if off+len * esz≤fz then [] else [(id,.arr cs esz (off+len * esz) ety)])
   else none
  |_=>none
 |_=>none
def frzL (h:Heap):List D→Option (List C×List (Nat×Obj))
 |[]=>some ([],[])
 |d::ds=>do
  let (c,u) ←frz h d
  let (cs,us) ←frzL (updH h u) ds
  some (c::cs,u++us)
def frzV (h:Heap):D→Option (V×List (Nat×Obj))
 |.agg ds=>do
  let (cs,us) ←frzL h ds
  some (.agg cs,us)
 |d=>do
  let (c,u) ←frz h d
  some (.one c,u)
def frzVs (h:Heap):List D→Option (List V×List (Nat×Obj))
 |[]=>some ([],[])
 |d::ds=>do
  let (v,u) ←frzV h d
  let (vs,us) ←frzVs (updH h u) ds
  some (v::vs,u++us)
def V.toD:V→D
 |.one c=> .c c
 |.agg cs=> .agg (cs.map .c)
def retD:List V→D
 |[v]=>v.toD
 |vs=> .tup (vs.map V.toD)
def V.cells:V→List C
 |.one c=>[c]
 |.agg cs=>cs
def isCell:D→Bool
 |.c _|.loc _ _|.arr _ _ _|.ptr _|.full _ _|.clo _ _|.mp _=>true
 |_=>false
def cellsD:D→Option (List D)
 |.agg ds=>if ds.all isCell then some ds else none
 |d=>if isCell d then some [d] else none
def splice {α:Type} (l:List α) (off:Nat) (xs:List α):List α:=l.take off++xs++l.drop (off+xs.length)
def fillP (ρ:X→D):List D→List (Nat×Nat×X)→Option (List D)
 |cs,[]=>some cs
 |cs,(off,size,x)::r=>do
  let ds ←cellsD (ρ x)
  if ds.length=size∧off+size≤cs.length then fillP ρ (splice cs off ds) r else none
def srcOf (h:Heap) (esz:Nat):D→Option (List C×Nat)
 |.full cs n=>if cs.length=n * esz then some (cs,n) else none
 |.c (.slice cs n)=>if cs.length=n * esz then some (cs,n) else none
 |.c (.lit (.string s))=>if esz=1 then some (s.data.toList.map fun b=> .lit (.int .u8 b.toNat),s.size) else none
 |.arr id off len=>
  match getH h id with
  |.arr cs esz' _ _=>if esz'=esz∧off+len * esz≤cs.length then some ((cs.drop off).take (len * esz),len) else none
  |_=>none
 |_=>none
def srcB (h:Heap):D→Option (List C×Nat)
 |.c (.lit (.string _))=>none
 |d=>srcOf h 1 d
def bytesOf:List C→Option (List UInt8)
 |[]=>some []
 |.lit (.int .u8 n)::r=>do
  let bs ←bytesOf r
  some (UInt8.ofNat n.toNat::bs)
 |_=>none
def zeros (zero:List Value):Nat→List C
 |0=>[]
 |n+1=>zero.map litC++zeros zero n
def roomMax:Nat:=140737488355328
abbrev Stepped:=Option (D×List (Nat×Obj))
def pureD (d:Option D):Stepped:=d.map fun x=>(x,[])
def loadD (h:Heap) (agg:Bool) (size:Nat):D→Option D
 |.loc id off=>
  match getH h id with
  |.box ds=>if agg then (if off+size≤ds.length then some (.agg ((ds.drop off).take size)) else none) else ds[off]?
  |.arr cs _ _ _=>if agg then (if off+size≤cs.length then some (.agg (((cs.drop off).take size).map .c)) else none) else (cs[off]?).map .c
  |.map _=>none
  |.dead=>none
 |.ptr cs=>if agg then (if size≤cs.length then some (.agg ((cs.take size).map .c)) else none) else (cs[0]?).map .c
 |_=>none
def storeD (h:Heap) (size:Nat) (v:D):D→Stepped
 |.loc id off=>
  match getH h id with
  |.box ds=>do
   let xs ←cellsD v
   if xs.length=size∧off+size≤ds.length then some (.unk,[(id,.box (splice ds off xs))]) else none
  |.arr _ _ _ _=>do
   let (x,us) ←frzV h v
   match getH (updH h us) id with
   |.arr cs esz fz ety=>
    if x.cells.length=size∧off+size≤cs.length∧fz≤off then some (.unk,us++[(id,.arr (splice cs off x.cells) esz fz ety)]) else none
   |_=>none
  |.map _=>none
  |.dead=>none
 |_=>none
def loOf (lo:Option D):Option Nat:=
 match lo with
 |none=>some 0
 |some d=>do
  let n ←asInt d
  if 0≤n then some n.toNat else none
def hiOf (len:Nat) (hi:Option D):Option Nat:=
 match hi with
 |none=>some len
 |some d=>do
  let n ←asInt d
  if 0≤n then some n.toNat else none
def cutC (esz:Nat) (cs:List C) (n:Nat) (lo hi:Option D):Option (List C×Nat):=do
 let l ←loOf lo
 let r ←hiOf n hi
 if l≤r∧r≤n then some ((cs.drop (l * esz)).take ((r - l) * esz),r - l) else none
def slcD (h:Heap) (esz:Nat) (lo hi:Option D):D→Option D
 |.c (.slice cs n)=>do
  let (xs,k) ←cutC esz cs n lo hi
  some (.c (.slice xs k))
 |.full cs n=>do
  let (xs,k) ←cutC esz cs n lo hi
  some (.c (.slice xs k))
 |.arr id off len=>
  match getH h id with
  |.arr _ esz' _ _=>do
   let l ←loOf lo
   let r ←hiOf len hi
   if esz'=esz∧l≤r∧r≤len then some (.arr id (off+l * esz) (r - l)) else none
  |_=>none
 |_=>none
def clipD (h:Heap) (esz:Nat) (lo:Option D) (hi mx d:D):Stepped:=do
 let a ←asInt hi
 let b ←asInt mx
 let (c,us) ←frz h d
 match c with
 |.slice cs n=>do
  let (xs,k) ←cutC esz cs n lo (some hi)
  if a=b then some (.full xs k,us) else none
 |_=>none
def slsD (lo hi:Option D):D→Option D
 |.c (.lit (.string s))=>do
  let l ←loOf lo
  let r ←hiOf s.size hi
  if l≤r∧r≤s.size then some (.c (.lit (.string (s.extract l r)))) else none
 |_=>none
def iadrD (h:Heap) (esz:Nat) (i:D):D→Option D
 |.arr id off len=>
  match getH h id with
  |.arr _ _ _ _=>do
   let n ←asInt i
   if 0≤n∧n < len then some (.loc id (off+n.toNat * esz)) else none
  |_=>none
 |.c (.slice cs m)=>do
  let n ←asInt i
  if 0≤n∧n < m then some (.ptr (cs.drop (n.toNat * esz))) else none
 |.full cs m=>do
  let n ←asInt i
  if 0≤n∧n < m then some (.ptr (cs.drop (n.toNat * esz))) else none
 |_=>none
def lenD (isStr:Bool):D→Option D
 |.arr _ _ len=>if isStr then none else some (dInt len)
 |.c (.slice _ n)=>if isStr then none else some (dInt n)
 |.full _ n=>if isStr then none else some (dInt n)
 |.c (.lit (.string s))=>if isStr then some (dInt s.size) else none
 |_=>none
def appD (h:Heap) (slot esz ety bytes:Nat) (y:D):D→Stepped
 |.full ds m=>do
  let (cs,n) ←srcOf h esz y
  if cs.length=n * esz∧ds.length=m * esz∧(m+n) * bytes≤roomMax∧0 < esz∧m+n≤roomMax then
   (if n=0 then some (.full ds m,[]) else some (.arr slot 0 (m+n),[(slot,.arr (ds++cs) esz 0 ety)]))
  else none
 |.arr id off len=>
  match getH h id with
  |.arr xs esz' fz ety'=>do
   let (cs,n) ←srcOf h esz y
   if cs.length=n * esz∧(len+n) * bytes≤roomMax∧0 < esz∧len+n≤roomMax∧off=0∧esz'=esz∧ety'=ety∧fz≤len * esz∧len * esz≤xs.length then
    some (.arr slot 0 (len+n),[(id,.dead),(slot,.arr (xs.take (len * esz)++cs) esz fz ety)])
   else none
  |_=>none
 |_=>none
def cpyD (h:Heap) (esz:Nat) (y:D):D→Stepped
 |.arr id off len=>
  match getH h id with
  |.arr xs esz' fz ety=>do
   let (cs,n) ←srcOf h esz y
   if cs.length=n * esz∧esz'=esz∧fz≤off∧off+len * esz≤xs.length then
    some (dInt (min n len:Nat),[(id,.arr (splice xs off (cs.take (min n len * esz))) esz fz ety)])
   else none
  |_=>none
 |_=>none
def minmax (isMax:Bool):Value→Value→Option Value
 |.int k x,.int _ y=>some (.int k (if isMax then (if y > x then y else x) else (if y < x then y else x)))
 |_,_=>none
def capsOf (ρ:X→D):List X→Option (List (Nat×Nat))
 |[]=>some []
 |x::xs=>match ρ x with
  |.loc id off=>do
   let r ←capsOf ρ xs
   some ((id,off)::r)
  |_=>none
def step (ρ:X→D) (h:Heap) (slot:Nat):Ins→Stepped
 |.mov x=>pureD (some (ρ x))
 |.pick c a b=>pureD (do
   let t ←asBool (ρ c)
   some (if t then ρ a else ρ b))
 |.alloc zero=>some (.loc slot 0,[(slot,.box (zero.map litD))])
 |.box x=>do
  let ds ←cellsD (ρ x)
  some (.loc slot 0,[(slot,.box ds)])
 |.build zero parts=>pureD (do
   let ds ←fillP ρ (zero.map litD) parts
   some (.agg ds))
 |.lits esz ety len zero parts=>do
  let ds ←fillP ρ ((zeros zero len).map .c) parts
  let (cs,us) ←frzL h ds
  if cs.length=len * esz∧len≤roomMax then some (.arr slot 0 len,us++[(slot,.arr cs esz 0 ety)]) else none
 |.load agg size x=>pureD (loadD h agg size (ρ x))
 |.store size a v=>storeD h size (ρ v) (ρ a)
 |.nilck x=>(match ρ x with
  |.loc id off=>some (.loc id off,[])
  |.ptr cs=>some (.ptr cs,[])
  |_=>none)
 |.bin op isB x y=>pureD (do
   let a ←asLit (ρ x)
   let b ←asLit (ρ y)
   (if isB then boolV op a b else binV op a b).map fun v=> .c (.lit v))
 |.eqs ks neg x y=>pureD (eqsD ks neg (ρ x) (ρ y))
 |.un op x=>pureD (do
   let a ←asLit (ρ x)
   (unV op a).map fun v=> .c (.lit v))
 |.conv k x=>pureD (do
   let n ←asInt (ρ x)
   some (.c (.lit (.int k (k.wrap n)))))
 |.toStr x=>pureD (do
   let (cs,n) ←srcB h (ρ x)
   let bs ←bytesOf cs
   if cs.length=n then some (.c (.lit (.string ⟨bs.toArray⟩))) else none)
 |.mk esz ety bytes zero l c=>do
  let n ←asInt (ρ l)
  let m ←asInt (ρ c)
  if 0≤n∧n≤m∧m.toNat * bytes≤roomMax∧m.toNat≤roomMax∧zero.length=esz then some (.arr slot 0 n.toNat,[(slot,.arr (zeros zero n.toNat) esz 0 ety)]) else none
 |.slc esz x lo hi=>pureD (slcD h esz (lo.map ρ) (hi.map ρ) (ρ x))
 |.clip esz x lo hi mx=>clipD h esz (lo.map ρ) (ρ hi) (ρ mx) (ρ x)
 |.sls x lo hi=>pureD (slsD (lo.map ρ) (hi.map ρ) (ρ x))
 |.fadr off x=>(match ρ x with
  |.loc id o=>some (.loc id (o+off),[])
  |.ptr cs=>some (.ptr (cs.drop off),[])
  |_=>none)
 |.fld off agg size x=>(match ρ x with
  |.agg ds=>if agg then (if off+size≤ds.length then some (.agg ((ds.drop off).take size),[]) else none) else pureD ds[off]?
  |_=>none)
 |.iadr esz x i=>pureD (iadrD h esz (ρ i) (ρ x))
 |.sidx x i=>pureD (match ρ x with
  |.c (.lit (.string s))=>do
   let n ←asInt (ρ i)
   if 0≤n then (s.data[n.toNat]?).map fun b=> .c (.lit (.int .u8 b.toNat)) else none
  |_=>none)
 |.ext x i=>pureD (match ρ x with
  |.tup ds=>ds[i]?
  |_=>none)
 |.len isStr x=>pureD (lenD isStr (ρ x))
 |.app esz ety bytes x y=>appD h slot esz ety bytes (ρ y) (ρ x)
 |.cpy esz x y=>cpyD h esz (ρ y) (ρ x)
 |.mx x y=>pureD (do
   let a ←asLit (ρ x)
   let b ←asLit (ρ y)
   (minmax true a b).map fun v=> .c (.lit v))
 |.mn x y=>pureD (do
   let a ←asLit (ρ x)
   let b ←asLit (ρ y)
   (minmax false a b).map fun v=> .c (.lit v))
 |.mkf f xs=>pureD (do
   let ls ←capsOf ρ xs
   some (.clo f ls))
 |.call _ _=>none
 |.callS _ _ _=>none
 |.callL _ _=>none
 |.callV _ _=>none
 |.mkm=>none
 |.mget _ _ _ _ _ _ _=>none
 |.mput _ _ _ _ _=>none
def evX (e:Env):X→D
 |.t n=>getE e n
 |.k v=>if scalar v then .c (.lit v) else (match v with|.slice none 0 0=> .full [] 0|_=> .unk)
 |.f n=> .clo n []
def putE (e:Env) (dst:Option Nat) (d:D):Env:=
 match dst with
 |some t=>(t,d)::e
 |none=>e
def wanted (e:Env):Option (Nat×Bool)→Option Bool
 |none=>some true
 |some (t,want)=>(match getE e t with
  |.c (.lit (.bool b))=>some (b==want)
  |.tup []=>some false
  |_=>none)
structure St where
 env:Env
 heap:Heap
 nx:Nat
def undefD:D:=.tup []
def frzIds:D→List Nat
 |.arr id _ _=>[id]
 |.agg ds=>ds.flatMap fun
  |.arr id _ _=>[id]
  |_=>[]
 |_=>[]
def touchL (d:D):List Nat:=match d with|.loc id _=>[id]|d=>frzIds d
def touches (ρ:X→D):Ins→List Nat
 |.load _ _ x=>(match ρ x with|.loc id _=>[id]|_=>[])
 |.store _ a v=>(match ρ a with|.loc id _=>[id]|_=>[])++frzIds (ρ v)
 |.lits _ _ _ _ ps=>ps.flatMap fun p=>frzIds (ρ p.2.2)
 |.toStr x=>frzIds (ρ x)
 |.slc _ x _ _=>frzIds (ρ x)
 |.clip _ x _ _ _=>frzIds (ρ x)
 |.iadr _ x _=>frzIds (ρ x)
 |.app _ _ _ x y=>frzIds (ρ x)++frzIds (ρ y)
 |.cpy _ x y=>frzIds (ρ x)++frzIds (ρ y)
 |.call _ xs=>xs.flatMap fun x=>frzIds (ρ x)
 |.callL _ xs=>xs.flatMap fun x=>touchL (ρ x)
 |.mget _ _ _ _ _ x _=>(match ρ x with|.mp id=>[id]|_=>[])
 |.mput _ _ x _ v=>(match ρ x with|.mp id=>[id]|_=>[])++frzIds (ρ v)
 |_=>[]
def opX:Ins→List X
 |.mov x|.box x|.load _ _ x|.nilck x|.un _ x|.conv _ x|.toStr x|.fadr _ x|.fld _ _ _ x|.ext x _|.len _ x=>[x]
 |.pick c a b=>[c,a,b]
 |.alloc _|.mkm=>[]
 |.mget _ _ _ _ _ x k=>[x,k]
 |.mput _ _ x k v=>[x,k,v]
 |.build _ ps|.lits _ _ _ _ ps=>ps.map (·.2.2)
 |.store _ a v|.bin _ _ a v|.eqs _ _ a v|.mk _ _ _ _ a v|.iadr _ a v|.sidx a v|.app _ _ _ a v|.cpy _ a v|.mx a v|.mn a v=>[a,v]
 |.slc _ x lo hi|.sls x lo hi=>x::lo.toList++hi.toList
 |.clip _ x lo hi mx=>x::lo.toList++[hi,mx]
 |.mkf _ xs|.call _ xs|.callS _ _ xs|.callL _ xs=>xs
 |.callV x xs=>x::xs
def tmpsX (xs:List X):List Nat:=xs.filterMap fun|.t n=>some n|_=>none
structure Trace where
 rdT:List Nat
 wrT:List Nat
 rdH:List Nat
 wrH:List Nat
def meets (a b:List Nat):Bool:=a.any fun x=>b.contains x
def clash (a b:Trace):Bool:=
 meets a.wrT (b.rdT++b.wrT)||meets b.wrT a.rdT||meets a.wrH (b.rdH++b.wrH)||meets b.wrH a.rdH
abbrev Callee:=Nat→List V→Option (List V)
def stepC (call:Callee) (ρ:X→D) (h:Heap) (slot:Nat):Ins→Stepped
 |.call f xs=>do
  let (vs,us) ←frzVs h (xs.map ρ)
  let rs ←call f vs
  some (retD rs,us)
 |i=>step ρ h slot i
def mapKey:Nat→V→V→Option Bool
 |0,.one (.lit (.int k a)),.one (.lit (.int k' b))=>if k=k' then some (a==b) else none
 |1,.one (.lit (.string a)),.one (.lit (.string b))=>some (a==b)
 |2,.one (.lit (.bool a)),.one (.lit (.bool b))=>some (a==b)
 |_,_,_=>none
def findM (kind:Nat) (k:V):List (V×V)→Option (Option V)
 |[]=>some none
 |e::es=>match mapKey kind k e.1 with
  |some true=>some (some e.2)
  |some false=>findM kind k es
  |none=>none
def putM (kind:Nat) (k v:V):List (V×V)→Option (List (V×V))
 |[]=>some [(k,v)]
 |e::es=>match mapKey kind k e.1 with
  |some true=>some ((k,v)::es)
  |some false=>(putM kind k v es).map fun r=>e::r
  |none=>none
def keyCs:List D→Option (List C)
 |[]=>some []
 |.c x::ds=>(keyCs ds).map fun r=>x::r
 |_=>none
def keyV (kind n:Nat):D→Option V
 |.c x=>if kind=9 then none else some (.one x)
 |.agg ds=>if kind=9 then (match keyCs ds with|some cs=>if cs.length=n then some (.agg cs) else none|none=>none) else none
 |_=>none
def zeroD (agg:Bool) (zero:List Value):D:=
 if agg then .agg (zero.map fun v=> .c (litC v)) else match zero with|[v]=> .c (litC v)|_=> .unk
def isMapI:Ins→Bool
 |.mkm|.mget _ _ _ _ _ _ _|.mput _ _ _ _ _=>true
 |_=>false
def stepM (ρ:X→D) (h:Heap) (slot:Nat):Ins→Stepped
 |.mkm=>some (.mp slot,[(slot,.map [])])
 |.mget kind n agg zero ok x k=>(match ρ x with
  |.mp id=>(match getH h id with
   |.map es=>(keyV kind n (ρ k)).bind fun kv=>(findM kind kv es).bind fun r=>
     let d:=match r with|some v=>v.toD|none=>zeroD agg zero
     some (if ok then .tup [d,.c (.lit (.bool r.isSome))] else d,[])
   |_=>none)
  |_=>none)
 |.mput kind n x k v=>(match ρ x with
  |.mp id=>(keyV kind n (ρ k)).bind fun kv=>(frzV h (ρ v)).bind fun p=>(match getH (updH h p.2) id with
   |.map es=>(putM kind kv p.1 es).bind fun es'=>some (.unk,p.2++[(id,.map es')])
   |_=>none)
  |_=>none)
 |_=>none
def stepS (call:Callee) (ρ:X→D) (h:Heap) (slot:Nat) (i:Ins):Stepped:=if isMapI i then stepM ρ h slot i else stepC call ρ h slot i
def tupD:List D→D
 |[d]=>d
 |ds=> .tup ds
abbrev Lender:=Nat→List D→Heap→Nat→Option (List D×Heap×Nat)
def frzA (h:Heap):D→Option (D×List (Nat×Obj))
 |.arr id off len=>do
  let (c,us) ←frz h (.arr id off len)
  some (.c c,us)
 |d=>some (d,[])
def frzAs (h:Heap):List D→Option (List D×List (Nat×Obj))
 |[]=>some ([],[])
 |d::ds=>do
  let (x,u) ←frzA h d
  let (xs,us) ←frzAs (updH h u) ds
  some (x::xs,u++us)
def frzD (h:Heap):D→Option (D×List (Nat×Obj))
 |.agg ds=>do
  let (xs,us) ←frzAs h ds
  some (.agg xs,us)
 |d=>frzA h d
def frzDs (h:Heap):List D→Option (List D×List (Nat×Obj))
 |[]=>some ([],[])
 |d::ds=>do
  let (x,u) ←frzD h d
  let (xs,us) ←frzDs (updH h u) ds
  some (x::xs,u++us)
def lendC (lend:Lender) (own:Bool) (f:Nat) (ds:List D) (h:Heap) (nx:Nat):Option (D×Heap×Nat):=do
 let (ds,us) ←frzDs h ds
 let (rs,h',nx') ←lend f ds (updH h us) nx
 if own then some (tupD rs,h',nx') else do
  let (rs,us) ←frzDs h' rs
  some (tupD rs,updH h' us,nx')
inductive LV where
 |v (x:V)
 |ref (b:Nat)
def LV.toD:LV→D
 |.v x=>x.toD
 |.ref b=> .loc b 0
abbrev Lent:=Nat→List LV→List (List C)→Option (List V×List (List C))
def lentArgs (h:Heap):List D→List Nat→Option (List LV×List Nat×List (Nat×Obj))
 |[],ids=>some ([],ids,[])
 |d::ds,ids=>
  match d with
  |.loc id off=>if off=0∧ids.contains id=false then do
    let (as,ids',us) ←lentArgs h ds (ids++[id])
    some (.ref ids.length::as,ids',us)
   else none
  |d=>do
   let (x,u) ←frzV h d
   let (as,ids',us) ←lentArgs (updH h u) ds ids
   some (.v x::as,ids',u++us)
def plainL:List D→Option (List C)
 |[]=>some []
 |.c x::ds=>do
  let cs ←plainL ds
  some (x::cs)
 |.full xs n::ds=>do
  let cs ←plainL ds
  some (.slice xs n::cs)
 |_=>none
def plainBoxes (h:Heap):List Nat→Option (List (List C))
 |[]=>some []
 |id::ids=>match getH h id with
  |.box ds=>do
   let cs ←plainL ds
   let r ←plainBoxes h ids
   some (cs::r)
  |_=>none
def boxH:Nat→List (List C)→Heap
 |_,[]=>[]
 |q,cs::bs=>(q,.box (cs.map .c))::boxH (q+1) bs
def boxesAt (h:Heap):Nat→Nat→Option (List (List C)×List (Nat×Obj))
 |_,0=>some ([],[])
 |q,m+1=>match getH h q with
  |.box ds=>do
   let (cs,us) ←frzL h ds
   let (r,us') ←boxesAt (updH h us) (q+1) m
   some (cs::r,us++us')
  |_=>none
def lentD (lent:Lent) (h:Heap) (f:Nat) (ds:List D):Stepped:=do
 let (as,ids,us) ←lentArgs h ds []
 let bs ←plainBoxes (updH h us) ids
 let (rs,bs') ←lent f as bs
 if bs'.length=ids.length then some (retD rs,us++(ids.zip bs').map fun p=>(p.1,.box (p.2.map .c))) else none
def stepD (call:Callee) (lent:Lent) (ρ:X→D) (h:Heap) (slot:Nat):Ins→Stepped
 |.callL f xs=>lentD lent h f (xs.map ρ)
 |i=>stepS call ρ h slot i
def evSeq (call:Callee) (lend:Lender):List Inst→St→Option St
 |[],s=>some s
 |i::is,s=>do
  let w ←wanted s.env i.guard
  if w then
   match i.ins with
   |.callS f own xs=>do
    let (d,h,nx) ←lendC lend own f (xs.map (evX s.env)) s.heap s.nx
    evSeq call lend is ⟨putE s.env i.dst d,h,nx⟩
   |.callV x xs=>
    match evX s.env x with
    |.clo f caps=>do
     let (d,h,nx) ←lendC lend false f (xs.map (evX s.env)++caps.map fun p=> .loc p.1 p.2) s.heap s.nx
     evSeq call lend is ⟨putE s.env i.dst d,h,nx⟩
    |_=>none
   |ins=>do
    let (d,us) ←stepS call (evX s.env) s.heap s.nx ins
    evSeq call lend is ⟨putE s.env i.dst d,updH s.heap us,s.nx+1⟩
  else evSeq call lend is ⟨putE s.env i.dst undefD,s.heap,s.nx⟩
def evDraw (call:Callee) (lent:Lent) (nx:Nat):Nat→List Inst→Env→Heap→Option (Env×Heap×List Trace)
 |_,[],e,h=>some (e,h,[])
 |k,i::is,e,h=>do
  let w ←wanted e i.guard
  let gt:List Nat:=match i.guard with|some (t,_)=>[t]|none=>[]
  if w then
   let (d,us) ←stepD call lent (evX e) h (nx+k) i.ins
   let (e',h',ts) ←evDraw call lent nx (k+1) is (putE e i.dst d) (updH h us)
   some (e',h',⟨gt++tmpsX (opX i.ins),i.dst.toList,touches (evX e) i.ins,us.map (·.1)⟩::ts)
  else
   let (e',h',ts) ←evDraw call lent nx (k+1) is (putE e i.dst undefD) h
   some (e',h',⟨gt,i.dst.toList,[],[]⟩::ts)
def okRow (m:Nat) (b:Trace):Nat→List Trace→Bool
 |_,[]=>true
 |i,a::as=>(m.testBit i||!clash a b) && okRow m b (i+1) as
def drawFrom (pre:List Trace):List Trace→List Nat→Bool
 |[],_=>true
 |b::bs,m::ms=>okRow m b 0 pre && drawFrom (pre++[b]) bs ms
 |_::_,[]=>false
def drawOk (ts:List Trace) (ws:List Nat):Bool:=drawFrom [] ts ws
def bindArgs:Nat→List D→Env
 |_,[]=>[]
 |k,d::ds=>(k,d)::bindArgs (k+1) ds
def resD (e:Env) (h:Heap):List Res→Option (List D)
 |[]=>some []
 |.tmp t::r=>do
  let ds ←resD e h r
  match getE e t with
  |.tup _=>none
  |d=>some (d::ds)
 |.cell t agg size::r=>do
  let d ←loadD h agg size (getE e t)
  let ds ←resD e h r
  some (d::ds)
structure Tab where
 code:Nat→Option IFunc
 nat:Nat→List V→Option (List V)
mutual
def evCode (F:Tab):Nat→ICode→St→Option (Ex×St)
 |0,_,_=>none
 |n+1,c,s=>
  match c with
  |.skip=>some (.normal,s)
  |.exit id=>some (.exit id,s)
  |.ret=>some (.ret,s)
  |.region is=>do
   let s' ←evSeq (evFn F n) (evBody F n) is s
   some (.normal,s')
  |.draw is ws=>do
   let (e,h,ts) ←evDraw (evFn F n) (evLent F n) s.nx 0 is s.env s.heap
   if drawOk ts ws then some (.normal,⟨e,h,s.nx+is.length⟩) else none
  |.seq a b=>do
   let (x,s') ←evCode F n a s
   match x with
   |.normal=>evCode F n b s'
   |x=>some (x,s')
  |.cond c a b=>do
   let t ←asBool (evX s.env c)
   evCode F n (if t then a else b) s
  |.block id c=>do
   let (x,s') ←evCode F n c s
   match x with
   |.exit id'=>if id'=id then some (.normal,s') else some (.exit id',s')
   |x=>some (x,s')
  |.loop c=>do
   let (x,s') ←evCode F n c s
   match x with
   |.normal=>evCode F n (.loop c) s'
   |x=>some (x,s')
termination_by structural n=>n
def evBody (F:Tab):Nat→Nat→List D→Heap→Nat→Option (List D×Heap×Nat)
 |0,_,_,_,_=>none
 |n+1,f,ds,h,k=>do
  let I ←F.code f
  if ds.length=I.nparams then
   let (x,s) ←evCode F n I.body ⟨bindArgs 0 ds,h,k⟩
   match x with
   |.exit _=>none
   |_=>do
    let rs ←resD s.env s.heap I.res
    some (rs,s.heap,s.nx)
  else none
termination_by structural n=>n
def evFn (F:Tab):Nat→Nat→List V→Option (List V)
 |0,_,_=>none
 |n+1,f,vs=>
  match F.nat f vs with
  |some rs=>some rs
  |none=>do
   let (ds,h,_) ←evBody F n f (vs.map V.toD) [] 0
   let (rs,_) ←frzVs h ds
   some rs
termination_by structural n=>n
def evLent (F:Tab):Nat→Nat→List LV→List (List C)→Option (List V×List (List C))
 |0,_,_,_=>none
 |n+1,f,as,bs=>do
  let (ds,h,_) ←evBody F n f (as.map LV.toD) (boxH 0 bs) bs.length
  let (rs,us) ←frzVs h ds
  let (bs',_) ←boxesAt (updH h us) 0 bs.length
  some (rs,bs')
termination_by structural n=>n
end
end Go.Ey

namespace Go.Ey
inductive W where
 |c (x:C)
 |l (xs:List C)
def getW:List W→Nat→Option W
 |[],_=>none
 |w::_,0=>some w
 |_::r,i+1=>getW r i
def nthC:List C→Nat→C
 |[],_=> .lit (.bool false)
 |x::_,0=>x
 |_::r,i+1=>nthC r i
inductive At where
 |v (i:Nat)
 |n (i j:Nat)
 |k (v:Value)
 |z
def atC (ρ:List W):At→Option C
 |.v i=>(match getW ρ i with|some (.c x)=>some x|_=>none)
 |.n i j=>(match getW ρ i with|some (.l xs)=>some (nthC xs j)|_=>none)
 |.k v=>some (.lit v)
 |.z=>some (.slice [] 0)
def atCs (ρ:List W):List At→Option (List C)
 |[]=>some []
 |a::as=>(atC ρ a).bind fun x=>(atCs ρ as).bind fun xs=>some (x::xs)
def atO (ρ:List W):Option At→Option (Option C)
 |none=>some none
 |some a=>(atC ρ a).bind fun x=>some (some x)
inductive SL where
 |lit (as:List At)
 |all (i:Nat)
def slD (ρ:List W):SL→Option (List C)
 |.lit as=>atCs ρ as
 |.all i=>(match getW ρ i with|some (.l xs)=>some xs|_=>none)
def slDs (ρ:List W):List SL→Option (List (List C))
 |[]=>some []
 |s::ss=>(slD ρ s).bind fun x=>(slDs ρ ss).bind fun xs=>some (x::xs)
def intC (n:Int):C:=.lit (.int .i64 n)
def binC (op:BinOp) (isB:Bool):C→C→Option C
 |.lit x,.lit y=>(if isB then boolV op x y else binV op x y).bind fun v=>some (.lit v)
 |_,_=>none
def unC (op:UnOp):C→Option C
 |.lit x=>(unV op x).bind fun v=>some (.lit v)
 |_=>none
def convC (k:IntKind):C→Option C
 |.lit (.int _ n)=>some (.lit (.int k (k.wrap n)))
 |_=>none
def eqCs:List Nat→List C→List C→Option Bool
 |[],[],[]=>some true
 |k::ks,a::as,b::bs=>(eqC k a b).bind fun x=>(eqCs ks as bs).bind fun y=>some (x && y)
 |_,_,_=>none
def eqsC (ks:List Nat) (neg:Bool) (as bs:List C):Option C:=(eqCs ks as bs).bind fun b=>some (.lit (.bool (if neg then !b else b)))
def lenC (isStr:Bool):C→Option C
 |.slice _ n=>if isStr then none else some (intC n)
 |.lit (.string s)=>if isStr then some (intC s.size) else none
 |_=>none
def srcC (esz:Nat):C→Option (List C×Nat)
 |.slice cs n=>if cs.length=n * esz then some (cs,n) else none
 |.lit (.string s)=>if esz=1 then some (s.data.toList.map fun b=> .lit (.int .u8 b.toNat),s.size) else none
 |_=>none
def appC (esz bytes:Nat) (t:C):C→Option C
 |.slice ds m=>(srcC esz t).bind fun p=>
   if p.1.length=p.2 * esz∧ds.length=m * esz∧(m+p.2) * bytes≤roomMax∧0 < esz∧m+p.2≤roomMax then some (.slice (ds++p.1) (m+p.2)) else none
 |_=>none
def rowC (esz:Nat):C→C→Option (List C)
 |.slice cs n,.lit (.int _ k)=>if 0≤k∧k < n∧(k.toNat+1) * esz≤cs.length then some ((cs.drop (k.toNat * esz)).take esz) else none
 |_,_=>none
def setC (esz:Nat) (off:Nat) (vs:List C):C→C→Option C
 |.slice cs n,.lit (.int _ k)=>if 0≤k∧k < n∧off+vs.length≤esz∧cs.length=n * esz then some (.slice (splice cs (k.toNat * esz+off) vs) n) else none
 |_,_=>none
def loC:Option C→Option Nat
 |none=>some 0
 |some (.lit (.int _ n))=>if 0≤n then some n.toNat else none
 |_=>none
def hiC (len:Nat):Option C→Option Nat
 |none=>some len
 |some (.lit (.int _ n))=>if 0≤n then some n.toNat else none
 |_=>none
def subC (esz:Nat) (lo hi:Option C):C→Option C
 |.slice cs n=>(loC lo).bind fun l=>(hiC n hi).bind fun r=>if l≤r∧r≤n then some (.slice ((cs.drop (l * esz)).take ((r - l) * esz)) (r - l)) else none
 |_=>none
def clipC (esz:Nat) (lo:Option C):C→C→C→Option C
 |.lit (.int _ a),.lit (.int _ b),s=>if a=b then subC esz lo (some (.lit (.int .i64 a))) s else none
 |_,_,_=>none
def sstrC (lo hi:Option C):C→Option C
 |.lit (.string s)=>(loC lo).bind fun l=>(hiC s.size hi).bind fun r=>if l≤r∧r≤s.size then some (.lit (.string (s.extract l r))) else none
 |_=>none
def sidxC:C→C→Option C
 |.lit (.string s),.lit (.int _ n)=>if 0≤n then (s.data[n.toNat]?).bind fun b=>some (.lit (.int .u8 b.toNat)) else none
 |_,_=>none
def toStrC:C→Option C
 |.slice cs n=>(bytesOf cs).bind fun bs=>if cs.length=n then some (.lit (.string ⟨bs.toArray⟩)) else none
 |_=>none
def mkC (esz bytes:Nat) (zero:List Value):C→C→Option C
 |.lit (.int _ n),.lit (.int _ m)=>if 0≤n∧n≤m∧m.toNat * bytes≤roomMax∧m.toNat≤roomMax∧zero.length=esz∧0 < esz then some (.slice (zeros zero n.toNat) n.toNat) else none
 |_,_=>none
def cpyC (esz:Nat) (t:C):C→Option C
 |.slice xs len=>(srcC esz t).bind fun p=>if p.1.length=p.2 * esz∧xs.length=len * esz then some (.slice (splice xs 0 (p.1.take (min p.2 len * esz))) len) else none
 |_=>none
def cntC (esz:Nat) (t:C):C→Option C
 |.slice _ len=>(srcC esz t).bind fun p=>some (intC (min p.2 len:Nat))
 |_=>none
def mmC (isMax:Bool):C→C→Option C
 |.lit x,.lit y=>(minmax isMax x y).bind fun v=>some (.lit v)
 |_,_=>none
def litsC (esz len:Nat) (xs:List C):Option C:=if xs.length=len * esz∧len≤roomMax∧0 < esz then some (.slice xs len) else none
def iteC {α:Type} (c:C) (t e:Option α):Option α:=
 match c with
 |.lit (.bool true)=>t
 |.lit (.bool false)=>e
 |_=>none
inductive OpC where
 |bin (op:BinOp) (isB:Bool) (a b:At)
 |un (op:UnOp) (a:At)
 |conv (k:IntKind) (a:At)
 |eqs (ks:List Nat) (neg:Bool) (as bs:SL)
 |len (isStr:Bool) (a:At)
 |app (esz bytes:Nat) (s t:At)
 |set (esz:Nat) (s i:At) (off:Nat) (vs:List At)
 |sub (esz:Nat) (s:At) (lo hi:Option At)
 |clip (esz:Nat) (s:At) (lo:Option At) (hi mx:At)
 |sstr (s:At) (lo hi:Option At)
 |sidx (s i:At)
 |toStr (s:At)
 |mk (esz bytes:Nat) (zero:List Value) (l c:At)
 |cpy (esz:Nat) (d s:At)
 |cnt (esz:Nat) (d s:At)
 |mm (isMax:Bool) (a b:At)
 |lits (esz len:Nat) (xs:List At)
def opcD (ρ:List W):OpC→Option C
 |.bin op isB a b=>(atC ρ a).bind fun x=>(atC ρ b).bind fun y=>binC op isB x y
 |.un op a=>(atC ρ a).bind fun x=>unC op x
 |.conv k a=>(atC ρ a).bind fun x=>convC k x
 |.eqs ks neg as bs=>(slD ρ as).bind fun xs=>(slD ρ bs).bind fun ys=>eqsC ks neg xs ys
 |.len b a=>(atC ρ a).bind fun x=>lenC b x
 |.app esz bytes s t=>(atC ρ s).bind fun x=>(atC ρ t).bind fun y=>appC esz bytes y x
 |.set esz s i off vs=>(atC ρ s).bind fun x=>(atC ρ i).bind fun y=>(atCs ρ vs).bind fun zs=>setC esz off zs x y
 |.sub esz s lo hi=>(atC ρ s).bind fun x=>(atO ρ lo).bind fun l=>(atO ρ hi).bind fun h=>subC esz l h x
 |.clip esz s lo hi mx=>(atC ρ s).bind fun x=>(atO ρ lo).bind fun l=>(atC ρ hi).bind fun a=>(atC ρ mx).bind fun b=>clipC esz l a b x
 |.sstr s lo hi=>(atC ρ s).bind fun x=>(atO ρ lo).bind fun l=>(atO ρ hi).bind fun h=>sstrC l h x
 |.sidx s i=>(atC ρ s).bind fun x=>(atC ρ i).bind fun y=>sidxC x y
 |.toStr s=>(atC ρ s).bind fun x=>toStrC x
 |.mk esz bytes zero l c=>(atC ρ l).bind fun x=>(atC ρ c).bind fun y=>mkC esz bytes zero x y
 |.cpy esz d s=>(atC ρ d).bind fun x=>(atC ρ s).bind fun y=>cpyC esz y x
 |.cnt esz d s=>(atC ρ d).bind fun x=>(atC ρ s).bind fun y=>cntC esz y x
 |.mm isMax a b=>(atC ρ a).bind fun x=>(atC ρ b).bind fun y=>mmC isMax x y
 |.lits esz len xs=>(atCs ρ xs).bind fun ys=>litsC esz len ys
inductive TV where
 |one (a:At)
 |agg (s:SL)
inductive TA where
 |v (x:TV)
 |ref (b off:Nat)
inductive TW where
 |c (a:At)
 |l (s:SL)
inductive LA where
 |v (x:V)
 |ref (b off:Nat)
abbrev R:=List V×List (List C)
abbrev FnT:=Nat→List LA→List (List C)→Option R
abbrev HdT:=Nat→List W→Option R
inductive Tree where
 |opc (o:OpC) (t:Tree)
 |row (esz:Nat) (s i:At) (t:Tree)
 |ite (a:At) (t e:Tree)
 |call (f:Nat) (args:List TA) (bs:List SL) (rs:List (Option Nat)) (bl:List Nat) (t:Tree)
 |goto (h:Nat) (args:List TW)
 |ret (rs:List TV) (bs:List SL)
 |fail
def tvD (ρ:List W):TV→Option V
 |.one a=>(atC ρ a).bind fun x=>some (.one x)
 |.agg s=>(slD ρ s).bind fun x=>some (.agg x)
def tvDs (ρ:List W):List TV→Option (List V)
 |[]=>some []
 |s::ss=>(tvD ρ s).bind fun x=>(tvDs ρ ss).bind fun xs=>some (x::xs)
def taD (ρ:List W):TA→Option LA
 |.v x=>(tvD ρ x).bind fun y=>some (.v y)
 |.ref b off=>some (.ref b off)
def taDs (ρ:List W):List TA→Option (List LA)
 |[]=>some []
 |s::ss=>(taD ρ s).bind fun x=>(taDs ρ ss).bind fun xs=>some (x::xs)
def twD (ρ:List W):TW→Option W
 |.c a=>(atC ρ a).bind fun x=>some (.c x)
 |.l s=>(slD ρ s).bind fun x=>some (.l x)
def twDs (ρ:List W):List TW→Option (List W)
 |[]=>some []
 |s::ss=>(twD ρ s).bind fun x=>(twDs ρ ss).bind fun xs=>some (x::xs)
def getOne (vs:List V) (j:Nat):Option C:=match vs[j]? with|some (.one c)=>some c|_=>none
def getAgg (vs:List V) (j m:Nat):Option (List C):=match vs[j]? with|some (.agg xs)=>if xs.length=m then some xs else none|_=>none
def getBox (bs:List (List C)) (j m:Nat):Option (List C):=match bs[j]? with|some xs=>if xs.length=m then some xs else none|_=>none
def bindVs {α:Type} (vs:List V) (k:List W→Option α):List (Option Nat)→Nat→List W→Option α
 |[],_,ρ=>k ρ
 |none::ss,j,ρ=>(getOne vs j).bind fun c=>bindVs vs k ss (j+1) (ρ++[.c c])
 |some m::ss,j,ρ=>(getAgg vs j m).bind fun xs=>bindVs vs k ss (j+1) (ρ++[.l xs])
def bindBs {α:Type} (bs:List (List C)) (k:List W→Option α):List Nat→Nat→List W→Option α
 |[],_,ρ=>k ρ
 |m::ms,j,ρ=>(getBox bs j m).bind fun xs=>bindBs bs k ms (j+1) (ρ++[.l xs])
def sized {α:Type} (r:R) (a b:Nat) (k:Option α):Option α:=if r.1.length=a∧r.2.length=b then k else none
def denT (call:FnT) (head:HdT):Tree→List W→Option R
 |.opc o t,ρ=>(opcD ρ o).bind fun c=>denT call head t (ρ++[.c c])
 |.row esz s i t,ρ=>((atC ρ s).bind fun x=>(atC ρ i).bind fun y=>rowC esz x y).bind fun xs=>denT call head t (ρ++[.l xs])
 |.ite a t e,ρ=>(atC ρ a).bind fun c=>iteC c (denT call head t ρ) (denT call head e ρ)
 |.call f args bs rs bl t,ρ=>(taDs ρ args).bind fun as=>(slDs ρ bs).bind fun xs=>(call f as xs).bind fun r=>
   sized r rs.length bl.length (bindVs r.1 (fun ρ=>bindBs r.2 (fun ρ=>denT call head t ρ) bl 0 ρ) rs 0 ρ)
 |.goto h args,ρ=>(twDs ρ args).bind fun ws=>head h ws
 |.ret rs bs,ρ=>(tvDs ρ rs).bind fun vs=>(slDs ρ bs).bind fun xs=>some (vs,xs)
 |.fail,_=>none
inductive PS where
 |one
 |agg (m:Nat)
 |ref (b off:Nat)
 |clo (f:Nat) (caps:List (Nat×Nat))
structure TFun where
 params:List PS
 boxes:List Nat
 body:Tree
 heads:List Tree
def entryA {α:Type} (k:List W→Option α):List PS→List LA→List W→Option α
 |[],[],ρ=>k ρ
 |.one::ps,.v (.one c)::as,ρ=>entryA k ps as (ρ++[.c c])
 |.agg m::ps,.v (.agg xs)::as,ρ=>if xs.length=m then entryA k ps as (ρ++[.l xs]) else none
 |.ref b o::ps,.ref b' o'::as,ρ=>if b=b'∧o=o' then entryA k ps as ρ else none
 |.clo _ _::ps,.ref b' o'::as,ρ=>if b'=0∧o'=0 then entryA k ps as ρ else none
 |_,_,_=>none
def entryB {α:Type} (k:List W→Option α):List Nat→List (List C)→List W→Option α
 |[],[],ρ=>k ρ
 |m::ms,xs::bs,ρ=>if xs.length=m then entryB k ms bs (ρ++[.l xs]) else none
 |_,_,_=>none
def bodyT (call:FnT) (head:HdT) (tf:TFun) (as:List LA) (bs:List (List C)):Option R:=
 entryA (fun ρ=>entryB (fun ρ=>denT call head tf.body ρ) tf.boxes bs ρ) tf.params as []
structure GT where
 fn:Nat→Option TFun
 nat:FnT
mutual
def runT (G:GT):Nat→FnT
 |0,_,_,_=>none
 |n+1,f,as,bs=>match G.fn f with|some tf=>bodyT (runT G n) (runHd G n f) tf as bs|none=>G.nat f as bs
def runHd (G:GT):Nat→Nat→HdT
 |0,_,_,_=>none
 |n+1,f,h,ws=>(G.fn f).bind fun tf=>(tf.heads[h]?).bind fun t=>denT (runT G n) (runHd G n f) t ws
end
def Le {α:Type} (a b:Option α):Prop:=∀r,a=some r→b=some r
theorem Le.refl {α:Type} (a:Option α):Le a a:=fun _ h=>h
theorem Le.bind {α β:Type} {a b:Option α} {f g:α→Option β} (h:Le a b) (hf:∀x,Le (f x) (g x)):Le (a.bind f) (b.bind g):=by
 intro r hr
 cases ha:a with
 |none=>rw [ha] at hr;cases hr
 |some x=>rw [ha] at hr;rw [h x ha];exact hf x r hr
theorem Le.bindVs {α:Type} {vs:List V} {k k':List W→Option α} (h:∀ρ,Le (k ρ) (k' ρ)):∀(ss:List (Option Nat)) (j:Nat) (ρ:List W),Le (bindVs vs k ss j ρ) (bindVs vs k' ss j ρ)
 |[],_,ρ=>h ρ
 |none::ss,j,ρ=>Le.bind (Le.refl _) fun c=>Le.bindVs h ss (j+1) _
 |some _::ss,j,ρ=>Le.bind (Le.refl _) fun c=>Le.bindVs h ss (j+1) _
theorem Le.bindBs {α:Type} {bs:List (List C)} {k k':List W→Option α} (h:∀ρ,Le (k ρ) (k' ρ)):∀(ss:List Nat) (j:Nat) (ρ:List W),Le (bindBs bs k ss j ρ) (bindBs bs k' ss j ρ)
 |[],_,ρ=>h ρ
 |_::ss,j,ρ=>Le.bind (Le.refl _) fun c=>Le.bindBs h ss (j+1) _
theorem Le.entryA {α:Type} {k k':List W→Option α} (h:∀ρ,Le (k ρ) (k' ρ)):∀(ps:List PS) (as:List LA) (ρ:List W),Le (entryA k ps as ρ) (entryA k' ps as ρ):=by
 intro ps
 induction ps with
 |nil=>intro as ρ;cases as with
  |nil=>exact h ρ
  |cons _ _=>exact Le.refl _
 |cons p ps ih=>
  intro as ρ
  cases as with
  |nil=>cases p<;>exact Le.refl _
  |cons a as=>
   cases p with
   |one=>cases a with
    |v x=>cases x with
     |one c=>exact ih as _
     |agg xs=>exact Le.refl _
    |ref b o=>exact Le.refl _
   |agg m=>cases a with
    |v x=>cases x with
     |one c=>exact Le.refl _
     |agg xs=>simp only [Ey.entryA];split<;>first|exact ih as _|exact Le.refl _
    |ref b o=>exact Le.refl _
   |ref b o=>cases a with
    |v x=>exact Le.refl _
    |ref b' o'=>simp only [Ey.entryA];split<;>first|exact ih as _|exact Le.refl _
   |clo g cs=>cases a with
    |v x=>exact Le.refl _
    |ref b' o'=>simp only [Ey.entryA];split<;>first|exact ih as _|exact Le.refl _
theorem Le.entryB {α:Type} {k k':List W→Option α} (h:∀ρ,Le (k ρ) (k' ρ)):∀(ms:List Nat) (bs:List (List C)) (ρ:List W),Le (entryB k ms bs ρ) (entryB k' ms bs ρ)
 |[],[],ρ=>h ρ
 |[],_::_,_=>Le.refl _
 |_::_,[],_=>Le.refl _
 |m::ms,xs::bs,ρ=>by simp only [Ey.entryB];split<;>first|exact Le.entryB h ms bs _|exact Le.refl _
theorem Le.iteC {α:Type} {c:C} {t t' e e':Option α} (h1:Le t t') (h2:Le e e'):Le (iteC c t e) (iteC c t' e'):=by
 unfold Ey.iteC
 split
 ·exact h1
 ·exact h2
 ·exact Le.refl _
theorem denT_mono {call call':FnT} {head head':HdT} (hc:∀f as bs,Le (call f as bs) (call' f as bs)) (hh:∀h ws,Le (head h ws) (head' h ws)):∀(t:Tree) (ρ:List W),Le (denT call head t ρ) (denT call' head' t ρ)
 |.opc o t,ρ=>Le.bind (Le.refl _) fun c=>denT_mono hc hh t _
 |.row esz s i t,ρ=>Le.bind (Le.refl _) fun c=>denT_mono hc hh t _
 |.ite a t e,ρ=>Le.bind (Le.refl _) fun c=>Le.iteC (denT_mono hc hh t ρ) (denT_mono hc hh e ρ)
 |.call f args bs rs bl t,ρ=>by
  refine Le.bind (Le.refl _) fun as=>Le.bind (Le.refl _) fun xs=>Le.bind (hc _ _ _) fun r=>?_
  unfold sized
  split
  ·exact Le.bindVs (fun ρ=>Le.bindBs (fun ρ=>denT_mono hc hh t ρ) _ _ _) _ _ _
  ·exact Le.refl _
 |.goto h args,ρ=>Le.bind (Le.refl _) fun ws=>hh h ws
 |.ret rs bs,ρ=>Le.refl _
 |.fail,ρ=>Le.refl _
theorem run_mono (G:GT):∀n,(∀f as bs,Le (runT G n f as bs) (runT G (n+1) f as bs))∧(∀f h ws,Le (runHd G n f h ws) (runHd G (n+1) f h ws))
 |0=>⟨fun f as bs r h=>by simp [runT] at h,fun f h ws r hh=>by simp [runHd] at hh⟩
 |n+1=>by
  obtain ⟨h1,h2⟩:=run_mono G n
  refine ⟨fun f as bs=>?_,fun f h ws=>?_⟩
  ·rw [runT,runT]
   split
   case h_2=>exact Le.refl _
   exact Le.entryA (fun ρ=>Le.entryB (fun ρ=>denT_mono h1 (h2 f) _ _) _ _ _) _ _ _
  ·rw [runHd,runHd]
   exact Le.bind (Le.refl _) fun tf=>Le.bind (Le.refl _) fun t=>denT_mono h1 (h2 f) _ _
theorem runT_le {G:GT} {n n':Nat} (h:n≤n') (f:Nat) (as:List LA) (bs:List (List C)):Le (runT G n f as bs) (runT G n' f as bs):=by
 induction h with
 |refl=>exact Le.refl _
 |step _ ih=>exact fun r hr=>(run_mono G _).1 f as bs r (ih r hr)
theorem runHd_le {G:GT} {n n':Nat} (h:n≤n') (f i:Nat) (ws:List W):Le (runHd G n f i ws) (runHd G n' f i ws):=by
 induction h with
 |refl=>exact Le.refl _
 |step _ ih=>exact fun r hr=>(run_mono G _).2 f i ws r (ih r hr)
open Classical in
noncomputable def lim {α:Type} (g:Nat→Option α):Option α:=if h:∃n a,g n=some a then some h.choose_spec.choose else none
theorem lim_of {α:Type} {g:Nat→Option α} (hm:∀n n',n≤n'→Le (g n) (g n')) {n:Nat} {a:α} (h:g n=some a):lim g=some a:=by
 have hx:∃n a,g n=some a:=⟨n,a,h⟩
 unfold lim
 rw [dif_pos hx]
 have h2:=hx.choose_spec.choose_spec
 have h3:=hm _ _ (Nat.le_max_left n hx.choose) a h
 have h4:=hm _ _ (Nat.le_max_right n hx.choose) _ h2
 rw [h3] at h4
 exact h4.symm
theorem lim_get {α:Type} {g:Nat→Option α} {a:α} (h:lim g=some a):∃n,g n=some a:=by
 unfold lim at h
 split at h
 ·rename_i hx
  simp only [Option.some.injEq] at h
  exact ⟨hx.choose,h▸hx.choose_spec.choose_spec⟩
 ·cases h
noncomputable def fnT (G:GT):FnT:=fun f as bs=>lim fun n=>runT G n f as bs
noncomputable def hdT (G:GT) (f:Nat):HdT:=fun h ws=>lim fun n=>runHd G n f h ws
variable {G:GT}
theorem fnT_of {n f:Nat} {as:List LA} {bs:List (List C)} {r:R} (h:runT G n f as bs=some r):fnT G f as bs=some r:=lim_of (fun _ _ hn=>runT_le hn f as bs) h
theorem hdT_of {n f i:Nat} {ws:List W} {r:R} (h:runHd G n f i ws=some r):hdT G f i ws=some r:=lim_of (fun _ _ hn=>runHd_le hn f i ws) h
theorem fnT_get {f:Nat} {as:List LA} {bs:List (List C)} {r:R} (h:fnT G f as bs=some r):∃n,runT G n f as bs=some r:=lim_get h
theorem hdT_get {f i:Nat} {ws:List W} {r:R} (h:hdT G f i ws=some r):∃n,runHd G n f i ws=some r:=lim_get h
def Ev {α:Type} (a:Option α) (g:Nat→Option α):Prop:=∀r,a=some r→∃n0,∀n,n0≤n→g n=some r
theorem Ev.const {α:Type} (a:Option α):Ev a fun _=>a:=fun _ h=>⟨0,fun _ _=>h⟩
theorem Ev.bind {α β:Type} {a:Option α} {g:Nat→Option α} {f:α→Option β} {k:Nat→α→Option β} (h:Ev a g) (hf:∀x,Ev (f x) fun n=>k n x):Ev (a.bind f) fun n=>(g n).bind (k n):=by
 intro r hr
 cases ha:a with
 |none=>rw [ha] at hr;cases hr
 |some x=>
  rw [ha] at hr
  obtain ⟨n1,h1⟩:=h x ha
  obtain ⟨n2,h2⟩:=hf x r hr
  refine ⟨max n1 n2,fun n hn=>?_⟩
  show (g n).bind (k n)=some r
  rw [h1 n (by omega)]
  exact h2 n (by omega)
theorem Ev.bindVs {α:Type} {vs:List V} {k:List W→Option α} {k':Nat→List W→Option α} (h:∀ρ,Ev (k ρ) fun n=>k' n ρ):∀(ss:List (Option Nat)) (j:Nat) (ρ:List W),Ev (Ey.bindVs vs k ss j ρ) fun n=>Ey.bindVs vs (k' n) ss j ρ
 |[],_,ρ=>h ρ
 |none::ss,j,ρ=>Ev.bind (Ev.const _) fun c=>Ev.bindVs h ss (j+1) _
 |some _::ss,j,ρ=>Ev.bind (Ev.const _) fun c=>Ev.bindVs h ss (j+1) _
theorem Ev.bindBs {α:Type} {bs:List (List C)} {k:List W→Option α} {k':Nat→List W→Option α} (h:∀ρ,Ev (k ρ) fun n=>k' n ρ):∀(ss:List Nat) (j:Nat) (ρ:List W),Ev (Ey.bindBs bs k ss j ρ) fun n=>Ey.bindBs bs (k' n) ss j ρ
 |[],_,ρ=>h ρ
 |_::ss,j,ρ=>Ev.bind (Ev.const _) fun c=>Ev.bindBs h ss (j+1) _
theorem Ev.iteC {α:Type} {c:C} {t e:Option α} {t' e':Nat→Option α} (h1:Ev t t') (h2:Ev e e'):Ev (Ey.iteC c t e) fun n=>Ey.iteC c (t' n) (e' n):=by
 unfold Ey.iteC
 split
 ·exact h1
 ·exact h2
 ·exact fun r h=>by cases h
theorem denT_ev {call:FnT} {head:HdT} {call':Nat→FnT} {head':Nat→HdT} (hc:∀f as bs,Ev (call f as bs) fun n=>call' n f as bs) (hh:∀h ws,Ev (head h ws) fun n=>head' n h ws):
  ∀(t:Tree) (ρ:List W),Ev (denT call head t ρ) fun n=>denT (call' n) (head' n) t ρ
 |.opc o t,ρ=>Ev.bind (Ev.const _) fun c=>denT_ev hc hh t _
 |.row esz s i t,ρ=>Ev.bind (Ev.const _) fun c=>denT_ev hc hh t _
 |.ite a t e,ρ=>Ev.bind (Ev.const _) fun c=>Ev.iteC (denT_ev hc hh t ρ) (denT_ev hc hh e ρ)
 |.call f args bs rs bl t,ρ=>by
  refine Ev.bind (Ev.const _) fun as=>Ev.bind (Ev.const _) fun xs=>Ev.bind (hc _ _ _) fun r=>?_
  unfold sized
  split
  ·exact Ev.bindVs (fun ρ=>Ev.bindBs (fun ρ=>denT_ev hc hh t ρ) _ _ _) _ _ _
  ·exact fun r h=>by cases h
 |.goto h args,ρ=>Ev.bind (Ev.const _) fun ws=>hh h ws
 |.ret rs bs,ρ=>Ev.const _
 |.fail,ρ=>Ev.const _
theorem fnT_ev (f:Nat) (as:List LA) (bs:List (List C)):Ev (fnT G f as bs) fun n=>runT G n f as bs:=fun r h=>by
 obtain ⟨n,hn⟩:=fnT_get h
 exact ⟨n,fun n' hn'=>runT_le hn' f as bs r hn⟩
theorem hdT_ev (f i:Nat) (ws:List W):Ev (hdT G f i ws) fun n=>runHd G n f i ws:=fun r h=>by
 obtain ⟨n,hn⟩:=hdT_get h
 exact ⟨n,fun n' hn'=>runHd_le hn' f i ws r hn⟩
theorem hdT_eq {f:Nat} {tf:TFun} (hf:G.fn f=some tf) {i:Nat} {t:Tree} (ht:tf.heads[i]?=some t) (ws:List W):hdT G f i ws=denT (fnT G) (hdT G f) t ws:=by
 have h1:Le (hdT G f i ws) (denT (fnT G) (hdT G f) t ws):=by
  intro r h
  obtain ⟨n,hn⟩:=hdT_get h
  cases n with
  |zero=>simp [runHd] at hn
  |succ n=>
   rw [runHd,hf,Option.bind_some,ht,Option.bind_some] at hn
   exact denT_mono (fun f as bs r h=>fnT_of h) (fun h ws r hh=>hdT_of hh) t ws r hn
 have h2:Le (denT (fnT G) (hdT G f) t ws) (hdT G f i ws):=by
  intro r h
  obtain ⟨n,hn⟩:=denT_ev (fnT_ev (G:=G)) (hdT_ev f) t ws r h
  refine hdT_of (n:=n+1) ?_
  rw [runHd,hf,Option.bind_some,ht,Option.bind_some]
  exact hn n (Nat.le_refl _)
 cases h:hdT G f i ws with
 |some r=>exact (h1 r h).symm
 |none=>cases h':denT (fnT G) (hdT G f) t ws with
  |none=>rfl
  |some r=>rw [h2 r h'] at h;cases h
theorem Ev.entryA {α:Type} {k:List W→Option α} {k':Nat→List W→Option α} (h:∀ρ,Ev (k ρ) fun n=>k' n ρ):∀(ps:List PS) (as:List LA) (ρ:List W),Ev (Ey.entryA k ps as ρ) fun n=>Ey.entryA (k' n) ps as ρ:=by
 intro ps
 induction ps with
 |nil=>intro as ρ;cases as with
  |nil=>exact h ρ
  |cons _ _=>exact fun r h=>by cases h
 |cons p ps ih=>
  intro as ρ
  cases as with
  |nil=>cases p<;>exact fun r h=>by cases h
  |cons a as=>
   cases p with
   |one=>cases a with
    |v x=>cases x with
     |one c=>exact ih as _
     |agg xs=>exact fun r h=>by cases h
    |ref b o=>exact fun r h=>by cases h
   |agg m=>cases a with
    |v x=>cases x with
     |one c=>exact fun r h=>by cases h
     |agg xs=>simp only [Ey.entryA];split<;>first|exact ih as _|exact fun r h=>by cases h
    |ref b o=>exact fun r h=>by cases h
   |ref b o=>cases a with
    |v x=>exact fun r h=>by cases h
    |ref b' o'=>simp only [Ey.entryA];split<;>first|exact ih as _|exact fun r h=>by cases h
   |clo g cs=>cases a with
    |v x=>exact fun r h=>by cases h
    |ref b' o'=>simp only [Ey.entryA];split<;>first|exact ih as _|exact fun r h=>by cases h
theorem Ev.entryB {α:Type} {k:List W→Option α} {k':Nat→List W→Option α} (h:∀ρ,Ev (k ρ) fun n=>k' n ρ):∀(ms:List Nat) (bs:List (List C)) (ρ:List W),Ev (Ey.entryB k ms bs ρ) fun n=>Ey.entryB (k' n) ms bs ρ
 |[],[],ρ=>h ρ
 |[],_::_,_=>fun r h=>by cases h
 |_::_,[],_=>fun r h=>by cases h
 |m::ms,xs::bs,ρ=>by simp only [Ey.entryB];split<;>first|exact Ev.entryB h ms bs _|exact fun r h=>by cases h
theorem fnT_eq {f:Nat} {tf:TFun} (hf:G.fn f=some tf) (as:List LA) (bs:List (List C)):fnT G f as bs=bodyT (fnT G) (hdT G f) tf as bs:=by
 have h1:Le (fnT G f as bs) (bodyT (fnT G) (hdT G f) tf as bs):=by
  intro r h
  obtain ⟨n,hn⟩:=fnT_get h
  cases n with
  |zero=>simp [runT] at hn
  |succ n=>
   rw [runT,hf] at hn
   exact Le.entryA (fun ρ=>Le.entryB (fun ρ=>denT_mono (fun f as bs r h=>fnT_of h) (fun h ws r hh=>hdT_of hh) _ _) _ _ _) _ _ _ r hn
 have h2:Le (bodyT (fnT G) (hdT G f) tf as bs) (fnT G f as bs):=by
  intro r h
  obtain ⟨n,hn⟩:=Ev.entryA (fun ρ=>Ev.entryB (fun ρ=>denT_ev (fnT_ev (G:=G)) (hdT_ev f) tf.body ρ) tf.boxes bs ρ) tf.params as [] r h
  refine fnT_of (n:=n+1) ?_
  rw [runT,hf]
  exact hn n (Nat.le_refl _)
 cases h:fnT G f as bs with
 |some r=>exact (h1 r h).symm
 |none=>cases h':bodyT (fnT G) (hdT G f) tf as bs with
  |none=>rfl
  |some r=>rw [h2 r h'] at h;cases h
theorem fnT_nat {f:Nat} (hf:G.fn f=none) {as:List LA} {bs:List (List C)} {r:R} (h:G.nat f as bs=some r):fnT G f as bs=some r:=fnT_of (n:=1) (by rw [runT,hf];exact h)
end Go.Ey
