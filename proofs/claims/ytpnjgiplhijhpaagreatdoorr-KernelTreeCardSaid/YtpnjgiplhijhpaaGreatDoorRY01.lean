/- A part. -/
import GoSem.Core.View
import GoSem.Op.String
set_option linter.all false
namespace Go.Ey
inductive C where
 |lit (v:Value)
 |slice (cells:List C) (n:Nat)
inductive V where
 |one (c:C)
 |agg (cs:List C)
 |full (cs:List C) (n:Nat)
inductive D where
 |fK
 |c (x:C)
 |loc (id off:Nat)
 |arr (id off len:Nat)
 |ptr (cs:List C)
 |full (cs:List C) (n:Nat)
 |bJ (f:Nat) (caps:List (Nat×Nat))
 |mp (id:Nat)
 |agg (ds:List D)
 |dB (ds:List D)
inductive Obj where
 |dead
 |box (ds:List D)
 |arr (cs:List C) (aa fz ety:Nat)
 |map (es:List (V×V))
abbrev Env:=List (Nat×D)
abbrev Heap:=List (Nat×Obj)
def bS:Env->Nat->D
 |[],_=> .fK
 |(t',d)::r,t=>if t'=t then d else bS r t
def af:Heap->Nat->Obj
 |[],_=> .dead
 |(i',o)::r,i=>if i'=i then o else af r i
def ah (h:Heap):List (Nat×Obj)->Heap
 |[]=>h
 |u::us=>ah (u::h) us
def scalar:Value->Bool
 |.int _ _|.bool _|.float _ _|.complex _ _ _|.string _|.pointer none|.map none|.nilFunc|.nilIface=>true
 |_=>false
def lG:Value->C
 |.slice none 0 0=> .slice [] 0
 |v=> .lit v
def qE:Value->D
 |.slice none 0 0=> .full [] 0
 |v=> .c (.lit v)
inductive X where
 |t (n:Nat)
 |k (v:Value)
 |f (n:Nat)
inductive Ins where
 |Mq (x:X)
 |pick (c a b:X)
 |alloc (zero:List Value)
 |box (x:X)
 |build (zero:List Value) (parts:List (Nat×Nat×X))
 |lits (aa ety len:Nat) (zero:List Value) (parts:List (Nat×Nat×X))
 |load (agg:Bool) (size:Nat) (x:X)
 |store (size:Nat) (a v:X)
 |pg (x:X)
 |bin (op:BinOp) (oC:Bool) (x y:X)
 |eqs (ks:List Nat) (neg:Bool) (x y:X)
 |un (op:UnOp) (x:X)
 |conv (k:IntKind) (x:X)
 |toStr (x:X)
 |mk (aa ety bytes:Nat) (zero:List Value) (l c:X)
 |slc (aa:Nat) (x:X) (lo hi:Option X)
 |clip (aa:Nat) (x:X) (lo:Option X) (hi mx:X)
 |Q8 (x:X) (lo hi:Option X)
 |yC (off:Nat) (x:X)
 |NL (off:Nat) (agg:Bool) (size:Nat) (x:X)
 |pY (aa:Nat) (x i:X)
 |nM (x i:X)
 |ext (x:X) (i:Nat)
 |len (isStr:Bool) (x:X)
 |app (aa ety bytes:Nat) (x y:X)
 |EZ (aa:Nat) (x y:X)
 |mx (x y:X)
 |mn (x y:X)
 |R3 (f:Nat) (caps:List X)
 |call (f:Nat) (args:List X)
 |cu (f:Nat) (own:Nat) (args:List X)
 |eZ (f:Nat) (args:List X)
 |dQ (x:X) (args:List X)
 |Qq
 |tK (kind n:Nat) (agg:Bool) (zero:List Value) (ok:Bool) (x k:X)
 |tY (kind n:Nat) (x k v:X)
structure aW where
 dst:Option Nat
 ins:Ins
 guard:Option (Nat×Bool)
inductive bC where
 |skip
 |region (is:List aW)
 |draw (is:List aW) (ws:List Nat)
 |mix (is:List aW) (ws:List Nat)
 |seq (a b:bC)
 |cond (c:X) (a b:bC)
 |block (id:Nat) (c:bC)
 |loop (c:bC)
 |exit (id:Nat)
 |ret
inductive RP where
 |tmp (t:Nat)
 |cell (t:Nat) (agg:Bool) (size:Nat)
structure uP where
 nparams:Nat
 res:List RP
 body:bC
inductive Ex where
 |normal
 |exit (id:Nat)
 |ret
def eT (op:BinOp) (k:IntKind) (a b:Int):Option Value:=
 match op with
 |.add=>some (.int k (k.wrap (a+b)))
 |.sub=>some (.int k (k.wrap (a - b)))
 |.mul=>some (.int k (k.wrap (a * b)))
 |.quo=>if b=0 then none else some (.int k (k.wrap (a.tdiv b)))
 |.rem=>if b=0 then none else some (.int k (a.tmod b))
 |.and=>some (.int k (k.wrap (BitVec.ofInt k.bits a &&& BitVec.ofInt k.bits b).toNat))
 |.or=>some (.int k (k.wrap (BitVec.ofInt k.bits a|||BitVec.ofInt k.bits b).toNat))
 |.xor=>some (.int k (k.wrap (BitVec.ofInt k.bits a ^^^ BitVec.ofInt k.bits b).toNat))
 |.andNot=>some (.int k (k.wrap (BitVec.ofInt k.bits a &&& ~~~ BitVec.ofInt k.bits b).toNat))
 |.eql=>some (.bool (a==b))
 |.neq=>some (.bool (a !=b))
 |.lss=>some (.bool (decide (a < b)))
 |.leq=>some (.bool (decide (a<=b)))
 |.gtr=>some (.bool (decide (a > b)))
 |.geq=>some (.bool (decide (a>=b)))
 |_=>none
def nU (op:BinOp) (k:IntKind) (a b:Int):Option Value:=
 if b < 0 then none else
 match op with
 |.shl=>some (.int k (k.wrap (a * 2 ^ (min b.toNat k.bits))))
 |.shr=>some (.int k (a.fdiv (2 ^ (min b.toNat k.bits))))
 |_=>none
def dn:BinOp->Bool
 |.shl|.shr=>true
 |_=>false
def kU (op:BinOp) (a b:ByteArray):Option Value:=
 match op with
 |.eql=>some (.bool (a.toList==b.toList))
 |.neq=>some (.bool !(a.toList==b.toList))
 |.add=>if a.size+b.size<=140737488355328 then some (.string (a++b)) else none
 |.lss=>some (.bool (Op.bytesLess a.toList b.toList))
 |.gtr=>some (.bool !(Op.bytesLess a.toList b.toList||a.toList==b.toList))
 |_=>none
def iL (op:BinOp):Value->Value->Option Value
 |.int k a,.int k' b=>if dn op then nU op k a b else if k=k' then eT op k a b else none
 |.string a,.string b=>kU op a b
 |_,_=>none
def uu (op:BinOp):Value->Value->Option Value
 |.bool a,.bool b=>(match op with
  |.eql=>some (.bool (a==b))
  |.neq=>some (.bool !(a==b))
  |_=>none)
 |_,_=>none
def O7 (op:UnOp):Value->Option Value
 |.int k a=>(match op with
  |.neg=>some (.int k (k.wrap (0 - a)))
  |.xor=>some (.int k (k.wrap (BitVec.ofInt k.bits (if k.signed then -1 else k.max) ^^^ BitVec.ofInt k.bits a).toNat))
  |_=>none)
 |.bool b=>(match op with
  |.not=>some (.bool !b)
  |_=>none)
 |_=>none
def Mv:Nat->C->C->Option Bool
 |0,.lit (.int k a),.lit (.int k' b)=>if k=k' then some (a==b) else none
 |1,.lit (.string a),.lit (.string b)=>some (a.toList==b.toList)
 |2,.lit (.bool a),.lit (.bool b)=>some (a==b)
 |_,_,_=>none
def Ae:List Nat->List D->List D->Option Bool
 |[],[],[]=>some true
 |k::ks,.c a::ax,.c b::bs=>do
  let x <-Mv k a b
  let y <-Ae ks ax bs
  some (x && y)
 |_,_,_=>none
def Qf (ks:List Nat) (neg:Bool):D->D->Option D
 |.agg ax,.agg bs=>(Ae ks ax bs).map fun b=> .c (.lit (.bool (if neg then !b else b)))
 |_,_=>none
def jO:D->Option Value
 |.c (.lit v)=>some v
 |_=>none
def asInt:D->Option Int
 |.c (.lit (.int _ n))=>some n
 |_=>none
def asBool:D->Option Bool
 |.c (.lit (.bool b))=>some b
 |_=>none
def AU (n:Int):D:=.c (.lit (.int .i64 n))
def gM (h:Heap):D->Option (C×List (Nat×Obj))
 |.c x=>some (x,[])
 |.full cs n=>some (.slice cs n,[])
 |.arr id off len=>
  match af h id with
  |.arr cs aa fz ety=>
   if off+len * aa<=cs.length then
    some (.slice ((cs.drop off).take (len * aa)) len,if off+len * aa<=fz then [] else [(id,.arr cs aa (off+len * aa) ety)])
   else none
  |_=>none
 |_=>none
def eD (h:Heap):List D->Option (List C×List (Nat×Obj))
 |[]=>some ([],[])
 |d::ds=>do
  let (c,u) <-gM h d
  let (cs,us) <-eD (ah h u) ds
  some (c::cs,u++us)
def eP (h:Heap):D->Option (V×List (Nat×Obj))
 |.agg ds=>do
  let (cs,us) <-eD h ds
  some (.agg cs,us)
 |d=>do
  let (c,u) <-gM h d
  some (.one c,u)
def bY (h:Heap):List D->Option (List V×List (Nat×Obj))
 |[]=>some ([],[])
 |d::ds=>do
  let (v,u) <-eP h d
  let (vs,us) <-bY (ah h u) ds
  some (v::vs,u++us)
def V.fM:V->D
 |.one c=> .c c
 |.agg cs=> .agg (cs.map .c)
 |.full cs n=> .full cs n
def sU:List V->D
 |[v]=>v.fM
 |vs=> .dB (vs.map V.fM)
def V.cells:V->List C
 |.one c=>[c]
 |.agg cs=>cs
 |.full cs n=>[.slice cs n]
def lD:D->Bool
 |.c _|.loc _ _|.arr _ _ _|.ptr _|.full _ _|.bJ _ _|.mp _=>true
 |_=>false
def cellsD:D->Option (List D)
 |.agg ds=>if ds.all lD then some ds else none
 |d=>if lD d then some [d] else none
def splice {α:Type} (l:List α) (off:Nat) (xs:List α):List α:=l.take off++xs++l.drop (off+xs.length)
def gp (ρ:X->D):List D->List (Nat×Nat×X)->Option (List D)
 |cs,[]=>some cs
 |cs,(off,size,x)::r=>do
  let ds <-cellsD (ρ x)
  if ds.length=size/\off+size<=cs.length then gp ρ (splice cs off ds) r else none
def bM (h:Heap) (aa:Nat):D->Option (List C×Nat)
 |.full cs n=>if cs.length=n * aa then some (cs,n) else none
 |.c (.slice cs n)=>if cs.length=n * aa then some (cs,n) else none
 |.c (.lit (.string s))=>if aa=1 then some (s.data.toList.map fun b=> .lit (.int .u8 b.toNat),s.size) else none
 |.arr id off len=>
  match af h id with
  |.arr cs bU _ _=>if bU=aa/\off+len * aa<=cs.length then some ((cs.drop off).take (len * aa),len) else none
  |_=>none
 |_=>none
def EJ (h:Heap):D->Option (List C×Nat)
 |.c (.lit (.string _))=>none
 |d=>bM h 1 d
def bytesOf:List C->Option (List UInt8)
 |[]=>some []
 |.lit (.int .u8 n)::r=>do
  let bs <-bytesOf r
  some (UInt8.ofNat n.toNat::bs)
 |_=>none
def zeros (zero:List Value):Nat->List C
 |0=>[]
 |n+1=>zero.map lG++zeros zero n
def aD:Nat:=140737488355328
abbrev Stepped:=Option (D×List (Nat×Obj))
def aH (d:Option D):Stepped:=d.map fun x=>(x,[])
def dG (h:Heap) (agg:Bool) (size:Nat):D->Option D
 |.loc id off=>
  match af h id with
  |.box ds=>if agg then (if off+size<=ds.length then some (.agg ((ds.drop off).take size)) else none) else ds[off]?
  |.arr cs _ _ _=>if agg then (if off+size<=cs.length then some (.agg (((cs.drop off).take size).map .c)) else none) else (cs[off]?).map .c
  |.map _=>none
  |.dead=>none
 |.ptr cs=>if agg then (if size<=cs.length then some (.agg ((cs.take size).map .c)) else none) else (cs[0]?).map .c
 |_=>none
def iF (h:Heap) (size:Nat) (v:D):D->Stepped
 |.loc id off=>
  match af h id with
  |.box ds=>do
   let xs <-cellsD v
   if xs.length=size/\off+size<=ds.length then some (.fK,[(id,.box (splice ds off xs))]) else none
  |.arr _ _ _ _=>do
   let (x,us) <-eP h v
   match af (ah h us) id with
   |.arr cs aa fz ety=>
    if x.cells.length=size/\off+size<=cs.length/\fz<=off then some (.fK,us++[(id,.arr (splice cs off x.cells) aa fz ety)]) else none
   |_=>none
  |.map _=>none
  |.dead=>none
 |_=>none
def xw (lo:Option D):Option Nat:=
 match lo with
 |none=>some 0
 |some d=>do
  let n <-asInt d
  if 0<=n then some n.toNat else none
def qA (len:Nat) (hi:Option D):Option Nat:=
 match hi with
 |none=>some len
 |some d=>do
  let n <-asInt d
  if 0<=n then some n.toNat else none
def yx (aa:Nat) (cs:List C) (n:Nat) (lo hi:Option D):Option (List C×Nat):=do
 let l <-xw lo
 let r <-qA n hi
 if l<=r/\r<=n then some ((cs.drop (l * aa)).take ((r - l) * aa),r - l) else none
def uW (h:Heap) (aa:Nat) (lo hi:Option D):D->Option D
 |.c (.slice cs n)=>do
  let (xs,k) <-yx aa cs n lo hi
  some (.c (.slice xs k))
 |.full cs n=>do
  let (xs,k) <-yx aa cs n lo hi
  some (.c (.slice xs k))
 |.arr id off len=>
  match af h id with
  |.arr _ bU _ _=>do
   let l <-xw lo
   let r <-qA len hi
   if bU=aa/\l<=r/\r<=len then some (.arr id (off+l * aa) (r - l)) else none
  |_=>none
 |_=>none
def Lu (h:Heap) (aa:Nat) (lo:Option D) (hi mx d:D):Stepped:=do
 let a <-asInt hi
 let b <-asInt mx
 let (c,us) <-gM h d
 match c with
 |.slice cs n=>do
  let (xs,k) <-yx aa cs n lo (some hi)
  if a=b then some (.full xs k,us) else none
 |_=>none
def OO (lo hi:Option D):D->Option D
 |.c (.lit (.string s))=>do
  let l <-xw lo
  let r <-qA s.size hi
  if l<=r/\r<=s.size then some (.c (.lit (.string (s.extract l r)))) else none
 |_=>none
def mM (h:Heap) (aa:Nat) (i:D):D->Option D
 |.arr id off len=>
  match af h id with
  |.arr _ _ _ _=>do
   let n <-asInt i
   if 0<=n/\n < len then some (.loc id (off+n.toNat * aa)) else none
  |_=>none
 |.c (.slice cs m)=>do
  let n <-asInt i
  if 0<=n/\n < m then some (.ptr (cs.drop (n.toNat * aa))) else none
 |.full cs m=>do
  let n <-asInt i
  if 0<=n/\n < m then some (.ptr (cs.drop (n.toNat * aa))) else none
 |_=>none
def BD (isStr:Bool):D->Option D
 |.arr _ _ len=>if isStr then none else some (AU len)
 |.c (.slice _ n)=>if isStr then none else some (AU n)
 |.full _ n=>if isStr then none else some (AU n)
 |.c (.lit (.string s))=>if isStr then some (AU s.size) else none
 |_=>none
def vK (h:Heap) (slot aa ety bytes:Nat) (y:D):D->Stepped
 |.full ds m=>do
  let (cs,n) <-bM h aa y
  if cs.length=n * aa/\ds.length=m * aa/\(m+n) * bytes<=aD/\0 < aa/\m+n<=aD then
   (if n=0 then some (.full ds m,[]) else some (.arr slot 0 (m+n),[(slot,.arr (ds++cs) aa 0 ety)]))
  else none
 |.arr id off len=>
  match af h id with
  |.arr xs bU fz dW=>do
   let (cs,n) <-bM h aa y
   if cs.length=n * aa/\(len+n) * bytes<=aD/\0 < aa/\len+n<=aD/\off=0/\bU=aa/\dW=ety/\fz<=len * aa/\len * aa<=xs.length then
    some (.arr slot 0 (len+n),[(id,.dead),(slot,.arr (xs.take (len * aa)++cs) aa fz ety)])
   else none
  |_=>none
 |_=>none
def Gj (h:Heap) (aa:Nat) (y:D):D->Stepped
 |.arr id off len=>
  match af h id with
  |.arr xs bU fz ety=>do
   let (cs,n) <-bM h aa y
   if cs.length=n * aa/\bU=aa/\fz<=off/\off+len * aa<=xs.length then
    some (AU (min n len:Nat),[(id,.arr (splice xs off (cs.take (min n len * aa))) aa fz ety)])
   else none
  |_=>none
 |_=>none
def lF (isMax:Bool):Value->Value->Option Value
 |.int k x,.int _ y=>some (.int k (if isMax then (if y > x then y else x) else (if y < x then y else x)))
 |_,_=>none
def ni (ρ:X->D):List X->Option (List (Nat×Nat))
 |[]=>some []
 |x::xs=>match ρ x with
  |.loc id off=>do
   let r <-ni ρ xs
   some ((id,off)::r)
  |_=>none
def step (ρ:X->D) (h:Heap) (slot:Nat):Ins->Stepped
 |.Mq x=>aH (some (ρ x))
 |.pick c a b=>aH (do
   let t <-asBool (ρ c)
   some (if t then ρ a else ρ b))
 |.alloc zero=>some (.loc slot 0,[(slot,.box (zero.map qE))])
 |.box x=>do
  let ds <-cellsD (ρ x)
  some (.loc slot 0,[(slot,.box ds)])
 |.build zero parts=>aH (do
   let ds <-gp ρ (zero.map qE) parts
   some (.agg ds))
 |.lits aa ety len zero parts=>do
  let ds <-gp ρ ((zeros zero len).map .c) parts
  let (cs,us) <-eD h ds
  if cs.length=len * aa/\len<=aD then some (.arr slot 0 len,us++[(slot,.arr cs aa 0 ety)]) else none
 |.load agg size x=>aH (dG h agg size (ρ x))
 |.store size a v=>iF h size (ρ v) (ρ a)
 |.pg x=>(match ρ x with
  |.loc id off=>some (.loc id off,[])
  |.ptr cs=>some (.ptr cs,[])
  |_=>none)
 |.bin op oC x y=>aH (do
   let a <-jO (ρ x)
   let b <-jO (ρ y)
   (if oC then uu op a b else iL op a b).map fun v=> .c (.lit v))
 |.eqs ks neg x y=>aH (Qf ks neg (ρ x) (ρ y))
 |.un op x=>aH (do
   let a <-jO (ρ x)
   (O7 op a).map fun v=> .c (.lit v))
 |.conv k x=>aH (do
   let n <-asInt (ρ x)
   some (.c (.lit (.int k (k.wrap n)))))
 |.toStr x=>aH (do
   let (cs,n) <-EJ h (ρ x)
   let bs <-bytesOf cs
   if cs.length=n then some (.c (.lit (.string ⟨bs.toArray⟩))) else none)
 |.mk aa ety bytes zero l c=>do
  let n <-asInt (ρ l)
  let m <-asInt (ρ c)
  if 0<=n/\n<=m/\m.toNat * bytes<=aD/\m.toNat<=aD/\zero.length=aa then some (.arr slot 0 n.toNat,[(slot,.arr (zeros zero n.toNat) aa 0 ety)]) else none
 |.slc aa x lo hi=>aH (uW h aa (lo.map ρ) (hi.map ρ) (ρ x))
 |.clip aa x lo hi mx=>Lu h aa (lo.map ρ) (ρ hi) (ρ mx) (ρ x)
 |.Q8 x lo hi=>aH (OO (lo.map ρ) (hi.map ρ) (ρ x))
 |.yC off x=>(match ρ x with
  |.loc id o=>some (.loc id (o+off),[])
  |.ptr cs=>some (.ptr (cs.drop off),[])
  |_=>none)
 |.NL off agg size x=>(match ρ x with
  |.agg ds=>if agg then (if off+size<=ds.length then some (.agg ((ds.drop off).take size),[]) else none) else aH ds[off]?
  |_=>none)
 |.pY aa x i=>aH (mM h aa (ρ i) (ρ x))
 |.nM x i=>aH (match ρ x with
  |.c (.lit (.string s))=>do
   let n <-asInt (ρ i)
   if 0<=n then (s.data[n.toNat]?).map fun b=> .c (.lit (.int .u8 b.toNat)) else none
  |_=>none)
 |.ext x i=>aH (match ρ x with
  |.dB ds=>ds[i]?
  |_=>none)
 |.len isStr x=>aH (BD isStr (ρ x))
 |.app aa ety bytes x y=>vK h slot aa ety bytes (ρ y) (ρ x)
 |.EZ aa x y=>Gj h aa (ρ y) (ρ x)
 |.mx x y=>aH (do
   let a <-jO (ρ x)
   let b <-jO (ρ y)
   (lF true a b).map fun v=> .c (.lit v))
 |.mn x y=>aH (do
   let a <-jO (ρ x)
   let b <-jO (ρ y)
   (lF false a b).map fun v=> .c (.lit v))
 |.R3 f xs=>aH (do
   let ls <-ni ρ xs
   some (.bJ f ls))
 |.call _ _=>none
 |.cu _ _ _=>none
 |.eZ _ _=>none
 |.dQ _ _=>none
 |.Qq=>none
 |.tK _ _ _ _ _ _ _=>none
 |.tY _ _ _ _ _=>none
def iI (e:Env):X->D
 |.t n=>bS e n
 |.k v=>if scalar v then .c (.lit v) else (match v with|.slice none 0 0=> .full [] 0|_=> .fK)
 |.f n=> .bJ n []
def dO (e:Env) (dst:Option Nat) (d:D):Env:=
 match dst with
 |some t=>(t,d)::e
 |none=>e
def wanted (e:Env):Option (Nat×Bool)->Option Bool
 |none=>some true
 |some (t,want)=>(match bS e t with
  |.c (.lit (.bool b))=>some (b==want)
  |.dB []=>some false
  |_=>none)
structure St where
 env:Env
 heap:Heap
 nx:Nat
def fF:D:=.dB []
def aO:D->List Nat
 |.arr id _ _=>[id]
 |.agg ds=>ds.flatMap fun
  |.arr id _ _=>[id]
  |_=>[]
 |_=>[]
def jR (d:D):List Nat:=match d with|.loc id _=>[id]|d=>aO d
def touches (ρ:X->D):Ins->List Nat
 |.load _ _ x=>(match ρ x with|.loc id _=>[id]|_=>[])
 |.store _ a v=>(match ρ a with|.loc id _=>[id]|_=>[])++aO (ρ v)
 |.lits _ _ _ _ ps=>ps.flatMap fun p=>aO (ρ p.2.2)
 |.toStr x=>aO (ρ x)
 |.slc _ x _ _=>aO (ρ x)
 |.clip _ x _ _ _=>aO (ρ x)
 |.pY _ x _=>aO (ρ x)
 |.app _ _ _ x y=>aO (ρ x)++aO (ρ y)
 |.EZ _ x y=>aO (ρ x)++aO (ρ y)
 |.call _ xs=>xs.flatMap fun x=>aO (ρ x)
 |.eZ _ xs=>xs.flatMap fun x=>jR (ρ x)
 |.tK _ _ _ _ _ x _=>(match ρ x with|.mp id=>[id]|_=>[])
 |.tY _ _ x _ v=>(match ρ x with|.mp id=>[id]|_=>[])++aO (ρ v)
 |_=>[]
def eY:Ins->List X
 |.Mq x|.box x|.load _ _ x|.pg x|.un _ x|.conv _ x|.toStr x|.yC _ x|.NL _ _ _ x|.ext x _|.len _ x=>[x]
 |.pick c a b=>[c,a,b]
 |.alloc _|.Qq=>[]
 |.tK _ _ _ _ _ x k=>[x,k]
 |.tY _ _ x k v=>[x,k,v]
 |.build _ ps|.lits _ _ _ _ ps=>ps.map (·.2.2)
 |.store _ a v|.bin _ _ a v|.eqs _ _ a v|.mk _ _ _ _ a v|.pY _ a v|.nM a v|.app _ _ _ a v|.EZ _ a v|.mx a v|.mn a v=>[a,v]
 |.slc _ x lo hi|.Q8 x lo hi=>x::lo.toList++hi.toList
 |.clip _ x lo hi mx=>x::lo.toList++[hi,mx]
 |.R3 _ xs|.call _ xs|.cu _ _ xs|.eZ _ xs=>xs
 |.dQ x xs=>x::xs
def gQ (xs:List X):List Nat:=xs.filterMap fun|.t n=>some n|_=>none
structure Trace where
 E5:List Nat
 Bo:List Nat
 Dp:List Nat
 zO:List Nat
def meets (a b:List Nat):Bool:=a.any fun x=>b.contains x
def clash (a b:Trace):Bool:=
 meets a.Bo (b.E5++b.Bo)||meets b.Bo a.E5||meets a.zO (b.Dp++b.zO)||meets b.zO a.Dp
abbrev Callee:=Nat->List V->Option (List V)
def bD (call:Callee) (ρ:X->D) (h:Heap) (slot:Nat):Ins->Stepped
 |.call f xs=>do
  let (vs,us) <-bY h (xs.map ρ)
  let rs <-call f vs
  some (sU rs,us)
 |i=>step ρ h slot i
def mapKey:Nat->V->V->Option Bool
 |0,.one (.lit (.int k a)),.one (.lit (.int k' b))=>if k=k' then some (a==b) else none
 |1,.one (.lit (.string a)),.one (.lit (.string b))=>some (a==b)
 |2,.one (.lit (.bool a)),.one (.lit (.bool b))=>some (a==b)
 |_,_,_=>none
def Hr (kind:Nat) (k:V):List (V×V)->Option (Option V)
 |[]=>some none
 |e::es=>match mapKey kind k e.1 with
  |some true=>some (some e.2)
  |some false=>Hr kind k es
  |none=>none
def Pk (kind:Nat) (k v:V):List (V×V)->Option (List (V×V))
 |[]=>some [(k,v)]
 |e::es=>match mapKey kind k e.1 with
  |some true=>some ((k,v)::es)
  |some false=>(Pk kind k v es).map fun r=>e::r
  |none=>none
def Fa:List D->Option (List C)
 |[]=>some []
 |.c x::ds=>(Fa ds).map fun r=>x::r
 |_=>none
def JU (kind n:Nat):D->Option V
 |.c x=>if kind=9 then none else some (.one x)
 |.agg ds=>if kind=9 then (match Fa ds with|some cs=>if cs.length=n then some (.agg cs) else none|none=>none) else none
 |_=>none
def KQ (agg:Bool) (zero:List Value):D:=
 if agg then .agg (zero.map fun v=> .c (lG v)) else match zero with|[v]=> .c (lG v)|_=> .fK
def lN:Ins->Bool
 |.Qq|.tK _ _ _ _ _ _ _|.tY _ _ _ _ _=>true
 |_=>false
def l8 (ρ:X->D) (h:Heap) (slot:Nat):Ins->Stepped
 |.Qq=>some (.mp slot,[(slot,.map [])])
 |.tK kind n agg zero ok x k=>(match ρ x with
  |.mp id=>(match af h id with
   |.map es=>(JU kind n (ρ k)).bind fun kv=>(Hr kind kv es).bind fun r=>
     let d:=match r with|some v=>v.fM|none=>KQ agg zero
     some (if ok then .dB [d,.c (.lit (.bool r.isSome))] else d,[])
   |_=>none)
  |_=>none)
 |.tY kind n x k v=>(match ρ x with
  |.mp id=>(JU kind n (ρ k)).bind fun kv=>(eP h (ρ v)).bind fun p=>(match af (ah h p.2) id with
   |.map es=>(Pk kind kv p.1 es).bind fun es'=>some (.fK,p.2++[(id,.map es')])
   |_=>none)
  |_=>none)
 |_=>none
def gm (call:Callee) (ρ:X->D) (h:Heap) (slot:Nat) (i:Ins):Stepped:=if lN i then l8 ρ h slot i else bD call ρ h slot i
def ko:List D->D
 |[d]=>d
 |ds=> .dB ds
abbrev bn:=Nat->List D->Heap->Nat->Option (List D×Heap×Nat)
def tL (h:Heap):D->Option (D×List (Nat×Obj))
 |.arr id off len=>do
  let (c,us) <-gM h (.arr id off len)
  some (.c c,us)
 |d=>some (d,[])
def su (h:Heap):List D->Option (List D×List (Nat×Obj))
 |[]=>some ([],[])
 |d::ds=>do
  let (x,u) <-tL h d
  let (xs,us) <-su (ah h u) ds
  some (x::xs,u++us)
def zX (h:Heap):D->Option (D×List (Nat×Obj))
 |.agg ds=>do
  let (xs,us) <-su h ds
  some (.agg xs,us)
 |d=>tL h d
def iU (h:Heap):List D->Option (List D×List (Nat×Obj))
 |[]=>some ([],[])
 |d::ds=>do
  let (x,u) <-zX h d
  let (xs,us) <-iU (ah h u) ds
  some (x::xs,u++us)
def Af (own:Nat) (h:Heap) (ds:List D):Option (List D×List (Nat×Obj)):=if own=2 then some (ds,[]) else iU h ds
def iA (aF:bn) (own:Nat) (f:Nat) (ds:List D) (h:Heap) (nx:Nat):Option (D×Heap×Nat):=do
 let (ds,us) <-Af own h ds
 let (rs,h',nx') <-aF f ds (ah h us) nx
 if own≠0 then some (ko rs,h',nx') else do
  let (rs,us) <-iU h' rs
  some (ko rs,ah h' us,nx')
inductive LV where
 |v (x:V)
 |ref (b:Nat)
def LV.fM:LV->D
 |.v x=>x.fM
 |.ref b=> .loc b 0
abbrev fo:=Nat->List LV->List (List C)->Option (List V×List (List C))
def aQ (h:Heap):List D->List Nat->Option (List LV×List Nat×List (Nat×Obj))
 |[],ids=>some ([],ids,[])
 |d::ds,ids=>
  match d with
  |.loc id off=>if off=0/\ids.contains id=false then do
    let (ax,ids',us) <-aQ h ds (ids++[id])
    some (.ref ids.length::ax,ids',us)
   else none
  |d=>do
   let (x,u) <-eP h d
   let (ax,ids',us) <-aQ (ah h u) ds ids
   some (.v x::ax,ids',u++us)
def dU:List D->Option (List C)
 |[]=>some []
 |.c x::ds=>do
  let cs <-dU ds
  some (x::cs)
 |.full xs n::ds=>do
  let cs <-dU ds
  some (.slice xs n::cs)
 |_=>none
def bW (h:Heap):List Nat->Option (List (List C))
 |[]=>some []
 |id::ids=>match af h id with
  |.box ds=>do
   let cs <-dU ds
   let r <-bW h ids
   some (cs::r)
  |_=>none
def uX:Nat->List (List C)->Heap
 |_,[]=>[]
 |q,cs::bs=>(q,.box (cs.map .c))::uX (q+1) bs
def iV (h:Heap):Nat->Nat->Option (List (List C)×List (Nat×Obj))
 |_,0=>some ([],[])
 |q,m+1=>match af h q with
  |.box ds=>do
   let (cs,us) <-eD h ds
   let (r,us') <-iV (ah h us) (q+1) m
   some (cs::r,us++us')
  |_=>none
def mD (ai:fo) (h:Heap) (f:Nat) (ds:List D):Stepped:=do
 let (ax,ids,us) <-aQ h ds []
 let bs <-bW (ah h us) ids
 let (rs,bs') <-ai f ax bs
 if bs'.length=ids.length then some (sU rs,us++(ids.zip bs').map fun p=>(p.1,.box (p.2.map .c))) else none
def dP (call:Callee) (ai:fo) (ρ:X->D) (h:Heap) (slot:Nat):Ins->Stepped
 |.eZ f xs=>mD ai h f (xs.map ρ)
 |i=>gm call ρ h slot i
def dR (call:Callee) (aF:bn):List aW->St->Option St
 |[],s=>some s
 |i::is,s=>do
  let w <-wanted s.env i.guard
  if w then
   match i.ins with
   |.cu f own xs=>do
    let (d,h,nx) <-iA aF own f (xs.map (iI s.env)) s.heap s.nx
    dR call aF is ⟨dO s.env i.dst d,h,nx⟩
   |.dQ x xs=>
    match iI s.env x with
    |.bJ f caps=>do
     let (d,h,nx) <-iA aF 0 f (xs.map (iI s.env)++caps.map fun p=> .loc p.1 p.2) s.heap s.nx
     dR call aF is ⟨dO s.env i.dst d,h,nx⟩
    |_=>none
   |ins=>do
    let (d,us) <-gm call (iI s.env) s.heap s.nx ins
    dR call aF is ⟨dO s.env i.dst d,ah s.heap us,s.nx+1⟩
  else dR call aF is ⟨dO s.env i.dst fF,s.heap,s.nx⟩
def bZ (call:Callee) (ai:fo) (nx:Nat):Nat->List aW->Env->Heap->Option (Env×Heap×List Trace)
 |_,[],e,h=>some (e,h,[])
 |k,i::is,e,h=>do
  let w <-wanted e i.guard
  let gt:List Nat:=match i.guard with|some (t,_)=>[t]|none=>[]
  if w then
   let (d,us) <-dP call ai (iI e) h (nx+k) i.ins
   let (e',h',ts) <-bZ call ai nx (k+1) is (dO e i.dst d) (ah h us)
   some (e',h',⟨gt++gQ (eY i.ins),i.dst.toList,touches (iI e) i.ins,us.map (·.1)⟩::ts)
  else
   let (e',h',ts) <-bZ call ai nx (k+1) is (dO e i.dst fF) h
   some (e',h',⟨gt,i.dst.toList,[],[]⟩::ts)
mutual
def C8:C->C->Bool
 |.lit (.int k a),.lit (.int k' b)=>decide (k=k') && decide (a=b)
 |.lit (.bool a),.lit (.bool b)=>decide (a=b)
 |.lit (.string a),.lit (.string b)=>decide (a.data.toList=b.data.toList)
 |.lit .nilIface,.lit .nilIface=>true
 |.slice ax n,.slice bs m=>decide (n=m) && tH ax bs
 |_,_=>false
def tH:List C->List C->Bool
 |[],[]=>true
 |a::ax,b::bs=>C8 a b && tH ax bs
 |_,_=>false
end
def Vz:D->D->Bool
 |.c a,.c b=>C8 a b
 |.loc i o,.loc j p=>decide (i=j) && decide (o=p)
 |.arr i o l,.arr j p m=>decide (i=j) && (decide (o=p) && decide (l=m))
 |.full ax n,.full bs m=>decide (n=m) && tH ax bs
 |_,_=>false
def wR:List D->List D->Bool
 |[],[]=>true
 |a::ax,b::bs=>Vz a b && wR ax bs
 |_,_=>false
def vL:Obj->Obj->Bool
 |.box a,.box b=>wR a b
 |_,_=>false
def changed (acc:List Nat) (h h':Heap):List Nat:=((h'++h).map (·.1)).filter fun i=>!(acc.contains i && vL (af h i) (af h' i))
def idle:Ins->Bool
 |.Mq _|.load _ _ _|.pg _|.yC _ _|.NL _ _ _ _|.pY _ _ _|.ext _ _|.len _ _=>true
 |_=>false
def xQ (is:List aW) (ws:List Nat):Bool:=
 (List.range is.length).all fun j=>match is[j]? with
  |some i=>(match i.ins with
   |.dQ _ _=>false
   |.cu _ o _=>decide (o=2) && (List.range is.length).all fun k=>decide (k=j)||(if k < j then (ws.getD j 0).testBit k||(match is[k]? with|some i'=>idle i'.ins|none=>true) else (ws.getD k 0).testBit j)
   |_=>true)
  |none=>true
def lJ (ρ:X->D) (h:Heap):Ins->List Nat
 |.store n a v=>(match ρ a with
  |.loc id _=>(match af h id with|.box _=>[id]|_=>touches ρ (.store n a v))
  |_=>touches ρ (.store n a v))
 |i=>touches ρ i
def jq (call:Callee) (ai:fo) (aF:bn):Nat->Nat->List Nat->List aW->Env->Heap->Option (Env×Heap×Nat×List Trace)
 |k,nx,_,[],e,h=>some (e,h,nx+k,[])
 |k,nx,acc,i::is,e,h=>do
  let w <-wanted e i.guard
  let gt:List Nat:=match i.guard with|some (t,_)=>[t]|none=>[]
  if w then
   match i.ins with
   |.cu f o xs=>do
    let (d,h',n) <-(if o=2 then iA aF 2 f (xs.map (iI e)) h (nx+k) else none)
    let (e',h'',n',ts) <-jq call ai aF (k+1) n acc is (dO e i.dst d) h'
    some (e',h'',n',⟨gt++gQ xs,i.dst.toList,List.range (nx+k)++h.map (·.1),changed acc h h'⟩::ts)
   |.dQ _ _=>none
   |ins=>do
    let (d,us) <-dP call ai (iI e) h (nx+k) ins
    let (e',h',n',ts) <-jq call ai aF (k+1) nx (acc++lJ (iI e) h ins) is (dO e i.dst d) (ah h us)
    some (e',h',n',⟨gt++gQ (eY ins),i.dst.toList,lJ (iI e) h ins,us.map (·.1)⟩::ts)
  else do
   let (e',h',n',ts) <-jq call ai aF (k+1) nx acc is (dO e i.dst fF) h
   some (e',h',n',⟨gt,i.dst.toList,[],[]⟩::ts)
def vH (m:Nat) (b:Trace):Nat->List Trace->Bool
 |_,[]=>true
 |i,a::ax=>(m.testBit i||!clash a b) && vH m b (i+1) ax
def dL (pre:List Trace):List Trace->List Nat->Bool
 |[],_=>true
 |b::bs,m::ms=>vH m b 0 pre && dL (pre++[b]) bs ms
 |_::_,[]=>false
def iD (ts:List Trace) (ws:List Nat):Bool:=dL [] ts ws
def dZ:Nat->List D->Env
 |_,[]=>[]
 |k,d::ds=>(k,d)::dZ (k+1) ds
def oG (e:Env) (h:Heap):List RP->Option (List D)
 |[]=>some []
 |.tmp t::r=>do
  let ds <-oG e h r
  match bS e t with
  |.dB _=>none
  |d=>some (d::ds)
 |.cell t agg size::r=>do
  let d <-dG h agg size (bS e t)
  let ds <-oG e h r
  some (d::ds)
structure nD where
 code:Nat->Option uP
 nat:Nat->List V->Option (List V)
 EX:Nat->Option (List D->Heap->Nat->Option (List D×Heap×Nat))
mutual
def aI (F:nD):Nat->bC->St->Option (Ex×St)
 |0,_,_=>none
 |n+1,c,s=>
  match c with
  |.skip=>some (.normal,s)
  |.exit id=>some (.exit id,s)
  |.ret=>some (.ret,s)
  |.region is=>do
   let s' <-dR (fQ F n) (bQ F n) is s
   some (.normal,s')
  |.draw is ws=>do
   let (e,h,ts) <-bZ (fQ F n) (cK F n) s.nx 0 is s.env s.heap
   if iD ts ws then some (.normal,⟨e,h,s.nx+is.length⟩) else none
  |.mix is ws=>do
   let (e,h,nx,ts) <-jq (fQ F n) (cK F n) (bQ F n) 0 s.nx [] is s.env s.heap
   if iD ts ws then some (.normal,⟨e,h,nx⟩) else none
  |.seq a b=>do
   let (x,s') <-aI F n a s
   match x with
   |.normal=>aI F n b s'
   |x=>some (x,s')
  |.cond c a b=>do
   let t <-asBool (iI s.env c)
   aI F n (if t then a else b) s
  |.block id c=>do
   let (x,s') <-aI F n c s
   match x with
   |.exit id'=>if id'=id then some (.normal,s') else some (.exit id',s')
   |x=>some (x,s')
  |.loop c=>do
   let (x,s') <-aI F n c s
   match x with
   |.normal=>aI F n (.loop c) s'
   |x=>some (x,s')
termination_by structural n=>n
def bQ (F:nD):Nat->Nat->List D->Heap->Nat->Option (List D×Heap×Nat)
 |0,_,_,_,_=>none
 |n+1,f,ds,h,k=>match F.EX f with
  |some b=>b ds h k
  |none=>do
   let I <-F.code f
   if ds.length=I.nparams then
    let (x,s) <-aI F n I.body ⟨dZ 0 ds,h,k⟩
    match x with
    |.exit _=>none
    |_=>do
     let rs <-oG s.env s.heap I.res
     some (rs,s.heap,s.nx)
   else none
termination_by structural n=>n
def fQ (F:nD):Nat->Nat->List V->Option (List V)
 |0,_,_=>none
 |n+1,f,vs=>
  match F.nat f vs with
  |some rs=>some rs
  |none=>do
   let (ds,h,_) <-bQ F n f (vs.map V.fM) [] 0
   let (rs,_) <-bY h ds
   some rs
termination_by structural n=>n
def cK (F:nD):Nat->Nat->List LV->List (List C)->Option (List V×List (List C))
 |0,_,_,_=>none
 |n+1,f,ax,bs=>do
  let (ds,h,_) <-bQ F n f (ax.map LV.fM) (uX 0 bs) bs.length
  let (rs,us) <-bY h ds
  let (bs',_) <-iV (ah h us) 0 bs.length
  some (rs,bs')
termination_by structural n=>n
end
end Go.Ey
