/- A part. -/
import GoSem.Core.View
import GoSem.Op.String
set_option linter.all false
theorem A0.{u}:type_of% @Option.some.injEq.{u}:=@Option.some.injEq.{u}
theorem A1.{u_1,u_2}:type_of% @Option.bind_eq_some_iff.{u_1,u_2}:=@Option.bind_eq_some_iff.{u_1,u_2}
theorem A2.{u_1}:type_of% @Option.bind_eq_bind.{u_1}:=@Option.bind_eq_bind.{u_1}
theorem A3.{u,v}:type_of% @Prod.mk.injEq.{u,v}:=@Prod.mk.injEq.{u,v}
theorem A4.{u_1,u_2}:type_of% @Option.bind_some.{u_1,u_2}:=@Option.bind_some.{u_1,u_2}
theorem A5:type_of% @Bool.and_eq_true:=@Bool.and_eq_true
theorem A6.{u_1}:type_of% @List.getElem?_eq_getElem.{u_1}:=@List.getElem?_eq_getElem.{u_1}
theorem An:type_of% @Nat.le_refl:=@Nat.le_refl
theorem As.{u_1}:type_of% @List.getElem?_eq_some_iff.{u_1}:=@List.getElem?_eq_some_iff.{u_1}
theorem Ax.{u}:type_of% @List.length_append.{u}:=@List.length_append.{u}
theorem B0.{u_1}:type_of% @List.mem_append.{u_1}:=@List.mem_append.{u_1}
theorem B8.{u_1}:type_of% @List.mem_singleton.{u_1}:=@List.mem_singleton.{u_1}
theorem B9.{u}:type_of% @List.append_assoc.{u}:=@List.append_assoc.{u}
theorem Bk.{u_1}:type_of% @Array.getElem?_eq_some_iff.{u_1}:=@Array.getElem?_eq_some_iff.{u_1}
theorem Bm.{u_1}:type_of% @List.getElem?_cons_succ.{u_1}:=@List.getElem?_cons_succ.{u_1}
theorem Bx:type_of% @Nat.eq_of_beq_eq_true:=@Nat.eq_of_beq_eq_true
theorem By.{u_1}:type_of% @List.getElem_mem.{u_1}:=@List.getElem_mem.{u_1}
theorem C0.{u_1}:type_of% @List.getElem?_cons_zero.{u_1}:=@List.getElem?_cons_zero.{u_1}
theorem C1.{u_1,u_2}:type_of% @Prod.exists.{u_1,u_2}:=@Prod.exists.{u_1,u_2}
theorem C2:type_of% @Bool.false_eq_true:=@Bool.false_eq_true
theorem C3.{u_1}:type_of% @List.mem_of_getElem?.{u_1}:=@List.mem_of_getElem?.{u_1}
theorem C4.{u}:type_of% @List.drop_zero.{u}:=@List.drop_zero.{u}
theorem C5.{u}:type_of% @List.length_cons.{u}:=@List.length_cons.{u}
theorem C6.{u}:type_of% @if_pos.{u}:=@if_pos.{u}
theorem C7.{u_1}:type_of% @if_false.{u_1}:=@if_false.{u_1}
theorem Cd:type_of% @Nat.mul_le_mul_right:=@Nat.mul_le_mul_right
theorem Cl.{u}:type_of% @List.append_nil.{u}:=@List.append_nil.{u}
theorem Cp.{u_1}:type_of% @List.eq_nil_of_length_eq_zero.{u_1}:=@List.eq_nil_of_length_eq_zero.{u_1}
theorem D0.{u_1}:type_of% @List.all_eq_true.{u_1}:=@List.all_eq_true.{u_1}
theorem D1:type_of% @Int.natCast_zero:=@Int.natCast_zero
theorem D2.{u_1}:type_of% @List.mem_cons.{u_1}:=@List.mem_cons.{u_1}
theorem D3.{u,v}:type_of% @List.flatMap_cons.{u,v}:=@List.flatMap_cons.{u,v}
theorem D4.{u,v}:type_of% @List.map_cons.{u,v}:=@List.map_cons.{u,v}
theorem Dd.{u_1}:type_of% @beq_eq_false_iff_ne.{u_1}:=@beq_eq_false_iff_ne.{u_1}
theorem Dg.{u}:type_of% @List.cons.injEq.{u}:=@List.cons.injEq.{u}
theorem E0.{u}:type_of% @if_neg.{u}:=@if_neg.{u}
theorem E1:type_of% @Nat.le_trans:=@Nat.le_trans
theorem E2.{u}:type_of% @List.nil_append.{u}:=@List.nil_append.{u}
theorem E3.{u}:type_of% @List.cons_append.{u}:=@List.cons_append.{u}
theorem E4:type_of% @Nat.zero_add:=@Nat.zero_add
theorem E6.{u,v}:type_of% @congrArg.{u,v}:=@congrArg.{u,v}
theorem E7.{u_1}:type_of% @if_true.{u_1}:=@if_true.{u_1}
theorem Ek.{u_1}:type_of% @cond_false.{u_1}:=@cond_false.{u_1}
theorem F0:type_of% @Nat.lt_of_lt_of_le:=@Nat.lt_of_lt_of_le
theorem F1.{u_1}:type_of% @cond_true.{u_1}:=@cond_true.{u_1}
theorem F2.{u}:type_of% @List.mem_append_left.{u}:=@List.mem_append_left.{u}
theorem Fc.{u_1}:type_of% @List.getElem?_take_of_lt.{u_1}:=@List.getElem?_take_of_lt.{u_1}
theorem Fi.{u_1,u_2}:type_of% @Option.map_eq_some_iff.{u_1,u_2}:=@Option.map_eq_some_iff.{u_1,u_2}
theorem Fk.{u_1}:type_of% @List.mem_cons_self.{u_1}:=@List.mem_cons_self.{u_1}
theorem Fl:type_of% @Nat.zero_le:=@Nat.zero_le
theorem Fm.{u_1}:type_of% @List.mem_cons_of_mem.{u_1}:=@List.mem_cons_of_mem.{u_1}
theorem Fo.{u_1}:type_of% @List.length_take.{u_1}:=@List.length_take.{u_1}
theorem Ft.{u_1}:type_of% @List.length_drop.{u_1}:=@List.length_drop.{u_1}
theorem G0:type_of% @decide_eq_true_eq:=@decide_eq_true_eq
theorem G1:type_of% @Nat.succ_mul:=@Nat.succ_mul
theorem G2.{u}:type_of% @List.mem_append_right.{u}:=@List.mem_append_right.{u}
theorem G3.{u}:type_of% @List.length_nil.{u}:=@List.length_nil.{u}
theorem Ge.{u_1}:type_of% @List.take_length.{u_1}:=@List.take_length.{u_1}
theorem Gk.{u_1}:type_of% @List.getElem?_append_left.{u_1}:=@List.getElem?_append_left.{u_1}
theorem Hh.{u_1}:type_of% @List.drop_eq_getElem_cons.{u_1}:=@List.drop_eq_getElem_cons.{u_1}
theorem Hj.{u_1,u_2}:type_of% @Option.map_some.{u_1,u_2}:=@Option.map_some.{u_1,u_2}
theorem Hp.{u_1}:type_of% @List.getElem?_eq_none.{u_1}:=@List.getElem?_eq_none.{u_1}
theorem Hs.{u_1}:type_of% @List.mem_of_mem_take.{u_1}:=@List.mem_of_mem_take.{u_1}
theorem Hv.{u_1}:type_of% @List.getElem?_append_right.{u_1}:=@List.getElem?_append_right.{u_1}
theorem Hx:type_of% @Nat.add_zero:=@Nat.add_zero
theorem I0.{u_1}:type_of% @List.nodup_append.{u_1}:=@List.nodup_append.{u_1}
theorem I2.{u}:type_of% @Option.some.inj.{u}:=@Option.some.inj.{u}
theorem I3.{u_1}:type_of% @List.all_cons.{u_1}:=@List.all_cons.{u_1}
theorem Is.{u_1,u_2}:type_of% @List.map_append.{u_1,u_2}:=@List.map_append.{u_1,u_2}
theorem It.{u,v}:type_of% @List.foldl_cons.{u,v}:=@List.foldl_cons.{u,v}
theorem Iv.{u_1}:type_of% @List.take_append_drop.{u_1}:=@List.take_append_drop.{u_1}
theorem Ix.{u_1}:type_of% @List.any_eq_true.{u_1}:=@List.any_eq_true.{u_1}
theorem J0.{u_1,u_2}:type_of% @List.mem_map.{u_1,u_2}:=@List.mem_map.{u_1,u_2}
theorem J1.{u_1}:type_of% @List.nodup_nil.{u_1}:=@List.nodup_nil.{u_1}
theorem Jx.{u_1}:type_of% @List.take_of_length_le.{u_1}:=@List.take_of_length_le.{u_1}
theorem K0:type_of% @Nat.lt_succ_self:=@Nat.lt_succ_self
theorem K1.{u_1}:type_of% @beq_iff_eq.{u_1}:=@beq_iff_eq.{u_1}
theorem K2:type_of% @List.mem_range:=@List.mem_range
theorem Kf.{u_1}:type_of% @Array.getElem?_eq_getElem.{u_1}:=@Array.getElem?_eq_getElem.{u_1}
theorem Kp.{u_1}:type_of% @List.nodup_cons.{u_1}:=@List.nodup_cons.{u_1}
theorem Ks:type_of% @Bool.eq_iff_iff:=@Bool.eq_iff_iff
theorem Kx.{u,v}:type_of% @List.map_nil.{u,v}:=@List.map_nil.{u,v}
theorem L1:type_of% @Bool.not_eq_true':=@Bool.not_eq_true'
theorem L2:type_of% @Bool.false_or:=@Bool.false_or
theorem L3.{u}:type_of% @List.take_succ_cons.{u}:=@List.take_succ_cons.{u}
theorem L4:type_of% @true_and:=@true_and
theorem L5.{u_1}:type_of% @List.take_append_of_le_length.{u_1}:=@List.take_append_of_le_length.{u_1}
theorem L7:type_of% @Nat.lt_or_ge:=@Nat.lt_or_ge
theorem Ln:type_of% @Nat.ble_eq:=@Nat.ble_eq
theorem Lw.{u_1,u_2}:type_of% @List.length_map.{u_1,u_2}:=@List.length_map.{u_1,u_2}
theorem Ly:type_of% @Nat.le_of_not_lt:=@Nat.le_of_not_lt
theorem Lz.{u_1,u_2,u_3}:type_of% @List.flatMap_map.{u_1,u_2,u_3}:=@List.flatMap_map.{u_1,u_2,u_3}
theorem M1.{u_1}:type_of% @List.getElem?_drop.{u_1}:=@List.getElem?_drop.{u_1}
theorem Mb:type_of% @Nat.le_succ:=@Nat.le_succ
theorem Mn:type_of% @Nat.pow_succ:=@Nat.pow_succ
theorem Mp.{u_1}:type_of% @Array.getElem?_eq_none.{u_1}:=@Array.getElem?_eq_none.{u_1}
theorem Mu:type_of% @Nat.add_mul:=@Nat.add_mul
theorem My.{u_1}:type_of% @List.drop_append_of_le_length.{u_1}:=@List.drop_append_of_le_length.{u_1}
namespace Go.Ey
inductive C where
 |lit (v:Value)
 |slice (cells:List C) (n:Nat)
inductive V where
 |one (c:C)
 |agg (cs:List C)
 |full (cs:List C) (n:Nat)
inductive D where
 |rq
 |c (x:C)
 |loc (id off:Nat)
 |arr (id off len:Nat)
 |ptr (cs:List C)
 |full (cs:List C) (n:Nat)
 |fq (f:Nat) (caps:List (Nat×Nat))
 |mp (id:Nat)
 |agg (ds:List D)
 |jG (ds:List D)
inductive Obj where
 |dead
 |box (ds:List D)
 |arr (cs:List C) (aj fz ety:Nat)
 |map (es:List (V×V))
abbrev Env:=List (Nat×D)
abbrev Heap:=List (Nat×Obj)
def fT:Env->Nat->D
 |[],_=> .rq
 |(t',d)::r,t=>if t'=t then d else fT r t
def ax:Heap->Nat->Obj
 |[],_=> .dead
 |(i',o)::r,i=>if i'=i then o else ax r i
def ay (h:Heap):List (Nat×Obj)->Heap
 |[]=>h
 |u::us=>ay (u::h) us
def scalar:Value->Bool
 |.int _ _|.bool _|.float _ _|.complex _ _ _|.string _|.pointer none|.map none|.nilFunc|.nilIface=>true
 |_=>false
def Fz:Value->C
 |.slice none 0 0=> .slice [] 0
 |v=> .lit v
def O5:Value->D
 |.slice none 0 0=> .full [] 0
 |v=> .c (.lit v)
inductive X where
 |t (n:Nat)
 |k (v:Value)
 |f (n:Nat)
inductive Ins where
 |YY (x:X)
 |pick (c a b:X)
 |alloc (zero:List Value)
 |box (x:X)
 |build (zero:List Value) (parts:List (Nat×Nat×X))
 |lits (aj ety len:Nat) (zero:List Value) (parts:List (Nat×Nat×X))
 |load (agg:Bool) (size:Nat) (x:X)
 |store (size:Nat) (a v:X)
 |FE (x:X)
 |bin (op:BinOp) (Kg:Bool) (x y:X)
 |eqs (ks:List Nat) (neg:Bool) (x y:X)
 |un (op:UnOp) (x:X)
 |conv (k:IntKind) (x:X)
 |toStr (x:X)
 |mk (aj ety bytes:Nat) (zero:List Value) (l c:X)
 |slc (aj:Nat) (x:X) (lo hi:Option X)
 |clip (aj:Nat) (x:X) (lo:Option X) (hi mx:X)
 |sls (x:X) (lo hi:Option X)
 |O4 (off:Nat) (x:X)
 |fld (off:Nat) (agg:Bool) (size:Nat) (x:X)
 |Gt (aj:Nat) (x i:X)
 |BV (x i:X)
 |ext (x:X) (i:Nat)
 |len (isStr:Bool) (x:X)
 |app (aj ety bytes:Nat) (x y:X)
 |Tf (aj:Nat) (x y:X)
 |mx (x y:X)
 |mn (x y:X)
 |mkf (f:Nat) (caps:List X)
 |call (f:Nat) (args:List X)
 |gU (f:Nat) (own:Nat) (args:List X)
 |lH (f:Nat) (args:List X)
 |jv (x:X) (args:List X)
 |mkm
 |Pg (kind n:Nat) (agg:Bool) (zero:List Value) (ok:Bool) (x k:X)
 |O0 (kind n:Nat) (x k v:X)
structure gD where
 dst:Option Nat
 ins:Ins
 guard:Option (Nat×Bool)
inductive gQ where
 |skip
 |region (is:List gD)
 |draw (is:List gD) (ws:List Nat)
 |mix (is:List gD) (ws:List Nat)
 |seq (a b:gQ)
 |cond (c:X) (a b:gQ)
 |block (id:Nat) (c:gQ)
 |loop (c:gQ)
 |exit (id:Nat)
 |ret
inductive Res where
 |tmp (t:Nat)
 |cell (t:Nat) (agg:Bool) (size:Nat)
structure Lh where
 nparams:Nat
 res:List Res
 body:gQ
inductive Ex where
 |normal
 |exit (id:Nat)
 |ret
def jV (op:BinOp) (k:IntKind) (a b:Int):Option Value:=
 match op with
 |.add=>some (.int k (k.wrap (a+b)))
 |.sub=>some (.int k (k.wrap (a - b)))
 |.mul=>some (.int k (k.wrap (a * b)))
 |.quo=>if b=0 then none else some (.int k (k.wrap (a.tdiv b)))
 |.rem=>if b=0 then none else some (.int k (a.tmod b))
 |.and=>some (.int k (k.wrap (BitVec.ofInt k.bits a &&& BitVec.ofInt k.bits b).toNat))
 |.or=>some (.int k (k.wrap (BitVec.ofInt k.bits a|||BitVec.ofInt k.bits b).toNat))
 |.xor=>some (.int k (k.wrap (BitVec.ofInt k.bits a ^^^ BitVec.ofInt k.bits b).toNat))
 |.andNot=>some (.int k (k.wrap (BitVec.ofInt k.bits a &&& ~~~ BitVec.ofInt k.bits b).toNat))
 |.eql=>some (.bool (a==b))
 |.neq=>some (.bool (a !=b))
 |.lss=>some (.bool (decide (a < b)))
 |.leq=>some (.bool (decide (a<=b)))
 |.gtr=>some (.bool (decide (a > b)))
 |.geq=>some (.bool (decide (a>=b)))
 |_=>none
def Ee (op:BinOp) (k:IntKind) (a b:Int):Option Value:=
 if b < 0 then none else
 match op with
 |.shl=>some (.int k (k.wrap (a * 2 ^ (min b.toNat k.bits))))
 |.shr=>some (.int k (a.fdiv (2 ^ (min b.toNat k.bits))))
 |_=>none
def gM:BinOp->Bool
 |.shl|.shr=>true
 |_=>false
def DJ (op:BinOp) (a b:ByteArray):Option Value:=
 match op with
 |.eql=>some (.bool (a.toList==b.toList))
 |.neq=>some (.bool !(a.toList==b.toList))
 |.add=>if a.size+b.size<=140737488355328 then some (.string (a++b)) else none
 |.lss=>some (.bool (Op.bytesLess a.toList b.toList))
 |.gtr=>some (.bool !(Op.bytesLess a.toList b.toList||a.toList==b.toList))
 |_=>none
def r9 (op:BinOp):Value->Value->Option Value
 |.int k a,.int k' b=>if gM op then Ee op k a b else if k=k' then jV op k a b else none
 |.string a,.string b=>DJ op a b
 |_,_=>none
def MM (op:BinOp):Value->Value->Option Value
 |.bool a,.bool b=>(match op with
  |.eql=>some (.bool (a==b))
  |.neq=>some (.bool !(a==b))
  |_=>none)
 |_,_=>none
def unV (op:UnOp):Value->Option Value
 |.int k a=>(match op with
  |.neg=>some (.int k (k.wrap (0 - a)))
  |.xor=>some (.int k (k.wrap (BitVec.ofInt k.bits (if k.signed then -1 else k.max) ^^^ BitVec.ofInt k.bits a).toNat))
  |_=>none)
 |.bool b=>(match op with
  |.not=>some (.bool !b)
  |_=>none)
 |_=>none
def Jd:Nat->C->C->Option Bool
 |0,.lit (.int k a),.lit (.int k' b)=>if k=k' then some (a==b) else none
 |1,.lit (.string a),.lit (.string b)=>some (a.toList==b.toList)
 |2,.lit (.bool a),.lit (.bool b)=>some (a==b)
 |_,_,_=>none
def YW:List Nat->List D->List D->Option Bool
 |[],[],[]=>some true
 |k::ks,.c a::aJ,.c b::bs=>do
  let x <-Jd k a b
  let y <-YW ks aJ bs
  some (x && y)
 |_,_,_=>none
def aht (ks:List Nat) (neg:Bool):D->D->Option D
 |.agg aJ,.agg bs=>(YW ks aJ bs).map fun b=> .c (.lit (.bool (if neg then !b else b)))
 |_,_=>none
def Bz:D->Option Value
 |.c (.lit v)=>some v
 |_=>none
def asInt:D->Option Int
 |.c (.lit (.int _ n))=>some n
 |_=>none
def asBool:D->Option Bool
 |.c (.lit (.bool b))=>some b
 |_=>none
def JQ (n:Int):D:=.c (.lit (.int .i64 n))
def nP (h:Heap):D->Option (C×List (Nat×Obj))
 |.c x=>some (x,[])
 |.full cs n=>some (.slice cs n,[])
 |.arr id off len=>
  match ax h id with
  |.arr cs aj fz ety=>
   if off+len * aj<=cs.length then
    some (.slice ((cs.drop off).take (len * aj)) len,if off+len * aj<=fz then [] else [(id,.arr cs aj (off+len * aj) ety)])
   else none
  |_=>none
 |_=>none
def jZ (h:Heap):List D->Option (List C×List (Nat×Obj))
 |[]=>some ([],[])
 |d::ds=>do
  let (c,u) <-nP h d
  let (cs,us) <-jZ (ay h u) ds
  some (c::cs,u++us)
def nN (h:Heap):D->Option (V×List (Nat×Obj))
 |.agg ds=>do
  let (cs,us) <-jZ h ds
  some (.agg cs,us)
 |d=>do
  let (c,u) <-nP h d
  some (.one c,u)
def iX (h:Heap):List D->Option (List V×List (Nat×Obj))
 |[]=>some ([],[])
 |d::ds=>do
  let (v,u) <-nN h d
  let (vs,us) <-iX (ay h u) ds
  some (v::vs,u++us)
def V.mY:V->D
 |.one c=> .c c
 |.agg cs=> .agg (cs.map .c)
 |.full cs n=> .full cs n
def RH:List V->D
 |[v]=>v.mY
 |vs=> .jG (vs.map V.mY)
def V.cells:V->List C
 |.one c=>[c]
 |.agg cs=>cs
 |.full cs n=>[.slice cs n]
def Gu:D->Bool
 |.c _|.loc _ _|.arr _ _ _|.ptr _|.full _ _|.fq _ _|.mp _=>true
 |_=>false
def cellsD:D->Option (List D)
 |.agg ds=>if ds.all Gu then some ds else none
 |d=>if Gu d then some [d] else none
def splice {α:Type} (l:List α) (off:Nat) (xs:List α):List α:=l.take off++xs++l.drop (off+xs.length)
def qy (ρ:X->D):List D->List (Nat×Nat×X)->Option (List D)
 |cs,[]=>some cs
 |cs,(off,size,x)::r=>do
  let ds <-cellsD (ρ x)
  if ds.length=size/\off+size<=cs.length then qy ρ (splice cs off ds) r else none
def iY (h:Heap) (aj:Nat):D->Option (List C×Nat)
 |.full cs n=>if cs.length=n * aj then some (cs,n) else none
 |.c (.slice cs n)=>if cs.length=n * aj then some (cs,n) else none
 |.c (.lit (.string s))=>if aj=1 then some (s.data.toList.map fun b=> .lit (.int .u8 b.toNat),s.size) else none
 |.arr id off len=>
  match ax h id with
  |.arr cs ja _ _=>if ja=aj/\off+len * aj<=cs.length then some ((cs.drop off).take (len * aj),len) else none
  |_=>none
 |_=>none
def Rp (h:Heap):D->Option (List C×Nat)
 |.c (.lit (.string _))=>none
 |d=>iY h 1 d
def bytesOf:List C->Option (List UInt8)
 |[]=>some []
 |.lit (.int .u8 n)::r=>do
  let bs <-bytesOf r
  some (UInt8.ofNat n.toNat::bs)
 |_=>none
def zeros (zero:List Value):Nat->List C
 |0=>[]
 |n+1=>zero.map Fz++zeros zero n
def bg:Nat:=140737488355328
abbrev Stepped:=Option (D×List (Nat×Obj))
def dF (d:Option D):Stepped:=d.map fun x=>(x,[])
def ji (h:Heap) (agg:Bool) (size:Nat):D->Option D
 |.loc id off=>
  match ax h id with
  |.box ds=>if agg then (if off+size<=ds.length then some (.agg ((ds.drop off).take size)) else none) else ds[off]?
  |.arr cs _ _ _=>if agg then (if off+size<=cs.length then some (.agg (((cs.drop off).take size).map .c)) else none) else (cs[off]?).map .c
  |.map _=>none
  |.dead=>none
 |.ptr cs=>if agg then (if size<=cs.length then some (.agg ((cs.take size).map .c)) else none) else (cs[0]?).map .c
 |_=>none
def AZ (h:Heap) (size:Nat) (v:D):D->Stepped
 |.loc id off=>
  match ax h id with
  |.box ds=>do
   let xs <-cellsD v
   if xs.length=size/\off+size<=ds.length then some (.rq,[(id,.box (splice ds off xs))]) else none
  |.arr _ _ _ _=>do
   let (x,us) <-nN h v
   match ax (ay h us) id with
   |.arr cs aj fz ety=>
    if x.cells.length=size/\off+size<=cs.length/\fz<=off then some (.rq,us++[(id,.arr (splice cs off x.cells) aj fz ety)]) else none
   |_=>none
  |.map _=>none
  |.dead=>none
 |_=>none
def OQ (lo:Option D):Option Nat:=
 match lo with
 |none=>some 0
 |some d=>do
  let n <-asInt d
  if 0<=n then some n.toNat else none
def I4 (len:Nat) (hi:Option D):Option Nat:=
 match hi with
 |none=>some len
 |some d=>do
  let n <-asInt d
  if 0<=n then some n.toNat else none
def Lr (aj:Nat) (cs:List C) (n:Nat) (lo hi:Option D):Option (List C×Nat):=do
 let l <-OQ lo
 let r <-I4 n hi
 if l<=r/\r<=n then some ((cs.drop (l * aj)).take ((r - l) * aj),r - l) else none
def Lt (h:Heap) (aj:Nat) (lo hi:Option D):D->Option D
 |.c (.slice cs n)=>do
  let (xs,k) <-Lr aj cs n lo hi
  some (.c (.slice xs k))
 |.full cs n=>do
  let (xs,k) <-Lr aj cs n lo hi
  some (.c (.slice xs k))
 |.arr id off len=>
  match ax h id with
  |.arr _ ja _ _=>do
   let l <-OQ lo
   let r <-I4 len hi
   if ja=aj/\l<=r/\r<=len then some (.arr id (off+l * aj) (r - l)) else none
  |_=>none
 |_=>none
def Qy (h:Heap) (aj:Nat) (lo:Option D) (hi mx d:D):Stepped:=do
 let a <-asInt hi
 let b <-asInt mx
 let (c,us) <-nP h d
 match c with
 |.slice cs n=>do
  let (xs,k) <-Lr aj cs n lo (some hi)
  if a=b then some (.full xs k,us) else none
 |_=>none
def amW (lo hi:Option D):D->Option D
 |.c (.lit (.string s))=>do
  let l <-OQ lo
  let r <-I4 s.size hi
  if l<=r/\r<=s.size then some (.c (.lit (.string (s.extract l r)))) else none
 |_=>none
def CP (h:Heap) (aj:Nat) (i:D):D->Option D
 |.arr id off len=>
  match ax h id with
  |.arr _ _ _ _=>do
   let n <-asInt i
   if 0<=n/\n < len then some (.loc id (off+n.toNat * aj)) else none
  |_=>none
 |.c (.slice cs m)=>do
  let n <-asInt i
  if 0<=n/\n < m then some (.ptr (cs.drop (n.toNat * aj))) else none
 |.full cs m=>do
  let n <-asInt i
  if 0<=n/\n < m then some (.ptr (cs.drop (n.toNat * aj))) else none
 |_=>none
def Nn (isStr:Bool):D->Option D
 |.arr _ _ len=>if isStr then none else some (JQ len)
 |.c (.slice _ n)=>if isStr then none else some (JQ n)
 |.full _ n=>if isStr then none else some (JQ n)
 |.c (.lit (.string s))=>if isStr then some (JQ s.size) else none
 |_=>none
def Kw (h:Heap) (slot aj ety bytes:Nat) (y:D):D->Stepped
 |.full ds m=>do
  let (cs,n) <-iY h aj y
  if cs.length=n * aj/\ds.length=m * aj/\(m+n) * bytes<=bg/\0 < aj/\m+n<=bg then
   (if n=0 then some (.full ds m,[]) else some (.arr slot 0 (m+n),[(slot,.arr (ds++cs) aj 0 ety)]))
  else none
 |.arr id off len=>
  match ax h id with
  |.arr xs ja fz jY=>do
   let (cs,n) <-iY h aj y
   if cs.length=n * aj/\(len+n) * bytes<=bg/\0 < aj/\len+n<=bg/\off=0/\ja=aj/\jY=ety/\fz<=len * aj/\len * aj<=xs.length then
    some (.arr slot 0 (len+n),[(id,.dead),(slot,.arr (xs.take (len * aj)++cs) aj fz ety)])
   else none
  |_=>none
 |_=>none
def Vw (h:Heap) (aj:Nat) (y:D):D->Stepped
 |.arr id off len=>
  match ax h id with
  |.arr xs ja fz ety=>do
   let (cs,n) <-iY h aj y
   if cs.length=n * aj/\ja=aj/\fz<=off/\off+len * aj<=xs.length then
    some (JQ (min n len:Nat),[(id,.arr (splice xs off (cs.take (min n len * aj))) aj fz ety)])
   else none
  |_=>none
 |_=>none
def za (isMax:Bool):Value->Value->Option Value
 |.int k x,.int _ y=>some (.int k (if isMax then (if y > x then y else x) else (if y < x then y else x)))
 |_,_=>none
def A9 (ρ:X->D):List X->Option (List (Nat×Nat))
 |[]=>some []
 |x::xs=>match ρ x with
  |.loc id off=>do
   let r <-A9 ρ xs
   some ((id,off)::r)
  |_=>none
def step (ρ:X->D) (h:Heap) (slot:Nat):Ins->Stepped
 |.YY x=>dF (some (ρ x))
 |.pick c a b=>dF (do
   let t <-asBool (ρ c)
   some (if t then ρ a else ρ b))
 |.alloc zero=>some (.loc slot 0,[(slot,.box (zero.map O5))])
 |.box x=>do
  let ds <-cellsD (ρ x)
  some (.loc slot 0,[(slot,.box ds)])
 |.build zero parts=>dF (do
   let ds <-qy ρ (zero.map O5) parts
   some (.agg ds))
 |.lits aj ety len zero parts=>do
  let ds <-qy ρ ((zeros zero len).map .c) parts
  let (cs,us) <-jZ h ds
  if cs.length=len * aj/\len<=bg then some (.arr slot 0 len,us++[(slot,.arr cs aj 0 ety)]) else none
 |.load agg size x=>dF (ji h agg size (ρ x))
 |.store size a v=>AZ h size (ρ v) (ρ a)
 |.FE x=>(match ρ x with
  |.loc id off=>some (.loc id off,[])
  |.ptr cs=>some (.ptr cs,[])
  |_=>none)
 |.bin op Kg x y=>dF (do
   let a <-Bz (ρ x)
   let b <-Bz (ρ y)
   (if Kg then MM op a b else r9 op a b).map fun v=> .c (.lit v))
 |.eqs ks neg x y=>dF (aht ks neg (ρ x) (ρ y))
 |.un op x=>dF (do
   let a <-Bz (ρ x)
   (unV op a).map fun v=> .c (.lit v))
 |.conv k x=>dF (do
   let n <-asInt (ρ x)
   some (.c (.lit (.int k (k.wrap n)))))
 |.toStr x=>dF (do
   let (cs,n) <-Rp h (ρ x)
   let bs <-bytesOf cs
   if cs.length=n then some (.c (.lit (.string ⟨bs.toArray⟩))) else none)
 |.mk aj ety bytes zero l c=>do
  let n <-asInt (ρ l)
  let m <-asInt (ρ c)
  if 0<=n/\n<=m/\m.toNat * bytes<=bg/\m.toNat<=bg/\zero.length=aj then some (.arr slot 0 n.toNat,[(slot,.arr (zeros zero n.toNat) aj 0 ety)]) else none
 |.slc aj x lo hi=>dF (Lt h aj (lo.map ρ) (hi.map ρ) (ρ x))
 |.clip aj x lo hi mx=>Qy h aj (lo.map ρ) (ρ hi) (ρ mx) (ρ x)
 |.sls x lo hi=>dF (amW (lo.map ρ) (hi.map ρ) (ρ x))
 |.O4 off x=>(match ρ x with
  |.loc id o=>some (.loc id (o+off),[])
  |.ptr cs=>some (.ptr (cs.drop off),[])
  |_=>none)
 |.fld off agg size x=>(match ρ x with
  |.agg ds=>if agg then (if off+size<=ds.length then some (.agg ((ds.drop off).take size),[]) else none) else dF ds[off]?
  |_=>none)
 |.Gt aj x i=>dF (CP h aj (ρ i) (ρ x))
 |.BV x i=>dF (match ρ x with
  |.c (.lit (.string s))=>do
   let n <-asInt (ρ i)
   if 0<=n then (s.data[n.toNat]?).map fun b=> .c (.lit (.int .u8 b.toNat)) else none
  |_=>none)
 |.ext x i=>dF (match ρ x with
  |.jG ds=>ds[i]?
  |_=>none)
 |.len isStr x=>dF (Nn isStr (ρ x))
 |.app aj ety bytes x y=>Kw h slot aj ety bytes (ρ y) (ρ x)
 |.Tf aj x y=>Vw h aj (ρ y) (ρ x)
 |.mx x y=>dF (do
   let a <-Bz (ρ x)
   let b <-Bz (ρ y)
   (za true a b).map fun v=> .c (.lit v))
 |.mn x y=>dF (do
   let a <-Bz (ρ x)
   let b <-Bz (ρ y)
   (za false a b).map fun v=> .c (.lit v))
 |.mkf f xs=>dF (do
   let ls <-A9 ρ xs
   some (.fq f ls))
 |.call _ _=>none
 |.gU _ _ _=>none
 |.lH _ _=>none
 |.jv _ _=>none
 |.mkm=>none
 |.Pg _ _ _ _ _ _ _=>none
 |.O0 _ _ _ _ _=>none
def yh (e:Env):X->D
 |.t n=>fT e n
 |.k v=>if scalar v then .c (.lit v) else (match v with|.slice none 0 0=> .full [] 0|_=> .rq)
 |.f n=> .fq n []
def j5 (e:Env) (dst:Option Nat) (d:D):Env:=
 match dst with
 |some t=>(t,d)::e
 |none=>e
def wanted (e:Env):Option (Nat×Bool)->Option Bool
 |none=>some true
 |some (t,want)=>(match fT e t with
  |.c (.lit (.bool b))=>some (b==want)
  |.jG []=>some false
  |_=>none)
structure St where
 env:Env
 heap:Heap
 nx:Nat
def Af:D:=.jG []
def dm:D->List Nat
 |.arr id _ _=>[id]
 |.agg ds=>ds.flatMap fun
  |.arr id _ _=>[id]
  |_=>[]
 |_=>[]
def wO (d:D):List Nat:=match d with|.loc id _=>[id]|d=>dm d
def touches (ρ:X->D):Ins->List Nat
 |.load _ _ x=>(match ρ x with|.loc id _=>[id]|_=>[])
 |.store _ a v=>(match ρ a with|.loc id _=>[id]|_=>[])++dm (ρ v)
 |.lits _ _ _ _ ps=>ps.flatMap fun p=>dm (ρ p.2.2)
 |.toStr x=>dm (ρ x)
 |.slc _ x _ _=>dm (ρ x)
 |.clip _ x _ _ _=>dm (ρ x)
 |.Gt _ x _=>dm (ρ x)
 |.app _ _ _ x y=>dm (ρ x)++dm (ρ y)
 |.Tf _ x y=>dm (ρ x)++dm (ρ y)
 |.call _ xs=>xs.flatMap fun x=>dm (ρ x)
 |.lH _ xs=>xs.flatMap fun x=>wO (ρ x)
 |.Pg _ _ _ _ _ x _=>(match ρ x with|.mp id=>[id]|_=>[])
 |.O0 _ _ x _ v=>(match ρ x with|.mp id=>[id]|_=>[])++dm (ρ v)
 |_=>[]
def mZ:Ins->List X
 |.YY x|.box x|.load _ _ x|.FE x|.un _ x|.conv _ x|.toStr x|.O4 _ x|.fld _ _ _ x|.ext x _|.len _ x=>[x]
 |.pick c a b=>[c,a,b]
 |.alloc _|.mkm=>[]
 |.Pg _ _ _ _ _ x k=>[x,k]
 |.O0 _ _ x k v=>[x,k,v]
 |.build _ ps|.lits _ _ _ _ ps=>ps.map (·.2.2)
 |.store _ a v|.bin _ _ a v|.eqs _ _ a v|.mk _ _ _ _ a v|.Gt _ a v|.BV a v|.app _ _ _ a v|.Tf _ a v|.mx a v|.mn a v=>[a,v]
 |.slc _ x lo hi|.sls x lo hi=>x::lo.toList++hi.toList
 |.clip _ x lo hi mx=>x::lo.toList++[hi,mx]
 |.mkf _ xs|.call _ xs|.gU _ _ xs|.lH _ xs=>xs
 |.jv x xs=>x::xs
def Ak (xs:List X):List Nat:=xs.filterMap fun|.t n=>some n|_=>none
structure Trace where
 rdT:List Nat
 WY:List Nat
 Xo:List Nat
 Xc:List Nat
def meets (a b:List Nat):Bool:=a.any fun x=>b.contains x
def clash (a b:Trace):Bool:=
 meets a.WY (b.rdT++b.WY)||meets b.WY a.rdT||meets a.Xc (b.Xo++b.Xc)||meets b.Xc a.Xo
abbrev Callee:=Nat->List V->Option (List V)
def dX (call:Callee) (ρ:X->D) (h:Heap) (slot:Nat):Ins->Stepped
 |.call f xs=>do
  let (vs,us) <-iX h (xs.map ρ)
  let rs <-call f vs
  some (RH rs,us)
 |i=>step ρ h slot i
def wQ:Ins->Bool
 |.mkm|.Pg _ _ _ _ _ _ _|.O0 _ _ _ _ _=>true
 |_=>false
def aar (_:X->D) (_:Heap) (_:Nat) (_:Ins):Stepped:=none
def og (call:Callee) (ρ:X->D) (h:Heap) (slot:Nat) (i:Ins):Stepped:=if wQ i then aar ρ h slot i else dX call ρ h slot i
def Dc:List D->D
 |[d]=>d
 |ds=> .jG ds
abbrev rV:=Nat->List D->Heap->Nat->Option (List D×Heap×Nat)
def Lm (h:Heap):D->Option (D×List (Nat×Obj))
 |.arr id off len=>do
  let (c,us) <-nP h (.arr id off len)
  some (.c c,us)
 |d=>some (d,[])
def Ox (h:Heap):List D->Option (List D×List (Nat×Obj))
 |[]=>some ([],[])
 |d::ds=>do
  let (x,u) <-Lm h d
  let (xs,us) <-Ox (ay h u) ds
  some (x::xs,u++us)
def Sk (h:Heap):D->Option (D×List (Nat×Obj))
 |.agg ds=>do
  let (xs,us) <-Ox h ds
  some (.agg xs,us)
 |d=>Lm h d
def xw (h:Heap):List D->Option (List D×List (Nat×Obj))
 |[]=>some ([],[])
 |d::ds=>do
  let (x,u) <-Sk h d
  let (xs,us) <-xw (ay h u) ds
  some (x::xs,u++us)
def Wh (own:Nat) (h:Heap) (ds:List D):Option (List D×List (Nat×Obj)):=if own=2 then some (ds,[]) else xw h ds
def wZ (fO:rV) (own:Nat) (f:Nat) (ds:List D) (h:Heap) (nx:Nat):Option (D×Heap×Nat):=do
 let (ds,us) <-Wh own h ds
 let (rs,h',nx') <-fO f ds (ay h us) nx
 if own≠0 then some (Dc rs,h',nx') else do
  let (rs,us) <-xw h' rs
  some (Dc rs,ay h' us,nx')
inductive LV where
 |v (x:V)
 |ref (b:Nat)
def LV.mY:LV->D
 |.v x=>x.mY
 |.ref b=> .loc b 0
abbrev Bw:=Nat->List LV->List (List C)->Option (List V×List (List C))
def dW (h:Heap):List D->List Nat->Option (List LV×List Nat×List (Nat×Obj))
 |[],ids=>some ([],ids,[])
 |d::ds,ids=>
  match d with
  |.loc id off=>if off=0/\ids.contains id=false then do
    let (aJ,ids',us) <-dW h ds (ids++[id])
    some (.ref ids.length::aJ,ids',us)
   else none
  |d=>do
   let (x,u) <-nN h d
   let (aJ,ids',us) <-dW (ay h u) ds ids
   some (.v x::aJ,ids',u++us)
def jF:List D->Option (List C)
 |[]=>some []
 |.c x::ds=>do
  let cs <-jF ds
  some (x::cs)
 |.full xs n::ds=>do
  let cs <-jF ds
  some (.slice xs n::cs)
 |_=>none
def jg (h:Heap):List Nat->Option (List (List C))
 |[]=>some []
 |id::ids=>match ax h id with
  |.box ds=>do
   let cs <-jF ds
   let r <-jg h ids
   some (cs::r)
  |_=>none
def JA:Nat->List (List C)->Heap
 |_,[]=>[]
 |q,cs::bs=>(q,.box (cs.map .c))::JA (q+1) bs
def xW (h:Heap):Nat->Nat->Option (List (List C)×List (Nat×Obj))
 |_,0=>some ([],[])
 |q,m+1=>match ax h q with
  |.box ds=>do
   let (cs,us) <-jZ h ds
   let (r,us') <-xW (ay h us) (q+1) m
   some (cs::r,us++us')
  |_=>none
def CY (aK:Bw) (h:Heap) (f:Nat) (ds:List D):Stepped:=do
 let (aJ,ids,us) <-dW h ds []
 let bs <-jg (ay h us) ids
 let (rs,bs') <-aK f aJ bs
 if bs'.length=ids.length then some (RH rs,us++(ids.zip bs').map fun p=>(p.1,.box (p.2.map .c))) else none
def j3 (call:Callee) (aK:Bw) (ρ:X->D) (h:Heap) (slot:Nat):Ins->Stepped
 |.lH f xs=>CY aK h f (xs.map ρ)
 |i=>og call ρ h slot i
def mX (call:Callee) (fO:rV):List gD->St->Option St
 |[],s=>some s
 |i::is,s=>do
  let w <-wanted s.env i.guard
  if w then
   match i.ins with
   |.gU f own xs=>do
    let (d,h,nx) <-wZ fO own f (xs.map (yh s.env)) s.heap s.nx
    mX call fO is ⟨j5 s.env i.dst d,h,nx⟩
   |.jv x xs=>
    match yh s.env x with
    |.fq f caps=>do
     let (d,h,nx) <-wZ fO 0 f (xs.map (yh s.env)++caps.map fun p=> .loc p.1 p.2) s.heap s.nx
     mX call fO is ⟨j5 s.env i.dst d,h,nx⟩
    |_=>none
   |ins=>do
    let (d,us) <-og call (yh s.env) s.heap s.nx ins
    mX call fO is ⟨j5 s.env i.dst d,ay s.heap us,s.nx+1⟩
  else mX call fO is ⟨j5 s.env i.dst Af,s.heap,s.nx⟩
def lT (call:Callee) (aK:Bw) (nx:Nat):Nat->List gD->Env->Heap->Option (Env×Heap×List Trace)
 |_,[],e,h=>some (e,h,[])
 |k,i::is,e,h=>do
  let w <-wanted e i.guard
  let gt:List Nat:=match i.guard with|some (t,_)=>[t]|none=>[]
  if w then
   let (d,us) <-j3 call aK (yh e) h (nx+k) i.ins
   let (e',h',ts) <-lT call aK nx (k+1) is (j5 e i.dst d) (ay h us)
   some (e',h',⟨gt++Ak (mZ i.ins),i.dst.toList,touches (yh e) i.ins,us.map (·.1)⟩::ts)
  else
   let (e',h',ts) <-lT call aK nx (k+1) is (j5 e i.dst Af) h
   some (e',h',⟨gt,i.dst.toList,[],[]⟩::ts)
mutual
def Qi:C->C->Bool
 |.lit (.int k a),.lit (.int k' b)=>decide (k=k') && decide (a=b)
 |.lit (.bool a),.lit (.bool b)=>decide (a=b)
 |.lit (.string a),.lit (.string b)=>decide (a.data.toList=b.data.toList)
 |.lit .nilIface,.lit .nilIface=>true
 |.slice aJ n,.slice bs m=>decide (n=m) && GJ aJ bs
 |_,_=>false
def GJ:List C->List C->Bool
 |[],[]=>true
 |a::aJ,b::bs=>Qi a b && GJ aJ bs
 |_,_=>false
end
def ajt:D->D->Bool
 |.c a,.c b=>Qi a b
 |.loc i o,.loc j p=>decide (i=j) && decide (o=p)
 |.arr i o l,.arr j p m=>decide (i=j) && (decide (o=p) && decide (l=m))
 |.full aJ n,.full bs m=>decide (n=m) && GJ aJ bs
 |_,_=>false
def Kt:List D->List D->Bool
 |[],[]=>true
 |a::aJ,b::bs=>ajt a b && Kt aJ bs
 |_,_=>false
def acw:Obj->Obj->Bool
 |.box a,.box b=>Kt a b
 |_,_=>false
def changed (acc:List Nat) (h h':Heap):List Nat:=((h'++h).map (·.1)).filter fun i=>!(acc.contains i && acw (ax h i) (ax h' i))
def idle:Ins->Bool
 |.YY _|.load _ _ _|.FE _|.O4 _ _|.fld _ _ _ _|.Gt _ _ _|.ext _ _|.len _ _=>true
 |_=>false
def MK (is:List gD) (ws:List Nat):Bool:=
 (List.range is.length).all fun j=>match is[j]? with
  |some i=>(match i.ins with
   |.jv _ _=>false
   |.gU _ o _=>decide (o=2) && (List.range is.length).all fun k=>decide (k=j)||(if k < j then (ws.getD j 0).testBit k||(match is[k]? with|some i'=>idle i'.ins|none=>true) else (ws.getD k 0).testBit j)
   |_=>true)
  |none=>true
def Ky (ρ:X->D) (h:Heap):Ins->List Nat
 |.store n a v=>(match ρ a with
  |.loc id _=>(match ax h id with|.box _=>[id]|_=>touches ρ (.store n a v))
  |_=>touches ρ (.store n a v))
 |i=>touches ρ i
def CU (call:Callee) (aK:Bw) (fO:rV):Nat->Nat->List Nat->List gD->Env->Heap->Option (Env×Heap×Nat×List Trace)
 |k,nx,_,[],e,h=>some (e,h,nx+k,[])
 |k,nx,acc,i::is,e,h=>do
  let w <-wanted e i.guard
  let gt:List Nat:=match i.guard with|some (t,_)=>[t]|none=>[]
  if w then
   match i.ins with
   |.gU f o xs=>do
    let (d,h',n) <-(if o=2 then wZ fO 2 f (xs.map (yh e)) h (nx+k) else none)
    let (e',h'',n',ts) <-CU call aK fO (k+1) n acc is (j5 e i.dst d) h'
    some (e',h'',n',⟨gt++Ak xs,i.dst.toList,List.range (nx+k)++h.map (·.1),changed acc h h'⟩::ts)
   |.jv _ _=>none
   |ins=>do
    let (d,us) <-j3 call aK (yh e) h (nx+k) ins
    let (e',h',n',ts) <-CU call aK fO (k+1) nx (acc++Ky (yh e) h ins) is (j5 e i.dst d) (ay h us)
    some (e',h',n',⟨gt++Ak (mZ ins),i.dst.toList,Ky (yh e) h ins,us.map (·.1)⟩::ts)
  else do
   let (e',h',n',ts) <-CU call aK fO (k+1) nx acc is (j5 e i.dst Af) h
   some (e',h',n',⟨gt,i.dst.toList,[],[]⟩::ts)
def NI (m:Nat) (b:Trace):Nat->List Trace->Bool
 |_,[]=>true
 |i,a::aJ=>(m.testBit i||!clash a b) && NI m b (i+1) aJ
def om (pre:List Trace):List Trace->List Nat->Bool
 |[],_=>true
 |b::bs,m::ms=>NI m b 0 pre && om (pre++[b]) bs ms
 |_::_,[]=>false
def BO (ts:List Trace) (ws:List Nat):Bool:=om [] ts ws
def jf:Nat->List D->Env
 |_,[]=>[]
 |k,d::ds=>(k,d)::jf (k+1) ds
def Ei (e:Env) (h:Heap):List Res->Option (List D)
 |[]=>some []
 |.tmp t::r=>do
  let ds <-Ei e h r
  match fT e t with
  |.jG _=>none
  |d=>some (d::ds)
 |.cell t agg size::r=>do
  let d <-ji h agg size (fT e t)
  let ds <-Ei e h r
  some (d::ds)
structure DF where
 code:Nat->Option Lh
 nat:Nat->List V->Option (List V)
mutual
def bZ (F:DF):Nat->gQ->St->Option (Ex×St)
 |0,_,_=>none
 |n+1,c,s=>
  match c with
  |.skip=>some (.normal,s)
  |.exit id=>some (.exit id,s)
  |.ret=>some (.ret,s)
  |.region is=>do
   let s' <-mX (jL F n) (gu F n) is s
   some (.normal,s')
  |.draw is ws=>do
   let (e,h,ts) <-lT (jL F n) (jI F n) s.nx 0 is s.env s.heap
   if BO ts ws then some (.normal,⟨e,h,s.nx+is.length⟩) else none
  |.mix is ws=>do
   let (e,h,nx,ts) <-CU (jL F n) (jI F n) (gu F n) 0 s.nx [] is s.env s.heap
   if BO ts ws then some (.normal,⟨e,h,nx⟩) else none
  |.seq a b=>do
   let (x,s') <-bZ F n a s
   match x with
   |.normal=>bZ F n b s'
   |x=>some (x,s')
  |.cond c a b=>do
   let t <-asBool (yh s.env c)
   bZ F n (if t then a else b) s
  |.block id c=>do
   let (x,s') <-bZ F n c s
   match x with
   |.exit id'=>if id'=id then some (.normal,s') else some (.exit id',s')
   |x=>some (x,s')
  |.loop c=>do
   let (x,s') <-bZ F n c s
   match x with
   |.normal=>bZ F n (.loop c) s'
   |x=>some (x,s')
termination_by structural n=>n
def gu (F:DF):Nat->Nat->List D->Heap->Nat->Option (List D×Heap×Nat)
 |0,_,_,_,_=>none
 |n+1,f,ds,h,k=>do
  let I <-F.code f
  if ds.length=I.nparams then
   let (x,s) <-bZ F n I.body ⟨jf 0 ds,h,k⟩
   match x with
   |.exit _=>none
   |_=>do
    let rs <-Ei s.env s.heap I.res
    some (rs,s.heap,s.nx)
  else none
termination_by structural n=>n
def jL (F:DF):Nat->Nat->List V->Option (List V)
 |0,_,_=>none
 |n+1,f,vs=>
  match F.nat f vs with
  |some rs=>some rs
  |none=>do
   let (ds,h,_) <-gu F n f (vs.map V.mY) [] 0
   let (rs,_) <-iX h ds
   some rs
termination_by structural n=>n
def jI (F:DF):Nat->Nat->List LV->List (List C)->Option (List V×List (List C))
 |0,_,_,_=>none
 |n+1,f,aJ,bs=>do
  let (ds,h,_) <-gu F n f (aJ.map LV.mY) (JA 0 bs) bs.length
  let (rs,us) <-iX h ds
  let (bs',_) <-xW (ay h us) 0 bs.length
  some (rs,bs')
termination_by structural n=>n
end
def Agree (L:List Nat) (h h':Heap):Prop:=∀id,id∈L->ax h id=ax h' id
theorem Agree.mono {L L':List Nat} {h h':Heap} (hh:Agree L h h') (hs:∀id,id∈L'->id∈L):Agree L' h h':=fun id hi=>hh id (hs id hi)
theorem Agree.upd {L:List Nat}:∀(us:List (Nat×Obj)) {h h':Heap},Agree L h h'->Agree L (ay h us) (ay h' us)
 |[],_,_,hh=>hh
 |u::us,h,h',hh=>by
  refine Agree.upd us (h:=u::h) (h':=u::h') fun id hi=>?_
  obtain ⟨i,o⟩:=u;simp only [ax];rw [hh id hi]
variable {h h':Heap}
theorem VN {agg:Bool} {size:Nat} {d:D} (hh:Agree (match d with|.loc id _=>[id]|_=>[]) h h'):ji h agg size d=ji h' agg size d:=by
 cases d with
 |loc id off=>simp only [ji,hh id (by simp)]
 |_=>rfl
theorem JX {d:D} (hh:Agree (dm d) h h'):nP h d=nP h' d:=by
 cases d with
 |arr id off len=>simp only [nP,hh id (by simp [dm])]
 |_=>rfl
def lF:List D->List Nat
 |[]=>[]
 |.arr id _ _::ds=>id::lF ds
 |_::ds=>lF ds
theorem K4 (ds:List D):lF ds=ds.flatMap fun|.arr id _ _=>[id]|_=>[]:=by
 induction ds with
 |nil=>rfl
 |cons d ds ih=>cases d<;>simp [lF,ih]
theorem Cg {ds:List D} {id:Nat}:id∈lF ds↔∃off len,D.arr id off len∈ds:=by
 induction ds with
 |nil=>simp [lF]
 |cons d ds ih=>
  cases d with
  |arr i o l=>
   simp only [lF,D2,ih];constructor
   ·rintro (rfl|⟨off,len,h⟩)
    ·exact ⟨o,l,.inl rfl⟩
    ·exact ⟨off,len,.inr h⟩
   ·rintro ⟨off,len,h|h⟩
    ·injection h with h1 _ _;exact .inl h1
    ·exact .inr ⟨off,len,h⟩
  |_=>simp [lF,ih]
theorem Gj:∀{ds:List D} {h h':Heap},Agree (lF ds) h h'->jZ h ds=jZ h' ds
 |[],_,_,_=>rfl
 |d::ds,h,h',hh=>by
  have h1:nP h d=nP h' d:=by
   cases d with
   |arr id off len=>exact JX fun i hi=>hh i (by simp only [dm,B8] at hi;simp [lF,hi])
   |_=>rfl
  simp only [jZ,h1];cases hf:nP h' d with
  |none=>rfl
  |some p=>
   obtain ⟨c,u⟩:=p;have h2:jZ (ay h u) ds=jZ (ay h' u) ds:=Gj (Agree.upd u (hh.mono fun id hi=>by cases d<;>simp [lF]<;>first|exact hi|exact .inr hi))
   simp only [A2,A4,h2]
theorem Gz {d:D} (hh:Agree (dm d) h h'):nN h d=nN h' d:=by
 cases d with
 |agg ds=>
  have:jZ h ds=jZ h' ds:=Gj (hh.mono fun id hi=>by rw [K4] at hi;exact hi)
  simp only [nN,this]
 |_=>simp only [nN,JX hh]
theorem K9:∀{ds:List D} {h h':Heap},Agree (ds.flatMap dm) h h'->iX h ds=iX h' ds
 |[],_,_,_=>rfl
 |d::ds,h,h',hh=>by
  have h1:nN h d=nN h' d:=Gz (hh.mono fun id hi=>by simp [hi])
  simp only [iX,h1];cases hf:nN h' d with
  |none=>rfl
  |some p=>
   obtain ⟨c,u⟩:=p;have h2:iX (ay h u) ds=iX (ay h' u) ds:=K9 (Agree.upd u (hh.mono fun id hi=>by rw [D3];exact G2 _ hi))
   simp only [A2,A4,h2]
theorem D5 {aj:Nat} {d:D} (hh:Agree (dm d) h h'):iY h aj d=iY h' aj d:=by
 cases d with
 |arr id off len=>simp only [iY,hh id (by simp [dm])]
 |c x=>unfold iY;split<;>simp_all
 |_=>rfl
theorem XJ {d:D} (hh:Agree (dm d) h h'):Rp h d=Rp h' d:=by
 unfold Rp;split
 ·rfl
 ·exact D5 hh
theorem XW {aj:Nat} {lo hi:Option D} {d:D} (hh:Agree (dm d) h h'):Lt h aj lo hi d=Lt h' aj lo hi d:=by
 cases d with
 |arr id off len=>simp only [Lt,hh id (by simp [dm])]
 |c x=>unfold Lt;split<;>simp_all
 |_=>rfl
theorem VV {aj:Nat} {i:D} {d:D} (hh:Agree (dm d) h h'):CP h aj i d=CP h' aj i d:=by
 cases d with
 |arr id off len=>simp only [CP,hh id (by simp [dm])]
 |c x=>unfold CP;split<;>simp_all
 |_=>rfl
theorem XD {slot aj ety bytes:Nat} {y d:D} (hh:Agree (dm d++dm y) h h'):Kw h slot aj ety bytes y d=Kw h' slot aj ety bytes y d:=by
 have hs:iY h aj y=iY h' aj y:=D5 (hh.mono fun id hi=>by simp [hi])
 cases d with
 |arr id off len=>simp only [Kw,hh id (by simp [dm]),hs]
 |full ds k=>simp only [Kw,hs]
 |_=>rfl
theorem Zl {aj:Nat} {y d:D} (hh:Agree (dm d++dm y) h h'):Vw h aj y d=Vw h' aj y d:=by
 have hs:iY h aj y=iY h' aj y:=D5 (hh.mono fun id hi=>by simp [hi])
 cases d with
 |arr id off len=>simp only [Vw,hh id (by simp [dm]),hs]
 |_=>rfl
theorem SQ {size:Nat} {v d:D} (hh:Agree ((match d with|.loc id _=>[id]|_=>[])++dm v) h h'):AZ h size v d=AZ h' size v d:=by
 have hs:nN h v=nN h' v:=Gz (hh.mono fun id hi=>by simp [hi])
 cases d with
 |loc id off=>
  have h1:=hh id (by simp)
  simp only [AZ,h1,hs];cases ax h' id with
  |arr cs aj fz ety=>
   cases hf:nN h' v with
   |none=>rfl
   |some p=>
    obtain ⟨x,us⟩:=p;simp only [A2,A4];rw [Agree.upd us hh id (by simp)]
  |_=>rfl
 |_=>rfl
theorem D8 {ρ ρ':X->D}:∀{ps:List (Nat×Nat×X)} {cs:List D},(∀p,p∈ps->ρ p.2.2=ρ' p.2.2)->qy ρ cs ps=qy ρ' cs ps
 |[],_,_=>rfl
 |(off,size,x)::ps,cs,hp=>by
  have h1:ρ x=ρ' x:=hp (off,size,x) (by simp)
  simp only [qy,h1];cases cellsD (ρ' x) with
  |none=>rfl
  |some ds=>
   simp only [A2,A4];rw [D8 (fun p h=>hp p (by simp [h]))]
theorem YH {d:D} {ds:List D} (h:cellsD d=some ds):∀id,id∈lF ds->id∈dm d:=by
 intro id hi;unfold cellsD at h;split at h
 ·rename_i ds';split at h
  ·simp only [A0] at h;subst h;rw [K4] at hi;exact hi
  ·cases h
 ·split at h
  ·simp only [A0] at h;subst h;cases d<;>simp [lF] at hi
   simp [dm,hi]
  ·cases h
theorem Qo {ρ:X->D}:∀{ps:List (Nat×Nat×X)} {cs ds:List D},qy ρ cs ps=some ds->∀id,id∈lF ds->id∈lF cs\/id∈ps.flatMap fun p=>dm (ρ p.2.2)
 |[],cs,ds,h,id,hi=>by simp only [qy,A0] at h;subst h;exact .inl hi
 |(off,size,x)::ps,cs,ds,h,id,hi=>by
  simp only [qy,A2,A1] at h;obtain ⟨xs,h1,h2⟩:=h;split at h2
  case isFalse=>cases h2
  rcases Qo h2 id hi with h3|h3
  ·rw [Cg] at h3;obtain ⟨o,l,h4⟩:=h3;unfold splice at h4;simp only [B0] at h4;rcases h4 with (h4|h4)|h4
   ·exact .inl (Cg.2 ⟨o,l,Hs h4⟩)
   ·refine .inr ?_;rw [D3];exact F2 _ (YH h1 id (Cg.2 ⟨o,l,h4⟩))
   ·exact .inl (Cg.2 ⟨o,l,List.mem_of_mem_drop h4⟩)
  ·refine .inr ?_;rw [D3];exact G2 _ h3
theorem adH (cs:List C):lF (cs.map D.c)=[]:=by
 induction cs with
 |nil=>rfl
 |cons c cs ih=>simpa [lF] using ih
theorem WL {call:Callee} {ρ ρ':X->D} {slot:Nat} {ins:Ins} (hx:∀x,x∈mZ ins->ρ x=ρ' x) (hh:Agree (touches ρ ins) h h'):dX call ρ h slot ins=dX call ρ' h' slot ins:=by
 cases ins with
 |YY x=>simp only [dX,step,hx x (by simp [mZ])]
 |pick c a b=>simp only [dX,step,hx c (by simp [mZ]),hx a (by simp [mZ]),hx b (by simp [mZ])]
 |alloc z=>rfl
 |box x=>simp only [dX,step,hx x (by simp [mZ])]
 |build z ps=>
  have:∀cs,qy ρ cs ps=qy ρ' cs ps:=fun cs=>D8 fun p hp=>hx _ (by simp only [mZ];exact J0.2 ⟨p,hp,rfl⟩)
  simp only [dX,step,this]
 |lits a b c z ps=>
  have h1:∀cs,qy ρ cs ps=qy ρ' cs ps:=fun cs=>D8 fun p hp=>hx _ (by simp only [mZ];exact J0.2 ⟨p,hp,rfl⟩)
  simp only [dX,step,<-h1];cases hf:qy ρ ((zeros z c).map .c) ps with
  |none=>rfl
  |some ds=>
   have h2:jZ h ds=jZ h' ds:=Gj (hh.mono fun id hi=>by
    rcases Qo hf id hi with h3|h3
    ·rw [adH] at h3;cases h3
    ·exact h3)
   simp only [A2,A4,h2]
 |load agg size x=>
  have h1:=hx x (by simp [mZ])
  have:ji h agg size (ρ x)=ji h' agg size (ρ x):=VN hh
  rw [h1] at this;simp only [dX,step,this,h1]
 |store size x y=>
  have h1:=hx x (by simp [mZ])
  have h2:=hx y (by simp [mZ])
  have:AZ h size (ρ y) (ρ x)=AZ h' size (ρ y) (ρ x):=SQ hh
  rw [h1,h2] at this;simp only [dX,step,this,h1,h2]
 |FE x=>simp only [dX,step,hx x (by simp [mZ])]
 |bin op b x y=>simp only [dX,step,hx x (by simp [mZ]),hx y (by simp [mZ])]
 |eqs ks b x y=>simp only [dX,step,hx x (by simp [mZ]),hx y (by simp [mZ])]
 |clip aj x lo hi mx=>
  have h1:=hx x (by simp [mZ])
  have h2:=hx hi (by simp [mZ])
  have h3:=hx mx (by simp [mZ])
  have hl:lo.map ρ=lo.map ρ':=by cases lo with|none=>rfl|some y=>simp [hx y (by simp [mZ])]
  have:nP h (ρ x)=nP h' (ρ x):=JX hh
  rw [h1] at this;simp only [dX,step,Qy,this,h1,h2,h3,hl]
 |mkf f xs=>
  have:A9 ρ xs=A9 ρ' xs:=by
   have hx':∀x,x∈xs->ρ x=ρ' x:=fun x hxx=>hx x (by simpa [mZ] using hxx)
   clear hx hh;induction xs with
   |nil=>rfl
   |cons x xs ih=>
    simp only [A9,hx' x (by simp),ih fun y hy=>hx' y (by simp [hy])]
  simp only [dX,step,this]
 |jv x xs=>rfl
 |un op x=>simp only [dX,step,hx x (by simp [mZ])]
 |conv k x=>simp only [dX,step,hx x (by simp [mZ])]
 |toStr x=>
  have h1:=hx x (by simp [mZ])
  have:Rp h (ρ x)=Rp h' (ρ x):=XJ hh
  rw [h1] at this;simp only [dX,step,this,h1]
 |mk a b c z l m=>simp only [dX,step,hx l (by simp [mZ]),hx m (by simp [mZ])]
 |slc aj x lo hi=>
  have h1:=hx x (by simp [mZ])
  have hl:lo.map ρ=lo.map ρ':=by cases lo with|none=>rfl|some y=>simp [hx y (by simp [mZ])]
  have hr:hi.map ρ=hi.map ρ':=by cases hi with|none=>rfl|some y=>simp [hx y (by simp [mZ])]
  have:Lt h aj (lo.map ρ) (hi.map ρ) (ρ x)=Lt h' aj (lo.map ρ) (hi.map ρ) (ρ x):=XW hh
  rw [h1,hl,hr] at this;simp only [dX,step,this,h1,hl,hr]
 |sls x lo hi=>
  have h1:=hx x (by simp [mZ])
  have hl:lo.map ρ=lo.map ρ':=by cases lo with|none=>rfl|some y=>simp [hx y (by simp [mZ])]
  have hr:hi.map ρ=hi.map ρ':=by cases hi with|none=>rfl|some y=>simp [hx y (by simp [mZ])]
  simp only [dX,step,h1,hl,hr]
 |O4 o x=>simp only [dX,step,hx x (by simp [mZ])]
 |fld o a s x=>simp only [dX,step,hx x (by simp [mZ])]
 |Gt aj x i=>
  have h1:=hx x (by simp [mZ])
  have h2:=hx i (by simp [mZ])
  have:CP h aj (ρ i) (ρ x)=CP h' aj (ρ i) (ρ x):=VV hh
  rw [h1,h2] at this;simp only [dX,step,this,h1,h2]
 |BV x i=>simp only [dX,step,hx x (by simp [mZ]),hx i (by simp [mZ])]
 |ext x i=>simp only [dX,step,hx x (by simp [mZ])]
 |len b x=>simp only [dX,step,hx x (by simp [mZ])]
 |app a b c x y=>
  have h1:=hx x (by simp [mZ])
  have h2:=hx y (by simp [mZ])
  have:Kw h slot a b c (ρ y) (ρ x)=Kw h' slot a b c (ρ y) (ρ x):=XD hh
  rw [h1,h2] at this;simp only [dX,step,this,h1,h2]
 |Tf aj x y=>
  have h1:=hx x (by simp [mZ])
  have h2:=hx y (by simp [mZ])
  have:Vw h aj (ρ y) (ρ x)=Vw h' aj (ρ y) (ρ x):=Zl hh
  rw [h1,h2] at this;simp only [dX,step,this,h1,h2]
 |mx x y=>simp only [dX,step,hx x (by simp [mZ]),hx y (by simp [mZ])]
 |mn x y=>simp only [dX,step,hx x (by simp [mZ]),hx y (by simp [mZ])]
 |call f xs=>
  have h1:xs.map ρ=xs.map ρ':=List.map_congr_left fun x hxx=>hx x (by simpa [mZ] using hxx)
  have h2:iX h (xs.map ρ)=iX h' (xs.map ρ):=K9 (hh.mono fun id hi=>by simpa [touches,Lz] using hi)
  rw [h1] at h2;simp only [dX,h2,h1]
 |gU f ow xs=>rfl
 |lH f xs=>rfl
 |mkm=>rfl
 |Pg k n ag z ok x y=>rfl
 |O0 k n x y z=>rfl
theorem VT {ρ ρ':X->D} {slot:Nat} {ins:Ins} (hx:∀x,x∈mZ ins->ρ x=ρ' x) (hh:Agree (touches ρ ins) h h'):aar ρ h slot ins=aar ρ' h' slot ins:=rfl
theorem WR {call:Callee} {ρ ρ':X->D} {slot:Nat} {ins:Ins} (hx:∀x,x∈mZ ins->ρ x=ρ' x) (hh:Agree (touches ρ ins) h h'):og call ρ h slot ins=og call ρ' h' slot ins:=by
 unfold og;split
 ·exact VT hx hh
 ·exact WL hx hh
end Go.Ey
