/- A part. -/
import GoSem.Core.View
import GoSem.Op.String
set_option linter.all false
theorem A0.{u}:type_of% @Option.some.injEq.{u}:=@Option.some.injEq.{u}
theorem A1.{u_1,u_2}:type_of% @Option.bind_eq_some_iff.{u_1,u_2}:=@Option.bind_eq_some_iff.{u_1,u_2}
theorem A2.{u_1}:type_of% @Option.bind_eq_bind.{u_1}:=@Option.bind_eq_bind.{u_1}
theorem A3.{u,v}:type_of% @Prod.mk.injEq.{u,v}:=@Prod.mk.injEq.{u,v}
theorem A4.{u_1,u_2}:type_of% @Option.bind_some.{u_1,u_2}:=@Option.bind_some.{u_1,u_2}
theorem A5.{u_1}:type_of% @List.getElem_mem.{u_1}:=@List.getElem_mem.{u_1}
theorem A6:type_of% @Int.natCast_zero:=@Int.natCast_zero
theorem An.{u}:type_of% @List.drop_zero.{u}:=@List.drop_zero.{u}
theorem As:type_of% @Bool.and_eq_true:=@Bool.and_eq_true
theorem Ax.{u_1}:type_of% @List.getElem?_eq_getElem.{u_1}:=@List.getElem?_eq_getElem.{u_1}
theorem B0.{u_1}:type_of% @List.getElem?_eq_some_iff.{u_1}:=@List.getElem?_eq_some_iff.{u_1}
theorem B8.{u}:type_of% @List.length_append.{u}:=@List.length_append.{u}
theorem B9:type_of% @Nat.le_refl:=@Nat.le_refl
theorem Bk.{u}:type_of% @List.append_assoc.{u}:=@List.append_assoc.{u}
theorem Bm.{u}:type_of% @List.length_cons.{u}:=@List.length_cons.{u}
theorem Bx.{u_1}:type_of% @List.mem_append.{u_1}:=@List.mem_append.{u_1}
theorem By.{u_1}:type_of% @List.mem_singleton.{u_1}:=@List.mem_singleton.{u_1}
theorem C0.{u_1,u_2}:type_of% @Prod.exists.{u_1,u_2}:=@Prod.exists.{u_1,u_2}
theorem C1.{u_1}:type_of% @beq_eq_false_iff_ne.{u_1}:=@beq_eq_false_iff_ne.{u_1}
theorem C2:type_of% @Bool.false_eq_true:=@Bool.false_eq_true
theorem C3.{u_1}:type_of% @Array.getElem?_eq_some_iff.{u_1}:=@Array.getElem?_eq_some_iff.{u_1}
theorem C4.{u}:type_of% @if_pos.{u}:=@if_pos.{u}
theorem C5:type_of% @Nat.eq_of_beq_eq_true:=@Nat.eq_of_beq_eq_true
theorem C6.{u_1}:type_of% @List.getElem?_cons_succ.{u_1}:=@List.getElem?_cons_succ.{u_1}
theorem C7.{u_1}:type_of% @List.mem_of_getElem?.{u_1}:=@List.mem_of_getElem?.{u_1}
theorem Cd.{u_1}:type_of% @if_false.{u_1}:=@if_false.{u_1}
theorem Cl:type_of% @Nat.mul_le_mul_right:=@Nat.mul_le_mul_right
theorem Cp.{u,v}:type_of% @List.map_cons.{u,v}:=@List.map_cons.{u,v}
theorem D0.{u}:type_of% @List.append_nil.{u}:=@List.append_nil.{u}
theorem D1.{u_1}:type_of% @List.mem_cons.{u_1}:=@List.mem_cons.{u_1}
theorem D2.{u_1}:type_of% @List.getElem?_cons_zero.{u_1}:=@List.getElem?_cons_zero.{u_1}
theorem D3.{u,v}:type_of% @List.flatMap_cons.{u,v}:=@List.flatMap_cons.{u,v}
theorem D4.{u}:type_of% @List.nil_append.{u}:=@List.nil_append.{u}
theorem Dd.{u}:type_of% @if_neg.{u}:=@if_neg.{u}
theorem Dg:type_of% @Nat.le_trans:=@Nat.le_trans
theorem E0.{u_1}:type_of% @List.all_eq_true.{u_1}:=@List.all_eq_true.{u_1}
theorem E1:type_of% @Nat.zero_add:=@Nat.zero_add
theorem E2.{u_1}:type_of% @List.mem_cons_of_mem.{u_1}:=@List.mem_cons_of_mem.{u_1}
theorem E3.{u}:type_of% @List.cons_append.{u}:=@List.cons_append.{u}
theorem E4.{u_1}:type_of% @cond_false.{u_1}:=@cond_false.{u_1}
theorem E6.{u}:type_of% @List.cons.injEq.{u}:=@List.cons.injEq.{u}
theorem E7.{u_1}:type_of% @List.eq_nil_of_length_eq_zero.{u_1}:=@List.eq_nil_of_length_eq_zero.{u_1}
theorem Ek.{u_1}:type_of% @if_true.{u_1}:=@if_true.{u_1}
theorem F0.{u,v}:type_of% @congrArg.{u,v}:=@congrArg.{u,v}
theorem F1:type_of% @decide_eq_true_eq:=@decide_eq_true_eq
theorem F2.{u}:type_of% @List.length_nil.{u}:=@List.length_nil.{u}
theorem Fc.{u_1,u_2}:type_of% @Option.map_eq_some_iff.{u_1,u_2}:=@Option.map_eq_some_iff.{u_1,u_2}
theorem Fi.{u_1}:type_of% @cond_true.{u_1}:=@cond_true.{u_1}
theorem Fk:type_of% @Nat.lt_of_lt_of_le:=@Nat.lt_of_lt_of_le
theorem Fl.{u_1}:type_of% @List.getElem?_take_of_lt.{u_1}:=@List.getElem?_take_of_lt.{u_1}
theorem Fm.{u_1}:type_of% @List.mem_cons_self.{u_1}:=@List.mem_cons_self.{u_1}
theorem Fo.{u_1}:type_of% @List.length_take.{u_1}:=@List.length_take.{u_1}
theorem Ft:type_of% @Nat.zero_le:=@Nat.zero_le
theorem G0.{u_1}:type_of% @List.length_drop.{u_1}:=@List.length_drop.{u_1}
theorem G1:type_of% @Bool.false_or:=@Bool.false_or
theorem G2:type_of% @Nat.succ_mul:=@Nat.succ_mul
theorem G3.{u_1,u_2}:type_of% @Option.map_some.{u_1,u_2}:=@Option.map_some.{u_1,u_2}
theorem Ge.{u_1}:type_of% @List.getElem?_append_left.{u_1}:=@List.getElem?_append_left.{u_1}
theorem Gk.{u_1}:type_of% @List.drop_eq_getElem_cons.{u_1}:=@List.drop_eq_getElem_cons.{u_1}
theorem Hh.{u,v}:type_of% @List.foldl_cons.{u,v}:=@List.foldl_cons.{u,v}
theorem Hj.{u_1}:type_of% @List.getElem?_eq_none.{u_1}:=@List.getElem?_eq_none.{u_1}
theorem Hp:type_of% @Nat.add_zero:=@Nat.add_zero
theorem Hs.{u_1}:type_of% @List.nodup_append.{u_1}:=@List.nodup_append.{u_1}
theorem Hv.{u_1}:type_of% @List.getElem?_append_right.{u_1}:=@List.getElem?_append_right.{u_1}
theorem Hx:type_of% @Bool.eq_iff_iff:=@Bool.eq_iff_iff
theorem I0.{u_1}:type_of% @List.take_length.{u_1}:=@List.take_length.{u_1}
theorem I2.{u_1}:type_of% @List.mem_of_mem_take.{u_1}:=@List.mem_of_mem_take.{u_1}
theorem I3.{u_1}:type_of% @List.any_eq_true.{u_1}:=@List.any_eq_true.{u_1}
theorem Is:type_of% @Int.toNat_natCast:=@Int.toNat_natCast
theorem It:type_of% @Bool.not_eq_true':=@Bool.not_eq_true'
theorem Iv.{u_1}:type_of% @List.all_cons.{u_1}:=@List.all_cons.{u_1}
theorem Ix.{u_1}:type_of% @List.nodup_nil.{u_1}:=@List.nodup_nil.{u_1}
theorem J0.{u}:type_of% @List.mem_append_left.{u}:=@List.mem_append_left.{u}
theorem J1:type_of% @of_decide_eq_true:=@of_decide_eq_true
theorem Jx.{u}:type_of% @Option.some.inj.{u}:=@Option.some.inj.{u}
theorem K0.{u_1}:type_of% @List.nodup_cons.{u_1}:=@List.nodup_cons.{u_1}
theorem K1.{u_1,u_2}:type_of% @List.map_append.{u_1,u_2}:=@List.map_append.{u_1,u_2}
theorem K2.{u_1}:type_of% @List.take_of_length_le.{u_1}:=@List.take_of_length_le.{u_1}
theorem Kf.{u_1,u_2}:type_of% @List.mem_map.{u_1,u_2}:=@List.mem_map.{u_1,u_2}
theorem Kp:type_of% @Nat.lt_succ_self:=@Nat.lt_succ_self
theorem Ks:type_of% @List.mem_range:=@List.mem_range
theorem Kx.{u}:type_of% @List.mem_append_right.{u}:=@List.mem_append_right.{u}
theorem L1:type_of% @Classical.byContradiction:=@Classical.byContradiction
theorem L5.{u_1}:type_of% @Array.getElem?_eq_getElem.{u_1}:=@Array.getElem?_eq_getElem.{u_1}
theorem L7:type_of% @true_and:=@true_and
theorem Ln.{u,v}:type_of% @List.map_nil.{u,v}:=@List.map_nil.{u,v}
theorem Lw.{u_1}:type_of% @beq_iff_eq.{u_1}:=@beq_iff_eq.{u_1}
theorem Ly.{u}:type_of% @List.take_succ_cons.{u}:=@List.take_succ_cons.{u}
theorem Lz.{u}:type_of% @List.drop_succ_cons.{u}:=@List.drop_succ_cons.{u}
theorem M1.{u_1}:type_of% @List.take_append_of_le_length.{u_1}:=@List.take_append_of_le_length.{u_1}
theorem Mb:type_of% @Nat.lt_or_ge:=@Nat.lt_or_ge
theorem Mn.{u_1,u_2}:type_of% @List.length_map.{u_1,u_2}:=@List.length_map.{u_1,u_2}
theorem Mp:type_of% @Int.natCast_one:=@Int.natCast_one
theorem Mu.{u_1}:type_of% @List.take_append_drop.{u_1}:=@List.take_append_drop.{u_1}
theorem My:type_of% @Nat.le_of_not_lt:=@Nat.le_of_not_lt
theorem Mz.{u_1,u_2,u_3}:type_of% @List.flatMap_map.{u_1,u_2,u_3}:=@List.flatMap_map.{u_1,u_2,u_3}
theorem N0:type_of% @Nat.not_lt_zero:=@Nat.not_lt_zero
theorem N2:type_of% @Nat.ble_eq:=@Nat.ble_eq
theorem N3.{u_1}:type_of% @List.getElem?_drop.{u_1}:=@List.getElem?_drop.{u_1}
theorem N4:type_of% @Nat.le_succ:=@Nat.le_succ
theorem N5:type_of% @Nat.add_mul:=@Nat.add_mul
theorem N6:type_of% @decide_false:=@decide_false
theorem Nd:type_of% @Nat.pow_succ:=@Nat.pow_succ
theorem Nx.{u_1}:type_of% @Array.getElem?_eq_none.{u_1}:=@Array.getElem?_eq_none.{u_1}
theorem O2.{u_1}:type_of% @eq_comm.{u_1}:=@eq_comm.{u_1}
theorem Of.{u_1}:type_of% @List.drop_append_of_le_length.{u_1}:=@List.drop_append_of_le_length.{u_1}
namespace Go.Ey
inductive C where
 |lit (v:Value)
 |slice (cells:List C) (n:Nat)
inductive V where
 |one (c:C)
 |agg (cs:List C)
 |full (cs:List C) (n:Nat)
inductive D where
 |uf
 |c (x:C)
 |loc (id off:Nat)
 |arr (id off len:Nat)
 |ptr (cs:List C)
 |full (cs:List C) (n:Nat)
 |fD (f:Nat) (caps:List (Nat×Nat))
 |mp (id:Nat)
 |agg (ds:List D)
 |lC (ds:List D)
inductive Obj where
 |dead
 |box (ds:List D)
 |arr (cs:List C) (ay fz ety:Nat)
 |map (es:List (V×V))
abbrev Env:=List (Nat×D)
abbrev Heap:=List (Nat×Obj)
def iM:Env->Nat->D
 |[],_=> .uf
 |(t',d)::r,t=>if t'=t then d else iM r t
def aH:Heap->Nat->Obj
 |[],_=> .dead
 |(i',o)::r,i=>if i'=i then o else aH r i
def aK (h:Heap):List (Nat×Obj)->Heap
 |[]=>h
 |u::us=>aK (u::h) us
def scalar:Value->Bool
 |.int _ _|.bool _|.float _ _|.complex _ _ _|.string _|.pointer none|.map none|.nilFunc|.nilIface=>true
 |_=>false
def GJ:Value->C
 |.slice none 0 0=> .slice [] 0
 |v=> .lit v
def PZ:Value->D
 |.slice none 0 0=> .full [] 0
 |v=> .c (.lit v)
inductive X where
 |t (n:Nat)
 |k (v:Value)
 |f (n:Nat)
inductive Ins where
 |ZN (x:X)
 |pick (c a b:X)
 |alloc (zero:List Value)
 |box (x:X)
 |build (zero:List Value) (parts:List (Nat×Nat×X))
 |lits (ay ety len:Nat) (zero:List Value) (parts:List (Nat×Nat×X))
 |load (agg:Bool) (size:Nat) (x:X)
 |store (size:Nat) (a v:X)
 |GY (x:X)
 |bin (op:BinOp) (K4:Bool) (x y:X)
 |eqs (ks:List Nat) (neg:Bool) (x y:X)
 |un (op:UnOp) (x:X)
 |conv (k:IntKind) (x:X)
 |toStr (x:X)
 |mk (ay ety bytes:Nat) (zero:List Value) (l c:X)
 |slc (ay:Nat) (x:X) (lo hi:Option X)
 |clip (ay:Nat) (x:X) (lo:Option X) (hi mx:X)
 |sls (x:X) (lo hi:Option X)
 |Qa (off:Nat) (x:X)
 |fld (off:Nat) (agg:Bool) (size:Nat) (x:X)
 |Iq (ay:Nat) (x i:X)
 |Ct (x i:X)
 |ext (x:X) (i:Nat)
 |len (isStr:Bool) (x:X)
 |app (ay ety bytes:Nat) (x y:X)
 |R6 (ay:Nat) (x y:X)
 |mx (x y:X)
 |mn (x y:X)
 |mkf (f:Nat) (caps:List X)
 |call (f:Nat) (args:List X)
 |jB (f:Nat) (own:Nat) (args:List X)
 |mV (f:Nat) (args:List X)
 |kX (x:X) (args:List X)
 |mkm
 |PY (kind n:Nat) (agg:Bool) (zero:List Value) (ok:Bool) (x k:X)
 |PX (kind n:Nat) (x k v:X)
structure jl where
 dst:Option Nat
 ins:Ins
 guard:Option (Nat×Bool)
inductive jA where
 |skip
 |region (is:List jl)
 |draw (is:List jl) (ws:List Nat)
 |mix (is:List jl) (ws:List Nat)
 |seq (a b:jA)
 |cond (c:X) (a b:jA)
 |block (id:Nat) (c:jA)
 |loop (c:jA)
 |exit (id:Nat)
 |ret
inductive Res where
 |tmp (t:Nat)
 |cell (t:Nat) (agg:Bool) (size:Nat)
structure Pj where
 nparams:Nat
 res:List Res
 body:jA
inductive Ex where
 |normal
 |exit (id:Nat)
 |ret
def lQ (op:BinOp) (k:IntKind) (a b:Int):Option Value:=
 match op with
 |.add=>some (.int k (k.wrap (a+b)))
 |.sub=>some (.int k (k.wrap (a - b)))
 |.mul=>some (.int k (k.wrap (a * b)))
 |.quo=>if b=0 then none else some (.int k (k.wrap (a.tdiv b)))
 |.rem=>if b=0 then none else some (.int k (a.tmod b))
 |.and=>some (.int k (k.wrap (BitVec.ofInt k.bits a &&& BitVec.ofInt k.bits b).toNat))
 |.or=>some (.int k (k.wrap (BitVec.ofInt k.bits a|||BitVec.ofInt k.bits b).toNat))
 |.xor=>some (.int k (k.wrap (BitVec.ofInt k.bits a ^^^ BitVec.ofInt k.bits b).toNat))
 |.andNot=>some (.int k (k.wrap (BitVec.ofInt k.bits a &&& ~~~ BitVec.ofInt k.bits b).toNat))
 |.eql=>some (.bool (a==b))
 |.neq=>some (.bool (a !=b))
 |.lss=>some (.bool (decide (a < b)))
 |.leq=>some (.bool (decide (a<=b)))
 |.gtr=>some (.bool (decide (a > b)))
 |.geq=>some (.bool (decide (a>=b)))
 |_=>none
def FT (op:BinOp) (k:IntKind) (a b:Int):Option Value:=
 if b < 0 then none else
 match op with
 |.shl=>some (.int k (k.wrap (a * 2 ^ (min b.toNat k.bits))))
 |.shr=>some (.int k (a.fdiv (2 ^ (min b.toNat k.bits))))
 |_=>none
def jr:BinOp->Bool
 |.shl|.shr=>true
 |_=>false
def Fz (op:BinOp) (a b:ByteArray):Option Value:=
 match op with
 |.eql=>some (.bool (a.toList==b.toList))
 |.neq=>some (.bool !(a.toList==b.toList))
 |.add=>if a.size+b.size<=140737488355328 then some (.string (a++b)) else none
 |.lss=>some (.bool (Op.bytesLess a.toList b.toList))
 |.gtr=>some (.bool !(Op.bytesLess a.toList b.toList||a.toList==b.toList))
 |_=>none
def wR (op:BinOp):Value->Value->Option Value
 |.int k a,.int k' b=>if jr op then FT op k a b else if k=k' then lQ op k a b else none
 |.string a,.string b=>Fz op a b
 |_,_=>none
def NB (op:BinOp):Value->Value->Option Value
 |.bool a,.bool b=>(match op with
  |.eql=>some (.bool (a==b))
  |.neq=>some (.bool !(a==b))
  |_=>none)
 |_,_=>none
def unV (op:UnOp):Value->Option Value
 |.int k a=>(match op with
  |.neg=>some (.int k (k.wrap (0 - a)))
  |.xor=>some (.int k (k.wrap (BitVec.ofInt k.bits (if k.signed then -1 else k.max) ^^^ BitVec.ofInt k.bits a).toNat))
  |_=>none)
 |.bool b=>(match op with
  |.not=>some (.bool !b)
  |_=>none)
 |_=>none
def Kt:Nat->C->C->Option Bool
 |0,.lit (.int k a),.lit (.int k' b)=>if k=k' then some (a==b) else none
 |1,.lit (.string a),.lit (.string b)=>some (a.toList==b.toList)
 |2,.lit (.bool a),.lit (.bool b)=>some (a==b)
 |_,_,_=>none
def Zr:List Nat->List D->List D->Option Bool
 |[],[],[]=>some true
 |k::ks,.c a::aY,.c b::bs=>do
  let x <-Kt k a b
  let y <-Zr ks aY bs
  some (x && y)
 |_,_,_=>none
def ai8 (ks:List Nat) (neg:Bool):D->D->Option D
 |.agg aY,.agg bs=>(Zr ks aY bs).map fun b=> .c (.lit (.bool (if neg then !b else b)))
 |_,_=>none
def CF:D->Option Value
 |.c (.lit v)=>some v
 |_=>none
def asInt:D->Option Int
 |.c (.lit (.int _ n))=>some n
 |_=>none
def asBool:D->Option Bool
 |.c (.lit (.bool b))=>some b
 |_=>none
def K9 (n:Int):D:=.c (.lit (.int .i64 n))
def oo (h:Heap):D->Option (C×List (Nat×Obj))
 |.c x=>some (x,[])
 |.full cs n=>some (.slice cs n,[])
 |.arr id off len=>
  match aH h id with
  |.arr cs ay fz ety=>
   if off+len * ay<=cs.length then
    some (.slice ((cs.drop off).take (len * ay)) len,if off+len * ay<=fz then [] else [(id,.arr cs ay (off+len * ay) ety)])
   else none
  |_=>none
 |_=>none
def lZ (h:Heap):List D->Option (List C×List (Nat×Obj))
 |[]=>some ([],[])
 |d::ds=>do
  let (c,u) <-oo h d
  let (cs,us) <-lZ (aK h u) ds
  some (c::cs,u++us)
def nP (h:Heap):D->Option (V×List (Nat×Obj))
 |.agg ds=>do
  let (cs,us) <-lZ h ds
  some (.agg cs,us)
 |d=>do
  let (c,u) <-oo h d
  some (.one c,u)
def jV (h:Heap):List D->Option (List V×List (Nat×Obj))
 |[]=>some ([],[])
 |d::ds=>do
  let (v,u) <-nP h d
  let (vs,us) <-jV (aK h u) ds
  some (v::vs,u++us)
def V.nE:V->D
 |.one c=> .c c
 |.agg cs=> .agg (cs.map .c)
 |.full cs n=> .full cs n
def Sr:List V->D
 |[v]=>v.nE
 |vs=> .lC (vs.map V.nE)
def V.cells:V->List C
 |.one c=>[c]
 |.agg cs=>cs
 |.full cs n=>[.slice cs n]
def HZ:D->Bool
 |.c _|.loc _ _|.arr _ _ _|.ptr _|.full _ _|.fD _ _|.mp _=>true
 |_=>false
def cellsD:D->Option (List D)
 |.agg ds=>if ds.all HZ then some ds else none
 |d=>if HZ d then some [d] else none
def splice {α:Type} (l:List α) (off:Nat) (xs:List α):List α:=l.take off++xs++l.drop (off+xs.length)
def r9 (ρ:X->D):List D->List (Nat×Nat×X)->Option (List D)
 |cs,[]=>some cs
 |cs,(off,size,x)::r=>do
  let ds <-cellsD (ρ x)
  if ds.length=size/\off+size<=cs.length then r9 ρ (splice cs off ds) r else none
def jU (h:Heap) (ay:Nat):D->Option (List C×Nat)
 |.full cs n=>if cs.length=n * ay then some (cs,n) else none
 |.c (.slice cs n)=>if cs.length=n * ay then some (cs,n) else none
 |.c (.lit (.string s))=>if ay=1 then some (s.data.toList.map fun b=> .lit (.int .u8 b.toNat),s.size) else none
 |.arr id off len=>
  match aH h id with
  |.arr cs jW _ _=>if jW=ay/\off+len * ay<=cs.length then some ((cs.drop off).take (len * ay),len) else none
  |_=>none
 |_=>none
def Ug (h:Heap):D->Option (List C×Nat)
 |.c (.lit (.string _))=>none
 |d=>jU h 1 d
def bytesOf:List C->Option (List UInt8)
 |[]=>some []
 |.lit (.int .u8 n)::r=>do
  let bs <-bytesOf r
  some (UInt8.ofNat n.toNat::bs)
 |_=>none
def zeros (zero:List Value):Nat->List C
 |0=>[]
 |n+1=>zero.map GJ++zeros zero n
def aB:Nat:=140737488355328
abbrev Stepped:=Option (D×List (Nat×Obj))
def dS (d:Option D):Stepped:=d.map fun x=>(x,[])
def kG (h:Heap) (agg:Bool) (size:Nat):D->Option D
 |.loc id off=>
  match aH h id with
  |.box ds=>if agg then (if off+size<=ds.length then some (.agg ((ds.drop off).take size)) else none) else ds[off]?
  |.arr cs _ _ _=>if agg then (if off+size<=cs.length then some (.agg (((cs.drop off).take size).map .c)) else none) else (cs[off]?).map .c
  |.map _=>none
  |.dead=>none
 |.ptr cs=>if agg then (if size<=cs.length then some (.agg ((cs.take size).map .c)) else none) else (cs[0]?).map .c
 |_=>none
def Ch (h:Heap) (size:Nat) (v:D):D->Stepped
 |.loc id off=>
  match aH h id with
  |.box ds=>do
   let xs <-cellsD v
   if xs.length=size/\off+size<=ds.length then some (.uf,[(id,.box (splice ds off xs))]) else none
  |.arr _ _ _ _=>do
   let (x,us) <-nP h v
   match aH (aK h us) id with
   |.arr cs ay fz ety=>
    if x.cells.length=size/\off+size<=cs.length/\fz<=off then some (.uf,us++[(id,.arr (splice cs off x.cells) ay fz ety)]) else none
   |_=>none
  |.map _=>none
  |.dead=>none
 |_=>none
def P7 (lo:Option D):Option Nat:=
 match lo with
 |none=>some 0
 |some d=>do
  let n <-asInt d
  if 0<=n then some n.toNat else none
def Ju (len:Nat) (hi:Option D):Option Nat:=
 match hi with
 |none=>some len
 |some d=>do
  let n <-asInt d
  if 0<=n then some n.toNat else none
def MB (ay:Nat) (cs:List C) (n:Nat) (lo hi:Option D):Option (List C×Nat):=do
 let l <-P7 lo
 let r <-Ju n hi
 if l<=r/\r<=n then some ((cs.drop (l * ay)).take ((r - l) * ay),r - l) else none
def ME (h:Heap) (ay:Nat) (lo hi:Option D):D->Option D
 |.c (.slice cs n)=>do
  let (xs,k) <-MB ay cs n lo hi
  some (.c (.slice xs k))
 |.full cs n=>do
  let (xs,k) <-MB ay cs n lo hi
  some (.c (.slice xs k))
 |.arr id off len=>
  match aH h id with
  |.arr _ jW _ _=>do
   let l <-P7 lo
   let r <-Ju len hi
   if jW=ay/\l<=r/\r<=len then some (.arr id (off+l * ay) (r - l)) else none
  |_=>none
 |_=>none
def Qx (h:Heap) (ay:Nat) (lo:Option D) (hi mx d:D):Stepped:=do
 let a <-asInt hi
 let b <-asInt mx
 let (c,us) <-oo h d
 match c with
 |.slice cs n=>do
  let (xs,k) <-MB ay cs n lo (some hi)
  if a=b then some (.full xs k,us) else none
 |_=>none
def amo (lo hi:Option D):D->Option D
 |.c (.lit (.string s))=>do
  let l <-P7 lo
  let r <-Ju s.size hi
  if l<=r/\r<=s.size then some (.c (.lit (.string (s.extract l r)))) else none
 |_=>none
def Ej (h:Heap) (ay:Nat) (i:D):D->Option D
 |.arr id off len=>
  match aH h id with
  |.arr _ _ _ _=>do
   let n <-asInt i
   if 0<=n/\n < len then some (.loc id (off+n.toNat * ay)) else none
  |_=>none
 |.c (.slice cs m)=>do
  let n <-asInt i
  if 0<=n/\n < m then some (.ptr (cs.drop (n.toNat * ay))) else none
 |.full cs m=>do
  let n <-asInt i
  if 0<=n/\n < m then some (.ptr (cs.drop (n.toNat * ay))) else none
 |_=>none
def O1 (isStr:Bool):D->Option D
 |.arr _ _ len=>if isStr then none else some (K9 len)
 |.c (.slice _ n)=>if isStr then none else some (K9 n)
 |.full _ n=>if isStr then none else some (K9 n)
 |.c (.lit (.string s))=>if isStr then some (K9 s.size) else none
 |_=>none
def Lt (h:Heap) (slot ay ety bytes:Nat) (y:D):D->Stepped
 |.full ds m=>do
  let (cs,n) <-jU h ay y
  if cs.length=n * ay/\ds.length=m * ay/\(m+n) * bytes<=aB/\0 < ay/\m+n<=aB then
   (if n=0 then some (.full ds m,[]) else some (.arr slot 0 (m+n),[(slot,.arr (ds++cs) ay 0 ety)]))
  else none
 |.arr id off len=>
  match aH h id with
  |.arr xs jW fz mh=>do
   let (cs,n) <-jU h ay y
   if cs.length=n * ay/\(len+n) * bytes<=aB/\0 < ay/\len+n<=aB/\off=0/\jW=ay/\mh=ety/\fz<=len * ay/\len * ay<=xs.length then
    some (.arr slot 0 (len+n),[(id,.dead),(slot,.arr (xs.take (len * ay)++cs) ay fz ety)])
   else none
  |_=>none
 |_=>none
def Vx (h:Heap) (ay:Nat) (y:D):D->Stepped
 |.arr id off len=>
  match aH h id with
  |.arr xs jW fz ety=>do
   let (cs,n) <-jU h ay y
   if cs.length=n * ay/\jW=ay/\fz<=off/\off+len * ay<=xs.length then
    some (K9 (min n len:Nat),[(id,.arr (splice xs off (cs.take (min n len * ay))) ay fz ety)])
   else none
  |_=>none
 |_=>none
def AB (isMax:Bool):Value->Value->Option Value
 |.int k x,.int _ y=>some (.int k (if isMax then (if y > x then y else x) else (if y < x then y else x)))
 |_,_=>none
def Cj (ρ:X->D):List X->Option (List (Nat×Nat))
 |[]=>some []
 |x::xs=>match ρ x with
  |.loc id off=>do
   let r <-Cj ρ xs
   some ((id,off)::r)
  |_=>none
def step (ρ:X->D) (h:Heap) (slot:Nat):Ins->Stepped
 |.ZN x=>dS (some (ρ x))
 |.pick c a b=>dS (do
   let t <-asBool (ρ c)
   some (if t then ρ a else ρ b))
 |.alloc zero=>some (.loc slot 0,[(slot,.box (zero.map PZ))])
 |.box x=>do
  let ds <-cellsD (ρ x)
  some (.loc slot 0,[(slot,.box ds)])
 |.build zero parts=>dS (do
   let ds <-r9 ρ (zero.map PZ) parts
   some (.agg ds))
 |.lits ay ety len zero parts=>do
  let ds <-r9 ρ ((zeros zero len).map .c) parts
  let (cs,us) <-lZ h ds
  if cs.length=len * ay/\len<=aB then some (.arr slot 0 len,us++[(slot,.arr cs ay 0 ety)]) else none
 |.load agg size x=>dS (kG h agg size (ρ x))
 |.store size a v=>Ch h size (ρ v) (ρ a)
 |.GY x=>(match ρ x with
  |.loc id off=>some (.loc id off,[])
  |.ptr cs=>some (.ptr cs,[])
  |_=>none)
 |.bin op K4 x y=>dS (do
   let a <-CF (ρ x)
   let b <-CF (ρ y)
   (if K4 then NB op a b else wR op a b).map fun v=> .c (.lit v))
 |.eqs ks neg x y=>dS (ai8 ks neg (ρ x) (ρ y))
 |.un op x=>dS (do
   let a <-CF (ρ x)
   (unV op a).map fun v=> .c (.lit v))
 |.conv k x=>dS (do
   let n <-asInt (ρ x)
   some (.c (.lit (.int k (k.wrap n)))))
 |.toStr x=>dS (do
   let (cs,n) <-Ug h (ρ x)
   let bs <-bytesOf cs
   if cs.length=n then some (.c (.lit (.string ⟨bs.toArray⟩))) else none)
 |.mk ay ety bytes zero l c=>do
  let n <-asInt (ρ l)
  let m <-asInt (ρ c)
  if 0<=n/\n<=m/\m.toNat * bytes<=aB/\m.toNat<=aB/\zero.length=ay then some (.arr slot 0 n.toNat,[(slot,.arr (zeros zero n.toNat) ay 0 ety)]) else none
 |.slc ay x lo hi=>dS (ME h ay (lo.map ρ) (hi.map ρ) (ρ x))
 |.clip ay x lo hi mx=>Qx h ay (lo.map ρ) (ρ hi) (ρ mx) (ρ x)
 |.sls x lo hi=>dS (amo (lo.map ρ) (hi.map ρ) (ρ x))
 |.Qa off x=>(match ρ x with
  |.loc id o=>some (.loc id (o+off),[])
  |.ptr cs=>some (.ptr (cs.drop off),[])
  |_=>none)
 |.fld off agg size x=>(match ρ x with
  |.agg ds=>if agg then (if off+size<=ds.length then some (.agg ((ds.drop off).take size),[]) else none) else dS ds[off]?
  |_=>none)
 |.Iq ay x i=>dS (Ej h ay (ρ i) (ρ x))
 |.Ct x i=>dS (match ρ x with
  |.c (.lit (.string s))=>do
   let n <-asInt (ρ i)
   if 0<=n then (s.data[n.toNat]?).map fun b=> .c (.lit (.int .u8 b.toNat)) else none
  |_=>none)
 |.ext x i=>dS (match ρ x with
  |.lC ds=>ds[i]?
  |_=>none)
 |.len isStr x=>dS (O1 isStr (ρ x))
 |.app ay ety bytes x y=>Lt h slot ay ety bytes (ρ y) (ρ x)
 |.R6 ay x y=>Vx h ay (ρ y) (ρ x)
 |.mx x y=>dS (do
   let a <-CF (ρ x)
   let b <-CF (ρ y)
   (AB true a b).map fun v=> .c (.lit v))
 |.mn x y=>dS (do
   let a <-CF (ρ x)
   let b <-CF (ρ y)
   (AB false a b).map fun v=> .c (.lit v))
 |.mkf f xs=>dS (do
   let ls <-Cj ρ xs
   some (.fD f ls))
 |.call _ _=>none
 |.jB _ _ _=>none
 |.mV _ _=>none
 |.kX _ _=>none
 |.mkm=>none
 |.PY _ _ _ _ _ _ _=>none
 |.PX _ _ _ _ _=>none
def zT (e:Env):X->D
 |.t n=>iM e n
 |.k v=>if scalar v then .c (.lit v) else (match v with|.slice none 0 0=> .full [] 0|_=> .uf)
 |.f n=> .fD n []
def l8 (e:Env) (dst:Option Nat) (d:D):Env:=
 match dst with
 |some t=>(t,d)::e
 |none=>e
def wanted (e:Env):Option (Nat×Bool)->Option Bool
 |none=>some true
 |some (t,want)=>(match iM e t with
  |.c (.lit (.bool b))=>some (b==want)
  |.lC []=>some false
  |_=>none)
structure St where
 env:Env
 heap:Heap
 nx:Nat
def AZ:D:=.lC []
def dI:D->List Nat
 |.arr id _ _=>[id]
 |.agg ds=>ds.flatMap fun
  |.arr id _ _=>[id]
  |_=>[]
 |_=>[]
def zu (d:D):List Nat:=match d with|.loc id _=>[id]|d=>dI d
def touches (ρ:X->D):Ins->List Nat
 |.load _ _ x=>(match ρ x with|.loc id _=>[id]|_=>[])
 |.store _ a v=>(match ρ a with|.loc id _=>[id]|_=>[])++dI (ρ v)
 |.lits _ _ _ _ ps=>ps.flatMap fun p=>dI (ρ p.2.2)
 |.toStr x=>dI (ρ x)
 |.slc _ x _ _=>dI (ρ x)
 |.clip _ x _ _ _=>dI (ρ x)
 |.Iq _ x _=>dI (ρ x)
 |.app _ _ _ x y=>dI (ρ x)++dI (ρ y)
 |.R6 _ x y=>dI (ρ x)++dI (ρ y)
 |.call _ xs=>xs.flatMap fun x=>dI (ρ x)
 |.mV _ xs=>xs.flatMap fun x=>zu (ρ x)
 |.PY _ _ _ _ _ x _=>(match ρ x with|.mp id=>[id]|_=>[])
 |.PX _ _ x _ v=>(match ρ x with|.mp id=>[id]|_=>[])++dI (ρ v)
 |_=>[]
def nM:Ins->List X
 |.ZN x|.box x|.load _ _ x|.GY x|.un _ x|.conv _ x|.toStr x|.Qa _ x|.fld _ _ _ x|.ext x _|.len _ x=>[x]
 |.pick c a b=>[c,a,b]
 |.alloc _|.mkm=>[]
 |.PY _ _ _ _ _ x k=>[x,k]
 |.PX _ _ x k v=>[x,k,v]
 |.build _ ps|.lits _ _ _ _ ps=>ps.map (·.2.2)
 |.store _ a v|.bin _ _ a v|.eqs _ _ a v|.mk _ _ _ _ a v|.Iq _ a v|.Ct a v|.app _ _ _ a v|.R6 _ a v|.mx a v|.mn a v=>[a,v]
 |.slc _ x lo hi|.sls x lo hi=>x::lo.toList++hi.toList
 |.clip _ x lo hi mx=>x::lo.toList++[hi,mx]
 |.mkf _ xs|.call _ xs|.jB _ _ xs|.mV _ xs=>xs
 |.kX x xs=>x::xs
def Bo (xs:List X):List Nat:=xs.filterMap fun|.t n=>some n|_=>none
structure Trace where
 rdT:List Nat
 XD:List Nat
 Yu:List Nat
 XE:List Nat
def meets (a b:List Nat):Bool:=a.any fun x=>b.contains x
def clash (a b:Trace):Bool:=
 meets a.XD (b.rdT++b.XD)||meets b.XD a.rdT||meets a.XE (b.Yu++b.XE)||meets b.XE a.Yu
abbrev Callee:=Nat->List V->Option (List V)
def eU (call:Callee) (ρ:X->D) (h:Heap) (slot:Nat):Ins->Stepped
 |.call f xs=>do
  let (vs,us) <-jV h (xs.map ρ)
  let rs <-call f vs
  some (Sr rs,us)
 |i=>step ρ h slot i
def zn:Ins->Bool
 |.mkm|.PY _ _ _ _ _ _ _|.PX _ _ _ _ _=>true
 |_=>false
def aax (_:X->D) (_:Heap) (_:Nat) (_:Ins):Stepped:=none
def oK (call:Callee) (ρ:X->D) (h:Heap) (slot:Nat) (i:Ins):Stepped:=if zn i then aax ρ h slot i else eU call ρ h slot i
def Eu:List D->D
 |[d]=>d
 |ds=> .lC ds
abbrev xg:=Nat->List D->Heap->Nat->Option (List D×Heap×Nat)
def Mt (h:Heap):D->Option (D×List (Nat×Obj))
 |.arr id off len=>do
  let (c,us) <-oo h (.arr id off len)
  some (.c c,us)
 |d=>some (d,[])
def Og (h:Heap):List D->Option (List D×List (Nat×Obj))
 |[]=>some ([],[])
 |d::ds=>do
  let (x,u) <-Mt h d
  let (xs,us) <-Og (aK h u) ds
  some (x::xs,u++us)
def Uf (h:Heap):D->Option (D×List (Nat×Obj))
 |.agg ds=>do
  let (xs,us) <-Og h ds
  some (.agg xs,us)
 |d=>Mt h d
def zz (h:Heap):List D->Option (List D×List (Nat×Obj))
 |[]=>some ([],[])
 |d::ds=>do
  let (x,u) <-Uf h d
  let (xs,us) <-zz (aK h u) ds
  some (x::xs,u++us)
def VA (own:Nat) (h:Heap) (ds:List D):Option (List D×List (Nat×Obj)):=if own=2 then some (ds,[]) else zz h ds
def zy (gU:xg) (own:Nat) (f:Nat) (ds:List D) (h:Heap) (nx:Nat):Option (D×Heap×Nat):=do
 let (ds,us) <-VA own h ds
 let (rs,h',nx') <-gU f ds (aK h us) nx
 if own≠0 then some (Eu rs,h',nx') else do
  let (rs,us) <-zz h' rs
  some (Eu rs,aK h' us,nx')
inductive LV where
 |v (x:V)
 |ref (b:Nat)
def LV.nE:LV->D
 |.v x=>x.nE
 |.ref b=> .loc b 0
abbrev Cv:=Nat->List LV->List (List C)->Option (List V×List (List C))
def eT (h:Heap):List D->List Nat->Option (List LV×List Nat×List (Nat×Obj))
 |[],ids=>some ([],ids,[])
 |d::ds,ids=>
  match d with
  |.loc id off=>if off=0/\ids.contains id=false then do
    let (aY,ids',us) <-eT h ds (ids++[id])
    some (.ref ids.length::aY,ids',us)
   else none
  |d=>do
   let (x,u) <-nP h d
   let (aY,ids',us) <-eT (aK h u) ds ids
   some (.v x::aY,ids',u++us)
def lq:List D->Option (List C)
 |[]=>some []
 |.c x::ds=>do
  let cs <-lq ds
  some (x::cs)
 |.full xs n::ds=>do
  let cs <-lq ds
  some (.slice xs n::cs)
 |_=>none
def ku (h:Heap):List Nat->Option (List (List C))
 |[]=>some []
 |id::ids=>match aH h id with
  |.box ds=>do
   let cs <-lq ds
   let r <-ku h ids
   some (cs::r)
  |_=>none
def J9:Nat->List (List C)->Heap
 |_,[]=>[]
 |q,cs::bs=>(q,.box (cs.map .c))::J9 (q+1) bs
def zP (h:Heap):Nat->Nat->Option (List (List C)×List (Nat×Obj))
 |_,0=>some ([],[])
 |q,m+1=>match aH h q with
  |.box ds=>do
   let (cs,us) <-lZ h ds
   let (r,us') <-zP (aK h us) (q+1) m
   some (cs::r,us++us')
  |_=>none
def Eg (bg:Cv) (h:Heap) (f:Nat) (ds:List D):Stepped:=do
 let (aY,ids,us) <-eT h ds []
 let bs <-ku (aK h us) ids
 let (rs,bs') <-bg f aY bs
 if bs'.length=ids.length then some (Sr rs,us++(ids.zip bs').map fun p=>(p.1,.box (p.2.map .c))) else none
def lW (call:Callee) (bg:Cv) (ρ:X->D) (h:Heap) (slot:Nat):Ins->Stepped
 |.mV f xs=>Eg bg h f (xs.map ρ)
 |i=>oK call ρ h slot i
def mX (call:Callee) (gU:xg):List jl->St->Option St
 |[],s=>some s
 |i::is,s=>do
  let w <-wanted s.env i.guard
  if w then
   match i.ins with
   |.jB f own xs=>do
    let (d,h,nx) <-zy gU own f (xs.map (zT s.env)) s.heap s.nx
    mX call gU is ⟨l8 s.env i.dst d,h,nx⟩
   |.kX x xs=>
    match zT s.env x with
    |.fD f caps=>do
     let (d,h,nx) <-zy gU 0 f (xs.map (zT s.env)++caps.map fun p=> .loc p.1 p.2) s.heap s.nx
     mX call gU is ⟨l8 s.env i.dst d,h,nx⟩
    |_=>none
   |ins=>do
    let (d,us) <-oK call (zT s.env) s.heap s.nx ins
    mX call gU is ⟨l8 s.env i.dst d,aK s.heap us,s.nx+1⟩
  else mX call gU is ⟨l8 s.env i.dst AZ,s.heap,s.nx⟩
def mW (call:Callee) (bg:Cv) (nx:Nat):Nat->List jl->Env->Heap->Option (Env×Heap×List Trace)
 |_,[],e,h=>some (e,h,[])
 |k,i::is,e,h=>do
  let w <-wanted e i.guard
  let gt:List Nat:=match i.guard with|some (t,_)=>[t]|none=>[]
  if w then
   let (d,us) <-lW call bg (zT e) h (nx+k) i.ins
   let (e',h',ts) <-mW call bg nx (k+1) is (l8 e i.dst d) (aK h us)
   some (e',h',⟨gt++Bo (nM i.ins),i.dst.toList,touches (zT e) i.ins,us.map (·.1)⟩::ts)
  else
   let (e',h',ts) <-mW call bg nx (k+1) is (l8 e i.dst AZ) h
   some (e',h',⟨gt,i.dst.toList,[],[]⟩::ts)
mutual
def Rb:C->C->Bool
 |.lit (.int k a),.lit (.int k' b)=>decide (k=k') && decide (a=b)
 |.lit (.bool a),.lit (.bool b)=>decide (a=b)
 |.lit (.string a),.lit (.string b)=>decide (a.data.toList=b.data.toList)
 |.lit .nilIface,.lit .nilIface=>true
 |.slice aY n,.slice bs m=>decide (n=m) && Ij aY bs
 |_,_=>false
def Ij:List C->List C->Bool
 |[],[]=>true
 |a::aY,b::bs=>Rb a b && Ij aY bs
 |_,_=>false
end
def ajD:D->D->Bool
 |.c a,.c b=>Rb a b
 |.loc i o,.loc j p=>decide (i=j) && decide (o=p)
 |.arr i o l,.arr j p m=>decide (i=j) && (decide (o=p) && decide (l=m))
 |.full aY n,.full bs m=>decide (n=m) && Ij aY bs
 |_,_=>false
def Lj:List D->List D->Bool
 |[],[]=>true
 |a::aY,b::bs=>ajD a b && Lj aY bs
 |_,_=>false
def afV:Obj->Obj->Bool
 |.box a,.box b=>Lj a b
 |_,_=>false
def changed (acc:List Nat) (h h':Heap):List Nat:=((h'++h).map (·.1)).filter fun i=>!(acc.contains i && afV (aH h i) (aH h' i))
def idle:Ins->Bool
 |.ZN _|.load _ _ _|.GY _|.Qa _ _|.fld _ _ _ _|.Iq _ _ _|.ext _ _|.len _ _=>true
 |_=>false
def Pz (is:List jl) (ws:List Nat):Bool:=
 (List.range is.length).all fun j=>match is[j]? with
  |some i=>(match i.ins with
   |.kX _ _=>false
   |.jB _ o _=>decide (o=2) && (List.range is.length).all fun k=>decide (k=j)||(if k < j then (ws.getD j 0).testBit k||(match is[k]? with|some i'=>idle i'.ins|none=>true) else (ws.getD k 0).testBit j)
   |_=>true)
  |none=>true
def Kl (ρ:X->D) (h:Heap):Ins->List Nat
 |.store n a v=>(match ρ a with
  |.loc id _=>(match aH h id with|.box _=>[id]|_=>touches ρ (.store n a v))
  |_=>touches ρ (.store n a v))
 |i=>touches ρ i
def Ec (call:Callee) (bg:Cv) (gU:xg):Nat->Nat->List Nat->List jl->Env->Heap->Option (Env×Heap×Nat×List Trace)
 |k,nx,_,[],e,h=>some (e,h,nx+k,[])
 |k,nx,acc,i::is,e,h=>do
  let w <-wanted e i.guard
  let gt:List Nat:=match i.guard with|some (t,_)=>[t]|none=>[]
  if w then
   match i.ins with
   |.jB f o xs=>do
    let (d,h',n) <-(if o=2 then zy gU 2 f (xs.map (zT e)) h (nx+k) else none)
    let (e',h'',n',ts) <-Ec call bg gU (k+1) n acc is (l8 e i.dst d) h'
    some (e',h'',n',⟨gt++Bo xs,i.dst.toList,List.range (nx+k)++h.map (·.1),changed acc h h'⟩::ts)
   |.kX _ _=>none
   |ins=>do
    let (d,us) <-lW call bg (zT e) h (nx+k) ins
    let (e',h',n',ts) <-Ec call bg gU (k+1) nx (acc++Kl (zT e) h ins) is (l8 e i.dst d) (aK h us)
    some (e',h',n',⟨gt++Bo (nM ins),i.dst.toList,Kl (zT e) h ins,us.map (·.1)⟩::ts)
  else do
   let (e',h',n',ts) <-Ec call bg gU (k+1) nx acc is (l8 e i.dst AZ) h
   some (e',h',n',⟨gt,i.dst.toList,[],[]⟩::ts)
def Nv (m:Nat) (b:Trace):Nat->List Trace->Bool
 |_,[]=>true
 |i,a::aY=>(m.testBit i||!clash a b) && Nv m b (i+1) aY
def oN (pre:List Trace):List Trace->List Nat->Bool
 |[],_=>true
 |b::bs,m::ms=>Nv m b 0 pre && oN (pre++[b]) bs ms
 |_::_,[]=>false
def D6 (ts:List Trace) (ws:List Nat):Bool:=oN [] ts ws
def j3:Nat->List D->Env
 |_,[]=>[]
 |k,d::ds=>(k,d)::j3 (k+1) ds
def Ff (e:Env) (h:Heap):List Res->Option (List D)
 |[]=>some []
 |.tmp t::r=>do
  let ds <-Ff e h r
  match iM e t with
  |.lC _=>none
  |d=>some (d::ds)
 |.cell t agg size::r=>do
  let d <-kG h agg size (iM e t)
  let ds <-Ff e h r
  some (d::ds)
structure Fe where
 code:Nat->Option Pj
 nat:Nat->List V->Option (List V)
mutual
def dn (F:Fe):Nat->jA->St->Option (Ex×St)
 |0,_,_=>none
 |n+1,c,s=>
  match c with
  |.skip=>some (.normal,s)
  |.exit id=>some (.exit id,s)
  |.ret=>some (.ret,s)
  |.region is=>do
   let s' <-mX (oF F n) (jh F n) is s
   some (.normal,s')
  |.draw is ws=>do
   let (e,h,ts) <-mW (oF F n) (lT F n) s.nx 0 is s.env s.heap
   if D6 ts ws then some (.normal,⟨e,h,s.nx+is.length⟩) else none
  |.mix is ws=>do
   let (e,h,nx,ts) <-Ec (oF F n) (lT F n) (jh F n) 0 s.nx [] is s.env s.heap
   if D6 ts ws then some (.normal,⟨e,h,nx⟩) else none
  |.seq a b=>do
   let (x,s') <-dn F n a s
   match x with
   |.normal=>dn F n b s'
   |x=>some (x,s')
  |.cond c a b=>do
   let t <-asBool (zT s.env c)
   dn F n (if t then a else b) s
  |.block id c=>do
   let (x,s') <-dn F n c s
   match x with
   |.exit id'=>if id'=id then some (.normal,s') else some (.exit id',s')
   |x=>some (x,s')
  |.loop c=>do
   let (x,s') <-dn F n c s
   match x with
   |.normal=>dn F n (.loop c) s'
   |x=>some (x,s')
termination_by structural n=>n
def jh (F:Fe):Nat->Nat->List D->Heap->Nat->Option (List D×Heap×Nat)
 |0,_,_,_,_=>none
 |n+1,f,ds,h,k=>do
  let I <-F.code f
  if ds.length=I.nparams then
   let (x,s) <-dn F n I.body ⟨j3 0 ds,h,k⟩
   match x with
   |.exit _=>none
   |_=>do
    let rs <-Ff s.env s.heap I.res
    some (rs,s.heap,s.nx)
  else none
termination_by structural n=>n
def oF (F:Fe):Nat->Nat->List V->Option (List V)
 |0,_,_=>none
 |n+1,f,vs=>
  match F.nat f vs with
  |some rs=>some rs
  |none=>do
   let (ds,h,_) <-jh F n f (vs.map V.nE) [] 0
   let (rs,_) <-jV h ds
   some rs
termination_by structural n=>n
def lT (F:Fe):Nat->Nat->List LV->List (List C)->Option (List V×List (List C))
 |0,_,_,_=>none
 |n+1,f,aY,bs=>do
  let (ds,h,_) <-jh F n f (aY.map LV.nE) (J9 0 bs) bs.length
  let (rs,us) <-jV h ds
  let (bs',_) <-zP (aK h us) 0 bs.length
  some (rs,bs')
termination_by structural n=>n
end
end Go.Ey
