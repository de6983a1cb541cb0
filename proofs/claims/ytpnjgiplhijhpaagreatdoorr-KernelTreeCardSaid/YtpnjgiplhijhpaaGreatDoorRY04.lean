/- A part. -/
import Derived.Test.YtpnjgiplhijhpaaGreatDoorRY03
set_option linter.all false
namespace Go.Ey
open Go.RowKit
theorem FX {op:BinOp} {a b v:Value} (h:iL op a b=some v):scalar v=true:=by
 unfold iL at h;split at h
 ·split at h
  ·unfold nU at h;split at h
   ·cases h
   ·cases op<;>simp at h<;>subst h<;>rfl
  ·split at h
   ·unfold eT at h;cases op<;>simp at h<;>first|(subst h;rfl)|(obtain ⟨_,rfl⟩:=h;rfl)
   ·cases h
 ·unfold kU at h;cases op<;>simp at h<;>first|(subst h;rfl)|(obtain ⟨_,rfl⟩:=h;rfl)
 ·cases h
theorem DW {op:BinOp} {a b v:Value} (h:uu op a b=some v):scalar v=true:=by
 unfold uu at h;split at h
 ·cases op<;>simp at h<;>subst h<;>rfl
 ·cases h
theorem JL {op:UnOp} {a v:Value} (h:O7 op a=some v):scalar v=true:=by
 unfold O7 at h;split at h
 ·cases op<;>simp at h<;>subst h<;>rfl
 ·cases op<;>simp at h<;>subst h<;>rfl
 ·cases h
section
variable {P:Program} {w:World}
theorem yH (op:BinOp) (t:TypeId) (x y:Operand) (k k':IntKind) (p q:Int):(eqGuard op t x y (.int k p) (.int k' q)).run P w=.ok () w:=by cases op<;>rfl
theorem wB (op:BinOp) (t:TypeId) (x y:Operand) (p q:Bool):(eqGuard op t x y (.bool p) (.bool q)).run P w=.ok () w:=by cases op<;>rfl
theorem tN (op:BinOp) (t:TypeId) (x y:Operand) (p q:ByteArray):(eqGuard op t x y (.string p) (.string q)).run P w=.ok () w:=by cases op<;>rfl
theorem run_equalIn_bool (d:Nat) {t:TypeId} (ht:P.underlying t=some .bool) (p q:Bool):(Op.equalIn (d+1) t (.bool p) (.bool q)).run P w=.ok (p==q) w:=by simp [Op.equalIn,run_underlying ht]
theorem run_equal_bool {t:TypeId} (ht:P.underlying t=some .bool) (p q:Bool):(Op.equal t (.bool p) (.bool q)).run P w=.ok (p==q) w:=run_equalIn_bool 9999 ht p q
theorem TG {op:BinOp} {t:TypeId} {x y:Operand} {a b v:Value} {oC:Bool} (hB:oC=true->P.underlying t=some .bool)
  (h:(if oC then uu op a b else iL op a b)=some v):(do eqGuard op t x y a b;binOp op t a b:Sem Value).run P w=.ok v w:=by
 cases oC with
 |true=>
  have ht:=hB rfl;simp only [if_true] at h;unfold uu at h;split at h
  ·rename_i p q;have hg:=wB (P:=P) (w:=w) op t x y p q;simp only [Sem.run_bind,hg,Result.andThen_ok];have he:=run_equal_bool (P:=P) (w:=w) ht p q;cases op<;>simp at h<;>subst h<;>simp [binOp,he]
  ·cases h
 |false=>
  simp only [if_false,Bool.false_eq_true] at h;unfold iL at h;split at h
  ·rename_i k p k' q;have hg:=yH (P:=P) (w:=w) op t x y k k' p q;simp only [Sem.run_bind,hg,Result.andThen_ok];split at h
   ·rename_i hsh;unfold nU at h;split at h
    ·cases h
    ·rename_i hneg;cases op<;>simp [dn] at hsh<;>simp at h<;>subst h<;>simp [binOp,Op.shift,hneg]
   ·rename_i hsh;split at h
    ·rename_i hkk;subst hkk;unfold eT at h;cases op<;>simp [dn] at hsh<;>simp at h<;>
      first
       |(subst h;simp [binOp,Op.intArith,Op.intBits,Op.intCmp];done)
       |(obtain ⟨h0,rfl⟩:=h;simp [binOp,Op.intDiv,h0];done)
    ·cases h
  ·rename_i p q;have hg:=tN (P:=P) (w:=w) op t x y p q;simp only [Sem.run_bind,hg,Result.andThen_ok];unfold kU at h;have e:IntKind.i64.max=9223372036854775807:=rfl;cases op<;>simp at h<;>
    first
     |(subst h;simp [binOp,Op.stringOp];done)
     |(obtain ⟨h0,rfl⟩:=h
       have h1:¬((p.size+q.size:Nat):Int) > IntKind.i64.max:=by omega
       simp only [binOp,Op.stringOp,if_neg h1,Sem.run_pure])
  ·cases h
theorem Wq {op:UnOp} {a v:Value} (h:O7 op a=some v):(Op.unary op a).run P w=.ok v w:=by
 unfold O7 at h;split at h
 ·cases op<;>simp at h<;>subst h<;>simp [Op.unary,Op.intArith,Op.intBits]
 ·cases op<;>simp at h<;>subst h<;>simp [Op.unary]
 ·cases h
theorem Yl {ts:Array TypeId} {t:TypeId} {a b v:Value} (h:lF true a b=some v):(Builtin.max_ ts t #[a,b]).run P w=.ok v w:=by
 unfold lF at h;split at h
 ·simp only [if_true,Option.some.injEq] at h;subst h;simp [Builtin.max_,Builtin.max2]
 ·cases h
theorem VV {ts:Array TypeId} {t:TypeId} {a b v:Value} (h:lF false a b=some v):(Builtin.min_ ts t #[a,b]).run P w=.ok v w:=by
 unfold lF at h;split at h
 ·simp only [if_false,Bool.false_eq_true,Option.some.injEq] at h;subst h;simp [Builtin.min_,Builtin.min2]
 ·cases h
theorem sj {m:Bool} {a b v:Value} (h:lF m a b=some v):scalar v=true:=by
 unfold lF at h;split at h
 ·simp only [Option.some.injEq] at h;subst h;rfl
 ·cases h
end
theorem iE {d:D} {v:Value} (h:jO d=some v):d=.c (.lit v):=by
 unfold jO at h;split at h
 ·simp at h;subst h;rfl
 ·cases h
theorem dI {d:D} {n:Int} (h:Ey.asInt d=some n):∃k,d=.c (.lit (.int k n)):=by
 unfold Ey.asInt at h;split at h
 ·rename_i k n';simp at h;subst h;exact ⟨k,rfl⟩
 ·cases h
theorem xV {d:D} {b:Bool} (h:Ey.asBool d=some b):d=.c (.lit (.bool b)):=by
 unfold Ey.asBool at h;split at h
 ·simp at h;subst h;rfl
 ·cases h
section
variable {B:Nat} {S:Nat->Nat->Prop}
theorem aX.lit {m:M} {v u:Value} (h:aX B S m (.c (.lit v)) u):u=v:=by have h':aJ m.w (Safe B S m) (.lit v) u:=h;simp only [aJ] at h';exact h'.1
theorem aX.mkLit {m:M} {v:Value} (h:scalar v=true):aX B S m (.c (.lit v)) v:=by
 show aJ m.w (Safe B S m) (.lit v) v
 simp only [aJ];exact ⟨trivial,h⟩
def Post (B:Nat) (S:Nat->Nat->Prop) (m:M) (slot:Nat) (us:List (Nat×Obj)) (d:D) (v:Value) (w':World):Prop:=
 ∃β',bF B S ⟨w',ah m.h us,β',fun i=>m.U i\/i=slot⟩/\ak B S m ⟨w',ah m.h us,β',fun i=>m.U i\/i=slot⟩/\
  aX B S ⟨w',ah m.h us,β',fun i=>m.U i\/i=slot⟩ d v/\Below B m.w w'
def Does (B:Nat) (S:Nat->Nat->Prop) (P:Program) (o:Oper) (a:Act) (m:M) (slot:Nat) (d:D) (us:List (Nat×Obj)):Prop:=
 ∃n v w',(execOp a.eval o).run P m.w=.ok n w'/\(n=.value v\/(n=.skip/\v=undef))/\Post B S m slot us d v w'
theorem aG {P:Program} {o:Oper} {a:Act} {m:M} (hk:bF B S m) (slot:Nat) {d:D} {v:Value} (hrun:(execOp a.eval o).run P m.w=.ok (.value v) m.w) (hr:aX B S m d v):
  Does B S P o a m slot d []:=
 ⟨_,v,m.w,hrun,.inl rfl,m.β,jd hk slot,bE m slot,(bE m slot).GI hr,Below.refl _ _⟩
def pI (B:Nat) (S:Nat->Nat->Prop) (m:M) (ρ:X->D) (a:Act):Prop:=∀x X,aC x=some X->aX B S m (ρ X) (a.eval x)
theorem aR {d:Option D} {x:D} {us:List (Nat×Obj)} (h:aH d=some (x,us)):d=some x/\us=[]:=by
 unfold aH at h;cases d with
 |none=>simp at h
 |some y=>simp only [Option.map_some,Option.some.injEq,Prod.mk.injEq] at h;exact ⟨by rw [h.1],h.2.symm⟩
variable {P:Program} {o:Oper} {a:Act} {m:M} {slot:Nat} {ρ:X->D} {d:D} {us:List (Nat×Obj)}
theorem F5 (hk:bF B S m) (ho:pI B S m ρ a) {x:Operand} {X:X} (hop:o.op=.move x\/o.op=.assign x) (hx:aC x=some X)
  (hs:step ρ m.h slot (.Mq X)=some (d,us)):Does B S P o a m slot d us:=by
 simp only [step,aH,Option.map_some,Option.some.injEq,Prod.mk.injEq] at hs;obtain ⟨rfl,rfl⟩:=hs;refine aG hk slot (v:=a.eval x) ?_ (ho x X hx);rcases hop with h|h<;>simp [execOp,h]
theorem Nk (hk:bF B S m) (ho:pI B S m ρ a) {c x y:Operand} {C' X' Y':X} (hop:o.op=.pick c x y) (hc:aC c=some C') (hx:aC x=some X') (hy:aC y=some Y')
  (hs:step ρ m.h slot (.pick C' X' Y')=some (d,us)):Does B S P o a m slot d us:=by
 simp only [step] at hs;obtain ⟨h1,rfl⟩:=aR hs;simp only [Option.bind_eq_bind,Option.bind_eq_some_iff,Option.some.injEq] at h1;obtain ⟨t,h2,rfl⟩:=h1;have h3:=ho c C' hc;rw [xV h2] at h3;have h4:=h3.lit;refine aG hk slot (v:=if t then a.eval x else a.eval y) ?_ ?_
 ·simp [execOp,hop,h4,Go.asBool]
 ·cases t
  ·exact ho y Y' hy
  ·exact ho x X' hx
theorem zL (hk:bF B S m) (ho:pI B S m ρ a) {op:BinOp} {t t':TypeId} {x y:Operand} {oC:Bool} {X' Y':X} (hop:o.op=.binOp op t x y t') (hB:oC=true->P.underlying t=some .bool)
  (hx:aC x=some X') (hy:aC y=some Y') (hs:step ρ m.h slot (.bin op oC X' Y')=some (d,us)):Does B S P o a m slot d us:=by
 simp only [step] at hs;obtain ⟨h1,rfl⟩:=aR hs;simp only [Option.bind_eq_bind,Option.bind_eq_some_iff,Option.map_eq_some_iff] at h1;obtain ⟨p,h2,q,h3,v,h4,rfl⟩:=h1;have e1:=ho x X' hx;have e2:=ho y Y' hy;rw [iE h2] at e1;rw [iE h3] at e2;refine aG hk slot (v:=v) ?_ (aX.mkLit ?_)
 ·have hrun:=TG (P:=P) (w:=m.w) (op:=op) (t:=t) (x:=x) (y:=y) hB h4;simp only [execOp,hop,e1.lit,e2.lit];simp only [Sem.run_bind] at hrun |-;rw [hrun];rfl
 ·cases oC
  ·exact FX h4
  ·exact DW h4
theorem UL (hk:bF B S m) (ho:pI B S m ρ a) {op:UnOp} {t:TypeId} {x:Operand} {X':X} (hop:o.op=.unOp op t x) (hx:aC x=some X')
  (hs:step ρ m.h slot (.un op X')=some (d,us)):Does B S P o a m slot d us:=by
 simp only [step] at hs;obtain ⟨h1,rfl⟩:=aR hs;simp only [Option.bind_eq_bind,Option.bind_eq_some_iff,Option.map_eq_some_iff] at h1;obtain ⟨p,h2,v,h4,rfl⟩:=h1;have e1:=ho x X' hx;rw [iE h2] at e1;refine aG hk slot (v:=v) ?_ (aX.mkLit (JL h4));have hrun:=Wq (P:=P) (w:=m.w) h4;simp [execOp,hop,e1.lit,hrun]
theorem NB (hk:bF B S m) (ho:pI B S m ρ a) {src dst:TypeId} {k0 k:IntKind} {x:Operand} {X':X} (hop:o.op=.convert src dst x) (h1:P.underlying src=some (.int k0)) (h2:P.underlying dst=some (.int k))
  (hx:aC x=some X') (hs:step ρ m.h slot (.conv k X')=some (d,us)):Does B S P o a m slot d us:=by
 simp only [step] at hs;obtain ⟨h3,rfl⟩:=aR hs;simp only [Option.bind_eq_bind,Option.bind_eq_some_iff,Option.some.injEq] at h3;obtain ⟨n,h4,rfl⟩:=h3;obtain ⟨k1,h5⟩:=dI h4;have e1:=ho x X' hx;rw [h5] at e1;refine aG hk slot (v:=.int k (k.wrap n)) ?_ (aX.mkLit rfl);simp [execOp,hop,e1.lit,convert,run_underlying h1,run_underlying h2,Conv.intToInt]
theorem UB (hk:bF B S m) (ho:pI B S m ρ a) {x y:Operand} {ts:Array TypeId} {X' Y':X} (hop:o.op=.call { callee:=.builtin .max,args:=#[x,y],argTypes:=ts})
  (hx:aC x=some X') (hy:aC y=some Y') (hs:step ρ m.h slot (.mx X' Y')=some (d,us)):Does B S P o a m slot d us:=by
 simp only [step] at hs;obtain ⟨h1,rfl⟩:=aR hs;simp only [Option.bind_eq_bind,Option.bind_eq_some_iff,Option.map_eq_some_iff] at h1;obtain ⟨p,h2,q,h3,v,h4,rfl⟩:=h1;have e1:=ho x X' hx;have e2:=ho y Y' hy;rw [iE h2] at e1;rw [iE h3] at e2;refine aG hk slot (v:=v) ?_ (aX.mkLit (sj h4));have hrun:=Yl (P:=P) (w:=m.w) (ts:=ts) (t:=o.type) h4;simp [execOp,hop,resolve,invoke,builtin,e1.lit,e2.lit,hrun]
theorem Un (hk:bF B S m) (ho:pI B S m ρ a) {x y:Operand} {ts:Array TypeId} {X' Y':X} (hop:o.op=.call { callee:=.builtin .min,args:=#[x,y],argTypes:=ts})
  (hx:aC x=some X') (hy:aC y=some Y') (hs:step ρ m.h slot (.mn X' Y')=some (d,us)):Does B S P o a m slot d us:=by
 simp only [step] at hs;obtain ⟨h1,rfl⟩:=aR hs;simp only [Option.bind_eq_bind,Option.bind_eq_some_iff,Option.map_eq_some_iff] at h1;obtain ⟨p,h2,q,h3,v,h4,rfl⟩:=h1;have e1:=ho x X' hx;have e2:=ho y Y' hy;rw [iE h2] at e1;rw [iE h3] at e2;refine aG hk slot (v:=v) ?_ (aX.mkLit (sj h4));have hrun:=VV (P:=P) (w:=m.w) (ts:=ts) (t:=o.type) h4;simp [execOp,hop,resolve,invoke,builtin,e1.lit,e2.lit,hrun]
theorem NP {ds:List D} {us:List Value} {i:Nat} {d:D} (h:aj (fO B S m) ds us) (hi:ds[i]?=some d):∃u,us[i]?=some u/\fO B S m d u:=h.get i hi
theorem fO.fM {m:M} {d:D} {u:Value} (h:fO B S m d u):aX B S m d u:=by
 cases d with
 |dB ds=>exact h.elim
 |_=>exact h
theorem bu.toA {m:M} {d:D} {u:Value} (h:bu B S m d u):fO B S m d u:=by
 cases d with
 |agg ds=>exact h.elim
 |_=>exact h
theorem bu.fM {m:M} {d:D} {u:Value} (h:bu B S m d u):aX B S m d u:=h.toA.fM
theorem Ou (hk:bF B S m) (ho:pI B S m ρ a) {x:Operand} {X':X} {i:Nat} (hop:o.op=.extract x i) (hx:aC x=some X')
  (hs:step ρ m.h slot (.ext X' i)=some (d,us)):Does B S P o a m slot d us:=by
 simp only [step] at hs;obtain ⟨h1,rfl⟩:=aR hs;have e1:=ho x X' hx;split at h1
 ·rename_i ds hd;rw [hd] at e1;obtain ⟨vs,e2,e3⟩:=e1;obtain ⟨u,e4,e5⟩:=NP e3 h1;refine aG hk slot (v:=u) ?_ e5.fM;simp [execOp,hop,e2,Instr.extract,e4]
 ·cases h1
theorem Ip (hk:bF B S m) (ho:pI B S m ρ a) {x:Operand} {X':X} {t:TypeId} {isStr:Bool} (hop:o.op=.call { callee:=.builtin .len,args:=#[x],argTypes:=#[t]})
  (ht:if isStr then P.underlying t=some .string else ∃e,P.underlying t=some (.slice e)) (hx:aC x=some X') (hs:step ρ m.h slot (.len isStr X')=some (d,us)):Does B S P o a m slot d us:=by
 simp only [step] at hs;obtain ⟨h1,rfl⟩:=aR hs;have e1:=ho x X' hx;unfold BD at h1;split at h1<;>cases isStr<;>simp only [if_true,if_false,Bool.false_eq_true,Option.some.injEq,reduceCtorEq] at h1 ht<;>subst h1
 ·rename_i id off len he;rw [he] at e1;obtain ⟨_,ad,cap,e2,_⟩:=e1;obtain ⟨e,ht⟩:=ht;refine aG hk slot (v:=.int .i64 len) ?_ (aX.mkLit rfl);simp [execOp,hop,resolve,invoke,builtin,e2,Builtin.len_,run_underlying ht,goInt]
 ·rename_i cs n he;rw [he] at e1;have yY:aJ m.w (Safe B S m) (.slice cs n) (a.eval x):=e1;simp only [aJ] at yY;obtain ⟨e,ht⟩:=ht;refine aG hk slot (v:=.int .i64 n) ?_ (aX.mkLit rfl);rcases yY with ⟨e2,rfl,_⟩|⟨ad,cap,e2,_⟩<;>
  simp [execOp,hop,resolve,invoke,builtin,e2,Builtin.len_,run_underlying ht,goInt]
 ·rename_i cs n he;rw [he] at e1;obtain ⟨e,ht⟩:=ht;refine aG hk slot (v:=.int .i64 n) ?_ (aX.mkLit rfl);rcases e1 with ⟨e2,rfl,_⟩|⟨ad,e2,_⟩<;>
  simp [execOp,hop,resolve,invoke,builtin,e2,Builtin.len_,run_underlying ht,goInt]
 ·rename_i s he;rw [he] at e1;refine aG hk slot (v:=.int .i64 s.size) ?_ (aX.mkLit rfl);simp [execOp,hop,resolve,invoke,builtin,e1.lit,Builtin.len_,run_underlying ht,goInt]
end
end Go.Ey
namespace Go.Ey
open Go.RowKit
section
variable {B:Nat} {S:Nat->Nat->Prop} {P:Program} {o:Oper} {a:Act} {m:M} {slot:Nat} {ρ:X->D} {d:D} {us:List (Nat×Obj)}
theorem kQ {t:TypeId} {b:Bool} (h:uD P t=some b) (w:World):(isAgg t).run P w=.ok b w:=by
 unfold uD at h;cases hu:P.underlying t with
 |none=>rw [hu] at h;cases h
 |some td=>rw [hu] at h;cases td<;>simp at h<;>subst h<;>simp [isAgg,run_underlying hu]
theorem run_sizeOf {t:TypeId} {i:TypeInfo} (h:P.info? t=some i) (w:World):(sizeOf t).run P w=.ok i.size w:=by simp [sizeOf,typeInfo,h]
theorem jT {t:TypeId} (h:uD P t=some false) {w:World} {ad:Addr} {v:Value} (hc:w.cell? ad=some v):(loadVar t ad).run P w=.ok v w:=by simp [loadVar,kQ h,hc]
theorem jS {t:TypeId} {i:TypeInfo} (h:uD P t=some true) (hi:P.info? t=some i) {w:World} {ad:Addr} {vs:List Value} (hl:vs.length=i.size) (hc:∀j v,vs[j]?=some v->w.cell? (ad.add j)=some v):
  (loadVar t ad).run P w=.ok (.agg vs.toArray) w:=by
 have:=run_loadCells_list (P:=P) w ad vs hc
 rw [hl] at this;simp [loadVar,kQ h,run_sizeOf hi,this]
theorem FY (hk:bF B S m) {t:TypeId} {i:TypeInfo} {agg:Bool} (h1:uD P t=some agg) (h2:P.info? t=some i) {x d:D} {u:Value} (hr:aX B S m x u) (hl:dG m.h agg i.size x=some d):
  ∃ad v,u=.pointer (some ad)/\(loadVar t ad).run P m.w=.ok v m.w/\fO B S m d v:=by
 cases x with
 |loc id off=>
  obtain ⟨_,rfl⟩:=hr;refine ⟨⟨m.β id,off,none⟩,?_⟩;simp only [dG] at hl;cases ho:af m.h id with
  |dead=>rw [ho] at hl;cases hl
  |box ds=>
   rw [ho] at hl;obtain ⟨_,vs,e,hv1,hv2⟩:=hk.box ho;cases agg with
   |true=>
    simp only [if_true] at hl;split at hl
    case isFalse=>cases hl
    rename_i hle;simp only [Option.some.injEq] at hl;subst hl;have hall:=(hv2.drop off).take i.size;have hlen:((vs.drop off).take i.size).length=i.size:=by rw [<-hall.len,List.length_take,List.length_drop];omega
    refine ⟨.agg ((vs.drop off).take i.size).toArray,rfl,jS h1 h2 hlen fun j v hv=>?_,_,rfl,hall⟩
    have hj:j < i.size:=by have:=(List.getElem?_eq_some_iff.1 hv).1;simp at this;omega
    rw [List.getElem?_take_of_lt hj,List.getElem?_drop] at hv;rw [ku,eO hv1];exact hv
   |false=>
    simp only [if_false,Bool.false_eq_true] at hl;obtain ⟨v,hv3,hv4⟩:=hv2.get off hl;exact ⟨v,rfl,jT h1 (by rw [eO hv1];exact hv3),hv4.toA⟩
  |map es=>rw [ho] at hl;cases hl
  |arr cs aa fz ety=>
   rw [ho] at hl;obtain ⟨_,vs,hv1,hvl,hv2⟩:=hk.arr ho;cases agg with
   |true=>
    simp only [if_true] at hl;split at hl
    case isFalse=>cases hl
    rename_i hle;simp only [Option.some.injEq] at hl;subst hl;have hall:=(hv2.drop off).take i.size;have hlen:(((vs.take cs.length).drop off).take i.size).length=i.size:=by rw [<-hall.len,List.length_take,List.length_drop];omega
    refine ⟨.agg (((vs.take cs.length).drop off).take i.size).toArray,rfl,jS h1 h2 hlen fun j v hv=>?_,_,rfl,aj.gJ hall⟩
    have hj:j < i.size:=by have:=(List.getElem?_eq_some_iff.1 hv).1;simp at this;omega
    rw [List.getElem?_take_of_lt hj,List.getElem?_drop,List.getElem?_take_of_lt (by omega)] at hv
    rw [ku,eO hv1];exact hv
   |false=>
    simp only [if_false,Bool.false_eq_true,Option.map_eq_some_iff] at hl;obtain ⟨c,hc,rfl⟩:=hl;obtain ⟨v,hv3,hv4⟩:=hv2.get off hc;have hoff:off < cs.length:=(List.getElem?_eq_some_iff.1 hc).1;rw [List.getElem?_take_of_lt hoff] at hv3;exact ⟨v,rfl,jT h1 (by rw [eO hv1];exact hv3),hv4⟩
 |ptr cs=>
  obtain ⟨ad,rfl,hsp,hr⟩:=hr;refine ⟨ad,?_⟩;simp only [dG] at hl;obtain ⟨vs,hv1,hv2⟩:=qK hr;obtain ⟨b,of,sp⟩:=ad;cases agg with
  |true=>
   simp only [if_true] at hl;split at hl
   case isFalse=>cases hl
   rename_i hle;simp only [Option.some.injEq] at hl;subst hl;have hall:=hv1.take i.size;have hlen:(vs.take i.size).length=i.size:=by rw [<-hall.len,List.length_take];omega
   refine ⟨.agg (vs.take i.size).toArray,rfl,jS h1 h2 hlen fun j v hv=>?_,_,rfl,aj.gJ hall⟩
   have hj:j < i.size:=by have:=(List.getElem?_eq_some_iff.1 hv).1;simp at this;omega
   rw [List.getElem?_take_of_lt hj] at hv;have hne:cs≠[]:=by
    intro e;subst e;cases vs with
    |nil=>simp at hv
    |cons _ _=>exact hv1.elim
   have:=hsp hne
   simp only at this;subst this;rw [ku];exact (hv2 j v hv).1
  |false=>
   simp only [if_false,Bool.false_eq_true,Option.map_eq_some_iff] at hl;obtain ⟨c,hc,rfl⟩:=hl;obtain ⟨v,hv3,hv4⟩:=hv1.get 0 hc;have hne:cs≠[]:=by intro e;subst e;simp at hc
   have:=hsp hne
   simp only at this;subst this;exact ⟨v,rfl,jT h1 (by have:=(hv2 0 v hv3).1;simpa using this),hv4⟩
 |full cs n=>simp [dG] at hl
 |bJ f caps=>simp [dG] at hl
 |mp id=>simp [dG] at hl
 |fK=>simp [dG] at hl
 |c x=>simp [dG] at hl
 |arr id off len=>simp [dG] at hl
 |agg ds=>simp [dG] at hl
 |dB ds=>simp [dG] at hl
theorem M7 (hk:bF B S m) (ho:pI B S m ρ a) {t:TypeId} {x:Operand} {X':X} {i:TypeInfo} {agg:Bool} (hop:o.op=.load t x) (h1:uD P t=some agg) (h2:P.info? t=some i) (hx:aC x=some X')
  (hs:step ρ m.h slot (.load agg i.size X')=some (d,us)):Does B S P o a m slot d us:=by
 simp only [step] at hs;obtain ⟨h3,rfl⟩:=aR hs;obtain ⟨ad,v,e1,e2,e3⟩:=FY hk h1 h2 (ho x X' hx) h3;refine aG hk slot (v:=v) ?_ e3.fM;simp [execOp,hop,Instr.loadAt,e1,Instr.sureAddr,e2]
theorem mX {t:TypeId} {fs:List Field} (h:fieldsOf P t=some fs):P.underlying t=some (.struct fs.toArray):=by
 unfold fieldsOf at h;split at h
 ·rename_i f hf;simp at h;subst h;simpa using hf
 ·cases h
theorem Nt (hk:bF B S m) (ho:pI B S m ρ a) {t:TypeId} {x:Operand} {X':X} {f:Nat} {fs:List Field} {fl:Field} {i:TypeInfo} (hop:o.op=.fieldAddr t x f) (h1:fieldsOf P t=some fs) (h2:fs[f]?=some fl) (h3:P.info? fl.type=some i) (h4:0 < i.size)
  (hx:aC x=some X') (hs:step ρ m.h slot (.yC fl.offset X')=some (d,us)):Does B S P o a m slot d us:=by
 have hu:=mX h1;have e1:=ho x X' hx;have hsz:¬i.size=0:=by omega
 have run:∀ad:Addr,a.eval x=.pointer (some ad)->(execOp a.eval o).run P m.w=.ok (.value (.pointer (some (ad.add fl.offset)))) m.w:=by intro ad he;simp [execOp,hop,Instr.fieldAt,run_underlying hu,h2,he,Instr.sureAddr,fieldPlace,run_sizeOf h3,hsz]
 simp only [step] at hs;split at hs
 ·rename_i id off he;simp only [Option.some.injEq,Prod.mk.injEq] at hs;obtain ⟨rfl,rfl⟩:=hs;rw [he] at e1;obtain ⟨hU,e2⟩:=e1;refine aG hk slot (run _ e2) ⟨hU,?_⟩;rw [ku]
 ·rename_i cs he;simp only [Option.some.injEq,Prod.mk.injEq] at hs;obtain ⟨rfl,rfl⟩:=hs;rw [he] at e1;obtain ⟨ad,e2,e3,e4⟩:=e1;refine aG hk slot (run _ e2) ⟨ad.add fl.offset,rfl,?_,?_⟩
  ·intro hne;unfold Addr.add;split
   ·exact e3 fun e=>hne (by rw [e];simp)
   ·rfl
  ·have:=kY fl.offset e4
   unfold Addr.add;split
   ·rename_i h0;rw [h0] at this |-;simpa using this
   ·exact this
 ·cases hs
theorem JS (hk:bF B S m) (ho:pI B S m ρ a) {x:Operand} {X':X} (hop:o.op=.nilCheck x) (hx:aC x=some X') (hs:step ρ m.h slot (.pg X')=some (d,us)):Does B S P o a m slot d us:=by
 have e1:=ho x X' hx;have run:∀ad:Addr,a.eval x=.pointer (some ad)->(execOp a.eval o).run P m.w=.ok (.value (a.eval x)) m.w:=by intro ad he;simp [execOp,hop,he]
 simp only [step] at hs;split at hs
 ·rename_i id off he;simp only [Option.some.injEq,Prod.mk.injEq] at hs;obtain ⟨rfl,rfl⟩:=hs;rw [he] at e1;obtain ⟨hU,e2⟩:=e1;exact aG hk slot (run _ e2) ⟨hU,e2⟩
 ·rename_i cs he;simp only [Option.some.injEq,Prod.mk.injEq] at hs;obtain ⟨rfl,rfl⟩:=hs;rw [he] at e1;obtain ⟨ad,e2,e3,e4⟩:=e1;exact aG hk slot (run _ e2) ⟨ad,e2,e3,e4⟩
 ·cases hs
theorem OD (hk:bF B S m) (ho:pI B S m ρ a) {t:TypeId} {x:Operand} {X':X} {f:Nat} {fs:List Field} {fl:Field} {i:TypeInfo} {agg:Bool} (hop:o.op=.field t x f) (h1:fieldsOf P t=some fs) (h2:fs[f]?=some fl) (h3:P.info? fl.type=some i)
  (h4:uD P fl.type=some agg) (hx:aC x=some X') (hs:step ρ m.h slot (.NL fl.offset agg i.size X')=some (d,us)):Does B S P o a m slot d us:=by
 have hu:=mX h1;have e1:=ho x X' hx;simp only [step] at hs;split at hs
 ·rename_i ds he;rw [he] at e1;obtain ⟨vs,e2,e3⟩:=e1;cases agg with
  |true=>
   simp only [if_true] at hs;split at hs
   case isFalse=>cases hs
   simp only [Option.some.injEq,Prod.mk.injEq] at hs;obtain ⟨rfl,rfl⟩:=hs;refine aG hk slot (v:=.agg ((vs.drop fl.offset).take i.size).toArray) ?_ ⟨_,rfl,(e3.drop _).take _⟩;simp [execOp,hop,Instr.field,run_underlying hu,h2,e2,asAgg,part,kQ h4,run_sizeOf h3]
  |false=>
   simp only [if_false,Bool.false_eq_true] at hs;obtain ⟨h5,rfl⟩:=aR hs;obtain ⟨v,h6,h7⟩:=e3.get _ h5;refine aG hk slot (v:=v) ?_ h7.fM;simp [execOp,hop,Instr.field,run_underlying hu,h2,e2,asAgg,part,kQ h4,h6]
 ·cases hs
theorem eX {t e:TypeId} (h:bP P t=some e):P.underlying t=some (.slice e):=by
 unfold bP at h;split at h
 ·rename_i f hf;simp at h;subst h;exact hf
 ·cases h
theorem Nu (hk:bF B S m) (ho:pI B S m ρ a) {t e:TypeId} {x y:Operand} {X' Y':X} {i:TypeInfo} (hop:o.op=.indexAddr t x y) (h1:bP P t=some e) (h2:P.info? e=some i) (hx:aC x=some X') (hy:aC y=some Y')
  (hs:step ρ m.h slot (.pY i.size X' Y')=some (d,us)):Does B S P o a m slot d us:=by
 have hu:=eX h1;have e1:=ho x X' hx;have e2:=ho y Y' hy;simp only [step] at hs;obtain ⟨h3,rfl⟩:=aR hs;have run:∀(ad:Addr) (len cap:Nat) (k:IntKind) (n:Int),a.eval x=.slice (some ad) len cap->a.eval y=.int k n->0<=n->n < len->
   (execOp a.eval o).run P m.w=.ok (.value (.pointer (some (ad.add (n.toNat * i.size))))) m.w:=by
  intro ad len cap k n he1 he2 h0 hn;simp [execOp,hop,Instr.indexAt,he1,he2,asIntOf,run_underlying hu,h0,hn,run_sizeOf h2]
 have into:∀(ad:Addr) (len cap:Nat) (k:IntKind) (n:Int) (cs:List C),a.eval x=.slice (some ad) len cap->a.eval y=.int k n->0<=n->n < len->(cs≠[]->ad.spot=none)->bN m.w (Safe B S m) cs ad.block ad.off->
   Does B S P o a m slot (.ptr (cs.drop (n.toNat * i.size))) []:=by
  intro ad len cap k n cs e3 e4 h0 hn e5 e6;refine aG hk slot (run ad len cap k n e3 e4 h0 hn) ⟨ad.add (n.toNat * i.size),rfl,?_,?_⟩
  ·intro hne;unfold Addr.add;split
   ·exact e5 fun e=>hne (by rw [e];simp)
   ·rfl
  ·have:=kY (n.toNat * i.size) e6
   unfold Addr.add;split
   ·rename_i h0;rw [h0] at this |-;simpa using this
   ·exact this
 unfold mM at h3;split at h3
 ·rename_i id off len he;cases jh:af m.h id with
  |dead=>rw [jh] at h3;cases h3
  |box ds=>rw [jh] at h3;cases h3
  |map ds=>rw [jh] at h3;cases h3
  |arr cs aa fz ety=>
   rw [jh] at h3;simp only [Option.bind_eq_bind,Option.bind_eq_some_iff] at h3;obtain ⟨n,h4,h5⟩:=h3;split at h5
   case isFalse=>cases h5
   rename_i hn;simp only [Option.some.injEq] at h5;subst h5;obtain ⟨k,h6⟩:=dI h4;rw [h6] at e2;rw [he] at e1;obtain ⟨hU,ad,cap,e3,e4,e5⟩:=e1;rw [jh] at e5;rcases e5 with ⟨rfl,_⟩|⟨hz,_⟩
   ·refine aG hk slot (run _ len cap k n e3 e2.lit hn.1 hn.2) ⟨hU,?_⟩;rw [ku]
   ·have:=hn.1;have:=hn.2;omega
 ·rename_i cs q he;simp only [Option.bind_eq_bind,Option.bind_eq_some_iff] at h3;obtain ⟨n,h4,h5⟩:=h3;split at h5
  case isFalse=>cases h5
  rename_i hn;simp only [Option.some.injEq] at h5;subst h5;obtain ⟨k,h6⟩:=dI h4;rw [h6] at e2;rw [he] at e1;have yY:aJ m.w (Safe B S m) (.slice cs q) (a.eval x):=e1;simp only [aJ] at yY;rcases yY with ⟨_,rfl,_⟩|⟨ad,cap,e3,e4,e5,e6⟩
  ·have:=hn.1;have:=hn.2;omega
  ·exact into ad q cap k n cs e3 e2.lit hn.1 hn.2 e5 e6
 ·rename_i cs q he;simp only [Option.bind_eq_bind,Option.bind_eq_some_iff] at h3;obtain ⟨n,h4,h5⟩:=h3;split at h5
  case isFalse=>cases h5
  rename_i hn;simp only [Option.some.injEq] at h5;subst h5;obtain ⟨k,h6⟩:=dI h4;rw [h6] at e2;rw [he] at e1;rcases e1 with ⟨_,rfl,_⟩|⟨ad,e3,e5,e6⟩
  ·have:=hn.1;have:=hn.2;omega
  ·exact into ad q q k n cs e3 e2.lit hn.1 hn.2 e5 e6
 ·cases h3
theorem Ns (hk:bF B S m) (ho:pI B S m ρ a) {t:TypeId} {x y:Operand} {X' Y':X} (hop:o.op=.index t x y) (h1:P.underlying t=some .string) (hx:aC x=some X') (hy:aC y=some Y')
  (hs:step ρ m.h slot (.nM X' Y')=some (d,us)):Does B S P o a m slot d us:=by
 have e1:=ho x X' hx;have e2:=ho y Y' hy;simp only [step] at hs;obtain ⟨h3,rfl⟩:=aR hs;split at h3
 ·rename_i s he;simp only [Option.bind_eq_bind,Option.bind_eq_some_iff] at h3;obtain ⟨n,h4,h5⟩:=h3;split at h5
  case isFalse=>cases h5
  rename_i hn;simp only [Option.map_eq_some_iff] at h5;obtain ⟨b,h6,rfl⟩:=h5;obtain ⟨k,h7⟩:=dI h4;rw [h7] at e2;rw [he] at e1;refine aG hk slot (v:=.int .u8 b.toNat) ?_ (aX.mkLit rfl);have h8:s[n.toNat]?=some b:=by have hlt:n.toNat < s.data.size:=(Array.getElem?_eq_some_iff.1 h6).1;have hv:=(Array.getElem?_eq_some_iff.1 h6).2;have hlt':n.toNat < s.size:=hlt;rw [getElem?_pos s n.toNat hlt'];exact congrArg some hv
  simp [execOp,hop,Instr.index,e1.lit,e2.lit,asIntOf,run_underlying h1,hn,h8]
 ·cases h3
end
end Go.Ey
namespace Go.Ey
open Go.RowKit
section
variable {B:Nat} {S:Nat->Nat->Prop} {P:Program} {o:Oper} {a:Act} {m:M} {slot:Nat} {ρ:X->D} {d:D} {us:List (Nat×Obj)}
def iC (x:Option Value) (dflt n:Nat):Prop:=
 match x with
 |none=>n=dflt
 |some v=>∃k i,v=.int k i/\0<=i/\i.toNat=n
theorem uI {x:Option Operand} {X':Option X} (ho:pI B S m ρ a) (hx:ja x=some X') {l:Nat} (h:xw (X'.map ρ)=some l):iC (x.map a.eval) 0 l:=by
 cases x with
 |none=>simp [ja] at hx;subst hx;simp [xw] at h;simp [iC,h]
 |some y=>
  simp only [ja,Option.bind_eq_bind,Option.bind_eq_some_iff,Option.some.injEq] at hx;obtain ⟨Y,hy,rfl⟩:=hx;simp only [Option.map_some,xw,Option.bind_eq_bind,Option.bind_eq_some_iff] at h;obtain ⟨n,h1,h2⟩:=h;split at h2
  case isFalse=>cases h2
  rename_i h0;simp only [Option.some.injEq] at h2;obtain ⟨k,h3⟩:=dI h1;have e:=ho y Y hy;rw [h3] at e;exact ⟨k,n,e.lit,h0,h2⟩
theorem za {x:Option Operand} {X':Option X} (ho:pI B S m ρ a) (hx:ja x=some X') {len l:Nat} (h:qA len (X'.map ρ)=some l):iC (x.map a.eval) len l:=by
 cases x with
 |none=>simp [ja] at hx;subst hx;simp [qA] at h;simp [iC,h]
 |some y=>
  simp only [ja,Option.bind_eq_bind,Option.bind_eq_some_iff,Option.some.injEq] at hx;obtain ⟨Y,hy,rfl⟩:=hx;simp only [Option.map_some,qA,Option.bind_eq_bind,Option.bind_eq_some_iff] at h;obtain ⟨n,h1,h2⟩:=h;split at h2
  case isFalse=>cases h2
  rename_i h0;simp only [Option.some.injEq] at h2;obtain ⟨k,h3⟩:=dI h1;have e:=ho y Y hy;rw [h3] at e;exact ⟨k,n,e.lit,h0,h2⟩
theorem zV {w:World} {isSlice:Bool} {len cap l r:Nat} {lo hi:Option Value} (h1:iC lo 0 l) (h2:iC hi len r) (hl:l<=r) (hr:r<=cap):
  (Instr.sliceBounds isSlice len cap lo hi none).run P w=.ok (l,r,cap) w:=by
 have low:∀code,(match lo with|some v=>Instr.sliceBound v r code|none=>pure 0:Sem Nat).run P w=.ok l w:=by
  intro code;cases lo with
  |none=>simp only [iC] at h1;subst h1;rfl
  |some v=>
   obtain ⟨k,i,rfl,h3,h4⟩:=h1;have:=run_sliceBound (P:=P) w k i r code h3 (by omega)
   simp only [this,h4]
 cases hi with
 |none=>
  simp only [iC] at h2;subst h2;have:=low .sliceB
  cases lo with
  |none=>simp [Instr.sliceBounds] at this |-;exact this
  |some v=>simp [Instr.sliceBounds] at this |-;simp [this]
 |some v=>
  obtain ⟨k,i,rfl,h3,h4⟩:=h2;have e:∀code,(Instr.sliceBound (.int k i) cap code).run P w=.ok r w:=fun code=>by rw [run_sliceBound (P:=P) w k i cap code h3 (by omega),h4]
  have:=low .sliceB
  cases lo with
  |none=>simp [Instr.sliceBounds,e] at this |-;exact this
  |some v=>simp [Instr.sliceBounds,e] at this |-;simp [this]
theorem NS (hk:bF B S m) (ho:pI B S m ρ a) {t e:TypeId} {x:Operand} {lo hi:Option Operand} {X':X} {Lo Hi:Option X} {i:TypeInfo} (hop:o.op=.slice t x lo hi none) (h1:P.underlying t=some (.slice e)) (h2:P.info? e=some i)
  (hx:aC x=some X') (hlo:ja lo=some Lo) (hhi:ja hi=some Hi) (hs:step ρ m.h slot (.slc i.size X' Lo Hi)=some (d,us)):Does B S P o a m slot d us:=by
 have e1:=ho x X' hx;simp only [step] at hs;obtain ⟨h3,rfl⟩:=aR hs;have run:∀(ad:Option Addr) (len cap l r:Nat),a.eval x=.slice ad len cap->iC (lo.map a.eval) 0 l->iC (hi.map a.eval) len r->l<=r->r<=cap->
   (execOp a.eval o).run P m.w=.ok (.value (.slice (if cap=l then ad else ad.map (·.add (l * i.size))) (r - l) (cap - l))) m.w:=by
  intro ad len cap l r he hb1 hb2 hl hr;have hb:=zV (P:=P) (w:=m.w) (isSlice:=true) hb1 hb2 hl hr;simp [execOp,hop,Instr.sliceAt,Instr.slice,run_underlying h1,he,hb,run_sizeOf h2]
 have U2:∀(cs:List C) (n:Nat) (xs:List C) (k:Nat),yx i.size cs n (Lo.map ρ) (Hi.map ρ)=some (xs,k)->
   ((a.eval x=.slice none 0 0/\n=0/\cs=[])\/∃ad cap,a.eval x=.slice (some ad) n cap/\n<=cap/\(cs≠[]->ad.spot=none)/\bN m.w (Safe B S m) cs ad.block ad.off)->Does B S P o a m slot (.c (.slice xs k)) []:=by
  intro cs n xs k hcut yY;simp only [yx,Option.bind_eq_bind,Option.bind_eq_some_iff] at hcut;obtain ⟨l,h4,r,h5,h6⟩:=hcut;split at h6
  case isFalse=>cases h6
  rename_i hb;obtain ⟨hlr,hrn⟩:=hb;simp only [Option.some.injEq,Prod.mk.injEq] at h6;obtain ⟨rfl,rfl⟩:=h6;rcases yY with ⟨e2,rfl,rfl⟩|⟨ad,cap,e2,e3,e4,e5⟩
  ·have hl0:l=0:=by omega
   have hr0:r=0:=by omega
   subst hl0 hr0;have:=run none 0 0 0 0 e2 (uI ho hlo h4) (za ho hhi h5) (Nat.le_refl _) (Nat.le_refl _)
   refine aG hk slot this ?_;show aJ m.w (Safe B S m) (.slice _ _) _
   simp [aJ]
  have:=run (some ad) n cap l r e2 (uI ho hlo h4) (za ho hhi h5) hlr (by omega)
  refine aG hk slot this ?_;show aJ m.w (Safe B S m) (.slice _ _) _
  simp only [aJ];right;by_cases hc:cap=l
  ·rw [if_pos hc];have hz:r - l=0:=by omega
   refine ⟨ad,cap - l,rfl,by omega,?_,?_⟩
   ·rw [hz];simp
   ·rw [hz];simp [bN]
  ·rw [if_neg hc];refine ⟨ad.add (l * i.size),cap - l,rfl,by omega,?_,?_⟩
   ·intro hne;unfold Addr.add;split
    ·exact e4 fun e=>hne (by rw [e];simp)
    ·rfl
   ·have:=sw ((r - l) * i.size) (kY (l * i.size) e5)
    unfold Addr.add;split
    ·rename_i h0;rw [h0] at this |-;simpa using this
    ·exact this
 unfold uW at h3;split at h3
 ·rename_i cs n he;simp only [Option.bind_eq_bind,Option.bind_eq_some_iff,Prod.exists,Option.some.injEq] at h3;obtain ⟨xs,k,h4,rfl⟩:=h3;rw [he] at e1;have yY:aJ m.w (Safe B S m) (.slice cs n) (a.eval x):=e1;simp only [aJ] at yY;exact U2 cs n xs k h4 yY
 ·rename_i cs n he;simp only [Option.bind_eq_bind,Option.bind_eq_some_iff,Prod.exists,Option.some.injEq] at h3;obtain ⟨xs,k,h4,rfl⟩:=h3;rw [he] at e1;refine U2 cs n xs k h4 ?_;rcases e1 with e1|⟨ad,e2,e3,e4⟩
  ·exact .inl e1
  ·exact .inr ⟨ad,n,e2,Nat.le_refl _,e3,e4⟩
 ·rename_i id off len he;cases jh:af m.h id with
  |dead=>rw [jh] at h3;cases h3
  |box ds=>rw [jh] at h3;cases h3
  |map ds=>rw [jh] at h3;cases h3
  |arr cs aa fz ety=>
   rw [jh] at h3;simp only [Option.bind_eq_bind,Option.bind_eq_some_iff] at h3;obtain ⟨l,h4,r,h5,h6⟩:=h3;split at h6
   case isFalse=>cases h6
   rename_i hb;obtain ⟨rfl,hlr,hrn⟩:=hb;simp only [Option.some.injEq] at h6;subst h6;rw [he] at e1;obtain ⟨hU,ad,cap,e2,e3,e4⟩:=e1;have:=run (some ad) len cap l r e2 (uI ho hlo h4) (za ho hhi h5) hlr (by omega)
   refine aG hk slot this ⟨hU,?_⟩;by_cases hc:cap=l
   ·rw [if_pos hc];refine ⟨ad,cap - l,rfl,by omega,?_⟩
    rw [jh];exact .inr ⟨by omega,by omega⟩
   ·rw [if_neg hc];refine ⟨ad.add (l * i.size),cap - l,rfl,by omega,?_⟩
    rw [jh] at e4 |-;rcases e4 with ⟨rfl,sz,e5,e6,e7⟩|⟨h7,h8⟩
    ·refine .inl ⟨by rw [ku],sz,e5,?_,by omega⟩
     rw [<-e6,Nat.sub_mul,Nat.add_assoc];have:l * i.size<=cap * i.size:=Nat.mul_le_mul_right _ (by omega)
     omega
    ·omega
 ·cases h3
theorem Pp (hk:bF B S m) (ho:pI B S m ρ a) {t:TypeId} {x:Operand} {lo hi:Option Operand} {X':X} {Lo Hi:Option X} (hop:o.op=.slice t x lo hi none) (h1:P.underlying t=some .string)
  (hx:aC x=some X') (hlo:ja lo=some Lo) (hhi:ja hi=some Hi) (hs:step ρ m.h slot (.Q8 X' Lo Hi)=some (d,us)):Does B S P o a m slot d us:=by
 have e1:=ho x X' hx;simp only [step] at hs;obtain ⟨h3,rfl⟩:=aR hs;unfold OO at h3;split at h3
 ·rename_i s he;simp only [Option.bind_eq_bind,Option.bind_eq_some_iff] at h3;obtain ⟨l,h4,r,h5,h6⟩:=h3;split at h6
  case isFalse=>cases h6
  rename_i hb;simp only [Option.some.injEq] at h6;subst h6;rw [he] at e1;have hb:=zV (P:=P) (w:=m.w) (isSlice:=false) (uI ho hlo h4) (za ho hhi h5) hb.1 hb.2;refine aG hk slot (v:=.string (s.extract l r)) ?_ (aX.mkLit rfl);simp [execOp,hop,Instr.sliceAt,Instr.slice,run_underlying h1,e1.lit,hb]
 ·cases h3
theorem zT {w:World} {Sf:Nat->Nat->Prop}:∀{cs:List C} {vs:List Value} {bs:List UInt8},bytesOf cs=some bs->aj (aJ w Sf) cs vs->
  ∃ns:List Int,vs=ns.map (Value.int .u8)/\bs=ns.map fun n=>UInt8.ofNat n.toNat
 |[],[],bs,h,_=>by simp [bytesOf] at h;subst h;exact ⟨[],rfl,rfl⟩
 |c::cs,v::vs,bs,h,hr=>by
  unfold bytesOf at h;split at h
  ·rename_i heq;cases heq
  ·rename_i n r heq;simp only [List.cons.injEq] at heq;obtain ⟨rfl,rfl⟩:=heq;simp only [Option.bind_eq_bind,Option.bind_eq_some_iff,Option.some.injEq] at h;obtain ⟨bs',h1,rfl⟩:=h;obtain ⟨ns,rfl,rfl⟩:=zT h1 hr.2;have h2:=hr.1;simp only [aJ] at h2;exact ⟨n::ns,by rw [h2.1];rfl,rfl⟩
  ·cases h
 |[],_::_,_,_,h=>h.elim
 |_::_,[],_,_,h=>h.elim
theorem foldl_push (ns:List Int):∀s:ByteArray,ns.foldl (fun r n=>r.push (UInt8.ofNat n.toNat)) s=⟨s.data++(ns.map fun n=>UInt8.ofNat n.toNat).toArray⟩:=by
 induction ns with
 |nil=>intro s;cases s;simp
 |cons n ns ih=>
  intro s;simp only [List.foldl_cons,ih,List.map_cons];cases s;simp [ByteArray.push]
theorem JG (hk:bF B S m) (ho:pI B S m ρ a) {src dst e:TypeId} {x:Operand} {X':X} (hop:o.op=.convert src dst x) (h1:P.underlying src=some (.slice e)) (h2:P.underlying dst=some .string) (h3:P.underlying e=some (.int .u8))
  (hx:aC x=some X') (hs:step ρ m.h slot (.toStr X')=some (d,us)):Does B S P o a m slot d us:=by
 have e1:=ho x X' hx;simp only [step] at hs;obtain ⟨h4,rfl⟩:=aR hs;simp only [Option.bind_eq_bind,Option.bind_eq_some_iff,Prod.exists] at h4;obtain ⟨cs,n,h50,bs,h6,h7⟩:=h4;have h5:bM m.h 1 (ρ X')=some (cs,n):=by
  unfold EJ at h50;split at h50
  ·cases h50
  ·exact h50
 have acQ:∀s,ρ X'≠.c (.lit (.string s)):=by intro s he;rw [he] at h50;cases h50
 split at h7
 case isFalse=>cases h7
 rename_i hl;simp only [Option.some.injEq] at h7;subst h7;obtain ⟨news,hn1,hn2⟩:=uO (P:=P) hk e1 h5 (by rw [hl,Nat.mul_one])
 obtain ⟨ns,rfl,rfl⟩:=zT h6 hn1;refine aG hk slot (v:=.string ⟨(ns.map fun n=>UInt8.ofNat n.toNat).toArray⟩) ?_ (aX.mkLit rfl)
 have hf:=hn2.all (w':=m.w) rfl;have hlen:=hn2.len;cases hv:a.eval x with
 |slice ad l c=>
  rw [hv] at hf hlen;simp only [Builtin.lenOf] at hlen;have hl2:l=n:=by injection hlen
  subst hl2;have hc:=run_convert_bytes_string (P:=P) m.w src dst e ad l c h1 h3 h2;cases ad with
  |none=>
   simp only [Builtin.firstCells] at hf;have:ns=[]:=by have h9:(Result.ok #[] m.w:Result (Array Value))=_:=hf;simp at h9;exact h9
   subst this;simp [execOp,hop,hv,hc,Conv.bytesToString];rfl
  |some ad=>
   simp only [Builtin.firstCells,Nat.mul_one] at hf;have hb:=run_bytesToString (P:=P) m.w ad l c ns hf;rw [foldl_push] at hb;simp [execOp,hop,hv,hc,hb]
 |string s=>
  exfalso;rw [hv] at e1;unfold bM at h5;split at h5
  ·rename_i cs' n' he;rw [he] at e1;rcases e1 with ⟨h,_⟩|⟨_,h,_⟩<;>cases h
  ·rename_i cs' n' he;rw [he] at e1;have yY:aJ m.w (Safe B S m) (.slice cs' n') (.string s):=e1;simp only [aJ] at yY;rcases yY with ⟨h,_⟩|⟨_,_,h,_⟩<;>cases h
  ·rename_i s' he;exact acQ s' he
  ·rename_i id off len he;rw [he] at e1;obtain ⟨_,_,_,h,_⟩:=e1;cases h
  ·cases h5
 |bool _=>rw [hv] at hlen;simp [Builtin.lenOf] at hlen;cases hlen
 |_=>rw [hv] at hlen;cases hlen
end
end Go.Ey
namespace Go.Ey
open Go.RowKit
section
variable {B:Nat} {S:Nat->Nat->Prop} {P:Program} {o:Oper} {a:Act} {m:M} {slot:Nat} {ρ:X->D} {d:D} {us:List (Nat×Obj)}
theorem bu.oneCell {m:M} {d:D} {u:Value} (h:bu B S m d u) (hc:lD d=true):u.oneCell'=true:=by
 cases d with
 |c x=>exact aJ.oneCell h
 |loc id off=>obtain ⟨_,rfl⟩:=h;rfl
 |arr id off len=>obtain ⟨_,ad,cap,rfl,_⟩:=h;rfl
 |ptr cs=>obtain ⟨ad,rfl,_⟩:=h;rfl
 |full cs n=>rcases h with ⟨rfl,_⟩|⟨ad,rfl,_⟩<;>rfl
 |bJ f caps=>obtain ⟨rfl,_⟩:=h;rfl
 |mp id=>obtain ⟨_,rfl⟩:=h;rfl
 |_=>cases hc
theorem o7 {u:Value} (h:u.oneCell'=true):u.cells=#[u]:=by cases u<;>first|rfl|cases h
theorem x9:∀{ds:List D} {us:List Value},aj (bu B S m) ds us->ds.all lD=true->∀v∈us,v.oneCell'=true
 |[],[],_,_,v,hv=>by simp at hv
 |d::ds,u::us,h,hc,v,hv=>by
  simp only [List.all_cons,Bool.and_eq_true] at hc;simp only [List.mem_cons] at hv;rcases hv with rfl|hv
  ·exact h.1.oneCell hc.1
  ·exact x9 h.2 hc.2 v hv
 |[],_::_,h,_,_,_=>h.elim
 |_::_,[],h,_,_,_=>h.elim
theorem wO {d:D} {u:Value} (h:aX B S m d u) {ds:List D} (hc:cellsD d=some ds):aj (bu B S m) ds u.cells.toList/\∀v∈u.cells.toList,v.oneCell'=true:=by
 unfold cellsD at hc;split at hc
 ·rename_i ds';split at hc
  case isFalse=>cases hc
  rename_i hall;simp only [Option.some.injEq] at hc;subst hc;obtain ⟨us,rfl,h2⟩:=h;exact ⟨h2,x9 h2 hall⟩
 ·split at hc
  case isFalse=>cases hc
  rename_i hcell;simp only [Option.some.injEq] at hc;subst hc;have h':bu B S m d u:=by cases d<;>first|exact h|cases hcell
  have h1:=h'.oneCell hcell;rw [o7 h1];refine ⟨⟨h',trivial⟩,fun v hv=>?_⟩
  simp at hv;subst hv;exact h1
theorem bA.cells_ok {w:World} {Sf:Nat->Nat->Prop} {v:V} {u:Value} (h:bA w Sf v u):aj (aJ w Sf) v.cells u.cells.toList/\∀x∈u.cells.toList,x.oneCell'=true:=by
 cases v with
 |one c=>
  have h1:aJ w Sf c u:=h;rw [o7 h1.oneCell];refine ⟨⟨h1,trivial⟩,fun v hv=>?_⟩
  simp at hv;subst hv;exact h1.oneCell
 |agg cs=>
  obtain ⟨us,rfl,h1⟩:=h;exact ⟨h1,aj.mem_right (fun _ _ h2=>h2.oneCell) h1⟩
 |full cs n=>
  have h1:=h.full;rw [o7 h1.oneCell];refine ⟨⟨h1,trivial⟩,fun v hv=>?_⟩
  simp at hv;subst hv;exact h1.oneCell
theorem JO {w w':World} {ob:Go.Obj} (hw:w'=w.alloc ob\/w'=w.drew.alloc ob) (hB:B<=w.heap.size):Below B w w':=by
 rcases hw with rfl|rfl
 ·exact (Below.refl B w).alloc hB ob
 ·exact ((Below.refl B w).drew).alloc hB ob
theorem CP {w w':World} {ob:Go.Obj} (hw:w'=w.alloc ob\/w'=w.drew.alloc ob):w'.heap=w.heap.push ob:=by rcases hw with rfl|rfl<;>rfl
theorem uf (hk:bF B S m) {iB:List (Nat×Obj)} (hk1:bF B S (m.heap (ah m.h iB))) (hev:ak B S m (m.heap (ah m.h iB))) (hs:¬m.U slot) {w':World} {ob:Go.Obj} (hw:w'=m.w.alloc ob\/w'=m.w.drew.alloc ob) (o':Obj) {v:Value}
  (hrep:ak B S (m.heap (ah m.h iB)) ((m.heap (ah m.h iB)).put w' slot m.w.heap.size o')->r9 B S ((m.heap (ah m.h iB)).put w' slot m.w.heap.size o') m.w.heap.size o')
  (hd:ak B S m ((m.heap (ah m.h iB)).put w' slot m.w.heap.size o')->aX B S ((m.heap (ah m.h iB)).put w' slot m.w.heap.size o') d v):Post B S m slot (iB++[(slot,o')]) d v w':=by
 have hw2:=CP hw;have ev2:=rR hk1 (slot:=slot) hs (w':=w') (ob:=ob) hw2 o';have hk2:=MJ hk1 (slot:=slot) hs (w':=w') (ob:=ob) hw2 o' (hrep ev2);refine ⟨gB m.β slot m.w.heap.size,?_,?_,?_,JO hw hk.base⟩
 all_goals rw [aU]
 ·exact hk2
 ·exact hev.trans ev2
 ·exact hd (hev.trans ev2)
theorem newest {w w':World} {ob:Go.Obj} (hw:w'=w.alloc ob\/w'=w.drew.alloc ob):w'.heap[w.heap.size]?=some ob:=by rw [CP hw];simp
theorem xP (hk:bF B S m) (hs:¬m.U slot) {ds:List D} {vs:List Value} {e:TypeId} (hr:aj (bu B S m) ds vs)
  (hrun:(execOp a.eval o).run P m.w=.ok (.value (.pointer (some ⟨m.w.heap.size,0,none⟩))) (m.w.alloc (.cells vs.toArray e))):Does B S P o a m slot (.loc slot 0) [(slot,.box ds)]:=by
 refine ⟨_,_,_,hrun,.inl rfl,?_⟩;refine uf (iB:=[]) hk hk (ak.refl m) hs (.inl rfl) (.box ds) (fun ev=>⟨hk.base,vs,e,newest (.inl rfl),hr.mono fun _ _ h=>ev.jK h⟩) (fun _=>⟨.inr rfl,?_⟩)
 simp [M.put,gB]
theorem iK {t:TypeId} {z:List Value} (h:zeroOf P t=some z):∃i zv,P.info? t=some i/\i.zero=some zv/\zv.cells.toList=z/\(∀v∈z,(scalar v||jF v)=true)/\z.length=i.size:=by
 unfold zeroOf at h;simp only [Option.bind_eq_bind,Option.bind_eq_some_iff] at h;obtain ⟨i,h1,zv,h2,h3⟩:=h;split at h3
 case isFalse=>cases h3
 rename_i hc;simp only [Option.some.injEq] at h3;subst h3;exact ⟨i,zv,h1,h2,rfl,List.all_eq_true.1 hc.1,by simpa using hc.2⟩
theorem lZ {v:Value} (h:jF v=true):v=.slice none 0 0:=by
 unfold jF at h;split at h
 ·rfl
 ·cases h
theorem Gw {v:Value} (h:scalar v=true):lG v=.lit v:=by
 unfold lG;split
 ·cases h
 ·rfl
theorem Qx {v:Value} (h:scalar v=true):qE v=.c (.lit v):=by
 unfold qE;split
 ·cases h
 ·rfl
theorem QW {w:World} {Sf:Nat->Nat->Prop} {v:Value} (h:(scalar v||jF v)=true):aJ w Sf (lG v) v:=by
 rcases Bool.or_eq_true_iff.1 h with h|h
 ·rw [Gw h];simp only [aJ];exact ⟨trivial,h⟩
 ·rw [lZ h];simp [lG,aJ]
theorem RN {v:Value} (h:(scalar v||jF v)=true):bu B S m (qE v) v:=by
 rcases Bool.or_eq_true_iff.1 h with h|h
 ·rw [Qx h];show aJ m.w (Safe B S m) (.lit v) v;simp only [aJ];exact ⟨trivial,h⟩
 ·rw [lZ h];exact .inl ⟨rfl,rfl,rfl⟩
theorem CF {w:World} {Sf:Nat->Nat->Prop}:∀{z:List Value},(∀v∈z,(scalar v||jF v)=true)->aj (aJ w Sf) (z.map lG) z
 |[],_=>trivial
 |v::z,h=>⟨QW (h v (by simp)),CF fun x hx=>h x (by simp [hx])⟩
theorem sD:∀{z:List Value},(∀v∈z,(scalar v||jF v)=true)->aj (bu B S m) (z.map qE) z
 |[],_=>trivial
 |v::z,h=>⟨RN (h v (by simp)),sD fun x hx=>h x (by simp [hx])⟩
theorem OC (hk:bF B S m) (hs0:¬m.U slot) {t:TypeId} {z:List Value} (hop:o.op=.alloc t) (hz:zeroOf P t=some z) (hs:step ρ m.h slot (.alloc z)=some (d,us)):Does B S P o a m slot d us:=by obtain ⟨i,zv,h1,h2,h3,h4,_⟩:=iK hz;simp only [step,Option.some.injEq,Prod.mk.injEq] at hs;obtain ⟨rfl,rfl⟩:=hs;refine xP hk hs0 (sD h4) (e:=t) ?_;simp [execOp,hop,Instr.alloc,zeroValue,typeInfo,h1,h2,newVar,newRow,<-h3]
theorem QH (hk:bF B S m) (ho:pI B S m ρ a) (hs0:¬m.U slot) {t:TypeId} {x:Operand} {X':X} (hop:o.op=.box t x) (hx:aC x=some X') (hs:step ρ m.h slot (.box X')=some (d,us)):Does B S P o a m slot d us:=by simp only [step,Option.bind_eq_bind,Option.bind_eq_some_iff,Option.some.injEq,Prod.mk.injEq] at hs;obtain ⟨ds,h1,rfl,rfl⟩:=hs;obtain ⟨h2,_⟩:=wO (ho x X' hx) h1;refine xP hk hs0 h2 (e:=t) ?_;simp [execOp,hop,Instr.box,newVar,newRow]
theorem jM (hk:bF B S m) (hs:¬m.U slot) {iB:List (Nat×Obj)} (hk1:bF B S (m.heap (ah m.h iB))) (hev:ak B S m (m.heap (ah m.h iB))) {cs:List C} {vs spare:List Value} {e aa n cap fz:Nat}
  (hr:aj (aJ m.w (Safe B S (m.heap (ah m.h iB)))) cs vs) (hn:n<=cap) (hsz:(vs++spare).length=cap * aa) (hmax:cap<=maxLen) {w':World} (hw:w'=m.w.alloc (.cells (vs++spare).toArray e)\/w'=m.w.drew.alloc (.cells (vs++spare).toArray e))
  (hrun:(execOp a.eval o).run P m.w=.ok (.value (.slice (some ⟨m.w.heap.size,0,none⟩) n cap)) w'):Does B S P o a m slot (.arr slot 0 n) (iB++[(slot,.arr cs aa fz e)]):=by
 refine ⟨_,_,_,hrun,.inl rfl,?_⟩;refine uf hk hk1 hev hs hw (.arr cs aa fz e) (fun ev=>⟨hk.base,vs++spare,newest hw,?_,?_⟩) (fun _=>⟨.inr rfl,⟨m.w.heap.size,0,none⟩,cap,rfl,hn,?_⟩)
 ·rw [hr.len];simp
 ·rw [hr.len,List.take_left];exact hr.mono fun c u h=>aJ.mono ev.cell c u h
 ·simp only [M.put,aA,if_true,gB];refine .inl ⟨trivial,(vs++spare).length,?_,by omega,hmax⟩
  simp [World.shape?,newest hw]
theorem Bi {w:World} {Sf:Nat->Nat->Prop} {z:List Value} (h:∀v∈z,(scalar v||jF v)=true):∀n,aj (aJ w Sf) (zeros z n) (List.replicate n z).flatten
 |0=>trivial
 |n+1=>by simp only [zeros,List.replicate_succ,List.flatten_cons];exact (CF h).append (Bi h n)
theorem rW {z:Array Value} (n:Nat):((Array.range (n * z.size)).map (z[· % z.size]!)).toList=(List.replicate n z.toList).flatten:=by
 induction n with
 |zero=>simp
 |succ n ih=>
  have h1:(n+1) * z.size=n * z.size+z.size:=by rw [Nat.succ_mul]
  rw [h1,List.replicate_succ',List.flatten_append];simp only [Array.toList_map,Array.toList_range] at ih |-;rw [List.range_add,List.map_append,ih];congr 1;simp only [List.map_map,List.flatten_cons,List.flatten_nil,List.append_nil];apply List.ext_getElem?;intro j;simp only [List.getElem?_map];by_cases hj:j < z.size
  ·have:(List.range z.size)[j]?=some j:=by simp [hj]
   rw [this];have hm:(n * z.size+j) % z.size=j:=by rw [Nat.mul_comm,Nat.mul_add_mod,Nat.mod_eq_of_lt hj]
   simp [Function.comp,hm,hj]
  ·have:(List.range z.size)[j]?=none:=by simp;omega
   rw [this];simp;omega
theorem TY (hk:bF B S m) (ho:pI B S m ρ a) (hs0:¬m.U slot) {t e:TypeId} {x y:Operand} {X' Y':X} {i:TypeInfo} {z:List Value} (hop:o.op=.makeSlice t x y) (h1:bP P t=some e) (h2:P.info? e=some i) (h3:zeroOf P e=some z)
  (hx:aC x=some X') (hy:aC y=some Y') (hs:step ρ m.h slot (.mk i.size e i.bytes z X' Y')=some (d,us)):Does B S P o a m slot d us:=by
 have hu:=eX h1;obtain ⟨i',zv,g1,g2,g3,g4,g5⟩:=iK h3;rw [h2] at g1;simp only [Option.some.injEq] at g1;subst g1;simp only [step,Option.bind_eq_bind,Option.bind_eq_some_iff] at hs;obtain ⟨n,hn1,c,hc1,hs⟩:=hs;split at hs
 case isFalse=>cases hs
 rename_i hc;obtain ⟨c1,c2,c3,c4,c5⟩:=hc;simp only [Option.some.injEq,Prod.mk.injEq] at hs;obtain ⟨rfl,rfl⟩:=hs;obtain ⟨kn,hn2⟩:=dI hn1;obtain ⟨kc,hc2⟩:=dI hc1;have e1:=ho x X' hx;have e2:=ho y Y' hy;rw [hn2] at e1;rw [hc2] at e2;have hc63:c<=9223372036854775807:=by unfold aD at c4;omega
 have hby:(i.bytes:Int) * c<=281474976710656:=by
  have:((c.toNat * i.bytes:Nat):Int)<=140737488355328:=by unfold aD at c3;omega
  rw [Int.natCast_mul] at this;have hc0:(c.toNat:Int)=c:=by omega
  rw [hc0] at this;rw [Int.mul_comm];omega
 have hrun:=run_make (P:=P) m.w t e i zv hu h2 g2 kn kc n c c1 c2 hby hc63;have hcells:madeCells zv.cells (c.toNat * i.size)=((List.replicate n.toNat z).flatten++(List.replicate (c.toNat - n.toNat) z).flatten).toArray:=by
  apply Array.ext';have hzs:zv.cells.size=i.size:=by rw [<-g5,<-g3];simp
  rw [madeCells,<-hzs,rW,g3,<-List.flatten_append,List.replicate_append_replicate];congr 2;omega
 rw [hcells] at hrun;have hlen:∀k,((List.replicate k z).flatten).length=k * i.size:=by
  intro k;induction k with
  |zero=>simp
  |succ k ih=>rw [List.replicate_succ,List.flatten_cons,List.length_append,ih,g5,Nat.succ_mul];omega
 refine jM (iB:=[]) hk hs0 hk (ak.refl m) (cap:=c.toNat) (spare:=(List.replicate (c.toNat - n.toNat) z).flatten) (w':=_) (Bi g4 n.toNat) (by omega) ?_ (by unfold aD at c4;simp only [maxLen];omega) (.inl rfl) ?_
 ·rw [List.length_append,hlen,hlen,<-Nat.add_mul];congr 1;omega
 ·simp [execOp,hop,e1.lit,e2.lit,hrun]
end
end Go.Ey
