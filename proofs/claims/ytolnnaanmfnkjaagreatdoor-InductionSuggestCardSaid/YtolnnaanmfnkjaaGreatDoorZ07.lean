/- A part. -/
import Derived.Test.YtolnnaanmfnkjaaGreatDoorZ04
set_option linter.all false
namespace Go.Ey
open RowKit
theorem Uj {op:BinOp} {a b v:Value} (h:r9 op a b=some v):scalar v=true:=by
 unfold r9 at h;split at h
 ·split at h
  ·unfold Ee at h;split at h
   ·cases h
   ·cases op<;>simp at h<;>subst h<;>rfl
  ·split at h
   ·unfold jV at h;cases op<;>simp at h<;>first|(subst h;rfl)|(obtain ⟨_,rfl⟩:=h;rfl)
   ·cases h
 ·unfold DJ at h;cases op<;>simp at h<;>first|(subst h;rfl)|(obtain ⟨_,rfl⟩:=h;rfl)
 ·cases h
theorem TH {op:BinOp} {a b v:Value} (h:MM op a b=some v):scalar v=true:=by
 unfold MM at h;split at h
 ·cases op<;>simp at h<;>subst h<;>rfl
 ·cases h
theorem Xz {op:UnOp} {a v:Value} (h:unV op a=some v):scalar v=true:=by
 unfold unV at h;split at h
 ·cases op<;>simp at h<;>subst h<;>rfl
 ·cases op<;>simp at h<;>subst h<;>rfl
 ·cases h
section
variable {P:Program} {w:World}
theorem Lu (op:BinOp) (t:TypeId) (x y:Operand) (k k':IntKind) (p q:Int):(eqGuard op t x y (.int k p) (.int k' q)).run P w=.ok () w:=by cases op<;>rfl
theorem Js (op:BinOp) (t:TypeId) (x y:Operand) (p q:Bool):(eqGuard op t x y (.bool p) (.bool q)).run P w=.ok () w:=by cases op<;>rfl
theorem F7 (op:BinOp) (t:TypeId) (x y:Operand) (p q:ByteArray):(eqGuard op t x y (.string p) (.string q)).run P w=.ok () w:=by cases op<;>rfl
theorem run_equalIn_bool (d:Nat) {t:TypeId} (ht:P.underlying t=some .bool) (p q:Bool):(Op.equalIn (d+1) t (.bool p) (.bool q)).run P w=.ok (p==q) w:=by simp [Op.equalIn,run_underlying ht]
theorem run_equal_bool {t:TypeId} (ht:P.underlying t=some .bool) (p q:Bool):(Op.equal t (.bool p) (.bool q)).run P w=.ok (p==q) w:=run_equalIn_bool 9999 ht p q
theorem aii {op:BinOp} {t:TypeId} {x y:Operand} {a b v:Value} {Kg:Bool} (hB:Kg=true->P.underlying t=some .bool)
  (h:(if Kg then MM op a b else r9 op a b)=some v):(do eqGuard op t x y a b;binOp op t a b:Sem Value).run P w=.ok v w:=by
 cases Kg with
 |true=>
  have ht:=hB rfl;simp only [E7] at h;unfold MM at h;split at h
  ·rename_i p q;have hg:=Js (P:=P) (w:=w) op t x y p q;simp only [Sem.run_bind,hg,Result.andThen_ok];have he:=run_equal_bool (P:=P) (w:=w) ht p q;cases op<;>simp at h<;>subst h<;>simp [binOp,he]
  ·cases h
 |false=>
  simp only [C7,C2] at h;unfold r9 at h;split at h
  ·rename_i k p k' q;have hg:=Lu (P:=P) (w:=w) op t x y k k' p q;simp only [Sem.run_bind,hg,Result.andThen_ok];split at h
   ·rename_i hsh;unfold Ee at h;split at h
    ·cases h
    ·rename_i hneg;cases op<;>simp [gM] at hsh<;>simp at h<;>subst h<;>simp [binOp,Op.shift,hneg]
   ·rename_i hsh;split at h
    ·rename_i hkk;subst hkk;unfold jV at h;cases op<;>simp [gM] at hsh<;>simp at h<;>
      first
       |(subst h;simp [binOp,Op.intArith,Op.intBits,Op.intCmp];done)
       |(obtain ⟨h0,rfl⟩:=h;simp [binOp,Op.intDiv,h0];done)
    ·cases h
  ·rename_i p q;have hg:=F7 (P:=P) (w:=w) op t x y p q;simp only [Sem.run_bind,hg,Result.andThen_ok];unfold DJ at h;have e:IntKind.i64.max=9223372036854775807:=rfl;cases op<;>simp at h<;>
    first
     |(subst h;simp [binOp,Op.stringOp];done)
     |(obtain ⟨h0,rfl⟩:=h
       have h1:¬((p.size+q.size:Nat):Int) > IntKind.i64.max:=by omega
       simp only [binOp,Op.stringOp,E0 h1,Sem.run_pure])
  ·cases h
theorem amf {op:UnOp} {a v:Value} (h:unV op a=some v):(Op.unary op a).run P w=.ok v w:=by
 unfold unV at h;split at h
 ·cases op<;>simp at h<;>subst h<;>simp [Op.unary,Op.intArith,Op.intBits]
 ·cases op<;>simp at h<;>subst h<;>simp [Op.unary]
 ·cases h
theorem akl {ts:Array TypeId} {t:TypeId} {a b v:Value} (h:za true a b=some v):(Builtin.max_ ts t #[a,b]).run P w=.ok v w:=by
 unfold za at h;split at h
 ·simp only [E7,A0] at h;subst h;simp [Builtin.max_,Builtin.max2]
 ·cases h
theorem alP {ts:Array TypeId} {t:TypeId} {a b v:Value} (h:za false a b=some v):(Builtin.min_ ts t #[a,b]).run P w=.ok v w:=by
 unfold za at h;split at h
 ·simp only [C7,C2,A0] at h;subst h;simp [Builtin.min_,Builtin.min2]
 ·cases h
theorem FI {m:Bool} {a b v:Value} (h:za m a b=some v):scalar v=true:=by
 unfold za at h;split at h
 ·simp only [A0] at h;subst h;rfl
 ·cases h
end
theorem oF {d:D} {v:Value} (h:Bz d=some v):d=.c (.lit v):=by
 unfold Bz at h;split at h
 ·simp at h;subst h;rfl
 ·cases h
theorem iB {d:D} {n:Int} (h:Ey.asInt d=some n):∃k,d=.c (.lit (.int k n)):=by
 unfold Ey.asInt at h;split at h
 ·rename_i k n';simp at h;subst h;exact ⟨k,rfl⟩
 ·cases h
theorem Ld {d:D} {b:Bool} (h:Ey.asBool d=some b):d=.c (.lit (.bool b)):=by
 unfold Ey.asBool at h;split at h
 ·simp at h;subst h;rfl
 ·cases h
section
variable {B:Nat} {S:Nat->Nat->Prop}
theorem dZ.lit {m:M} {v u:Value} (h:dZ B S m (.c (.lit v)) u):u=v:=by have h':bJ m.w (Safe B S m) (.lit v) u:=h;simp only [bJ] at h';exact h'.1
theorem dZ.mkLit {m:M} {v:Value} (h:scalar v=true):dZ B S m (.c (.lit v)) v:=by
 show bJ m.w (Safe B S m) (.lit v) v
 simp only [bJ];exact ⟨trivial,h⟩
def Post (B:Nat) (S:Nat->Nat->Prop) (m:M) (slot:Nat) (us:List (Nat×Obj)) (d:D) (v:Value) (w':World):Prop:=
 ∃β',fu B S ⟨w',ay m.h us,β',fun i=>m.U i\/i=slot⟩/\aB B S m ⟨w',ay m.h us,β',fun i=>m.U i\/i=slot⟩/\
  dZ B S ⟨w',ay m.h us,β',fun i=>m.U i\/i=slot⟩ d v/\Below B m.w w'
def Does (B:Nat) (S:Nat->Nat->Prop) (P:Program) (o:Oper) (a:Act) (m:M) (slot:Nat) (d:D) (us:List (Nat×Obj)):Prop:=
 ∃n v w',(execOp a.eval o).run P m.w=.ok n w'/\(n=.value v\/(n=.skip/\v=undef))/\Post B S m slot us d v w'
theorem bK {P:Program} {o:Oper} {a:Act} {m:M} (hk:fu B S m) (slot:Nat) {d:D} {v:Value} (hrun:(execOp a.eval o).run P m.w=.ok (.value v) m.w) (hr:dZ B S m d v):
  Does B S P o a m slot d []:=
 ⟨_,v,m.w,hrun,.inl rfl,m.β,vT hk slot,fD m slot,(fD m slot).Yg hr,Below.refl _ _⟩
def DV (B:Nat) (S:Nat->Nat->Prop) (m:M) (ρ:X->D) (a:Act):Prop:=∀x X,bI x=some X->dZ B S m (ρ X) (a.eval x)
theorem dD {d:Option D} {x:D} {us:List (Nat×Obj)} (h:dF d=some (x,us)):d=some x/\us=[]:=by
 unfold dF at h;cases d with
 |none=>simp at h
 |some y=>simp only [Hj,A0,A3] at h;exact ⟨by rw [h.1],h.2.symm⟩
variable {P:Program} {o:Oper} {a:Act} {m:M} {slot:Nat} {ρ:X->D} {d:D} {us:List (Nat×Obj)}
theorem Ud (hk:fu B S m) (ho:DV B S m ρ a) {x:Operand} {X:X} (hop:o.op=.move x\/o.op=.assign x) (hx:bI x=some X)
  (hs:step ρ m.h slot (.YY X)=some (d,us)):Does B S P o a m slot d us:=by
 simp only [step,dF,Hj,A0,A3] at hs;obtain ⟨rfl,rfl⟩:=hs;refine bK hk slot (v:=a.eval x) ?_ (ho x X hx);rcases hop with h|h<;>simp [execOp,h]
theorem abb (hk:fu B S m) (ho:DV B S m ρ a) {c x y:Operand} {C' X' Y':X} (hop:o.op=.pick c x y) (hc:bI c=some C') (hx:bI x=some X') (hy:bI y=some Y')
  (hs:step ρ m.h slot (.pick C' X' Y')=some (d,us)):Does B S P o a m slot d us:=by
 simp only [step] at hs;obtain ⟨h1,rfl⟩:=dD hs;simp only [A2,A1,A0] at h1;obtain ⟨t,h2,rfl⟩:=h1;have h3:=ho c C' hc;rw [Ld h2] at h3;have h4:=h3.lit;refine bK hk slot (v:=if t then a.eval x else a.eval y) ?_ ?_
 ·simp [execOp,hop,h4,Go.asBool]
 ·cases t
  ·exact ho y Y' hy
  ·exact ho x X' hx
theorem Mr (hk:fu B S m) (ho:DV B S m ρ a) {op:BinOp} {t t':TypeId} {x y:Operand} {Kg:Bool} {X' Y':X} (hop:o.op=.binOp op t x y t') (hB:Kg=true->P.underlying t=some .bool)
  (hx:bI x=some X') (hy:bI y=some Y') (hs:step ρ m.h slot (.bin op Kg X' Y')=some (d,us)):Does B S P o a m slot d us:=by
 simp only [step] at hs;obtain ⟨h1,rfl⟩:=dD hs;simp only [A2,A1,Fi] at h1;obtain ⟨p,h2,q,h3,v,h4,rfl⟩:=h1;have e1:=ho x X' hx;have e2:=ho y Y' hy;rw [oF h2] at e1;rw [oF h3] at e2;refine bK hk slot (v:=v) ?_ (dZ.mkLit ?_)
 ·have hrun:=aii (P:=P) (w:=m.w) (op:=op) (t:=t) (x:=x) (y:=y) hB h4;simp only [execOp,hop,e1.lit,e2.lit];simp only [Sem.run_bind] at hrun |-;rw [hrun];rfl
 ·cases Kg
  ·exact Uj h4
  ·exact TH h4
theorem ais (hk:fu B S m) (ho:DV B S m ρ a) {op:UnOp} {t:TypeId} {x:Operand} {X':X} (hop:o.op=.unOp op t x) (hx:bI x=some X')
  (hs:step ρ m.h slot (.un op X')=some (d,us)):Does B S P o a m slot d us:=by
 simp only [step] at hs;obtain ⟨h1,rfl⟩:=dD hs;simp only [A2,A1,Fi] at h1;obtain ⟨p,h2,v,h4,rfl⟩:=h1;have e1:=ho x X' hx;rw [oF h2] at e1;refine bK hk slot (v:=v) ?_ (dZ.mkLit (Xz h4));have hrun:=amf (P:=P) (w:=m.w) h4;simp [execOp,hop,e1.lit,hrun]
theorem abK (hk:fu B S m) (ho:DV B S m ρ a) {src dst:TypeId} {k0 k:IntKind} {x:Operand} {X':X} (hop:o.op=.convert src dst x) (h1:P.underlying src=some (.int k0)) (h2:P.underlying dst=some (.int k))
  (hx:bI x=some X') (hs:step ρ m.h slot (.conv k X')=some (d,us)):Does B S P o a m slot d us:=by
 simp only [step] at hs;obtain ⟨h3,rfl⟩:=dD hs;simp only [A2,A1,A0] at h3;obtain ⟨n,h4,rfl⟩:=h3;obtain ⟨k1,h5⟩:=iB h4;have e1:=ho x X' hx;rw [h5] at e1;refine bK hk slot (v:=.int k (k.wrap n)) ?_ (dZ.mkLit rfl);simp [execOp,hop,e1.lit,convert,run_underlying h1,run_underlying h2,Conv.intToInt]
theorem aiN (hk:fu B S m) (ho:DV B S m ρ a) {x y:Operand} {ts:Array TypeId} {X' Y':X} (hop:o.op=.call { callee:=.builtin .max,args:=#[x,y],argTypes:=ts})
  (hx:bI x=some X') (hy:bI y=some Y') (hs:step ρ m.h slot (.mx X' Y')=some (d,us)):Does B S P o a m slot d us:=by
 simp only [step] at hs;obtain ⟨h1,rfl⟩:=dD hs;simp only [A2,A1,Fi] at h1;obtain ⟨p,h2,q,h3,v,h4,rfl⟩:=h1;have e1:=ho x X' hx;have e2:=ho y Y' hy;rw [oF h2] at e1;rw [oF h3] at e2;refine bK hk slot (v:=v) ?_ (dZ.mkLit (FI h4));have hrun:=akl (P:=P) (w:=m.w) (ts:=ts) (t:=o.type) h4;simp [execOp,hop,resolve,invoke,builtin,e1.lit,e2.lit,hrun]
theorem aiK (hk:fu B S m) (ho:DV B S m ρ a) {x y:Operand} {ts:Array TypeId} {X' Y':X} (hop:o.op=.call { callee:=.builtin .min,args:=#[x,y],argTypes:=ts})
  (hx:bI x=some X') (hy:bI y=some Y') (hs:step ρ m.h slot (.mn X' Y')=some (d,us)):Does B S P o a m slot d us:=by
 simp only [step] at hs;obtain ⟨h1,rfl⟩:=dD hs;simp only [A2,A1,Fi] at h1;obtain ⟨p,h2,q,h3,v,h4,rfl⟩:=h1;have e1:=ho x X' hx;have e2:=ho y Y' hy;rw [oF h2] at e1;rw [oF h3] at e2;refine bK hk slot (v:=v) ?_ (dZ.mkLit (FI h4));have hrun:=alP (P:=P) (w:=m.w) (ts:=ts) (t:=o.type) h4;simp [execOp,hop,resolve,invoke,builtin,e1.lit,e2.lit,hrun]
theorem aea {ds:List D} {us:List Value} {i:Nat} {d:D} (h:av (ni B S m) ds us) (hi:ds[i]?=some d):∃u,us[i]?=some u/\ni B S m d u:=h.get i hi
theorem ni.mY {m:M} {d:D} {u:Value} (h:ni B S m d u):dZ B S m d u:=by
 cases d with
 |jG ds=>exact h.elim
 |_=>exact h
theorem fA.toA {m:M} {d:D} {u:Value} (h:fA B S m d u):ni B S m d u:=by
 cases d with
 |agg ds=>exact h.elim
 |_=>exact h
theorem fA.mY {m:M} {d:D} {u:Value} (h:fA B S m d u):dZ B S m d u:=h.toA.mY
theorem ae6 (hk:fu B S m) (ho:DV B S m ρ a) {x:Operand} {X':X} {i:Nat} (hop:o.op=.extract x i) (hx:bI x=some X')
  (hs:step ρ m.h slot (.ext X' i)=some (d,us)):Does B S P o a m slot d us:=by
 simp only [step] at hs;obtain ⟨h1,rfl⟩:=dD hs;have e1:=ho x X' hx;split at h1
 ·rename_i ds hd;rw [hd] at e1;obtain ⟨vs,e2,e3⟩:=e1;obtain ⟨u,e4,e5⟩:=aea e3 h1;refine bK hk slot (v:=u) ?_ e5.mY;simp [execOp,hop,e2,Instr.extract,e4]
 ·cases h1
theorem WE (hk:fu B S m) (ho:DV B S m ρ a) {x:Operand} {X':X} {t:TypeId} {isStr:Bool} (hop:o.op=.call { callee:=.builtin .len,args:=#[x],argTypes:=#[t]})
  (ht:if isStr then P.underlying t=some .string else ∃e,P.underlying t=some (.slice e)) (hx:bI x=some X') (hs:step ρ m.h slot (.len isStr X')=some (d,us)):Does B S P o a m slot d us:=by
 simp only [step] at hs;obtain ⟨h1,rfl⟩:=dD hs;have e1:=ho x X' hx;unfold Nn at h1;split at h1<;>cases isStr<;>simp only [E7,C7,C2,A0,reduceCtorEq] at h1 ht<;>subst h1
 ·rename_i id off len he;rw [he] at e1;obtain ⟨_,ad,cap,e2,_⟩:=e1;obtain ⟨e,ht⟩:=ht;refine bK hk slot (v:=.int .i64 len) ?_ (dZ.mkLit rfl);simp [execOp,hop,resolve,invoke,builtin,e2,Builtin.len_,run_underlying ht,goInt]
 ·rename_i cs n he;rw [he] at e1;have Mi:bJ m.w (Safe B S m) (.slice cs n) (a.eval x):=e1;simp only [bJ] at Mi;obtain ⟨e,ht⟩:=ht;refine bK hk slot (v:=.int .i64 n) ?_ (dZ.mkLit rfl);rcases Mi with ⟨e2,rfl,_⟩|⟨ad,cap,e2,_⟩<;>
  simp [execOp,hop,resolve,invoke,builtin,e2,Builtin.len_,run_underlying ht,goInt]
 ·rename_i cs n he;rw [he] at e1;obtain ⟨e,ht⟩:=ht;refine bK hk slot (v:=.int .i64 n) ?_ (dZ.mkLit rfl);rcases e1 with ⟨e2,rfl,_⟩|⟨ad,e2,_⟩<;>
  simp [execOp,hop,resolve,invoke,builtin,e2,Builtin.len_,run_underlying ht,goInt]
 ·rename_i s he;rw [he] at e1;refine bK hk slot (v:=.int .i64 s.size) ?_ (dZ.mkLit rfl);simp [execOp,hop,resolve,invoke,builtin,e1.lit,Builtin.len_,run_underlying ht,goInt]
end
end Go.Ey
namespace Go.Ey
open RowKit
section
variable {B:Nat} {S:Nat->Nat->Prop} {P:Program} {o:Oper} {a:Act} {m:M} {slot:Nat} {ρ:X->D} {d:D} {us:List (Nat×Obj)}
theorem yK {t:TypeId} {b:Bool} (h:Hl P t=some b) (w:World):(isAgg t).run P w=.ok b w:=by
 unfold Hl at h;cases hu:P.underlying t with
 |none=>rw [hu] at h;cases h
 |some td=>rw [hu] at h;cases td<;>simp at h<;>subst h<;>simp [isAgg,run_underlying hu]
theorem run_sizeOf {t:TypeId} {i:TypeInfo} (h:P.info? t=some i) (w:World):(sizeOf t).run P w=.ok i.size w:=by simp [sizeOf,typeInfo,h]
theorem wI {t:TypeId} (h:Hl P t=some false) {w:World} {ad:Addr} {v:Value} (hc:w.cell? ad=some v):(loadVar t ad).run P w=.ok v w:=by simp [loadVar,yK h,hc]
theorem wP {t:TypeId} {i:TypeInfo} (h:Hl P t=some true) (hi:P.info? t=some i) {w:World} {ad:Addr} {vs:List Value} (hl:vs.length=i.size) (hc:∀j v,vs[j]?=some v->w.cell? (ad.add j)=some v):
  (loadVar t ad).run P w=.ok (.agg vs.toArray) w:=by
 have:=run_loadCells_list (P:=P) w ad vs hc
 rw [hl] at this;simp [loadVar,yK h,run_sizeOf hi,this]
theorem V6 (hk:fu B S m) {t:TypeId} {i:TypeInfo} {agg:Bool} (h1:Hl P t=some agg) (h2:P.info? t=some i) {x d:D} {u:Value} (hr:dZ B S m x u) (hl:ji m.h agg i.size x=some d):
  ∃ad v,u=.pointer (some ad)/\(loadVar t ad).run P m.w=.ok v m.w/\ni B S m d v:=by
 cases x with
 |loc id off=>
  obtain ⟨_,rfl⟩:=hr;refine ⟨⟨m.β id,off,none⟩,?_⟩;simp only [ji] at hl;cases ho:ax m.h id with
  |dead=>rw [ho] at hl;cases hl
  |box ds=>
   rw [ho] at hl;obtain ⟨_,vs,e,hv1,hv2⟩:=hk.box ho;cases agg with
   |true=>
    simp only [E7] at hl;split at hl
    case isFalse=>cases hl
    rename_i hle;simp only [A0] at hl;subst hl;have hall:=(hv2.drop off).take i.size;have hlen:((vs.drop off).take i.size).length=i.size:=by rw [<-hall.len,Fo,Ft];omega
    refine ⟨.agg ((vs.drop off).take i.size).toArray,rfl,wP h1 h2 hlen fun j v hv=>?_,_,rfl,hall⟩
    have hj:j < i.size:=by have:=(As.1 hv).1;simp at this;omega
    rw [Fc hj,M1] at hv;rw [x9,jw hv1];exact hv
   |false=>
    simp only [C7,C2] at hl;obtain ⟨v,hv3,hv4⟩:=hv2.get off hl;exact ⟨v,rfl,wI h1 (by rw [jw hv1];exact hv3),hv4.toA⟩
  |map es=>rw [ho] at hl;cases hl
  |arr cs aj fz ety=>
   rw [ho] at hl;obtain ⟨_,vs,hv1,hvl,hv2⟩:=hk.arr ho;cases agg with
   |true=>
    simp only [E7] at hl;split at hl
    case isFalse=>cases hl
    rename_i hle;simp only [A0] at hl;subst hl;have hall:=(hv2.drop off).take i.size;have hlen:(((vs.take cs.length).drop off).take i.size).length=i.size:=by rw [<-hall.len,Fo,Ft];omega
    refine ⟨.agg (((vs.take cs.length).drop off).take i.size).toArray,rfl,wP h1 h2 hlen fun j v hv=>?_,_,rfl,av.mE hall⟩
    have hj:j < i.size:=by have:=(As.1 hv).1;simp at this;omega
    rw [Fc hj,M1,Fc (by omega)] at hv
    rw [x9,jw hv1];exact hv
   |false=>
    simp only [C7,C2,Fi] at hl;obtain ⟨c,hc,rfl⟩:=hl;obtain ⟨v,hv3,hv4⟩:=hv2.get off hc;have hoff:off < cs.length:=(As.1 hc).1;rw [Fc hoff] at hv3;exact ⟨v,rfl,wI h1 (by rw [jw hv1];exact hv3),hv4⟩
 |ptr cs=>
  obtain ⟨ad,rfl,hsp,hr⟩:=hr;refine ⟨ad,?_⟩;simp only [ji] at hl;obtain ⟨vs,hv1,hv2⟩:=E8 hr;obtain ⟨b,of,sp⟩:=ad;cases agg with
  |true=>
   simp only [E7] at hl;split at hl
   case isFalse=>cases hl
   rename_i hle;simp only [A0] at hl;subst hl;have hall:=hv1.take i.size;have hlen:(vs.take i.size).length=i.size:=by rw [<-hall.len,Fo];omega
   refine ⟨.agg (vs.take i.size).toArray,rfl,wP h1 h2 hlen fun j v hv=>?_,_,rfl,av.mE hall⟩
   have hj:j < i.size:=by have:=(As.1 hv).1;simp at this;omega
   rw [Fc hj] at hv;have hne:cs≠[]:=by
    intro e;subst e;cases vs with
    |nil=>simp at hv
    |cons _ _=>exact hv1.elim
   have:=hsp hne
   simp only at this;subst this;rw [x9];exact (hv2 j v hv).1
  |false=>
   simp only [C7,C2,Fi] at hl;obtain ⟨c,hc,rfl⟩:=hl;obtain ⟨v,hv3,hv4⟩:=hv1.get 0 hc;have hne:cs≠[]:=by intro e;subst e;simp at hc
   have:=hsp hne
   simp only at this;subst this;exact ⟨v,rfl,wI h1 (by have:=(hv2 0 v hv3).1;simpa using this),hv4⟩
 |full cs n=>simp [ji] at hl
 |fq f caps=>simp [ji] at hl
 |mp id=>simp [ji] at hl
 |rq=>simp [ji] at hl
 |c x=>simp [ji] at hl
 |arr id off len=>simp [ji] at hl
 |agg ds=>simp [ji] at hl
 |jG ds=>simp [ji] at hl
theorem aa7 (hk:fu B S m) (ho:DV B S m ρ a) {t:TypeId} {x:Operand} {X':X} {i:TypeInfo} {agg:Bool} (hop:o.op=.load t x) (h1:Hl P t=some agg) (h2:P.info? t=some i) (hx:bI x=some X')
  (hs:step ρ m.h slot (.load agg i.size X')=some (d,us)):Does B S P o a m slot d us:=by
 simp only [step] at hs;obtain ⟨h3,rfl⟩:=dD hs;obtain ⟨ad,v,e1,e2,e3⟩:=V6 hk h1 h2 (ho x X' hx) h3;refine bK hk slot (v:=v) ?_ e3.mY;simp [execOp,hop,Instr.loadAt,e1,Instr.sureAddr,e2]
theorem Bi {t:TypeId} {fs:List Field} (h:fieldsOf P t=some fs):P.underlying t=some (.struct fs.toArray):=by
 unfold fieldsOf at h;split at h
 ·rename_i f hf;simp at h;subst h;simpa using hf
 ·cases h
theorem abE (hk:fu B S m) (ho:DV B S m ρ a) {t:TypeId} {x:Operand} {X':X} {f:Nat} {fs:List Field} {fl:Field} {i:TypeInfo} (hop:o.op=.fieldAddr t x f) (h1:fieldsOf P t=some fs) (h2:fs[f]?=some fl) (h3:P.info? fl.type=some i) (h4:0 < i.size)
  (hx:bI x=some X') (hs:step ρ m.h slot (.O4 fl.offset X')=some (d,us)):Does B S P o a m slot d us:=by
 have hu:=Bi h1;have e1:=ho x X' hx;have hsz:¬i.size=0:=by omega
 have run:∀ad:Addr,a.eval x=.pointer (some ad)->(execOp a.eval o).run P m.w=.ok (.value (.pointer (some (ad.add fl.offset)))) m.w:=by intro ad he;simp [execOp,hop,Instr.fieldAt,run_underlying hu,h2,he,Instr.sureAddr,fieldPlace,run_sizeOf h3,hsz]
 simp only [step] at hs;split at hs
 ·rename_i id off he;simp only [A0,A3] at hs;obtain ⟨rfl,rfl⟩:=hs;rw [he] at e1;obtain ⟨hU,e2⟩:=e1;refine bK hk slot (run _ e2) ⟨hU,?_⟩;rw [x9]
 ·rename_i cs he;simp only [A0,A3] at hs;obtain ⟨rfl,rfl⟩:=hs;rw [he] at e1;obtain ⟨ad,e2,e3,e4⟩:=e1;refine bK hk slot (run _ e2) ⟨ad.add fl.offset,rfl,?_,?_⟩
  ·intro hne;unfold Addr.add;split
   ·exact e3 fun e=>hne (by rw [e];simp)
   ·rfl
  ·have:=zk fl.offset e4
   unfold Addr.add;split
   ·rename_i h0;rw [h0] at this |-;simpa using this
   ·exact this
 ·cases hs
theorem Yp (hk:fu B S m) (ho:DV B S m ρ a) {x:Operand} {X':X} (hop:o.op=.nilCheck x) (hx:bI x=some X') (hs:step ρ m.h slot (.FE X')=some (d,us)):Does B S P o a m slot d us:=by
 have e1:=ho x X' hx;have run:∀ad:Addr,a.eval x=.pointer (some ad)->(execOp a.eval o).run P m.w=.ok (.value (a.eval x)) m.w:=by intro ad he;simp [execOp,hop,he]
 simp only [step] at hs;split at hs
 ·rename_i id off he;simp only [A0,A3] at hs;obtain ⟨rfl,rfl⟩:=hs;rw [he] at e1;obtain ⟨hU,e2⟩:=e1;exact bK hk slot (run _ e2) ⟨hU,e2⟩
 ·rename_i cs he;simp only [A0,A3] at hs;obtain ⟨rfl,rfl⟩:=hs;rw [he] at e1;obtain ⟨ad,e2,e3,e4⟩:=e1;exact bK hk slot (run _ e2) ⟨ad,e2,e3,e4⟩
 ·cases hs
theorem acv (hk:fu B S m) (ho:DV B S m ρ a) {t:TypeId} {x:Operand} {X':X} {f:Nat} {fs:List Field} {fl:Field} {i:TypeInfo} {agg:Bool} (hop:o.op=.field t x f) (h1:fieldsOf P t=some fs) (h2:fs[f]?=some fl) (h3:P.info? fl.type=some i)
  (h4:Hl P fl.type=some agg) (hx:bI x=some X') (hs:step ρ m.h slot (.fld fl.offset agg i.size X')=some (d,us)):Does B S P o a m slot d us:=by
 have hu:=Bi h1;have e1:=ho x X' hx;simp only [step] at hs;split at hs
 ·rename_i ds he;rw [he] at e1;obtain ⟨vs,e2,e3⟩:=e1;cases agg with
  |true=>
   simp only [E7] at hs;split at hs
   case isFalse=>cases hs
   simp only [A0,A3] at hs;obtain ⟨rfl,rfl⟩:=hs;refine bK hk slot (v:=.agg ((vs.drop fl.offset).take i.size).toArray) ?_ ⟨_,rfl,(e3.drop _).take _⟩;simp [execOp,hop,Instr.field,run_underlying hu,h2,e2,asAgg,part,yK h4,run_sizeOf h3]
  |false=>
   simp only [C7,C2] at hs;obtain ⟨h5,rfl⟩:=dD hs;obtain ⟨v,h6,h7⟩:=e3.get _ h5;refine bK hk slot (v:=v) ?_ h7.mY;simp [execOp,hop,Instr.field,run_underlying hu,h2,e2,asAgg,part,yK h4,h6]
 ·cases hs
theorem jy {t e:TypeId} (h:fH P t=some e):P.underlying t=some (.slice e):=by
 unfold fH at h;split at h
 ·rename_i f hf;simp at h;subst h;exact hf
 ·cases h
theorem abm (hk:fu B S m) (ho:DV B S m ρ a) {t e:TypeId} {x y:Operand} {X' Y':X} {i:TypeInfo} (hop:o.op=.indexAddr t x y) (h1:fH P t=some e) (h2:P.info? e=some i) (hx:bI x=some X') (hy:bI y=some Y')
  (hs:step ρ m.h slot (.Gt i.size X' Y')=some (d,us)):Does B S P o a m slot d us:=by
 have hu:=jy h1;have e1:=ho x X' hx;have e2:=ho y Y' hy;simp only [step] at hs;obtain ⟨h3,rfl⟩:=dD hs;have run:∀(ad:Addr) (len cap:Nat) (k:IntKind) (n:Int),a.eval x=.slice (some ad) len cap->a.eval y=.int k n->0<=n->n < len->
   (execOp a.eval o).run P m.w=.ok (.value (.pointer (some (ad.add (n.toNat * i.size))))) m.w:=by
  intro ad len cap k n he1 he2 h0 hn;simp [execOp,hop,Instr.indexAt,he1,he2,asIntOf,run_underlying hu,h0,hn,run_sizeOf h2]
 have into:∀(ad:Addr) (len cap:Nat) (k:IntKind) (n:Int) (cs:List C),a.eval x=.slice (some ad) len cap->a.eval y=.int k n->0<=n->n < len->(cs≠[]->ad.spot=none)->fo m.w (Safe B S m) cs ad.block ad.off->
   Does B S P o a m slot (.ptr (cs.drop (n.toNat * i.size))) []:=by
  intro ad len cap k n cs e3 e4 h0 hn e5 e6;refine bK hk slot (run ad len cap k n e3 e4 h0 hn) ⟨ad.add (n.toNat * i.size),rfl,?_,?_⟩
  ·intro hne;unfold Addr.add;split
   ·exact e5 fun e=>hne (by rw [e];simp)
   ·rfl
  ·have:=zk (n.toNat * i.size) e6
   unfold Addr.add;split
   ·rename_i h0;rw [h0] at this |-;simpa using this
   ·exact this
 unfold CP at h3;split at h3
 ·rename_i id off len he;cases wC:ax m.h id with
  |dead=>rw [wC] at h3;cases h3
  |box ds=>rw [wC] at h3;cases h3
  |map ds=>rw [wC] at h3;cases h3
  |arr cs aj fz ety=>
   rw [wC] at h3;simp only [A2,A1] at h3;obtain ⟨n,h4,h5⟩:=h3;split at h5
   case isFalse=>cases h5
   rename_i hn;simp only [A0] at h5;subst h5;obtain ⟨k,h6⟩:=iB h4;rw [h6] at e2;rw [he] at e1;obtain ⟨hU,ad,cap,e3,e4,e5⟩:=e1;rw [wC] at e5;rcases e5 with ⟨rfl,_⟩|⟨hz,_⟩
   ·refine bK hk slot (run _ len cap k n e3 e2.lit hn.1 hn.2) ⟨hU,?_⟩;rw [x9]
   ·have:=hn.1;have:=hn.2;omega
 ·rename_i cs q he;simp only [A2,A1] at h3;obtain ⟨n,h4,h5⟩:=h3;split at h5
  case isFalse=>cases h5
  rename_i hn;simp only [A0] at h5;subst h5;obtain ⟨k,h6⟩:=iB h4;rw [h6] at e2;rw [he] at e1;have Mi:bJ m.w (Safe B S m) (.slice cs q) (a.eval x):=e1;simp only [bJ] at Mi;rcases Mi with ⟨_,rfl,_⟩|⟨ad,cap,e3,e4,e5,e6⟩
  ·have:=hn.1;have:=hn.2;omega
  ·exact into ad q cap k n cs e3 e2.lit hn.1 hn.2 e5 e6
 ·rename_i cs q he;simp only [A2,A1] at h3;obtain ⟨n,h4,h5⟩:=h3;split at h5
  case isFalse=>cases h5
  rename_i hn;simp only [A0] at h5;subst h5;obtain ⟨k,h6⟩:=iB h4;rw [h6] at e2;rw [he] at e1;rcases e1 with ⟨_,rfl,_⟩|⟨ad,e3,e5,e6⟩
  ·have:=hn.1;have:=hn.2;omega
  ·exact into ad q q k n cs e3 e2.lit hn.1 hn.2 e5 e6
 ·cases h3
theorem abG (hk:fu B S m) (ho:DV B S m ρ a) {t:TypeId} {x y:Operand} {X' Y':X} (hop:o.op=.index t x y) (h1:P.underlying t=some .string) (hx:bI x=some X') (hy:bI y=some Y')
  (hs:step ρ m.h slot (.BV X' Y')=some (d,us)):Does B S P o a m slot d us:=by
 have e1:=ho x X' hx;have e2:=ho y Y' hy;simp only [step] at hs;obtain ⟨h3,rfl⟩:=dD hs;split at h3
 ·rename_i s he;simp only [A2,A1] at h3;obtain ⟨n,h4,h5⟩:=h3;split at h5
  case isFalse=>cases h5
  rename_i hn;simp only [Fi] at h5;obtain ⟨b,h6,rfl⟩:=h5;obtain ⟨k,h7⟩:=iB h4;rw [h7] at e2;rw [he] at e1;refine bK hk slot (v:=.int .u8 b.toNat) ?_ (dZ.mkLit rfl);have h8:s[n.toNat]?=some b:=by have hlt:n.toNat < s.data.size:=(Bk.1 h6).1;have hv:=(Bk.1 h6).2;have hlt':n.toNat < s.size:=hlt;rw [getElem?_pos s n.toNat hlt'];exact E6 some hv
  simp [execOp,hop,Instr.index,e1.lit,e2.lit,asIntOf,run_underlying h1,hn,h8]
 ·cases h3
end
end Go.Ey
