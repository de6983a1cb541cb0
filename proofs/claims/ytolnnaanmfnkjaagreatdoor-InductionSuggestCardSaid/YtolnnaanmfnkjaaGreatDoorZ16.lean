/- A part. -/
import Derived.Test.YtolnnaanmfnkjaaGreatDoorZ14
import Derived.MapKept
import Derived.Carry
set_option linter.all false
namespace Go.Ey
open RowKit
def BZ (w:World) (Sf:Nat->Nat->Prop):List V->Value->Prop
 |[r],v=>fP w Sf r v
 |rs,v=>∃us:List Value,v=.tuple us.toArray/\av (fP w Sf) rs us
def qm (P:Program) (f:Nat):Prop:=∃fn,P.funcs[f]?=some fn/\fn.body.isNone=false/\(fn.name== "runtime.NumGoroutine")=false
class lV where
 Inv:Nat->World->Prop
 keep:∀{B:Nat} {w w':World},Below B w w'->Inv B w->Inv B w'
 mono:∀{B B':Nat} {w:World},B<=B'->Inv B w->Inv B' w
variable [lV]
def nY (P:Program) (f:Nat) (vs rs:List V):Prop:=
 qm P f/\∀(S:Nat->Nat->Prop) (w:World) (us:List Value),lV.Inv w.heap.size w->av (fP w S) vs us->
  Calls P f us.toArray w fun e w'=>∃v,e=.returned v/\BZ w' (fun b o=>b < w.heap.size->S b o) rs v/\Below w.heap.size w w'
section
variable {B:Nat} {S:Nat->Nat->Prop} {P:Program} {o:Oper} {a:Act} {m:M} {slot:Nat} {d:D} {us:List (Nat×Obj)} {wz:Nat->Nat} {nt:Nat} {w0:World} {e:Env}
theorem IA {f:Nat} (hf:qm P f) {args:Array Operand} {ts:Array TypeId} (hop:o.op=.call { callee:=.value (.func f),args,argTypes:=ts}) (w:World):
  (execOp a.eval o).run P w=.ok (.enter f (args.map a.eval)) w:=by
 obtain ⟨fn,h1,h2,h3⟩:=hf;have h2':¬fn.body=none:=fun h=>by rw [h] at h2;cases h2
 have h3':¬fn.name= "runtime.NumGoroutine":=by simpa using h3
 simp [execOp,hop,resolve,Act.eval,Deferred.ofValue,invoke,callFunc,h1,h2',h3']
theorem Qj:∀{ds:List D} {us:List Value} {m:M},fu B S m->av (dZ B S m) ds us->∀{vs:List V} {xs:List (Nat×Obj)},iX m.h ds=some (vs,xs)->
  fu B S (m.heap (ay m.h xs))/\aB B S m (m.heap (ay m.h xs))/\av (fP m.w (Safe B S (m.heap (ay m.h xs)))) vs us
 |[],[],m,hk,_,cs,xs,hf=>by simp only [iX,A0,A3] at hf;obtain ⟨rfl,rfl⟩:=hf;exact ⟨hk,aB.refl m,trivial⟩
 |d::ds,u::us,m,hk,hr,cs,xs,hf=>by
  simp only [iX,A2,A1,C1,A0,A3] at hf;obtain ⟨c,x,h1,cs',xs',h2,rfl,rfl⟩:=hf;have hr1:ni B S m d u:=by
   cases d with
   |jG ds=>simp [nN,nP] at h1
   |_=>exact hr.1
  obtain ⟨k1,k2,k3⟩:=Iq hk hr1 h1;have hr2:av (dZ B S (m.heap (ay m.h x))) ds us:=hr.2.mono fun _ _ h=>k2.Yg h
  obtain ⟨k4,k5,k6⟩:=Qj (m:=m.heap (ay m.h x)) k1 hr2 h2;rw [eD];exact ⟨k4,k2.trans k5,fP.mono k5.cell k3,k6⟩
 |[],_::_,_,_,hr,_,_,_=>hr.elim
 |_::_,[],_,_,hr,_,_,_=>hr.elim
theorem fP.mY {m:M} {v:V} {u:Value} (h:fP m.w (Safe B S m) v u):ni B S m v.mY u:=by
 cases v with
 |one c=>exact h
 |agg cs=>obtain ⟨us,h1,h2⟩:=h;exact ⟨us,h1,av.mE h2⟩
 |full cs n=>exact h
theorem BZ.mY {m:M} {rs:List V} {u:Value} (h:BZ m.w (Safe B S m) rs u):dZ B S m (RH rs) u:=by
 match rs,h with
 |[r],h=>exact (fP.mY h).mY
 |[],h=>obtain ⟨us,rfl,h2⟩:=h;exact ⟨us,rfl,av.mE (h2.mono fun v u h=>fP.mY h)⟩
 |r::r'::rs,h=>obtain ⟨us,rfl,h2⟩:=h;exact ⟨us,rfl,av.mE (h2.mono fun v u h=>fP.mY h)⟩
theorem fP.weaken {w:World} {Sf Xd:Nat->Nat->Prop} (h:∀b o,Sf b o->b < w.heap.size->Xd b o) {v:V} {u:Value} (hr:fP w Sf v u):fP w Xd v u:=
 fP.mono (fun b o _ h1 h2=>⟨h1,h b o h2 (TC h1)⟩) hr
theorem BZ.weaken {w:World} {Sf Xd:Nat->Nat->Prop} (h:∀b o,Sf b o->b < w.heap.size->Xd b o) {rs:List V} {u:Value} (hr:BZ w Sf rs u):BZ w Xd rs u:=by
 unfold BZ at hr |-;split at hr
 ·exact fP.weaken h hr
 ·obtain ⟨us,h1,h2⟩:=hr;exact ⟨us,h1,h2.mono fun _ _ h3=>fP.weaken h h3⟩
theorem YE {m:M} (hk:fu B S m) {w':World} {b q:Nat} (h:b < m.w.heap.size->Safe B S m b q):Safe B S (m.world w') b q:=by
 by_cases hb:b < m.w.heap.size
 ·exact h hb
 ·refine ⟨hk.fresh b q (by omega),fun id=>?_⟩
  ·show match ax m.h id with|.dead=>True|.box _=>m.β id≠b|.map _=>m.β id≠b|.arr _ _ fz _=>m.β id=b->q < fz
   cases ho:ax m.h id with
   |dead=>trivial
   |box ds=>have:=hk.lt (id:=id) (by rw [ho];simp);intro e;omega
   |map ds=>have:=hk.lt (id:=id) (by rw [ho];simp);intro e;omega
   |arr cs aj fz ety=>have:=hk.lt (id:=id) (by rw [ho];simp);intro e;omega
theorem agX (hk:fu B S m) (hinv:lV.Inv B m.w) {f:Nat} {args:Array Operand} {ts:Array TypeId} (hop:o.op=.call { callee:=.value (.func f),args,argTypes:=ts}) {ds:List D} (hd:av (dZ B S m) ds (args.map a.eval).toList) {vs rs:List V}
  (hf:iX m.h ds=some (vs,us)) (hfn:nY P f vs rs) {K:Act->World->Prop} {Q:Exit->Act->World->Prop} (hK:∀v w',Post B S m slot us (RH rs) v w'->K (a.put o.dst v) w'):o.wp P a m.w K Q:=by
 obtain ⟨k1,k2,k3⟩:=Qj hk hd hf;unfold Oper.wp;rw [IA hfn.1 hop];show Calls P f (args.map a.eval) m.w _
 have hc:=hfn.2 _ m.w _ (lV.mono hk.base hinv) k3;have he:(args.map a.eval).toList.toArray=args.map a.eval:=Array.toArray_toList;rw [he] at hc;refine hc.mono fun e w' ⟨v,hv,h1,h2⟩=>?_
 subst hv;refine hK v w' ⟨m.β,?_⟩;have hb:∀k,k < m.w.heap.size->w'.heap[k]?=m.w.heap[k]?:=h2.block;have ev2:=Bj k1 (w':=w') hb;have hk2:=PI k1 (w':=w') hb h2.size;refine ⟨vT hk2 slot,(k2.trans ev2).trans (fD _ slot),?_,h2.mono hk.base⟩;refine (fD ((m.heap (ay m.h us)).world w') slot).Yg (BZ.mY ?_);exact BZ.weaken (fun b q h _=>YE k1 h) h1
structure Rel (B:Nat) (S:Nat->Nat->Prop) (w0:World) (nt:Nat) (m:M) (e:Env) (a:Act):Prop where
 defers:a.defers=[]
 size:a.tmps.size=nt
 env:∀t,dZ B S m (fT e t) (a.tmps.getD t undef)
 hok:fu B S m
 below:Below B w0 m.w
 inv:lV.Inv B m.w
theorem Rel.opd (hr:Rel B S w0 nt m e a):DV B S m (yh e) a:=by
 intro x X' hx;cases x with
 |tmp t=>simp [bI] at hx;subst hx;exact hr.env t
 |const v=>
  simp only [bI] at hx;split at hx
  ·rename_i hs;simp only [A0] at hx;subst hx;by_cases h:scalar v=true
   ·simp only [yh,h,E7];exact dZ.mkLit h
   ·have h2:zb v=true:=by
     rcases Bool.or_eq_true_iff.1 hs with h3|h3
     ·exact absurd h3 h
     ·exact h3
    have:=En h2
    subst this;simp only [yh,scalar,C2,C7];exact .inl ⟨rfl,rfl,rfl⟩
  ·cases hx
 |global g=>simp [bI] at hx
 |func f=>
  simp only [bI,A0] at hx;subst hx;simp only [yh];exact ⟨rfl,by simp⟩
theorem yu (e:Env) (dst:Option Nat) (d:D) (t:Nat):fT (j5 e dst d) t=if dst=some t then d else fT e t:=by
 cases dst with
 |none=>simp [j5]
 |some t'=>
  simp only [j5,fT,A0]
theorem Rel.put (hr:Rel B S w0 nt m e a) {dst:Option Nat} (hd:U5 nt dst=true) {d:D} {v:Value} (h:dZ B S m d v):Rel B S w0 nt m (j5 e dst d) (a.put dst v):=by
 cases dst with
 |none=>exact hr
 |some t'=>
  have hlt:t' < nt:=by simpa [U5] using hd
  refine ⟨hr.defers,by simpa [Act.put] using hr.size,fun t=>?_,hr.hok,hr.below,hr.inv⟩
  rw [yu];by_cases ht:t'=t
  ·subst ht;have:(a.put (some t') v).tmps.getD t' undef=v:=by simp [Act.put,hr.size,hlt]
   simp only [E7,this];exact h
  ·have:(a.put (some t') v).tmps.getD t undef=a.tmps.getD t undef:=by simp [Act.put,Array.getElem?_setIfInBounds_ne ht]
   rw [this,E0 (by simpa using ht)]
   exact hr.env t
theorem Rel.AY (hr:Rel B S w0 nt m e a) {m':M} (hev:aB B S m m') (hk:fu B S m') (hb:Below B m.w m'.w):Rel B S w0 nt m' e a:=
 ⟨hr.defers,hr.size,fun t=>hev.Yg (hr.env t),hk,hr.below.trans hb,lV.keep hb hr.inv⟩
theorem iD {ops:Array Oper} {i:gD} (h:zx P wz nt ops o=some i):
  GY P wz o.op=some i.ins/\i.dst=o.dst/\U5 nt o.dst=true/\
  (o.guard=none/\i.guard=none\/∃j want g t,o.guard=some (j,want)/\ops[j]?=some g/\g.dst=some t/\i.guard=some (t,want)):=by
 unfold zx at h;simp only [A2,A1] at h;obtain ⟨ins,h1,h2⟩:=h;split at h2
 ·cases h2
 ·rename_i hd;have hd':U5 nt o.dst=true:=by simpa using hd
  split at h2
  ·rename_i hg;simp only [A0] at h2;subst h2;exact ⟨h1,rfl,hd',.inl ⟨hg,rfl⟩⟩
  ·rename_i j want hg;simp only [A1,A0] at h2;obtain ⟨g,h3,t,h4,rfl⟩:=h2;exact ⟨h1,rfl,hd',.inr ⟨j,want,g,t,hg,h3,h4,rfl⟩⟩
theorem EU (hr:Rel B S w0 nt m e a) {ops:Array Oper} {i:gD} (h:zx P wz nt ops o=some i) {b:Bool} (hw:wanted e i.guard=some b):Region.wanted o (yielded ops a.tmps)=b:=by
 obtain ⟨_,_,_,h4⟩:=iD h;rcases h4 with ⟨h5,h6⟩|⟨j,want,g,t,h5,h6,h7,h8⟩
 ·rw [h6] at hw;simp only [wanted,A0] at hw;subst hw;simp [Region.wanted,h5]
 ·rw [h8] at hw;simp only [wanted] at hw;have Xy:=hr.env t;split at hw
  ·rename_i q hq;simp only [A0] at hw;rw [hq] at Xy;have hv:=Xy.lit;have ht:a.tmps[t]?=some (.bool q):=by
    cases ht:a.tmps[t]? with
    |none=>simp [ht,undef] at hv
    |some x=>simp [ht] at hv;rw [hv]
   simp [Region.wanted,h5,yielded,h6,h7,ht];rw [<-hw]
  ·rename_i hq;simp only [A0] at hw;subst hw;rw [hq] at Xy;obtain ⟨us,hu,h9⟩:=Xy;cases us with
   |cons _ _=>exact h9.elim
   |nil=>
    have:yielded ops a.tmps j=none:=by
     simp only [yielded,h6,h7,A4];cases ht:a.tmps[t]? with
     |none=>rfl
     |some x=>simp [ht] at hu;subst hu;rfl
    simp [Region.wanted,h5,this]
  ·cases hw
theorem tO (hr:Rel B S w0 nt m e a):∀{os:List Operand} {xs:List X},iw os=some xs->av (dZ B S m) (xs.map (yh e)) (os.map a.eval)
 |[],xs,h=>by simp [iw] at h;subst h;trivial
 |x::os,xs,h=>by simp only [iw,A2,A1,A0] at h;obtain ⟨y,h1,ys,h2,rfl⟩:=h;exact ⟨hr.opd x y h1,tO hr h2⟩
theorem Uv {f:Nat} {xs:List X} (h:qi P wz o.op=some (.call f xs)):∃args ts,o.op=.call { callee:=.value (.func f),args,argTypes:=ts}/\iw args.toList=some xs:=by
 unfold qi at h;split at h<;>try (cases h;done)
 all_goals simp only [A2,A1,A0] at h
 case h_23 f' args ts hop=>
  obtain ⟨ys,h1,h2⟩:=h;split at h2<;>first|(cases h2;done)|(simp only [Ins.call.injEq] at h2;obtain ⟨rfl,rfl⟩:=h2;exact ⟨args,ts,hop,h1⟩)
 all_goals (exfalso;revert h)
 case h_25 b args ts hop=>
  rintro ⟨ys,h1,h2⟩;split at h2<;>try (cases h2;done)
  ·split at h2<;>simp at h2
  ·simp only [A1] at h2;obtain ⟨_,_,_,_,_,_,h2⟩:=h2;split at h2
   ·split at h2<;>simp at h2
   ·split at h2<;>simp at h2
   ·simp at h2
  ·simp only [A1] at h2;obtain ⟨_,_,_,_,h2⟩:=h2;split at h2<;>simp at h2
 case h_11=>rintro ⟨_,_,_,_,h⟩;split at h<;>first|(simp at h;done)|(simp only [A1] at h;obtain ⟨_,_,h⟩:=h;split at h<;>first|(simp only [N9] at h;split at h<;>simp at h;done)|(cases h))
 case h_13=>rintro ⟨_,_,h⟩;split at h<;>first|(simp at h;done)|(split at h<;>simp at h)
 case h_15=>rintro ⟨_,_,_,_,_,_,h⟩;split at h<;>first|(simp at h;done)|(simp only [A1] at h;obtain ⟨_,_,h⟩:=h;simp at h)
 case h_16=>rintro ⟨_,_,_,_,_,_,_,_,h⟩;split at h<;>first|(simp only [A1] at h;obtain ⟨_,_,h⟩:=h;simp at h;done)|(simp at h)
 case h_17=>rintro ⟨_,_,h⟩;split at h<;>simp at h
 case h_21=>rintro ⟨_,_,_,_,h⟩;split at h<;>simp at h
 all_goals (intro h;simp at h)
theorem Z9 {ops:Array Oper} {i:gD} (h:zx P wz nt ops o=some i) (hns:∀f ow xs,i.ins≠.gU f ow xs) (DN:∀x xs,i.ins≠.jv x xs) (hr:Rel B S w0 nt m e a) (hs:¬m.U slot) {call:Callee} (hcall:∀f vs rs,call f vs=some rs->nY P f vs rs)
  (hst:dX call (yh e) m.h slot i.ins=some (d,us)) {K:Act->World->Prop} {Q:Exit->Act->World->Prop}
  (hK:∀(a':Act) (m':M),m'.h=ay m.h us->m'.U=(fun i=>m.U i\/i=slot)->aB B S m m'->Rel B S w0 nt m' (j5 e i.dst d) a'->K a' m'.w):o.wp P a m.w K Q:=by
 obtain ⟨h1,h2,h3,_⟩:=iD h;have h1:qi P wz o.op=some i.ins:=by refine BJ h1 ?_;cases hins:i.ins<;>first|rfl|(rw [hins] at hst;simp [dX,step] at hst)
 have fin:∀v w',Post B S m slot us d v w'->K (a.put o.dst v) w':=by
  rintro v w' ⟨β',p1,p2,p3,p4⟩;have:=(hr.AY p2 p1 p4).put h3 p3
  rw [h2] at hK;exact hK _ _ rfl rfl p2 this
 cases hins:i.ins with
 |gU f ow xs=>exact absurd hins (hns f ow xs)
 |lH f xs=>rw [hins] at hst;simp [dX,step] at hst
 |jv x xs=>exact absurd hins (DN x xs)
 |call f xs=>
  rw [hins] at hst h1;simp only [dX,A2,A1,C1,A0,A3] at hst;obtain ⟨vs,us',h5,rs,h6,rfl,rfl⟩:=hst;obtain ⟨args,ts,hop,h7⟩:=Uv h1;have hall:=tO hr h7;exact agX hr.hok hr.inv hop (by simpa using hall) h5 (hcall _ _ _ h6) fin
 |_=>
  rw [hins] at hst h1;obtain ⟨n,v,w',h5,h6,h7⟩:=step_ok h1 rfl hr.hok hr.opd hs hst;unfold Oper.wp;rw [h5];rcases h6 with rfl|⟨rfl,rfl⟩
  ·exact fin v w' h7
  ·exact fin undef w' h7
end
end Go.Ey
namespace Go.Ey
open RowKit
open MapKept
variable [lV]
section
variable {B:Nat} {S:Nat->Nat->Prop} {P:Program} {o:Oper} {a:Act} {m:M} {slot:Nat} {ρ:X->D} {d:D} {us:List (Nat×Obj)}
theorem WW {ins:Ins} (hc:Fh P o.op=some ins) (hk:fu B S m) (ho:DV B S m ρ a) (hs0:¬m.U slot) (hs:aar ρ m.h slot ins=some (d,us)):Does B S P o a m slot d us:=by cases hc
end
end Go.Ey
namespace Go.Ey
open RowKit
def Ml (m:M) (nx:Nat):Prop:=∀i,m.U i->i < nx
theorem av.map_mono {α β γ:Type} {R:α->β->Prop} {R':γ->β->Prop} {f:α->γ} (h:∀a b,R a b->R' (f a) b):∀{aJ:List α} {bs:List β},av R aJ bs->av R' (aJ.map f) bs
 |[],[],_=>trivial
 |_::_,_::_,h1=>⟨h _ _ h1.1,av.map_mono h h1.2⟩
 |[],_::_,h1=>h1.elim
 |_::_,[],h1=>h1.elim
variable [lV]
def J3 (P:Program) (f:Nat) (ds:List D) (h:Heap) (k:Nat) (rs:List D) (h':Heap) (n':Nat):Prop:=
 qm P f/\∀(B:Nat) (S:Nat->Nat->Prop) (m:M) (us:List Value),m.h=h->Ml m k->fu B S m->lV.Inv B m.w->av (dZ B S m) ds us->
  Calls P f us.toArray m.w fun e w'=>∃(v:Value) (m':M),e=.returned v/\m'.w=w'/\m'.h=h'/\Ml m' n'/\fu B S m'/\aB B S m m'/\dZ B S m' (Dc rs) v/\Below B m.w m'.w/\∀d,d∈rs->∀q,d≠.jG q
section
variable {B:Nat} {S:Nat->Nat->Prop} {P:Program} {o:Oper} {a:Act} {m:M} {wz:Nat->Nat} {nt:Nat} {w0:World} {call:Callee} {fO:rV}
theorem aaL {m:M} (hk:fu B S m) {d:D} {u:Value} (hr:fA B S m d u) {x:D} {us:List (Nat×Obj)} (hf:Lm m.h d=some (x,us)):
  fu B S (m.heap (ay m.h us))/\aB B S m (m.heap (ay m.h us))/\fA B S (m.heap (ay m.h us)) x u:=by
 cases d with
 |arr id off len=>
  simp only [Lm,A2,A1,C1,A0,A3] at hf;obtain ⟨c,xs,h1,rfl,rfl⟩:=hf;exact Tz hk hr h1
 |_=>
  simp only [Lm,A0,A3] at hf;obtain ⟨rfl,rfl⟩:=hf;exact ⟨hk,aB.refl m,hr⟩
theorem Ws:∀{ds:List D} {us:List Value} {m:M},fu B S m->av (fA B S m) ds us->∀{cs:List D} {xs:List (Nat×Obj)},Ox m.h ds=some (cs,xs)->
  fu B S (m.heap (ay m.h xs))/\aB B S m (m.heap (ay m.h xs))/\av (fA B S (m.heap (ay m.h xs))) cs us
 |[],[],m,hk,_,cs,xs,hf=>by simp only [Ox,A0,A3] at hf;obtain ⟨rfl,rfl⟩:=hf;exact ⟨hk,aB.refl m,trivial⟩
 |d::ds,u::us,m,hk,hr,cs,xs,hf=>by
  simp only [Ox,A2,A1,C1,A0,A3] at hf;obtain ⟨c,x,h1,cs',xs',h2,rfl,rfl⟩:=hf;obtain ⟨k1,k2,k3⟩:=aaL hk hr.1 h1;have hr2:av (fA B S (m.heap (ay m.h x))) ds us:=hr.2.mono fun _ _ h=>k2.vw h
  obtain ⟨k4,k5,k6⟩:=Ws (m:=m.heap (ay m.h x)) k1 hr2 h2;rw [eD];exact ⟨k4,k2.trans k5,k5.vw k3,k6⟩
 |[],_::_,_,_,hr,_,_,_=>hr.elim
 |_::_,[],_,_,hr,_,_,_=>hr.elim
theorem ZL {m:M} (hk:fu B S m) {d:D} {u:Value} (hr:ni B S m d u) {x:D} {xs:List (Nat×Obj)} (hf:Sk m.h d=some (x,xs)):
  fu B S (m.heap (ay m.h xs))/\aB B S m (m.heap (ay m.h xs))/\ni B S (m.heap (ay m.h xs)) x u/\∀q,x≠.jG q:=by
 have one:∀d,fA B S m d u->Lm m.h d=some (x,xs)->
   fu B S (m.heap (ay m.h xs))/\aB B S m (m.heap (ay m.h xs))/\ni B S (m.heap (ay m.h xs)) x u/\∀q,x≠.jG q:=by
  intro d hr hf;obtain ⟨k1,k2,k3⟩:=aaL hk hr hf;refine ⟨k1,k2,?_,?_⟩
  ·cases x<;>first|exact k3|exact k3.elim
  ·intro q hq;subst hq;exact k3.elim
 cases d with
 |agg ds=>
  simp only [Sk,A2,A1,C1,A0,A3] at hf;obtain ⟨cs,x,h1,rfl,rfl⟩:=hf;obtain ⟨us,rfl,h2⟩:=hr;obtain ⟨k1,k2,k3⟩:=Ws hk h2 h1;exact ⟨k1,k2,⟨us,rfl,k3⟩,fun q hq=>by cases hq⟩
 |rq=>exact one .rq hr hf
 |c x=>exact one (.c x) hr hf
 |loc id off=>exact one (.loc id off) hr hf
 |arr id off len=>exact one (.arr id off len) hr hf
 |ptr cs=>exact one (.ptr cs) hr hf
 |full cs n=>exact one (.full cs n) hr hf
 |fq f caps=>exact one (.fq f caps) hr hf
 |mp id=>exact one (.mp id) hr hf
 |jG ds=>exact one (.jG ds) hr hf
theorem WU:∀{ds:List D} {us:List Value} {m:M},fu B S m->av (ni B S m) ds us->∀{vs:List D} {xs:List (Nat×Obj)},xw m.h ds=some (vs,xs)->
  fu B S (m.heap (ay m.h xs))/\aB B S m (m.heap (ay m.h xs))/\av (ni B S (m.heap (ay m.h xs))) vs us/\(∀d,d∈vs->∀q,d≠.jG q)/\vs.length=ds.length
 |[],[],m,hk,_,cs,xs,hf=>by simp only [xw,A0,A3] at hf;obtain ⟨rfl,rfl⟩:=hf;exact ⟨hk,aB.refl m,trivial,by simp,rfl⟩
 |d::ds,u::us,m,hk,hr,cs,xs,hf=>by
  simp only [xw,A2,A1,C1,A0,A3] at hf;obtain ⟨c,x,h1,cs',xs',h2,rfl,rfl⟩:=hf;obtain ⟨k1,k2,k3,k3'⟩:=ZL hk hr.1 h1;have hr2:av (ni B S (m.heap (ay m.h x))) ds us:=hr.2.mono fun _ _ h=>k2.Ji h
  obtain ⟨k4,k5,k6,k7,k8⟩:=WU (m:=m.heap (ay m.h x)) k1 hr2 h2;rw [eD];refine ⟨k4,k2.trans k5,⟨k5.Ji k3,k6⟩,fun d hd=>?_,by simp [k8]⟩
  simp only [D2] at hd;rcases hd with rfl|hd
  ·exact k3'
  ·exact k7 d hd
 |[],_::_,_,_,hr,_,_,_=>hr.elim
 |_::_,[],_,_,hr,_,_,_=>hr.elim
theorem QU:∀{ds:List D} {us:List Value} {m:M},fu B S m->av (dZ B S m) ds us->∀{vs:List D} {xs:List (Nat×Obj)},xw m.h ds=some (vs,xs)->
  fu B S (m.heap (ay m.h xs))/\aB B S m (m.heap (ay m.h xs))/\av (dZ B S (m.heap (ay m.h xs))) vs us
 |[],[],m,hk,_,cs,xs,hf=>by simp only [xw,A0,A3] at hf;obtain ⟨rfl,rfl⟩:=hf;exact ⟨hk,aB.refl m,trivial⟩
 |d::ds,u::us,m,hk,hr,cs,xs,hf=>by
  simp only [xw,A2,A1,C1,A0,A3] at hf;obtain ⟨c,x,h1,cs',xs',h2,rfl,rfl⟩:=hf;have key:fu B S (m.heap (ay m.h x))/\aB B S m (m.heap (ay m.h x))/\dZ B S (m.heap (ay m.h x)) c u:=by
   have other:ni B S m d u->_:=fun hA=>ZL hk hA h1
   cases d with
   |jG q=>
    simp only [Sk,Lm,A0,A3] at h1;obtain ⟨rfl,rfl⟩:=h1;exact ⟨hk,aB.refl m,hr.1⟩
   |_=>obtain ⟨k1,k2,k3,_⟩:=other hr.1;exact ⟨k1,k2,k3.mY⟩
  obtain ⟨k1,k2,k3⟩:=key;have hr2:av (dZ B S (m.heap (ay m.h x))) ds us:=hr.2.mono fun _ _ h=>k2.Yg h
  obtain ⟨k4,k5,k6⟩:=QU (m:=m.heap (ay m.h x)) k1 hr2 h2;rw [eD];exact ⟨k4,k2.trans k5,k5.Yg k3,k6⟩
 |[],_::_,_,_,hr,_,_,_=>hr.elim
 |_::_,[],_,_,hr,_,_,_=>hr.elim
theorem acJ {B:Nat} {S:Nat->Nat->Prop} {m:M} {rs:List D} {v:Value} (h:dZ B S m (Dc rs) v) (hn:∀d,d∈rs->∀q,d≠.jG q):
  ∃us:List Value,av (ni B S m) rs us/\∀(m':M) (rs':List D),rs'.length=rs.length->av (ni B S m') rs' us->dZ B S m' (Dc rs') v:=by
 match rs,h,hn with
 |[],h,_=>
  obtain ⟨us,rfl,h2⟩:=h;refine ⟨us,h2,fun m' rs' hl h3=>?_⟩
  match rs',hl with
  |[],_=>exact ⟨us,rfl,h3⟩
 |[d],h,hn=>
  have hA:ni B S m d v:=by
   cases d with
   |jG q=>exact absurd rfl (hn (.jG q) (by simp) q)
   |_=>exact h
  refine ⟨[v],⟨hA,trivial⟩,fun m' rs' hl h3=>?_⟩
  match rs',hl with
  |[d'],_=>exact h3.1.mY
 |d::d'::ds,h,_=>
  obtain ⟨us,rfl,h2⟩:=h;refine ⟨us,h2,fun m' rs' hl h3=>?_⟩
  match rs',hl with
  |_::_::_,_=>exact ⟨us,rfl,h3⟩
theorem aap (hl:∀f ds h k rs h' n',fO f ds h k=some (rs,h',n')->J3 P f ds h k rs h' n') {own:Nat} {f:Nat} {ds:List D} {h:Heap} {nx:Nat} {d:D} {h2:Heap} {nx2:Nat} (hev:wZ fO own f ds h nx=some (d,h2,nx2)):
  qm P f/\∀(B:Nat) (S:Nat->Nat->Prop) (m:M) (us:List Value),m.h=h->Ml m nx->fu B S m->lV.Inv B m.w->av (dZ B S m) ds us->
   Calls P f us.toArray m.w fun e w'=>∃(v:Value) (m':M),e=.returned v/\m'.w=w'/\m'.h=h2/\Ml m' nx2/\fu B S m'/\aB B S m m'/\dZ B S m' d v/\Below B m.w m'.w:=by
 simp only [wZ,A2,A1,C1] at hev;obtain ⟨ds1,Df,h1,rs,h',n',h3,hev⟩:=hev;obtain ⟨hc,hL⟩:=hl _ _ _ _ _ _ _ h3;refine ⟨hc,fun B S m us hh hU hk hinv hall=>?_⟩
 subst hh;obtain ⟨k1,k2,k3⟩:fu B S (m.heap (ay m.h Df))/\aB B S m (m.heap (ay m.h Df))/\av (dZ B S (m.heap (ay m.h Df))) ds1 us:=by
  unfold Wh at h1;split at h1
  ·simp only [A0,A3] at h1;obtain ⟨rfl,rfl⟩:=h1;exact ⟨hk,aB.refl m,hall⟩
  ·exact QU hk hall h1
 refine (hL B S (m.heap (ay m.h Df)) us rfl hU k1 hinv k3).mono fun e w' ⟨v,m',q1,q2,q3,q4,q5,q6,q7,q8,q9⟩=>?_
 subst q1 q2;by_cases hown:own≠0
 ·rw [C6 hown] at hev;simp only [A0,A3] at hev;obtain ⟨rfl,rfl,rfl⟩:=hev;exact ⟨v,m',rfl,rfl,q3,q4,q5,k2.trans q6,q7,q8⟩
 ·rw [E0 hown] at hev;simp only [A1,C1,A0,A3] at hev;obtain ⟨rs1,Fp,h5,rfl,rfl,rfl⟩:=hev;subst q3;obtain ⟨vs,g1,g2⟩:=acJ q7 q9;obtain ⟨e1,e2,e3,e4,e5⟩:=WU q5 g1 h5;exact ⟨v,m'.heap (ay m'.h Fp),rfl,rfl,rfl,q4,e1,(k2.trans q6).trans e2,g2 _ _ e5 e3,q8⟩
theorem ab8 {f t:Nat} (hf:qm P f) {args:Array Operand} {ts:Array TypeId} {caps:Array Value} (hop:o.op=.call { callee:=.value (.tmp t),args,argTypes:=ts}) (ht:a.eval (.tmp t)=.func (.func f) #[] caps) (w:World):
  (execOp a.eval o).run P w=.ok (.enter f (args.map a.eval++caps)) w:=by
 obtain ⟨fn,h1,h2,h3⟩:=hf;have h2':¬fn.body=none:=fun h=>by rw [h] at h2;cases h2
 have h3':¬fn.name= "runtime.NumGoroutine":=by simpa using h3
 simp [execOp,hop,resolve,ht,Deferred.ofValue,invoke,callFunc,h1,h2',h3']
theorem Ii {f:Nat} {ow:Nat} {xs:List X} (h:qi P wz o.op=some (.gU f ow xs)):∃args ts,o.op=.call { callee:=.value (.func f),args,argTypes:=ts}/\iw args.toList=some xs:=by
 unfold qi at h;split at h<;>try (cases h;done)
 all_goals simp only [A2,A1,A0] at h
 case h_23 f' args ts hop=>
  obtain ⟨ys,h1,h2⟩:=h;split at h2<;>first|(cases h2;done)|(simp only [Ins.gU.injEq] at h2;obtain ⟨rfl,rfl,rfl⟩:=h2;exact ⟨args,ts,hop,h1⟩)
 all_goals (exfalso;revert h)
 case h_25 b args ts hop=>
  rintro ⟨ys,h1,h2⟩;split at h2<;>try (cases h2;done)
  ·split at h2<;>simp at h2
  ·simp only [A1] at h2;obtain ⟨_,_,_,_,_,_,h2⟩:=h2;split at h2
   ·split at h2<;>simp at h2
   ·split at h2<;>simp at h2
   ·simp at h2
  ·simp only [A1] at h2;obtain ⟨_,_,_,_,h2⟩:=h2;split at h2<;>simp at h2
 case h_11=>rintro ⟨_,_,_,_,h⟩;split at h<;>first|(simp at h;done)|(simp only [A1] at h;obtain ⟨_,_,h⟩:=h;split at h<;>first|(simp only [N9] at h;split at h<;>simp at h;done)|(cases h))
 case h_13=>rintro ⟨_,_,h⟩;split at h<;>first|(simp at h;done)|(split at h<;>simp at h)
 case h_15=>rintro ⟨_,_,_,_,_,_,h⟩;split at h<;>first|(simp at h;done)|(simp only [A1] at h;obtain ⟨_,_,h⟩:=h;simp at h)
 case h_16=>rintro ⟨_,_,_,_,_,_,_,_,h⟩;split at h<;>first|(simp only [A1] at h;obtain ⟨_,_,h⟩:=h;simp at h;done)|(simp at h)
 case h_17=>rintro ⟨_,_,h⟩;split at h<;>simp at h
 case h_21=>rintro ⟨_,_,_,_,h⟩;split at h<;>simp at h
 all_goals (intro h;simp at h)
theorem R3 {x:X} {xs:List X} (h:qi P wz o.op=some (.jv x xs)):∃t args ts,x=.t t/\o.op=.call { callee:=.value (.tmp t),args,argTypes:=ts}/\iw args.toList=some xs:=by
 unfold qi at h;split at h<;>try (cases h;done)
 all_goals simp only [A2,A1,A0] at h
 case h_24 t args ts hop=>
  obtain ⟨ys,h1,h2⟩:=h;simp only [Ins.jv.injEq] at h2;obtain ⟨rfl,rfl⟩:=h2;exact ⟨t,args,ts,rfl,hop,h1⟩
 all_goals (exfalso;revert h)
 case h_23=>rintro ⟨_,_,h⟩;split at h<;>simp at h
 case h_25 b args ts hop=>
  rintro ⟨ys,h1,h2⟩;split at h2<;>try (cases h2;done)
  ·split at h2<;>simp at h2
  ·simp only [A1] at h2;obtain ⟨_,_,_,_,_,_,h2⟩:=h2;split at h2
   ·split at h2<;>simp at h2
   ·split at h2<;>simp at h2
   ·simp at h2
  ·simp only [A1] at h2;obtain ⟨_,_,_,_,h2⟩:=h2;split at h2<;>simp at h2
 case h_11=>rintro ⟨_,_,_,_,h⟩;split at h<;>first|(simp at h;done)|(simp only [A1] at h;obtain ⟨_,_,h⟩:=h;split at h<;>first|(simp only [N9] at h;split at h<;>simp at h;done)|(cases h))
 case h_13=>rintro ⟨_,_,h⟩;split at h<;>first|(simp at h;done)|(split at h<;>simp at h)
 case h_15=>rintro ⟨_,_,_,_,_,_,h⟩;split at h<;>first|(simp at h;done)|(simp only [A1] at h;obtain ⟨_,_,h⟩:=h;simp at h)
 case h_16=>rintro ⟨_,_,_,_,_,_,_,_,h⟩;split at h<;>first|(simp only [A1] at h;obtain ⟨_,_,h⟩:=h;simp at h;done)|(simp at h)
 case h_17=>rintro ⟨_,_,h⟩;split at h<;>simp at h
 case h_21=>rintro ⟨_,_,_,_,h⟩;split at h<;>simp at h
 all_goals (intro h;simp at h)
theorem seq_ok {ops:Array Oper} {Q:Exit->Act->World->Prop} (hcall:∀f vs rs,call f vs=some rs->nY P f vs rs)
  (hl:∀f ds h k rs h' n',fO f ds h k=some (rs,h',n')->J3 P f ds h k rs h' n'):
  ∀(l:List Oper) (is:List gD),gZ P wz nt ops l=some is->∀(s s':St) (m:M) (a:Act),m.h=s.heap->Ml m s.nx->Rel B S w0 nt m s.env a->mX call fO is s=some s'->
   (∀(a':Act) (m':M),m'.h=s'.heap->Ml m' s'.nx->aB B S m m'->Rel B S w0 nt m' s'.env a'->Q .normal a' m'.w)->wpList P ops Q l a m.w
 |[],is,hc,s,s',m,a,hh,hU,hr,hev,hK=>by simp only [gZ,A0] at hc;subst hc;simp only [mX,A0] at hev;subst hev;exact wpList_nil (hK a m hh hU (aB.refl m) hr)
 |o::l,is,hc,s,s',m,a,hh,hU,hr,hev,hK=>by
  simp only [gZ,A2,A1,A0] at hc;obtain ⟨i,hc1,is',hc2,rfl⟩:=hc;simp only [mX,A2,A1] at hev;obtain ⟨b,hw,hev⟩:=hev;have hwant:=EU hr hc1 hw;obtain ⟨p1,p2,p3,_⟩:=iD hc1;unfold wpList;rw [hwant];cases b with
  |false=>
   simp only [C7,C2] at hev |-;have hr2:Rel B S w0 nt m (j5 s.env i.dst Af) (a.put o.dst undef):=by rw [p2];exact hr.put p3 ⟨[],rfl,trivial⟩
   exact seq_ok hcall hl l is' hc2 ⟨j5 s.env i.dst Af,s.heap,s.nx⟩ s' m _ hh hU hr2 hev hK
  |true=>
   simp only [E7] at hev |-;refine .inl ?_;have other:(∀f ow xs,i.ins≠.gU f ow xs)->(∀x xs,i.ins≠.jv x xs)->(do let (d,us) <-og call (yh s.env) s.heap s.nx i.ins;mX call fO is' ⟨j5 s.env i.dst d,ay s.heap us,s.nx+1⟩)=some s'->o.wp P a m.w (wpList P ops Q l) Q:=by
    intro hns DN hev;simp only [A2,A1,C1] at hev;obtain ⟨d,us,h1,h2⟩:=hev;have inst:∀{K:Act->World->Prop},(∀(a':Act) (m':M),m'.h=ay m.h us->m'.U=(fun i=>m.U i\/i=s.nx)->aB B S m m'->Rel B S w0 nt m' (j5 s.env i.dst d) a'->K a' m'.w)->o.wp P a m.w K Q:=by
     intro K hK';unfold og at h1;split at h1
     ·rename_i hm;have hcm:Fh P o.op=some i.ins:=by
       rcases Bh p1 with ⟨_,h3⟩|⟨h3,_⟩
       ·exact h3
       ·rw [hm] at h3;cases h3
      obtain ⟨n,v,w',h5,h6,h7⟩:=WW hcm hr.hok hr.opd (slot:=s.nx) (fun hx=>Nat.lt_irrefl _ (hU _ hx)) (by rw [hh];exact h1)
      have fin:∀v w',Post B S m s.nx us d v w'->K (a.put o.dst v) w':=by
       rintro v w' ⟨β',q1,q2,q3,q4⟩;have:=(hr.AY q2 q1 q4).put p3 q3
       rw [p2] at hK';exact hK' _ _ rfl rfl q2 this
      unfold Oper.wp;rw [h5];rcases h6 with rfl|⟨rfl,rfl⟩
      ·exact fin v w' h7
      ·exact fin undef w' h7
     ·exact Z9 hc1 hns DN hr (slot:=s.nx) (fun hx=>Nat.lt_irrefl _ (hU _ hx)) hcall (by rw [hh];exact h1) hK'
    refine inst fun a' m' q1 q2 q3 q4=>?_
    refine seq_ok hcall hl l is' hc2 ⟨j5 s.env i.dst d,ay s.heap us,s.nx+1⟩ s' m' a' (by rw [q1,hh]) (fun j=>?_) q4 h2 fun a'' m'' r1 r2 r4 r5=>hK a'' m'' r1 r2 (q3.trans r4) r5
    rw [q2];rintro (hj|rfl)
    ·exact Nat.lt_succ_of_lt (hU _ hj)
    ·exact K0 _
   have aK:∀(ow:Nat) (f:Nat) (ds:List D) (us:List Value),(∀w,qm P f->(execOp a.eval o).run P w=.ok (.enter f us.toArray) w)->av (dZ B S m) ds us->
     (do let (d,h,nx) <-wZ fO ow f ds s.heap s.nx;mX call fO is' ⟨j5 s.env i.dst d,h,nx⟩)=some s'->o.wp P a m.w (wpList P ops Q l) Q:=by
    intro ow f ds us hrun hall hev;simp only [A2,A1,C1] at hev;obtain ⟨d,h',nx',h1,h2⟩:=hev;obtain ⟨alH,hs2⟩:=aap hl h1;unfold Oper.wp;rw [hrun _ alH];show Calls P f us.toArray m.w _
    refine (hs2 B S m us hh hU hr.hok hr.inv hall).mono fun e w' ⟨v,m',q0,q1,q2,q3,q4,q5,q6,q7⟩=>?_
    subst q0 q1;have hr2:Rel B S w0 nt m' (j5 s.env i.dst d) (a.put o.dst v):=by rw [p2];exact (hr.AY q5 q4 q7).put p3 q6
    exact seq_ok hcall hl l is' hc2 ⟨j5 s.env i.dst d,h',nx'⟩ s' m' _ q2 q3 hr2 h2 fun a'' m'' r1 r2 r4 r5=>hK a'' m'' r1 r2 (q5.trans r4) r5
   cases hins:i.ins with
   |gU f ow xs=>
    rw [hins] at hev p1;obtain ⟨args,ts,hop,h7⟩:=Ii (BJ p1 rfl);refine aK ow f _ (args.map a.eval).toList (fun w hf=>?_) (by simpa using tO hr h7) hev
    rw [IA hf hop,Array.toArray_toList]
   |jv x xs=>
    rw [hins] at hev p1;obtain ⟨t,args,ts,rfl,hop,h7⟩:=R3 (BJ p1 rfl);simp only at hev;cases hx:yh s.env (.t t) with
    |fq f caps=>
     rw [hx] at hev;have ht:=hr.env t;have hx':fT s.env t=.fq f caps:=hx;rw [hx'] at ht;obtain ⟨ht1,ht2⟩:=ht;refine aK 0 f _ ((args.map a.eval).toList++caps.map fun p=>Value.pointer (some ⟨m.β p.1,p.2,none⟩)) (fun w hf=>?_) ?_ hev
     ·rw [ab8 hf hop ht1];simp
     ·refine av.append (by simpa using tO hr h7) ?_
      have:∀(l:List (Nat×Nat)),(∀p∈l,m.U p.1)->av (dZ B S m) (l.map fun p=>D.loc p.1 p.2) (l.map fun p=>Value.pointer (some ⟨m.β p.1,p.2,none⟩)):=by
       intro l;induction l with
       |nil=>intro _;trivial
       |cons p l ih=>intro hl;exact ⟨⟨hl p (by simp),rfl⟩,ih fun q hq=>hl q (by simp [hq])⟩
      exact this caps ht2
    |_=>rw [hx] at hev;cases hev
   |_=>exact other (fun f ow xs h=>by rw [hins] at h;cases h) (fun f xs h=>by rw [hins] at h;cases h) (by rw [hins] at hev |-;exact hev)
end
end Go.Ey
