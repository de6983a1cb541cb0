/- A part. -/
import Derived.Test.YtolnnaanmfnkjaaGreatDoorY11
import Derived.MapKept
import Derived.Carry
set_option linter.all false
namespace Go.Ey
open Go.RowKit
def DV (w:World) (Sf:Nat->Nat->Prop):List V->Value->Prop
 |[r],v=>gQ w Sf r v
 |rs,v=>∃us:List Value,v=.tuple us.toArray/\aF (gQ w Sf) rs us
def sQ (P:Program) (f:Nat):Prop:=∃fn,P.funcs[f]?=some fn/\fn.body.isNone=false/\(fn.name== "runtime.NumGoroutine")=false
class lV where
 Inv:Nat->World->Prop
 keep:∀{B:Nat} {w w':World},Below B w w'->Inv B w->Inv B w'
 mono:∀{B B':Nat} {w:World},B<=B'->Inv B w->Inv B' w
variable [lV]
def oq (P:Program) (f:Nat) (vs rs:List V):Prop:=
 sQ P f/\∀(S:Nat->Nat->Prop) (w:World) (us:List Value),lV.Inv w.heap.size w->aF (gQ w S) vs us->
  Calls P f us.toArray w fun e w'=>∃v,e=.returned v/\DV w' (fun b o=>b < w.heap.size->S b o) rs v/\Below w.heap.size w w'
section
variable {B:Nat} {S:Nat->Nat->Prop} {P:Program} {o:Oper} {a:Act} {m:M} {slot:Nat} {d:D} {us:List (Nat×Obj)} {zf:Nat->Nat} {nt:Nat} {w0:World} {e:Env}
theorem Jw {f:Nat} (hf:sQ P f) {args:Array Operand} {ts:Array TypeId} (hop:o.op=.call { callee:=.value (.func f),args,argTypes:=ts}) (w:World):
  (execOp a.eval o).run P w=.ok (.enter f (args.map a.eval)) w:=by
 obtain ⟨fn,h1,h2,h3⟩:=hf;have h2':¬fn.body=none:=fun h=>by rw [h] at h2;cases h2
 have h3':¬fn.name= "runtime.NumGoroutine":=by simpa using h3
 simp [execOp,hop,resolve,Act.eval,Deferred.ofValue,invoke,callFunc,h1,h2',h3']
theorem Rq:∀{ds:List D} {us:List Value} {m:M},gq B S m->aF (eX B S m) ds us->∀{vs:List V} {xs:List (Nat×Obj)},jV m.h ds=some (vs,xs)->
  gq B S (m.heap (aK m.h xs))/\aS B S m (m.heap (aK m.h xs))/\aF (gQ m.w (Safe B S (m.heap (aK m.h xs)))) vs us
 |[],[],m,hk,_,cs,xs,hf=>by simp only [jV,A0,A3] at hf;obtain ⟨rfl,rfl⟩:=hf;exact ⟨hk,aS.refl m,trivial⟩
 |d::ds,u::us,m,hk,hr,cs,xs,hf=>by
  simp only [jV,A2,A1,C0,A0,A3] at hf;obtain ⟨c,x,h1,cs',xs',h2,rfl,rfl⟩:=hf;have hr1:nH B S m d u:=by
   cases d with
   |lC ds=>simp [nP,oo] at h1
   |_=>exact hr.1
  obtain ⟨k1,k2,k3⟩:=II hk hr1 h1;have hr2:aF (eX B S (m.heap (aK m.h x))) ds us:=hr.2.mono fun _ _ h=>k2.XP h
  obtain ⟨k4,k5,k6⟩:=Rq (m:=m.heap (aK m.h x)) k1 hr2 h2;rw [eY];exact ⟨k4,k2.trans k5,gQ.mono k5.cell k3,k6⟩
 |[],_::_,_,_,hr,_,_,_=>hr.elim
 |_::_,[],_,_,hr,_,_,_=>hr.elim
theorem gQ.nE {m:M} {v:V} {u:Value} (h:gQ m.w (Safe B S m) v u):nH B S m v.nE u:=by
 cases v with
 |one c=>exact h
 |agg cs=>obtain ⟨us,h1,h2⟩:=h;exact ⟨us,h1,aF.nA h2⟩
 |full cs n=>exact h
theorem DV.nE {m:M} {rs:List V} {u:Value} (h:DV m.w (Safe B S m) rs u):eX B S m (Sr rs) u:=by
 match rs,h with
 |[r],h=>exact (gQ.nE h).nE
 |[],h=>obtain ⟨us,rfl,h2⟩:=h;exact ⟨us,rfl,aF.nA (h2.mono fun v u h=>gQ.nE h)⟩
 |r::r'::rs,h=>obtain ⟨us,rfl,h2⟩:=h;exact ⟨us,rfl,aF.nA (h2.mono fun v u h=>gQ.nE h)⟩
theorem gQ.weaken {w:World} {Sf XC:Nat->Nat->Prop} (h:∀b o,Sf b o->b < w.heap.size->XC b o) {v:V} {u:Value} (hr:gQ w Sf v u):gQ w XC v u:=
 gQ.mono (fun b o _ h1 h2=>⟨h1,h b o h2 (Te h1)⟩) hr
theorem DV.weaken {w:World} {Sf XC:Nat->Nat->Prop} (h:∀b o,Sf b o->b < w.heap.size->XC b o) {rs:List V} {u:Value} (hr:DV w Sf rs u):DV w XC rs u:=by
 unfold DV at hr |-;split at hr
 ·exact gQ.weaken h hr
 ·obtain ⟨us,h1,h2⟩:=hr;exact ⟨us,h1,h2.mono fun _ _ h3=>gQ.weaken h h3⟩
theorem Ya {m:M} (hk:gq B S m) {w':World} {b q:Nat} (h:b < m.w.heap.size->Safe B S m b q):Safe B S (m.world w') b q:=by
 by_cases hb:b < m.w.heap.size
 ·exact h hb
 ·refine ⟨hk.fresh b q (by omega),fun id=>?_⟩
  ·show match aH m.h id with|.dead=>True|.box _=>m.β id≠b|.map _=>m.β id≠b|.arr _ _ fz _=>m.β id=b->q < fz
   cases ho:aH m.h id with
   |dead=>trivial
   |box ds=>have:=hk.lt (id:=id) (by rw [ho];simp);intro e;omega
   |map ds=>have:=hk.lt (id:=id) (by rw [ho];simp);intro e;omega
   |arr cs ay fz ety=>have:=hk.lt (id:=id) (by rw [ho];simp);intro e;omega
theorem ai7 (hk:gq B S m) (hinv:lV.Inv B m.w) {f:Nat} {args:Array Operand} {ts:Array TypeId} (hop:o.op=.call { callee:=.value (.func f),args,argTypes:=ts}) {ds:List D} (hd:aF (eX B S m) ds (args.map a.eval).toList) {vs rs:List V}
  (hf:jV m.h ds=some (vs,us)) (hfn:oq P f vs rs) {K:Act->World->Prop} {Q:Exit->Act->World->Prop} (hK:∀v w',Post B S m slot us (Sr rs) v w'->K (a.put o.dst v) w'):o.wp P a m.w K Q:=by
 obtain ⟨k1,k2,k3⟩:=Rq hk hd hf;unfold Oper.wp;rw [Jw hfn.1 hop];show Calls P f (args.map a.eval) m.w _
 have hc:=hfn.2 _ m.w _ (lV.mono hk.base hinv) k3;have he:(args.map a.eval).toList.toArray=args.map a.eval:=Array.toArray_toList;rw [he] at hc;refine hc.mono fun e w' ⟨v,hv,h1,h2⟩=>?_
 subst hv;refine hK v w' ⟨m.β,?_⟩;have hb:∀k,k < m.w.heap.size->w'.heap[k]?=m.w.heap[k]?:=h2.block;have ev2:=Ca k1 (w':=w') hb;have hk2:=Rk k1 (w':=w') hb h2.size;refine ⟨x9 hk2 slot,(k2.trans ev2).trans (gL _ slot),?_,h2.mono hk.base⟩;refine (gL ((m.heap (aK m.h us)).world w') slot).XP (DV.nE ?_);exact DV.weaken (fun b q h _=>Ya k1 h) h1
structure Rel (B:Nat) (S:Nat->Nat->Prop) (w0:World) (nt:Nat) (m:M) (e:Env) (a:Act):Prop where
 defers:a.defers=[]
 size:a.tmps.size=nt
 env:∀t,eX B S m (iM e t) (a.tmps.getD t undef)
 hok:gq B S m
 below:Below B w0 m.w
 inv:lV.Inv B m.w
theorem Rel.opd (hr:Rel B S w0 nt m e a):FY B S m (zT e) a:=by
 intro x X' hx;cases x with
 |tmp t=>simp [bY] at hx;subst hx;exact hr.env t
 |const v=>
  simp only [bY] at hx;split at hx
  ·rename_i hs;simp only [A0] at hx;subst hx;by_cases h:scalar v=true
   ·simp only [zT,h,Ek];exact eX.mkLit h
   ·have h2:AY v=true:=by
     rcases Bool.or_eq_true_iff.1 hs with h3|h3
     ·exact absurd h3 h
     ·exact h3
    have:=FH h2
    subst this;simp only [zT,scalar,C2,Cd];exact .inl ⟨rfl,rfl,rfl⟩
  ·cases hx
 |global g=>simp [bY] at hx
 |func f=>
  simp only [bY,A0] at hx;subst hx;simp only [zT];exact ⟨rfl,by simp⟩
theorem Ah (e:Env) (dst:Option Nat) (d:D) (t:Nat):iM (l8 e dst d) t=if dst=some t then d else iM e t:=by
 cases dst with
 |none=>simp [l8]
 |some t'=>
  simp only [l8,iM,A0]
theorem Rel.put (hr:Rel B S w0 nt m e a) {dst:Option Nat} (hd:UO nt dst=true) {d:D} {v:Value} (h:eX B S m d v):Rel B S w0 nt m (l8 e dst d) (a.put dst v):=by
 cases dst with
 |none=>exact hr
 |some t'=>
  have hlt:t' < nt:=by simpa [UO] using hd
  refine ⟨hr.defers,by simpa [Act.put] using hr.size,fun t=>?_,hr.hok,hr.below,hr.inv⟩
  rw [Ah];by_cases ht:t'=t
  ·subst ht;have:(a.put (some t') v).tmps.getD t' undef=v:=by simp [Act.put,hr.size,hlt]
   simp only [Ek,this];exact h
  ·have:(a.put (some t') v).tmps.getD t undef=a.tmps.getD t undef:=by simp [Act.put,Array.getElem?_setIfInBounds_ne ht]
   rw [this,Dd (by simpa using ht)]
   exact hr.env t
theorem Rel.Cg (hr:Rel B S w0 nt m e a) {m':M} (hev:aS B S m m') (hk:gq B S m') (hb:Below B m.w m'.w):Rel B S w0 nt m' e a:=
 ⟨hr.defers,hr.size,fun t=>hev.XP (hr.env t),hk,hr.below.trans hb,lV.keep hb hr.inv⟩
theorem jH {ops:Array Oper} {i:jl} (h:AR P zf nt ops o=some i):
  JO P zf o.op=some i.ins/\i.dst=o.dst/\UO nt o.dst=true/\
  (o.guard=none/\i.guard=none\/∃j want g t,o.guard=some (j,want)/\ops[j]?=some g/\g.dst=some t/\i.guard=some (t,want)):=by
 unfold AR at h;simp only [A2,A1] at h;obtain ⟨ins,h1,h2⟩:=h;split at h2
 ·cases h2
 ·rename_i hd;have hd':UO nt o.dst=true:=by simpa using hd
  split at h2
  ·rename_i hg;simp only [A0] at h2;subst h2;exact ⟨h1,rfl,hd',.inl ⟨hg,rfl⟩⟩
  ·rename_i j want hg;simp only [A1,A0] at h2;obtain ⟨g,h3,t,h4,rfl⟩:=h2;exact ⟨h1,rfl,hd',.inr ⟨j,want,g,t,hg,h3,h4,rfl⟩⟩
theorem Gj (hr:Rel B S w0 nt m e a) {ops:Array Oper} {i:jl} (h:AR P zf nt ops o=some i) {b:Bool} (hw:wanted e i.guard=some b):Region.wanted o (yielded ops a.tmps)=b:=by
 obtain ⟨_,_,_,h4⟩:=jH h;rcases h4 with ⟨h5,h6⟩|⟨j,want,g,t,h5,h6,h7,h8⟩
 ·rw [h6] at hw;simp only [wanted,A0] at hw;subst hw;simp [Region.wanted,h5]
 ·rw [h8] at hw;simp only [wanted] at hw;have Zy:=hr.env t;split at hw
  ·rename_i q hq;simp only [A0] at hw;rw [hq] at Zy;have hv:=Zy.lit;have ht:a.tmps[t]?=some (.bool q):=by
    cases ht:a.tmps[t]? with
    |none=>simp [ht,undef] at hv
    |some x=>simp [ht] at hv;rw [hv]
   simp [Region.wanted,h5,yielded,h6,h7,ht];rw [<-hw]
  ·rename_i hq;simp only [A0] at hw;subst hw;rw [hq] at Zy;obtain ⟨us,hu,h9⟩:=Zy;cases us with
   |cons _ _=>exact h9.elim
   |nil=>
    have:yielded ops a.tmps j=none:=by
     simp only [yielded,h6,h7,A4];cases ht:a.tmps[t]? with
     |none=>rfl
     |some x=>simp [ht] at hu;subst hu;rfl
    simp [Region.wanted,h5,this]
  ·cases hw
theorem xh (hr:Rel B S w0 nt m e a):∀{os:List Operand} {xs:List X},jM os=some xs->aF (eX B S m) (xs.map (zT e)) (os.map a.eval)
 |[],xs,h=>by simp [jM] at h;subst h;trivial
 |x::os,xs,h=>by simp only [jM,A2,A1,A0] at h;obtain ⟨y,h1,ys,h2,rfl⟩:=h;exact ⟨hr.opd x y h1,xh hr h2⟩
theorem Vs {f:Nat} {xs:List X} (h:sw P zf o.op=some (.call f xs)):∃args ts,o.op=.call { callee:=.value (.func f),args,argTypes:=ts}/\jM args.toList=some xs:=by
 unfold sw at h;split at h<;>try (cases h;done)
 all_goals simp only [A2,A1,A0] at h
 case h_23 f' args ts hop=>
  obtain ⟨ys,h1,h2⟩:=h;split at h2<;>first|(cases h2;done)|(simp only [Ins.call.injEq] at h2;obtain ⟨rfl,rfl⟩:=h2;exact ⟨args,ts,hop,h1⟩)
 all_goals (exfalso;revert h)
 case h_25 b args ts hop=>
  rintro ⟨ys,h1,h2⟩;split at h2<;>try (cases h2;done)
  ·split at h2<;>simp at h2
  ·simp only [A1] at h2;obtain ⟨_,_,_,_,_,_,h2⟩:=h2;split at h2
   ·split at h2<;>simp at h2
   ·split at h2<;>simp at h2
   ·simp at h2
  ·simp only [A1] at h2;obtain ⟨_,_,_,_,h2⟩:=h2;split at h2<;>simp at h2
 case h_11=>rintro ⟨_,_,_,_,h⟩;split at h<;>first|(simp at h;done)|(simp only [A1] at h;obtain ⟨_,_,h⟩:=h;split at h<;>first|(simp only [Oj] at h;split at h<;>simp at h;done)|(cases h))
 case h_13=>rintro ⟨_,_,h⟩;split at h<;>first|(simp at h;done)|(split at h<;>simp at h)
 case h_15=>rintro ⟨_,_,_,_,_,_,h⟩;split at h<;>first|(simp at h;done)|(simp only [A1] at h;obtain ⟨_,_,h⟩:=h;simp at h)
 case h_16=>rintro ⟨_,_,_,_,_,_,_,_,h⟩;split at h<;>first|(simp only [A1] at h;obtain ⟨_,_,h⟩:=h;simp at h;done)|(simp at h)
 case h_17=>rintro ⟨_,_,h⟩;split at h<;>simp at h
 case h_21=>rintro ⟨_,_,_,_,h⟩;split at h<;>simp at h
 all_goals (intro h;simp at h)
theorem ZR {ops:Array Oper} {i:jl} (h:AR P zf nt ops o=some i) (hns:∀f ow xs,i.ins≠.jB f ow xs) (MU:∀x xs,i.ins≠.kX x xs) (hr:Rel B S w0 nt m e a) (hs:¬m.U slot) {call:Callee} (hcall:∀f vs rs,call f vs=some rs->oq P f vs rs)
  (hst:eU call (zT e) m.h slot i.ins=some (d,us)) {K:Act->World->Prop} {Q:Exit->Act->World->Prop}
  (hK:∀(a':Act) (m':M),m'.h=aK m.h us->m'.U=(fun i=>m.U i\/i=slot)->aS B S m m'->Rel B S w0 nt m' (l8 e i.dst d) a'->K a' m'.w):o.wp P a m.w K Q:=by
 obtain ⟨h1,h2,h3,_⟩:=jH h;have h1:sw P zf o.op=some i.ins:=by refine CL h1 ?_;cases hins:i.ins<;>first|rfl|(rw [hins] at hst;simp [eU,step] at hst)
 have fin:∀v w',Post B S m slot us d v w'->K (a.put o.dst v) w':=by
  rintro v w' ⟨β',p1,p2,p3,p4⟩;have:=(hr.Cg p2 p1 p4).put h3 p3
  rw [h2] at hK;exact hK _ _ rfl rfl p2 this
 cases hins:i.ins with
 |jB f ow xs=>exact absurd hins (hns f ow xs)
 |mV f xs=>rw [hins] at hst;simp [eU,step] at hst
 |kX x xs=>exact absurd hins (MU x xs)
 |call f xs=>
  rw [hins] at hst h1;simp only [eU,A2,A1,C0,A0,A3] at hst;obtain ⟨vs,us',h5,rs,h6,rfl,rfl⟩:=hst;obtain ⟨args,ts,hop,h7⟩:=Vs h1;have hall:=xh hr h7;exact ai7 hr.hok hr.inv hop (by simpa using hall) h5 (hcall _ _ _ h6) fin
 |_=>
  rw [hins] at hst h1;obtain ⟨n,v,w',h5,h6,h7⟩:=step_ok h1 rfl hr.hok hr.opd hs hst;unfold Oper.wp;rw [h5];rcases h6 with rfl|⟨rfl,rfl⟩
  ·exact fin v w' h7
  ·exact fin undef w' h7
end
end Go.Ey
namespace Go.Ey
open Go.RowKit
open Go.MapKept
variable [lV]
section
variable {B:Nat} {S:Nat->Nat->Prop} {P:Program} {o:Oper} {a:Act} {m:M} {slot:Nat} {ρ:X->D} {d:D} {us:List (Nat×Obj)}
theorem U5 {ins:Ins} (hc:Gl P o.op=some ins) (hk:gq B S m) (ho:FY B S m ρ a) (hs0:¬m.U slot) (hs:aax ρ m.h slot ins=some (d,us)):Does B S P o a m slot d us:=by cases hc
end
end Go.Ey
namespace Go.Ey
open Go.RowKit
def M4 (m:M) (nx:Nat):Prop:=∀i,m.U i->i < nx
theorem aF.map_mono {α β γ:Type} {R:α->β->Prop} {R':γ->β->Prop} {f:α->γ} (h:∀a b,R a b->R' (f a) b):∀{aY:List α} {bs:List β},aF R aY bs->aF R' (aY.map f) bs
 |[],[],_=>trivial
 |_::_,_::_,h1=>⟨h _ _ h1.1,aF.map_mono h h1.2⟩
 |[],_::_,h1=>h1.elim
 |_::_,[],h1=>h1.elim
variable [lV]
def Ko (P:Program) (f:Nat) (ds:List D) (h:Heap) (k:Nat) (rs:List D) (h':Heap) (n':Nat):Prop:=
 sQ P f/\∀(B:Nat) (S:Nat->Nat->Prop) (m:M) (us:List Value),m.h=h->M4 m k->gq B S m->lV.Inv B m.w->aF (eX B S m) ds us->
  Calls P f us.toArray m.w fun e w'=>∃(v:Value) (m':M),e=.returned v/\m'.w=w'/\m'.h=h'/\M4 m' n'/\gq B S m'/\aS B S m m'/\eX B S m' (Eu rs) v/\Below B m.w m'.w/\∀d,d∈rs->∀q,d≠.lC q
section
variable {B:Nat} {S:Nat->Nat->Prop} {P:Program} {o:Oper} {a:Act} {m:M} {zf:Nat->Nat} {nt:Nat} {w0:World} {call:Callee} {gU:xg}
theorem aaA {m:M} (hk:gq B S m) {d:D} {u:Value} (hr:gu B S m d u) {x:D} {us:List (Nat×Obj)} (hf:Mt m.h d=some (x,us)):
  gq B S (m.heap (aK m.h us))/\aS B S m (m.heap (aK m.h us))/\gu B S (m.heap (aK m.h us)) x u:=by
 cases d with
 |arr id off len=>
  simp only [Mt,A2,A1,C0,A0,A3] at hf;obtain ⟨c,xs,h1,rfl,rfl⟩:=hf;exact Tv hk hr h1
 |_=>
  simp only [Mt,A0,A3] at hf;obtain ⟨rfl,rfl⟩:=hf;exact ⟨hk,aS.refl m,hr⟩
theorem Xv:∀{ds:List D} {us:List Value} {m:M},gq B S m->aF (gu B S m) ds us->∀{cs:List D} {xs:List (Nat×Obj)},Og m.h ds=some (cs,xs)->
  gq B S (m.heap (aK m.h xs))/\aS B S m (m.heap (aK m.h xs))/\aF (gu B S (m.heap (aK m.h xs))) cs us
 |[],[],m,hk,_,cs,xs,hf=>by simp only [Og,A0,A3] at hf;obtain ⟨rfl,rfl⟩:=hf;exact ⟨hk,aS.refl m,trivial⟩
 |d::ds,u::us,m,hk,hr,cs,xs,hf=>by
  simp only [Og,A2,A1,C0,A0,A3] at hf;obtain ⟨c,x,h1,cs',xs',h2,rfl,rfl⟩:=hf;obtain ⟨k1,k2,k3⟩:=aaA hk hr.1 h1;have hr2:aF (gu B S (m.heap (aK m.h x))) ds us:=hr.2.mono fun _ _ h=>k2.yt h
  obtain ⟨k4,k5,k6⟩:=Xv (m:=m.heap (aK m.h x)) k1 hr2 h2;rw [eY];exact ⟨k4,k2.trans k5,k5.yt k3,k6⟩
 |[],_::_,_,_,hr,_,_,_=>hr.elim
 |_::_,[],_,_,hr,_,_,_=>hr.elim
theorem aao {m:M} (hk:gq B S m) {d:D} {u:Value} (hr:nH B S m d u) {x:D} {xs:List (Nat×Obj)} (hf:Uf m.h d=some (x,xs)):
  gq B S (m.heap (aK m.h xs))/\aS B S m (m.heap (aK m.h xs))/\nH B S (m.heap (aK m.h xs)) x u/\∀q,x≠.lC q:=by
 have one:∀d,gu B S m d u->Mt m.h d=some (x,xs)->
   gq B S (m.heap (aK m.h xs))/\aS B S m (m.heap (aK m.h xs))/\nH B S (m.heap (aK m.h xs)) x u/\∀q,x≠.lC q:=by
  intro d hr hf;obtain ⟨k1,k2,k3⟩:=aaA hk hr hf;refine ⟨k1,k2,?_,?_⟩
  ·cases x<;>first|exact k3|exact k3.elim
  ·intro q hq;subst hq;exact k3.elim
 cases d with
 |agg ds=>
  simp only [Uf,A2,A1,C0,A0,A3] at hf;obtain ⟨cs,x,h1,rfl,rfl⟩:=hf;obtain ⟨us,rfl,h2⟩:=hr;obtain ⟨k1,k2,k3⟩:=Xv hk h2 h1;exact ⟨k1,k2,⟨us,rfl,k3⟩,fun q hq=>by cases hq⟩
 |uf=>exact one .uf hr hf
 |c x=>exact one (.c x) hr hf
 |loc id off=>exact one (.loc id off) hr hf
 |arr id off len=>exact one (.arr id off len) hr hf
 |ptr cs=>exact one (.ptr cs) hr hf
 |full cs n=>exact one (.full cs n) hr hf
 |fD f caps=>exact one (.fD f caps) hr hf
 |mp id=>exact one (.mp id) hr hf
 |lC ds=>exact one (.lC ds) hr hf
theorem VO:∀{ds:List D} {us:List Value} {m:M},gq B S m->aF (nH B S m) ds us->∀{vs:List D} {xs:List (Nat×Obj)},zz m.h ds=some (vs,xs)->
  gq B S (m.heap (aK m.h xs))/\aS B S m (m.heap (aK m.h xs))/\aF (nH B S (m.heap (aK m.h xs))) vs us/\(∀d,d∈vs->∀q,d≠.lC q)/\vs.length=ds.length
 |[],[],m,hk,_,cs,xs,hf=>by simp only [zz,A0,A3] at hf;obtain ⟨rfl,rfl⟩:=hf;exact ⟨hk,aS.refl m,trivial,by simp,rfl⟩
 |d::ds,u::us,m,hk,hr,cs,xs,hf=>by
  simp only [zz,A2,A1,C0,A0,A3] at hf;obtain ⟨c,x,h1,cs',xs',h2,rfl,rfl⟩:=hf;obtain ⟨k1,k2,k3,k3'⟩:=aao hk hr.1 h1;have hr2:aF (nH B S (m.heap (aK m.h x))) ds us:=hr.2.mono fun _ _ h=>k2.K8 h
  obtain ⟨k4,k5,k6,k7,k8⟩:=VO (m:=m.heap (aK m.h x)) k1 hr2 h2;rw [eY];refine ⟨k4,k2.trans k5,⟨k5.K8 k3,k6⟩,fun d hd=>?_,by simp [k8]⟩
  simp only [D1] at hd;rcases hd with rfl|hd
  ·exact k3'
  ·exact k7 d hd
 |[],_::_,_,_,hr,_,_,_=>hr.elim
 |_::_,[],_,_,hr,_,_,_=>hr.elim
theorem QK:∀{ds:List D} {us:List Value} {m:M},gq B S m->aF (eX B S m) ds us->∀{vs:List D} {xs:List (Nat×Obj)},zz m.h ds=some (vs,xs)->
  gq B S (m.heap (aK m.h xs))/\aS B S m (m.heap (aK m.h xs))/\aF (eX B S (m.heap (aK m.h xs))) vs us
 |[],[],m,hk,_,cs,xs,hf=>by simp only [zz,A0,A3] at hf;obtain ⟨rfl,rfl⟩:=hf;exact ⟨hk,aS.refl m,trivial⟩
 |d::ds,u::us,m,hk,hr,cs,xs,hf=>by
  simp only [zz,A2,A1,C0,A0,A3] at hf;obtain ⟨c,x,h1,cs',xs',h2,rfl,rfl⟩:=hf;have key:gq B S (m.heap (aK m.h x))/\aS B S m (m.heap (aK m.h x))/\eX B S (m.heap (aK m.h x)) c u:=by
   have other:nH B S m d u->_:=fun hA=>aao hk hA h1
   cases d with
   |lC q=>
    simp only [Uf,Mt,A0,A3] at h1;obtain ⟨rfl,rfl⟩:=h1;exact ⟨hk,aS.refl m,hr.1⟩
   |_=>obtain ⟨k1,k2,k3,_⟩:=other hr.1;exact ⟨k1,k2,k3.nE⟩
  obtain ⟨k1,k2,k3⟩:=key;have hr2:aF (eX B S (m.heap (aK m.h x))) ds us:=hr.2.mono fun _ _ h=>k2.XP h
  obtain ⟨k4,k5,k6⟩:=QK (m:=m.heap (aK m.h x)) k1 hr2 h2;rw [eY];exact ⟨k4,k2.trans k5,k5.XP k3,k6⟩
 |[],_::_,_,_,hr,_,_,_=>hr.elim
 |_::_,[],_,_,hr,_,_,_=>hr.elim
theorem af3 {B:Nat} {S:Nat->Nat->Prop} {m:M} {rs:List D} {v:Value} (h:eX B S m (Eu rs) v) (hn:∀d,d∈rs->∀q,d≠.lC q):
  ∃us:List Value,aF (nH B S m) rs us/\∀(m':M) (rs':List D),rs'.length=rs.length->aF (nH B S m') rs' us->eX B S m' (Eu rs') v:=by
 match rs,h,hn with
 |[],h,_=>
  obtain ⟨us,rfl,h2⟩:=h;refine ⟨us,h2,fun m' rs' hl h3=>?_⟩
  match rs',hl with
  |[],_=>exact ⟨us,rfl,h3⟩
 |[d],h,hn=>
  have hA:nH B S m d v:=by
   cases d with
   |lC q=>exact absurd rfl (hn (.lC q) (by simp) q)
   |_=>exact h
  refine ⟨[v],⟨hA,trivial⟩,fun m' rs' hl h3=>?_⟩
  match rs',hl with
  |[d'],_=>exact h3.1.nE
 |d::d'::ds,h,_=>
  obtain ⟨us,rfl,h2⟩:=h;refine ⟨us,h2,fun m' rs' hl h3=>?_⟩
  match rs',hl with
  |_::_::_,_=>exact ⟨us,rfl,h3⟩
theorem aad (hl:∀f ds h k rs h' n',gU f ds h k=some (rs,h',n')->Ko P f ds h k rs h' n') {own:Nat} {f:Nat} {ds:List D} {h:Heap} {nx:Nat} {d:D} {h2:Heap} {nx2:Nat} (hev:zy gU own f ds h nx=some (d,h2,nx2)):
  sQ P f/\∀(B:Nat) (S:Nat->Nat->Prop) (m:M) (us:List Value),m.h=h->M4 m nx->gq B S m->lV.Inv B m.w->aF (eX B S m) ds us->
   Calls P f us.toArray m.w fun e w'=>∃(v:Value) (m':M),e=.returned v/\m'.w=w'/\m'.h=h2/\M4 m' nx2/\gq B S m'/\aS B S m m'/\eX B S m' d v/\Below B m.w m'.w:=by
 simp only [zy,A2,A1,C0] at hev;obtain ⟨ds1,Et,h1,rs,h',n',h3,hev⟩:=hev;obtain ⟨hc,hL⟩:=hl _ _ _ _ _ _ _ h3;refine ⟨hc,fun B S m us hh hU hk hinv hall=>?_⟩
 subst hh;obtain ⟨k1,k2,k3⟩:gq B S (m.heap (aK m.h Et))/\aS B S m (m.heap (aK m.h Et))/\aF (eX B S (m.heap (aK m.h Et))) ds1 us:=by
  unfold VA at h1;split at h1
  ·simp only [A0,A3] at h1;obtain ⟨rfl,rfl⟩:=h1;exact ⟨hk,aS.refl m,hall⟩
  ·exact QK hk hall h1
 refine (hL B S (m.heap (aK m.h Et)) us rfl hU k1 hinv k3).mono fun e w' ⟨v,m',q1,q2,q3,q4,q5,q6,q7,q8,q9⟩=>?_
 subst q1 q2;by_cases hown:own≠0
 ·rw [C4 hown] at hev;simp only [A0,A3] at hev;obtain ⟨rfl,rfl,rfl⟩:=hev;exact ⟨v,m',rfl,rfl,q3,q4,q5,k2.trans q6,q7,q8⟩
 ·rw [Dd hown] at hev;simp only [A1,C0,A0,A3] at hev;obtain ⟨rs1,HV,h5,rfl,rfl,rfl⟩:=hev;subst q3;obtain ⟨vs,g1,g2⟩:=af3 q7 q9;obtain ⟨e1,e2,e3,e4,e5⟩:=VO q5 g1 h5;exact ⟨v,m'.heap (aK m'.h HV),rfl,rfl,rfl,q4,e1,(k2.trans q6).trans e2,g2 _ _ e5 e3,q8⟩
theorem acD {f t:Nat} (hf:sQ P f) {args:Array Operand} {ts:Array TypeId} {caps:Array Value} (hop:o.op=.call { callee:=.value (.tmp t),args,argTypes:=ts}) (ht:a.eval (.tmp t)=.func (.func f) #[] caps) (w:World):
  (execOp a.eval o).run P w=.ok (.enter f (args.map a.eval++caps)) w:=by
 obtain ⟨fn,h1,h2,h3⟩:=hf;have h2':¬fn.body=none:=fun h=>by rw [h] at h2;cases h2
 have h3':¬fn.name= "runtime.NumGoroutine":=by simpa using h3
 simp [execOp,hop,resolve,ht,Deferred.ofValue,invoke,callFunc,h1,h2',h3']
theorem JR {f:Nat} {ow:Nat} {xs:List X} (h:sw P zf o.op=some (.jB f ow xs)):∃args ts,o.op=.call { callee:=.value (.func f),args,argTypes:=ts}/\jM args.toList=some xs:=by
 unfold sw at h;split at h<;>try (cases h;done)
 all_goals simp only [A2,A1,A0] at h
 case h_23 f' args ts hop=>
  obtain ⟨ys,h1,h2⟩:=h;split at h2<;>first|(cases h2;done)|(simp only [Ins.jB.injEq] at h2;obtain ⟨rfl,rfl,rfl⟩:=h2;exact ⟨args,ts,hop,h1⟩)
 all_goals (exfalso;revert h)
 case h_25 b args ts hop=>
  rintro ⟨ys,h1,h2⟩;split at h2<;>try (cases h2;done)
  ·split at h2<;>simp at h2
  ·simp only [A1] at h2;obtain ⟨_,_,_,_,_,_,h2⟩:=h2;split at h2
   ·split at h2<;>simp at h2
   ·split at h2<;>simp at h2
   ·simp at h2
  ·simp only [A1] at h2;obtain ⟨_,_,_,_,h2⟩:=h2;split at h2<;>simp at h2
 case h_11=>rintro ⟨_,_,_,_,h⟩;split at h<;>first|(simp at h;done)|(simp only [A1] at h;obtain ⟨_,_,h⟩:=h;split at h<;>first|(simp only [Oj] at h;split at h<;>simp at h;done)|(cases h))
 case h_13=>rintro ⟨_,_,h⟩;split at h<;>first|(simp at h;done)|(split at h<;>simp at h)
 case h_15=>rintro ⟨_,_,_,_,_,_,h⟩;split at h<;>first|(simp at h;done)|(simp only [A1] at h;obtain ⟨_,_,h⟩:=h;simp at h)
 case h_16=>rintro ⟨_,_,_,_,_,_,_,_,h⟩;split at h<;>first|(simp only [A1] at h;obtain ⟨_,_,h⟩:=h;simp at h;done)|(simp at h)
 case h_17=>rintro ⟨_,_,h⟩;split at h<;>simp at h
 case h_21=>rintro ⟨_,_,_,_,h⟩;split at h<;>simp at h
 all_goals (intro h;simp at h)
theorem TS {x:X} {xs:List X} (h:sw P zf o.op=some (.kX x xs)):∃t args ts,x=.t t/\o.op=.call { callee:=.value (.tmp t),args,argTypes:=ts}/\jM args.toList=some xs:=by
 unfold sw at h;split at h<;>try (cases h;done)
 all_goals simp only [A2,A1,A0] at h
 case h_24 t args ts hop=>
  obtain ⟨ys,h1,h2⟩:=h;simp only [Ins.kX.injEq] at h2;obtain ⟨rfl,rfl⟩:=h2;exact ⟨t,args,ts,rfl,hop,h1⟩
 all_goals (exfalso;revert h)
 case h_23=>rintro ⟨_,_,h⟩;split at h<;>simp at h
 case h_25 b args ts hop=>
  rintro ⟨ys,h1,h2⟩;split at h2<;>try (cases h2;done)
  ·split at h2<;>simp at h2
  ·simp only [A1] at h2;obtain ⟨_,_,_,_,_,_,h2⟩:=h2;split at h2
   ·split at h2<;>simp at h2
   ·split at h2<;>simp at h2
   ·simp at h2
  ·simp only [A1] at h2;obtain ⟨_,_,_,_,h2⟩:=h2;split at h2<;>simp at h2
 case h_11=>rintro ⟨_,_,_,_,h⟩;split at h<;>first|(simp at h;done)|(simp only [A1] at h;obtain ⟨_,_,h⟩:=h;split at h<;>first|(simp only [Oj] at h;split at h<;>simp at h;done)|(cases h))
 case h_13=>rintro ⟨_,_,h⟩;split at h<;>first|(simp at h;done)|(split at h<;>simp at h)
 case h_15=>rintro ⟨_,_,_,_,_,_,h⟩;split at h<;>first|(simp at h;done)|(simp only [A1] at h;obtain ⟨_,_,h⟩:=h;simp at h)
 case h_16=>rintro ⟨_,_,_,_,_,_,_,_,h⟩;split at h<;>first|(simp only [A1] at h;obtain ⟨_,_,h⟩:=h;simp at h;done)|(simp at h)
 case h_17=>rintro ⟨_,_,h⟩;split at h<;>simp at h
 case h_21=>rintro ⟨_,_,_,_,h⟩;split at h<;>simp at h
 all_goals (intro h;simp at h)
theorem seq_ok {ops:Array Oper} {Q:Exit->Act->World->Prop} (hcall:∀f vs rs,call f vs=some rs->oq P f vs rs)
  (hl:∀f ds h k rs h' n',gU f ds h k=some (rs,h',n')->Ko P f ds h k rs h' n'):
  ∀(l:List Oper) (is:List jl),jD P zf nt ops l=some is->∀(s s':St) (m:M) (a:Act),m.h=s.heap->M4 m s.nx->Rel B S w0 nt m s.env a->mX call gU is s=some s'->
   (∀(a':Act) (m':M),m'.h=s'.heap->M4 m' s'.nx->aS B S m m'->Rel B S w0 nt m' s'.env a'->Q .normal a' m'.w)->wpList P ops Q l a m.w
 |[],is,hc,s,s',m,a,hh,hU,hr,hev,hK=>by simp only [jD,A0] at hc;subst hc;simp only [mX,A0] at hev;subst hev;exact wpList_nil (hK a m hh hU (aS.refl m) hr)
 |o::l,is,hc,s,s',m,a,hh,hU,hr,hev,hK=>by
  simp only [jD,A2,A1,A0] at hc;obtain ⟨i,hc1,is',hc2,rfl⟩:=hc;simp only [mX,A2,A1] at hev;obtain ⟨b,hw,hev⟩:=hev;have hwant:=Gj hr hc1 hw;obtain ⟨p1,p2,p3,_⟩:=jH hc1;unfold wpList;rw [hwant];cases b with
  |false=>
   simp only [Cd,C2] at hev |-;have hr2:Rel B S w0 nt m (l8 s.env i.dst AZ) (a.put o.dst undef):=by rw [p2];exact hr.put p3 ⟨[],rfl,trivial⟩
   exact seq_ok hcall hl l is' hc2 ⟨l8 s.env i.dst AZ,s.heap,s.nx⟩ s' m _ hh hU hr2 hev hK
  |true=>
   simp only [Ek] at hev |-;refine .inl ?_;have other:(∀f ow xs,i.ins≠.jB f ow xs)->(∀x xs,i.ins≠.kX x xs)->(do let (d,us) <-oK call (zT s.env) s.heap s.nx i.ins;mX call gU is' ⟨l8 s.env i.dst d,aK s.heap us,s.nx+1⟩)=some s'->o.wp P a m.w (wpList P ops Q l) Q:=by
    intro hns MU hev;simp only [A2,A1,C0] at hev;obtain ⟨d,us,h1,h2⟩:=hev;have inst:∀{K:Act->World->Prop},(∀(a':Act) (m':M),m'.h=aK m.h us->m'.U=(fun i=>m.U i\/i=s.nx)->aS B S m m'->Rel B S w0 nt m' (l8 s.env i.dst d) a'->K a' m'.w)->o.wp P a m.w K Q:=by
     intro K hK';unfold oK at h1;split at h1
     ·rename_i hm;have hcm:Gl P o.op=some i.ins:=by
       rcases Ce p1 with ⟨_,h3⟩|⟨h3,_⟩
       ·exact h3
       ·rw [hm] at h3;cases h3
      obtain ⟨n,v,w',h5,h6,h7⟩:=U5 hcm hr.hok hr.opd (slot:=s.nx) (fun hx=>Nat.lt_irrefl _ (hU _ hx)) (by rw [hh];exact h1)
      have fin:∀v w',Post B S m s.nx us d v w'->K (a.put o.dst v) w':=by
       rintro v w' ⟨β',q1,q2,q3,q4⟩;have:=(hr.Cg q2 q1 q4).put p3 q3
       rw [p2] at hK';exact hK' _ _ rfl rfl q2 this
      unfold Oper.wp;rw [h5];rcases h6 with rfl|⟨rfl,rfl⟩
      ·exact fin v w' h7
      ·exact fin undef w' h7
     ·exact ZR hc1 hns MU hr (slot:=s.nx) (fun hx=>Nat.lt_irrefl _ (hU _ hx)) hcall (by rw [hh];exact h1) hK'
    refine inst fun a' m' q1 q2 q3 q4=>?_
    refine seq_ok hcall hl l is' hc2 ⟨l8 s.env i.dst d,aK s.heap us,s.nx+1⟩ s' m' a' (by rw [q1,hh]) (fun j=>?_) q4 h2 fun a'' m'' r1 r2 r4 r5=>hK a'' m'' r1 r2 (q3.trans r4) r5
    rw [q2];rintro (hj|rfl)
    ·exact Nat.lt_succ_of_lt (hU _ hj)
    ·exact Kp _
   have bg:∀(ow:Nat) (f:Nat) (ds:List D) (us:List Value),(∀w,sQ P f->(execOp a.eval o).run P w=.ok (.enter f us.toArray) w)->aF (eX B S m) ds us->
     (do let (d,h,nx) <-zy gU ow f ds s.heap s.nx;mX call gU is' ⟨l8 s.env i.dst d,h,nx⟩)=some s'->o.wp P a m.w (wpList P ops Q l) Q:=by
    intro ow f ds us hrun hall hev;simp only [A2,A1,C0] at hev;obtain ⟨d,h',nx',h1,h2⟩:=hev;obtain ⟨al8,hs2⟩:=aad hl h1;unfold Oper.wp;rw [hrun _ al8];show Calls P f us.toArray m.w _
    refine (hs2 B S m us hh hU hr.hok hr.inv hall).mono fun e w' ⟨v,m',q0,q1,q2,q3,q4,q5,q6,q7⟩=>?_
    subst q0 q1;have hr2:Rel B S w0 nt m' (l8 s.env i.dst d) (a.put o.dst v):=by rw [p2];exact (hr.Cg q5 q4 q7).put p3 q6
    exact seq_ok hcall hl l is' hc2 ⟨l8 s.env i.dst d,h',nx'⟩ s' m' _ q2 q3 hr2 h2 fun a'' m'' r1 r2 r4 r5=>hK a'' m'' r1 r2 (q5.trans r4) r5
   cases hins:i.ins with
   |jB f ow xs=>
    rw [hins] at hev p1;obtain ⟨args,ts,hop,h7⟩:=JR (CL p1 rfl);refine bg ow f _ (args.map a.eval).toList (fun w hf=>?_) (by simpa using xh hr h7) hev
    rw [Jw hf hop,Array.toArray_toList]
   |kX x xs=>
    rw [hins] at hev p1;obtain ⟨t,args,ts,rfl,hop,h7⟩:=TS (CL p1 rfl);simp only at hev;cases hx:zT s.env (.t t) with
    |fD f caps=>
     rw [hx] at hev;have ht:=hr.env t;have hx':iM s.env t=.fD f caps:=hx;rw [hx'] at ht;obtain ⟨ht1,ht2⟩:=ht;refine bg 0 f _ ((args.map a.eval).toList++caps.map fun p=>Value.pointer (some ⟨m.β p.1,p.2,none⟩)) (fun w hf=>?_) ?_ hev
     ·rw [acD hf hop ht1];simp
     ·refine aF.append (by simpa using xh hr h7) ?_
      have:∀(l:List (Nat×Nat)),(∀p∈l,m.U p.1)->aF (eX B S m) (l.map fun p=>D.loc p.1 p.2) (l.map fun p=>Value.pointer (some ⟨m.β p.1,p.2,none⟩)):=by
       intro l;induction l with
       |nil=>intro _;trivial
       |cons p l ih=>intro hl;exact ⟨⟨hl p (by simp),rfl⟩,ih fun q hq=>hl q (by simp [hq])⟩
      exact this caps ht2
    |_=>rw [hx] at hev;cases hev
   |_=>exact other (fun f ow xs h=>by rw [hins] at h;cases h) (fun f xs h=>by rw [hins] at h;cases h) (by rw [hins] at hev |-;exact hev)
end
end Go.Ey
