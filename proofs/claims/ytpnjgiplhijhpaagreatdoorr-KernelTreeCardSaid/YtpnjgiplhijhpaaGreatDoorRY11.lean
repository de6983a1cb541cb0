/- A part. -/
import Derived.Test.YtpnjgiplhijhpaaGreatDoorRY07
import Derived.MapKept
import Derived.Carry
set_option linter.all false
namespace Go.Ey
open Go.RowKit
def lu (w:World) (Sf:Nat->Nat->Prop):List V->Value->Prop
 |[r],v=>bA w Sf r v
 |rs,v=>∃us:List Value,v=.tuple us.toArray/\aj (bA w Sf) rs us
def dY (P:Program) (f:Nat):Prop:=∃fn,P.funcs[f]?=some fn/\fn.body.isNone=false/\(fn.name== "runtime.NumGoroutine")=false
class bz where
 Inv:Nat->World->Prop
 keep:∀{B:Nat} {w w':World},Below B w w'->Inv B w->Inv B w'
 mono:∀{B B':Nat} {w:World},B<=B'->Inv B w->Inv B' w
variable [bz]
def bR (P:Program) (f:Nat) (vs rs:List V):Prop:=
 dY P f/\∀(S:Nat->Nat->Prop) (w:World) (us:List Value),bz.Inv w.heap.size w->aj (bA w S) vs us->
  Calls P f us.toArray w fun e w'=>∃v,e=.returned v/\lu w' (fun b o=>b < w.heap.size->S b o) rs v/\Below w.heap.size w w'
section
variable {B:Nat} {S:Nat->Nat->Prop} {P:Program} {o:Oper} {a:Act} {m:M} {slot:Nat} {d:D} {us:List (Nat×Obj)} {ji:Nat->Nat} {nt:Nat} {w0:World} {e:Env}
theorem uH {f:Nat} (hf:dY P f) {args:Array Operand} {ts:Array TypeId} (hop:o.op=.call { callee:=.value (.func f),args,argTypes:=ts}) (w:World):
  (execOp a.eval o).run P w=.ok (.enter f (args.map a.eval)) w:=by
 obtain ⟨fn,h1,h2,h3⟩:=hf;have h2':¬fn.body=none:=fun h=>by rw [h] at h2;cases h2
 have h3':¬fn.name= "runtime.NumGoroutine":=by simpa using h3
 simp [execOp,hop,resolve,Act.eval,Deferred.ofValue,invoke,callFunc,h1,h2',h3']
theorem CQ:∀{ds:List D} {us:List Value} {m:M},bF B S m->aj (aX B S m) ds us->∀{vs:List V} {xs:List (Nat×Obj)},bY m.h ds=some (vs,xs)->
  bF B S (m.heap (ah m.h xs))/\ak B S m (m.heap (ah m.h xs))/\aj (bA m.w (Safe B S (m.heap (ah m.h xs)))) vs us
 |[],[],m,hk,_,cs,xs,hf=>by simp only [bY,Option.some.injEq,Prod.mk.injEq] at hf;obtain ⟨rfl,rfl⟩:=hf;exact ⟨hk,ak.refl m,trivial⟩
 |d::ds,u::us,m,hk,hr,cs,xs,hf=>by
  simp only [bY,Option.bind_eq_bind,Option.bind_eq_some_iff,Prod.exists,Option.some.injEq,Prod.mk.injEq] at hf;obtain ⟨c,x,h1,cs',xs',h2,rfl,rfl⟩:=hf;have hr1:fO B S m d u:=by
   cases d with
   |dB ds=>simp [eP,gM] at h1
   |_=>exact hr.1
  obtain ⟨k1,k2,k3⟩:=qI hk hr1 h1;have hr2:aj (aX B S (m.heap (ah m.h x))) ds us:=hr.2.mono fun _ _ h=>k2.GI h
  obtain ⟨k4,k5,k6⟩:=CQ (m:=m.heap (ah m.h x)) k1 hr2 h2;rw [aU];exact ⟨k4,k2.trans k5,bA.mono k5.cell k3,k6⟩
 |[],_::_,_,_,hr,_,_,_=>hr.elim
 |_::_,[],_,_,hr,_,_,_=>hr.elim
theorem bA.fM {m:M} {v:V} {u:Value} (h:bA m.w (Safe B S m) v u):fO B S m v.fM u:=by
 cases v with
 |one c=>exact h
 |agg cs=>obtain ⟨us,h1,h2⟩:=h;exact ⟨us,h1,aj.gJ h2⟩
 |full cs n=>exact h
theorem lu.fM {m:M} {rs:List V} {u:Value} (h:lu m.w (Safe B S m) rs u):aX B S m (sU rs) u:=by
 match rs,h with
 |[r],h=>exact (bA.fM h).fM
 |[],h=>obtain ⟨us,rfl,h2⟩:=h;exact ⟨us,rfl,aj.gJ (h2.mono fun v u h=>bA.fM h)⟩
 |r::r'::rs,h=>obtain ⟨us,rfl,h2⟩:=h;exact ⟨us,rfl,aj.gJ (h2.mono fun v u h=>bA.fM h)⟩
theorem bA.weaken {w:World} {Sf J8:Nat->Nat->Prop} (h:∀b o,Sf b o->b < w.heap.size->J8 b o) {v:V} {u:Value} (hr:bA w Sf v u):bA w J8 v u:=
 bA.mono (fun b o _ h1 h2=>⟨h1,h b o h2 (Ea h1)⟩) hr
theorem lu.weaken {w:World} {Sf J8:Nat->Nat->Prop} (h:∀b o,Sf b o->b < w.heap.size->J8 b o) {rs:List V} {u:Value} (hr:lu w Sf rs u):lu w J8 rs u:=by
 unfold lu at hr |-;split at hr
 ·exact bA.weaken h hr
 ·obtain ⟨us,h1,h2⟩:=hr;exact ⟨us,h1,h2.mono fun _ _ h3=>bA.weaken h h3⟩
theorem IB {m:M} (hk:bF B S m) {w':World} {b q:Nat} (h:b < m.w.heap.size->Safe B S m b q):Safe B S (m.world w') b q:=by
 by_cases hb:b < m.w.heap.size
 ·exact h hb
 ·refine ⟨hk.fresh b q (by omega),fun id=>?_⟩
  ·show match af m.h id with|.dead=>True|.box _=>m.β id≠b|.map _=>m.β id≠b|.arr _ _ fz _=>m.β id=b->q < fz
   cases ho:af m.h id with
   |dead=>trivial
   |box ds=>have:=hk.lt (id:=id) (by rw [ho];simp);intro e;omega
   |map ds=>have:=hk.lt (id:=id) (by rw [ho];simp);intro e;omega
   |arr cs aa fz ety=>have:=hk.lt (id:=id) (by rw [ho];simp);intro e;omega
theorem Si (hk:bF B S m) (hinv:bz.Inv B m.w) {f:Nat} {args:Array Operand} {ts:Array TypeId} (hop:o.op=.call { callee:=.value (.func f),args,argTypes:=ts}) {ds:List D} (hd:aj (aX B S m) ds (args.map a.eval).toList) {vs rs:List V}
  (hf:bY m.h ds=some (vs,us)) (hfn:bR P f vs rs) {K:Act->World->Prop} {Q:Exit->Act->World->Prop} (hK:∀v w',Post B S m slot us (sU rs) v w'->K (a.put o.dst v) w'):o.wp P a m.w K Q:=by
 obtain ⟨k1,k2,k3⟩:=CQ hk hd hf;unfold Oper.wp;rw [uH hfn.1 hop];show Calls P f (args.map a.eval) m.w _
 have hc:=hfn.2 _ m.w _ (bz.mono hk.base hinv) k3;have he:(args.map a.eval).toList.toArray=args.map a.eval:=Array.toArray_toList;rw [he] at hc;refine hc.mono fun e w' ⟨v,hv,h1,h2⟩=>?_
 subst hv;refine hK v w' ⟨m.β,?_⟩;have hb:∀k,k < m.w.heap.size->w'.heap[k]?=m.w.heap[k]?:=h2.block;have ev2:=iy k1 (w':=w') hb;have hk2:=qW k1 (w':=w') hb h2.size;refine ⟨jd hk2 slot,(k2.trans ev2).trans (bE _ slot),?_,h2.mono hk.base⟩;refine (bE ((m.heap (ah m.h us)).world w') slot).GI (lu.fM ?_);exact lu.weaken (fun b q h _=>IB k1 h) h1
structure Rel (B:Nat) (S:Nat->Nat->Prop) (w0:World) (nt:Nat) (m:M) (e:Env) (a:Act):Prop where
 defers:a.defers=[]
 size:a.tmps.size=nt
 env:∀t,aX B S m (bS e t) (a.tmps.getD t undef)
 hok:bF B S m
 below:Below B w0 m.w
 inv:bz.Inv B m.w
theorem Rel.opd (hr:Rel B S w0 nt m e a):pI B S m (iI e) a:=by
 intro x X' hx;cases x with
 |tmp t=>simp [aC] at hx;subst hx;exact hr.env t
 |const v=>
  simp only [aC] at hx;split at hx
  ·rename_i hs;simp only [Option.some.injEq] at hx;subst hx;by_cases h:scalar v=true
   ·simp only [iI,h,if_true];exact aX.mkLit h
   ·have h2:jF v=true:=by
     rcases Bool.or_eq_true_iff.1 hs with h3|h3
     ·exact absurd h3 h
     ·exact h3
    have:=lZ h2
    subst this;simp only [iI,scalar,Bool.false_eq_true,if_false];exact .inl ⟨rfl,rfl,rfl⟩
  ·cases hx
 |global g=>simp [aC] at hx
 |func f=>
  simp only [aC,Option.some.injEq] at hx;subst hx;simp only [iI];exact ⟨rfl,by simp⟩
theorem kR (e:Env) (dst:Option Nat) (d:D) (t:Nat):bS (dO e dst d) t=if dst=some t then d else bS e t:=by
 cases dst with
 |none=>simp [dO]
 |some t'=>
  simp only [dO,bS,Option.some.injEq]
theorem Rel.put (hr:Rel B S w0 nt m e a) {dst:Option Nat} (hd:Gy nt dst=true) {d:D} {v:Value} (h:aX B S m d v):Rel B S w0 nt m (dO e dst d) (a.put dst v):=by
 cases dst with
 |none=>exact hr
 |some t'=>
  have hlt:t' < nt:=by simpa [Gy] using hd
  refine ⟨hr.defers,by simpa [Act.put] using hr.size,fun t=>?_,hr.hok,hr.below,hr.inv⟩
  rw [kR];by_cases ht:t'=t
  ·subst ht;have:(a.put (some t') v).tmps.getD t' undef=v:=by simp [Act.put,hr.size,hlt]
   simp only [if_true,this];exact h
  ·have:(a.put (some t') v).tmps.getD t undef=a.tmps.getD t undef:=by simp [Act.put,Array.getElem?_setIfInBounds_ne ht]
   rw [this,if_neg (by simpa using ht)]
   exact hr.env t
theorem Rel.mO (hr:Rel B S w0 nt m e a) {m':M} (hev:ak B S m m') (hk:bF B S m') (hb:Below B m.w m'.w):Rel B S w0 nt m' e a:=
 ⟨hr.defers,hr.size,fun t=>hev.GI (hr.env t),hk,hr.below.trans hb,bz.keep hb hr.inv⟩
theorem dJ {ops:Array Oper} {i:aW} (h:lU P ji nt ops o=some i):
  vD P ji o.op=some i.ins/\i.dst=o.dst/\Gy nt o.dst=true/\
  (o.guard=none/\i.guard=none\/∃j want g t,o.guard=some (j,want)/\ops[j]?=some g/\g.dst=some t/\i.guard=some (t,want)):=by
 unfold lU at h;simp only [Option.bind_eq_bind,Option.bind_eq_some_iff] at h;obtain ⟨ins,h1,h2⟩:=h;split at h2
 ·cases h2
 ·rename_i hd;have hd':Gy nt o.dst=true:=by simpa using hd
  split at h2
  ·rename_i hg;simp only [Option.some.injEq] at h2;subst h2;exact ⟨h1,rfl,hd',.inl ⟨hg,rfl⟩⟩
  ·rename_i j want hg;simp only [Option.bind_eq_some_iff,Option.some.injEq] at h2;obtain ⟨g,h3,t,h4,rfl⟩:=h2;exact ⟨h1,rfl,hd',.inr ⟨j,want,g,t,hg,h3,h4,rfl⟩⟩
theorem qP (hr:Rel B S w0 nt m e a) {ops:Array Oper} {i:aW} (h:lU P ji nt ops o=some i) {b:Bool} (hw:wanted e i.guard=some b):Region.wanted o (yielded ops a.tmps)=b:=by
 obtain ⟨_,_,_,h4⟩:=dJ h;rcases h4 with ⟨h5,h6⟩|⟨j,want,g,t,h5,h6,h7,h8⟩
 ·rw [h6] at hw;simp only [wanted,Option.some.injEq] at hw;subst hw;simp [Region.wanted,h5]
 ·rw [h8] at hw;simp only [wanted] at hw;have J4:=hr.env t;split at hw
  ·rename_i q hq;simp only [Option.some.injEq] at hw;rw [hq] at J4;have hv:=J4.lit;have ht:a.tmps[t]?=some (.bool q):=by
    cases ht:a.tmps[t]? with
    |none=>simp [ht,undef] at hv
    |some x=>simp [ht] at hv;rw [hv]
   simp [Region.wanted,h5,yielded,h6,h7,ht];rw [<-hw]
  ·rename_i hq;simp only [Option.some.injEq] at hw;subst hw;rw [hq] at J4;obtain ⟨us,hu,h9⟩:=J4;cases us with
   |cons _ _=>exact h9.elim
   |nil=>
    have:yielded ops a.tmps j=none:=by
     simp only [yielded,h6,h7,Option.bind_some];cases ht:a.tmps[t]? with
     |none=>rfl
     |some x=>simp [ht] at hu;subst hu;rfl
    simp [Region.wanted,h5,this]
  ·cases hw
theorem jA (hr:Rel B S w0 nt m e a):∀{os:List Operand} {xs:List X},dK os=some xs->aj (aX B S m) (xs.map (iI e)) (os.map a.eval)
 |[],xs,h=>by simp [dK] at h;subst h;trivial
 |x::os,xs,h=>by simp only [dK,Option.bind_eq_bind,Option.bind_eq_some_iff,Option.some.injEq] at h;obtain ⟨y,h1,ys,h2,rfl⟩:=h;exact ⟨hr.opd x y h1,jA hr h2⟩
theorem Gz {f:Nat} {xs:List X} (h:jg P ji o.op=some (.call f xs)):∃args ts,o.op=.call { callee:=.value (.func f),args,argTypes:=ts}/\dK args.toList=some xs:=by
 unfold jg at h;split at h<;>try (cases h;done)
 all_goals simp only [Option.bind_eq_bind,Option.bind_eq_some_iff,Option.some.injEq] at h
 case h_23 f' args ts hop=>
  obtain ⟨ys,h1,h2⟩:=h;split at h2<;>first|(cases h2;done)|(simp only [Ins.call.injEq] at h2;obtain ⟨rfl,rfl⟩:=h2;exact ⟨args,ts,hop,h1⟩)
 all_goals (exfalso;revert h)
 case h_25 b args ts hop=>
  rintro ⟨ys,h1,h2⟩;split at h2<;>try (cases h2;done)
  ·split at h2<;>simp at h2
  ·simp only [Option.bind_eq_some_iff] at h2;obtain ⟨_,_,_,_,_,_,h2⟩:=h2;split at h2
   ·split at h2<;>simp at h2
   ·split at h2<;>simp at h2
   ·simp at h2
  ·simp only [Option.bind_eq_some_iff] at h2;obtain ⟨_,_,_,_,h2⟩:=h2;split at h2<;>simp at h2
 case h_11=>rintro ⟨_,_,_,_,h⟩;split at h<;>first|(simp at h;done)|(simp only [Option.bind_eq_some_iff] at h;obtain ⟨_,_,h⟩:=h;split at h<;>first|(simp only [z8] at h;split at h<;>simp at h;done)|(cases h))
 case h_13=>rintro ⟨_,_,h⟩;split at h<;>first|(simp at h;done)|(split at h<;>simp at h)
 case h_15=>rintro ⟨_,_,_,_,_,_,h⟩;split at h<;>first|(simp at h;done)|(simp only [Option.bind_eq_some_iff] at h;obtain ⟨_,_,h⟩:=h;simp at h)
 case h_16=>rintro ⟨_,_,_,_,_,_,_,_,h⟩;split at h<;>first|(simp only [Option.bind_eq_some_iff] at h;obtain ⟨_,_,h⟩:=h;simp at h;done)|(simp at h)
 case h_17=>rintro ⟨_,_,h⟩;split at h<;>simp at h
 case h_21=>rintro ⟨_,_,_,_,h⟩;split at h<;>simp at h
 all_goals (intro h;simp at h)
theorem Ku {ops:Array Oper} {i:aW} (h:lU P ji nt ops o=some i) (hns:∀f ow xs,i.ins≠.cu f ow xs) (hnv:∀x xs,i.ins≠.dQ x xs) (hr:Rel B S w0 nt m e a) (hs:¬m.U slot) {call:Callee} (hcall:∀f vs rs,call f vs=some rs->bR P f vs rs)
  (hst:bD call (iI e) m.h slot i.ins=some (d,us)) {K:Act->World->Prop} {Q:Exit->Act->World->Prop}
  (hK:∀(a':Act) (m':M),m'.h=ah m.h us->m'.U=(fun i=>m.U i\/i=slot)->ak B S m m'->Rel B S w0 nt m' (dO e i.dst d) a'->K a' m'.w):o.wp P a m.w K Q:=by
 obtain ⟨h1,h2,h3,_⟩:=dJ h;have h1:jg P ji o.op=some i.ins:=by refine nR h1 ?_;cases hins:i.ins<;>first|rfl|(rw [hins] at hst;simp [bD,step] at hst)
 have fin:∀v w',Post B S m slot us d v w'->K (a.put o.dst v) w':=by
  rintro v w' ⟨β',p1,p2,p3,p4⟩;have:=(hr.mO p2 p1 p4).put h3 p3
  rw [h2] at hK;exact hK _ _ rfl rfl p2 this
 cases hins:i.ins with
 |cu f ow xs=>exact absurd hins (hns f ow xs)
 |eZ f xs=>rw [hins] at hst;simp [bD,step] at hst
 |dQ x xs=>exact absurd hins (hnv x xs)
 |call f xs=>
  rw [hins] at hst h1;simp only [bD,Option.bind_eq_bind,Option.bind_eq_some_iff,Prod.exists,Option.some.injEq,Prod.mk.injEq] at hst;obtain ⟨vs,us',h5,rs,h6,rfl,rfl⟩:=hst;obtain ⟨args,ts,hop,h7⟩:=Gz h1;have hall:=jA hr h7;exact Si hr.hok hr.inv hop (by simpa using hall) h5 (hcall _ _ _ h6) fin
 |_=>
  rw [hins] at hst h1;obtain ⟨n,v,w',h5,h6,h7⟩:=step_ok h1 rfl hr.hok hr.opd hs hst;unfold Oper.wp;rw [h5];rcases h6 with rfl|⟨rfl,rfl⟩
  ·exact fin v w' h7
  ·exact fin undef w' h7
end
end Go.Ey
namespace Go.Ey
open Go.RowKit
open Go.MapKept
variable [bz]
section
variable {B:Nat} {S:Nat->Nat->Prop} {P:Program} {o:Oper} {a:Act} {m:M} {slot:Nat} {ρ:X->D} {d:D} {us:List (Nat×Obj)}
theorem O4 (hk:bF B S m) (hs:¬m.U slot) {t:TypeId} (hop:o.op=.makeMap t none):Does B S P o a m slot (.mp slot) [(slot,.map [])]:=by
 have hrun:(execOp a.eval o).run P m.w=.ok (.value (.map (some m.w.heap.size))) (m.w.alloc (.map #[] 0)):=by simp [execOp,hop,run_makeMap]
 refine ⟨_,_,_,hrun,.inl rfl,?_⟩;refine uf (iB:=[]) hk hk (ak.refl m) hs (.inl rfl) (.map []) (fun ev=>⟨hk.base,#[],0,newest (.inl rfl),trivial⟩) (fun _=>⟨.inr rfl,?_⟩)
 simp [M.put,gB]
def Ik (k:Nat) (d:TypeDesc):Prop:=(k=0/\∃q,d=.int q)\/(k=1/\d=.string)\/(k=2/\d=.bool)\/(k=9/\∃fs,d=.struct fs)
theorem oz {t:TypeId} {k:Nat} (h:xX P t=some k):∃d,P.underlying t=some d/\Ik k d/\k≠9:=by
 unfold xX at h;split at h
 ·rename_i q hu;simp only [Option.some.injEq] at h;subst h;exact ⟨_,hu,.inl ⟨rfl,_,rfl⟩,by decide⟩
 ·rename_i hu;simp only [Option.some.injEq] at h;subst h;exact ⟨_,hu,.inr (.inl ⟨rfl,rfl⟩),by decide⟩
 ·rename_i hu;simp only [Option.some.injEq] at h;subst h;exact ⟨_,hu,.inr (.inr (.inl ⟨rfl,rfl⟩)),by decide⟩
 ·cases h
theorem uN {t:TypeId} {q:Nat×Nat} (h:l9 P t=some q):∃d,P.underlying t=some d/\Ik q.1 d/\(q.1=9->∃fs ks,P.underlying t=some (.struct fs)/\eB P 0 fs.toList=some ks/\ks.length=q.2):=by
 unfold l9 at h;split at h
 ·rename_i k hk;simp only [Option.some.injEq] at h;subst h;obtain ⟨d,h1,h2,h3⟩:=oz hk;exact ⟨d,h1,h2,fun e=>absurd e h3⟩
 ·split at h
  ·rename_i fs hu;simp only [Option.map_eq_some_iff] at h;obtain ⟨ks,h1,rfl⟩:=h;exact ⟨_,hu,.inr (.inr (.inr ⟨rfl,_,rfl⟩)),fun _=>⟨fs,ks,hu,h1,rfl⟩⟩
  ·cases h
theorem zR {k:Nat} {d:TypeDesc} (hd:Ik k d) {w:World} {Sf:Nat->Nat->Prop} {x y:V} {ux uy:Value} (hx:bA w Sf x ux) (hy:bA w Sf y uy) {r:Bool} (h:mapKey k x y=some r):Instr.sameNow d ux uy=some r:=by
 unfold mapKey at h;split at h
 ·obtain ⟨rfl,_⟩:=hx;obtain ⟨rfl,_⟩:=hy;rcases hd with ⟨_,q,rfl⟩|⟨h1,_⟩|⟨h1,_⟩|⟨h1,_⟩
  ·exact h
  all_goals cases h1
 ·obtain ⟨rfl,_⟩:=hx;obtain ⟨rfl,_⟩:=hy;rcases hd with ⟨h1,_⟩|⟨_,rfl⟩|⟨h1,_⟩|⟨h1,_⟩
  ·cases h1
  ·exact h
  all_goals cases h1
 ·obtain ⟨rfl,_⟩:=hx;obtain ⟨rfl,_⟩:=hy;rcases hd with ⟨h1,_⟩|⟨h1,_⟩|⟨_,rfl⟩|⟨h1,_⟩
  ·cases h1
  ·cases h1
  ·exact h
  ·cases h1
 ·cases h
theorem H6 {k:Nat} {w:World} {Sf:Nat->Nat->Prop} {x y:V} {ux uy:Value} (hx:bA w Sf x ux) (hy:bA w Sf y uy) (h:mapKey k x y=some true):Instr.sameBits 10000 uy ux=true:=by
 unfold mapKey at h;split at h
 ·obtain ⟨rfl,_⟩:=hx;obtain ⟨rfl,_⟩:=hy;split at h
  ·rename_i e;subst e;simp only [Option.some.injEq,beq_iff_eq] at h;subst h;simp [Instr.sameBits]
  ·cases h
 ·obtain ⟨rfl,_⟩:=hx;obtain ⟨rfl,_⟩:=hy;simp only [Option.some.injEq,bytes_beq] at h;simp [Instr.sameBits,bytes_beq,h]
 ·obtain ⟨rfl,_⟩:=hx;obtain ⟨rfl,_⟩:=hy;simp only [Option.some.injEq,beq_iff_eq] at h;subst h;simp [Instr.sameBits]
 ·cases h
abbrev Lj (w:World) (Sf:Nat->Nat->Prop) (es:List (V×V)) (l:List MapEntry):Prop:=aj (fun e x=>bA w Sf e.1 x.key/\bA w Sf e.2 x.val) es l
theorem CU {k:Nat} {d:TypeDesc} (hd:Ik k d) {w:World} {Sf:Nat->Nat->Prop} {kv:V} {uk:Value} (hx:bA w Sf kv uk):∀{es:List (V×V)} {l:List MapEntry} {i:Nat} {r:Option V},Lj w Sf es l->Hr k kv es=some r->
  (r=none/\Instr.findNow d uk l i=some none)\/∃v j x,r=some v/\Instr.findNow d uk l i=some (some (j,x))/\bA w Sf v x
 |[],[],i,r,_,h=>by simp only [Hr,Option.some.injEq] at h;exact .inl ⟨h.symm,rfl⟩
 |e::es,x::l,i,r,hr,h=>by
  simp only [Hr] at h;cases hm:mapKey k kv e.1 with
  |none=>rw [hm] at h;cases h
  |some b=>
   rw [hm] at h;have hs:=zR hd hx hr.1.1 hm;cases b with
   |true=>
    simp only [Option.some.injEq] at h;exact .inr ⟨e.2,i,x.val,h.symm,by simp [Instr.findNow,hs],hr.1.2⟩
   |false=>
    simp only at h;have:Instr.findNow d uk (x::l) i=Instr.findNow d uk l (i+1):=by simp [Instr.findNow,hs]
    rw [this];exact CU hd hx hr.2 h
 |[],_::_,_,_,hr,_=>hr.elim
 |_::_,[],_,_,hr,_=>hr.elim
theorem Gc {k:Nat} {d:TypeDesc} (hd:Ik k d) {w:World} {Sf:Nat->Nat->Prop} {kv vv:V} {uk uv:Value} (hx:bA w Sf kv uk) (hv:bA w Sf vv uv):∀{es:List (V×V)} {l:List MapEntry} {i:Nat} {es':List (V×V)},Lj w Sf es l->Pk k kv vv es=some es'->
  (Instr.findNow d uk l i=some none/\es'=es++[(kv,vv)])\/∃j x0 x,Instr.findNow d uk l i=some (some (i+j,x0))/\l[j]?=some x/\Instr.sameBits 10000 x.key uk=true/\Lj w Sf es' (l.modify j fun e=>{ e with key:=uk,val:=uv})
 |[],[],i,es',_,h=>by simp only [Pk,Option.some.injEq] at h;exact .inl ⟨rfl,by rw [<-h];rfl⟩
 |e::es,x::l,i,es',hr,h=>by
  simp only [Pk] at h;cases hm:mapKey k kv e.1 with
  |none=>rw [hm] at h;cases h
  |some b=>
   rw [hm] at h;have hs:=zR hd hx hr.1.1 hm;cases b with
   |true=>
    simp only [Option.some.injEq] at h;subst h;exact .inr ⟨0,x.val,x,by simp [Instr.findNow,hs],rfl,H6 hx hr.1.1 hm,⟨⟨hx,hv⟩,hr.2⟩⟩
   |false=>
    simp only [Option.map_eq_some_iff] at h;obtain ⟨r,h1,rfl⟩:=h;have:Instr.findNow d uk (x::l) i=Instr.findNow d uk l (i+1):=by simp [Instr.findNow,hs]
    rw [this];rcases Gc (i:=i+1) hd hx hv hr.2 h1 with ⟨h2,h3⟩|⟨j,x0,y,h2,h3,h4,h5⟩
    ·exact .inl ⟨h2,by rw [h3];rfl⟩
    ·exact .inr ⟨j+1,x0,y,by rw [h2];congr 3;omega,by simpa using h3,h4,by rw [List.modify_succ_cons];exact ⟨hr.1,h5⟩⟩
 |[],_::_,_,_,hr,_=>hr.elim
 |_::_,[],_,_,hr,_=>hr.elim
theorem Gn {t:TypeId} {k:Nat} (h:xX P t=some k):P.plainKey t=true:=by
 obtain ⟨d,h1,h2,h3⟩:=oz h;rcases h2 with ⟨_,q,rfl⟩|⟨_,rfl⟩|⟨_,rfl⟩|⟨e,_⟩
 ·simp [Program.plainKey,h1]
 ·simp [Program.plainKey,h1]
 ·simp [Program.plainKey,h1]
 ·exact absurd e h3
theorem rY {t:TypeId} {k:Nat} (h:xX P t=some k) (w:World) (em:Bool) (n:Nat) (v:Value) (hv:v.oneCell'=true):(Instr.checkKey em (n+1) t v).run P w=.ok () w:=by
 obtain ⟨d,h1,h2,h3⟩:=oz h;unfold Instr.checkKey;simp only [Sem.run_bind,run_underlying h1,Result.andThen];rcases h2 with ⟨_,q,rfl⟩|⟨_,rfl⟩|⟨_,rfl⟩|⟨e,_⟩
 ·rfl
 ·rfl
 ·rfl
 ·exact absurd e h3
theorem o8 (em:Bool) (n:Nat) (xs:Array Value) (hx1:∀v∈xs.toList,v.oneCell'=true) (w:World):∀(fs:List Field) (j:Nat) (ks:List Nat),eB P j fs=some ks->j+ks.length<=xs.size->
  (forIn fs PUnit.unit (fun (f:Field) (r:PUnit)=>(do
   if f.name≠ "_" then do
    Instr.checkKey em (n+1) f.type (<-part f.type xs f.offset)
    pure (ForInStep.yield PUnit.unit)
   else pure (ForInStep.yield PUnit.unit):Sem (ForInStep PUnit)))).run P w=.ok PUnit.unit w
 |[],j,ks,_,_=>by simp
 |f::fs,j,ks,hk,hj=>by
  simp only [eB,Option.bind_eq_bind,Option.bind_eq_some_iff] at hk;obtain ⟨k,h1,ks',h2,h3⟩:=hk;split at h3
  case isFalse=>cases h3
  rename_i hc;obtain ⟨hoff,hname⟩:=hc;simp only [Option.some.injEq] at h3;subst h3;simp only [List.length_cons] at hj;have hlt:j < xs.size:=by omega
  have hx:xs[f.offset]?=some xs[j]:=by rw [hoff];exact Array.getElem?_eq_getElem hlt
  have hp:=run_part_plain (w:=w) (Gn h1) hx;have hc:=rY h1 w em n xs[j] (hx1 _ (by simp))
  simp only [List.forIn_cons,Sem.run_bind,hname,ne_eq,not_false_eq_true,if_true,Result.andThen_ok,hp,hc,Sem.run_pure];exact o8 em n xs hx1 w fs (j+1) ks' h2 (by omega)
theorem M5 {ds:List D}:∀{cs:List C} {vs:List Value},Fa ds=some cs->aj (bu B S m) ds vs->aj (aJ m.w (Safe B S m)) cs vs:=by
 induction ds with
 |nil=>intro cs vs h hr;simp only [Fa,Option.some.injEq] at h;subst h;cases vs<;>first|trivial|exact hr.elim
 |cons d ds ih=>
  intro cs vs h hr;cases vs with
  |nil=>exact hr.elim
  |cons v vs=>
   cases d<;>simp only [Fa,Option.map_eq_some_iff,reduceCtorEq] at h
   obtain ⟨r,h1,rfl⟩:=h;exact ⟨hr.1,ih h1 hr.2⟩
theorem zH {kind n:Nat} {d:D} {u:Value} {kv:V} (h:JU kind n d=some kv) (hr:aX B S m d u):bA m.w (Safe B S m) kv u/\(kind=9->∃us:List Value,u=.agg us.toArray/\us.length=n/\∀v∈us,v.oneCell'=true):=by
 unfold JU at h;split at h
 ·split at h
  ·cases h
  ·rename_i hk;simp only [Option.some.injEq] at h;subst h;exact ⟨hr,fun e=>absurd e hk⟩
 ·split at h
  case isFalse=>cases h
  split at h
  case h_2=>cases h
  rename_i cs hcs;split at h
  case isFalse=>cases h
  rename_i hl;simp only [Option.some.injEq] at h;subst h;obtain ⟨us,rfl,h2⟩:=hr;have h3:=M5 hcs h2;exact ⟨⟨us,rfl,h3⟩,fun _=>⟨us,rfl,by rw [<-h3.len];exact hl,aj.mem_right (fun _ _ h2=>h2.oneCell) h3⟩⟩
 ·cases h
theorem rJ {t:TypeId} {q:Nat×Nat} (hq:l9 P t=some q) {d:D} {u:Value} {kv:V} (h:JU q.1 q.2 d=some kv) (hr:aX B S m d u) (w:World) (em:Bool):(Instr.checkKey em 10000 t u).run P w=.ok () w:=by
 obtain ⟨h1,h2⟩:=zH h hr;unfold l9 at hq;split at hq
 ·rename_i k hk;simp only [Option.some.injEq] at hq;subst hq;obtain ⟨_,_,_,h3⟩:=oz hk;have ho:u.oneCell'=true:=by
   unfold JU at h;split at h
   ·exact aJ.oneCell hr
   ·rw [if_neg h3] at h;cases h
   ·cases h
  exact rY hk w em 9999 u ho
 ·split at hq
  case h_2=>cases hq
  rename_i fs hu;simp only [Option.map_eq_some_iff] at hq;obtain ⟨ks,hks,rfl⟩:=hq;obtain ⟨us,rfl,hl,hone⟩:=h2 rfl;show (Instr.checkKey em (9998+1+1) t _).run P w=_
  rw [Instr.checkKey];simp only [Sem.run_bind,run_underlying hu,Result.andThen_ok];rw [<-Array.forIn_toList];have:=o8 (P:=P) em 9998 us.toArray (by simpa using hone) w fs.toList 0 ks hks (by simp only [List.size_toArray];simp only at hl;omega)
  simp only [ne_eq,ite_not] at this |-;rw [this];rfl
theorem Fq {w:World} {Sf:Nat->Nat->Prop} {v:Value} (h:(scalar v||jF v)=true):aJ w Sf (lG v) v:=by
 rcases Bool.or_eq_true_iff.1 h with h1|h1
 ·rw [Gw h1];exact ⟨rfl,h1⟩
 ·rw [lZ h1];exact .inl ⟨rfl,rfl,rfl⟩
theorem Nr {t:TypeId} {z:List Value} {agg:Bool} (hz:zeroOf P t=some z) (ha:ze P t=some agg):∃zv,(zeroValue t).run P m.w=.ok zv m.w/\fO B S m (KQ agg z) zv:=by
 obtain ⟨i,zv,h1,h2,h3,h4,h5⟩:=iK hz;refine ⟨zv,by simp [zeroValue,typeInfo,h1,h2],?_⟩
 simp only [ze,h1,h2,Option.bind_eq_bind,Option.bind_some,Option.some.injEq] at ha;have many:∀l:List Value,(∀v∈l,(scalar v||jF v)=true)->aj (bu B S m) (l.map fun v=>D.c (lG v)) l:=by
  intro l;induction l with
  |nil=>intro _;trivial
  |cons v l ih=>intro hl;exact ⟨Fq (hl v (by simp)),ih fun x hx=>hl x (by simp [hx])⟩
 unfold KQ;cases zv with
 |agg cs=>
  subst ha;simp only [Je,if_true];have e:cs.toList=z:=h3;exact ⟨z,by rw [<-e],many z h4⟩
 |_=>
  subst ha;simp only [Je,Bool.false_eq_true,if_false];have e:=h3;simp only [Value.cells] at e;subst e;exact Fq (h4 _ (by simp))
theorem MG (hk:bF B S m) (ho:pI B S m ρ a) {t k e:TypeId} {x i:Operand} {ok:Bool} {q:Nat×Nat} {z:List Value} {agg:Bool} {X' I':X} (hop:o.op=.lookup t x i ok) (ht:P.underlying t=some (.map k e)) (hq:l9 P k=some q) (hz:zeroOf P e=some z)
  (ha:ze P e=some agg) (hx:aC x=some X') (hi:aC i=some I') (hs:l8 ρ m.h slot (.tK q.1 q.2 agg z ok X' I')=some (d,us)):Does B S P o a m slot d us:=by
 have e1:=ho x X' hx;have e2:=ho i I' hi;simp only [l8] at hs;split at hs
 case h_2=>cases hs
 rename_i id he;split at hs
 case h_2=>cases hs
 rename_i es jh;simp only [Option.bind_eq_some_iff,Option.some.injEq,Prod.mk.injEq] at hs;obtain ⟨kv,h1,r,h2,h3,rfl⟩:=hs;rw [he] at e1;obtain ⟨_,e3⟩:=e1;have hr:=hk.obj id;unfold tT at hr;rw [jh] at hr;obtain ⟨_,sM,ck,hw,hes⟩:=hr;obtain ⟨hkr,_⟩:=zH h1 e2;obtain ⟨dd,hu,hd,_⟩:=uN hq;have hck:=rJ hq h1 e2 m.w sM.isEmpty;obtain ⟨zv,hzv,hzr⟩:=Nr (m:=m) (B:=B) (S:=S) hz ha;have fin:∀(v:Value) (d1:D),(∃r0,Instr.findNow dd (a.eval i) sM.toList 0=some r0/\(match r0 with|some (_,x)=>x=v|none=>zv=v)/\r.isSome=r0.isSome)->fO B S m d1 v->(if ok then D.dB [d1,.c (.lit (.bool r.isSome))] else d1)=d->Does B S P o a m slot d []:=by
  rintro v d1 ⟨r0,g1,g2,g3⟩ g4 g5;have hf:=run_findKey (w:=m.w) hu g1;have hl:(Instr.lookup t (.map (some (m.β id))) (a.eval i) ok).run P m.w=.ok (if ok then .tuple #[v,.bool r.isSome] else v) m.w:=by
   unfold Instr.lookup;simp only [Sem.run_bind,run_underlying ht,Result.andThen_ok,Go.MapKept.run_getObj_map hw,Sem.run_pure,hck,hf];cases r0 with
   |none=>
    simp only at g2 g3;subst g2;have g3':r.isSome=false:=g3;cases ok<;>simp [hzv,g3']
   |some p=>
    obtain ⟨j,x0⟩:=p;simp only at g2 g3;subst g2;have g3':r.isSome=true:=g3;cases ok<;>simp [g3']
  have hrun:(execOp a.eval o).run P m.w=.ok (.value (if ok then .tuple #[v,.bool r.isSome] else v)) m.w:=by simp [execOp,hop,e3,hl]
  refine aG hk slot hrun ?_;rw [<-g5];cases ok with
  |true=>exact ⟨[v,.bool r.isSome],rfl,g4,(show aJ m.w (Safe B S m) (.lit (.bool r.isSome)) (.bool r.isSome) from ⟨rfl,rfl⟩),trivial⟩
  |false=>exact g4.fM
 rcases CU (i:=0) hd hkr hes h2 with ⟨rfl,h4⟩|⟨v,j,x0,rfl,h4,h5⟩
 ·exact fin zv (KQ agg z) ⟨none,h4,rfl,rfl⟩ hzr h3
 ·exact fin x0 v.fM ⟨_,h4,rfl,rfl⟩ (bA.fM h5) h3
theorem BM (hk:bF B S m) (ho:pI B S m ρ a) {t k e:TypeId} {x i v:Operand} {q:Nat×Nat} {X' I' V':X} (hop:o.op=.mapUpdate t x i v\/o.op=.insert t x i v) (ht:P.underlying t=some (.map k e)) (hq:l9 P k=some q)
  (hx:aC x=some X') (hi:aC i=some I') (hv:aC v=some V') (hs:l8 ρ m.h slot (.tY q.1 q.2 X' I' V')=some (d,us)):Does B S P o a m slot d us:=by
 have e1:=ho x X' hx;have e2:=ho i I' hi;have e3:=ho v V' hv;simp only [l8] at hs;split at hs
 case h_2=>cases hs
 rename_i id he;simp only [Option.bind_eq_some_iff,Prod.exists] at hs;obtain ⟨kv,h1,vv,iB,h2,hs⟩:=hs;split at hs
 case h_2=>cases hs
 rename_i es jh;simp only [Option.bind_eq_some_iff,Option.some.injEq,Prod.mk.injEq] at hs;obtain ⟨es',h3,rfl,rfl⟩:=hs;have e3':fO B S m (ρ V') (a.eval v):=by
  cases hd:ρ V' with
  |dB ds=>rw [hd] at h2;simp [eP,gM] at h2
  |_=>rw [hd] at e3;exact e3
 obtain ⟨k1,k2,k3⟩:=qI hk e3' h2;rw [he] at e1;obtain ⟨hU,e4⟩:=e1;have hr:=k1.obj id;unfold tT at hr;rw [show af (m.heap (ah m.h iB)).h id=.map es from jh] at hr
 obtain ⟨hB,sM,ck,hw,hes⟩:=hr;obtain ⟨hkr,_⟩:=zH h1 (k2.GI e2);obtain ⟨dd,hu,hd,_⟩:=uN hq;have hck:=rJ hq h1 e2 m.w false;have hw':m.w.heap[m.β id]?=some (.map sM ck):=hw;have fin:∀(uE:Array MapEntry) (RZ:Nat),(Instr.mapUpdate t (.map (some (m.β id))) (a.eval i) (a.eval v)).run P m.w=.ok () { m.w with heap:=m.w.heap.setIfInBounds (m.β id) (.map uE RZ)}->
   Lj m.w (Safe B S (m.heap (ah m.h iB))) es' uE.toList->Does B S P o a m slot .fK (iB++[(id,.map es')]):=by
  intro uE RZ hrun hes';obtain ⟨s1,s2⟩:=heap_set (o':=.map uE RZ) hw';have hlive:af (m.heap (ah m.h iB)).h id≠.dead:=by rw [show af (m.heap (ah m.h iB)).h id=.map es from jh];simp
  have hev:ak B S (m.heap (ah m.h iB)) ((m.heap (ah m.h iB)).upd { m.w with heap:=m.w.heap.setIfInBounds (m.β id) (.map uE RZ)} id (.map es')):=by
   refine gF k1 jh (o':=.map es') trivial s2 (fun q u hq _=>hq.elim) ?_
   have e1:(m.w.heap.setIfInBounds (m.β id) (Go.Obj.map uE RZ))[(m.heap (ah m.h iB)).β id]?=some (Go.Obj.map uE RZ):=s1;have e2:(m.heap (ah m.h iB)).w.heap[(m.heap (ah m.h iB)).β id]?=some (Go.Obj.map sM ck):=hw';simp only [World.shape?,e1,e2]
  have hok:=oo k1 (id:=id) hlive hev s2 (by show m.w.heap.size<=(m.w.heap.setIfInBounds _ _).size;simp) ⟨hB,uE,RZ,s1,hes'.mono fun _ _ h=>⟨bA.mono hev.cell h.1,bA.mono hev.cell h.2⟩⟩
  have Y3:(execOp a.eval o).run P m.w=.ok .skip { m.w with heap:=m.w.heap.setIfInBounds (m.β id) (.map uE RZ)}:=by rcases hop with hop|hop<;>simp [execOp,hop,e4,hrun]
  refine ⟨_,undef,_,Y3,.inr ⟨rfl,rfl⟩,m.β,?_,?_,trivial,?_⟩
  ·rw [aU];exact jd hok slot
  ·rw [aU];exact (k2.trans hev).trans (bE _ slot)
  ·exact ⟨rfl,rfl,rfl,by show m.w.heap.size<=(m.w.heap.setIfInBounds _ _).size;simp,fun j hj=>s2 j (by have:B<=m.β id:=hB;omega)⟩
 rcases Gc (i:=0) hd hkr k3 hes h3 with ⟨h4,rfl⟩|⟨j,x0,y,h4,h5,h6,h7⟩
 ·refine fin (sM.push { key:=a.eval i,val:=a.eval v,born:=ck}) (ck+1) ?_ ?_
  ·have hf:=run_findKey (w:=m.w) hu h4;unfold Instr.mapUpdate;simp only [Sem.run_bind,run_underlying ht,Result.andThen_ok,Go.MapKept.run_getObj_map hw',hck,hf,Go.MapKept.run_setObj_map _ hw']
  ·rw [Array.toList_push];exact aj.append hes ⟨⟨hkr,k3⟩,trivial⟩
 ·refine fin (sM.modify j fun e=>{ e with key:=a.eval i,val:=a.eval v}) ck ?_ ?_
  ·have hf:=run_findKey (w:=m.w) hu h4;unfold Instr.mapUpdate;have hj:sM[j]?=some y:=by rw [<-Array.getElem?_toList];exact h5
   have hks:(Instr.keyThatStays (((sM[j]?).map (·.key)).getD (a.eval i)) (a.eval i)).run P m.w=.ok (a.eval i) m.w:=by rw [hj];simp [Instr.keyThatStays,h6]
   simp only [Sem.run_bind,run_underlying ht,Result.andThen_ok,Go.MapKept.run_getObj_map hw',hck,hf,hks,Go.MapKept.run_setObj_map _ hw',Nat.zero_add]
  ·rw [Array.toList_modify];exact h7
theorem Gp {ins:Ins} (hc:mJ P o.op=some ins) (hk:bF B S m) (ho:pI B S m ρ a) (hs0:¬m.U slot) (hs:l8 ρ m.h slot ins=some (d,us)):Does B S P o a m slot d us:=by
 unfold mJ at hc;split at hc
 ·rename_i t hop;simp only [Option.some.injEq] at hc;subst hc;simp only [l8,Option.some.injEq,Prod.mk.injEq] at hs;obtain ⟨rfl,rfl⟩:=hs;exact O4 hk hs0 hop
 ·rename_i t x i ok hop;split at hc
  case h_2=>cases hc
  rename_i k e ht;simp only [Option.bind_eq_bind,Option.bind_eq_some_iff,Option.some.injEq] at hc;obtain ⟨q,hq,z,hz,agg,ha,X',hx,I',hi,rfl⟩:=hc;exact MG hk ho hop ht hq hz ha hx hi hs
 ·rename_i t x i v hop;split at hc
  case h_2=>cases hc
  rename_i k e ht;simp only [Option.bind_eq_bind,Option.bind_eq_some_iff,Option.some.injEq] at hc;obtain ⟨q,hq,X',hx,I',hi,V',hv,rfl⟩:=hc;exact BM hk ho (.inl hop) ht hq hx hi hv hs
 ·rename_i t x i v hop;split at hc
  case h_2=>cases hc
  rename_i k e ht;simp only [Option.bind_eq_bind,Option.bind_eq_some_iff,Option.some.injEq] at hc;obtain ⟨q,hq,X',hx,I',hi,V',hv,rfl⟩:=hc;exact BM hk ho (.inr hop) ht hq hx hi hv hs
 ·cases hc
end
end Go.Ey
namespace Go.Ey
open Go.RowKit
def um (m:M) (nx:Nat):Prop:=∀i,m.U i->i < nx
theorem aj.map_mono {α β γ:Type} {R:α->β->Prop} {R':γ->β->Prop} {f:α->γ} (h:∀a b,R a b->R' (f a) b):∀{ax:List α} {bs:List β},aj R ax bs->aj R' (ax.map f) bs
 |[],[],_=>trivial
 |_::_,_::_,h1=>⟨h _ _ h1.1,aj.map_mono h h1.2⟩
 |[],_::_,h1=>h1.elim
 |_::_,[],h1=>h1.elim
variable [bz]
def xE (P:Program) (f:Nat) (ds:List D) (h:Heap) (k:Nat) (rs:List D) (h':Heap) (n':Nat):Prop:=
 dY P f/\∀(B:Nat) (S:Nat->Nat->Prop) (m:M) (us:List Value),m.h=h->um m k->bF B S m->bz.Inv B m.w->aj (aX B S m) ds us->
  Calls P f us.toArray m.w fun e w'=>∃(v:Value) (m':M),e=.returned v/\m'.w=w'/\m'.h=h'/\um m' n'/\bF B S m'/\ak B S m m'/\aX B S m' (ko rs) v/\Below B m.w m'.w/\∀d,d∈rs->∀q,d≠.dB q
section
variable {B:Nat} {S:Nat->Nat->Prop} {P:Program} {o:Oper} {a:Act} {m:M} {ji:Nat->Nat} {nt:Nat} {w0:World} {call:Callee} {aF:bn}
theorem KR {m:M} (hk:bF B S m) {d:D} {u:Value} (hr:bu B S m d u) {x:D} {us:List (Nat×Obj)} (hf:tL m.h d=some (x,us)):
  bF B S (m.heap (ah m.h us))/\ak B S m (m.heap (ah m.h us))/\bu B S (m.heap (ah m.h us)) x u:=by
 cases d with
 |arr id off len=>
  simp only [tL,Option.bind_eq_bind,Option.bind_eq_some_iff,Prod.exists,Option.some.injEq,Prod.mk.injEq] at hf;obtain ⟨c,xs,h1,rfl,rfl⟩:=hf;exact Er hk hr h1
 |_=>
  simp only [tL,Option.some.injEq,Prod.mk.injEq] at hf;obtain ⟨rfl,rfl⟩:=hf;exact ⟨hk,ak.refl m,hr⟩
theorem Ff:∀{ds:List D} {us:List Value} {m:M},bF B S m->aj (bu B S m) ds us->∀{cs:List D} {xs:List (Nat×Obj)},su m.h ds=some (cs,xs)->
  bF B S (m.heap (ah m.h xs))/\ak B S m (m.heap (ah m.h xs))/\aj (bu B S (m.heap (ah m.h xs))) cs us
 |[],[],m,hk,_,cs,xs,hf=>by simp only [su,Option.some.injEq,Prod.mk.injEq] at hf;obtain ⟨rfl,rfl⟩:=hf;exact ⟨hk,ak.refl m,trivial⟩
 |d::ds,u::us,m,hk,hr,cs,xs,hf=>by
  simp only [su,Option.bind_eq_bind,Option.bind_eq_some_iff,Prod.exists,Option.some.injEq,Prod.mk.injEq] at hf;obtain ⟨c,x,h1,cs',xs',h2,rfl,rfl⟩:=hf;obtain ⟨k1,k2,k3⟩:=KR hk hr.1 h1;have hr2:aj (bu B S (m.heap (ah m.h x))) ds us:=hr.2.mono fun _ _ h=>k2.jK h
  obtain ⟨k4,k5,k6⟩:=Ff (m:=m.heap (ah m.h x)) k1 hr2 h2;rw [aU];exact ⟨k4,k2.trans k5,k5.jK k3,k6⟩
 |[],_::_,_,_,hr,_,_,_=>hr.elim
 |_::_,[],_,_,hr,_,_,_=>hr.elim
theorem Mc {m:M} (hk:bF B S m) {d:D} {u:Value} (hr:fO B S m d u) {x:D} {xs:List (Nat×Obj)} (hf:zX m.h d=some (x,xs)):
  bF B S (m.heap (ah m.h xs))/\ak B S m (m.heap (ah m.h xs))/\fO B S (m.heap (ah m.h xs)) x u/\∀q,x≠.dB q:=by
 have one:∀d,bu B S m d u->tL m.h d=some (x,xs)->
   bF B S (m.heap (ah m.h xs))/\ak B S m (m.heap (ah m.h xs))/\fO B S (m.heap (ah m.h xs)) x u/\∀q,x≠.dB q:=by
  intro d hr hf;obtain ⟨k1,k2,k3⟩:=KR hk hr hf;refine ⟨k1,k2,?_,?_⟩
  ·cases x<;>first|exact k3|exact k3.elim
  ·intro q hq;subst hq;exact k3.elim
 cases d with
 |agg ds=>
  simp only [zX,Option.bind_eq_bind,Option.bind_eq_some_iff,Prod.exists,Option.some.injEq,Prod.mk.injEq] at hf;obtain ⟨cs,x,h1,rfl,rfl⟩:=hf;obtain ⟨us,rfl,h2⟩:=hr;obtain ⟨k1,k2,k3⟩:=Ff hk h2 h1;exact ⟨k1,k2,⟨us,rfl,k3⟩,fun q hq=>by cases hq⟩
 |fK=>exact one .fK hr hf
 |c x=>exact one (.c x) hr hf
 |loc id off=>exact one (.loc id off) hr hf
 |arr id off len=>exact one (.arr id off len) hr hf
 |ptr cs=>exact one (.ptr cs) hr hf
 |full cs n=>exact one (.full cs n) hr hf
 |bJ f caps=>exact one (.bJ f caps) hr hf
 |mp id=>exact one (.mp id) hr hf
 |dB ds=>exact one (.dB ds) hr hf
theorem Gs:∀{ds:List D} {us:List Value} {m:M},bF B S m->aj (fO B S m) ds us->∀{vs:List D} {xs:List (Nat×Obj)},iU m.h ds=some (vs,xs)->
  bF B S (m.heap (ah m.h xs))/\ak B S m (m.heap (ah m.h xs))/\aj (fO B S (m.heap (ah m.h xs))) vs us/\(∀d,d∈vs->∀q,d≠.dB q)/\vs.length=ds.length
 |[],[],m,hk,_,cs,xs,hf=>by simp only [iU,Option.some.injEq,Prod.mk.injEq] at hf;obtain ⟨rfl,rfl⟩:=hf;exact ⟨hk,ak.refl m,trivial,by simp,rfl⟩
 |d::ds,u::us,m,hk,hr,cs,xs,hf=>by
  simp only [iU,Option.bind_eq_bind,Option.bind_eq_some_iff,Prod.exists,Option.some.injEq,Prod.mk.injEq] at hf;obtain ⟨c,x,h1,cs',xs',h2,rfl,rfl⟩:=hf;obtain ⟨k1,k2,k3,k3'⟩:=Mc hk hr.1 h1;have hr2:aj (fO B S (m.heap (ah m.h x))) ds us:=hr.2.mono fun _ _ h=>k2.wz h
  obtain ⟨k4,k5,k6,k7,k8⟩:=Gs (m:=m.heap (ah m.h x)) k1 hr2 h2;rw [aU];refine ⟨k4,k2.trans k5,⟨k5.wz k3,k6⟩,fun d hd=>?_,by simp [k8]⟩
  simp only [List.mem_cons] at hd;rcases hd with rfl|hd
  ·exact k3'
  ·exact k7 d hd
 |[],_::_,_,_,hr,_,_,_=>hr.elim
 |_::_,[],_,_,hr,_,_,_=>hr.elim
theorem Cn:∀{ds:List D} {us:List Value} {m:M},bF B S m->aj (aX B S m) ds us->∀{vs:List D} {xs:List (Nat×Obj)},iU m.h ds=some (vs,xs)->
  bF B S (m.heap (ah m.h xs))/\ak B S m (m.heap (ah m.h xs))/\aj (aX B S (m.heap (ah m.h xs))) vs us
 |[],[],m,hk,_,cs,xs,hf=>by simp only [iU,Option.some.injEq,Prod.mk.injEq] at hf;obtain ⟨rfl,rfl⟩:=hf;exact ⟨hk,ak.refl m,trivial⟩
 |d::ds,u::us,m,hk,hr,cs,xs,hf=>by
  simp only [iU,Option.bind_eq_bind,Option.bind_eq_some_iff,Prod.exists,Option.some.injEq,Prod.mk.injEq] at hf;obtain ⟨c,x,h1,cs',xs',h2,rfl,rfl⟩:=hf;have key:bF B S (m.heap (ah m.h x))/\ak B S m (m.heap (ah m.h x))/\aX B S (m.heap (ah m.h x)) c u:=by
   have other:fO B S m d u->_:=fun hA=>Mc hk hA h1
   cases d with
   |dB q=>
    simp only [zX,tL,Option.some.injEq,Prod.mk.injEq] at h1;obtain ⟨rfl,rfl⟩:=h1;exact ⟨hk,ak.refl m,hr.1⟩
   |_=>obtain ⟨k1,k2,k3,_⟩:=other hr.1;exact ⟨k1,k2,k3.fM⟩
  obtain ⟨k1,k2,k3⟩:=key;have hr2:aj (aX B S (m.heap (ah m.h x))) ds us:=hr.2.mono fun _ _ h=>k2.GI h
  obtain ⟨k4,k5,k6⟩:=Cn (m:=m.heap (ah m.h x)) k1 hr2 h2;rw [aU];exact ⟨k4,k2.trans k5,k5.GI k3,k6⟩
 |[],_::_,_,_,hr,_,_,_=>hr.elim
 |_::_,[],_,_,hr,_,_,_=>hr.elim
theorem Pq {B:Nat} {S:Nat->Nat->Prop} {m:M} {rs:List D} {v:Value} (h:aX B S m (ko rs) v) (hn:∀d,d∈rs->∀q,d≠.dB q):
  ∃us:List Value,aj (fO B S m) rs us/\∀(m':M) (rs':List D),rs'.length=rs.length->aj (fO B S m') rs' us->aX B S m' (ko rs') v:=by
 match rs,h,hn with
 |[],h,_=>
  obtain ⟨us,rfl,h2⟩:=h;refine ⟨us,h2,fun m' rs' hl h3=>?_⟩
  match rs',hl with
  |[],_=>exact ⟨us,rfl,h3⟩
 |[d],h,hn=>
  have hA:fO B S m d v:=by
   cases d with
   |dB q=>exact absurd rfl (hn (.dB q) (by simp) q)
   |_=>exact h
  refine ⟨[v],⟨hA,trivial⟩,fun m' rs' hl h3=>?_⟩
  match rs',hl with
  |[d'],_=>exact h3.1.fM
 |d::d'::ds,h,_=>
  obtain ⟨us,rfl,h2⟩:=h;refine ⟨us,h2,fun m' rs' hl h3=>?_⟩
  match rs',hl with
  |_::_::_,_=>exact ⟨us,rfl,h3⟩
theorem Mh (hl:∀f ds h k rs h' n',aF f ds h k=some (rs,h',n')->xE P f ds h k rs h' n') {own:Nat} {f:Nat} {ds:List D} {h:Heap} {nx:Nat} {d:D} {h2:Heap} {nx2:Nat} (hev:iA aF own f ds h nx=some (d,h2,nx2)):
  dY P f/\∀(B:Nat) (S:Nat->Nat->Prop) (m:M) (us:List Value),m.h=h->um m nx->bF B S m->bz.Inv B m.w->aj (aX B S m) ds us->
   Calls P f us.toArray m.w fun e w'=>∃(v:Value) (m':M),e=.returned v/\m'.w=w'/\m'.h=h2/\um m' nx2/\bF B S m'/\ak B S m m'/\aX B S m' d v/\Below B m.w m'.w:=by
 simp only [iA,Option.bind_eq_bind,Option.bind_eq_some_iff,Prod.exists] at hev;obtain ⟨ds1,pE,h1,rs,h',n',h3,hev⟩:=hev;obtain ⟨hc,hL⟩:=hl _ _ _ _ _ _ _ h3;refine ⟨hc,fun B S m us hh hU hk hinv hall=>?_⟩
 subst hh;obtain ⟨k1,k2,k3⟩:bF B S (m.heap (ah m.h pE))/\ak B S m (m.heap (ah m.h pE))/\aj (aX B S (m.heap (ah m.h pE))) ds1 us:=by
  unfold Af at h1;split at h1
  ·simp only [Option.some.injEq,Prod.mk.injEq] at h1;obtain ⟨rfl,rfl⟩:=h1;exact ⟨hk,ak.refl m,hall⟩
  ·exact Cn hk hall h1
 refine (hL B S (m.heap (ah m.h pE)) us rfl hU k1 hinv k3).mono fun e w' ⟨v,m',q1,q2,q3,q4,q5,q6,q7,q8,q9⟩=>?_
 subst q1 q2;by_cases hown:own≠0
 ·rw [if_pos hown] at hev;simp only [Option.some.injEq,Prod.mk.injEq] at hev;obtain ⟨rfl,rfl,rfl⟩:=hev;exact ⟨v,m',rfl,rfl,q3,q4,q5,k2.trans q6,q7,q8⟩
 ·rw [if_neg hown] at hev;simp only [Option.bind_eq_some_iff,Prod.exists,Option.some.injEq,Prod.mk.injEq] at hev;obtain ⟨rs1,yZ,h5,rfl,rfl,rfl⟩:=hev;subst q3;obtain ⟨vs,g1,g2⟩:=Pq q7 q9;obtain ⟨e1,e2,e3,e4,e5⟩:=Gs q5 g1 h5;exact ⟨v,m'.heap (ah m'.h yZ),rfl,rfl,rfl,q4,e1,(k2.trans q6).trans e2,g2 _ _ e5 e3,q8⟩
theorem Nn {f t:Nat} (hf:dY P f) {args:Array Operand} {ts:Array TypeId} {caps:Array Value} (hop:o.op=.call { callee:=.value (.tmp t),args,argTypes:=ts}) (ht:a.eval (.tmp t)=.func (.func f) #[] caps) (w:World):
  (execOp a.eval o).run P w=.ok (.enter f (args.map a.eval++caps)) w:=by
 obtain ⟨fn,h1,h2,h3⟩:=hf;have h2':¬fn.body=none:=fun h=>by rw [h] at h2;cases h2
 have h3':¬fn.name= "runtime.NumGoroutine":=by simpa using h3
 simp [execOp,hop,resolve,ht,Deferred.ofValue,invoke,callFunc,h1,h2',h3']
theorem ve {f:Nat} {ow:Nat} {xs:List X} (h:jg P ji o.op=some (.cu f ow xs)):∃args ts,o.op=.call { callee:=.value (.func f),args,argTypes:=ts}/\dK args.toList=some xs:=by
 unfold jg at h;split at h<;>try (cases h;done)
 all_goals simp only [Option.bind_eq_bind,Option.bind_eq_some_iff,Option.some.injEq] at h
 case h_23 f' args ts hop=>
  obtain ⟨ys,h1,h2⟩:=h;split at h2<;>first|(cases h2;done)|(simp only [Ins.cu.injEq] at h2;obtain ⟨rfl,rfl,rfl⟩:=h2;exact ⟨args,ts,hop,h1⟩)
 all_goals (exfalso;revert h)
 case h_25 b args ts hop=>
  rintro ⟨ys,h1,h2⟩;split at h2<;>try (cases h2;done)
  ·split at h2<;>simp at h2
  ·simp only [Option.bind_eq_some_iff] at h2;obtain ⟨_,_,_,_,_,_,h2⟩:=h2;split at h2
   ·split at h2<;>simp at h2
   ·split at h2<;>simp at h2
   ·simp at h2
  ·simp only [Option.bind_eq_some_iff] at h2;obtain ⟨_,_,_,_,h2⟩:=h2;split at h2<;>simp at h2
 case h_11=>rintro ⟨_,_,_,_,h⟩;split at h<;>first|(simp at h;done)|(simp only [Option.bind_eq_some_iff] at h;obtain ⟨_,_,h⟩:=h;split at h<;>first|(simp only [z8] at h;split at h<;>simp at h;done)|(cases h))
 case h_13=>rintro ⟨_,_,h⟩;split at h<;>first|(simp at h;done)|(split at h<;>simp at h)
 case h_15=>rintro ⟨_,_,_,_,_,_,h⟩;split at h<;>first|(simp at h;done)|(simp only [Option.bind_eq_some_iff] at h;obtain ⟨_,_,h⟩:=h;simp at h)
 case h_16=>rintro ⟨_,_,_,_,_,_,_,_,h⟩;split at h<;>first|(simp only [Option.bind_eq_some_iff] at h;obtain ⟨_,_,h⟩:=h;simp at h;done)|(simp at h)
 case h_17=>rintro ⟨_,_,h⟩;split at h<;>simp at h
 case h_21=>rintro ⟨_,_,_,_,h⟩;split at h<;>simp at h
 all_goals (intro h;simp at h)
theorem Dv {x:X} {xs:List X} (h:jg P ji o.op=some (.dQ x xs)):∃t args ts,x=.t t/\o.op=.call { callee:=.value (.tmp t),args,argTypes:=ts}/\dK args.toList=some xs:=by
 unfold jg at h;split at h<;>try (cases h;done)
 all_goals simp only [Option.bind_eq_bind,Option.bind_eq_some_iff,Option.some.injEq] at h
 case h_24 t args ts hop=>
  obtain ⟨ys,h1,h2⟩:=h;simp only [Ins.dQ.injEq] at h2;obtain ⟨rfl,rfl⟩:=h2;exact ⟨t,args,ts,rfl,hop,h1⟩
 all_goals (exfalso;revert h)
 case h_23=>rintro ⟨_,_,h⟩;split at h<;>simp at h
 case h_25 b args ts hop=>
  rintro ⟨ys,h1,h2⟩;split at h2<;>try (cases h2;done)
  ·split at h2<;>simp at h2
  ·simp only [Option.bind_eq_some_iff] at h2;obtain ⟨_,_,_,_,_,_,h2⟩:=h2;split at h2
   ·split at h2<;>simp at h2
   ·split at h2<;>simp at h2
   ·simp at h2
  ·simp only [Option.bind_eq_some_iff] at h2;obtain ⟨_,_,_,_,h2⟩:=h2;split at h2<;>simp at h2
 case h_11=>rintro ⟨_,_,_,_,h⟩;split at h<;>first|(simp at h;done)|(simp only [Option.bind_eq_some_iff] at h;obtain ⟨_,_,h⟩:=h;split at h<;>first|(simp only [z8] at h;split at h<;>simp at h;done)|(cases h))
 case h_13=>rintro ⟨_,_,h⟩;split at h<;>first|(simp at h;done)|(split at h<;>simp at h)
 case h_15=>rintro ⟨_,_,_,_,_,_,h⟩;split at h<;>first|(simp at h;done)|(simp only [Option.bind_eq_some_iff] at h;obtain ⟨_,_,h⟩:=h;simp at h)
 case h_16=>rintro ⟨_,_,_,_,_,_,_,_,h⟩;split at h<;>first|(simp only [Option.bind_eq_some_iff] at h;obtain ⟨_,_,h⟩:=h;simp at h;done)|(simp at h)
 case h_17=>rintro ⟨_,_,h⟩;split at h<;>simp at h
 case h_21=>rintro ⟨_,_,_,_,h⟩;split at h<;>simp at h
 all_goals (intro h;simp at h)
theorem seq_ok {ops:Array Oper} {Q:Exit->Act->World->Prop} (hcall:∀f vs rs,call f vs=some rs->bR P f vs rs)
  (hl:∀f ds h k rs h' n',aF f ds h k=some (rs,h',n')->xE P f ds h k rs h' n'):
  ∀(l:List Oper) (is:List aW),bX P ji nt ops l=some is->∀(s s':St) (m:M) (a:Act),m.h=s.heap->um m s.nx->Rel B S w0 nt m s.env a->dR call aF is s=some s'->
   (∀(a':Act) (m':M),m'.h=s'.heap->um m' s'.nx->ak B S m m'->Rel B S w0 nt m' s'.env a'->Q .normal a' m'.w)->wpList P ops Q l a m.w
 |[],is,hc,s,s',m,a,hh,hU,hr,hev,hK=>by simp only [bX,Option.some.injEq] at hc;subst hc;simp only [dR,Option.some.injEq] at hev;subst hev;exact wpList_nil (hK a m hh hU (ak.refl m) hr)
 |o::l,is,hc,s,s',m,a,hh,hU,hr,hev,hK=>by
  simp only [bX,Option.bind_eq_bind,Option.bind_eq_some_iff,Option.some.injEq] at hc;obtain ⟨i,hc1,is',hc2,rfl⟩:=hc;simp only [dR,Option.bind_eq_bind,Option.bind_eq_some_iff] at hev;obtain ⟨b,hw,hev⟩:=hev;have hwant:=qP hr hc1 hw;obtain ⟨p1,p2,p3,_⟩:=dJ hc1;unfold wpList;rw [hwant];cases b with
  |false=>
   simp only [if_false,Bool.false_eq_true] at hev |-;have hr2:Rel B S w0 nt m (dO s.env i.dst fF) (a.put o.dst undef):=by rw [p2];exact hr.put p3 ⟨[],rfl,trivial⟩
   exact seq_ok hcall hl l is' hc2 ⟨dO s.env i.dst fF,s.heap,s.nx⟩ s' m _ hh hU hr2 hev hK
  |true=>
   simp only [if_true] at hev |-;refine .inl ?_;have other:(∀f ow xs,i.ins≠.cu f ow xs)->(∀x xs,i.ins≠.dQ x xs)->(do let (d,us) <-gm call (iI s.env) s.heap s.nx i.ins;dR call aF is' ⟨dO s.env i.dst d,ah s.heap us,s.nx+1⟩)=some s'->o.wp P a m.w (wpList P ops Q l) Q:=by
    intro hns hnv hev;simp only [Option.bind_eq_bind,Option.bind_eq_some_iff,Prod.exists] at hev;obtain ⟨d,us,h1,h2⟩:=hev;have inst:∀{K:Act->World->Prop},(∀(a':Act) (m':M),m'.h=ah m.h us->m'.U=(fun i=>m.U i\/i=s.nx)->ak B S m m'->Rel B S w0 nt m' (dO s.env i.dst d) a'->K a' m'.w)->o.wp P a m.w K Q:=by
     intro K hK';unfold gm at h1;split at h1
     ·rename_i hm;have hcm:mJ P o.op=some i.ins:=by
       rcases ny p1 with ⟨_,h3⟩|⟨h3,_⟩
       ·exact h3
       ·rw [hm] at h3;cases h3
      obtain ⟨n,v,w',h5,h6,h7⟩:=Gp hcm hr.hok hr.opd (slot:=s.nx) (fun hx=>Nat.lt_irrefl _ (hU _ hx)) (by rw [hh];exact h1)
      have fin:∀v w',Post B S m s.nx us d v w'->K (a.put o.dst v) w':=by
       rintro v w' ⟨β',q1,q2,q3,q4⟩;have:=(hr.mO q2 q1 q4).put p3 q3
       rw [p2] at hK';exact hK' _ _ rfl rfl q2 this
      unfold Oper.wp;rw [h5];rcases h6 with rfl|⟨rfl,rfl⟩
      ·exact fin v w' h7
      ·exact fin undef w' h7
     ·exact Ku hc1 hns hnv hr (slot:=s.nx) (fun hx=>Nat.lt_irrefl _ (hU _ hx)) hcall (by rw [hh];exact h1) hK'
    refine inst fun a' m' q1 q2 q3 q4=>?_
    refine seq_ok hcall hl l is' hc2 ⟨dO s.env i.dst d,ah s.heap us,s.nx+1⟩ s' m' a' (by rw [q1,hh]) (fun j=>?_) q4 h2 fun a'' m'' r1 r2 r4 r5=>hK a'' m'' r1 r2 (q3.trans r4) r5
    rw [q2];rintro (hj|rfl)
    ·exact Nat.lt_succ_of_lt (hU _ hj)
    ·exact Nat.lt_succ_self _
   have ai:∀(ow:Nat) (f:Nat) (ds:List D) (us:List Value),(∀w,dY P f->(execOp a.eval o).run P w=.ok (.enter f us.toArray) w)->aj (aX B S m) ds us->
     (do let (d,h,nx) <-iA aF ow f ds s.heap s.nx;dR call aF is' ⟨dO s.env i.dst d,h,nx⟩)=some s'->o.wp P a m.w (wpList P ops Q l) Q:=by
    intro ow f ds us hrun hall hev;simp only [Option.bind_eq_bind,Option.bind_eq_some_iff,Prod.exists] at hev;obtain ⟨d,h',nx',h1,h2⟩:=hev;obtain ⟨XP,hs2⟩:=Mh hl h1;unfold Oper.wp;rw [hrun _ XP];show Calls P f us.toArray m.w _
    refine (hs2 B S m us hh hU hr.hok hr.inv hall).mono fun e w' ⟨v,m',q0,q1,q2,q3,q4,q5,q6,q7⟩=>?_
    subst q0 q1;have hr2:Rel B S w0 nt m' (dO s.env i.dst d) (a.put o.dst v):=by rw [p2];exact (hr.mO q5 q4 q7).put p3 q6
    exact seq_ok hcall hl l is' hc2 ⟨dO s.env i.dst d,h',nx'⟩ s' m' _ q2 q3 hr2 h2 fun a'' m'' r1 r2 r4 r5=>hK a'' m'' r1 r2 (q5.trans r4) r5
   cases hins:i.ins with
   |cu f ow xs=>
    rw [hins] at hev p1;obtain ⟨args,ts,hop,h7⟩:=ve (nR p1 rfl);refine ai ow f _ (args.map a.eval).toList (fun w hf=>?_) (by simpa using jA hr h7) hev
    rw [uH hf hop,Array.toArray_toList]
   |dQ x xs=>
    rw [hins] at hev p1;obtain ⟨t,args,ts,rfl,hop,h7⟩:=Dv (nR p1 rfl);simp only at hev;cases hx:iI s.env (.t t) with
    |bJ f caps=>
     rw [hx] at hev;have ht:=hr.env t;have hx':bS s.env t=.bJ f caps:=hx;rw [hx'] at ht;obtain ⟨ht1,ht2⟩:=ht;refine ai 0 f _ ((args.map a.eval).toList++caps.map fun p=>Value.pointer (some ⟨m.β p.1,p.2,none⟩)) (fun w hf=>?_) ?_ hev
     ·rw [Nn hf hop ht1];simp
     ·refine aj.append (by simpa using jA hr h7) ?_
      have:∀(l:List (Nat×Nat)),(∀p∈l,m.U p.1)->aj (aX B S m) (l.map fun p=>D.loc p.1 p.2) (l.map fun p=>Value.pointer (some ⟨m.β p.1,p.2,none⟩)):=by
       intro l;induction l with
       |nil=>intro _;trivial
       |cons p l ih=>intro hl;exact ⟨⟨hl p (by simp),rfl⟩,ih fun q hq=>hl q (by simp [hq])⟩
      exact this caps ht2
    |_=>rw [hx] at hev;cases hev
   |_=>exact other (fun f ow xs h=>by rw [hins] at h;cases h) (fun f xs h=>by rw [hins] at h;cases h) (by rw [hins] at hev |-;exact hev)
end
end Go.Ey
