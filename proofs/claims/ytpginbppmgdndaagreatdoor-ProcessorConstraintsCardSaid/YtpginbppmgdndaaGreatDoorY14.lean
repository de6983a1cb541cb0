/- A part of the proof. -/
import Derived.Test.YtpginbppmgdndaaGreatDoorY13
set_option linter.all false
namespace Go.Ey
open Go.RowKit
def UIs (m:M) (nx:Nat):Prop:=∀i,m.U i↔i < nx
theorem All2.map_mono {α β γ:Type} {R:α→β→Prop} {R':γ→β→Prop} {f:α→γ} (h:∀a b,R a b→R' (f a) b):∀{as:List α} {bs:List β},All2 R as bs→All2 R' (as.map f) bs
 |[],[],_=>trivial
 |_::_,_::_,h1=>⟨h _ _ h1.1,All2.map_mono h h1.2⟩
 |[],_::_,h1=>h1.elim
 |_::_,[],h1=>h1.elim
variable [Keeps]
def LendOK (P:Program) (f:Nat) (ds:List D) (h:Heap) (k:Nat) (rs:List D) (h':Heap) (n':Nat):Prop:=
 Callable P f∧∀(B:Nat) (S:Nat→Nat→Prop) (m:M) (us:List Value),m.h=h→UIs m k→HOK B S m→Keeps.Inv B m.w→All2 (RepD B S m) ds us→
  Calls P f us.toArray m.w fun e w'=>∃(v:Value) (m':M),e=.returned v∧m'.w=w'∧m'.h=h'∧UIs m' n'∧HOK B S m'∧Evolves B S m m'∧RepD B S m' (tupD rs) v∧Below B m.w m'.w∧∀d,d∈rs→∀q,d≠.tup q
section
variable {B:Nat} {S:Nat→Nat→Prop} {P:Program} {o:Oper} {a:Act} {m:M} {shF:Nat→Nat} {nt:Nat} {w0:World} {call:Callee} {lend:Lender}
theorem frzA_ok {m:M} (hk:HOK B S m) {d:D} {u:Value} (hr:RepDc B S m d u) {x:D} {us:List (Nat×Obj)} (hf:frzA m.h d=some (x,us)):
  HOK B S (m.heap (updH m.h us))∧Evolves B S m (m.heap (updH m.h us))∧RepDc B S (m.heap (updH m.h us)) x u:=by
 cases d with
 |arr id off len=>
  simp only [frzA,Option.bind_eq_bind,Option.bind_eq_some_iff,Prod.exists,Option.some.injEq,Prod.mk.injEq] at hf
  obtain ⟨c,xs,h1,rfl,rfl⟩:=hf
  exact frz_ok hk hr h1
 |_=>
  simp only [frzA,Option.some.injEq,Prod.mk.injEq] at hf
  obtain ⟨rfl,rfl⟩:=hf
  exact ⟨hk,Evolves.refl m,hr⟩
theorem frzAs_ok:∀{ds:List D} {us:List Value} {m:M},HOK B S m→All2 (RepDc B S m) ds us→∀{cs:List D} {xs:List (Nat×Obj)},frzAs m.h ds=some (cs,xs)→
  HOK B S (m.heap (updH m.h xs))∧Evolves B S m (m.heap (updH m.h xs))∧All2 (RepDc B S (m.heap (updH m.h xs))) cs us
 |[],[],m,hk,_,cs,xs,hf=>by
  simp only [frzAs,Option.some.injEq,Prod.mk.injEq] at hf
  obtain ⟨rfl,rfl⟩:=hf
  exact ⟨hk,Evolves.refl m,trivial⟩
 |d::ds,u::us,m,hk,hr,cs,xs,hf=>by
  simp only [frzAs,Option.bind_eq_bind,Option.bind_eq_some_iff,Prod.exists,Option.some.injEq,Prod.mk.injEq] at hf
  obtain ⟨c,x,h1,cs',xs',h2,rfl,rfl⟩:=hf
  obtain ⟨k1,k2,k3⟩:=frzA_ok hk hr.1 h1
  have hr2:All2 (RepDc B S (m.heap (updH m.h x))) ds us:=hr.2.mono fun _ _ h=>k2.repDc h
  obtain ⟨k4,k5,k6⟩:=frzAs_ok (m:=m.heap (updH m.h x)) k1 hr2 h2
  rw [updH_append]
  exact ⟨k4,k2.trans k5,k5.repDc k3,k6⟩
 |[],_::_,_,_,hr,_,_,_=>hr.elim
 |_::_,[],_,_,hr,_,_,_=>hr.elim
theorem frzD_ok {m:M} (hk:HOK B S m) {d:D} {u:Value} (hr:RepA B S m d u) {x:D} {xs:List (Nat×Obj)} (hf:frzD m.h d=some (x,xs)):
  HOK B S (m.heap (updH m.h xs))∧Evolves B S m (m.heap (updH m.h xs))∧RepA B S (m.heap (updH m.h xs)) x u∧∀q,x≠.tup q:=by
 have one:∀d,RepDc B S m d u→frzA m.h d=some (x,xs)→
   HOK B S (m.heap (updH m.h xs))∧Evolves B S m (m.heap (updH m.h xs))∧RepA B S (m.heap (updH m.h xs)) x u∧∀q,x≠.tup q:=by
  intro d hr hf
  obtain ⟨k1,k2,k3⟩:=frzA_ok hk hr hf
  refine ⟨k1,k2,?_,?_⟩
  ·cases x<;>first|exact k3|exact k3.elim
  ·intro q hq;subst hq;exact k3.elim
 cases d with
 |agg ds=>
  simp only [frzD,Option.bind_eq_bind,Option.bind_eq_some_iff,Prod.exists,Option.some.injEq,Prod.mk.injEq] at hf
  obtain ⟨cs,x,h1,rfl,rfl⟩:=hf
  obtain ⟨us,rfl,h2⟩:=hr
  obtain ⟨k1,k2,k3⟩:=frzAs_ok hk h2 h1
  exact ⟨k1,k2,⟨us,rfl,k3⟩,fun q hq=>by cases hq⟩
 |unk=>exact one .unk hr hf
 |c x=>exact one (.c x) hr hf
 |loc id off=>exact one (.loc id off) hr hf
 |arr id off len=>exact one (.arr id off len) hr hf
 |ptr cs=>exact one (.ptr cs) hr hf
 |full cs n=>exact one (.full cs n) hr hf
 |clo f caps=>exact one (.clo f caps) hr hf
 |mp id=>exact one (.mp id) hr hf
 |tup ds=>exact one (.tup ds) hr hf
theorem frzDs_ok:∀{ds:List D} {us:List Value} {m:M},HOK B S m→All2 (RepA B S m) ds us→∀{vs:List D} {xs:List (Nat×Obj)},frzDs m.h ds=some (vs,xs)→
  HOK B S (m.heap (updH m.h xs))∧Evolves B S m (m.heap (updH m.h xs))∧All2 (RepA B S (m.heap (updH m.h xs))) vs us∧(∀d,d∈vs→∀q,d≠.tup q)∧vs.length=ds.length
 |[],[],m,hk,_,cs,xs,hf=>by
  simp only [frzDs,Option.some.injEq,Prod.mk.injEq] at hf
  obtain ⟨rfl,rfl⟩:=hf
  exact ⟨hk,Evolves.refl m,trivial,by simp,rfl⟩
 |d::ds,u::us,m,hk,hr,cs,xs,hf=>by
  simp only [frzDs,Option.bind_eq_bind,Option.bind_eq_some_iff,Prod.exists,Option.some.injEq,Prod.mk.injEq] at hf
  obtain ⟨c,x,h1,cs',xs',h2,rfl,rfl⟩:=hf
  obtain ⟨k1,k2,k3,k3'⟩:=frzD_ok hk hr.1 h1
  have hr2:All2 (RepA B S (m.heap (updH m.h x))) ds us:=hr.2.mono fun _ _ h=>k2.repA h
  obtain ⟨k4,k5,k6,k7,k8⟩:=frzDs_ok (m:=m.heap (updH m.h x)) k1 hr2 h2
  rw [updH_append]
  refine ⟨k4,k2.trans k5,⟨k5.repA k3,k6⟩,fun d hd=>?_,by simp [k8]⟩
  simp only [List.mem_cons] at hd
  rcases hd with rfl|hd
  ·exact k3'
  ·exact k7 d hd
 |[],_::_,_,_,hr,_,_,_=>hr.elim
 |_::_,[],_,_,hr,_,_,_=>hr.elim
theorem frzDs_ok':∀{ds:List D} {us:List Value} {m:M},HOK B S m→All2 (RepD B S m) ds us→∀{vs:List D} {xs:List (Nat×Obj)},frzDs m.h ds=some (vs,xs)→
  HOK B S (m.heap (updH m.h xs))∧Evolves B S m (m.heap (updH m.h xs))∧All2 (RepD B S (m.heap (updH m.h xs))) vs us
 |[],[],m,hk,_,cs,xs,hf=>by
  simp only [frzDs,Option.some.injEq,Prod.mk.injEq] at hf
  obtain ⟨rfl,rfl⟩:=hf
  exact ⟨hk,Evolves.refl m,trivial⟩
 |d::ds,u::us,m,hk,hr,cs,xs,hf=>by
  simp only [frzDs,Option.bind_eq_bind,Option.bind_eq_some_iff,Prod.exists,Option.some.injEq,Prod.mk.injEq] at hf
  obtain ⟨c,x,h1,cs',xs',h2,rfl,rfl⟩:=hf
  have key:HOK B S (m.heap (updH m.h x))∧Evolves B S m (m.heap (updH m.h x))∧RepD B S (m.heap (updH m.h x)) c u:=by
   have other:RepA B S m d u→_:=fun hA=>frzD_ok hk hA h1
   cases d with
   |tup q=>
    simp only [frzD,frzA,Option.some.injEq,Prod.mk.injEq] at h1
    obtain ⟨rfl,rfl⟩:=h1
    exact ⟨hk,Evolves.refl m,hr.1⟩
   |_=>obtain ⟨k1,k2,k3,_⟩:=other hr.1;exact ⟨k1,k2,k3.toD⟩
  obtain ⟨k1,k2,k3⟩:=key
  have hr2:All2 (RepD B S (m.heap (updH m.h x))) ds us:=hr.2.mono fun _ _ h=>k2.repD h
  obtain ⟨k4,k5,k6⟩:=frzDs_ok' (m:=m.heap (updH m.h x)) k1 hr2 h2
  rw [updH_append]
  exact ⟨k4,k2.trans k5,k5.repD k3,k6⟩
 |[],_::_,_,_,hr,_,_,_=>hr.elim
 |_::_,[],_,_,hr,_,_,_=>hr.elim
theorem tupD_all {B:Nat} {S:Nat→Nat→Prop} {m:M} {rs:List D} {v:Value} (h:RepD B S m (tupD rs) v) (hn:∀d,d∈rs→∀q,d≠.tup q):
  ∃us:List Value,All2 (RepA B S m) rs us∧∀(m':M) (rs':List D),rs'.length=rs.length→All2 (RepA B S m') rs' us→RepD B S m' (tupD rs') v:=by
 match rs,h,hn with
 |[],h,_=>
  obtain ⟨us,rfl,h2⟩:=h
  refine ⟨us,h2,fun m' rs' hl h3=>?_⟩
  match rs',hl with
  |[],_=>exact ⟨us,rfl,h3⟩
 |[d],h,hn=>
  have hA:RepA B S m d v:=by
   cases d with
   |tup q=>exact absurd rfl (hn (.tup q) (by simp) q)
   |_=>exact h
  refine ⟨[v],⟨hA,trivial⟩,fun m' rs' hl h3=>?_⟩
  match rs',hl with
  |[d'],_=>exact h3.1.toD
 |d::d'::ds,h,_=>
  obtain ⟨us,rfl,h2⟩:=h
  refine ⟨us,h2,fun m' rs' hl h3=>?_⟩
  match rs',hl with
  |_::_::_,_=>exact ⟨us,rfl,h3⟩
theorem lend_ok (hl:∀f ds h k rs h' n',lend f ds h k=some (rs,h',n')→LendOK P f ds h k rs h' n') {own:Bool} {f:Nat} {ds:List D} {h:Heap} {nx:Nat} {d:D} {h2:Heap} {nx2:Nat} (hev:lendC lend own f ds h nx=some (d,h2,nx2)):
  Callable P f∧∀(B:Nat) (S:Nat→Nat→Prop) (m:M) (us:List Value),m.h=h→UIs m nx→HOK B S m→Keeps.Inv B m.w→All2 (RepD B S m) ds us→
   Calls P f us.toArray m.w fun e w'=>∃(v:Value) (m':M),e=.returned v∧m'.w=w'∧m'.h=h2∧UIs m' nx2∧HOK B S m'∧Evolves B S m m'∧RepD B S m' d v∧Below B m.w m'.w:=by
 simp only [lendC,Option.bind_eq_bind,Option.bind_eq_some_iff,Prod.exists] at hev
 obtain ⟨ds1,us1,h1,rs,h',n',h3,hev⟩:=hev
 obtain ⟨hc,hL⟩:=hl _ _ _ _ _ _ _ h3
 refine ⟨hc,fun B S m us hh hU hk hinv hall=>?_⟩
 subst hh
 obtain ⟨k1,k2,k3⟩:=frzDs_ok' hk hall h1
 refine (hL B S (m.heap (updH m.h us1)) us rfl hU k1 hinv k3).mono fun e w' ⟨v,m',q1,q2,q3,q4,q5,q6,q7,q8,q9⟩=>?_
 subst q1 q2
 cases own with
 |true=>
  simp only [if_true,Option.some.injEq,Prod.mk.injEq] at hev
  obtain ⟨rfl,rfl,rfl⟩:=hev
  exact ⟨v,m',rfl,rfl,q3,q4,q5,k2.trans q6,q7,q8⟩
 |false=>
  simp only [Bool.false_eq_true,if_false,Option.bind_eq_some_iff,Prod.exists,Option.some.injEq,Prod.mk.injEq] at hev
  obtain ⟨rs1,us2,h5,rfl,rfl,rfl⟩:=hev
  subst q3
  obtain ⟨vs,g1,g2⟩:=tupD_all q7 q9
  obtain ⟨e1,e2,e3,e4,e5⟩:=frzDs_ok q5 g1 h5
  exact ⟨v,m'.heap (updH m'.h us2),rfl,rfl,rfl,q4,e1,(k2.trans q6).trans e2,g2 _ _ e5 e3,q8⟩
theorem run_callV {f t:Nat} (hf:Callable P f) {args:Array Operand} {ts:Array TypeId} {caps:Array Value} (hop:o.op=.call { callee:=.value (.tmp t),args,argTypes:=ts}) (ht:a.eval (.tmp t)=.func (.func f) #[] caps) (w:World):
  (execOp a.eval o).run P w=.ok (.enter f (args.map a.eval++caps)) w:=by
 obtain ⟨fn,h1,h2,h3⟩:=hf
 have h2':¬fn.body=none:=fun h=>by rw [h] at h2;cases h2
 have h3':¬fn.name= "runtime.NumGoroutine":=by simpa using h3
 simp [execOp,hop,resolve,ht,Deferred.ofValue,invoke,callFunc,h1,h2',h3']
theorem compOp_callS {f:Nat} {ow:Bool} {xs:List X} (h:compOp P shF o.op=some (.callS f ow xs)):∃args ts,o.op=.call { callee:=.value (.func f),args,argTypes:=ts}∧compXs args.toList=some xs:=by
 unfold compOp at h
 split at h<;>try (cases h;done)
 all_goals simp only [Option.bind_eq_bind,Option.bind_eq_some_iff,Option.some.injEq] at h
 case h_23 f' args ts hop=>
  obtain ⟨ys,h1,h2⟩:=h
  split at h2
  ·cases h2
  ·simp only [Ins.callS.injEq] at h2
   obtain ⟨rfl,rfl,rfl⟩:=h2
   exact ⟨args,ts,hop,h1⟩
  ·cases h2
  ·simp only [Ins.callS.injEq] at h2
   obtain ⟨rfl,rfl,rfl⟩:=h2
   exact ⟨args,ts,hop,h1⟩
 all_goals (exfalso;revert h)
 case h_25 b args ts hop=>
  rintro ⟨ys,h1,h2⟩
  split at h2<;>try (cases h2;done)
  ·split at h2<;>simp at h2
  ·simp only [Option.bind_eq_some_iff] at h2
   obtain ⟨_,_,_,_,_,_,h2⟩:=h2
   split at h2
   ·split at h2<;>simp at h2
   ·split at h2<;>simp at h2
   ·simp at h2
  ·simp only [Option.bind_eq_some_iff] at h2
   obtain ⟨_,_,_,_,h2⟩:=h2
   split at h2<;>simp at h2
 case h_11=>rintro ⟨_,_,_,_,h⟩;split at h<;>first|(simp at h;done)|(simp only [Option.bind_eq_some_iff] at h;obtain ⟨_,_,h⟩:=h;split at h<;>first|(simp only [eqIns] at h;split at h<;>simp at h;done)|(cases h))
 case h_13=>rintro ⟨_,_,h⟩;split at h<;>first|(simp at h;done)|(split at h<;>simp at h)
 case h_15=>rintro ⟨_,_,_,_,_,_,h⟩;split at h<;>first|(simp at h;done)|(simp only [Option.bind_eq_some_iff] at h;obtain ⟨_,_,h⟩:=h;simp at h)
 case h_16=>rintro ⟨_,_,_,_,_,_,_,_,h⟩;split at h<;>first|(simp only [Option.bind_eq_some_iff] at h;obtain ⟨_,_,h⟩:=h;simp at h;done)|(simp at h)
 case h_17=>rintro ⟨_,_,h⟩;split at h<;>simp at h
 case h_21=>rintro ⟨_,_,_,_,h⟩;split at h<;>simp at h
 all_goals (intro h;simp at h)
theorem compOp_callV {x:X} {xs:List X} (h:compOp P shF o.op=some (.callV x xs)):∃t args ts,x=.t t∧o.op=.call { callee:=.value (.tmp t),args,argTypes:=ts}∧compXs args.toList=some xs:=by
 unfold compOp at h
 split at h<;>try (cases h;done)
 all_goals simp only [Option.bind_eq_bind,Option.bind_eq_some_iff,Option.some.injEq] at h
 case h_24 t args ts hop=>
  obtain ⟨ys,h1,h2⟩:=h
  simp only [Ins.callV.injEq] at h2
  obtain ⟨rfl,rfl⟩:=h2
  exact ⟨t,args,ts,rfl,hop,h1⟩
 all_goals (exfalso;revert h)
 case h_23=>rintro ⟨_,_,h⟩;split at h<;>simp at h
 case h_25 b args ts hop=>
  rintro ⟨ys,h1,h2⟩
  split at h2<;>try (cases h2;done)
  ·split at h2<;>simp at h2
  ·simp only [Option.bind_eq_some_iff] at h2
   obtain ⟨_,_,_,_,_,_,h2⟩:=h2
   split at h2
   ·split at h2<;>simp at h2
   ·split at h2<;>simp at h2
   ·simp at h2
  ·simp only [Option.bind_eq_some_iff] at h2
   obtain ⟨_,_,_,_,h2⟩:=h2
   split at h2<;>simp at h2
 case h_11=>rintro ⟨_,_,_,_,h⟩;split at h<;>first|(simp at h;done)|(simp only [Option.bind_eq_some_iff] at h;obtain ⟨_,_,h⟩:=h;split at h<;>first|(simp only [eqIns] at h;split at h<;>simp at h;done)|(cases h))
 case h_13=>rintro ⟨_,_,h⟩;split at h<;>first|(simp at h;done)|(split at h<;>simp at h)
 case h_15=>rintro ⟨_,_,_,_,_,_,h⟩;split at h<;>first|(simp at h;done)|(simp only [Option.bind_eq_some_iff] at h;obtain ⟨_,_,h⟩:=h;simp at h)
 case h_16=>rintro ⟨_,_,_,_,_,_,_,_,h⟩;split at h<;>first|(simp only [Option.bind_eq_some_iff] at h;obtain ⟨_,_,h⟩:=h;simp at h;done)|(simp at h)
 case h_17=>rintro ⟨_,_,h⟩;split at h<;>simp at h
 case h_21=>rintro ⟨_,_,_,_,h⟩;split at h<;>simp at h
 all_goals (intro h;simp at h)
theorem seq_ok {ops:Array Oper} {Q:Exit→Act→World→Prop} (hcall:∀f vs rs,call f vs=some rs→FnOK P f vs rs)
  (hl:∀f ds h k rs h' n',lend f ds h k=some (rs,h',n')→LendOK P f ds h k rs h' n'):
  ∀(l:List Oper) (is:List Inst),compInsts P shF nt ops l=some is→∀(s s':St) (m:M) (a:Act),m.h=s.heap→UIs m s.nx→Rel B S w0 nt m s.env a→evSeq call lend is s=some s'→
   (∀(a':Act) (m':M),m'.h=s'.heap→UIs m' s'.nx→Evolves B S m m'→Rel B S w0 nt m' s'.env a'→Q .normal a' m'.w)→wpList P ops Q l a m.w
 |[],is,hc,s,s',m,a,hh,hU,hr,hev,hK=>by
  simp only [compInsts,Option.some.injEq] at hc
  subst hc
  simp only [evSeq,Option.some.injEq] at hev
  subst hev
  exact wpList_nil (hK a m hh hU (Evolves.refl m) hr)
 |o::l,is,hc,s,s',m,a,hh,hU,hr,hev,hK=>by
  simp only [compInsts,Option.bind_eq_bind,Option.bind_eq_some_iff,Option.some.injEq] at hc
  obtain ⟨i,hc1,is',hc2,rfl⟩:=hc
  simp only [evSeq,Option.bind_eq_bind,Option.bind_eq_some_iff] at hev
  obtain ⟨b,hw,hev⟩:=hev
  have hwant:=wanted_ok hr hc1 hw
  obtain ⟨p1,p2,p3,_⟩:=compInst_parts hc1
  unfold wpList
  rw [hwant]
  cases b with
  |false=>
   simp only [if_false,Bool.false_eq_true] at hev ⊢
   have hr2:Rel B S w0 nt m (putE s.env i.dst undefD) (a.put o.dst undef):=by
    rw [p2];exact hr.put p3 ⟨[],rfl,trivial⟩
   exact seq_ok hcall hl l is' hc2 ⟨putE s.env i.dst undefD,s.heap,s.nx⟩ s' m _ hh hU hr2 hev hK
  |true=>
   simp only [if_true] at hev ⊢
   refine .inl ?_
   have other:(∀f ow xs,i.ins≠.callS f ow xs)→(∀x xs,i.ins≠.callV x xs)→(do let (d,us) ←stepS call (evX s.env) s.heap s.nx i.ins;evSeq call lend is' ⟨putE s.env i.dst d,updH s.heap us,s.nx+1⟩)=some s'→o.wp P a m.w (wpList P ops Q l) Q:=by
    intro hns hnv hev
    simp only [Option.bind_eq_bind,Option.bind_eq_some_iff,Prod.exists] at hev
    obtain ⟨d,us,h1,h2⟩:=hev
    have inst:∀{K:Act→World→Prop},(∀(a':Act) (m':M),m'.h=updH m.h us→m'.U=(fun i=>m.U i∨i=s.nx)→Evolves B S m m'→Rel B S w0 nt m' (putE s.env i.dst d) a'→K a' m'.w)→o.wp P a m.w K Q:=by
     intro K hK'
     unfold stepS at h1
     split at h1
     ·rename_i hm
      have hcm:compMap P o.op=some i.ins:=by
       rcases compOpM_parts p1 with ⟨_,h3⟩|⟨h3,_⟩
       ·exact h3
       ·rw [hm] at h3;cases h3
      obtain ⟨n,v,w',h5,h6,h7⟩:=stepM_ok hcm hr.hok hr.opd (slot:=s.nx) (by rw [hU];omega) (by rw [hh];exact h1)
      have fin:∀v w',Post B S m s.nx us d v w'→K (a.put o.dst v) w':=by
       rintro v w' ⟨β',q1,q2,q3,q4⟩
       have:=(hr.evolve q2 q1 q4).put p3 q3
       rw [p2] at hK'
       exact hK' _ _ rfl rfl q2 this
      unfold Oper.wp
      rw [h5]
      rcases h6 with rfl|⟨rfl,rfl⟩
      ·exact fin v w' h7
      ·exact fin undef w' h7
     ·exact inst_wp hc1 hns hnv hr (slot:=s.nx) (by rw [hU];omega) hcall (by rw [hh];exact h1) hK'
    refine inst fun a' m' q1 q2 q3 q4=>?_
    refine seq_ok hcall hl l is' hc2 ⟨putE s.env i.dst d,updH s.heap us,s.nx+1⟩ s' m' a' (by rw [q1,hh]) (fun j=>?_) q4 h2 fun a'' m'' r1 r2 r4 r5=>hK a'' m'' r1 r2 (q3.trans r4) r5
    rw [q2]
    show m.U j∨j=s.nx↔j < s.nx+1
    rw [hU]
    omega
   have lent:∀(ow:Bool) (f:Nat) (ds:List D) (us:List Value),(∀w,Callable P f→(execOp a.eval o).run P w=.ok (.enter f us.toArray) w)→All2 (RepD B S m) ds us→
     (do let (d,h,nx) ←lendC lend ow f ds s.heap s.nx;evSeq call lend is' ⟨putE s.env i.dst d,h,nx⟩)=some s'→o.wp P a m.w (wpList P ops Q l) Q:=by
    intro ow f ds us hrun hall hev
    simp only [Option.bind_eq_bind,Option.bind_eq_some_iff,Prod.exists] at hev
    obtain ⟨d,h',nx',h1,h2⟩:=hev
    obtain ⟨hcal,hs2⟩:=lend_ok hl h1
    unfold Oper.wp
    rw [hrun _ hcal]
    show Calls P f us.toArray m.w _
    refine (hs2 B S m us hh hU hr.hok hr.inv hall).mono fun e w' ⟨v,m',q0,q1,q2,q3,q4,q5,q6,q7⟩=>?_
    subst q0 q1
    have hr2:Rel B S w0 nt m' (putE s.env i.dst d) (a.put o.dst v):=by
     rw [p2];exact (hr.evolve q5 q4 q7).put p3 q6
    exact seq_ok hcall hl l is' hc2 ⟨putE s.env i.dst d,h',nx'⟩ s' m' _ q2 q3 hr2 h2 fun a'' m'' r1 r2 r4 r5=>hK a'' m'' r1 r2 (q5.trans r4) r5
   cases hins:i.ins with
   |callS f ow xs=>
    rw [hins] at hev p1
    obtain ⟨args,ts,hop,h7⟩:=compOp_callS (compOp_of p1 rfl)
    refine lent ow f _ (args.map a.eval).toList (fun w hf=>?_) (by simpa using compXs_all hr h7) hev
    rw [run_call hf hop,Array.toArray_toList]
   |callV x xs=>
    rw [hins] at hev p1
    obtain ⟨t,args,ts,rfl,hop,h7⟩:=compOp_callV (compOp_of p1 rfl)
    simp only at hev
    cases hx:evX s.env (.t t) with
    |clo f caps=>
     rw [hx] at hev
     have ht:=hr.env t
     have hx':getE s.env t=.clo f caps:=hx
     rw [hx'] at ht
     obtain ⟨ht1,ht2⟩:=ht
     refine lent false f _ ((args.map a.eval).toList++caps.map fun p=>Value.pointer (some ⟨m.β p.1,p.2,none⟩)) (fun w hf=>?_) ?_ hev
     ·rw [run_callV hf hop ht1]
      simp
     ·refine All2.append (by simpa using compXs_all hr h7) ?_
      have:∀(l:List (Nat×Nat)),(∀p∈l,m.U p.1)→All2 (RepD B S m) (l.map fun p=>D.loc p.1 p.2) (l.map fun p=>Value.pointer (some ⟨m.β p.1,p.2,none⟩)):=by
       intro l
       induction l with
       |nil=>intro _;trivial
       |cons p l ih=>intro hl;exact ⟨⟨hl p (by simp),rfl⟩,ih fun q hq=>hl q (by simp [hq])⟩
      exact this caps ht2
    |_=>rw [hx] at hev;cases hev
   |_=>exact other (fun f ow xs h=>by rw [hins] at h;cases h) (fun f xs h=>by rw [hins] at h;cases h) (by rw [hins] at hev ⊢;exact hev)
end
end Go.Ey

namespace Go.Ey
def Agree (L:List Nat) (h h':Heap):Prop:=∀id,id∈L→getH h id=getH h' id
theorem Agree.mono {L L':List Nat} {h h':Heap} (hh:Agree L h h') (hs:∀id,id∈L'→id∈L):Agree L' h h':=fun id hi=>hh id (hs id hi)
theorem Agree.upd {L:List Nat}:∀(us:List (Nat×Obj)) {h h':Heap},Agree L h h'→Agree L (updH h us) (updH h' us)
 |[],_,_,hh=>hh
 |u::us,h,h',hh=>by
  refine Agree.upd us (h:=u::h) (h':=u::h') fun id hi=>?_
  obtain ⟨i,o⟩:=u
  simp only [getH]
  rw [hh id hi]
variable {h h':Heap}
theorem loadD_congr {agg:Bool} {size:Nat} {d:D} (hh:Agree (match d with|.loc id _=>[id]|_=>[]) h h'):loadD h agg size d=loadD h' agg size d:=by
 cases d with
 |loc id off=>simp only [loadD,hh id (by simp)]
 |_=>rfl
theorem frz_congr {d:D} (hh:Agree (frzIds d) h h'):frz h d=frz h' d:=by
 cases d with
 |arr id off len=>simp only [frz,hh id (by simp [frzIds])]
 |_=>rfl
def arrIds:List D→List Nat
 |[]=>[]
 |.arr id _ _::ds=>id::arrIds ds
 |_::ds=>arrIds ds
theorem arrIds_flat (ds:List D):arrIds ds=ds.flatMap fun|.arr id _ _=>[id]|_=>[]:=by
 induction ds with
 |nil=>rfl
 |cons d ds ih=>cases d<;>simp [arrIds,ih]
theorem mem_arrIds {ds:List D} {id:Nat}:id∈arrIds ds↔∃off len,D.arr id off len∈ds:=by
 induction ds with
 |nil=>simp [arrIds]
 |cons d ds ih=>
  cases d with
  |arr i o l=>
   simp only [arrIds,List.mem_cons,ih]
   constructor
   ·rintro (rfl|⟨off,len,h⟩)
    ·exact ⟨o,l,.inl rfl⟩
    ·exact ⟨off,len,.inr h⟩
   ·rintro ⟨off,len,h|h⟩
    ·injection h with h1 _ _;exact .inl h1
    ·exact .inr ⟨off,len,h⟩
  |_=>simp [arrIds,ih]
theorem frzL_congr:∀{ds:List D} {h h':Heap},Agree (arrIds ds) h h'→frzL h ds=frzL h' ds
 |[],_,_,_=>rfl
 |d::ds,h,h',hh=>by
  have h1:frz h d=frz h' d:=by
   cases d with
   |arr id off len=>exact frz_congr fun i hi=>hh i (by simp only [frzIds,List.mem_singleton] at hi;simp [arrIds,hi])
   |_=>rfl
  simp only [frzL,h1]
  cases hf:frz h' d with
  |none=>rfl
  |some p=>
   obtain ⟨c,u⟩:=p
   have h2:frzL (updH h u) ds=frzL (updH h' u) ds:=frzL_congr (Agree.upd u (hh.mono fun id hi=>by cases d<;>simp [arrIds]<;>first|exact hi|exact .inr hi))
   simp only [Option.bind_eq_bind,Option.bind_some,h2]
theorem frzV_congr {d:D} (hh:Agree (frzIds d) h h'):frzV h d=frzV h' d:=by
 cases d with
 |agg ds=>
  have:frzL h ds=frzL h' ds:=frzL_congr (hh.mono fun id hi=>by rw [arrIds_flat] at hi;exact hi)
  simp only [frzV,this]
 |_=>simp only [frzV,frz_congr hh]
theorem frzVs_congr:∀{ds:List D} {h h':Heap},Agree (ds.flatMap frzIds) h h'→frzVs h ds=frzVs h' ds
 |[],_,_,_=>rfl
 |d::ds,h,h',hh=>by
  have h1:frzV h d=frzV h' d:=frzV_congr (hh.mono fun id hi=>by simp [hi])
  simp only [frzVs,h1]
  cases hf:frzV h' d with
  |none=>rfl
  |some p=>
   obtain ⟨c,u⟩:=p
   have h2:frzVs (updH h u) ds=frzVs (updH h' u) ds:=frzVs_congr (Agree.upd u (hh.mono fun id hi=>by rw [List.flatMap_cons];exact List.mem_append_right _ hi))
   simp only [Option.bind_eq_bind,Option.bind_some,h2]
theorem srcOf_congr {esz:Nat} {d:D} (hh:Agree (frzIds d) h h'):srcOf h esz d=srcOf h' esz d:=by
 cases d with
 |arr id off len=>simp only [srcOf,hh id (by simp [frzIds])]
 |c x=>unfold srcOf;split<;>simp_all
 |_=>rfl
theorem srcB_congr {d:D} (hh:Agree (frzIds d) h h'):srcB h d=srcB h' d:=by
 unfold srcB
 split
 ·rfl
 ·exact srcOf_congr hh
theorem slcD_congr {esz:Nat} {lo hi:Option D} {d:D} (hh:Agree (frzIds d) h h'):slcD h esz lo hi d=slcD h' esz lo hi d:=by
 cases d with
 |arr id off len=>simp only [slcD,hh id (by simp [frzIds])]
 |c x=>unfold slcD;split<;>simp_all
 |_=>rfl
theorem iadrD_congr {esz:Nat} {i:D} {d:D} (hh:Agree (frzIds d) h h'):iadrD h esz i d=iadrD h' esz i d:=by
 cases d with
 |arr id off len=>simp only [iadrD,hh id (by simp [frzIds])]
 |c x=>unfold iadrD;split<;>simp_all
 |_=>rfl
theorem appD_congr {slot esz ety bytes:Nat} {y d:D} (hh:Agree (frzIds d++frzIds y) h h'):appD h slot esz ety bytes y d=appD h' slot esz ety bytes y d:=by
 have hs:srcOf h esz y=srcOf h' esz y:=srcOf_congr (hh.mono fun id hi=>by simp [hi])
 cases d with
 |arr id off len=>simp only [appD,hh id (by simp [frzIds]),hs]
 |full ds k=>simp only [appD,hs]
 |_=>rfl
theorem cpyD_congr {esz:Nat} {y d:D} (hh:Agree (frzIds d++frzIds y) h h'):cpyD h esz y d=cpyD h' esz y d:=by
 have hs:srcOf h esz y=srcOf h' esz y:=srcOf_congr (hh.mono fun id hi=>by simp [hi])
 cases d with
 |arr id off len=>simp only [cpyD,hh id (by simp [frzIds]),hs]
 |_=>rfl
theorem storeD_congr {size:Nat} {v d:D} (hh:Agree ((match d with|.loc id _=>[id]|_=>[])++frzIds v) h h'):storeD h size v d=storeD h' size v d:=by
 have hs:frzV h v=frzV h' v:=frzV_congr (hh.mono fun id hi=>by simp [hi])
 cases d with
 |loc id off=>
  have h1:=hh id (by simp)
  simp only [storeD,h1,hs]
  cases getH h' id with
  |arr cs esz fz ety=>
   cases hf:frzV h' v with
   |none=>rfl
   |some p=>
    obtain ⟨x,us⟩:=p
    simp only [Option.bind_eq_bind,Option.bind_some]
    rw [Agree.upd us hh id (by simp)]
  |_=>rfl
 |_=>rfl
theorem fillP_congr {ρ ρ':X→D}:∀{ps:List (Nat×Nat×X)} {cs:List D},(∀p,p∈ps→ρ p.2.2=ρ' p.2.2)→fillP ρ cs ps=fillP ρ' cs ps
 |[],_,_=>rfl
 |(off,size,x)::ps,cs,hp=>by
  have h1:ρ x=ρ' x:=hp (off,size,x) (by simp)
  simp only [fillP,h1]
  cases cellsD (ρ' x) with
  |none=>rfl
  |some ds=>
   simp only [Option.bind_eq_bind,Option.bind_some]
   rw [fillP_congr (fun p h=>hp p (by simp [h]))]
theorem cellsD_ids {d:D} {ds:List D} (h:cellsD d=some ds):∀id,id∈arrIds ds→id∈frzIds d:=by
 intro id hi
 unfold cellsD at h
 split at h
 ·rename_i ds'
  split at h
  ·simp only [Option.some.injEq] at h
   subst h
   rw [arrIds_flat] at hi
   exact hi
  ·cases h
 ·split at h
  ·simp only [Option.some.injEq] at h
   subst h
   cases d<;>simp [arrIds] at hi
   simp [frzIds,hi]
  ·cases h
theorem fillP_ids {ρ:X→D}:∀{ps:List (Nat×Nat×X)} {cs ds:List D},fillP ρ cs ps=some ds→∀id,id∈arrIds ds→id∈arrIds cs∨id∈ps.flatMap fun p=>frzIds (ρ p.2.2)
 |[],cs,ds,h,id,hi=>by simp only [fillP,Option.some.injEq] at h;subst h;exact .inl hi
 |(off,size,x)::ps,cs,ds,h,id,hi=>by
  simp only [fillP,Option.bind_eq_bind,Option.bind_eq_some_iff] at h
  obtain ⟨xs,h1,h2⟩:=h
  split at h2
  case isFalse=>cases h2
  rcases fillP_ids h2 id hi with h3|h3
  ·rw [mem_arrIds] at h3
   obtain ⟨o,l,h4⟩:=h3
   unfold splice at h4
   simp only [List.mem_append] at h4
   rcases h4 with (h4|h4)|h4
   ·exact .inl (mem_arrIds.2 ⟨o,l,List.mem_of_mem_take h4⟩)
   ·refine .inr ?_
    rw [List.flatMap_cons]
    exact List.mem_append_left _ (cellsD_ids h1 id (mem_arrIds.2 ⟨o,l,h4⟩))
   ·exact .inl (mem_arrIds.2 ⟨o,l,List.mem_of_mem_drop h4⟩)
  ·refine .inr ?_
   rw [List.flatMap_cons]
   exact List.mem_append_right _ h3
theorem arrIds_c (cs:List C):arrIds (cs.map D.c)=[]:=by
 induction cs with
 |nil=>rfl
 |cons c cs ih=>simpa [arrIds] using ih
theorem stepC_congr {call:Callee} {ρ ρ':X→D} {slot:Nat} {ins:Ins} (hx:∀x,x∈opX ins→ρ x=ρ' x) (hh:Agree (touches ρ ins) h h'):stepC call ρ h slot ins=stepC call ρ' h' slot ins:=by
 cases ins with
 |mov x=>simp only [stepC,step,hx x (by simp [opX])]
 |pick c a b=>simp only [stepC,step,hx c (by simp [opX]),hx a (by simp [opX]),hx b (by simp [opX])]
 |alloc z=>rfl
 |box x=>simp only [stepC,step,hx x (by simp [opX])]
 |build z ps=>
  have:∀cs,fillP ρ cs ps=fillP ρ' cs ps:=fun cs=>fillP_congr fun p hp=>hx _ (by simp only [opX];exact List.mem_map.2 ⟨p,hp,rfl⟩)
  simp only [stepC,step,this]
 |lits a b c z ps=>
  have h1:∀cs,fillP ρ cs ps=fillP ρ' cs ps:=fun cs=>fillP_congr fun p hp=>hx _ (by simp only [opX];exact List.mem_map.2 ⟨p,hp,rfl⟩)
  simp only [stepC,step,←h1]
  cases hf:fillP ρ ((zeros z c).map .c) ps with
  |none=>rfl
  |some ds=>
   have h2:frzL h ds=frzL h' ds:=frzL_congr (hh.mono fun id hi=>by
    rcases fillP_ids hf id hi with h3|h3
    ·rw [arrIds_c] at h3;cases h3
    ·exact h3)
   simp only [Option.bind_eq_bind,Option.bind_some,h2]
 |load agg size x=>
  have h1:=hx x (by simp [opX])
  have:loadD h agg size (ρ x)=loadD h' agg size (ρ x):=loadD_congr hh
  rw [h1] at this
  simp only [stepC,step,this,h1]
 |store size x y=>
  have h1:=hx x (by simp [opX])
  have h2:=hx y (by simp [opX])
  have:storeD h size (ρ y) (ρ x)=storeD h' size (ρ y) (ρ x):=storeD_congr hh
  rw [h1,h2] at this
  simp only [stepC,step,this,h1,h2]
 |nilck x=>simp only [stepC,step,hx x (by simp [opX])]
 |bin op b x y=>simp only [stepC,step,hx x (by simp [opX]),hx y (by simp [opX])]
 |eqs ks b x y=>simp only [stepC,step,hx x (by simp [opX]),hx y (by simp [opX])]
 |clip esz x lo hi mx=>
  have h1:=hx x (by simp [opX])
  have h2:=hx hi (by simp [opX])
  have h3:=hx mx (by simp [opX])
  have hl:lo.map ρ=lo.map ρ':=by cases lo with|none=>rfl|some y=>simp [hx y (by simp [opX])]
  have:frz h (ρ x)=frz h' (ρ x):=frz_congr hh
  rw [h1] at this
  simp only [stepC,step,clipD,this,h1,h2,h3,hl]
 |mkf f xs=>
  have:capsOf ρ xs=capsOf ρ' xs:=by
   have hx':∀x,x∈xs→ρ x=ρ' x:=fun x hxx=>hx x (by simpa [opX] using hxx)
   clear hx hh
   induction xs with
   |nil=>rfl
   |cons x xs ih=>
    simp only [capsOf,hx' x (by simp),ih fun y hy=>hx' y (by simp [hy])]
  simp only [stepC,step,this]
 |callV x xs=>rfl
 |un op x=>simp only [stepC,step,hx x (by simp [opX])]
 |conv k x=>simp only [stepC,step,hx x (by simp [opX])]
 |toStr x=>
  have h1:=hx x (by simp [opX])
  have:srcB h (ρ x)=srcB h' (ρ x):=srcB_congr hh
  rw [h1] at this
  simp only [stepC,step,this,h1]
 |mk a b c z l m=>simp only [stepC,step,hx l (by simp [opX]),hx m (by simp [opX])]
 |slc esz x lo hi=>
  have h1:=hx x (by simp [opX])
  have hl:lo.map ρ=lo.map ρ':=by cases lo with|none=>rfl|some y=>simp [hx y (by simp [opX])]
  have hr:hi.map ρ=hi.map ρ':=by cases hi with|none=>rfl|some y=>simp [hx y (by simp [opX])]
  have:slcD h esz (lo.map ρ) (hi.map ρ) (ρ x)=slcD h' esz (lo.map ρ) (hi.map ρ) (ρ x):=slcD_congr hh
  rw [h1,hl,hr] at this
  simp only [stepC,step,this,h1,hl,hr]
 |sls x lo hi=>
  have h1:=hx x (by simp [opX])
  have hl:lo.map ρ=lo.map ρ':=by cases lo with|none=>rfl|some y=>simp [hx y (by simp [opX])]
  have hr:hi.map ρ=hi.map ρ':=by cases hi with|none=>rfl|some y=>simp [hx y (by simp [opX])]
  simp only [stepC,step,h1,hl,hr]
 |fadr o x=>simp only [stepC,step,hx x (by simp [opX])]
 |fld o a s x=>simp only [stepC,step,hx x (by simp [opX])]
 |iadr esz x i=>
  have h1:=hx x (by simp [opX])
  have h2:=hx i (by simp [opX])
  have:iadrD h esz (ρ i) (ρ x)=iadrD h' esz (ρ i) (ρ x):=iadrD_congr hh
  rw [h1,h2] at this
  simp only [stepC,step,this,h1,h2]
 |sidx x i=>simp only [stepC,step,hx x (by simp [opX]),hx i (by simp [opX])]
 |ext x i=>simp only [stepC,step,hx x (by simp [opX])]
 |len b x=>simp only [stepC,step,hx x (by simp [opX])]
 |app a b c x y=>
  have h1:=hx x (by simp [opX])
  have h2:=hx y (by simp [opX])
  have:appD h slot a b c (ρ y) (ρ x)=appD h' slot a b c (ρ y) (ρ x):=appD_congr hh
  rw [h1,h2] at this
  simp only [stepC,step,this,h1,h2]
 |cpy esz x y=>
  have h1:=hx x (by simp [opX])
  have h2:=hx y (by simp [opX])
  have:cpyD h esz (ρ y) (ρ x)=cpyD h' esz (ρ y) (ρ x):=cpyD_congr hh
  rw [h1,h2] at this
  simp only [stepC,step,this,h1,h2]
 |mx x y=>simp only [stepC,step,hx x (by simp [opX]),hx y (by simp [opX])]
 |mn x y=>simp only [stepC,step,hx x (by simp [opX]),hx y (by simp [opX])]
 |call f xs=>
  have h1:xs.map ρ=xs.map ρ':=List.map_congr_left fun x hxx=>hx x (by simpa [opX] using hxx)
  have h2:frzVs h (xs.map ρ)=frzVs h' (xs.map ρ):=frzVs_congr (hh.mono fun id hi=>by simpa [touches,List.flatMap_map] using hi)
  rw [h1] at h2
  simp only [stepC,h2,h1]
 |callS f ow xs=>rfl
 |callL f xs=>rfl
 |mkm=>rfl
 |mget k n ag z ok x y=>rfl
 |mput k n x y z=>rfl
theorem stepM_congr {ρ ρ':X→D} {slot:Nat} {ins:Ins} (hx:∀x,x∈opX ins→ρ x=ρ' x) (hh:Agree (touches ρ ins) h h'):stepM ρ h slot ins=stepM ρ' h' slot ins:=by
 cases ins with
 |mget kind n agg z ok x k=>
  have h1:=hx x (by simp [opX])
  have h2:=hx k (by simp [opX])
  simp only [stepM,←h1,←h2]
  split
  ·rename_i id he
   rw [hh id (by simp [touches,he])]
  ·rfl
 |mput kind n x k v=>
  have h1:=hx x (by simp [opX])
  have h2:=hx k (by simp [opX])
  have h3:=hx v (by simp [opX])
  simp only [stepM,←h1,←h2,←h3]
  split
  ·rename_i id he
   have hf:frzV h (ρ v)=frzV h' (ρ v):=frzV_congr (hh.mono fun i hi=>by simp [touches,hi])
   rw [hf]
   cases keyV kind n (ρ k) with
   |none=>rfl
   |some kv=>
    simp only [Option.bind_some]
    cases frzV h' (ρ v) with
    |none=>rfl
    |some p=>
     simp only [Option.bind_some]
     rw [Agree.upd p.2 hh id (by simp [touches,he])]
  ·rfl
 |_=>rfl
theorem stepS_congr {call:Callee} {ρ ρ':X→D} {slot:Nat} {ins:Ins} (hx:∀x,x∈opX ins→ρ x=ρ' x) (hh:Agree (touches ρ ins) h h'):stepS call ρ h slot ins=stepS call ρ' h' slot ins:=by
 unfold stepS
 split
 ·exact stepM_congr hx hh
 ·exact stepC_congr hx hh
end Go.Ey
