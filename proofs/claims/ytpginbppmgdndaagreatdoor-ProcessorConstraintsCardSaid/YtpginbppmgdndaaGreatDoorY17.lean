/- A part of the proof. -/
import Derived.Test.YtpginbppmgdndaaGreatDoorY16
set_option linter.all false
namespace Go.Ey
open Go.RowKit
variable [Keeps]
structure Table (P:Program) (shF:Nat→Nat) (F:Tab):Prop where
 nat:∀f vs rs,F.nat f vs=some rs→FnOK P f vs rs
 ok:∀f I,F.code f=some I→∃fn,P.funcs[f]?=some fn∧compFn P shF fn=some I∧(fn.name== "runtime.NumGoroutine")=false
 mixed:P.follows .mixedOrders=true
def exOf:Ex→Exit
 |.normal=> .normal
 |.exit id=> .exit id
 |.ret=> .ret
section
variable {P:Program} {shF:Nat→Nat} {F:Tab}
def CPost (B:Nat) (S:Nat→Nat→Prop) (w0:World) (nt:Nat) (m:M) (s:St) (x:Ex) (s':St) (e:Exit) (a':Act) (w':World):Prop:=
 ∃m':M,m'.w=w'∧e=exOf x∧m'.h=s'.heap∧UIs m' s'.nx∧Rel B S w0 nt m' s'.env a'∧Evolves B S m m'
structure Sound (P:Program) (shF:Nat→Nat) (F:Tab) (n:Nat):Prop where
 code:∀(c:Code) (ic:ICode) (nt:Nat),comp P shF nt c=some ic→∀(B:Nat) (S:Nat→Nat→Prop) (w0:World) (s:St) (x:Ex) (s':St) (m:M) (a:Act),
  m.h=s.heap→UIs m s.nx→Rel B S w0 nt m s.env a→evCode F n ic s=some (x,s')→c.wp P (CPost B S w0 nt m s x s') a m.w
 loop:∀(cb:Code) (ib:ICode) (nt:Nat),comp P shF nt cb=some ib→∀(B:Nat) (S:Nat→Nat→Prop) (w0:World) (s:St) (x:Ex) (s':St) (m:M) (a:Act),
  m.h=s.heap→UIs m s.nx→Rel B S w0 nt m s.env a→evCode F n (.loop ib) s=some (x,s')→
   ∀(b:Frame) (k:List Item) (cs:List Frame),∃e a' w',CPost B S w0 nt m s x s' e a' w'∧Arrives P (lone (b.at a (.code cb:: .inLoop cb::k)) cs m.w) b k cs e a' w'
 body:∀(f:Nat) (ds:List D) (h:Heap) (k:Nat) (rs:List D) (h':Heap) (nx':Nat),evBody F n f ds h k=some (rs,h',nx')→
  Callable P f∧∀(B:Nat) (S:Nat→Nat→Prop) (m:M) (us:List Value),m.h=h→UIs m k→HOK B S m→Keeps.Inv B m.w→All2 (RepD B S m) ds us→
   Calls P f us.toArray m.w fun e w'=>∃(v:Value) (m':M),e=.returned v∧m'.w=w'∧m'.h=h'∧UIs m' nx'∧HOK B S m'∧Evolves B S m m'∧RepD B S m' (tupD rs) v∧Below B m.w m'.w∧∀d,d∈rs→∀ds,d≠.tup ds
 fn:∀f vs rs,evFn F n f vs=some rs→FnOK P f vs rs
 lent:∀f as bs rs bs',evLent F n f as bs=some (rs,bs')→LentOK P f as bs rs bs'
theorem compFn_parts {fn:Func} {I:IFunc} (h:compFn P shF fn=some I):
  ∃c ic,fn.body=some c∧comp P shF fn.ntmps c=some ic∧compRes P fn.results.toList=some I.res∧I.body=ic∧I.nparams=fn.params.size+fn.nfree∧fn.params.size+fn.nfree≤fn.ntmps:=by
 unfold compFn at h
 simp only [Option.bind_eq_bind,Option.bind_eq_some_iff,Prod.exists] at h
 obtain ⟨c,h1,ic,h2,rs,h3,h4⟩:=h
 split at h4
 ·rename_i hc
  simp only [Option.some.injEq] at h4
  subst h4
  exact ⟨c,ic,h1,h2,h3,rfl,rfl,hc⟩
 ·cases h4
theorem resD_ok {B:Nat} {S:Nat→Nat→Prop} {w0:World} {nt:Nat} {m:M} {e:Env} {a:Act} (hr:Rel B S w0 nt m e a):∀{vars:List ResultVar} {rs:List Res} {ds:List D},compRes P vars=some rs→resD e m.h rs=some ds→
  ∃us:List Value,(vars.mapM (fun v=>match v with|ResultVar.tmp t=>(pure (a.tmps.getD t undef):Sem Value)|ResultVar.cell x t=>do loadVar t (←asAddr (a.tmps.getD x undef)))).run P m.w=.ok us m.w∧All2 (RepA B S m) ds us∧∀d,d∈ds→∀ds,d≠.tup ds
 |[],rs,ds,hc,hd=>by
  simp only [compRes,Option.some.injEq] at hc
  subst hc
  simp only [resD,Option.some.injEq] at hd
  subst hd
  exact ⟨[],rfl,trivial,by simp⟩
 |.tmp t::vars,rs,ds,hc,hd=>by
  simp only [compRes,Option.bind_eq_bind,Option.bind_eq_some_iff,Option.some.injEq] at hc
  obtain ⟨rs',h1,rfl⟩:=hc
  simp only [resD,Option.bind_eq_bind,Option.bind_eq_some_iff] at hd
  obtain ⟨ds',h2,h3⟩:=hd
  obtain ⟨us,h4,h5,h6⟩:=resD_ok hr h1 h2
  have henv:=hr.env t
  have hA:∃d,ds=d::ds'∧RepA B S m d (a.tmps.getD t undef)∧∀q,d≠.tup q:=by
   cases hg:getE e t with
   |tup q=>rw [hg] at h3;cases h3
   |_=>rw [hg] at h3 henv;simp only [Option.some.injEq] at h3;exact ⟨_,h3.symm,henv,fun q h=>by cases h⟩
  obtain ⟨d,rfl,hA1,hA2⟩:=hA
  refine ⟨a.tmps.getD t undef::us,?_,⟨hA1,h5⟩,fun d' hd'=>?_⟩
  ·simp only [List.mapM_cons,Sem.run_bind,Sem.run_pure,Result.andThen_ok,h4]
  ·simp only [List.mem_cons] at hd'
   rcases hd' with rfl|hd'
   ·exact hA2
   ·exact h6 d' hd'
 |.cell x t::vars,rs,ds,hc,hd=>by
  simp only [compRes,Option.bind_eq_bind,Option.bind_eq_some_iff,Option.some.injEq] at hc
  obtain ⟨agg,g1,i,g2,rs',h1,rfl⟩:=hc
  simp only [resD,Option.bind_eq_bind,Option.bind_eq_some_iff,Option.some.injEq] at hd
  obtain ⟨d,h0,ds',h2,rfl⟩:=hd
  obtain ⟨us,h4,h5,h6⟩:=resD_ok hr h1 h2
  obtain ⟨ad,v,e1,e2,e3⟩:=loadD_ok hr.hok g1 g2 (hr.env x) h0
  refine ⟨v::us,?_,⟨e3,h5⟩,fun d' hd'=>?_⟩
  ·have hA:(asAddr (.pointer (some ad))).run P m.w=.ok ad m.w:=rfl
   simp only [List.mapM_cons,Sem.run_bind,e1,hA,Sem.run_pure,Result.andThen_ok,e2,h4]
  ·simp only [List.mem_cons] at hd'
   rcases hd' with rfl|hd'
   ·intro q hq
    subst hq
    exact e3.elim
   ·exact h6 d' hd'
theorem results_ok {B:Nat} {S:Nat→Nat→Prop} {w0:World} {nt:Nat} {m:M} {e:Env} {a:Act} (hr:Rel B S w0 nt m e a) {fn:Func} {rs:List Res} {ds:List D} (hc:compRes P fn.results.toList=some rs) (hd:resD e m.h rs=some ds):
  ∃v,(results fn a.tmps).run P m.w=.ok v m.w∧RepD B S m (tupD ds) v∧∀d,d∈ds→∀ds,d≠.tup ds:=by
 obtain ⟨us,h1,h2,h3⟩:=resD_ok hr hc hd
 have hrun:(fn.results.mapM (fun v=>match v with|ResultVar.tmp t=>(pure (a.tmps.getD t undef):Sem Value)|ResultVar.cell x t=>do loadVar t (←asAddr (a.tmps.getD x undef)))).run P m.w=.ok us.toArray m.w:=by
  rw [Array.mapM_eq_mapM_toList,Sem.run_map,h1]
  rfl
 refine ⟨if h:us.toArray.size=1 then us.toArray[0] else .tuple us.toArray,?_,?_,h3⟩
 ·unfold results
  simp only [Sem.run_bind,Sem.run_pure]
  exact congrArg (fun r:Result (Array Value)=>r.andThen fun a w'=>Result.ok (if h:a.size=1 then a[0] else Value.tuple a) w') hrun
 ·match ds,us,h2 with
  |[d],[u],h2=>exact h2.1.toD
  |[],[],h2=>exact ⟨[],rfl,trivial⟩
  |d::d'::ds,u::u'::us,h2=>exact ⟨u::u'::us,rfl,h2⟩
theorem bindArgs_get:∀(ds:List D) (k t:Nat),getE (bindArgs k ds) t=if k≤t then (ds[t - k]?).getD .unk else .unk
 |[],k,t=>by simp [bindArgs,getE]
 |d::ds,k,t=>by
  simp only [bindArgs,getE]
  by_cases h:k=t
  ·subst h;simp
  ·rw [if_neg h,bindArgs_get ds (k+1) t]
   by_cases h2:k+1≤t
   ·rw [if_pos h2,if_pos (by omega),show t - k=(t - (k+1))+1 by omega]
    simp
   ·rw [if_neg h2,if_neg (by omega)]
theorem sound_zero:Sound P shF F 0 where
 code:=by intro c ic nt _ B S w0 s x s' m a _ _ _ h;simp [evCode] at h
 loop:=by intro cb ib nt _ B S w0 s x s' m a _ _ _ h;simp [evCode] at h
 body:=by intro f ds h nx rs h' nx' hh;simp [evBody] at hh
 fn:=by intro f vs rs hh;simp [evFn] at hh
 lent:=by intro f as bs rs bs' hh;simp [evLent] at hh
theorem sound_loop {n:Nat} (ih:Sound P shF F n):∀(cb:Code) (ib:ICode) (nt:Nat),comp P shF nt cb=some ib→∀(B:Nat) (S:Nat→Nat→Prop) (w0:World) (s:St) (x:Ex) (s':St) (m:M) (a:Act),
  m.h=s.heap→UIs m s.nx→Rel B S w0 nt m s.env a→evCode F (n+1) (.loop ib) s=some (x,s')→
   ∀(b:Frame) (k:List Item) (cs:List Frame),∃e a' w',CPost B S w0 nt m s x s' e a' w'∧Arrives P (lone (b.at a (.code cb:: .inLoop cb::k)) cs m.w) b k cs e a' w':=by
 intro cb ib nt h1 B S w0 s x s' m a hh hU hr hev b k cs
 simp only [evCode,Option.bind_eq_bind,Option.bind_eq_some_iff,Prod.exists] at hev
 obtain ⟨x1,s1,h3,h4⟩:=hev
 have hbody:=ih.code _ _ _ h1 B S w0 s x1 s1 m a hh hU hr h3
 obtain ⟨e1,a1,w1,hq,harr⟩:=hbody b (.inLoop cb::k) cs
 obtain ⟨m1,rfl,rfl,q1,q2,q3,q5⟩:=hq
 cases x1 with
 |normal=>
  simp only at h4
  obtain ⟨e2,a2,w2,hq2,harr2⟩:=ih.loop cb ib nt h1 B S w0 s1 x s' m1 a1 q1 q2 q3 h4 b k cs
  obtain ⟨m2,rfl,rfl,r1,r2,r3,r5⟩:=hq2
  refine ⟨exOf x,a2,m2.w,⟨m2,rfl,rfl,r1,r2,r3,q5.trans r5⟩,?_⟩
  have hstart:Steps P (lone (b.at a (.code cb:: .inLoop cb::k)) cs m.w) (lone (b.at a1 (.inLoop cb::k)) cs m1.w):=harr
  exact .of_steps (hstart.trans (.one step_inLoop)) harr2
 |exit id=>
  simp only [Option.some.injEq,Prod.mk.injEq] at h4
  obtain ⟨rfl,rfl⟩:=h4
  exact ⟨exOf (.exit id),a1,m1.w,⟨m1,rfl,rfl,q1,q2,q3,q5⟩,.pass (x:=.inLoop cb) rfl (fun _ _=> .inl (by simp [exOf])) harr⟩
 |ret=>
  simp only [Option.some.injEq,Prod.mk.injEq] at h4
  obtain ⟨rfl,rfl⟩:=h4
  exact ⟨exOf .ret,a1,m1.w,⟨m1,rfl,rfl,q1,q2,q3,q5⟩,.pass (x:=.inLoop cb) rfl (fun _ _=> .inl (by simp [exOf])) harr⟩
theorem sound_code (hT:Table P shF F) {n:Nat} (ih:Sound P shF F n):∀(c:Code) (ic:ICode) (nt:Nat),comp P shF nt c=some ic→
  ∀(B:Nat) (S:Nat→Nat→Prop) (w0:World) (s:St) (x:Ex) (s':St) (m:M) (a:Act),m.h=s.heap→UIs m s.nx→Rel B S w0 nt m s.env a→evCode F (n+1) ic s=some (x,s')→c.wp P (CPost B S w0 nt m s x s') a m.w:=by
 intro c ic nt hc B S w0 s x s' m a hh hU hr hev
 unfold comp at hc
 split at hc
 ·simp only [Option.some.injEq] at hc
  subst hc
  simp only [evCode,Option.some.injEq,Prod.mk.injEq] at hev
  obtain ⟨rfl,rfl⟩:=hev
  exact wp_skip ⟨m,rfl,rfl,hh,hU,hr,Evolves.refl m⟩
 ·simp only [Option.some.injEq] at hc
  subst hc
  simp only [evCode,Option.some.injEq,Prod.mk.injEq] at hev
  obtain ⟨rfl,rfl⟩:=hev
  exact wp_ret ⟨m,rfl,rfl,hh,hU,hr,Evolves.refl m⟩
 ·simp only [Option.some.injEq] at hc
  subst hc
  simp only [evCode,Option.some.injEq,Prod.mk.injEq] at hev
  obtain ⟨rfl,rfl⟩:=hev
  exact wp_exit ⟨m,rfl,rfl,hh,hU,hr,Evolves.refl m⟩
 ·rename_i id ops
  simp only [Option.bind_eq_bind,Option.bind_eq_some_iff,Option.some.injEq] at hc
  obtain ⟨is,h1,rfl⟩:=hc
  simp only [evCode,Option.bind_eq_bind,Option.bind_eq_some_iff,Option.some.injEq,Prod.mk.injEq] at hev
  obtain ⟨s1,h3,rfl,rfl⟩:=hev
  refine wp_region_list (seq_ok ih.fn ih.body ops.toList is h1 s s1 m a hh hU hr h3 fun a' m' q1 q2 q4 q5=>?_)
  exact ⟨m',rfl,rfl,q1,q2,q5,q4⟩
 ·rename_i id ops
  simp only [Option.bind_eq_bind,Option.bind_eq_some_iff] at hc
  obtain ⟨is,h1,h2⟩:=hc
  split at h2
  case isFalse=>cases h2
  rename_i hcc
  simp only [Option.some.injEq] at h2
  subst h2
  simp only [evCode,Option.bind_eq_bind,Option.bind_eq_some_iff,Prod.exists] at hev
  obtain ⟨e1,h1',ts,h3,h4⟩:=hev
  split at h4
  case isFalse=>cases h4
  rename_i hdr
  simp only [Option.some.injEq,Prod.mk.injEq] at h4
  obtain ⟨rfl,rfl⟩:=h4
  refine draw_ok hT.mixed ih.fn ih.lent h1 hcc.1 hcc.2 hh hU hr h3 hdr fun a' m' q1 q2 q3 q4=>?_
  exact ⟨m',rfl,rfl,q1,q2,q4,q3⟩
 ·rename_i ca cb
  simp only [Option.bind_eq_bind,Option.bind_eq_some_iff,Option.some.injEq] at hc
  obtain ⟨ia,h1,ib,h2,rfl⟩:=hc
  simp only [evCode,Option.bind_eq_bind,Option.bind_eq_some_iff,Prod.exists] at hev
  obtain ⟨x1,s1,h3,h4⟩:=hev
  refine wp_seq (wp_mono (ih.code _ _ _ h1 B S w0 s x1 s1 m a hh hU hr h3) fun e a1 w1 hp=>?_)
  obtain ⟨m1,rfl,rfl,q1,q2,q3,q5⟩:=hp
  cases x1 with
  |normal=>
   simp only at h4
   refine wp_mono (ih.code _ _ _ h2 B S w0 s1 x s' m1 a1 q1 q2 q3 h4) fun e a2 w2 hp2=>?_
   obtain ⟨m2,rfl,rfl,r1,r2,r3,r5⟩:=hp2
   exact ⟨m2,rfl,rfl,r1,r2,r3,q5.trans r5⟩
  |exit id=>
   simp only [Option.some.injEq,Prod.mk.injEq] at h4
   obtain ⟨rfl,rfl⟩:=h4
   exact ⟨m1,rfl,rfl,q1,q2,q3,q5⟩
  |ret=>
   simp only [Option.some.injEq,Prod.mk.injEq] at h4
   obtain ⟨rfl,rfl⟩:=h4
   exact ⟨m1,rfl,rfl,q1,q2,q3,q5⟩
 ·rename_i cc ca cb
  simp only [Option.bind_eq_bind,Option.bind_eq_some_iff,Option.some.injEq] at hc
  obtain ⟨X',hx,ia,h1,ib,h2,rfl⟩:=hc
  simp only [evCode,Option.bind_eq_bind,Option.bind_eq_some_iff] at hev
  obtain ⟨t,h3,h4⟩:=hev
  have e1:=hr.opd cc X' hx
  rw [asBool_some h3] at e1
  refine wp_cond e1.lit ?_
  cases t with
  |true=>exact ih.code _ _ _ h1 B S w0 s x s' m a hh hU hr h4
  |false=>exact ih.code _ _ _ h2 B S w0 s x s' m a hh hU hr h4
 ·rename_i id cb
  simp only [Option.bind_eq_bind,Option.bind_eq_some_iff,Option.some.injEq] at hc
  obtain ⟨ib,h1,rfl⟩:=hc
  simp only [evCode,Option.bind_eq_bind,Option.bind_eq_some_iff,Prod.exists] at hev
  obtain ⟨x1,s1,h3,h4⟩:=hev
  refine wp_block (wp_mono (ih.code _ _ _ h1 B S w0 s x1 s1 m a hh hU hr h3) fun e a1 w1 hp=>?_)
  obtain ⟨m1,rfl,rfl,q1,q2,q3,q5⟩:=hp
  cases x1 with
  |normal=>
   simp only [Option.some.injEq,Prod.mk.injEq] at h4
   obtain ⟨rfl,rfl⟩:=h4
   exact ⟨m1,rfl,rfl,q1,q2,q3,q5⟩
  |ret=>
   simp only [Option.some.injEq,Prod.mk.injEq] at h4
   obtain ⟨rfl,rfl⟩:=h4
   exact ⟨m1,rfl,rfl,q1,q2,q3,q5⟩
  |exit id'=>
   simp only at h4
   show (if id'=id then _ else _)
   split at h4
   ·rename_i he
    rw [if_pos he]
    simp only [Option.some.injEq,Prod.mk.injEq] at h4
    obtain ⟨rfl,rfl⟩:=h4
    exact ⟨m1,rfl,rfl,q1,q2,q3,q5⟩
   ·rename_i he
    rw [if_neg he]
    simp only [Option.some.injEq,Prod.mk.injEq] at h4
    obtain ⟨rfl,rfl⟩:=h4
    exact ⟨m1,rfl,rfl,q1,q2,q3,q5⟩
 ·rename_i cb
  simp only [Option.bind_eq_bind,Option.bind_eq_some_iff,Option.some.injEq] at hc
  obtain ⟨ib,h1,rfl⟩:=hc
  intro b k cs
  obtain ⟨e1,a1,w1,hq,harr⟩:=sound_loop ih cb ib nt h1 B S w0 s x s' m a hh hU hr hev b k cs
  exact ⟨e1,a1,w1,hq,.of_steps (.one step_loop) harr⟩
 ·cases hc
theorem sound_body (hT:Table P shF F) {n:Nat} (ih:Sound P shF F n):∀(f:Nat) (ds:List D) (h:Heap) (k:Nat) (rs:List D) (h':Heap) (nx':Nat),evBody F (n+1) f ds h k=some (rs,h',nx')→
  Callable P f∧∀(B:Nat) (S:Nat→Nat→Prop) (m:M) (us:List Value),m.h=h→UIs m k→HOK B S m→Keeps.Inv B m.w→All2 (RepD B S m) ds us→
   Calls P f us.toArray m.w fun e w'=>∃(v:Value) (m':M),e=.returned v∧m'.w=w'∧m'.h=h'∧UIs m' nx'∧HOK B S m'∧Evolves B S m m'∧RepD B S m' (tupD rs) v∧Below B m.w m'.w∧∀d,d∈rs→∀ds,d≠.tup ds:=by
 intro f ds h k rs h' nx' hev
 simp only [evBody,Option.bind_eq_bind,Option.bind_eq_some_iff] at hev
 obtain ⟨I,hI,hev⟩:=hev
 split at hev
 case isFalse=>cases hev
 rename_i hlen
 simp only [Option.bind_eq_some_iff,Prod.exists] at hev
 obtain ⟨x,s1,h1,h2⟩:=hev
 obtain ⟨fn,g1,g2,g3⟩:=hT.ok f I hI
 obtain ⟨c,ic,b1,b2,b3,b4,b5,b6⟩:=compFn_parts g2
 refine ⟨⟨fn,g1,by rw [b1];rfl,g3⟩,fun B S m us hh hU hk hinv hall=>?_⟩
 have hus:us.length=fn.params.size+fn.nfree:=by rw [←hall.len,hlen,b5]
 have hfin:∃rs0,resD s1.env s1.heap I.res=some rs0∧rs=rs0∧h'=s1.heap∧nx'=s1.nx∧x≠.exit 0∧(∀id,x≠.exit id):=by
  cases x with
  |exit id=>simp at h2
  |normal=>
   simp only [Option.bind_eq_some_iff,Option.some.injEq,Prod.mk.injEq] at h2
   obtain ⟨rs0,h3,rfl,rfl,rfl⟩:=h2
   exact ⟨rs0,h3,rfl,rfl,rfl,by simp,by simp⟩
  |ret=>
   simp only [Option.bind_eq_some_iff,Option.some.injEq,Prod.mk.injEq] at h2
   obtain ⟨rs0,h3,rfl,rfl,rfl⟩:=h2
   exact ⟨rs0,h3,rfl,rfl,rfl,by simp,by simp⟩
 obtain ⟨rs0,hres,rfl,rfl,rfl,_,hnx⟩:=hfin
 refine calls_of_wp g1 b1 ?_
 have hsz:us.toArray.size=fn.params.size+fn.nfree:=by simpa using hus
 have hrel:Rel B S m.w fn.ntmps m (bindArgs 0 ds) { tmps:=us.toArray++Array.replicate (fn.ntmps - us.toArray.size) undef,defers:=[]}:=by
  refine ⟨rfl,by simp;omega,fun t=>?_,hk,Below.refl _ _,hinv⟩
  rw [bindArgs_get]
  simp only [Nat.zero_le,if_true,Nat.sub_zero]
  cases hd:ds[t]? with
  |none=>trivial
  |some d=>
   obtain ⟨u,hu,hR⟩:=hall.get t hd
   have:(us.toArray++Array.replicate (fn.ntmps - us.toArray.size) undef).getD t undef=u:=by
    have hlt:t < us.length:=(List.getElem?_eq_some_iff.1 hu).1
    simp [Array.getElem?_append,hlt]
    exact (List.getElem?_eq_some_iff.1 hu).2
   rw [this]
   exact hR
 rw [b4] at h1
 have hwp:=ih.code c ic fn.ntmps b2 B S m.w ⟨bindArgs 0 ds,h,k⟩ x s1 m _ hh hU hrel h1
 refine wp_mono hwp fun e a' w' hp=>?_
 obtain ⟨m',rfl,rfl,q1,q2,q3,q5⟩:=hp
 obtain ⟨v,r1,r2,r3⟩:=results_ok q3 b3 (by rw [q1];exact hres)
 have hpost:a'.defers=[]∧∃v,(results fn a'.tmps).run P m'.w=.ok v m'.w∧(∃(v':Value) (m'':M),Ending.returned v=.returned v'∧m''.w=m'.w∧m''.h=s1.heap∧UIs m'' s1.nx∧HOK B S m''∧Evolves B S m m''∧RepD B S m'' (tupD rs) v'∧Below B m.w m''.w∧∀d,d∈rs→∀ds,d≠.tup ds):=
  ⟨q3.defers,v,r1,v,m',rfl,rfl,q1,q2,q3.hok,q5,r2,q3.below,r3⟩
 cases x with
 |exit id=>exact absurd rfl (hnx id)
 |normal=>exact hpost
 |ret=>exact hpost
theorem RepV.toD0 {B:Nat} {S:Nat→Nat→Prop} {m:M} (h0:∀id,getH m.h id=.dead) {v:V} {u:Value} (h:RepV m.w S v u):RepD B S m v.toD u:=by
 have h1:RepV m.w (Safe B S m) v u:=RepV.weaken (fun b o hs _=>⟨hs,fun id=>by rw [h0];trivial⟩) h
 exact (RepV.toD h1).toD
theorem sound_fn (hT:Table P shF F) {n:Nat} (ih:Sound P shF F n):∀f vs rs,evFn F (n+1) f vs=some rs→FnOK P f vs rs:=by
 intro f vs rs hev
 rw [evFn] at hev
 split at hev
 ·rename_i rs' hn
  simp only [Option.some.injEq] at hev
  subst hev
  exact hT.nat f vs _ hn
 simp only [Option.bind_eq_bind,Option.bind_eq_some_iff,Prod.exists,Option.some.injEq] at hev
 obtain ⟨ds,h,nx,h1,rs',us0,h2,rfl⟩:=hev
 obtain ⟨hc,hb⟩:=ih.body f _ _ _ ds h nx h1
 refine ⟨hc,fun S w us hinv hall=>?_⟩
 have hk:HOK w.heap.size (fun b o=>b < w.heap.size→S b o) ⟨w,[],fun _=>0,fun i=>i < 0⟩:=⟨fun id=>trivial,fun i j hi _ _=>absurd rfl hi,fun _ _=>rfl,Nat.le_refl _,fun b o hb h=>absurd h (Nat.not_lt.2 hb),fun id cs esz fz ety hg=>by cases hg⟩
 have hall':All2 (RepD w.heap.size (fun b o=>b < w.heap.size→S b o) ⟨w,[],fun _=>0,fun i=>i < 0⟩) (vs.map V.toD) us:=hall.map_mono fun v u hv=>RepV.toD0 (B:=w.heap.size) (S:=fun b o=>b < w.heap.size→S b o) (m:=⟨w,[],fun _=>0,fun i=>i < 0⟩) (fun _=>rfl) (RepV.weaken (Sf':=fun b o=>b < w.heap.size→S b o) (fun b o hs _ _=>hs) hv)
 refine (hb w.heap.size (fun b o=>b < w.heap.size→S b o) ⟨w,[],fun _=>0,fun i=>i < 0⟩ us rfl (fun _=>Iff.rfl) hk hinv hall').mono fun e w' ⟨v,m',q1,q2,q3,q4,q5,_,q7,q8,q9⟩=>?_
 subst q1 q2
 refine ⟨v,rfl,?_,q8⟩
 have weak:∀{h'':Heap} {r:V} {u:Value},RepV m'.w (Safe w.heap.size (fun b o=>b < w.heap.size→S b o) (m'.heap h'')) r u→RepV m'.w (fun b o=>b < w.heap.size→S b o) r u:=fun hr=>RepV.weaken (fun b o hs _=>hs.1) hr
 rw [←q3] at h2
 match ds,q7,h2,q9 with
 |[d],q7,h2,q9=>
  simp only [frzVs,Option.bind_eq_bind,Option.bind_eq_some_iff,Prod.exists,Option.some.injEq,Prod.mk.injEq] at h2
  obtain ⟨c,x,h3,cs',xs',⟨rfl,rfl⟩,rfl,rfl⟩:=h2
  have hA:RepA w.heap.size (fun b o=>b < w.heap.size→S b o) m' d v:=by
   cases d with
   |tup q=>exact absurd rfl (q9 (.tup q) (by simp) q)
   |_=>exact q7
  exact weak (frzV_ok q5 hA h3).2.2
 |[],q7,h2,q9=>
  simp only [frzVs,Option.some.injEq,Prod.mk.injEq] at h2
  obtain ⟨rfl,rfl⟩:=h2
  obtain ⟨vs',rfl,hv⟩:=q7
  cases vs' with
  |nil=>exact ⟨[],rfl,trivial⟩
  |cons _ _=>exact hv.elim
 |d::d'::ds,q7,h2,q9=>
  obtain ⟨vs',rfl,hv⟩:=q7
  have h3:=(frzVs_ok q5 hv h2).2.2
  have hlen:=h3.len
  match rs',h3 with
  |[],h3=>cases vs' with|nil=>exact hv.elim|cons _ _=>exact h3.elim
  |[r],h3=>
   exfalso
   have:=hv.len
   rw [←hlen] at this
   simp at this
  |r::r'::rs'',h3=>exact ⟨vs',rfl,h3.mono fun _ _ h=>weak h⟩
theorem sound_lent {n:Nat} (ih:Sound P shF F n):∀f as bs rs bs',evLent F (n+1) f as bs=some (rs,bs')→LentOK P f as bs rs bs':=by
 intro f as bs rs bs' h
 simp only [evLent,Option.bind_eq_bind,Option.bind_eq_some_iff,Prod.exists,Option.some.injEq,Prod.mk.injEq] at h
 obtain ⟨ds,h',n',h1,rs',us,h2,bs1,us',h3,rfl,rfl⟩:=h
 exact ⟨ds,h',n',us,us',ih.body _ _ _ _ _ _ _ h1,h2,h3⟩
theorem sound (hT:Table P shF F):∀n,Sound P shF F n
 |0=>sound_zero
 |n+1=>⟨sound_code hT (sound hT n),sound_loop (sound hT n),sound_body hT (sound hT n),sound_fn hT (sound hT n),sound_lent (sound hT n)⟩
theorem ev_sound (hT:Table P shF F) {n f:Nat} {vs rs:List V} (h:evFn F n f vs=some rs):FnOK P f vs rs:=(sound hT n).fn f vs rs h
end
end Go.Ey

namespace Go.Ey
inductive K where
 |i (k:IntKind) (n:Int)
 |b (x:Bool)
 |s (len w:Nat)
 |sl (esz:Nat) (rev:List (List K)) (n:Nat)
 |o (v:Value)
inductive KW where
 |c (x:K)
 |l (n:Nat) (xs:List K)
inductive KA where
 |v (i:Nat)
 |n (i j:Nat)
 |k (c:K)
inductive KS where
 |lit (n:Nat) (as:List KA)
 |all (i:Nat)
inductive KV where
 |one (a:KA)
 |agg (s:KS)
inductive KO where
 |add (a b:KA)
 |sub (a b:KA)
 |mul (a b:KA)
 |quo (a b:KA)
 |rem (a b:KA)
 |eql (a b:KA)
 |neq (a b:KA)
 |lss (a b:KA)
 |leq (a b:KA)
 |gtr (a b:KA)
 |geq (a b:KA)
 |not (a:KA)
 |neg (a:KA)
 |conv (k:IntKind) (a:KA)
 |eqs (ks:List Nat) (neg:Bool) (as bs:KS)
 |len (isStr:Bool) (a:KA)
 |app (esz bytes:Nat) (s t:KA)
 |set (esz:Nat) (s i:KA) (off m:Nat) (vs:List KA)
 |slc (esz:Nat) (s:KA) (lo hi:Option KA)
 |sstr (s:KA) (lo hi:Option KA)
 |sidx (s i:KA)
 |toStr (s:KA)
 |mk (esz bytes:Nat) (zero:List K) (l c:KA)
 |mx (a b:KA)
 |mn (a b:KA)
 |lits (esz len:Nat) (xs:List KA)
 |shz (a b:KA)
 |anz (a b:KA)
 |no
inductive KTree where
 |opc (o:KO) (t:KTree)
 |row (esz:Nat) (s i:KA) (t:KTree)
 |ite (a:KA) (t e:KTree)
 |call (f:Nat) (args:List KV) (bs:List KS) (rs:List (Option Nat)) (bl:List Nat) (t:KTree)
 |goto (h n:Nat) (args:List KV)
 |ret (rs:List KV) (bs:List KS)
 |fail
inductive Ans where
 |fail
 |ret (vs bs:List KW)
 |stop (ws:List KW)
noncomputable section
def forceN (n:Nat) (k:Nat→Ans):Ans:=Nat.casesOn (motive:=fun _=>Ans) n (k 0) fun m=>k (Nat.succ m)
def forceI (n:Int) (k:Int→Ans):Ans:=Int.casesOn (motive:=fun _=>Ans) n (fun m=>forceN m fun m=>k (.ofNat m)) (fun m=>forceN m fun m=>k (.negSucc m))
def forceB (b:Bool) (k:Bool→Ans):Ans:=Bool.casesOn (motive:=fun _=>Ans) b (k false) (k true)
def forceL {α:Type} (l:List α) (k:List α→Ans):Ans:=List.rec (motive:=fun _=>(List α→Ans)→Ans) (fun k=>k []) (fun x _ ih k=>ih fun r=>k (x::r)) l k
def kget (l:List KW):Nat→(KW→Ans)→Ans:=List.rec (motive:=fun _=>Nat→(KW→Ans)→Ans) (fun _ _=> .fail) (fun w _ ih i=>Nat.casesOn (motive:=fun _=>(KW→Ans)→Ans) i (fun k=>k w) ih) l
def knth (l:List K):Nat→(K→Ans)→Ans:=List.rec (motive:=fun _=>Nat→(K→Ans)→Ans) (fun _ _=> .fail) (fun w _ ih i=>Nat.casesOn (motive:=fun _=>(K→Ans)→Ans) i (fun k=>k w) ih) l
def onC (w:KW) (k:K→Ans):Ans:=KW.casesOn (motive:=fun _=>Ans) w k fun _ _=> .fail
def onL (w:KW) (k:Nat→List K→Ans):Ans:=KW.casesOn (motive:=fun _=>Ans) w (fun _=> .fail) k
def onI (x:K) (k:IntKind→Int→Ans):Ans:=K.casesOn (motive_1:=fun _=>Ans) x k (fun _=> .fail) (fun _ _=> .fail) (fun _ _ _=> .fail) (fun _=> .fail)
def onB (x:K) (k:Bool→Ans):Ans:=K.casesOn (motive_1:=fun _=>Ans) x (fun _ _=> .fail) k (fun _ _=> .fail) (fun _ _ _=> .fail) (fun _=> .fail)
def onN (n:Int) (k:Nat→Ans):Ans:=Int.casesOn (motive:=fun _=>Ans) n k fun _=> .fail
def onSl (x:K) (k:Nat→List (List K)→Nat→Ans):Ans:=K.casesOn (motive_1:=fun _=>Ans) x (fun _ _=> .fail) (fun _=> .fail) (fun _ _=> .fail) k (fun _=> .fail)
def onS (x:K) (k:Nat→Nat→Ans):Ans:=K.casesOn (motive_1:=fun _=>Ans) x (fun _ _=> .fail) (fun _=> .fail) k (fun _ _ _=> .fail) (fun _=> .fail)
def kk (k:IntKind):Nat:=IntKind.casesOn (motive:=fun _=>Nat) k 0 1 2 3 4 5 6 7
def onII (x y:K) (k:IntKind→Int→Int→Ans):Ans:=onI x fun p n=>onI y fun q m=>cond (Nat.beq (kk p) (kk q)) (k p n m) .fail
def kA (ρ:List KW) (a:KA) (k:K→Ans):Ans:=KA.casesOn (motive:=fun _=>Ans) a (fun i=>kget ρ i fun w=>onC w k) (fun i j=>kget ρ i fun w=>onL w fun _ xs=>knth xs j k) k
def kAs (ρ:List KW) (l:List KA):(List K→Ans)→Ans:=List.rec (motive:=fun _=>(List K→Ans)→Ans) (fun k=>k []) (fun a _ ih k=>kA ρ a fun x=>ih fun xs=>k (x::xs)) l
def kS (ρ:List KW) (s:KS) (k:Nat→List K→Ans):Ans:=KS.casesOn (motive:=fun _=>Ans) s (fun n as=>kAs ρ as fun xs=>k n xs) (fun i=>kget ρ i fun w=>onL w k)
def kSs (ρ:List KW) (l:List KS):(List KW→Ans)→Ans:=List.rec (motive:=fun _=>(List KW→Ans)→Ans) (fun k=>k []) (fun a _ ih k=>kS ρ a fun n x=>ih fun xs=>k (.l n x::xs)) l
def kV (ρ:List KW) (v:KV) (k:KW→Ans):Ans:=KV.casesOn (motive:=fun _=>Ans) v (fun a=>kA ρ a fun x=>k (.c x)) (fun s=>kS ρ s fun n xs=>k (.l n xs))
def kVs (ρ:List KW) (l:List KV):(List KW→Ans)→Ans:=List.rec (motive:=fun _=>(List KW→Ans)→Ans) (fun k=>k []) (fun a _ ih k=>kV ρ a fun x=>ih fun xs=>k (x::xs)) l
def kPs (ρ:List KW) (l:List KV):List KW→(List KW→Ans)→Ans:=List.rec (motive:=fun _=>List KW→(List KW→Ans)→Ans) (fun acc k=>k acc) (fun a _ ih acc k=>kV ρ a fun x=>ih (x::acc) k) l
def kwrap (k:IntKind) (n:Int):Int:=
 match k,n with
 |.i64,.ofNat m=>cond (Nat.ble m 9223372036854775807) n (k.wrap n)
 |.u8,.ofNat m=>cond (Nat.ble m 255) n (k.wrap n)
 |.i64,.negSucc m=>cond (Nat.ble m 9223372036854775807) n (k.wrap n)
 |k,n=>k.wrap n
def keq:Int→Int→Bool
 |.ofNat a,.ofNat b=>Nat.beq a b
 |.negSucc a,.negSucc b=>Nat.beq a b
 |_,_=>false
def klt:Int→Int→Bool
 |.ofNat a,.ofNat b=>Nat.ble (Nat.succ a) b
 |.negSucc a,.negSucc b=>Nat.ble (Nat.succ b) a
 |.negSucc _,.ofNat _=>true
 |.ofNat _,.negSucc _=>false
def kIn (k:IntKind) (n:Int) (r:K→Ans):Ans:=forceI (kwrap k n) fun m=>r (.i k m)
def kBn (b:Bool) (r:K→Ans):Ans:=forceB b fun b=>r (.b b)
abbrev Op:=List KW→(K→Ans)→Ans
def krm:Nat:=140737488355328
def kAdd (a b:KA):Op:=fun ρ r=>kA ρ a fun x=>kA ρ b fun y=>K.casesOn (motive_1:=fun _=>Ans) x (fun _ _=>onII x y fun k n m=>kIn k (n+m) r) (fun _=> .fail)
 (fun l v=>onS y fun m w=>forceN (l+m) fun lm=>cond (Nat.ble lm krm) (forceN (v+Nat.shiftLeft w (8 * l)) fun u=>r (.s lm u)) .fail) (fun _ _ _=> .fail) (fun _=> .fail)
def kSub (a b:KA):Op:=fun ρ r=>kA ρ a fun x=>kA ρ b fun y=>onII x y fun k n m=>kIn k (n - m) r
def kMul (a b:KA):Op:=fun ρ r=>kA ρ a fun x=>kA ρ b fun y=>onII x y fun k n m=>kIn k (n * m) r
def kQuo (a b:KA):Op:=fun ρ r=>kA ρ a fun x=>kA ρ b fun y=>onII x y fun k n m=>cond (keq m 0) .fail (kIn k (n.tdiv m) r)
def kRem (a b:KA):Op:=fun ρ r=>kA ρ a fun x=>kA ρ b fun y=>onII x y fun k n m=>cond (keq m 0) .fail (forceI (n.tmod m) fun q=>r (.i k q))
def kEq (x y:K) (r:Bool→Ans):Ans:=K.casesOn (motive_1:=fun _=>Ans) x (fun _ _=>onII x y fun _ n m=>r (keq n m)) (fun p=>onB y fun q=>r (not (xor p q))) (fun l v=>onS y fun m w=>r (and (Nat.beq l m) (Nat.beq v w))) (fun _ _ _=> .fail) (fun _=> .fail)
def kEqN (x y:K) (r:Bool→Ans):Ans:=K.casesOn (motive_1:=fun _=>Ans) x (fun _ _=>onII x y fun _ n m=>r (keq n m)) (fun _=> .fail) (fun l v=>onS y fun m w=>r (and (Nat.beq l m) (Nat.beq v w))) (fun _ _ _=> .fail) (fun _=> .fail)
def kEql (a b:KA):Op:=fun ρ r=>kA ρ a fun x=>kA ρ b fun y=>kEqN x y fun q=>kBn q r
def kNeq (a b:KA):Op:=fun ρ r=>kA ρ a fun x=>kA ρ b fun y=>kEqN x y fun q=>kBn (not q) r
def kLss (a b:KA):Op:=fun ρ r=>kA ρ a fun x=>kA ρ b fun y=>onII x y fun _ n m=>kBn (klt n m) r
def kLeq (a b:KA):Op:=fun ρ r=>kA ρ a fun x=>kA ρ b fun y=>onII x y fun _ n m=>kBn (not (klt m n)) r
def kGtr (a b:KA):Op:=fun ρ r=>kA ρ a fun x=>kA ρ b fun y=>onII x y fun _ n m=>kBn (klt m n) r
def kGeq (a b:KA):Op:=fun ρ r=>kA ρ a fun x=>kA ρ b fun y=>onII x y fun _ n m=>kBn (not (klt n m)) r
def kNot (a:KA):Op:=fun ρ r=>kA ρ a fun x=>onB x fun p=>kBn (not p) r
def kNeg (a:KA):Op:=fun ρ r=>kA ρ a fun x=>onI x fun k n=>kIn k (0 - n) r
def kConv (k:IntKind) (a:KA):Op:=fun ρ r=>kA ρ a fun x=>onI x fun _ n=>kIn k n r
def kkind (x:K):Nat:=K.casesOn (motive_1:=fun _=>Nat) x (fun _ _=>0) (fun _=>2) (fun _ _=>1) (fun _ _ _=>3) (fun _=>3)
def keqs (ks:List Nat):List K→List K→(Bool→Ans)→Ans:=List.rec (motive:=fun _=>List K→List K→(Bool→Ans)→Ans)
 (fun xs ys r=>List.casesOn (motive:=fun _=>Ans) xs (List.casesOn (motive:=fun _=>Ans) ys (r true) fun _ _=> .fail) fun _ _=> .fail)
 (fun n _ ih xs ys r=>List.casesOn (motive:=fun _=>Ans) xs .fail fun x xs=>List.casesOn (motive:=fun _=>Ans) ys .fail fun y ys=>cond (Nat.beq (kkind x) n) (kEq x y fun q=>ih xs ys fun p=>r (and q p)) .fail) ks
def kEqs (ks:List Nat) (neg:Bool) (as bs:KS):Op:=fun ρ r=>kS ρ as fun _ xs=>kS ρ bs fun _ ys=>keqs ks xs ys fun q=>kBn (xor neg q) r
def kLen (isStr:Bool) (a:KA):Op:=fun ρ r=>kA ρ a fun x=>K.casesOn (motive_1:=fun _=>Ans) x (fun _ _=> .fail) (fun _=> .fail) (fun l _=>cond isStr (r (.i .i64 (.ofNat l))) .fail) (fun _ _ n=>cond isStr .fail (r (.i .i64 (.ofNat n)))) (fun _=> .fail)
def kesz (esz e n:Nat) (k:Ans):Ans:=cond (Nat.beq e esz) k (cond (Nat.beq n 0) k .fail)
def krevB (n:Nat):Nat→List (List K)→List (List K):=Nat.rec (motive:=fun _=>Nat→List (List K)→List (List K)) (fun _ acc=>acc) (fun _ ih w acc=>ih (Nat.shiftRight w 8) ([.i .u8 (.ofNat (Nat.mod w 256))]::acc)) n
def kApp (esz bytes:Nat) (s t:KA):Op:=fun ρ r=>kA ρ s fun x=>kA ρ t fun y=>onSl x fun e xs n=>kesz esz e n (K.casesOn (motive_1:=fun _=>Ans) y (fun _ _=> .fail) (fun _=> .fail)
 (fun l w=>cond (Nat.beq esz 1) (forceL (krevB l w xs) fun zs=>forceN (n+l) fun m=>cond (Nat.ble (m * bytes) krm) (cond (Nat.ble m krm) (r (.sl esz zs m)) .fail) .fail) .fail)
 (fun e' ys m=>kesz esz e' m (cond (Nat.beq esz 0) .fail (forceL (ys++xs) fun zs=>forceN (n+m) fun k=>cond (Nat.ble (k * bytes) krm) (cond (Nat.ble k krm) (r (.sl esz zs k)) .fail) .fail))) (fun _=> .fail))
def ksetR (rev:List (List K)):Nat→(List K→List K)→List (List K):=List.rec (motive:=fun _=>Nat→(List K→List K)→List (List K)) (fun _ _=>[]) (fun x xs ih i g=>Nat.casesOn (motive:=fun _=>List (List K)) i (g x::xs) fun j=>x::ih j g) rev
def kSet (esz:Nat) (s i:KA) (off m:Nat) (vs:List KA):Op:=fun ρ r=>kA ρ s fun x=>kA ρ i fun y=>kAs ρ vs fun ys=>onSl x fun e xs n=>onI y fun _ p=>onN p fun j=>cond (Nat.ble (Nat.succ j) n) (cond (Nat.beq e esz) (cond (Nat.ble (off+m) esz) (forceL (ksetR xs (n - Nat.succ j) fun row=>splice row off ys) fun zs=>r (.sl esz zs n)) .fail) .fail) .fail
def klo (ρ:List KW) (a:Option KA) (d:Nat) (k:Nat→Ans):Ans:=Option.casesOn (motive:=fun _=>Ans) a (k d) fun a=>kA ρ a fun x=>onI x fun _ n=>onN n k
def kSlc (esz:Nat) (s:KA) (lo hi:Option KA):Op:=fun ρ r=>kA ρ s fun x=>onSl x fun e xs n=>kesz esz e n (klo ρ lo 0 fun l=>klo ρ hi n fun h=>cond (and (Nat.ble l h) (Nat.ble h n)) (forceN (h - l) fun m=>forceL ((xs.drop (n - h)).take m) fun zs=>r (.sl esz zs m)) .fail)
def kSstr (s:KA) (lo hi:Option KA):Op:=fun ρ r=>kA ρ s fun x=>onS x fun n w=>klo ρ lo 0 fun l=>klo ρ hi n fun h=>cond (and (Nat.ble l h) (Nat.ble h n)) (forceN (h - l) fun m=>forceN (Nat.mod (Nat.shiftRight w (8 * l)) (Nat.shiftLeft 1 (8 * m))) fun v=>r (.s m v)) .fail
def kSidx (s i:KA):Op:=fun ρ r=>kA ρ s fun x=>kA ρ i fun y=>onS x fun n w=>onI y fun _ m=>onN m fun j=>cond (Nat.ble (Nat.succ j) n) (forceN (Nat.mod (Nat.shiftRight w (8 * j)) 256) fun v=>r (.i .u8 (.ofNat v))) .fail
def kpack (rev:List (List K)):Nat→(Nat→Ans)→Ans:=List.rec (motive:=fun _=>Nat→(Nat→Ans)→Ans) (fun w k=>k w) (fun row _ ih w k=>List.casesOn (motive:=fun _=>Ans) row .fail fun x _=>onI x fun p n=>cond (Nat.beq (kk p) 4) (onN n fun b=>cond (Nat.ble b 255) (forceN (b+256 * w) fun v=>ih v k) .fail) .fail) rev
def kToStr (s:KA):Op:=fun ρ r=>kA ρ s fun x=>onSl x fun e xs n=>kesz 1 e n (kpack xs 0 fun w=>r (.s n w))
def krep (zero:List K) (n:Nat):List (List K):=Nat.rec (motive:=fun _=>List (List K)) [] (fun _ ih=>zero::ih) n
def kMk (esz bytes:Nat) (zero:List K) (l c:KA):Op:=fun ρ r=>kA ρ l fun x=>kA ρ c fun y=>onI x fun _ n=>onN n fun m=>onI y fun _ p=>onN p fun q=>cond (Nat.ble m q) (cond (Nat.ble (q * bytes) krm) (cond (Nat.ble q krm) (cond (Nat.beq esz 0) .fail (forceL (krep zero m) fun zs=>r (.sl esz zs m))) .fail) .fail) .fail
def kMx (a b:KA):Op:=fun ρ r=>kA ρ a fun x=>kA ρ b fun y=>onII x y fun k n m=>cond (klt n m) (r (.i k m)) (r (.i k n))
def kMn (a b:KA):Op:=fun ρ r=>kA ρ a fun x=>kA ρ b fun y=>onII x y fun k n m=>cond (klt m n) (r (.i k m)) (r (.i k n))
def kchop (esz n:Nat):List K→List (List K)→(List (List K)→Ans)→Ans:=Nat.rec (motive:=fun _=>List K→List (List K)→(List (List K)→Ans)→Ans) (fun _ acc k=>k acc) (fun _ ih xs acc k=>forceL (xs.take esz) fun row=>ih (xs.drop esz) (row::acc) k) n
def kLits (esz len:Nat) (xs:List KA):Op:=fun ρ r=>kAs ρ xs fun ys=>cond (Nat.ble len krm) (cond (Nat.beq esz 0) .fail (kchop esz len ys [] fun zs=>r (.sl esz zs len))) .fail
def kShz (a b:KA):Op:=fun ρ r=>kA ρ a fun x=>kA ρ b fun y=>onI x fun p n=>onI y fun _ m=>onN m fun j=>cond (keq n 0) (r (.i p (.ofNat 0))) (onN n fun i=>cond (Nat.ble j 8) (forceN (Nat.div i (Nat.pow 2 j)) fun q=>r (.i p (.ofNat q))) .fail)
def kAnz (a b:KA):Op:=fun ρ r=>kA ρ a fun x=>kA ρ b fun y=>onII x y fun p n _=>cond (keq n 0) (r (.i p (.ofNat 0))) .fail
def kop (o:KO):Op:=KO.casesOn (motive:=fun _=>Op) o kAdd kSub kMul kQuo kRem kEql kNeq kLss kLeq kGtr kGeq kNot kNeg kConv kEqs kLen kApp kSet kSlc kSstr kSidx kToStr kMk kMx kMn kLits kShz kAnz (fun _ _=> .fail)
def krow (esz:Nat) (x y:K) (k:List K→Ans):Ans:=onSl x fun e xs n=>onI y fun _ m=>onN m fun j=>cond (Nat.ble (Nat.succ j) n) (cond (Nat.beq e esz) (List.casesOn (motive:=fun _=>Ans) (xs.drop (n - Nat.succ j)) .fail fun row _=>k row) .fail) .fail
def kputs (ss:List (Option Nat)):List KW→List KW→(List KW→Ans)→Ans:=List.rec (motive:=fun _=>List KW→List KW→(List KW→Ans)→Ans)
 (fun vs ρ k=>List.casesOn (motive:=fun _=>Ans) vs (k ρ) fun _ _=> .fail)
 (fun s _ ih vs ρ k=>List.casesOn (motive:=fun _=>Ans) vs .fail fun v vs=>Option.casesOn (motive:=fun _=>Ans) s (onC v fun x=>ih vs (.c x::ρ) k) fun m=>onL v fun n xs=>cond (Nat.beq n m) (ih vs (.l n xs::ρ) k) .fail) ss
def kboxs (ms:List Nat):List KW→List KW→(List KW→Ans)→Ans:=List.rec (motive:=fun _=>List KW→List KW→(List KW→Ans)→Ans)
 (fun vs ρ k=>List.casesOn (motive:=fun _=>Ans) vs (k ρ) fun _ _=> .fail)
 (fun m _ ih vs ρ k=>List.casesOn (motive:=fun _=>Ans) vs .fail fun v vs=>onL v fun n xs=>cond (Nat.beq n m) (ih vs (.l n xs::ρ) k) .fail) ms
abbrev KFn:=Nat→List KW→List KW→Ans
abbrev KHd:=Nat→Nat→List KW→Ans
abbrev Den:=KFn→KHd→List KW→Ans
def onR (r:Ans) (k:List KW→List KW→Ans):Ans:=Ans.casesOn (motive:=fun _=>Ans) r .fail k fun _=> .fail
def dOpc (o:KO) (_:KTree) (ih:Den):Den:=fun call head ρ=>kop o ρ fun x=>ih call head (.c x::ρ)
def dRow (esz:Nat) (s i:KA) (_:KTree) (ih:Den):Den:=fun call head ρ=>kA ρ s fun x=>kA ρ i fun y=>krow esz x y fun xs=>ih call head (.l esz xs::ρ)
def dIte (a:KA) (_ _:KTree) (it ie:Den):Den:=fun call head ρ=>kA ρ a fun x=>onB x fun b=>Bool.casesOn (motive:=fun _=>Ans) b (ie call head ρ) (it call head ρ)
def dCall (f:Nat) (args:List KV) (bs:List KS) (rs:List (Option Nat)) (bl:List Nat) (_:KTree) (ih:Den):Den:=fun call head ρ=>kVs ρ args fun as=>kSs ρ bs fun xs=>onR (call f as xs) fun vs ys=>kputs rs vs ρ fun ρ=>kboxs bl ys ρ fun ρ=>ih call head ρ
def dGoto (h n:Nat) (args:List KV):Den:=fun _ head ρ=>kPs ρ args [] fun ws=>head h n ws
def dRet (rs:List KV) (bs:List KS):Den:=fun _ _ ρ=>kVs ρ rs fun vs=>kSs ρ bs fun xs=> .ret vs xs
def kden (t:KTree):Den:=KTree.rec (motive:=fun _=>Den) dOpc dRow dIte dCall dGoto dRet (fun _ _ _=> .fail) t
structure KFun where
 params:List (Option Nat)
 boxes:List Nat
 body:KTree
 heads:List (Nat×KTree)
inductive KG where
 |leaf
 |node (k:Nat) (f:KFun) (l r:KG)
def KG.get (g:KG):Nat→(KFun→Ans)→Ans:=KG.rec (motive:=fun _=>Nat→(KFun→Ans)→Ans) (fun _ _=> .fail) (fun k f _ _ il ir n r=>cond (Nat.beq n k) (r f) (cond (Nat.ble n k) (il n r) (ir n r))) g
def kheads (l:List (Nat×KTree)):Nat→Nat→(KTree→Ans)→Ans:=List.rec (motive:=fun _=>Nat→Nat→(KTree→Ans)→Ans) (fun _ _ _=> .fail) (fun p _ ih i n k=>Nat.casesOn (motive:=fun _=>Ans) i (Prod.casesOn (motive:=fun _=>Ans) p fun m t=>cond (Nat.beq m n) (k t) .fail) fun j=>ih j n k) l
def kenter (G:KG) (call:KFn) (head:Nat→KHd):KFn:=fun f as bs=>G.get f fun tf=>kputs tf.params as [] fun ρ=>kboxs tf.boxes bs ρ fun ρ=>kden tf.body call (head f) ρ
def kgo (G:KG) (f:Nat) (call:KFn) (head:KHd):KHd:=fun h n ws=>G.get f fun tf=>kheads tf.heads h n fun t=>kden t call head ws
structure KRuns where
 fn:KFn
 hd:Nat→KHd
def krun (G:KG) (n:Nat):KRuns:=Nat.rec (motive:=fun _=>KRuns) ⟨fun _ _ _=> .fail,fun _ _ _ _=> .fail⟩ (fun _ r=>KRuns.casesOn (motive:=fun _=>KRuns) r fun fn hd=>⟨kenter G fn hd,fun f=>kgo G f fn (hd f)⟩) n
def kmid (G:KG) (call:KFn) (f h0 a:Nat) (n:Nat):KHd:=Nat.rec (motive:=fun _=>KHd) (fun _ _ _=> .fail) (fun _ ih h n ws=>cond (Nat.beq h h0) (cond (Nat.beq n a) (.stop ws) .fail) (kgo G f call ih h n ws)) n
def onStop (r:Ans) (k:List KW→Ans):Ans:=Ans.casesOn (motive:=fun _=>Ans) r .fail (fun _ _=> .fail) k
def krounds (G:KG) (n m f h0 a:Nat) (rounds:Nat):List KW→Ans:=Nat.rec (motive:=fun _=>List KW→Ans) (fun ws=> .stop ws) (fun _ ih ws=>onStop (kgo G f (krun G n).fn (kmid G (krun G n).fn f h0 a m) h0 a ws) ih) rounds
def kfirst (G:KG) (n m f h0 a:Nat):List KW→List KW→Ans:=kenter G (krun G n).fn (fun _=>kmid G (krun G n).fn f h0 a m) f
end
end Go.Ey

namespace Go.Ey
def strOf:Nat→Nat→List UInt8
 |0,_=>[]
 |l+1,w=>UInt8.ofNat (w % 256)::strOf l (w / 256)
def packL:List UInt8→Nat
 |[]=>0
 |x::xs=>x.toNat+256 * packL xs
theorem strOf_len:∀l w,(strOf l w).length=l
 |0,_=>rfl
 |l+1,w=>by simp [strOf,strOf_len l]
theorem pack_lt:∀xs:List UInt8,packL xs < 256 ^ xs.length
 |[]=>by simp [packL]
 |x::xs=>by
  have h1:=pack_lt xs
  have h2:=x.toNat_lt
  simp only [packL,List.length_cons,Nat.pow_succ]
  omega
theorem strOf_pack:∀xs:List UInt8,strOf xs.length (packL xs)=xs
 |[]=>rfl
 |x::xs=>by
  have h2:=x.toNat_lt
  simp only [List.length_cons,strOf,packL]
  rw [show (x.toNat+256 * packL xs) % 256=x.toNat by omega,show (x.toNat+256 * packL xs) / 256=packL xs by omega,strOf_pack xs]
  simp
theorem pack_strOf:∀l w,w < 256 ^ l→packL (strOf l w)=w
 |0,w,h=>by simp at h;subst h;rfl
 |l+1,w,h=>by
  rw [Nat.pow_succ] at h
  have h1:w / 256 < 256 ^ l:=by omega
  simp only [strOf,packL,pack_strOf l _ h1]
  have:(UInt8.ofNat (w % 256)).toNat=w % 256:=by simp
  omega
mutual
inductive RK:K→C→Prop
 |i (k n):RK (.i k n) (.lit (.int k n))
 |b (x):RK (.b x) (.lit (.bool x))
 |s (len w) (b:ByteArray) (hb:b.data.toList=strOf len w) (hw:w < 256 ^ len):RK (.s len w) (.lit (.string b))
 |o (v):RK (.o v) (.lit v)
 |sl (esz rev n cs) (h:RKr esz rev cs) (hn:rev.length=n):RK (.sl esz rev n) (.slice cs n)
inductive RKs:List K→List C→Prop
 |nil:RKs [] []
 |cons {x c xs cs}:RK x c→RKs xs cs→RKs (x::xs) (c::cs)
inductive RKr:Nat→List (List K)→List C→Prop
 |nil {esz}:RKr esz [] []
 |cons {esz row r rev cs}:RKs row r→row.length=esz→RKr esz rev cs→RKr esz (row::rev) (cs++r)
end
def RKW:KW→W→Prop
 |.c x,.c c=>RK x c
 |.l n xs,.l cs=>RKs xs cs∧xs.length=n
 |_,_=>False
def RE (ρ:List KW) (ρ':List W):Prop:=All2 RKW ρ ρ'.reverse
theorem RE.nil:RE [] []:=trivial
theorem RE.push {ρ:List KW} {ρ':List W} (h:RE ρ ρ') {w:KW} {w':W} (hw:RKW w w'):RE (w::ρ) (ρ'++[w']):=by
 unfold RE
 rw [List.reverse_append]
 exact ⟨hw,h⟩
theorem RE.len {ρ:List KW} {ρ':List W} (h:RE ρ ρ'):ρ.length=ρ'.length:=by
 have:=All2.len h
 simpa using this
theorem getW_get:∀(ρ:List W) (i:Nat),getW ρ i=ρ[i]?
 |[],_=>rfl
 |_::_,0=>rfl
 |_::r,i+1=>by simp [getW,getW_get r i]
theorem RE.get {ρ:List KW} {ρ':List W} (h:RE ρ ρ') {i:Nat} (hi:i < ρ'.length) {w:KW} (hw:ρ[ρ'.length - 1 - i]?=some w):∃w',getW ρ' i=some w'∧RKW w w':=by
 obtain ⟨w',h1,h2⟩:=All2.get _ h hw
 refine ⟨w',?_,h2⟩
 rw [getW_get]
 rw [List.getElem?_reverse (by omega)] at h1
 rw [←h1]
 congr 1
 omega
theorem RKs.len {xs:List K} {cs:List C} (h:RKs xs cs):xs.length=cs.length:=by
 induction xs generalizing cs with
 |nil=>cases h;rfl
 |cons x xs ih=>cases h with|cons h1 h2=>simp [ih h2]
theorem RKs.nth {xs:List K} {cs:List C} (h:RKs xs cs) {j:Nat} {x:K} (hj:xs[j]?=some x):RK x (nthC cs j):=by
 induction xs generalizing cs j with
 |nil=>simp at hj
 |cons y xs ih=>
  cases h with
  |cons h1 h2=>
   cases j with
   |zero=>simp only [List.getElem?_cons_zero,Option.some.injEq] at hj;subst hj;exact h1
   |succ j=>exact ih h2 (by simpa using hj)
def cVal:Value→K
 |.int k n=> .i k n
 |.bool b=> .b b
 |.string s=> .s s.data.toList.length (packL s.data.toList)
 |v=> .o v
theorem cVal_ok (v:Value):RK (cVal v) (.lit v):=by
 cases v<;>first|exact .i _ _|exact .b _|exact .o _|skip
 rename_i s
 exact .s _ _ s (strOf_pack _).symm (pack_lt _)
def cI (n i:Nat):Nat:=if i < n then n - 1 - i else n
def cA (n:Nat):At→KA
 |.v i=> .v (cI n i)
 |.n i j=> .n (cI n i) j
 |.k v=> .k (cVal v)
 |.z=> .k (.sl 0 [] 0)
section
variable {a:Ans} {ρ:List KW} {ρ':List W}
theorem kget_ok {k:KW→Ans}:∀{l:List KW} {i:Nat},kget l i k=a→a≠.fail→∃w,l[i]?=some w∧k w=a
 |[],i,h,ha=>absurd h.symm ha
 |w::l,0,h,ha=>⟨w,rfl,h⟩
 |w::l,i+1,h,ha=>by
  obtain ⟨w',h1,h2⟩:=kget_ok (l:=l) (i:=i) h ha
  exact ⟨w',by simpa using h1,h2⟩
theorem knth_ok {k:K→Ans}:∀{l:List K} {i:Nat},knth l i k=a→a≠.fail→∃w,l[i]?=some w∧k w=a
 |[],i,h,ha=>absurd h.symm ha
 |w::l,0,h,ha=>⟨w,rfl,h⟩
 |w::l,i+1,h,ha=>by
  obtain ⟨w',h1,h2⟩:=knth_ok (l:=l) (i:=i) h ha
  exact ⟨w',by simpa using h1,h2⟩
theorem cI_get (h:RE ρ ρ') {i:Nat} {w:KW} (hw:ρ[cI ρ'.length i]?=some w):∃w',getW ρ' i=some w'∧RKW w w':=by
 unfold cI at hw
 split at hw
 ·rename_i hi;exact h.get hi hw
 ·rw [List.getElem?_eq_none (by rw [h.len];exact Nat.le_refl _)] at hw;cases hw
theorem kA_ok (h:RE ρ ρ') {x:At} {k:K→Ans} (hk:kA ρ (cA ρ'.length x) k=a) (ha:a≠.fail):∃y c,RK y c∧atC ρ' x=some c∧k y=a:=by
 cases x with
 |v i=>
  obtain ⟨w,h1,h2⟩:=kget_ok (show kget ρ (cI ρ'.length i) (fun w=>onC w k)=a from hk) ha
  obtain ⟨w',h3,h4⟩:=cI_get h h1
  cases w with
  |c y=>cases w' with
   |c c=>exact ⟨y,c,h4,by simp [atC,h3],h2⟩
   |l _=>exact h4.elim
  |l _ _=>exact absurd h2.symm ha
 |n i j=>
  obtain ⟨w,h1,h2⟩:=kget_ok (show kget ρ (cI ρ'.length i) (fun w=>onL w fun _ xs=>knth xs j k)=a from hk) ha
  obtain ⟨w',h3,h4⟩:=cI_get h h1
  cases w with
  |c y=>exact absurd h2.symm ha
  |l m xs=>cases w' with
   |c c=>exact h4.elim
   |l cs=>
    obtain ⟨y,h5,h6⟩:=knth_ok (show knth xs j k=a from h2) ha
    exact ⟨y,nthC cs j,h4.1.nth h5,by simp [atC,h3],h6⟩
 |k v=>exact ⟨cVal v,.lit v,cVal_ok v,rfl,hk⟩
 |z=>exact ⟨.sl 0 [] 0,.slice [] 0,.sl 0 [] 0 [] .nil rfl,rfl,hk⟩
theorem kAs_ok (h:RE ρ ρ'):∀{l:List At} {k:List K→Ans},kAs ρ (l.map (cA ρ'.length)) k=a→a≠.fail→∃ys cs,RKs ys cs∧ys.length=l.length∧atCs ρ' l=some cs∧k ys=a
 |[],k,hk,ha=>⟨[],[],.nil,rfl,rfl,hk⟩
 |x::l,k,hk,ha=>by
  obtain ⟨y,c,h1,h2,h3⟩:=kA_ok h (show kA ρ (cA ρ'.length x) (fun x=>kAs ρ (l.map (cA ρ'.length)) fun xs=>k (x::xs))=a from hk) ha
  obtain ⟨ys,cs,h4,h7,h5,h6⟩:=kAs_ok h (l:=l) h3 ha
  exact ⟨y::ys,c::cs,.cons h1 h4,by simp [h7],by simp [atCs,h2,h5],h6⟩
def cS (n:Nat):SL→KS
 |.lit as=> .lit as.length (as.map (cA n))
 |.all i=> .all (cI n i)
theorem kS_ok (h:RE ρ ρ') {s:SL} {k:Nat→List K→Ans} (hk:kS ρ (cS ρ'.length s) k=a) (ha:a≠.fail):∃n ys cs,RKs ys cs∧ys.length=n∧slD ρ' s=some cs∧k n ys=a:=by
 cases s with
 |lit as=>
  obtain ⟨ys,cs,h1,h2,h3,h4⟩:=kAs_ok h (show kAs ρ (as.map (cA ρ'.length)) (fun xs=>k as.length xs)=a from hk) ha
  exact ⟨as.length,ys,cs,h1,h2,h3,h4⟩
 |all i=>
  obtain ⟨w,h1,h2⟩:=kget_ok (show kget ρ (cI ρ'.length i) (fun w=>onL w k)=a from hk) ha
  obtain ⟨w',h3,h4⟩:=cI_get h h1
  cases w with
  |c y=>exact absurd h2.symm ha
  |l m xs=>cases w' with
   |c c=>exact h4.elim
   |l cs=>exact ⟨m,xs,cs,h4.1,h4.2,by simp [slD,h3],h2⟩
def RB:KW→List C→Prop
 |.l n xs,cs=>RKs xs cs∧xs.length=n
 |.c _,_=>False
def RVv:KW→V→Prop
 |.c x,.one c=>RK x c
 |.l n xs,.agg cs=>RKs xs cs∧xs.length=n
 |_,_=>False
theorem kSs_ok (h:RE ρ ρ'):∀{l:List SL} {k:List KW→Ans},kSs ρ (l.map (cS ρ'.length)) k=a→a≠.fail→∃ys css,All2 RB ys css∧slDs ρ' l=some css∧k ys=a
 |[],k,hk,ha=>⟨[],[],trivial,rfl,hk⟩
 |s::l,k,hk,ha=>by
  obtain ⟨n,ys,cs,h1,h2,h3,h4⟩:=kS_ok h (show kS ρ (cS ρ'.length s) (fun n x=>kSs ρ (l.map (cS ρ'.length)) fun xs=>k (.l n x::xs))=a from hk) ha
  obtain ⟨zs,css,h5,h6,h7⟩:=kSs_ok h (l:=l) h4 ha
  exact ⟨.l n ys::zs,cs::css,⟨⟨h1,h2⟩,h5⟩,by simp [slDs,h3,h6],h7⟩
def cV (n:Nat):TV→KV
 |.one x=> .one (cA n x)
 |.agg s=> .agg (cS n s)
theorem kV_ok (h:RE ρ ρ') {v:TV} {k:KW→Ans} (hk:kV ρ (cV ρ'.length v) k=a) (ha:a≠.fail):∃y u,RVv y u∧tvD ρ' v=some u∧k y=a:=by
 cases v with
 |one x=>
  obtain ⟨y,c,h1,h2,h3⟩:=kA_ok h (show kA ρ (cA ρ'.length x) (fun x=>k (.c x))=a from hk) ha
  exact ⟨.c y,.one c,h1,by simp [tvD,h2],h3⟩
 |agg s=>
  obtain ⟨n,ys,cs,h1,h2,h3,h4⟩:=kS_ok h (show kS ρ (cS ρ'.length s) (fun n xs=>k (.l n xs))=a from hk) ha
  exact ⟨.l n ys,.agg cs,⟨h1,h2⟩,by simp [tvD,h3],h4⟩
theorem kVs_ok (h:RE ρ ρ'):∀{l:List TV} {k:List KW→Ans},kVs ρ (l.map (cV ρ'.length)) k=a→a≠.fail→∃ys us,All2 RVv ys us∧tvDs ρ' l=some us∧k ys=a
 |[],k,hk,ha=>⟨[],[],trivial,rfl,hk⟩
 |v::l,k,hk,ha=>by
  obtain ⟨y,u,h1,h2,h3⟩:=kV_ok h (show kV ρ (cV ρ'.length v) (fun x=>kVs ρ (l.map (cV ρ'.length)) fun xs=>k (x::xs))=a from hk) ha
  obtain ⟨zs,us,h5,h6,h7⟩:=kVs_ok h (l:=l) h3 ha
  exact ⟨y::zs,u::us,⟨h1,h5⟩,by simp [tvDs,h2,h6],h7⟩
def cTA (n:Nat):List TA→List KV
 |[]=>[]
 |.v x::l=>cV n x::cTA n l
 |.ref _ _::l=>cTA n l
def RLs:List TA→List KW→List LA→Prop
 |[],[],[]=>True
 |.v _::ts,y::ys,.v u::us=>RVv y u∧RLs ts ys us
 |.ref b off::ts,ys,.ref b' off'::us=>b'=b∧off'=off∧RLs ts ys us
 |_,_,_=>False
theorem kTAs_ok (h:RE ρ ρ'):∀{l:List TA} {k:List KW→Ans},kVs ρ (cTA ρ'.length l) k=a→a≠.fail→∃ys us,RLs l ys us∧taDs ρ' l=some us∧k ys=a
 |[],k,hk,ha=>⟨[],[],trivial,rfl,hk⟩
 |.v v::l,k,hk,ha=>by
  obtain ⟨y,u,h1,h2,h3⟩:=kV_ok h (show kV ρ (cV ρ'.length v) (fun x=>kVs ρ (cTA ρ'.length l) fun xs=>k (x::xs))=a from hk) ha
  obtain ⟨zs,us,h5,h6,h7⟩:=kTAs_ok h (l:=l) h3 ha
  exact ⟨y::zs,.v u::us,⟨h1,h5⟩,by simp [taDs,taD,h2,h6],h7⟩
 |.ref b off::l,k,hk,ha=>by
  obtain ⟨zs,us,h5,h6,h7⟩:=kTAs_ok h (l:=l) (show kVs ρ (cTA ρ'.length l) k=a from hk) ha
  exact ⟨zs,.ref b off::us,⟨rfl,rfl,h5⟩,by simp [taDs,taD,h6],h7⟩
def cTW (n:Nat):TW→KV
 |.c x=> .one (cA n x)
 |.l s=> .agg (cS n s)
theorem kPs_ok (h:RE ρ ρ'):∀{l:List TW} {acc:List KW} {acc':List W} {k:List KW→Ans},RE acc acc'→kPs ρ (l.map (cTW ρ'.length)) acc k=a→a≠.fail→∃ws ws',RE ws (acc'++ws')∧twDs ρ' l=some ws'∧k ws=a
 |[],acc,acc',k,hacc,hk,ha=>⟨acc,[],by rw [List.append_nil];exact hacc,rfl,hk⟩
 |w::l,acc,acc',k,hacc,hk,ha=>by
  have hw:∃y u,RKW y u∧twD ρ' w=some u∧kPs ρ (l.map (cTW ρ'.length)) (y::acc) k=a:=by
   cases w with
   |c x=>
    obtain ⟨y,c,h1,h2,h3⟩:=kA_ok h (show kA ρ (cA ρ'.length x) (fun x=>kPs ρ (l.map (cTW ρ'.length)) (.c x::acc) k)=a from hk) ha
    exact ⟨.c y,.c c,h1,by simp [twD,h2],h3⟩
   |l s=>
    obtain ⟨n,ys,cs,h1,h2,h3,h4⟩:=kS_ok h (show kS ρ (cS ρ'.length s) (fun n xs=>kPs ρ (l.map (cTW ρ'.length)) (.l n xs::acc) k)=a from hk) ha
    exact ⟨.l n ys,.l cs,⟨h1,h2⟩,by simp [twD,h3],h4⟩
  obtain ⟨y,u,h1,h2,h3⟩:=hw
  obtain ⟨ws,ws',h4,h5,h6⟩:=kPs_ok h (l:=l) (hacc.push h1) h3 ha
  exact ⟨ws,u::ws',by rw [List.append_assoc] at h4;exact h4,by simp [twDs,h2,h5],h6⟩
end
end Go.Ey

namespace Go.Ey
theorem kt_loop (b:ByteArray):∀(n i:Nat) (r:List UInt8),b.size - i=n→ByteArray.toList.loop b i r=r.reverse++b.data.toList.drop i
 |0,i,r,h=>by
  have hs:b.data.toList.length=b.size:=rfl
  rw [ByteArray.toList.loop,if_neg (by omega),List.drop_eq_nil_of_le (by omega)]
  simp
 |n+1,i,r,h=>by
  have hs:b.data.toList.length=b.size:=rfl
  have hi:i < b.data.toList.length:=by omega
  rw [ByteArray.toList.loop,if_pos (by omega),kt_loop b n (i+1) (b.get! i::r) (by omega),List.drop_eq_getElem_cons hi]
  have:b.get! i=b.data.toList[i]:=by
   have h1:b.get! i=b.data[i]!:=rfl
   rw [h1,getElem!_pos b.data i (by rw [Array.length_toList] at hi;exact hi),Array.getElem_toList]
  simp [this]
theorem kt_list (b:ByteArray):b.toList=b.data.toList:=by
 unfold ByteArray.toList
 rw [kt_loop _ _ 0 [] rfl]
 simp
section
variable {a:Ans} {ρ:List KW} {ρ':List W}
theorem forceN_eq (n:Nat) (k:Nat→Ans):forceN n k=k n:=by cases n<;>rfl
theorem forceI_eq (n:Int) (k:Int→Ans):forceI n k=k n:=by
 cases n with
 |ofNat m=>exact forceN_eq m fun m=>k (.ofNat m)
 |negSucc m=>exact forceN_eq m fun m=>k (.negSucc m)
theorem forceB_eq (b:Bool) (k:Bool→Ans):forceB b k=k b:=by cases b<;>rfl
theorem forceL_eq {α:Type}:∀(l:List α) (k:List α→Ans),forceL l k=k l
 |[],_=>rfl
 |x::l,k=>forceL_eq l fun r=>k (x::r)
theorem cond_ok {b:Bool} {x:Ans} (h:(cond b x .fail)=a) (ha:a≠.fail):b=true∧x=a:=by
 cases b
 ·exact absurd h.symm ha
 ·exact ⟨rfl,h⟩
theorem cond_ok' {b:Bool} {x:Ans} (h:(cond b .fail x)=a) (ha:a≠.fail):b=false∧x=a:=by
 cases b
 ·exact ⟨rfl,h⟩
 ·exact absurd h.symm ha
theorem onI_ok {x:K} {k:IntKind→Int→Ans} (h:onI x k=a) (ha:a≠.fail):∃p n,x=.i p n∧k p n=a:=by
 cases x<;>first|exact ⟨_,_,rfl,h⟩|exact absurd h.symm ha
theorem onB_ok {x:K} {k:Bool→Ans} (h:onB x k=a) (ha:a≠.fail):∃p,x=.b p∧k p=a:=by
 cases x<;>first|exact ⟨_,rfl,h⟩|exact absurd h.symm ha
theorem onS_ok {x:K} {k:Nat→Nat→Ans} (h:onS x k=a) (ha:a≠.fail):∃l w,x=.s l w∧k l w=a:=by
 cases x<;>first|exact ⟨_,_,rfl,h⟩|exact absurd h.symm ha
theorem onSl_ok {x:K} {k:Nat→List (List K)→Nat→Ans} (h:onSl x k=a) (ha:a≠.fail):∃e r n,x=.sl e r n∧k e r n=a:=by
 cases x<;>first|exact ⟨_,_,_,rfl,h⟩|exact absurd h.symm ha
theorem onN_ok {n:Int} {k:Nat→Ans} (h:onN n k=a) (ha:a≠.fail):∃m:Nat,n=(m:Int)∧k m=a:=by
 cases n with
 |ofNat m=>exact ⟨m,rfl,h⟩
 |negSucc m=>exact absurd h.symm ha
theorem kk_inj {p q:IntKind} (h:Nat.beq (kk p) (kk q)=true):p=q:=by
 cases p<;>cases q<;>first|rfl|exact absurd h (by decide)
theorem onII_ok {x y:K} {k:IntKind→Int→Int→Ans} (h:onII x y k=a) (ha:a≠.fail):∃p n m,x=.i p n∧y=.i p m∧k p n m=a:=by
 obtain ⟨p,n,h1,h2⟩:=onI_ok h ha
 obtain ⟨q,m,h3,h4⟩:=onI_ok h2 ha
 obtain ⟨h5,h6⟩:=cond_ok h4 ha
 have:=kk_inj h5
 subst this
 exact ⟨p,n,m,h1,h3,h6⟩
theorem keq_eq (n m:Int):keq n m=(n==m):=by
 rw [Bool.eq_iff_iff]
 cases n<;>cases m<;>simp [keq,Nat.beq_eq]<;>omega
theorem klt_eq (n m:Int):klt n m=decide (n < m):=by
 rw [Bool.eq_iff_iff]
 cases n<;>cases m<;>simp [klt,Nat.ble_eq]<;>omega
theorem wrap_neg (q:Int) (h1:0 < q) (h2:q≤9223372036854775808):IntKind.i64.wrap (-q)=-q:=by
 have h3:(-q) % 2 ^ 64=-q+18446744073709551616:=by omega
 simp only [IntKind.wrap,IntKind.bits,h3]
 rw [if_pos (by simp [IntKind.signed];omega)]
 omega
theorem kwrap_neg (m:Nat):(cond (Nat.ble m 9223372036854775807) (Int.negSucc m) (IntKind.i64.wrap (Int.negSucc m)))=IntKind.i64.wrap (Int.negSucc m):=by
 by_cases h:m≤9223372036854775807
 ·rw [show Nat.ble m 9223372036854775807=true from by rw [Nat.ble_eq];exact h,cond_true,Int.negSucc_eq,wrap_neg _ (by omega) (by omega)]
 ·rw [show Nat.ble m 9223372036854775807=false from by rw [Bool.eq_false_iff];intro e;rw [Nat.ble_eq] at e;exact h e,cond_false]
theorem kwrap_eq (k:IntKind) (n:Int):kwrap k n=k.wrap n:=by
 unfold kwrap
 split
 ·rename_i m
  cases h:Nat.ble m 9223372036854775807 with
  |false=>rfl
  |true=>
   rw [Nat.ble_eq] at h
   have h2:(Int.ofNat m) % 2 ^ 64=(Int.ofNat m):=by simp only [Int.ofNat_eq_natCast];omega
   simp only [cond_true,IntKind.wrap,IntKind.bits,h2]
   rw [if_neg (by simp [IntKind.signed];omega)]
 ·rename_i m
  cases h:Nat.ble m 255 with
  |false=>rfl
  |true=>
   rw [Nat.ble_eq] at h
   have h2:(Int.ofNat m) % 2 ^ 8=(Int.ofNat m):=by simp only [Int.ofNat_eq_natCast];omega
   simp only [cond_true,IntKind.wrap,IntKind.bits,h2]
   rw [if_neg (by simp [IntKind.signed])]
 ·exact kwrap_neg _
 ·rfl
end
end Go.Ey
