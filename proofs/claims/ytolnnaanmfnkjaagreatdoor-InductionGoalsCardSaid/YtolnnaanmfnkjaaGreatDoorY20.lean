/- A part. -/
import Derived.Test.YtolnnaanmfnkjaaGreatDoorY14
import Derived.Test.YtolnnaanmfnkjaaGreatDoorY18
set_option linter.all false
namespace Go.Ey
open Go.RowKit
variable [lV]
structure Table (P:Program) (zf:Nat->Nat) (F:Fe):Prop where
 nat:∀f vs rs,F.nat f vs=some rs->oq P f vs rs
 ok:∀f I,F.code f=some I->∃fn,P.funcs[f]?=some fn/\KT P zf fn=some I/\(fn.name== "runtime.NumGoroutine")=false
 mixed:P.follows .mixedOrders=true
def ab6:Ex->Exit
 |.normal=> .normal
 |.exit id=> .exit id
 |.ret=> .ret
section
variable {P:Program} {zf:Nat->Nat} {F:Fe}
def aaP (B:Nat) (S:Nat->Nat->Prop) (w0:World) (nt:Nat) (m:M) (s:St) (x:Ex) (s':St) (e:Exit) (a':Act) (w':World):Prop:=
 ∃m':M,m'.w=w'/\e=ab6 x/\m'.h=s'.heap/\M4 m' s'.nx/\Rel B S w0 nt m' s'.env a'/\aS B S m m'
structure Sound (P:Program) (zf:Nat->Nat) (F:Fe) (n:Nat):Prop where
 code:∀(c:Code) (ic:jA) (nt:Nat),comp P zf nt c=some ic->∀(B:Nat) (S:Nat->Nat->Prop) (w0:World) (s:St) (x:Ex) (s':St) (m:M) (a:Act),
  m.h=s.heap->M4 m s.nx->Rel B S w0 nt m s.env a->dn F n ic s=some (x,s')->c.wp P (aaP B S w0 nt m s x s') a m.w
 loop:∀(cb:Code) (ib:jA) (nt:Nat),comp P zf nt cb=some ib->∀(B:Nat) (S:Nat->Nat->Prop) (w0:World) (s:St) (x:Ex) (s':St) (m:M) (a:Act),
  m.h=s.heap->M4 m s.nx->Rel B S w0 nt m s.env a->dn F n (.loop ib) s=some (x,s')->
   ∀(b:Frame) (k:List Item) (cs:List Frame),∃e a' w',aaP B S w0 nt m s x s' e a' w'/\Arrives P (lone (b.at a (.code cb:: .inLoop cb::k)) cs m.w) b k cs e a' w'
 body:∀(f:Nat) (ds:List D) (h:Heap) (k:Nat) (rs:List D) (h':Heap) (nx':Nat),jh F n f ds h k=some (rs,h',nx')->
  sQ P f/\∀(B:Nat) (S:Nat->Nat->Prop) (m:M) (us:List Value),m.h=h->M4 m k->gq B S m->lV.Inv B m.w->aF (eX B S m) ds us->
   Calls P f us.toArray m.w fun e w'=>∃(v:Value) (m':M),e=.returned v/\m'.w=w'/\m'.h=h'/\M4 m' nx'/\gq B S m'/\aS B S m m'/\eX B S m' (Eu rs) v/\Below B m.w m'.w/\∀d,d∈rs->∀ds,d≠.lC ds
 fn:∀f vs rs,oF F n f vs=some rs->oq P f vs rs
 bg:∀f aY bs rs bs',lT F n f aY bs=some (rs,bs')->Fw P f aY bs rs bs'
theorem Sj {fn:Func} {I:Pj} (h:KT P zf fn=some I):
  ∃c ic,fn.body=some c/\comp P zf fn.ntmps c=some ic/\Aa P fn.results.toList=some I.res/\I.body=ic/\I.nparams=fn.params.size+fn.nfree/\fn.params.size+fn.nfree<=fn.ntmps:=by
 unfold KT at h;simp only [A2,A1,C0] at h;obtain ⟨c,h1,ic,h2,rs,h3,h4⟩:=h;split at h4
 ·rename_i hc;simp only [A0] at h4;subst h4;exact ⟨c,ic,h1,h2,h3,rfl,rfl,hc⟩
 ·cases h4
theorem Ub {B:Nat} {S:Nat->Nat->Prop} {w0:World} {nt:Nat} {m:M} {e:Env} {a:Act} (hr:Rel B S w0 nt m e a):∀{vars:List ResultVar} {rs:List Res} {ds:List D},Aa P vars=some rs->Ff e m.h rs=some ds->
  ∃us:List Value,(vars.mapM (fun v=>match v with|ResultVar.tmp t=>(pure (a.tmps.getD t undef):Sem Value)|ResultVar.cell x t=>do loadVar t (<-asAddr (a.tmps.getD x undef)))).run P m.w=.ok us m.w/\aF (nH B S m) ds us/\∀d,d∈ds->∀ds,d≠.lC ds
 |[],rs,ds,hc,hd=>by simp only [Aa,A0] at hc;subst hc;simp only [Ff,A0] at hd;subst hd;exact ⟨[],rfl,trivial,by simp⟩
 |.tmp t::vars,rs,ds,hc,hd=>by
  simp only [Aa,A2,A1,A0] at hc;obtain ⟨rs',h1,rfl⟩:=hc;simp only [Ff,A2,A1] at hd;obtain ⟨ds',h2,h3⟩:=hd;obtain ⟨us,h4,h5,h6⟩:=Ub hr h1 h2;have Zy:=hr.env t;have hA:∃d,ds=d::ds'/\nH B S m d (a.tmps.getD t undef)/\∀q,d≠.lC q:=by
   cases hg:iM e t with
   |lC q=>rw [hg] at h3;cases h3
   |_=>rw [hg] at h3 Zy;simp only [A0] at h3;exact ⟨_,h3.symm,Zy,fun q h=>by cases h⟩
  obtain ⟨d,rfl,hA1,hA2⟩:=hA;refine ⟨a.tmps.getD t undef::us,?_,⟨hA1,h5⟩,fun d' hd'=>?_⟩
  ·simp only [List.mapM_cons,Sem.run_bind,Sem.run_pure,Result.andThen_ok,h4]
  ·simp only [D1] at hd';rcases hd' with rfl|hd'
   ·exact hA2
   ·exact h6 d' hd'
 |.cell x t::vars,rs,ds,hc,hd=>by
  simp only [Aa,A2,A1,A0] at hc;obtain ⟨agg,g1,i,g2,rs',h1,rfl⟩:=hc;simp only [Ff,A2,A1,A0] at hd;obtain ⟨d,h0,ds',h2,rfl⟩:=hd;obtain ⟨us,h4,h5,h6⟩:=Ub hr h1 h2;obtain ⟨ad,v,e1,e2,e3⟩:=VT hr.hok g1 g2 (hr.env x) h0;refine ⟨v::us,?_,⟨e3,h5⟩,fun d' hd'=>?_⟩
  ·have hA:(asAddr (.pointer (some ad))).run P m.w=.ok ad m.w:=rfl;simp only [List.mapM_cons,Sem.run_bind,e1,hA,Sem.run_pure,Result.andThen_ok,e2,h4]
  ·simp only [D1] at hd';rcases hd' with rfl|hd'
   ·intro q hq;subst hq;exact e3.elim
   ·exact h6 d' hd'
theorem X3 {B:Nat} {S:Nat->Nat->Prop} {w0:World} {nt:Nat} {m:M} {e:Env} {a:Act} (hr:Rel B S w0 nt m e a) {fn:Func} {rs:List Res} {ds:List D} (hc:Aa P fn.results.toList=some rs) (hd:Ff e m.h rs=some ds):
  ∃v,(results fn a.tmps).run P m.w=.ok v m.w/\eX B S m (Eu ds) v/\∀d,d∈ds->∀ds,d≠.lC ds:=by
 obtain ⟨us,h1,h2,h3⟩:=Ub hr hc hd;have hrun:(fn.results.mapM (fun v=>match v with|ResultVar.tmp t=>(pure (a.tmps.getD t undef):Sem Value)|ResultVar.cell x t=>do loadVar t (<-asAddr (a.tmps.getD x undef)))).run P m.w=.ok us.toArray m.w:=by rw [Array.mapM_eq_mapM_toList,Sem.run_map,h1];rfl
 refine ⟨if h:us.toArray.size=1 then us.toArray[0] else .tuple us.toArray,?_,?_,h3⟩
 ·unfold results;simp only [Sem.run_bind,Sem.run_pure];exact F0 (fun r:Result (Array Value)=>r.andThen fun a w'=>Result.ok (if h:a.size=1 then a[0] else Value.tuple a) w') hrun
 ·match ds,us,h2 with
  |[d],[u],h2=>exact h2.1.nE
  |[],[],h2=>exact ⟨[],rfl,trivial⟩
  |d::d'::ds,u::u'::us,h2=>exact ⟨u::u'::us,rfl,h2⟩
theorem Jm:∀(ds:List D) (k t:Nat),iM (j3 k ds) t=if k<=t then (ds[t - k]?).getD .uf else .uf
 |[],k,t=>by simp [j3,iM]
 |d::ds,k,t=>by
  simp only [j3,iM];by_cases h:k=t
  ·subst h;simp
  ·rw [Dd h,Jm ds (k+1) t];by_cases h2:k+1<=t
   ·rw [C4 h2,C4 (by omega),show t - k=(t - (k+1))+1 by omega]
    simp
   ·rw [Dd h2,Dd (by omega)]
theorem ZG:Sound P zf F 0 where
 code:=by intro c ic nt _ B S w0 s x s' m a _ _ _ h;simp [dn] at h
 loop:=by intro cb ib nt _ B S w0 s x s' m a _ _ _ h;simp [dn] at h
 body:=by intro f ds h nx rs h' nx' hh;simp [jh] at hh
 fn:=by intro f vs rs hh;simp [oF] at hh
 bg:=by intro f aY bs rs bs' hh;simp [lT] at hh
theorem Oy {n:Nat} (ih:Sound P zf F n):∀(cb:Code) (ib:jA) (nt:Nat),comp P zf nt cb=some ib->∀(B:Nat) (S:Nat->Nat->Prop) (w0:World) (s:St) (x:Ex) (s':St) (m:M) (a:Act),
  m.h=s.heap->M4 m s.nx->Rel B S w0 nt m s.env a->dn F (n+1) (.loop ib) s=some (x,s')->
   ∀(b:Frame) (k:List Item) (cs:List Frame),∃e a' w',aaP B S w0 nt m s x s' e a' w'/\Arrives P (lone (b.at a (.code cb:: .inLoop cb::k)) cs m.w) b k cs e a' w':=by
 intro cb ib nt h1 B S w0 s x s' m a hh hU hr hev b k cs;simp only [dn,A2,A1,C0] at hev;obtain ⟨x1,s1,h3,h4⟩:=hev;have hbody:=ih.code _ _ _ h1 B S w0 s x1 s1 m a hh hU hr h3;obtain ⟨e1,a1,w1,hq,harr⟩:=hbody b (.inLoop cb::k) cs;obtain ⟨m1,rfl,rfl,q1,q2,q3,q5⟩:=hq;cases x1 with
 |normal=>
  simp only at h4;obtain ⟨e2,a2,w2,hq2,aqj⟩:=ih.loop cb ib nt h1 B S w0 s1 x s' m1 a1 q1 q2 q3 h4 b k cs;obtain ⟨m2,rfl,rfl,r1,r2,r3,r5⟩:=hq2;refine ⟨ab6 x,a2,m2.w,⟨m2,rfl,rfl,r1,r2,r3,q5.trans r5⟩,?_⟩;have hstart:Steps P (lone (b.at a (.code cb:: .inLoop cb::k)) cs m.w) (lone (b.at a1 (.inLoop cb::k)) cs m1.w):=harr;exact .of_steps (hstart.trans (.one step_inLoop)) aqj
 |exit id=>
  simp only [A0,A3] at h4;obtain ⟨rfl,rfl⟩:=h4;exact ⟨ab6 (.exit id),a1,m1.w,⟨m1,rfl,rfl,q1,q2,q3,q5⟩,.pass (x:=.inLoop cb) rfl (fun _ _=> .inl (by simp [ab6])) harr⟩
 |ret=>
  simp only [A0,A3] at h4;obtain ⟨rfl,rfl⟩:=h4;exact ⟨ab6 .ret,a1,m1.w,⟨m1,rfl,rfl,q1,q2,q3,q5⟩,.pass (x:=.inLoop cb) rfl (fun _ _=> .inl (by simp [ab6])) harr⟩
theorem Zl (hT:Table P zf F) {n:Nat} (ih:Sound P zf F n):∀(c:Code) (ic:jA) (nt:Nat),comp P zf nt c=some ic->
  ∀(B:Nat) (S:Nat->Nat->Prop) (w0:World) (s:St) (x:Ex) (s':St) (m:M) (a:Act),m.h=s.heap->M4 m s.nx->Rel B S w0 nt m s.env a->dn F (n+1) ic s=some (x,s')->c.wp P (aaP B S w0 nt m s x s') a m.w:=by
 intro c ic nt hc B S w0 s x s' m a hh hU hr hev;unfold comp at hc;split at hc
 ·simp only [A0] at hc;subst hc;simp only [dn,A0,A3] at hev;obtain ⟨rfl,rfl⟩:=hev;exact wp_skip ⟨m,rfl,rfl,hh,hU,hr,aS.refl m⟩
 ·simp only [A0] at hc;subst hc;simp only [dn,A0,A3] at hev;obtain ⟨rfl,rfl⟩:=hev;exact wp_ret ⟨m,rfl,rfl,hh,hU,hr,aS.refl m⟩
 ·simp only [A0] at hc;subst hc;simp only [dn,A0,A3] at hev;obtain ⟨rfl,rfl⟩:=hev;exact wp_exit ⟨m,rfl,rfl,hh,hU,hr,aS.refl m⟩
 ·rename_i id ops;simp only [A2,A1,A0] at hc;obtain ⟨is,h1,rfl⟩:=hc;simp only [dn,A2,A1,A0,A3] at hev;obtain ⟨s1,h3,rfl,rfl⟩:=hev;refine wp_region_list (seq_ok ih.fn ih.body ops.toList is h1 s s1 m a hh hU hr h3 fun a' m' q1 q2 q4 q5=>?_)
  exact ⟨m',rfl,rfl,q1,q2,q5,q4⟩
 ·rename_i id ops;simp only [A2,A1] at hc;obtain ⟨is,h1,h2⟩:=hc;split at h2
  case isFalse=>cases h2
  rename_i hdn;split at h2
  ·rename_i hns;simp only [A0] at h2;subst h2;simp only [dn,A2,A1,C0] at hev;obtain ⟨e1,h1',ts,h3,h4⟩:=hev;split at h4
   case isFalse=>cases h4
   rename_i hdr;simp only [A0,A3] at h4;obtain ⟨rfl,rfl⟩:=h4;refine agM hT.mixed ih.fn ih.bg h1 hns hdn hh hU hr h3 hdr fun a' m' q1 q2 q3 q4=>?_
   exact ⟨m',rfl,rfl,q1,q2,q4,q3⟩
  ·split at h2
   case isFalse=>cases h2
   rename_i hmx;simp only [A0] at h2;subst h2;simp only [dn,A2,A1,C0] at hev;obtain ⟨e1,h1',n1,ts,h3,h4⟩:=hev;split at h4
   case isFalse=>cases h4
   rename_i hdr;simp only [A0,A3] at h4;obtain ⟨rfl,rfl⟩:=h4;refine aka hT.mixed ih.fn ih.bg ih.body h1 hmx hdn hh hU hr h3 hdr fun a' m' q1 q2 q3 q4=>?_
   exact ⟨m',rfl,rfl,q1,q2,q4,q3⟩
 ·rename_i ca cb;simp only [A2,A1,A0] at hc;obtain ⟨ia,h1,ib,h2,rfl⟩:=hc;simp only [dn,A2,A1,C0] at hev;obtain ⟨x1,s1,h3,h4⟩:=hev;refine wp_seq (wp_mono (ih.code _ _ _ h1 B S w0 s x1 s1 m a hh hU hr h3) fun e a1 w1 hp=>?_)
  obtain ⟨m1,rfl,rfl,q1,q2,q3,q5⟩:=hp;cases x1 with
  |normal=>
   simp only at h4;refine wp_mono (ih.code _ _ _ h2 B S w0 s1 x s' m1 a1 q1 q2 q3 h4) fun e a2 w2 hp2=>?_
   obtain ⟨m2,rfl,rfl,r1,r2,r3,r5⟩:=hp2;exact ⟨m2,rfl,rfl,r1,r2,r3,q5.trans r5⟩
  |exit id=>
   simp only [A0,A3] at h4;obtain ⟨rfl,rfl⟩:=h4;exact ⟨m1,rfl,rfl,q1,q2,q3,q5⟩
  |ret=>
   simp only [A0,A3] at h4;obtain ⟨rfl,rfl⟩:=h4;exact ⟨m1,rfl,rfl,q1,q2,q3,q5⟩
 ·rename_i cc ca cb;simp only [A2,A1,A0] at hc;obtain ⟨X',hx,ia,h1,ib,h2,rfl⟩:=hc;simp only [dn,A2,A1] at hev;obtain ⟨t,h3,h4⟩:=hev;have e1:=hr.opd cc X' hx;rw [Ma h3] at e1;refine wp_cond e1.lit ?_;cases t with
  |true=>exact ih.code _ _ _ h1 B S w0 s x s' m a hh hU hr h4
  |false=>exact ih.code _ _ _ h2 B S w0 s x s' m a hh hU hr h4
 ·rename_i id cb;simp only [A2,A1,A0] at hc;obtain ⟨ib,h1,rfl⟩:=hc;simp only [dn,A2,A1,C0] at hev;obtain ⟨x1,s1,h3,h4⟩:=hev;refine wp_block (wp_mono (ih.code _ _ _ h1 B S w0 s x1 s1 m a hh hU hr h3) fun e a1 w1 hp=>?_)
  obtain ⟨m1,rfl,rfl,q1,q2,q3,q5⟩:=hp;cases x1 with
  |normal=>
   simp only [A0,A3] at h4;obtain ⟨rfl,rfl⟩:=h4;exact ⟨m1,rfl,rfl,q1,q2,q3,q5⟩
  |ret=>
   simp only [A0,A3] at h4;obtain ⟨rfl,rfl⟩:=h4;exact ⟨m1,rfl,rfl,q1,q2,q3,q5⟩
  |exit id'=>
   simp only at h4;show (if id'=id then _ else _)
   split at h4
   ·rename_i he;rw [C4 he];simp only [A0,A3] at h4;obtain ⟨rfl,rfl⟩:=h4;exact ⟨m1,rfl,rfl,q1,q2,q3,q5⟩
   ·rename_i he;rw [Dd he];simp only [A0,A3] at h4;obtain ⟨rfl,rfl⟩:=h4;exact ⟨m1,rfl,rfl,q1,q2,q3,q5⟩
 ·rename_i cb;simp only [A2,A1,A0] at hc;obtain ⟨ib,h1,rfl⟩:=hc;intro b k cs;obtain ⟨e1,a1,w1,hq,harr⟩:=Oy ih cb ib nt h1 B S w0 s x s' m a hh hU hr hev b k cs;exact ⟨e1,a1,w1,hq,.of_steps (.one step_loop) harr⟩
 ·cases hc
theorem X0 (hT:Table P zf F) {n:Nat} (ih:Sound P zf F n):∀(f:Nat) (ds:List D) (h:Heap) (k:Nat) (rs:List D) (h':Heap) (nx':Nat),jh F (n+1) f ds h k=some (rs,h',nx')->
  sQ P f/\∀(B:Nat) (S:Nat->Nat->Prop) (m:M) (us:List Value),m.h=h->M4 m k->gq B S m->lV.Inv B m.w->aF (eX B S m) ds us->
   Calls P f us.toArray m.w fun e w'=>∃(v:Value) (m':M),e=.returned v/\m'.w=w'/\m'.h=h'/\M4 m' nx'/\gq B S m'/\aS B S m m'/\eX B S m' (Eu rs) v/\Below B m.w m'.w/\∀d,d∈rs->∀ds,d≠.lC ds:=by
 intro f ds h k rs h' nx' hev;simp only [jh,A2,A1] at hev;obtain ⟨I,hI,hev⟩:=hev;split at hev
 case isFalse=>cases hev
 rename_i hlen;simp only [A1,C0] at hev;obtain ⟨x,s1,h1,h2⟩:=hev;obtain ⟨fn,g1,g2,g3⟩:=hT.ok f I hI;obtain ⟨c,ic,b1,b2,b3,b4,b5,b6⟩:=Sj g2;refine ⟨⟨fn,g1,by rw [b1];rfl,g3⟩,fun B S m us hh hU hk hinv hall=>?_⟩
 have hus:us.length=fn.params.size+fn.nfree:=by rw [<-hall.len,hlen,b5]
 have hfin:∃rs0,Ff s1.env s1.heap I.res=some rs0/\rs=rs0/\h'=s1.heap/\nx'=s1.nx/\x≠.exit 0/\(∀id,x≠.exit id):=by
  cases x with
  |exit id=>simp at h2
  |normal=>
   simp only [A1,A0,A3] at h2;obtain ⟨rs0,h3,rfl,rfl,rfl⟩:=h2;exact ⟨rs0,h3,rfl,rfl,rfl,by simp,by simp⟩
  |ret=>
   simp only [A1,A0,A3] at h2;obtain ⟨rs0,h3,rfl,rfl,rfl⟩:=h2;exact ⟨rs0,h3,rfl,rfl,rfl,by simp,by simp⟩
 obtain ⟨rs0,hres,rfl,rfl,rfl,_,hnx⟩:=hfin;refine calls_of_wp g1 b1 ?_;have hsz:us.toArray.size=fn.params.size+fn.nfree:=by simpa using hus
 have hrel:Rel B S m.w fn.ntmps m (j3 0 ds) { tmps:=us.toArray++Array.replicate (fn.ntmps - us.toArray.size) undef,defers:=[]}:=by
  refine ⟨rfl,by simp;omega,fun t=>?_,hk,Below.refl _ _,hinv⟩
  rw [Jm];simp only [Ft,Ek,Nat.sub_zero];cases hd:ds[t]? with
  |none=>trivial
  |some d=>
   obtain ⟨u,hu,hR⟩:=hall.get t hd;have:(us.toArray++Array.replicate (fn.ntmps - us.toArray.size) undef).getD t undef=u:=by have hlt:t < us.length:=(B0.1 hu).1;simp [Array.getElem?_append,hlt];exact (B0.1 hu).2
   rw [this];exact hR
 rw [b4] at h1;have hwp:=ih.code c ic fn.ntmps b2 B S m.w ⟨j3 0 ds,h,k⟩ x s1 m _ hh hU hrel h1;refine wp_mono hwp fun e a' w' hp=>?_
 obtain ⟨m',rfl,rfl,q1,q2,q3,q5⟩:=hp;obtain ⟨v,r1,r2,r3⟩:=X3 q3 b3 (by rw [q1];exact hres)
 have hpost:a'.defers=[]/\∃v,(results fn a'.tmps).run P m'.w=.ok v m'.w/\(∃(v':Value) (m'':M),Ending.returned v=.returned v'/\m''.w=m'.w/\m''.h=s1.heap/\M4 m'' s1.nx/\gq B S m''/\aS B S m m''/\eX B S m'' (Eu rs) v'/\Below B m.w m''.w/\∀d,d∈rs->∀ds,d≠.lC ds):=
  ⟨q3.defers,v,r1,v,m',rfl,rfl,q1,q2,q3.hok,q5,r2,q3.below,r3⟩
 cases x with
 |exit id=>exact absurd rfl (hnx id)
 |normal=>exact hpost
 |ret=>exact hpost
theorem gQ.aqg {B:Nat} {S:Nat->Nat->Prop} {m:M} (h0:∀id,aH m.h id=.dead) {v:V} {u:Value} (h:gQ m.w S v u):eX B S m v.nE u:=by
 have h1:gQ m.w (Safe B S m) v u:=gQ.weaken (fun b o hs _=>⟨hs,fun id=>by rw [h0];trivial⟩) h
 exact (gQ.nE h1).nE
theorem adN (hT:Table P zf F) {n:Nat} (ih:Sound P zf F n):∀f vs rs,oF F (n+1) f vs=some rs->oq P f vs rs:=by
 intro f vs rs hev;rw [oF] at hev;split at hev
 ·rename_i rs' hn;simp only [A0] at hev;subst hev;exact hT.nat f vs _ hn
 simp only [A2,A1,C0,A0] at hev;obtain ⟨ds,h,nx,h1,rs',xy,h2,rfl⟩:=hev;obtain ⟨hc,hb⟩:=ih.body f _ _ _ ds h nx h1;refine ⟨hc,fun S w us hinv hall=>?_⟩
 have hk:gq w.heap.size (fun b o=>b < w.heap.size->S b o) ⟨w,[],fun _=>0,fun i=>i < 0⟩:=⟨fun id=>trivial,fun i j hi _ _=>absurd rfl hi,fun _ _=>rfl,B9 _,fun b o hb h=>absurd h (Nat.not_lt.2 hb),fun id cs ay fz ety hg=>by cases hg⟩
 have aei:aF (eX w.heap.size (fun b o=>b < w.heap.size->S b o) ⟨w,[],fun _=>0,fun i=>i < 0⟩) (vs.map V.nE) us:=hall.map_mono fun v u hv=>gQ.aqg (B:=w.heap.size) (S:=fun b o=>b < w.heap.size->S b o) (m:=⟨w,[],fun _=>0,fun i=>i < 0⟩) (fun _=>rfl) (gQ.weaken (XC:=fun b o=>b < w.heap.size->S b o) (fun b o hs _ _=>hs) hv)
 refine (hb w.heap.size (fun b o=>b < w.heap.size->S b o) ⟨w,[],fun _=>0,fun i=>i < 0⟩ us rfl (fun _ hx=>hx) hk hinv aei).mono fun e w' ⟨v,m',q1,q2,q3,q4,q5,_,q7,q8,q9⟩=>?_
 subst q1 q2;refine ⟨v,rfl,?_,q8⟩;have weak:∀{h'':Heap} {r:V} {u:Value},gQ m'.w (Safe w.heap.size (fun b o=>b < w.heap.size->S b o) (m'.heap h'')) r u->gQ m'.w (fun b o=>b < w.heap.size->S b o) r u:=fun hr=>gQ.weaken (fun b o hs _=>hs.1) hr
 rw [<-q3] at h2
 match ds,q7,h2,q9 with
 |[d],q7,h2,q9=>
  simp only [jV,A2,A1,C0,A0,A3] at h2;obtain ⟨c,x,h3,cs',xs',⟨rfl,rfl⟩,rfl,rfl⟩:=h2;have hA:nH w.heap.size (fun b o=>b < w.heap.size->S b o) m' d v:=by
   cases d with
   |lC q=>exact absurd rfl (q9 (.lC q) (by simp) q)
   |_=>exact q7
  exact weak (II q5 hA h3).2.2
 |[],q7,h2,q9=>
  simp only [jV,A0,A3] at h2;obtain ⟨rfl,rfl⟩:=h2;obtain ⟨vs',rfl,hv⟩:=q7;cases vs' with
  |nil=>exact ⟨[],rfl,trivial⟩
  |cons _ _=>exact hv.elim
 |d::d'::ds,q7,h2,q9=>
  obtain ⟨vs',rfl,hv⟩:=q7;have h3:=(Ni q5 hv h2).2.2;have hlen:=h3.len
  match rs',h3 with
  |[],h3=>cases vs' with|nil=>exact hv.elim|cons _ _=>exact h3.elim
  |[r],h3=>
   exfalso;have:=hv.len
   rw [<-hlen] at this;simp at this
  |r::r'::atY,h3=>exact ⟨vs',rfl,h3.mono fun _ _ h=>weak h⟩
theorem Zo {n:Nat} (ih:Sound P zf F n):∀f aY bs rs bs',lT F (n+1) f aY bs=some (rs,bs')->Fw P f aY bs rs bs':=by intro f aY bs rs bs' h;simp only [lT,A2,A1,C0,A0,A3] at h;obtain ⟨ds,h',n',h1,rs',us,h2,bs1,us',h3,rfl,rfl⟩:=h;exact ⟨ds,h',n',us,us',ih.body _ _ _ _ _ _ _ h1,h2,h3⟩
theorem sound (hT:Table P zf F):∀n,Sound P zf F n
 |0=>ZG
 |n+1=>⟨Zl hT (sound hT n),Oy (sound hT n),X0 hT (sound hT n),adN hT (sound hT n),Zo (sound hT n)⟩
theorem VI (hT:Table P zf F) {n f:Nat} {vs rs:List V} (h:oF F n f vs=some rs):oq P f vs rs:=(sound hT n).fn f vs rs h
theorem agA (hT:Table P zf F) {n f:Nat} {vs:List V} {cs:List C} {k:Nat} {h:Heap} {nx:Nat} (h1:jh F n f (vs.map V.nE) [] 0=some ([.full cs k],h,nx)):oq P f vs [.full cs k]:=by
 obtain ⟨hc,hb⟩:=(sound hT n).body f _ _ _ _ h nx h1;refine ⟨hc,fun S w us hinv hall=>?_⟩
 have hk:gq w.heap.size (fun b o=>b < w.heap.size->S b o) ⟨w,[],fun _=>0,fun i=>i < 0⟩:=⟨fun id=>trivial,fun i j hi _ _=>absurd rfl hi,fun _ _=>rfl,B9 _,fun b o hb h=>absurd h (Nat.not_lt.2 hb),fun id cs ay fz ety hg=>by cases hg⟩
 have aei:aF (eX w.heap.size (fun b o=>b < w.heap.size->S b o) ⟨w,[],fun _=>0,fun i=>i < 0⟩) (vs.map V.nE) us:=hall.map_mono fun v u hv=>gQ.aqg (B:=w.heap.size) (S:=fun b o=>b < w.heap.size->S b o) (m:=⟨w,[],fun _=>0,fun i=>i < 0⟩) (fun _=>rfl) (gQ.weaken (XC:=fun b o=>b < w.heap.size->S b o) (fun b o hs _ _=>hs) hv)
 refine (hb w.heap.size (fun b o=>b < w.heap.size->S b o) ⟨w,[],fun _=>0,fun i=>i < 0⟩ us rfl (fun _ hx=>hx) hk hinv aei).mono fun e w' ⟨v,m',q1,q2,q3,q4,q5,_,q7,q8,q9⟩=>?_
 subst q1 q2;refine ⟨v,rfl,?_,q8⟩;have hv:gQ m'.w (Safe w.heap.size (fun b o=>b < w.heap.size->S b o) m') (.full cs k) v:=q7
 exact gQ.weaken (fun b o hs _=>hs.1) hv
end
end Go.Ey
namespace Go.Ey
theorem lU.append {xs ys:List K} {cs ds:List C} (h:lU xs cs) (h':lU ys ds):lU (xs++ys) (cs++ds):=by
 induction xs generalizing cs with
 |nil=>cases h;exact h'
 |cons x xs ih=>cases h with|cons h1 h2=>exact .cons h1 (ih h2)
theorem lU.take {xs:List K} {cs:List C} (h:lU xs cs) (n:Nat):lU (xs.take n) (cs.take n):=by
 induction xs generalizing cs n with
 |nil=>cases h;simpa using lU.nil
 |cons x xs ih=>
  cases h with
  |cons h1 h2=>cases n with
   |zero=>exact .nil
   |succ n=>exact .cons h1 (ih h2 n)
theorem lU.drop {xs:List K} {cs:List C} (h:lU xs cs) (n:Nat):lU (xs.drop n) (cs.drop n):=by
 induction xs generalizing cs n with
 |nil=>cases h;simpa using lU.nil
 |cons x xs ih=>
  cases h with
  |cons h1 h2=>cases n with
   |zero=>exact .cons h1 h2
   |succ n=>exact ih h2 n
theorem lU.splice {xs ys:List K} {cs ds:List C} (h:lU xs cs) (h':lU ys ds) (off:Nat):lU (Ey.splice xs off ys) (Ey.splice cs off ds):=by unfold Ey.splice;rw [h'.len];exact ((h.take _).append h').append (h.drop _)
theorem nQ.inv {e:Nat} {row:List K} {rev:List (List K)} {cs:List C} (h:nQ e (row::rev) cs):∃c0 r,cs=c0++r/\lU row r/\row.length=e/\nQ e rev c0:=by
 cases h with
 |cons h1 h2 h3=>exact ⟨_,_,rfl,h1,h2,h3⟩
theorem nQ.abE {e:Nat} {cs:List C} (h:nQ e [] cs):cs=[]:=by cases h;rfl
theorem nQ.len {e:Nat} {rev:List (List K)} {cs:List C} (h:nQ e rev cs):cs.length=rev.length * e:=by
 induction rev generalizing cs with
 |nil=>rw [h.abE];simp
 |cons row rev ih=>
  obtain ⟨c0,r,rfl,h1,h2,h3⟩:=h.inv;rw [B8,ih h3,<-h1.len,h2,Bm,G2]
theorem nQ.append {e:Nat} {ys xs:List (List K)} {ds cs:List C} (h:nQ e ys ds) (h':nQ e xs cs):nQ e (ys++xs) (cs++ds):=by
 induction ys generalizing ds with
 |nil=>rw [h.abE,D0];exact h'
 |cons row ys ih=>
  obtain ⟨c0,r,rfl,h1,h2,h3⟩:=h.inv;rw [<-List.append_assoc];exact .cons h1 h2 (ih h3)
theorem nQ.drop {e:Nat} {rev:List (List K)} {cs:List C} (h:nQ e rev cs) (k:Nat):nQ e (rev.drop k) (cs.take ((rev.length - k) * e)):=by
 induction rev generalizing cs k with
 |nil=>rw [h.abE];simpa using nQ.nil
 |cons row rev ih=>
  cases k with
  |zero=>
   rw [Nat.sub_zero,<-h.len,I0];exact h
  |succ k=>
   obtain ⟨c0,r,rfl,h1,h2,h3⟩:=h.inv;have:=ih h3 k
   rw [Lz,show (row::rev).length - (k+1)=rev.length - k by simp]
   rw [M1]
   ·exact this
   ·rw [h3.len];exact Cl _ (Nat.sub_le _ _)
theorem nQ.take {e:Nat} {rev:List (List K)} {cs:List C} (h:nQ e rev cs) {k:Nat} (hk:k<=rev.length):nQ e (rev.take k) (cs.drop ((rev.length - k) * e)):=by
 induction rev generalizing cs k with
 |nil=>rw [h.abE];simpa using nQ.nil
 |cons row rev ih=>
  cases k with
  |zero=>
   rw [Nat.sub_zero,<-h.len,List.drop_length];exact .nil
  |succ k=>
   obtain ⟨c0,r,rfl,h1,h2,h3⟩:=h.inv;have hk':k<=rev.length:=by simpa using hk
   rw [Ly,show (row::rev).length - (k+1)=rev.length - k by simp]
   rw [Of (by rw [h3.len];exact Cl _ (Nat.sub_le _ _))]
   exact .cons h1 h2 (ih h3 hk')
theorem nQ.row {e:Nat} {rev:List (List K)} {cs:List C} (h:nQ e rev cs) {j:Nat} (hj:j < rev.length) {row:List K} {rest:List (List K)} (hd:rev.drop (rev.length - (j+1))=row::rest):
  lU row ((cs.drop (j * e)).take e)/\row.length=e:=by
 have h1:=h.drop (rev.length - (j+1));rw [hd,show rev.length - (rev.length - (j+1))=j+1 by omega] at h1
 obtain ⟨c0,r,h2,h3,h4,h5⟩:=h1.inv;have hl:rest.length=j:=by
  have:=F0 List.length hd
  rw [G0,Bm] at this;omega
 have h6:=h5.len;rw [hl] at h6;refine ⟨?_,h4⟩;have h7:(cs.take ((j+1) * e)).drop (j * e)=r:=by rw [h2,<-h6,List.drop_left]
 rw [List.drop_take] at h7;rw [show (j+1) * e - j * e=e by rw [G2];omega] at h7
 rw [h7];exact h3
theorem VY {c0 r vs:List C} {p:Nat} (h:p+vs.length<=c0.length):splice (c0++r) p vs=splice c0 p vs++r:=by
 unfold splice;rw [M1 (by omega),Of h]
 simp [Bk]
theorem Sv {c0 r vs:List C} {off:Nat}:splice (c0++r) (c0.length+off) vs=c0++splice r off vs:=by unfold splice;rw [List.take_length_add_append,Nat.add_assoc,List.drop_length_add_append];simp [Bk]
theorem Y7 {α:Type} {l vs:List α} {off:Nat} (h:off+vs.length<=l.length):(splice l off vs).length=l.length:=by unfold splice;simp;omega
theorem nQ.set {e:Nat} {ys:List K} {vs:List C} (hv:lU ys vs) {off:Nat} (ho:off+ys.length<=e):∀{rev:List (List K)} {cs:List C} {i:Nat},nQ e rev cs->i < rev.length->
  nQ e (Wp rev i fun row=>splice row off ys) (splice cs ((rev.length - (i+1)) * e+off) vs)
 |[],_,_,_,hi=>absurd hi (N0 _)
 |row::rev,cs,0,h,_=>by
  obtain ⟨c0,r,rfl,h1,h2,h3⟩:=h.inv;show nQ e ((splice row off ys)::rev) _
  rw [show (row::rev).length - (0+1)=rev.length by simp,<-h3.len,Sv]
  exact .cons (h1.splice hv off) (by rw [Y7 (by omega),h2]) h3
 |row::rev,cs,i+1,h,hi=>by
  obtain ⟨c0,r,rfl,h1,h2,h3⟩:=h.inv;have hi':i < rev.length:=by simpa using hi
  have ih:=nQ.set hv ho h3 hi';show nQ e (row::Wp rev i fun row=>splice row off ys) _
  rw [show (row::rev).length - (i+1+1)=rev.length - (i+1) by simp]
  rw [VY]
  ·exact .cons h1 h2 ih
  ·rw [h3.len,<-hv.len];have:(rev.length - (i+1)) * e+e<=rev.length * e:=by rw [<-Nat.succ_mul];exact Cl _ (by omega)
   omega
theorem Q7 {g:List K->List K}:∀{rev:List (List K)} {i:Nat},i < rev.length->(Wp rev i g).length=rev.length
 |[],_,hi=>absurd hi (N0 _)
 |row::rev,0,_=>rfl
 |row::rev,i+1,hi=>by
  have:=Q7 (g:=g) (rev:=rev) (i:=i) (by simpa using hi)
  show (row::Wp rev i g).length=_
  simp [this]
theorem OU (z:List Value):∀n,zeros z n++z.map GJ=z.map GJ++zeros z n
 |0=>by simp [zeros]
 |n+1=>by simp only [zeros];rw [Bk,OU z n]
def UR (v:Value):K:=match GJ v with|.lit v=>aik v|.slice _ _=> .sl 0 [] 0
theorem aiX (v:Value):RK (UR v) (GJ v):=by
 unfold UR GJ;split
 ·rename_i v' h;rw [h];exact aag v'
 ·rename_i cs n h;rw [h];split at h<;>first|(injection h with h1 h2;subst h1 h2;exact .sl 0 [] 0 [] .nil rfl)|cases h
theorem aas:∀z:List Value,lU (z.map UR) (z.map GJ)
 |[]=> .nil
 |v::z=> .cons (aiX v) (aas z)
theorem abm {z:List Value} {e:Nat} (he:z.length=e):∀n,nQ e (aew (z.map UR) n) (zeros z n)
 |0=> .nil
 |n+1=>by
  show nQ e (z.map UR::aew (z.map UR) n) _
  simp only [zeros];rw [<-OU];exact .cons (aas z) (by simpa using he) (abm he n)
theorem WQ (z:List K):∀n,(aew z n).length=n
 |0=>rfl
 |n+1=>by show (z::aew z n).length=_;simp [WQ z n]
section
variable {a:bN} {ρ:List KW} {ρ':List W}
theorem Xn {e:Nat}:∀{n:Nat} {ys:List K} {cs:List C} {acc:List (List K)} {ds:List C} {k:List (List K)->bN},lU ys cs->ys.length=n * e->nQ e acc ds->abh e n ys acc k=a->∃rev,nQ e rev (ds++cs)/\rev.length=n+acc.length/\k rev=a
 |0,ys,cs,acc,ds,k,hy,hl,hacc,hk=>by
  have:cs=[]:=by have:=hy.len;rw [hl] at this;simp at this;exact E7 this.symm
  subst this;exact ⟨acc,by simpa using hacc,by simp,hk⟩
 |n+1,ys,cs,acc,ds,k,hy,hl,hacc,hk=>by
  have hk':BZ (ys.take e) (fun row=>abh e n (ys.drop e) (row::acc) k)=a:=hk
  rw [vw] at hk';rw [G2] at hl;obtain ⟨rev,h1,h2,h3⟩:=Xn (hy.drop e) (by rw [G0];omega) (.cons (hy.take e) (by rw [Fo];omega) hacc) hk'
  exact ⟨rev,by rw [Bk,Mu] at h1;exact h1,by rw [h2];simp;omega,h3⟩
theorem abd {ay e n:Nat} {r:List (List K)} {c:C} (h:RK (.sl e r n) c) {x:bN} (hk:XZ ay e n x=a) (ha:a≠.fail):∃cs,c=.slice cs n/\nQ ay r cs/\r.length=n/\x=a:=by
 obtain ⟨cs,rfl,h1,h2⟩:=h.sli;unfold XZ at hk;cases he:Nat.beq e ay with
 |true=>
  rw [he] at hk;have:=C5 he
  subst this;exact ⟨cs,rfl,h1,h2,hk⟩
 |false=>
  rw [he,E4] at hk;obtain ⟨h3,h4⟩:=dP hk ha;have:=C5 h3
  subst this;have:=E7 h2
  subst this;rw [h1.abE];exact ⟨[],rfl,.nil,rfl,h4⟩
theorem mF {m n:Nat} (h:Nat.ble m n=true):m<=n:=by rw [N2] at h;exact h
theorem nz {n:Nat} (h:Nat.beq n 0=false):0 < n:=by
 cases n with
 |zero=>cases h
 |succ n=>exact Nat.succ_pos n
theorem anK (h:RE ρ ρ') {ay bytes:Nat} {z:List Value} (hz:z.length=ay) {x y:At} {k:K->bN} (hk:kMk ay bytes (z.map UR) (cA ρ'.length x) (cA ρ'.length y) ρ k=a) (ha:a≠.fail):JU a ρ' (.mk ay bytes z x y) k:=by
 obtain ⟨u,v,c,d,h1,h2,h3,h4,h5⟩:=two h hk ha;obtain ⟨p,n,rfl,h6⟩:=qN h5 ha;obtain ⟨m,rfl,h7⟩:=BU h6 ha;obtain ⟨p',n',rfl,h8⟩:=qN h7 ha;obtain ⟨q,rfl,h9⟩:=BU h8 ha;obtain ⟨g1,h9⟩:=dP h9 ha;obtain ⟨g2,h9⟩:=dP h9 ha;obtain ⟨g3,h9⟩:=dP h9 ha;obtain ⟨g4,h9⟩:=CJ h9 ha;rw [vw] at h9;rw [h1.int] at h3;rw [h2.int] at h4;have e1:=mF g1;have e2:=mF g2;have e3:=mF g3;have e4:=nz g4;refine ⟨_,.slice (zeros z m) m,.sl ay _ m _ (abm hz m) (WQ _ m),?_,h9⟩;simp only [eF,h3,h4,A4,mkC];rw [C4 ⟨by omega,by omega,by simpa [Vf,aB] using e2,by simpa [Vf,aB] using e3,hz,e4⟩]
 simp
theorem ahY (h:RE ρ ρ') {ay len:Nat} {xs:List At} (hl:xs.length=len * ay) {k:K->bN} (hk:ajK ay len (xs.map (cA ρ'.length)) ρ k=a) (ha:a≠.fail):JU a ρ' (.lits ay len xs) k:=by
 obtain ⟨ys,cs,h1,h2,h3,h4⟩:=TZ h (show kAs ρ (xs.map (cA ρ'.length)) (fun ys=>cond (Nat.ble len Vf) (cond (Nat.beq ay 0) .fail (abh ay len ys [] fun zs=>k (.sl ay zs len))) .fail)=a from hk) ha
 obtain ⟨g1,h4⟩:=dP h4 ha;obtain ⟨g2,h4⟩:=CJ h4 ha;obtain ⟨rev,h5,h6,h7⟩:=Xn h1 (by omega) .nil h4
 refine ⟨_,.slice cs len,.sl ay rev len cs (by simpa using h5) (by simpa using h6),?_,h7⟩
 simp only [eF,h3,A4,fq];rw [C4 ⟨by rw [<-h1.len];omega,show len<=Vf from mF g1,nz g2⟩]
theorem amv (h:RE ρ ρ') {ay:Nat} {x y:At} {k:List K->bN} (hk:(kA ρ (cA ρ'.length x) fun u=>kA ρ (cA ρ'.length y) fun v=>Kh ay u v k)=a) (ha:a≠.fail):
  ∃row r,lU row r/\row.length=ay/\(((dW ρ' x).bind fun u=>(dW ρ' y).bind fun v=>eZ ay u v)=some r)/\k row=a:=by
 obtain ⟨u,v,c,d,h1,h2,h3,h4,h5⟩:=two h hk ha;obtain ⟨e,rev,n,rfl,h6⟩:=Jc h5 ha;obtain ⟨p,n',rfl,h7⟩:=qN h6 ha;obtain ⟨j,rfl,h8⟩:=BU h7 ha;obtain ⟨g1,h8⟩:=dP (x:=cond (Nat.beq e ay) (List.casesOn (motive:=fun _=>bN) (rev.drop (n - Nat.succ j)) .fail fun row _=>k row) .fail) h8 ha
 obtain ⟨g2,h9⟩:=dP (x:=List.casesOn (motive:=fun _=>bN) (rev.drop (n - Nat.succ j)) .fail fun row _=>k row) h8 ha
 have:=C5 g2
 subst this;obtain ⟨cs,rfl,r1,r2⟩:=h1.sli;rw [h2.int] at h4;have e1:=mF g1;subst r2;cases hd:rev.drop (rev.length - (j+1)) with
 |nil=>rw [show rev.drop (rev.length - Nat.succ j)=[] from hd] at h9;exact absurd h9.symm ha
 |cons row rest=>
  rw [show rev.drop (rev.length - Nat.succ j)=row::rest from hd] at h9
  obtain ⟨q1,q2⟩:=r1.row (j:=j) (by omega) hd
  refine ⟨row,_,q1,q2,?_,h9⟩;simp only [h3,h4,A4,eZ];rw [C4 ⟨by omega,by omega,by rw [r1.len];exact Cl _ (by simpa using e1)⟩]
  rfl
theorem amL (h:RE ρ ρ') {ay off:Nat} {x y:At} {vs:List At} {k:K->bN} (hk:apV ay (cA ρ'.length x) (cA ρ'.length y) off vs.length (vs.map (cA ρ'.length)) ρ k=a) (ha:a≠.fail):JU a ρ' (.set ay x y off vs) k:=by
 obtain ⟨u,v,c,d,h1,h2,h3,h4,h5⟩:=two h hk ha;obtain ⟨ys,ds,w1,w2,w3,h5⟩:=TZ h h5 ha;obtain ⟨e,rev,n,rfl,h6⟩:=Jc h5 ha;obtain ⟨p,n',rfl,h7⟩:=qN h6 ha;obtain ⟨j,rfl,h8⟩:=BU h7 ha;obtain ⟨g1,h8⟩:=dP h8 ha;obtain ⟨g2,h8⟩:=dP h8 ha;obtain ⟨g3,h8⟩:=dP h8 ha;have:=C5 g2
 subst this;obtain ⟨cs,rfl,r1,r2⟩:=h1.sli;rw [h2.int] at h4;rw [vw] at h8;have e1:=mF g1;have e3:=mF g3;subst r2;have hi:rev.length - Nat.succ j < rev.length:=by omega
 have key:=nQ.set w1 (off:=off) (by omega) r1 hi
 rw [show rev.length - (rev.length - Nat.succ j+1)=j by omega] at key
 refine ⟨_,_,.sl _ _ _ _ key (Q7 hi),?_,h8⟩;simp only [eF,h3,h4,w3,A4,Zh];rw [C4 ⟨by omega,by omega,by rw [<-w1.len];omega,r1.len⟩]
 simp
theorem afX (h:RE ρ ρ') {o:Option At} {k:Nat->bN} (hk:klo ρ (o.map (cA ρ'.length)) 0 k=a) (ha:a≠.fail):∃q n,MS ρ' o=some q/\loC q=some n/\k n=a:=by
 cases o with
 |none=>exact ⟨none,0,rfl,rfl,hk⟩
 |some x=>
  obtain ⟨u,c,h1,h2,h3⟩:=Am h (show kA ρ (cA ρ'.length x) (fun x=>TK x fun _ n=>XG n k)=a from hk) ha
  obtain ⟨p,n,rfl,h4⟩:=qN h3 ha;obtain ⟨m,rfl,h5⟩:=BU h4 ha;rw [h1.int] at h2;exact ⟨some (.lit (.int p m)),m,by simp [MS,h2],by simp [loC],h5⟩
theorem afT (h:RE ρ ρ') {o:Option At} {len:Nat} {k:Nat->bN} (hk:klo ρ (o.map (cA ρ'.length)) len k=a) (ha:a≠.fail):∃q n,MS ρ' o=some q/\hiC len q=some n/\k n=a:=by
 cases o with
 |none=>exact ⟨none,len,rfl,rfl,hk⟩
 |some x=>
  obtain ⟨u,c,h1,h2,h3⟩:=Am h (show kA ρ (cA ρ'.length x) (fun x=>TK x fun _ n=>XG n k)=a from hk) ha
  obtain ⟨p,n,rfl,h4⟩:=qN h3 ha;obtain ⟨m,rfl,h5⟩:=BU h4 ha;rw [h1.int] at h2;exact ⟨some (.lit (.int p m)),m,by simp [MS,h2],by simp [hiC],h5⟩
theorem afn (h:RE ρ ρ') {ay:Nat} {x:At} {lo hi:Option At} {k:K->bN} (hk:aj3 ay (cA ρ'.length x) (lo.map (cA ρ'.length)) (hi.map (cA ρ'.length)) ρ k=a) (ha:a≠.fail):JU a ρ' (.sub ay x lo hi) k:=by
 obtain ⟨u,c,h1,h2,h3⟩:=Am h hk ha;obtain ⟨e,rev,n,rfl,h4⟩:=Jc h3 ha;obtain ⟨cs,rfl,r1,r2,h5⟩:=abd h1 h4 ha;obtain ⟨ql,l,l1,l2,h5⟩:=afX h h5 ha;obtain ⟨qh,r,l3,l4,h5⟩:=afT h h5 ha;obtain ⟨g1,h5⟩:=dP h5 ha;rw [jZ,vw] at h5;rw [As] at g1;have e1:=mF g1.1;have e2:=mF g1.2;subst r2;have q1:=r1.drop (rev.length - r);rw [show rev.length - (rev.length - r)=r by omega] at q1
 have hlen:(rev.drop (rev.length - r)).length=r:=by rw [G0];omega
 have q2:=q1.take (k:=r - l) (by omega)
 rw [hlen,show r - (r - l)=l by omega,List.drop_take,<-Nat.sub_mul] at q2
 refine ⟨_,_,.sl ay _ (r - l) _ q2 (by rw [Fo,hlen];omega),?_,h5⟩
 simp only [eF,h2,l1,l3,A4,ER,l2,l4];rw [C4 ⟨e1,e2⟩]
end
end Go.Ey
namespace Go.Ey
theorem ZX (l:Nat):2 ^ (8 * l)=256 ^ l:=by rw [Nat.pow_mul]
theorem adI (w l:Nat):Nat.shiftLeft w (8 * l)=w * 256 ^ l:=by rw [<-ZX];exact Nat.shiftLeft_eq w (8 * l)
theorem X9 (w l:Nat):Nat.shiftRight w (8 * l)=w / 256 ^ l:=by rw [<-ZX];exact Nat.shiftRight_eq_div_pow w (8 * l)
theorem IQ:∀(l m v w:Nat),v < 256 ^ l->strOf (l+m) (v+w * 256 ^ l)=strOf l v++strOf m w
 |0,m,v,w,h=>by
  have:v=0:=by simpa using h
  subst this;simp [strOf]
 |l+1,m,v,w,h=>by
  rw [Nd] at h;have e1:w * 256 ^ (l+1)=256 * (w * 256 ^ l):=by rw [Nd];simp only [Nat.mul_comm,Nat.mul_left_comm]
  rw [show l+1+m=(l+m)+1 by omega,e1]
  simp only [strOf];rw [show (v+256 * (w * 256 ^ l)) % 256=v % 256 by omega,show (v+256 * (w * 256 ^ l)) / 256=v / 256+w * 256 ^ l by omega,IQ l m (v / 256) w (by omega)]
  rfl
theorem abS {l m v w:Nat} (hv:v < 256 ^ l) (hw:w < 256 ^ m):v+w * 256 ^ l < 256 ^ (l+m):=by have h1:(w+1) * 256 ^ l<=256 ^ m * 256 ^ l:=Cl _ hw;rw [G2] at h1;rw [Nat.add_comm l m,Nat.pow_add];omega
theorem O7:∀(l n w:Nat),(strOf n w).drop l=strOf (n - l) (w / 256 ^ l)
 |0,n,w=>by simp
 |l+1,0,w=>by simp [strOf]
 |l+1,n+1,w=>by simp only [strOf,Lz];rw [O7 l n (w / 256),Nat.div_div_eq_div_mul,show n+1 - (l+1)=n - l by omega,Nd,Nat.mul_comm]
theorem Np:∀(m n w:Nat),m<=n->(strOf n w).take m=strOf m (w % 256 ^ m)
 |0,n,w,_=>by simp [strOf]
 |m+1,0,w,h=>by omega
 |m+1,n+1,w,h=>by
  simp only [strOf,Ly];rw [Np m n (w / 256) (by omega)]
  have e1:w % 256 ^ (m+1) % 256=w % 256:=Nat.mod_mod_of_dvd _ ⟨256 ^ m,by rw [Nd,Nat.mul_comm]⟩
  have e2:w % 256 ^ (m+1) / 256=w / 256 % 256 ^ m:=by rw [Nd,Nat.mul_comm,Nat.mod_mul_right_div_self]
  rw [e1,e2]
theorem QM:∀(n w j:Nat),j < n->(strOf n w)[j]?=some (UInt8.ofNat (w / 256 ^ j % 256))
 |0,_,_,h=>by omega
 |n+1,w,0,_=>by simp [strOf]
 |n+1,w,j+1,h=>by simp only [strOf,C6];rw [QM n (w / 256) j (by omega),Nat.div_div_eq_div_mul,Nd,Nat.mul_comm (256 ^ j)]
section
variable {a:bN} {ρ:List KW} {ρ':List W}
theorem DL {b:ByteArray} {l w:Nat} (h:b.data.toList=strOf l w):b.size=l:=by
 have:=F0 List.length h
 rw [Ak] at this;exact this
theorem Yd (h:RE ρ ρ') {x y:At} {k:K->bN} (hk:anw (cA ρ'.length x) (cA ρ'.length y) ρ k=a) (ha:a≠.fail):JU a ρ' (.bin .add false x y) k:=by
 obtain ⟨u,v,c,d,h1,h2,h3,h4,h5⟩:=two h hk ha;cases u with
 |i p n=>
  obtain ⟨p',n',m,e,rfl,h6⟩:=Df (show CX (.i p n) v (fun k' n m=>kIn k' (n+m) k)=a from h5) ha
  injection e with e1 e2;subst e1 e2;rw [h1.int] at h3;rw [h2.int] at h4;rw [KJ] at h6;exact ⟨_,.lit (.int p (p.wrap (n+m))),.i _ _,by simp [eF,h3,h4,cZ,wR,jr,lQ],h6⟩
 |s l w=>
  obtain ⟨m,z,rfl,h6⟩:=Oq (show onS v (fun m z=>kL (l+m) fun lm=>cond (Nat.ble lm Vf) (kL (w+Nat.shiftLeft z (8 * l)) fun u=>k (.s lm u)) .fail)=a from h5) ha
  rw [jZ] at h6;obtain ⟨g1,h7⟩:=dP h6 ha;rw [jZ,adI] at h7;obtain ⟨b,rfl,hb,hw⟩:=h1.str;obtain ⟨b',rfl,hb',hw'⟩:=h2.str;refine ⟨_,.lit (.string (b++b')),.s _ _ _ ?_ (abS hw hw'),?_,h7⟩
  ·rw [IQ _ _ _ _ hw,<-hb,<-hb'];simp [ByteArray.toList_data_append]
  ·simp only [eF,h3,h4,A4,cZ,wR,Fz,C2,Cd];rw [C4 (by rw [DL hb,DL hb'];exact mF g1)]
   rfl
 |b _=>exact absurd h5.symm ha
 |sl _ _ _=>exact absurd h5.symm ha
 |o _=>exact absurd h5.symm ha
theorem R4 (b:ByteArray) (l r:Nat):(b.extract l r).data.toList=(b.data.toList.drop l).take (r - l):=by simp [ByteArray.data_extract]
theorem aif (h:RE ρ ρ') {x:At} {lo hi:Option At} {k:K->bN} (hk:ajI (cA ρ'.length x) (lo.map (cA ρ'.length)) (hi.map (cA ρ'.length)) ρ k=a) (ha:a≠.fail):JU a ρ' (.Mq x lo hi) k:=by
 obtain ⟨u,c,h1,h2,h3⟩:=Am h hk ha;obtain ⟨n,w,rfl,h4⟩:=Oq h3 ha;obtain ⟨b,rfl,hb,hw⟩:=h1.str;obtain ⟨ql,l,l1,l2,h5⟩:=afX h h4 ha;obtain ⟨qh,r,l3,l4,h6⟩:=afT h h5 ha;obtain ⟨g1,h7⟩:=dP h6 ha;rw [jZ,jZ,X9,adI,Nat.one_mul] at h7;rw [As] at g1;have e1:=mF g1.1;have e2:=mF g1.2;refine ⟨_,.lit (.string (b.extract l r)),.s _ _ _ ?_ (Nat.mod_lt _ (Nat.pow_pos (by omega))),?_,h7⟩
 ·rw [R4,hb,O7,Np _ _ _ (by omega)]
 ·simp only [eF,h2,l1,l3,A4,LU,l2,DL hb,l4];rw [C4 ⟨e1,e2⟩]
theorem ah8 (h:RE ρ ρ') {x y:At} {k:K->bN} (hk:ajA (cA ρ'.length x) (cA ρ'.length y) ρ k=a) (ha:a≠.fail):JU a ρ' (.Ct x y) k:=by
 obtain ⟨u,v,c,d,h1,h2,h3,h4,h5⟩:=two h hk ha;obtain ⟨n,w,rfl,h6⟩:=Oq h5 ha;obtain ⟨p,m,rfl,h7⟩:=qN h6 ha;obtain ⟨j,rfl,h8⟩:=BU h7 ha;obtain ⟨g1,h9⟩:=dP h8 ha;rw [jZ,X9] at h9;obtain ⟨b,rfl,hb,hw⟩:=h1.str;rw [h2.int] at h4;have e1:j < n:=mF g1;refine ⟨_,.lit (.int .u8 ((w / 256 ^ j % 256:Nat):Int)),.i _ _,?_,h9⟩;have hg:=QM n w j e1;rw [<-hb,Array.getElem?_toList] at hg;simp only [eF,h3,h4,A4,aeK];rw [C4 (by omega),show ((j:Int)).toNat=j from rfl,hg]
 simp
theorem FK:∀{cs ds:List C} {xs ys:List UInt8},bytesOf cs=some xs->bytesOf ds=some ys->bytesOf (cs++ds)=some (xs++ys)
 |[],ds,xs,ys,h1,h2=>by simp only [bytesOf,A0] at h1;subst h1;exact h2
 |c::cs,ds,xs,ys,h1,h2=>by
  unfold bytesOf at h1;split at h1
  ·rename_i h;cases h
  ·rename_i n r heq;injection heq with e1 e2;subst e1 e2;simp only [A2,A1,A0] at h1;obtain ⟨bs,h3,rfl⟩:=h1;simp only [E3,bytesOf,FK h3 h2,A2,A4]
  ·cases h1
theorem XA:∀{rev:List (List K)} {cs:List C} {suf:List UInt8} {k:Nat->bN},nQ 1 rev cs->ae8 rev (nD suf) k=a->a≠.fail->∃bs,bytesOf cs=some bs/\bs.length=rev.length/\k (nD (bs++suf))=a
 |[],cs,suf,k,hr,hk,ha=>by rw [hr.abE];exact ⟨[],rfl,rfl,hk⟩
 |row::rev,cs,suf,k,hr,hk,ha=>by
  obtain ⟨c0,r,rfl,h1,h2,h3⟩:=hr.inv;cases row with
  |nil=>simp at h2
  |cons x row=>
   have:row=[]:=by simpa using h2
   subst this;obtain ⟨p,n,rfl,h4⟩:=qN (show TK x (fun p n=>cond (Nat.beq (kk p) 4) (XG n fun b=>cond (Nat.ble b 255) (kL (b+256 * nD suf) fun v=>ae8 rev v k) .fail) .fail)=a from hk) ha
   obtain ⟨g1,h5⟩:=dP h4 ha;obtain ⟨b,rfl,h6⟩:=BU h5 ha;obtain ⟨g2,h7⟩:=dP h6 ha;rw [jZ] at h7;have hp:p=.u8:=ad9 (q:=.u8) g1;subst hp;have hb:=mF g2;have e1:b+256 * nD suf=nD (UInt8.ofNat b::suf):=by
    have:(UInt8.ofNat b).toNat=b:=by simp;omega
    simp [nD,this]
   rw [e1] at h7;obtain ⟨bs,h8,h9,h10⟩:=XA h3 h7 ha;cases h1 with
   |cons h11 h12=>
    cases h12;rw [h11.int];refine ⟨bs++[UInt8.ofNat b],FK h8 (by simp [bytesOf]),by simp [h9],?_⟩
    rw [Bk];exact h10
theorem afG (h:RE ρ ρ') {x:At} {k:K->bN} (hk:adm (cA ρ'.length x) ρ k=a) (ha:a≠.fail):JU a ρ' (.toStr x) k:=by
 obtain ⟨u,c,h1,h2,h3⟩:=Am h hk ha;obtain ⟨e,rev,n,rfl,h4⟩:=Jc h3 ha;obtain ⟨cs,rfl,r1,r2,h5⟩:=abd h1 h4 ha;obtain ⟨bs,h6,h7,h8⟩:=XA (suf:=[]) r1 h5 ha;rw [D0] at h8;refine ⟨_,.lit (.string ⟨bs.toArray⟩),.s n (nD bs) _ ?_ ?_,?_,h8⟩
 ·show bs.toArray.toList=_
  rw [<-r2,<-h7,Bh]
 ·rw [<-r2,<-h7];exact MW bs
 ·simp only [eF,h2,A4,TC,h6];rw [C4 (by rw [r1.len,r2];omega)]
theorem Xi:∀{l w:Nat} {acc:List (List K)} {cs:List C},nQ 1 acc cs->nQ 1 (Qo l w acc) (cs++(strOf l w).map fun b=>C.lit (.int .u8 b.toNat))/\(Qo l w acc).length=l+acc.length
 |0,w,acc,cs,h=>⟨by show nQ 1 acc _;simpa [strOf] using h,by show acc.length=_;omega⟩
 |l+1,w,acc,cs,h=>by
  have e0:Nat.shiftRight w 8=w / 256:=by have:=X9 w 1;simpa using this
  have e1:(K.i .u8 (.ofNat (Nat.mod w 256)))=K.i .u8 ((UInt8.ofNat (w % 256)).toNat:Nat):=by
   have:(UInt8.ofNat (w % 256)).toNat=w % 256:=by simp
   rw [this];rfl
  have h2:nQ 1 ([.i .u8 (.ofNat (Nat.mod w 256))]::acc) (cs++[.lit (.int .u8 ((UInt8.ofNat (w % 256)).toNat:Nat))]):=by rw [e1];exact .cons (.cons (.i _ _) .nil) rfl h
  obtain ⟨h3,h4⟩:=Xi (l:=l) (w:=w / 256) h2;have hd:Qo (l+1) w acc=Qo l (w / 256) ([.i .u8 (.ofNat (Nat.mod w 256))]::acc):=by rw [<-e0];rfl
  rw [hd];refine ⟨?_,by rw [h4];simp;omega⟩
  simp only [strOf,Cp];rw [Bk] at h3;exact h3
theorem aly (h:RE ρ ρ') {ay bytes:Nat} {x y:At} {k:K->bN} (hk:ano ay bytes (cA ρ'.length x) (cA ρ'.length y) ρ k=a) (ha:a≠.fail):JU a ρ' (.app ay bytes x y) k:=by
 obtain ⟨u,v,c,d,h1,h2,h3,h4,h5⟩:=two h hk ha;obtain ⟨e,rev,n,rfl,h6⟩:=Jc h5 ha;obtain ⟨cs,rfl,r1,r2,h7⟩:=abd h1 h6 ha;cases v with
 |s l w=>
  obtain ⟨g1,h8⟩:=dP (show (cond (Nat.beq ay 1) (BZ (Qo l w rev) fun zs=>kL (n+l) fun m=>cond (Nat.ble (m * bytes) Vf) (cond (Nat.ble m Vf) (k (.sl ay zs m)) .fail) .fail) .fail)=a from h7) ha
  rw [vw,jZ] at h8;obtain ⟨g2,h9⟩:=dP h8 ha;obtain ⟨g3,h10⟩:=dP h9 ha;have:=C5 g1
  subst this;obtain ⟨b,rfl,hb,hw⟩:=h2.str;obtain ⟨q1,q2⟩:=Xi (l:=l) (w:=w) r1;rw [<-hb] at q1;refine ⟨_,_,.sl 1 _ (n+l) _ q1 (by rw [q2,r2];omega),?_,h10⟩
  have hl:b.data.toList.length=l:=by rw [hb,Ak]
  have hl2:b.data.size=l:=by rw [<-Array.length_toList];exact hl
  simp only [eF,h3,h4,A4,iO,Lb];rw [C4 trivial,A4,C4 ⟨by simp [DL hb,hl2],by rw [r1.len,r2],by rw [DL hb];exact mF g2,by omega,by rw [DL hb];exact mF g3⟩]
  rw [DL hb]
 |sl e' ys m=>
  obtain ⟨ds,rfl,t1,t2,h8⟩:=abd h2 (show XZ ay e' m (cond (Nat.beq ay 0) .fail (BZ (ys++rev) fun zs=>kL (n+m) fun q=>cond (Nat.ble (q * bytes) Vf) (cond (Nat.ble q Vf) (k (.sl ay zs q)) .fail) .fail))=a from h7) ha
  obtain ⟨g1,h9⟩:=CJ h8 ha;rw [vw,jZ] at h9;obtain ⟨g2,h10⟩:=dP h9 ha;obtain ⟨g3,h11⟩:=dP h10 ha;refine ⟨_,_,.sl ay _ (n+m) _ (t1.append r1) (by simp [r2,t2];omega),?_,h11⟩
  simp only [eF,h3,h4,A4,iO,Lb];rw [C4 (by rw [t1.len,t2]),A4,C4 ⟨by rw [t1.len,t2],by rw [r1.len,r2],mF g2,nz g1,mF g3⟩]
 |i _ _=>exact absurd h7.symm ha
 |b _=>exact absurd h7.symm ha
 |o _=>exact absurd h7.symm ha
end
end Go.Ey
