/- A part. -/
import Derived.Test.YtolnnaanmfnkjaaGreatDoorZ21
set_option linter.all false
namespace Go.Ey
open RowKit
variable [lV]
structure Table (P:Program) (wz:Nat->Nat) (F:DF):Prop where
 nat:∀f vs rs,F.nat f vs=some rs->nY P f vs rs
 ok:∀f I,F.code f=some I->∃fn,P.funcs[f]?=some fn/\Ku P wz fn=some I/\(fn.name== "runtime.NumGoroutine")=false
 mixed:P.follows .mixedOrders=true
def abP:Ex->Exit
 |.normal=> .normal
 |.exit id=> .exit id
 |.ret=> .ret
section
variable {P:Program} {wz:Nat->Nat} {F:DF}
def aaM (B:Nat) (S:Nat->Nat->Prop) (w0:World) (nt:Nat) (m:M) (s:St) (x:Ex) (s':St) (e:Exit) (a':Act) (w':World):Prop:=
 ∃m':M,m'.w=w'/\e=abP x/\m'.h=s'.heap/\Ml m' s'.nx/\Rel B S w0 nt m' s'.env a'/\aB B S m m'
structure Sound (P:Program) (wz:Nat->Nat) (F:DF) (n:Nat):Prop where
 code:∀(c:Code) (ic:gQ) (nt:Nat),comp P wz nt c=some ic->∀(B:Nat) (S:Nat->Nat->Prop) (w0:World) (s:St) (x:Ex) (s':St) (m:M) (a:Act),
  m.h=s.heap->Ml m s.nx->Rel B S w0 nt m s.env a->bZ F n ic s=some (x,s')->c.wp P (aaM B S w0 nt m s x s') a m.w
 loop:∀(cb:Code) (ib:gQ) (nt:Nat),comp P wz nt cb=some ib->∀(B:Nat) (S:Nat->Nat->Prop) (w0:World) (s:St) (x:Ex) (s':St) (m:M) (a:Act),
  m.h=s.heap->Ml m s.nx->Rel B S w0 nt m s.env a->bZ F n (.loop ib) s=some (x,s')->
   ∀(b:Frame) (k:List Item) (cs:List Frame),∃e a' w',aaM B S w0 nt m s x s' e a' w'/\Arrives P (lone (b.at a (.code cb:: .inLoop cb::k)) cs m.w) b k cs e a' w'
 body:∀(f:Nat) (ds:List D) (h:Heap) (k:Nat) (rs:List D) (h':Heap) (nx':Nat),gu F n f ds h k=some (rs,h',nx')->
  qm P f/\∀(B:Nat) (S:Nat->Nat->Prop) (m:M) (us:List Value),m.h=h->Ml m k->fu B S m->lV.Inv B m.w->av (dZ B S m) ds us->
   Calls P f us.toArray m.w fun e w'=>∃(v:Value) (m':M),e=.returned v/\m'.w=w'/\m'.h=h'/\Ml m' nx'/\fu B S m'/\aB B S m m'/\dZ B S m' (Dc rs) v/\Below B m.w m'.w/\∀d,d∈rs->∀ds,d≠.jG ds
 fn:∀f vs rs,jL F n f vs=some rs->nY P f vs rs
 aK:∀f aJ bs rs bs',jI F n f aJ bs=some (rs,bs')->EL P f aJ bs rs bs'
theorem S9 {fn:Func} {I:Lh} (h:Ku P wz fn=some I):
  ∃c ic,fn.body=some c/\comp P wz fn.ntmps c=some ic/\yf P fn.results.toList=some I.res/\I.body=ic/\I.nparams=fn.params.size+fn.nfree/\fn.params.size+fn.nfree<=fn.ntmps:=by
 unfold Ku at h;simp only [A2,A1,C1] at h;obtain ⟨c,h1,ic,h2,rs,h3,h4⟩:=h;split at h4
 ·rename_i hc;simp only [A0] at h4;subst h4;exact ⟨c,ic,h1,h2,h3,rfl,rfl,hc⟩
 ·cases h4
theorem Ru {B:Nat} {S:Nat->Nat->Prop} {w0:World} {nt:Nat} {m:M} {e:Env} {a:Act} (hr:Rel B S w0 nt m e a):∀{vars:List ResultVar} {rs:List Res} {ds:List D},yf P vars=some rs->Ei e m.h rs=some ds->
  ∃us:List Value,(vars.mapM (fun v=>match v with|ResultVar.tmp t=>(pure (a.tmps.getD t undef):Sem Value)|ResultVar.cell x t=>do loadVar t (<-asAddr (a.tmps.getD x undef)))).run P m.w=.ok us m.w/\av (ni B S m) ds us/\∀d,d∈ds->∀ds,d≠.jG ds
 |[],rs,ds,hc,hd=>by simp only [yf,A0] at hc;subst hc;simp only [Ei,A0] at hd;subst hd;exact ⟨[],rfl,trivial,by simp⟩
 |.tmp t::vars,rs,ds,hc,hd=>by
  simp only [yf,A2,A1,A0] at hc;obtain ⟨rs',h1,rfl⟩:=hc;simp only [Ei,A2,A1] at hd;obtain ⟨ds',h2,h3⟩:=hd;obtain ⟨us,h4,h5,h6⟩:=Ru hr h1 h2;have Xy:=hr.env t;have hA:∃d,ds=d::ds'/\ni B S m d (a.tmps.getD t undef)/\∀q,d≠.jG q:=by
   cases hg:fT e t with
   |jG q=>rw [hg] at h3;cases h3
   |_=>rw [hg] at h3 Xy;simp only [A0] at h3;exact ⟨_,h3.symm,Xy,fun q h=>by cases h⟩
  obtain ⟨d,rfl,hA1,hA2⟩:=hA;refine ⟨a.tmps.getD t undef::us,?_,⟨hA1,h5⟩,fun d' hd'=>?_⟩
  ·simp only [List.mapM_cons,Sem.run_bind,Sem.run_pure,Result.andThen_ok,h4]
  ·simp only [D2] at hd';rcases hd' with rfl|hd'
   ·exact hA2
   ·exact h6 d' hd'
 |.cell x t::vars,rs,ds,hc,hd=>by
  simp only [yf,A2,A1,A0] at hc;obtain ⟨agg,g1,i,g2,rs',h1,rfl⟩:=hc;simp only [Ei,A2,A1,A0] at hd;obtain ⟨d,h0,ds',h2,rfl⟩:=hd;obtain ⟨us,h4,h5,h6⟩:=Ru hr h1 h2;obtain ⟨ad,v,e1,e2,e3⟩:=V6 hr.hok g1 g2 (hr.env x) h0;refine ⟨v::us,?_,⟨e3,h5⟩,fun d' hd'=>?_⟩
  ·have hA:(asAddr (.pointer (some ad))).run P m.w=.ok ad m.w:=rfl;simp only [List.mapM_cons,Sem.run_bind,e1,hA,Sem.run_pure,Result.andThen_ok,e2,h4]
  ·simp only [D2] at hd';rcases hd' with rfl|hd'
   ·intro q hq;subst hq;exact e3.elim
   ·exact h6 d' hd'
theorem Xp {B:Nat} {S:Nat->Nat->Prop} {w0:World} {nt:Nat} {m:M} {e:Env} {a:Act} (hr:Rel B S w0 nt m e a) {fn:Func} {rs:List Res} {ds:List D} (hc:yf P fn.results.toList=some rs) (hd:Ei e m.h rs=some ds):
  ∃v,(results fn a.tmps).run P m.w=.ok v m.w/\dZ B S m (Dc ds) v/\∀d,d∈ds->∀ds,d≠.jG ds:=by
 obtain ⟨us,h1,h2,h3⟩:=Ru hr hc hd;have hrun:(fn.results.mapM (fun v=>match v with|ResultVar.tmp t=>(pure (a.tmps.getD t undef):Sem Value)|ResultVar.cell x t=>do loadVar t (<-asAddr (a.tmps.getD x undef)))).run P m.w=.ok us.toArray m.w:=by rw [Array.mapM_eq_mapM_toList,Sem.run_map,h1];rfl
 refine ⟨if h:us.toArray.size=1 then us.toArray[0] else .tuple us.toArray,?_,?_,h3⟩
 ·unfold results;simp only [Sem.run_bind,Sem.run_pure];exact E6 (fun r:Result (Array Value)=>r.andThen fun a w'=>Result.ok (if h:a.size=1 then a[0] else Value.tuple a) w') hrun
 ·match ds,us,h2 with
  |[d],[u],h2=>exact h2.1.mY
  |[],[],h2=>exact ⟨[],rfl,trivial⟩
  |d::d'::ds,u::u'::us,h2=>exact ⟨u::u'::us,rfl,h2⟩
theorem Ir:∀(ds:List D) (k t:Nat),fT (jf k ds) t=if k<=t then (ds[t - k]?).getD .rq else .rq
 |[],k,t=>by simp [jf,fT]
 |d::ds,k,t=>by
  simp only [jf,fT];by_cases h:k=t
  ·subst h;simp
  ·rw [E0 h,Ir ds (k+1) t];by_cases h2:k+1<=t
   ·rw [C6 h2,C6 (by omega),show t - k=(t - (k+1))+1 by omega]
    simp
   ·rw [E0 h2,E0 (by omega)]
theorem YR:Sound P wz F 0 where
 code:=by intro c ic nt _ B S w0 s x s' m a _ _ _ h;simp [bZ] at h
 loop:=by intro cb ib nt _ B S w0 s x s' m a _ _ _ h;simp [bZ] at h
 body:=by intro f ds h nx rs h' nx' hh;simp [gu] at hh
 fn:=by intro f vs rs hh;simp [jL] at hh
 aK:=by intro f aJ bs rs bs' hh;simp [jI] at hh
theorem Om {n:Nat} (ih:Sound P wz F n):∀(cb:Code) (ib:gQ) (nt:Nat),comp P wz nt cb=some ib->∀(B:Nat) (S:Nat->Nat->Prop) (w0:World) (s:St) (x:Ex) (s':St) (m:M) (a:Act),
  m.h=s.heap->Ml m s.nx->Rel B S w0 nt m s.env a->bZ F (n+1) (.loop ib) s=some (x,s')->
   ∀(b:Frame) (k:List Item) (cs:List Frame),∃e a' w',aaM B S w0 nt m s x s' e a' w'/\Arrives P (lone (b.at a (.code cb:: .inLoop cb::k)) cs m.w) b k cs e a' w':=by
 intro cb ib nt h1 B S w0 s x s' m a hh hU hr hev b k cs;simp only [bZ,A2,A1,C1] at hev;obtain ⟨x1,s1,h3,h4⟩:=hev;have hbody:=ih.code _ _ _ h1 B S w0 s x1 s1 m a hh hU hr h3;obtain ⟨e1,a1,w1,hq,harr⟩:=hbody b (.inLoop cb::k) cs;obtain ⟨m1,rfl,rfl,q1,q2,q3,q5⟩:=hq;cases x1 with
 |normal=>
  simp only at h4;obtain ⟨e2,a2,w2,hq2,ao5⟩:=ih.loop cb ib nt h1 B S w0 s1 x s' m1 a1 q1 q2 q3 h4 b k cs;obtain ⟨m2,rfl,rfl,r1,r2,r3,r5⟩:=hq2;refine ⟨abP x,a2,m2.w,⟨m2,rfl,rfl,r1,r2,r3,q5.trans r5⟩,?_⟩;have hstart:Steps P (lone (b.at a (.code cb:: .inLoop cb::k)) cs m.w) (lone (b.at a1 (.inLoop cb::k)) cs m1.w):=harr;exact .of_steps (hstart.trans (.one step_inLoop)) ao5
 |exit id=>
  simp only [A0,A3] at h4;obtain ⟨rfl,rfl⟩:=h4;exact ⟨abP (.exit id),a1,m1.w,⟨m1,rfl,rfl,q1,q2,q3,q5⟩,.pass (x:=.inLoop cb) rfl (fun _ _=> .inl (by simp [abP])) harr⟩
 |ret=>
  simp only [A0,A3] at h4;obtain ⟨rfl,rfl⟩:=h4;exact ⟨abP .ret,a1,m1.w,⟨m1,rfl,rfl,q1,q2,q3,q5⟩,.pass (x:=.inLoop cb) rfl (fun _ _=> .inl (by simp [abP])) harr⟩
theorem XM (hT:Table P wz F) {n:Nat} (ih:Sound P wz F n):∀(c:Code) (ic:gQ) (nt:Nat),comp P wz nt c=some ic->
  ∀(B:Nat) (S:Nat->Nat->Prop) (w0:World) (s:St) (x:Ex) (s':St) (m:M) (a:Act),m.h=s.heap->Ml m s.nx->Rel B S w0 nt m s.env a->bZ F (n+1) ic s=some (x,s')->c.wp P (aaM B S w0 nt m s x s') a m.w:=by
 intro c ic nt hc B S w0 s x s' m a hh hU hr hev;unfold comp at hc;split at hc
 ·simp only [A0] at hc;subst hc;simp only [bZ,A0,A3] at hev;obtain ⟨rfl,rfl⟩:=hev;exact wp_skip ⟨m,rfl,rfl,hh,hU,hr,aB.refl m⟩
 ·simp only [A0] at hc;subst hc;simp only [bZ,A0,A3] at hev;obtain ⟨rfl,rfl⟩:=hev;exact wp_ret ⟨m,rfl,rfl,hh,hU,hr,aB.refl m⟩
 ·simp only [A0] at hc;subst hc;simp only [bZ,A0,A3] at hev;obtain ⟨rfl,rfl⟩:=hev;exact wp_exit ⟨m,rfl,rfl,hh,hU,hr,aB.refl m⟩
 ·rename_i id ops;simp only [A2,A1,A0] at hc;obtain ⟨is,h1,rfl⟩:=hc;simp only [bZ,A2,A1,A0,A3] at hev;obtain ⟨s1,h3,rfl,rfl⟩:=hev;refine wp_region_list (seq_ok ih.fn ih.body ops.toList is h1 s s1 m a hh hU hr h3 fun a' m' q1 q2 q4 q5=>?_)
  exact ⟨m',rfl,rfl,q1,q2,q5,q4⟩
 ·rename_i id ops;simp only [A2,A1] at hc;obtain ⟨is,h1,h2⟩:=hc;split at h2
  case isFalse=>cases h2
  rename_i hdn;split at h2
  ·rename_i hns;simp only [A0] at h2;subst h2;simp only [bZ,A2,A1,C1] at hev;obtain ⟨e1,h1',ts,h3,h4⟩:=hev;split at h4
   case isFalse=>cases h4
   rename_i hdr;simp only [A0,A3] at h4;obtain ⟨rfl,rfl⟩:=h4;refine ahj hT.mixed ih.fn ih.aK h1 hns hdn hh hU hr h3 hdr fun a' m' q1 q2 q3 q4=>?_
   exact ⟨m',rfl,rfl,q1,q2,q4,q3⟩
  ·split at h2
   case isFalse=>cases h2
   rename_i hmx;simp only [A0] at h2;subst h2;simp only [bZ,A2,A1,C1] at hev;obtain ⟨e1,h1',n1,ts,h3,h4⟩:=hev;split at h4
   case isFalse=>cases h4
   rename_i hdr;simp only [A0,A3] at h4;obtain ⟨rfl,rfl⟩:=h4;refine ams hT.mixed ih.fn ih.aK ih.body h1 hmx hdn hh hU hr h3 hdr fun a' m' q1 q2 q3 q4=>?_
   exact ⟨m',rfl,rfl,q1,q2,q4,q3⟩
 ·rename_i ca cb;simp only [A2,A1,A0] at hc;obtain ⟨ia,h1,ib,h2,rfl⟩:=hc;simp only [bZ,A2,A1,C1] at hev;obtain ⟨x1,s1,h3,h4⟩:=hev;refine wp_seq (wp_mono (ih.code _ _ _ h1 B S w0 s x1 s1 m a hh hU hr h3) fun e a1 w1 hp=>?_)
  obtain ⟨m1,rfl,rfl,q1,q2,q3,q5⟩:=hp;cases x1 with
  |normal=>
   simp only at h4;refine wp_mono (ih.code _ _ _ h2 B S w0 s1 x s' m1 a1 q1 q2 q3 h4) fun e a2 w2 hp2=>?_
   obtain ⟨m2,rfl,rfl,r1,r2,r3,r5⟩:=hp2;exact ⟨m2,rfl,rfl,r1,r2,r3,q5.trans r5⟩
  |exit id=>
   simp only [A0,A3] at h4;obtain ⟨rfl,rfl⟩:=h4;exact ⟨m1,rfl,rfl,q1,q2,q3,q5⟩
  |ret=>
   simp only [A0,A3] at h4;obtain ⟨rfl,rfl⟩:=h4;exact ⟨m1,rfl,rfl,q1,q2,q3,q5⟩
 ·rename_i cc ca cb;simp only [A2,A1,A0] at hc;obtain ⟨X',hx,ia,h1,ib,h2,rfl⟩:=hc;simp only [bZ,A2,A1] at hev;obtain ⟨t,h3,h4⟩:=hev;have e1:=hr.opd cc X' hx;rw [Ld h3] at e1;refine wp_cond e1.lit ?_;cases t with
  |true=>exact ih.code _ _ _ h1 B S w0 s x s' m a hh hU hr h4
  |false=>exact ih.code _ _ _ h2 B S w0 s x s' m a hh hU hr h4
 ·rename_i id cb;simp only [A2,A1,A0] at hc;obtain ⟨ib,h1,rfl⟩:=hc;simp only [bZ,A2,A1,C1] at hev;obtain ⟨x1,s1,h3,h4⟩:=hev;refine wp_block (wp_mono (ih.code _ _ _ h1 B S w0 s x1 s1 m a hh hU hr h3) fun e a1 w1 hp=>?_)
  obtain ⟨m1,rfl,rfl,q1,q2,q3,q5⟩:=hp;cases x1 with
  |normal=>
   simp only [A0,A3] at h4;obtain ⟨rfl,rfl⟩:=h4;exact ⟨m1,rfl,rfl,q1,q2,q3,q5⟩
  |ret=>
   simp only [A0,A3] at h4;obtain ⟨rfl,rfl⟩:=h4;exact ⟨m1,rfl,rfl,q1,q2,q3,q5⟩
  |exit id'=>
   simp only at h4;show (if id'=id then _ else _)
   split at h4
   ·rename_i he;rw [C6 he];simp only [A0,A3] at h4;obtain ⟨rfl,rfl⟩:=h4;exact ⟨m1,rfl,rfl,q1,q2,q3,q5⟩
   ·rename_i he;rw [E0 he];simp only [A0,A3] at h4;obtain ⟨rfl,rfl⟩:=h4;exact ⟨m1,rfl,rfl,q1,q2,q3,q5⟩
 ·rename_i cb;simp only [A2,A1,A0] at hc;obtain ⟨ib,h1,rfl⟩:=hc;intro b k cs;obtain ⟨e1,a1,w1,hq,harr⟩:=Om ih cb ib nt h1 B S w0 s x s' m a hh hU hr hev b k cs;exact ⟨e1,a1,w1,hq,.of_steps (.one step_loop) harr⟩
 ·cases hc
theorem YX (hT:Table P wz F) {n:Nat} (ih:Sound P wz F n):∀(f:Nat) (ds:List D) (h:Heap) (k:Nat) (rs:List D) (h':Heap) (nx':Nat),gu F (n+1) f ds h k=some (rs,h',nx')->
  qm P f/\∀(B:Nat) (S:Nat->Nat->Prop) (m:M) (us:List Value),m.h=h->Ml m k->fu B S m->lV.Inv B m.w->av (dZ B S m) ds us->
   Calls P f us.toArray m.w fun e w'=>∃(v:Value) (m':M),e=.returned v/\m'.w=w'/\m'.h=h'/\Ml m' nx'/\fu B S m'/\aB B S m m'/\dZ B S m' (Dc rs) v/\Below B m.w m'.w/\∀d,d∈rs->∀ds,d≠.jG ds:=by
 intro f ds h k rs h' nx' hev;simp only [gu,A2,A1] at hev;obtain ⟨I,hI,hev⟩:=hev;split at hev
 case isFalse=>cases hev
 rename_i hlen;simp only [A1,C1] at hev;obtain ⟨x,s1,h1,h2⟩:=hev;obtain ⟨fn,g1,g2,g3⟩:=hT.ok f I hI;obtain ⟨c,ic,b1,b2,b3,b4,b5,b6⟩:=S9 g2;refine ⟨⟨fn,g1,by rw [b1];rfl,g3⟩,fun B S m us hh hU hk hinv hall=>?_⟩
 have hus:us.length=fn.params.size+fn.nfree:=by rw [<-hall.len,hlen,b5]
 have hfin:∃rs0,Ei s1.env s1.heap I.res=some rs0/\rs=rs0/\h'=s1.heap/\nx'=s1.nx/\x≠.exit 0/\(∀id,x≠.exit id):=by
  cases x with
  |exit id=>simp at h2
  |normal=>
   simp only [A1,A0,A3] at h2;obtain ⟨rs0,h3,rfl,rfl,rfl⟩:=h2;exact ⟨rs0,h3,rfl,rfl,rfl,by simp,by simp⟩
  |ret=>
   simp only [A1,A0,A3] at h2;obtain ⟨rs0,h3,rfl,rfl,rfl⟩:=h2;exact ⟨rs0,h3,rfl,rfl,rfl,by simp,by simp⟩
 obtain ⟨rs0,hres,rfl,rfl,rfl,_,hnx⟩:=hfin;refine calls_of_wp g1 b1 ?_;have hsz:us.toArray.size=fn.params.size+fn.nfree:=by simpa using hus
 have hrel:Rel B S m.w fn.ntmps m (jf 0 ds) { tmps:=us.toArray++Array.replicate (fn.ntmps - us.toArray.size) undef,defers:=[]}:=by
  refine ⟨rfl,by simp;omega,fun t=>?_,hk,Below.refl _ _,hinv⟩
  rw [Ir];simp only [Fl,E7,Nat.sub_zero];cases hd:ds[t]? with
  |none=>trivial
  |some d=>
   obtain ⟨u,hu,hR⟩:=hall.get t hd;have:(us.toArray++Array.replicate (fn.ntmps - us.toArray.size) undef).getD t undef=u:=by have hlt:t < us.length:=(As.1 hu).1;simp [Array.getElem?_append,hlt];exact (As.1 hu).2
   rw [this];exact hR
 rw [b4] at h1;have hwp:=ih.code c ic fn.ntmps b2 B S m.w ⟨jf 0 ds,h,k⟩ x s1 m _ hh hU hrel h1;refine wp_mono hwp fun e a' w' hp=>?_
 obtain ⟨m',rfl,rfl,q1,q2,q3,q5⟩:=hp;obtain ⟨v,r1,r2,r3⟩:=Xp q3 b3 (by rw [q1];exact hres)
 have hpost:a'.defers=[]/\∃v,(results fn a'.tmps).run P m'.w=.ok v m'.w/\(∃(v':Value) (m'':M),Ending.returned v=.returned v'/\m''.w=m'.w/\m''.h=s1.heap/\Ml m'' s1.nx/\fu B S m''/\aB B S m m''/\dZ B S m'' (Dc rs) v'/\Below B m.w m''.w/\∀d,d∈rs->∀ds,d≠.jG ds):=
  ⟨q3.defers,v,r1,v,m',rfl,rfl,q1,q2,q3.hok,q5,r2,q3.below,r3⟩
 cases x with
 |exit id=>exact absurd rfl (hnx id)
 |normal=>exact hpost
 |ret=>exact hpost
theorem fP.aoy {B:Nat} {S:Nat->Nat->Prop} {m:M} (h0:∀id,ax m.h id=.dead) {v:V} {u:Value} (h:fP m.w S v u):dZ B S m v.mY u:=by
 have h1:fP m.w (Safe B S m) v u:=fP.weaken (fun b o hs _=>⟨hs,fun id=>by rw [h0];trivial⟩) h
 exact (fP.mY h1).mY
theorem adv (hT:Table P wz F) {n:Nat} (ih:Sound P wz F n):∀f vs rs,jL F (n+1) f vs=some rs->nY P f vs rs:=by
 intro f vs rs hev;rw [jL] at hev;split at hev
 ·rename_i rs' hn;simp only [A0] at hev;subst hev;exact hT.nat f vs _ hn
 simp only [A2,A1,C1,A0] at hev;obtain ⟨ds,h,nx,h1,rs',vH,h2,rfl⟩:=hev;obtain ⟨hc,hb⟩:=ih.body f _ _ _ ds h nx h1;refine ⟨hc,fun S w us hinv hall=>?_⟩
 have hk:fu w.heap.size (fun b o=>b < w.heap.size->S b o) ⟨w,[],fun _=>0,fun i=>i < 0⟩:=⟨fun id=>trivial,fun i j hi _ _=>absurd rfl hi,fun _ _=>rfl,An _,fun b o hb h=>absurd h (Nat.not_lt.2 hb),fun id cs aj fz ety hg=>by cases hg⟩
 have aeu:av (dZ w.heap.size (fun b o=>b < w.heap.size->S b o) ⟨w,[],fun _=>0,fun i=>i < 0⟩) (vs.map V.mY) us:=hall.map_mono fun v u hv=>fP.aoy (B:=w.heap.size) (S:=fun b o=>b < w.heap.size->S b o) (m:=⟨w,[],fun _=>0,fun i=>i < 0⟩) (fun _=>rfl) (fP.weaken (Xd:=fun b o=>b < w.heap.size->S b o) (fun b o hs _ _=>hs) hv)
 refine (hb w.heap.size (fun b o=>b < w.heap.size->S b o) ⟨w,[],fun _=>0,fun i=>i < 0⟩ us rfl (fun _ hx=>hx) hk hinv aeu).mono fun e w' ⟨v,m',q1,q2,q3,q4,q5,_,q7,q8,q9⟩=>?_
 subst q1 q2;refine ⟨v,rfl,?_,q8⟩;have weak:∀{h'':Heap} {r:V} {u:Value},fP m'.w (Safe w.heap.size (fun b o=>b < w.heap.size->S b o) (m'.heap h'')) r u->fP m'.w (fun b o=>b < w.heap.size->S b o) r u:=fun hr=>fP.weaken (fun b o hs _=>hs.1) hr
 rw [<-q3] at h2
 match ds,q7,h2,q9 with
 |[d],q7,h2,q9=>
  simp only [iX,A2,A1,C1,A0,A3] at h2;obtain ⟨c,x,h3,cs',xs',⟨rfl,rfl⟩,rfl,rfl⟩:=h2;have hA:ni w.heap.size (fun b o=>b < w.heap.size->S b o) m' d v:=by
   cases d with
   |jG q=>exact absurd rfl (q9 (.jG q) (by simp) q)
   |_=>exact q7
  exact weak (Iq q5 hA h3).2.2
 |[],q7,h2,q9=>
  simp only [iX,A0,A3] at h2;obtain ⟨rfl,rfl⟩:=h2;obtain ⟨vs',rfl,hv⟩:=q7;cases vs' with
  |nil=>exact ⟨[],rfl,trivial⟩
  |cons _ _=>exact hv.elim
 |d::d'::ds,q7,h2,q9=>
  obtain ⟨vs',rfl,hv⟩:=q7;have h3:=(M5 q5 hv h2).2.2;have hlen:=h3.len
  match rs',h3 with
  |[],h3=>cases vs' with|nil=>exact hv.elim|cons _ _=>exact h3.elim
  |[r],h3=>
   exfalso;have:=hv.len
   rw [<-hlen] at this;simp at this
  |r::r'::auu,h3=>exact ⟨vs',rfl,h3.mono fun _ _ h=>weak h⟩
theorem Yr {n:Nat} (ih:Sound P wz F n):∀f aJ bs rs bs',jI F (n+1) f aJ bs=some (rs,bs')->EL P f aJ bs rs bs':=by intro f aJ bs rs bs' h;simp only [jI,A2,A1,C1,A0,A3] at h;obtain ⟨ds,h',n',h1,rs',us,h2,bs1,us',h3,rfl,rfl⟩:=h;exact ⟨ds,h',n',us,us',ih.body _ _ _ _ _ _ _ h1,h2,h3⟩
theorem sound (hT:Table P wz F):∀n,Sound P wz F n
 |0=>YR
 |n+1=>⟨XM hT (sound hT n),Om (sound hT n),YX hT (sound hT n),adv hT (sound hT n),Yr (sound hT n)⟩
theorem UY (hT:Table P wz F) {n f:Nat} {vs rs:List V} (h:jL F n f vs=some rs):nY P f vs rs:=(sound hT n).fn f vs rs h
theorem aiy (hT:Table P wz F) {n f:Nat} {vs:List V} {cs:List C} {k:Nat} {h:Heap} {nx:Nat} (h1:gu F n f (vs.map V.mY) [] 0=some ([.full cs k],h,nx)):nY P f vs [.full cs k]:=by
 obtain ⟨hc,hb⟩:=(sound hT n).body f _ _ _ _ h nx h1;refine ⟨hc,fun S w us hinv hall=>?_⟩
 have hk:fu w.heap.size (fun b o=>b < w.heap.size->S b o) ⟨w,[],fun _=>0,fun i=>i < 0⟩:=⟨fun id=>trivial,fun i j hi _ _=>absurd rfl hi,fun _ _=>rfl,An _,fun b o hb h=>absurd h (Nat.not_lt.2 hb),fun id cs aj fz ety hg=>by cases hg⟩
 have aeu:av (dZ w.heap.size (fun b o=>b < w.heap.size->S b o) ⟨w,[],fun _=>0,fun i=>i < 0⟩) (vs.map V.mY) us:=hall.map_mono fun v u hv=>fP.aoy (B:=w.heap.size) (S:=fun b o=>b < w.heap.size->S b o) (m:=⟨w,[],fun _=>0,fun i=>i < 0⟩) (fun _=>rfl) (fP.weaken (Xd:=fun b o=>b < w.heap.size->S b o) (fun b o hs _ _=>hs) hv)
 refine (hb w.heap.size (fun b o=>b < w.heap.size->S b o) ⟨w,[],fun _=>0,fun i=>i < 0⟩ us rfl (fun _ hx=>hx) hk hinv aeu).mono fun e w' ⟨v,m',q1,q2,q3,q4,q5,_,q7,q8,q9⟩=>?_
 subst q1 q2;refine ⟨v,rfl,?_,q8⟩;have hv:fP m'.w (Safe w.heap.size (fun b o=>b < w.heap.size->S b o) m') (.full cs k) v:=q7
 exact fP.weaken (fun b o hs _=>hs.1) hv
end
end Go.Ey
