/- A part. -/
import Derived.Test.YtolnnaanmfnkjaaGreatDoorZ15
set_option linter.all false
namespace Go.Ey
theorem vk {ρ:List W}:∀{a c:List TW} {ws:List W},fQ ρ (a++c)=some ws->∃wa wc,fQ ρ a=some wa/\fQ ρ c=some wc/\ws=wa++wc
 |[],c,ws,h=>⟨[],ws,rfl,h,rfl⟩
 |x::a,c,ws,h=>by simp only [E3,fQ,A1,A0] at h;obtain ⟨w,h1,ws',h2,rfl⟩:=h;obtain ⟨wa,wc,h3,h4,rfl⟩:=vk h2;exact ⟨w::wa,wc,by simp [fQ,h1,h3],h4,rfl⟩
theorem GH {ρ:List W} {x:At} {ws:List W} (h:fQ ρ [.c x]=some ws):∃c,dH ρ x=some c/\ws=[.c c]:=by simp only [fQ,Z8,A1,A0] at h;obtain ⟨w,⟨c,h1,rfl⟩,ws',rfl,rfl⟩:=h;exact ⟨c,h1,rfl⟩
theorem akq {ρ:List W} {sl:SL} {ws:List W} (h:fQ ρ [.l sl]=some ws):∃xs,Tt ρ sl=some xs/\ws=[.l xs]:=by simp only [fQ,Z8,A1,A0] at h;obtain ⟨w,⟨c,h1,rfl⟩,ws',rfl,rfl⟩:=h;exact ⟨c,h1,rfl⟩
theorem oh {ρ:List W} {ws:List W} (h:fQ ρ []=some ws):ws=[]:=by simp only [fQ,A0] at h;exact h.symm
structure Link (N N':Nm) (ms:List (Option Nat)):Prop where
 some_:∀q i,ms[q]?=some (some i)->i < N.nx->q < N'.nx/\N'.μ q=N.μ i/\∀y aj ety fr al,bX N'.hs q=.arr y aj ety fr al->∃x fr' al',bX N.hs i=.arr x aj ety fr' al'/\(fr'=true->fr=true)/\∃cs n,dH N.ρ x=some (.slice cs n)/\dH N'.ρ y=some (.slice cs n)
 none_:∀q,ms[q]?=some none->q < N'.nx/\N'.μ q=none/\∀y aj ety fr al,bX N'.hs q=.arr y aj ety fr al->dH N'.ρ y=some (.slice [] 0)
section
variable {N N':Nm} {ms:List (Option Nat)} (hL:Link N N' ms)
include hL
theorem Vo:∀{c c':List (Nat×Nat)} {ds:List (Nat×Nat)},QX ms c c'=true->av (fun p q:Nat×Nat=>p.1 < N.nx/\N.μ p.1=some q.1/\q.2=p.2) c' ds->av (fun p q:Nat×Nat=>p.1 < N'.nx/\N'.μ p.1=some q.1/\q.2=p.2) c ds
 |[],[],[],_,_=>trivial
 |(i,o)::c,(i',o')::c',d::ds,h,hr=>by
  simp only [QX,A5,K1] at h;obtain ⟨⟨h1,h2⟩,h3⟩:=h;split at h1
  ·rename_i j hm;simp only [K1] at h1;subst h1 h2;obtain ⟨q1,q2,_⟩:=hL.some_ _ _ hm hr.1.1;exact ⟨⟨q1,by rw [q2];exact hr.1.2.1,hr.1.2.2⟩,Vo h3 hr.2⟩
  ·cases h1
 |[],_::_,_,h,_=>by simp [QX] at h
 |_::_,[],_,h,_=>by simp [QX] at h
 |[],[],_::_,_,hr=>hr.elim
 |_::_,_::_,[],_,hr=>hr.elim
theorem Uc {sh:Sh} {d:SD} {D':D} (hr:rJ N d D') {Ff:List TW} (ha:wG ms sh d=some Ff) {ws pre post:List W} (hw:fQ N.ρ Ff=some ws) (hρ:N'.ρ=pre++ws++post) {sd:SD} {n':Nat} (hi:ru pre.length sh=(sd,n')):
  n'=pre.length+ws.length/\rJ N' sd D':=by
 have hv:∀{c:C},ws=[.c c]->dH N'.ρ (.v pre.length)=some c:=by intro c h;rw [hρ,h,B9];exact at_new pre c _
 cases sh with
 |rq=>
  simp only [wG,A0] at ha;subst ha;have:=oh hw;subst this
  simp only [ru,A3] at hi;obtain ⟨rfl,rfl⟩:=hi;exact ⟨by simp,trivial⟩
 |a=>
  simp only [ru,A3] at hi;obtain ⟨rfl,rfl⟩:=hi;cases d with
  |a x=>
   simp only [wG,A0] at ha;subst ha;obtain ⟨c,h1,rfl⟩:=GH hw;obtain ⟨c',h2,h3⟩:=hr;rw [h1] at h2;injection h2 with h2;subst h2
   exact ⟨rfl,c,hv rfl,h3⟩
  |full x=>
   simp only [wG,A0] at ha;subst ha;obtain ⟨c,h1,rfl⟩:=GH hw;obtain ⟨cs,n,h2,h3⟩:=hr;rw [h1] at h2;injection h2 with h2;subst h2
   exact ⟨rfl,_,hv rfl,.inr ⟨cs,n,rfl,h3⟩⟩
  |_=>simp [wG] at ha
 |full=>
  simp only [ru,A3] at hi;obtain ⟨rfl,rfl⟩:=hi;cases d with
  |full x=>
   simp only [wG,A0] at ha;subst ha;obtain ⟨c,h1,rfl⟩:=GH hw;obtain ⟨cs,n,h2,h3⟩:=hr;rw [h1] at h2;injection h2 with h2;subst h2
   exact ⟨rfl,cs,n,hv rfl,h3⟩
  |_=>simp [wG] at ha
 |loc i off=>
  simp only [ru,A3] at hi;obtain ⟨rfl,rfl⟩:=hi;cases d with
  |loc i' off'=>
   simp only [wG] at ha;split at ha
   case isFalse=>cases ha
   rename_i hc;simp only [A0] at ha;subst ha;have:=oh hw;subst this
   obtain ⟨h1,rfl⟩:=hc;obtain ⟨h2,j,h3,h4⟩:=hr;obtain ⟨q1,q2,_⟩:=hL.some_ _ _ h1 h2;exact ⟨by simp,q1,j,by rw [q2];exact h3,h4⟩
  |_=>simp [wG] at ha
 |arr i=>
  simp only [ru,A3] at hi;obtain ⟨rfl,rfl⟩:=hi;cases d with
  |arr i'=>
   simp only [wG] at ha;split at ha
   case isFalse=>cases ha
   rename_i hc;simp only [A0] at ha;subst ha;have:=oh hw;subst this
   obtain ⟨h2,hr⟩:=hr;obtain ⟨q1,q2,q3⟩:=hL.some_ _ _ hc h2;refine ⟨by simp,q1,?_⟩
   rcases hr with ⟨j,len,k1,k2,k3⟩|⟨k1,cs,n,k2,k3⟩
   ·refine .inl ⟨j,len,by rw [q2];exact k1,k2,fun y aj ety fr al hg=>?_⟩
    obtain ⟨x,fr',al',g1,_,cs,n,g2,g3⟩:=q3 _ _ _ _ _ hg;obtain ⟨cs',g4⟩:=k3 _ _ _ _ _ g1;rw [g2] at g4;injection g4 with g4;injection g4 with g4 g5;subst g4 g5
    exact ⟨cs,g3⟩
   ·refine .inr ⟨by rw [q2];exact k1,cs,n,k2,fun y aj ety fr al hg=>?_⟩
    obtain ⟨x,fr',al',g1,_,cs',n',g2,g3⟩:=q3 _ _ _ _ _ hg;have g4:=k3 _ _ _ _ _ g1;rw [g2] at g4;injection g4 with g4;injection g4 with g4 g5;subst g4 g5
    exact g3
  |full x=>
   cases x with
   |z=>
    simp only [wG] at ha;split at ha
    case isFalse=>cases ha
    rename_i hc;simp only [A0] at ha;subst ha;have:=oh hw;subst this
    obtain ⟨cs,n,h2,h3⟩:=hr;simp only [dH,A0,C.slice.injEq] at h2;obtain ⟨rfl,rfl⟩:=h2;obtain ⟨q1,q2,q3⟩:=hL.none_ _ hc;exact ⟨by simp,q1,.inr ⟨q2,[],0,h3,fun y aj ety fr al hg=>q3 _ _ _ _ _ hg⟩⟩
   |_=>simp [wG] at ha
  |_=>simp [wG] at ha
 |fq f caps=>
  simp only [ru,A3] at hi;obtain ⟨rfl,rfl⟩:=hi;cases d with
  |fq f' gT=>
   simp only [wG] at ha;split at ha
   case isFalse=>cases ha
   rename_i hc;simp only [A0] at ha;subst ha;have:=oh hw;subst this
   obtain ⟨rfl,h1⟩:=hc;obtain ⟨ds,h2,h3⟩:=hr;exact ⟨by simp,ds,h2,Vo hL h1 h3⟩
  |_=>simp [wG] at ha
 |abj m=>cases d<;>simp [wG] at ha
 |agg ss=>cases d<;>simp [wG] at ha
theorem Jr:∀{ss:List Sh} {ds:List SD} {Ds:List D},av (rJ N) ds Ds->∀{Ff:List TW},AQ ms ss ds=some Ff->∀{ws pre post:List W},fQ N.ρ Ff=some ws->N'.ρ=pre++ws++post->∀{iq:List SD} {n':Nat},nL pre.length ss=(iq,n')->
  n'=pre.length+ws.length/\av (rJ N') iq Ds
 |[],[],[],_,Ff,ha,ws,pre,post,hw,_,iq,n',hi=>by
  simp only [AQ,A0] at ha;subst ha;have:=oh hw;subst this
  simp only [nL,A3] at hi;obtain ⟨rfl,rfl⟩:=hi;exact ⟨by simp,trivial⟩
 |s::ss,d::ds,D'::Ds,hr,Ff,ha,ws,pre,post,hw,hρ,iq,n',hi=>by
  simp only [AQ,A1,A0] at ha;obtain ⟨t1,h1,t2,h2,rfl⟩:=ha;obtain ⟨w1,w2,h3,h4,rfl⟩:=vk hw;cases e1:ru pre.length s with
  |mk sd n1=>
   obtain ⟨q1,q2⟩:=Uc hL hr.1 h1 h3 (pre:=pre) (post:=w2++post) (by rw [hρ];simp) e1
   cases e2:nL n1 ss with
   |mk aga n2=>
    simp only [nL,e1,e2,A3] at hi;obtain ⟨rfl,rfl⟩:=hi;obtain ⟨q3,q4⟩:=Jr hr.2 h2 h4 (pre:=pre++w1) (post:=post) (by rw [hρ];simp) (iq:=aga) (n':=n2) (by rw [Ax,<-q1];exact e2)
    exact ⟨by rw [q3];simp;omega,q2,q4⟩
 |[],_::_,_,_,_,ha,_,_,_,_,_,_,_,_=>by simp [AQ] at ha
 |_::_,[],_,_,_,ha,_,_,_,_,_,_,_,_=>by simp [AQ] at ha
 |[],[],_::_,hr,_,_,_,_,_,_,_,_,_,_=>hr.elim
 |_::_,_::_,[],hr,_,_,_,_,_,_,_,_,_,_=>hr.elim
theorem NG {lens:List (Nat×Nat)} {b:Bs} {h:Heap} {k:Nat} (hm:Rm b N h k lens) {m:Nat} {ds:List SD} {Ds:List D} (hr:av (rJ N) ds Ds) {aJ:List At} (ha:CJ ds=some aJ) (hl:aJ.length=m) {ws pre post:List W} (hw:fQ N.ρ [.l (IB lens aJ)]=some ws) (hρ:N'.ρ=pre++ws++post):
  ws.length=1/\av (rJ N') ((Ba pre.length 0 m).map .a) Ds/\∃xs,gG N'.ρ pre.length=some (.l xs)/\xs.length=m:=by
 obtain ⟨xs,h1,rfl⟩:=akq hw;obtain ⟨ys,h2,h3⟩:=EI hr ha;rw [ER hm,h2] at h1;injection h1 with h1;subst h1;have hlen:ys.length=m:=by rw [IQ h2,hl]
 have hg:gG N'.ρ pre.length=some (.l ys):=by rw [hρ,B9];exact mJ pre _ _
 exact ⟨rfl,Ih hg (C4 ..) hlen h3,ys,hg,hlen⟩
theorem aef {lens:List (Nat×Nat)} {b:Bs} {h:Heap} {k:Nat} (hm:Rm b N h k lens) {sh:Sh} {d:SD} {D':D} (hr:RD N d D') {Ff:List TW} (ha:Lp lens ms sh d=some Ff) {ws pre post:List W} (hw:fQ N.ρ Ff=some ws) (hρ:N'.ρ=pre++ws++post) {sd:SD} {n':Nat} {l:List (Nat×Nat)} (hi:G8 pre.length sh=(sd,n',l)):
  n'=pre.length+ws.length/\RD N' sd D'/\∀i m,(i,m)∈l->∃xs,gG N'.ρ i=some (.l xs)/\xs.length=m:=by
 by_cases h1:∃m,sh=.abj m
 ·obtain ⟨m,rfl⟩:=h1;simp only [G8,A3] at hi;obtain ⟨rfl,rfl,rfl⟩:=hi;cases d with
  |agg ds=>
   simp only [Lp,A1] at ha;obtain ⟨aJ,h2,ha⟩:=ha;split at ha
   case isFalse=>cases ha
   rename_i hl;simp only [A0] at ha;subst ha;obtain ⟨Ds,rfl,hr⟩:=hr;obtain ⟨q1,q2,q3⟩:=NG hL hm hr h2 hl hw hρ;refine ⟨by omega,⟨Ds,rfl,q2⟩,fun i q hq=>?_⟩
   simp only [B8,A3] at hq;obtain ⟨rfl,rfl⟩:=hq;exact q3
  |_=>simp [Lp] at ha
 ·by_cases h2:∃ss,sh=.agg ss
  ·obtain ⟨ss,rfl⟩:=h2;cases d with
   |agg ds=>
    simp only [Lp] at ha;obtain ⟨Ds,rfl,hr⟩:=hr;cases e1:nL pre.length ss with
    |mk iq n1=>
     simp only [G8,e1,A3] at hi;obtain ⟨rfl,rfl,rfl⟩:=hi;obtain ⟨q1,q2⟩:=Jr hL hr ha hw hρ e1;exact ⟨q1,⟨Ds,rfl,q2⟩,by simp⟩
   |_=>simp [Lp] at ha
  ·have e0:G8 pre.length sh=((ru pre.length sh).1,(ru pre.length sh).2,[]):=by
    cases sh<;>first|rfl|exact absurd ⟨_,rfl⟩ h1|exact absurd ⟨_,rfl⟩ h2
   have e1:Lp lens ms sh d=wG ms sh d:=by cases sh<;>first|rfl|exact absurd ⟨_,rfl⟩ h1|exact absurd ⟨_,rfl⟩ h2
   rw [e0] at hi;simp only [A3] at hi;obtain ⟨rfl,rfl,rfl⟩:=hi;rw [e1] at ha;by_cases hu:sh=.rq
   ·subst hu;simp only [wG,A0] at ha;subst ha;have:=oh hw;subst this
    exact ⟨by simp [ru],by simp only [ru];trivial,by simp⟩
   ·have hc:rJ N d D':=by
     refine hr.c (fun ds e=>?_) (fun ds e=>?_)
     ·subst e;cases sh<;>first|(simp [wG] at ha;done)|exact absurd rfl hu
     ·subst e;cases sh<;>first|(simp [wG] at ha;done)|exact absurd rfl hu
    obtain ⟨q1,q2⟩:=Uc hL hc ha hw hρ (sd:=(ru pre.length sh).1) (n':=(ru pre.length sh).2) rfl;exact ⟨q1,q2.mY,by simp⟩
theorem Vb {lens:List (Nat×Nat)} {b:Bs} {h:Heap} {k:Nat} (hm:Rm b N h k lens) {σ:Sy} (hσ:σ.lens=lens) {e:Env} (he:∀t,RD N (Ae σ.env t) (fT e t)):∀{env:List (Nat×Sh)} {Ff:List TW},VC σ ms env=some Ff->∀{ws pre post:List W},fQ N.ρ Ff=some ws->N'.ρ=pre++ws++post->
  ∀{e':List (Nat×SD)} {n':Nat} {l:List (Nat×Nat)},FN pre.length env=(e',n',l)->n'=pre.length+ws.length/\(∀t,RD N' (Ae e' t) (fT e t))/\∀i m,(i,m)∈l->∃xs,gG N'.ρ i=some (.l xs)/\xs.length=m
 |[],Ff,ha,ws,pre,post,hw,hρ,e',n',l,hi=>by
  simp only [VC,A0] at ha;subst ha;have:=oh hw;subst this
  simp only [FN,A3] at hi;obtain ⟨rfl,rfl,rfl⟩:=hi;exact ⟨by simp,fun t=>trivial,by simp⟩
 |(t,s)::env,Ff,ha,ws,pre,post,hw,hρ,e',n',l,hi=>by
  simp only [VC,A1,A0] at ha;obtain ⟨t1,h1,t2,h2,rfl⟩:=ha;obtain ⟨w1,w2,h3,h4,rfl⟩:=vk hw;rw [hσ] at h1;cases e1:G8 pre.length s with
  |mk sd p=>
   obtain ⟨n1,l1⟩:=p;obtain ⟨q1,q2,q3⟩:=aef hL hm (he t) h1 h3 (pre:=pre) (post:=w2++post) (by rw [hρ];simp) e1
   cases e2:FN n1 env with
   |mk e2' p2=>
    obtain ⟨n2,l2⟩:=p2;simp only [FN,e1,e2,A3] at hi;obtain ⟨rfl,rfl,rfl⟩:=hi;obtain ⟨q4,q5,q6⟩:=Vb hm hσ he h2 h4 (pre:=pre++w1) (post:=post) (by rw [hρ];simp) (e':=e2') (n':=n2) (l:=l2) (by rw [Ax,<-q1];exact e2)
    refine ⟨by rw [q4];simp;omega,fun u=>?_,fun i m hi=>?_⟩
    ·simp only [Ae];by_cases hu:t=u
     ·subst hu;rw [C6 rfl];exact q2
     ·rw [E0 hu];exact q5 u
    ·rw [B0] at hi;exact hi.elim (q3 i m) (q6 i m)
end
theorem Nt {ρ:List W}:∀{t:List TW} {ws:List W},fQ ρ t=some ws->ws.length=t.length
 |[],ws,h=>by rw [oh h];rfl
 |x::t,ws,h=>by simp only [fQ,A1,A0] at h;obtain ⟨w,_,ws',h2,rfl⟩:=h;simp [Nt h2]
theorem zi {ms:List (Option Nat)} {s:Sh} {d:SD} {t:List TW} (h:wG ms s d=some t) (n:Nat):(ru n s).2=n+t.length:=by
 unfold wG at h;split at h<;>first
  |(simp only [A0] at h;subst h;rfl)
  |(split at h
    ·simp only [A0] at h;subst h;rfl
    ·cases h)
  |cases h
theorem Jp {ms:List (Option Nat)}:∀{ss:List Sh} {ds:List SD} {t:List TW},AQ ms ss ds=some t->∀n,(nL n ss).2=n+t.length
 |[],[],t,h,n=>by simp only [AQ,A0] at h;subst h;rfl
 |s::ss,d::ds,t,h,n=>by
  simp only [AQ,A1,A0] at h;obtain ⟨t1,h1,t2,h2,rfl⟩:=h;have e1:=zi h1 n;have e2:=Jp h2 (n+t1.length);cases e3:ru n s with
  |mk sd n1=>
   rw [e3] at e1;simp only at e1;subst e1;cases e4:nL (n+t1.length) ss with
   |mk iq n2=>
    rw [e4] at e2;simp only [nL,e3,e4,Ax] at e2 |-;omega
 |[],_::_,_,h,_=>by simp [AQ] at h
 |_::_,[],_,h,_=>by simp [AQ] at h
theorem ae3 {lens:List (Nat×Nat)} {ms:List (Option Nat)} {sh:Sh} {d:SD} {t:List TW} (h:Lp lens ms sh d=some t) (n:Nat):(G8 n sh).2.1=n+t.length:=by
 cases sh with
 |abj m=>
  cases d with
  |agg ds=>
   simp only [Lp,A1] at h;obtain ⟨aJ,_,h⟩:=h;split at h
   ·simp only [A0] at h;subst h;rfl
   ·cases h
  |_=>simp [Lp] at h
 |agg ss=>
  cases d with
  |agg ds=>
   simp only [Lp] at h;have:=Jp h n
   cases e:nL n ss with
   |mk a c=>rw [e] at this;simp only [G8,e];exact this
  |_=>simp [Lp] at h
 |rq=>exact zi (ms:=ms) (s:=.rq) (d:=d) h n
 |a=>exact zi (s:=.a) (d:=d) h n
 |full=>exact zi (s:=.full) (d:=d) h n
 |loc i off=>exact zi (s:=.loc i off) (d:=d) h n
 |arr i=>exact zi (s:=.arr i) (d:=d) h n
 |fq f c=>exact zi (s:=.fq f c) (d:=d) h n
theorem BC {σ:Sy} {ms:List (Option Nat)} {j:Option Nat} {o:Jb} {t:List TW} (h:Fs σ ms j o=some t):
  (j=none/\∃aj ety fr,o=.arr aj ety fr false/\t=[.c .z])\/
  (∃i,j=some i/\((∃m ds aJ,o=.kQ m/\bX σ.heap i=.box ds/\CJ ds=some aJ/\aJ.length=m/\t=[.l (IB σ.lens aJ)])\/
   (∃ss ds,o=.box ss/\bX σ.heap i=.box ds/\AQ ms ss ds=some t)\/
   (∃aj ety fr al x fr' al',o=.arr aj ety fr al/\bX σ.heap i=.arr x aj ety fr' al'/\(fr'=true->fr=true)/\(al=true->al'=true)/\t=[.c x]))):=by
 cases j with
 |none=>
  left;cases o with
  |arr aj ety fr al=>
   cases al with
   |false=>simp only [Fs,A0] at h;exact ⟨rfl,aj,ety,fr,rfl,h.symm⟩
   |true=>simp [Fs] at h
  |_=>simp [Fs] at h
 |some i=>
  refine .inr ⟨i,rfl,?_⟩;cases o with
  |kQ m=>
   cases hg:bX σ.heap i with
   |box ds=>
    simp only [Fs,hg,A1] at h;obtain ⟨aJ,h1,h⟩:=h;split at h
    ·rename_i hl;simp only [A0] at h;exact .inl ⟨m,ds,aJ,rfl,rfl,h1,hl,h.symm⟩
    ·cases h
   |_=>simp [Fs,hg] at h
  |box ss=>
   cases hg:bX σ.heap i with
   |box ds=>simp only [Fs,hg] at h;exact .inr (.inl ⟨ss,ds,rfl,rfl,h⟩)
   |_=>simp [Fs,hg] at h
  |arr aj ety fr al=>
   cases hg:bX σ.heap i with
   |arr x ja jY fr' al'=>
    simp only [Fs,hg] at h;split at h
    ·rename_i hc;simp only [A0] at h;obtain ⟨rfl,rfl,c3,c4⟩:=hc;exact .inr (.inr ⟨_,_,fr,al,x,fr',al',rfl,rfl,c3,c4,h.symm⟩)
    ·cases h
   |_=>simp [Fs,hg] at h
theorem acQ {σ:Sy} {ms:List (Option Nat)} {j:Option Nat} {o:Jb} {t:List TW} (h:Fs σ ms j o=some t) (n:Nat):(xu n o).2.1=n+t.length:=by
 rcases BC h with ⟨_,aj,ety,fr,rfl,rfl⟩|⟨i,_,⟨m,ds,aJ,rfl,_,_,_,rfl⟩|⟨ss,ds,rfl,_,h1⟩|⟨aj,ety,fr,al,x,fr',al',rfl,_,_,_,rfl⟩⟩
 ·rfl
 ·rfl
 ·have:=Jp h1 n
  cases e:nL n ss with
  |mk a c=>rw [e] at this;simp only [xu,e];exact this
 ·rfl
theorem WJ {σ:Sy} {ms:List (Option Nat)} {ρ ρ':List W}:∀{js:List (Option Nat)} {os:List Jb} {Ff:List TW},Xl σ ms js os=some Ff->∀{ws pre post:List W},fQ ρ Ff=some ws->ρ'=pre++ws++post->∀{q:Nat} {hp:List (Nat×SO)} {n':Nat} {l:List (Nat×Nat)},ML q pre.length os=(hp,n',l)->
  n'=pre.length+ws.length/\js.length=os.length/\(∀i,i < q\/q+os.length<=i->bX hp i=.dead)/\
  (∀(p:Nat) (o:Jb) (j:Option Nat),os[p]?=some o->js[p]?=some j->∃(t1:List TW) (w1 Er CF:List W),Fs σ ms j o=some t1/\fQ ρ t1=some w1/\ρ'=Er++w1++CF/\bX hp (q+p)=(xu Er.length o).1)/\
  ∀x:Nat×Nat,x∈l->∃(p:Nat) (o:Jb) (j:Option Nat) (t1:List TW) (w1 Er CF:List W),os[p]?=some o/\js[p]?=some j/\Fs σ ms j o=some t1/\fQ ρ t1=some w1/\ρ'=Er++w1++CF/\x∈(xu Er.length o).2.2
 |[],[],Ff,ha,ws,pre,post,hw,hρ,q,hp,n',l,hi=>by
  simp only [Xl,A0] at ha;subst ha;have:=oh hw;subst this
  simp only [ML,A3] at hi;obtain ⟨rfl,rfl,rfl⟩:=hi;exact ⟨by simp,rfl,fun _ _=>rfl,by simp,by simp⟩
 |[],_::_,_,ha,_,_,_,_,_,_,_,_,_,_=>by simp [Xl] at ha
 |_::_,[],_,ha,_,_,_,_,_,_,_,_,_,_=>by simp [Xl] at ha
 |j::js,o::os,Ff,ha,ws,pre,post,hw,hρ,q,hp,n',l,hi=>by
  simp only [Xl,A1,A0] at ha;obtain ⟨t1,h1,t2,h2,rfl⟩:=ha;obtain ⟨w1,w2,h3,h4,rfl⟩:=vk hw;have e0:=acQ h1 pre.length;cases e1:xu pre.length o with
  |mk x p1=>
   obtain ⟨n1,l1⟩:=p1;rw [e1] at e0;simp only at e0;rw [<-Nt h3,<-List.length_append] at e0;subst e0;cases e2:ML (q+1) (pre++w1).length os with
   |mk hp2 p2=>
    obtain ⟨n2,l2⟩:=p2;simp only [ML,e1,e2,A3] at hi;obtain ⟨rfl,rfl,rfl⟩:=hi;obtain ⟨q1,q2,q3,q4,q5⟩:=WJ (ρ':=ρ') h2 h4 (pre:=pre++w1) (post:=post) (by rw [hρ];simp) e2
    refine ⟨by rw [q1];simp;omega,by simp [q2],fun i hi=>?_,fun p o' j' ho hj=>?_,fun y hy=>?_⟩
    ·simp only [C5] at hi;rw [dN,E0 (by omega)]
     exact q3 i (by omega)
    ·cases p with
     |zero=>
      simp only [C0,A0] at ho hj;subst ho hj;exact ⟨t1,w1,pre,w2++post,h1,h3,by rw [hρ];simp,by rw [dN,C6 (by omega),e1]⟩
     |succ p=>
      simp only [Bm] at ho hj;obtain ⟨t1',w1',Er,CF,r1,r2,r3,r4⟩:=q4 p o' j' ho hj;exact ⟨t1',w1',Er,CF,r1,r2,r3,by rw [dN,E0 (by omega),<-r4];congr 1;omega⟩
    ·rw [B0] at hy;rcases hy with hy|hy
     ·exact ⟨0,o,j,t1,w1,pre,w2++post,rfl,rfl,h1,h3,by rw [hρ];simp,by rw [e1];exact hy⟩
     ·obtain ⟨p,o',j',r⟩:=q5 y hy;exact ⟨p+1,o',j',by simpa using r⟩
theorem EY:∀{l:List (Option Nat)} {q i:Nat},l[q]?=some (some i)->i∈FH l
 |[],q,i,h=>by simp at h
 |x::l,0,i,h=>by simp only [C0,A0] at h;subst h;simp [FH]
 |none::l,q+1,i,h=>by simp only [Bm] at h;simp only [FH];exact EY h
 |some _::l,q+1,i,h=>by simp only [Bm] at h;simp only [FH,D2];exact .inr (EY h)
theorem Kz:∀{l:List (Option Nat)},(FH l).Nodup->∀{q q' i:Nat},l[q]?=some (some i)->l[q']?=some (some i)->q=q'
 |[],_,q,q',i,h,_=>by simp at h
 |none::l,hn,q,q',i,h,h'=>by
  simp only [FH] at hn;cases q with
  |zero=>simp at h
  |succ q=>cases q' with
   |zero=>simp at h'
   |succ q'=>simp only [Bm] at h h';rw [Kz hn h h']
 |some p::l,hn,q,q',i,h,h'=>by
  simp only [FH,Kp] at hn;cases q with
  |zero=>
   simp only [C0,A0] at h;subst h;cases q' with
   |zero=>rfl
   |succ q'=>simp only [Bm] at h';exact absurd (EY h') hn.1
  |succ q=>cases q' with
   |zero=>
    simp only [C0,A0] at h';subst h';simp only [Bm] at h;exact absurd (EY h) hn.1
   |succ q'=>simp only [Bm] at h h';rw [Kz hn.2 h h']
theorem Nq {ms:List (Option Nat)}:∀{k b q:Nat},TB ms b k=true->b<=q->q < b+k->ms[q]?=some (some q)
 |0,b,q,_,h1,h2=>by omega
 |k+1,b,q,h,h1,h2=>by
  simp only [TB,A5] at h;by_cases hq:b=q
  ·subst hq;have h3:=h.1;split at h3
   ·rename_i i hm;simp only [K1] at h3;subst h3;exact hm
   ·cases h3
  ·exact Nq h.2 (by omega) (by omega)
theorem abA {b:Bs} {ρ:List W} {μ:Nat->Option Nat} {σ:Sy} {s:St} (hR:Rl b ρ μ σ s) {hh:HS} {Ff:List TW} (ha:DW b.aK.length hh σ=some Ff) {ws:List W} (hw:fQ ρ Ff=some ws):
  ∃μ',Rl b ws μ' (KR hh).1 s/\(KR hh).2=ws.length:=by
 unfold DW at ha;simp only at ha;generalize hms:(List.range hh.heap.length).map _=ms at ha;split at ha
 case isFalse=>cases ha
 rename_i hc;rw [A5] at hc;obtain ⟨hc1,hc2⟩:=hc;have ars:=yY hc1;simp only [A1,A0] at ha;obtain ⟨t1,h1,t2,h2,rfl⟩:=ha;obtain ⟨w1,w2,h3,h4,rfl⟩:=vk hw;have aip:ms.length=hh.heap.length:=by rw [<-hms];simp
 cases e1:FN 0 hh.env with
 |mk env' p1=>
  obtain ⟨n1,l1⟩:=p1;have hn1:n1=w1.length:=by
   have aux:∀(env:List (Nat×Sh)) (t:List TW),VC σ ms env=some t->∀n,(FN n env).2.1=n+t.length:=by
    intro env;induction env with
    |nil=>intro t ht n;simp only [VC,A0] at ht;subst ht;rfl
    |cons p env ih=>
     obtain ⟨tt,sh⟩:=p;intro t ht n;simp only [VC,A1,A0] at ht;obtain ⟨a1,g1,a2,g2,rfl⟩:=ht;have f1:=ae3 g1 n;cases e3:G8 n sh with
     |mk sd p=>
      obtain ⟨n2,l2⟩:=p;rw [e3] at f1;simp only at f1;subst f1;have f2:=ih a2 g2 (n+a1.length);cases e4:FN (n+a1.length) env with
      |mk ee p=>
       obtain ⟨n3,l3⟩:=p;rw [e4] at f2;simp only [FN,e3,e4,Ax] at f2 |-;omega
   have:=aux _ _ h1 0
   rw [e1] at this;simp only [E4] at this;rw [this,Nt h3]
  subst hn1;cases e2:ML 0 w1.length hh.heap with
  |mk hp p2=>
   obtain ⟨n2,l2⟩:=p2;have eS:KR hh=(⟨env',hp,hh.heap.length,l1++l2⟩,n2):=by simp only [KR,e1,e2]
   obtain ⟨i1,i2,i3,i4,i5⟩:=WJ (ρ:=ρ) (ρ':=w1++w2) h2 h4 (pre:=w1) (post:=[]) (by simp) e2
   let μ':Nat->Option Nat:=fun q=>(ms[q]?.getD none).bind μ
   let N':Nm:=nm (w1++w2) μ' ⟨env',hp,hh.heap.length,l1++l2⟩
   have Wn:∀(q:Nat) (o:Jb) (j:Option Nat),hh.heap[q]?=some o->ms[q]?=some j->∃(t1:List TW) (w1' Er CF:List W),Fs σ ms j o=some t1/\fQ ρ t1=some w1'/\w1++w2=Er++w1'++CF/\bX hp q=(xu Er.length o).1:=by intro q o j ho hj;obtain ⟨a1,a2,a3,a4,a5,a6,a7,a8⟩:=i4 q o j ho hj;exact ⟨a1,a2,a3,a4,a5,a6,a7,by rw [<-a8];congr 1;omega⟩
   have hat:∀(q:Nat) (j:Option Nat),ms[q]?=some j->∃o,hh.heap[q]?=some o:=fun q j hq=>
    ⟨_,A6 (by rw [<-aip];exact (As.1 hq).1)⟩
   have hmu:∀(q i:Nat),ms[q]?=some (some i)->μ' q=μ i:=fun q i hq=>by simp [μ',hq]
   have aoe:∀q:Nat,ms[q]?=some none->μ' q=none:=fun q hq=>by simp [μ',hq]
   have hsome:∀(q i:Nat),ms[q]?=some (some i)->i < σ.nx:=by
    intro q i hq;obtain ⟨o,ho⟩:=hat q _ hq;obtain ⟨a1,a2,a3,a4,a5,_⟩:=Wn q o _ ho hq;refine hR.mem.ajx (N:=nm ρ μ σ) fun hd=>?_
    have hd':bX σ.heap i=.dead:=hd;rcases BC a5 with ⟨e,_⟩|⟨i',e,⟨m,ds,aJ,_,g,_⟩|⟨ss,ds,_,g,_⟩|⟨_,_,_,_,x,_,_,_,g,_⟩⟩
    ·cases e
    all_goals (injection e with e;subst e;rw [hd'] at g;cases g)
   have ahr:∀(q j:Nat),μ' q=some j->∃i:Nat,ms[q]?=some (some i)/\μ i=some j:=by
    intro q j hq;simp only [μ'] at hq;cases hm:ms[q]? with
    |none=>simp [hm] at hq
    |some x=>cases x with
     |none=>simp [hm] at hq
     |some i=>simp [hm] at hq;exact ⟨i,rfl,hq⟩
   have hL:Link (nm ρ μ σ) N' ms:=by
    refine ⟨fun q i hq _=>⟨?_,hmu q i hq,fun y aj ety fr al hg=>?_⟩,fun q hq=>⟨?_,aoe q hq,fun y aj ety fr al hg=>?_⟩⟩
    ·show q < hh.heap.length;rw [<-aip];exact (As.1 hq).1
    ·obtain ⟨o,ho⟩:=hat q _ hq;obtain ⟨a1,a2,a3,a4,a5,a6,a7,a8⟩:=Wn q o _ ho hq;have hg':bX hp q=.arr y aj ety fr al:=hg;rw [a8] at hg';rcases BC a5 with ⟨e,_⟩|⟨i',e,⟨m,ds,aJ,rfl,g,_⟩|⟨ss,ds,rfl,g,_⟩|⟨ja,jY,fr0,al0,x,fr',al',rfl,g,c1,c2,rfl⟩⟩
     ·cases e
     ·cases hg'
     ·cases e9:nL a3.length ss with|mk _ _=>simp only [xu,e9] at hg';cases hg'
     ·injection e with e;subst e;simp only [xu] at hg';injection hg' with x1 x2 x3 x4 x5;subst x1 x2 x3 x4 x5;obtain ⟨c,g1,rfl⟩:=GH a6;obtain ⟨cs,n,g2,_⟩:=hR.mem.arr (N:=nm ρ μ σ) g;rw [show dH (nm ρ μ σ).ρ x=dH ρ x from rfl,g1] at g2
      injection g2 with g2;subst g2;refine ⟨x,fr',al',g,c1,cs,n,g1,?_⟩;show dH (w1++w2) (.v a3.length)=_
      rw [a7,B9];exact at_new a3 _ _
    ·show q < hh.heap.length;rw [<-aip];exact (As.1 hq).1
    ·obtain ⟨o,ho⟩:=hat q _ hq;obtain ⟨a1,a2,a3,a4,a5,a6,a7,a8⟩:=Wn q o _ ho hq;have hg':bX hp q=.arr y aj ety fr al:=hg;rw [a8] at hg';rcases BC a5 with ⟨_,ja,jY,fr0,rfl,rfl⟩|⟨i',e,_⟩
     ·simp only [xu] at hg';injection hg' with x1 x2 x3 x4 x5;subst x1 x2 x3 x4 x5;obtain ⟨c,g1,rfl⟩:=GH a6;simp only [dH,A0] at g1;subst g1;show dH (w1++w2) (.v a3.length)=_
      rw [a7,B9];exact at_new a3 _ _
     ·cases e
   obtain ⟨_,r2,r3⟩:=Vb hL hR.mem (σ:=σ) rfl hR.env h1 h3 (pre:=[]) (post:=w2) rfl e1;have hbl:∀(q:Nat) (o:Jb) (j:Option Nat),hh.heap[q]?=some o->ms[q]?=some j->∀(t1:List TW) (w1' Er CF:List W),Fs σ ms j o=some t1->fQ ρ t1=some w1'->w1++w2=Er++w1'++CF->∀x∈(xu Er.length o).2.2,∃xs,gG (w1++w2) x.1=some (.l xs)/\xs.length=x.2:=by
    intro q o j ho hj t1' w1' Er CF a5 a6 a7 x hx;rcases BC a5 with ⟨_,ja,jY,fr0,rfl,rfl⟩|⟨i',rfl,⟨m,ds,aJ,rfl,g,c1,c2,rfl⟩|⟨ss,ds,rfl,g,_⟩|⟨ja,jY,fr0,al0,x',fr',al',rfl,g,_,_,rfl⟩⟩
    ·simp [xu] at hx
    ·simp only [xu,B8] at hx;subst hx;obtain ⟨j',ds',_,_,g3⟩:=hR.mem.box (N:=nm ρ μ σ) g;exact (NG hL hR.mem g3 c1 c2 a6 a7).2.2
    ·cases e9:nL Er.length ss with|mk _ _=>simp [xu,e9] at hx
    ·simp [xu] at hx
   refine ⟨μ',?_,by rw [eS];simp only;rw [i1,Ax]⟩
   rw [eS];refine ⟨r2,⟨fun q=>?_,fun q q' j g1 g2 g3 g4=>?_,fun q j g1 g2=>?_,fun q hq=>?_,fun q j g1 g2=>?_,hR.mem.frame,hR.mem.le,fun i m hi=>?_⟩,fun q j hq=>?_⟩
   ·show Sr N' s.heap q (bX hp q)
    by_cases hq:q < hh.heap.length
    ·have ho:hh.heap[q]?=some hh.heap[q]:=A6 hq;have hj:ms[q]?=some (ms[q]'(by omega)):=A6 (by omega)
     obtain ⟨a1,a2,a3,a4,a5,a6,a7,a8⟩:=Wn q _ _ ho hj;rw [a8];generalize hh.heap[q]=o at *;generalize ms[q]'_=j at *;rcases BC a5 with ⟨rfl,ja,jY,fr0,rfl,rfl⟩|⟨i',rfl,⟨m,ds,aJ,rfl,g,c1,c2,rfl⟩|⟨ss,ds,rfl,g,c1⟩|⟨ja,jY,fr0,al0,x',fr',al',rfl,g,c1,c2,rfl⟩⟩
     ·obtain ⟨c,g1,rfl⟩:=GH a6;simp only [dH,A0] at g1;subst g1;refine ⟨[],0,?_,by simp,.inr ⟨aoe q hj,rfl,fun _=>⟨rfl,rfl⟩⟩⟩
      show dH (w1++w2) (.v a3.length)=_
      rw [a7,B9];exact at_new a3 _ _
     ·obtain ⟨j',ds',g1,g2,g3⟩:=hR.mem.box (N:=nm ρ μ σ) g;exact ⟨j',ds',by rw [show N'.μ q=μ' q from rfl,hmu q i' hj];exact g1,g2,(NG hL hR.mem g3 c1 c2 a6 a7).2.1⟩
     ·obtain ⟨j',ds',g1,g2,g3⟩:=hR.mem.box (N:=nm ρ μ σ) g;cases e9:nL a3.length ss with
      |mk iq n9=>
       obtain ⟨_,q2⟩:=Jr hL g3 c1 a6 a7 e9;simp only [xu,e9];exact ⟨j',ds',by rw [show N'.μ q=μ' q from rfl,hmu q i' hj];exact g1,g2,q2⟩
     ·obtain ⟨cs,n,g1,g2,g3⟩:=hR.mem.arr (N:=nm ρ μ σ) g;obtain ⟨c,f1,rfl⟩:=GH a6;rw [show dH (nm ρ μ σ).ρ x'=dH ρ x' from rfl,f1] at g1
      injection g1 with g1;subst g1;refine ⟨cs,n,?_,g2,?_⟩
      ·show dH (w1++w2) (.v a3.length)=_
       rw [a7,B9];exact at_new a3 _ _
      ·rcases g3 with ⟨j',fz,k1,k2,k3,k4,k5⟩|⟨k1,k2,k3⟩
       ·refine .inl ⟨j',fz,by rw [show N'.μ q=μ' q from rfl,hmu q i' hj];exact k1,k2,k3,k4,fun hf=>k5 ?_⟩
        cases fr' with
        |false=>rfl
        |true=>rw [c1 rfl] at hf;cases hf
       ·refine .inr ⟨by rw [show N'.μ q=μ' q from rfl,hmu q i' hj];exact k1,?_,fun hf=>k3 ?_⟩
        ·cases al0 with
         |false=>rfl
         |true=>rw [c2 rfl] at k2;cases k2
        ·cases fr' with
         |false=>rfl
         |true=>rw [c1 rfl] at hf;cases hf
    ·rw [i3 q (.inr (by omega))];trivial
   ·obtain ⟨i,p1,p2⟩:=ahr q j g3;obtain ⟨i',p3,p4⟩:=ahr q' j g4;have:=hR.mem.inj i i' j (hsome q i p1) (hsome q' i' p3) p2 p4
    subst this;exact Kz ars p1 p3
   ·obtain ⟨i,p1,p2⟩:=ahr q j g2;exact hR.mem.lt i j (hsome q i p1) p2
   ·have hq':hh.heap.length<=q:=hq;exact i3 q (.inr (by omega))
   ·obtain ⟨i,p1,p2⟩:=ahr q j g2;exact hR.mem.base i j (hsome q i p1) p2
   ·rw [B0] at hi;rcases hi with hi|hi
    ·exact r3 i m hi
    ·obtain ⟨p,o,j,t1',w1',Er,CF,b1,b2,b3,b4,b5,b6⟩:=i5 _ hi;exact hbl p o j b1 b2 t1' w1' Er CF b3 b4 b5 _ b6
   ·have hlt:q < b.aK.length:=(As.1 hq).1;have hmq:=Nq hc2 (Fl q) (by omega)
    refine ⟨?_,?_⟩
    ·show q < hh.heap.length;rw [<-aip];exact (As.1 hmq).1
    ·rw [hmu q q hmq];exact (hR.aK q j hq).2
end Go.Ey
