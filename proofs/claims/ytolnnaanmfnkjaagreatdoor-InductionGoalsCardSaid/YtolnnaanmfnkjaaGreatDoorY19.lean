/- A part. -/
import Derived.Test.YtolnnaanmfnkjaaGreatDoorY17
set_option linter.all false
namespace Go.Ey
theorem yx {ρ:List W}:∀{a c:List TW} {ws:List W},iA ρ (a++c)=some ws->∃wa wc,iA ρ a=some wa/\iA ρ c=some wc/\ws=wa++wc
 |[],c,ws,h=>⟨[],ws,rfl,h,rfl⟩
 |x::a,c,ws,h=>by simp only [E3,iA,A1,A0] at h;obtain ⟨w,h1,ws',h2,rfl⟩:=h;obtain ⟨wa,wc,h3,h4,rfl⟩:=yx h2;exact ⟨w::wa,wc,by simp [iA,h1,h3],h4,rfl⟩
theorem Ho {ρ:List W} {x:At} {ws:List W} (h:iA ρ [.c x]=some ws):∃c,dW ρ x=some c/\ws=[.c c]:=by simp only [iA,twD,A1,A0] at h;obtain ⟨w,⟨c,h1,rfl⟩,ws',rfl,rfl⟩:=h;exact ⟨c,h1,rfl⟩
theorem ak6 {ρ:List W} {sl:SL} {ws:List W} (h:iA ρ [.l sl]=some ws):∃xs,TF ρ sl=some xs/\ws=[.l xs]:=by simp only [iA,twD,A1,A0] at h;obtain ⟨w,⟨c,h1,rfl⟩,ws',rfl,rfl⟩:=h;exact ⟨c,h1,rfl⟩
theorem oJ {ρ:List W} {ws:List W} (h:iA ρ []=some ws):ws=[]:=by simp only [iA,A0] at h;exact h.symm
structure Link (N N':Nm) (ms:List (Option Nat)):Prop where
 some_:∀q i,ms[q]?=some (some i)->i < N.nx->q < N'.nx/\N'.μ q=N.μ i/\∀y ay ety fr al,dm N'.hs q=.arr y ay ety fr al->∃x fr' al',dm N.hs i=.arr x ay ety fr' al'/\(fr'=true->fr=true)/\∃cs n,dW N.ρ x=some (.slice cs n)/\dW N'.ρ y=some (.slice cs n)
 none_:∀q,ms[q]?=some none->q < N'.nx/\N'.μ q=none/\∀y ay ety fr al,dm N'.hs q=.arr y ay ety fr al->dW N'.ρ y=some (.slice [] 0)
section
variable {N N':Nm} {ms:List (Option Nat)} (hL:Link N N' ms)
include hL
theorem Wd:∀{c c':List (Nat×Nat)} {ds:List (Nat×Nat)},Q0 ms c c'=true->aF (fun p q:Nat×Nat=>p.1 < N.nx/\N.μ p.1=some q.1/\q.2=p.2) c' ds->aF (fun p q:Nat×Nat=>p.1 < N'.nx/\N'.μ p.1=some q.1/\q.2=p.2) c ds
 |[],[],[],_,_=>trivial
 |(i,o)::c,(i',o')::c',d::ds,h,hr=>by
  simp only [Q0,As,Lw] at h;obtain ⟨⟨h1,h2⟩,h3⟩:=h;split at h1
  ·rename_i j hm;simp only [Lw] at h1;subst h1 h2;obtain ⟨q1,q2,_⟩:=hL.some_ _ _ hm hr.1.1;exact ⟨⟨q1,by rw [q2];exact hr.1.2.1,hr.1.2.2⟩,Wd h3 hr.2⟩
  ·cases h1
 |[],_::_,_,h,_=>by simp [Q0] at h
 |_::_,[],_,h,_=>by simp [Q0] at h
 |[],[],_::_,_,hr=>hr.elim
 |_::_,_::_,[],_,hr=>hr.elim
theorem WR {sh:Sh} {d:SD} {D':D} (hr:uq N d D') {Gi:List TW} (ha:zw ms sh d=some Gi) {ws pre post:List W} (hw:iA N.ρ Gi=some ws) (hρ:N'.ρ=pre++ws++post) {sd:SD} {n':Nat} (hi:uw pre.length sh=(sd,n')):
  n'=pre.length+ws.length/\uq N' sd D':=by
 have hv:∀{c:C},ws=[.c c]->dW N'.ρ (.v pre.length)=some c:=by intro c h;rw [hρ,h,Bk];exact at_new pre c _
 cases sh with
 |uf=>
  simp only [zw,A0] at ha;subst ha;have:=oJ hw;subst this
  simp only [uw,A3] at hi;obtain ⟨rfl,rfl⟩:=hi;exact ⟨by simp,trivial⟩
 |a=>
  simp only [uw,A3] at hi;obtain ⟨rfl,rfl⟩:=hi;cases d with
  |a x=>
   simp only [zw,A0] at ha;subst ha;obtain ⟨c,h1,rfl⟩:=Ho hw;obtain ⟨c',h2,h3⟩:=hr;rw [h1] at h2;injection h2 with h2;subst h2
   exact ⟨rfl,c,hv rfl,h3⟩
  |full x=>
   simp only [zw,A0] at ha;subst ha;obtain ⟨c,h1,rfl⟩:=Ho hw;obtain ⟨cs,n,h2,h3⟩:=hr;rw [h1] at h2;injection h2 with h2;subst h2
   exact ⟨rfl,_,hv rfl,.inr ⟨cs,n,rfl,h3⟩⟩
  |_=>simp [zw] at ha
 |full=>
  simp only [uw,A3] at hi;obtain ⟨rfl,rfl⟩:=hi;cases d with
  |full x=>
   simp only [zw,A0] at ha;subst ha;obtain ⟨c,h1,rfl⟩:=Ho hw;obtain ⟨cs,n,h2,h3⟩:=hr;rw [h1] at h2;injection h2 with h2;subst h2
   exact ⟨rfl,cs,n,hv rfl,h3⟩
  |_=>simp [zw] at ha
 |loc i off=>
  simp only [uw,A3] at hi;obtain ⟨rfl,rfl⟩:=hi;cases d with
  |loc i' off'=>
   simp only [zw] at ha;split at ha
   case isFalse=>cases ha
   rename_i hc;simp only [A0] at ha;subst ha;have:=oJ hw;subst this
   obtain ⟨h1,rfl⟩:=hc;obtain ⟨h2,j,h3,h4⟩:=hr;obtain ⟨q1,q2,_⟩:=hL.some_ _ _ h1 h2;exact ⟨by simp,q1,j,by rw [q2];exact h3,h4⟩
  |_=>simp [zw] at ha
 |arr i=>
  simp only [uw,A3] at hi;obtain ⟨rfl,rfl⟩:=hi;cases d with
  |arr i'=>
   simp only [zw] at ha;split at ha
   case isFalse=>cases ha
   rename_i hc;simp only [A0] at ha;subst ha;have:=oJ hw;subst this
   obtain ⟨h2,hr⟩:=hr;obtain ⟨q1,q2,q3⟩:=hL.some_ _ _ hc h2;refine ⟨by simp,q1,?_⟩
   rcases hr with ⟨j,len,k1,k2,k3⟩|⟨k1,cs,n,k2,k3⟩
   ·refine .inl ⟨j,len,by rw [q2];exact k1,k2,fun y ay ety fr al hg=>?_⟩
    obtain ⟨x,fr',al',g1,_,cs,n,g2,g3⟩:=q3 _ _ _ _ _ hg;obtain ⟨cs',g4⟩:=k3 _ _ _ _ _ g1;rw [g2] at g4;injection g4 with g4;injection g4 with g4 g5;subst g4 g5
    exact ⟨cs,g3⟩
   ·refine .inr ⟨by rw [q2];exact k1,cs,n,k2,fun y ay ety fr al hg=>?_⟩
    obtain ⟨x,fr',al',g1,_,cs',n',g2,g3⟩:=q3 _ _ _ _ _ hg;have g4:=k3 _ _ _ _ _ g1;rw [g2] at g4;injection g4 with g4;injection g4 with g4 g5;subst g4 g5
    exact g3
  |full x=>
   cases x with
   |z=>
    simp only [zw] at ha;split at ha
    case isFalse=>cases ha
    rename_i hc;simp only [A0] at ha;subst ha;have:=oJ hw;subst this
    obtain ⟨cs,n,h2,h3⟩:=hr;simp only [dW,A0,C.slice.injEq] at h2;obtain ⟨rfl,rfl⟩:=h2;obtain ⟨q1,q2,q3⟩:=hL.none_ _ hc;exact ⟨by simp,q1,.inr ⟨q2,[],0,h3,fun y ay ety fr al hg=>q3 _ _ _ _ _ hg⟩⟩
   |_=>simp [zw] at ha
  |_=>simp [zw] at ha
 |fD f caps=>
  simp only [uw,A3] at hi;obtain ⟨rfl,rfl⟩:=hi;cases d with
  |fD f' jC=>
   simp only [zw] at ha;split at ha
   case isFalse=>cases ha
   rename_i hc;simp only [A0] at ha;subst ha;have:=oJ hw;subst this
   obtain ⟨rfl,h1⟩:=hc;obtain ⟨ds,h2,h3⟩:=hr;exact ⟨by simp,ds,h2,Wd hL h1 h3⟩
  |_=>simp [zw] at ha
 |abZ m=>cases d<;>simp [zw] at ha
 |agg ss=>cases d<;>simp [zw] at ha
theorem Lu:∀{ss:List Sh} {ds:List SD} {Ds:List D},aF (uq N) ds Ds->∀{Gi:List TW},BR ms ss ds=some Gi->∀{ws pre post:List W},iA N.ρ Gi=some ws->N'.ρ=pre++ws++post->∀{jI:List SD} {n':Nat},oh pre.length ss=(jI,n')->
  n'=pre.length+ws.length/\aF (uq N') jI Ds
 |[],[],[],_,Gi,ha,ws,pre,post,hw,_,jI,n',hi=>by
  simp only [BR,A0] at ha;subst ha;have:=oJ hw;subst this
  simp only [oh,A3] at hi;obtain ⟨rfl,rfl⟩:=hi;exact ⟨by simp,trivial⟩
 |s::ss,d::ds,D'::Ds,hr,Gi,ha,ws,pre,post,hw,hρ,jI,n',hi=>by
  simp only [BR,A1,A0] at ha;obtain ⟨t1,h1,t2,h2,rfl⟩:=ha;obtain ⟨w1,w2,h3,h4,rfl⟩:=yx hw;cases e1:uw pre.length s with
  |mk sd n1=>
   obtain ⟨q1,q2⟩:=WR hL hr.1 h1 h3 (pre:=pre) (post:=w2++post) (by rw [hρ];simp) e1
   cases e2:oh n1 ss with
   |mk agC n2=>
    simp only [oh,e1,e2,A3] at hi;obtain ⟨rfl,rfl⟩:=hi;obtain ⟨q3,q4⟩:=Lu hr.2 h2 h4 (pre:=pre++w1) (post:=post) (by rw [hρ];simp) (jI:=agC) (n':=n2) (by rw [B8,<-q1];exact e2)
    exact ⟨by rw [q3];simp;omega,q2,q4⟩
 |[],_::_,_,_,_,ha,_,_,_,_,_,_,_,_=>by simp [BR] at ha
 |_::_,[],_,_,_,ha,_,_,_,_,_,_,_,_=>by simp [BR] at ha
 |[],[],_::_,hr,_,_,_,_,_,_,_,_,_,_=>hr.elim
 |_::_,_::_,[],hr,_,_,_,_,_,_,_,_,_,_=>hr.elim
theorem Nt {lens:List (Nat×Nat)} {b:Bs} {h:Heap} {k:Nat} (hm:Rm b N h k lens) {m:Nat} {ds:List SD} {Ds:List D} (hr:aF (uq N) ds Ds) {aY:List At} (ha:Ea ds=some aY) (hl:aY.length=m) {ws pre post:List W} (hw:iA N.ρ [.l (JZ lens aY)]=some ws) (hρ:N'.ρ=pre++ws++post):
  ws.length=1/\aF (uq N') ((Cq pre.length 0 m).map .a) Ds/\∃xs,jm N'.ρ pre.length=some (.l xs)/\xs.length=m:=by
 obtain ⟨xs,h1,rfl⟩:=ak6 hw;obtain ⟨ys,h2,h3⟩:=EW hr ha;rw [Gb hm,h2] at h1;injection h1 with h1;subst h1;have hlen:ys.length=m:=by rw [Jg h2,hl]
 have hg:jm N'.ρ pre.length=some (.l ys):=by rw [hρ,Bk];exact mR pre _ _
 exact ⟨rfl,I1 hg (An ..) hlen h3,ys,hg,hlen⟩
theorem afm {lens:List (Nat×Nat)} {b:Bs} {h:Heap} {k:Nat} (hm:Rm b N h k lens) {sh:Sh} {d:SD} {D':D} (hr:RD N d D') {Gi:List TW} (ha:Mx lens ms sh d=some Gi) {ws pre post:List W} (hw:iA N.ρ Gi=some ws) (hρ:N'.ρ=pre++ws++post) {sd:SD} {n':Nat} {l:List (Nat×Nat)} (hi:I9 pre.length sh=(sd,n',l)):
  n'=pre.length+ws.length/\RD N' sd D'/\∀i m,(i,m)∈l->∃xs,jm N'.ρ i=some (.l xs)/\xs.length=m:=by
 by_cases h1:∃m,sh=.abZ m
 ·obtain ⟨m,rfl⟩:=h1;simp only [I9,A3] at hi;obtain ⟨rfl,rfl,rfl⟩:=hi;cases d with
  |agg ds=>
   simp only [Mx,A1] at ha;obtain ⟨aY,h2,ha⟩:=ha;split at ha
   case isFalse=>cases ha
   rename_i hl;simp only [A0] at ha;subst ha;obtain ⟨Ds,rfl,hr⟩:=hr;obtain ⟨q1,q2,q3⟩:=Nt hL hm hr h2 hl hw hρ;refine ⟨by omega,⟨Ds,rfl,q2⟩,fun i q hq=>?_⟩
   simp only [By,A3] at hq;obtain ⟨rfl,rfl⟩:=hq;exact q3
  |_=>simp [Mx] at ha
 ·by_cases h2:∃ss,sh=.agg ss
  ·obtain ⟨ss,rfl⟩:=h2;cases d with
   |agg ds=>
    simp only [Mx] at ha;obtain ⟨Ds,rfl,hr⟩:=hr;cases e1:oh pre.length ss with
    |mk jI n1=>
     simp only [I9,e1,A3] at hi;obtain ⟨rfl,rfl,rfl⟩:=hi;obtain ⟨q1,q2⟩:=Lu hL hr ha hw hρ e1;exact ⟨q1,⟨Ds,rfl,q2⟩,by simp⟩
   |_=>simp [Mx] at ha
  ·have e0:I9 pre.length sh=((uw pre.length sh).1,(uw pre.length sh).2,[]):=by
    cases sh<;>first|rfl|exact absurd ⟨_,rfl⟩ h1|exact absurd ⟨_,rfl⟩ h2
   have e1:Mx lens ms sh d=zw ms sh d:=by cases sh<;>first|rfl|exact absurd ⟨_,rfl⟩ h1|exact absurd ⟨_,rfl⟩ h2
   rw [e0] at hi;simp only [A3] at hi;obtain ⟨rfl,rfl,rfl⟩:=hi;rw [e1] at ha;by_cases hu:sh=.uf
   ·subst hu;simp only [zw,A0] at ha;subst ha;have:=oJ hw;subst this
    exact ⟨by simp [uw],by simp only [uw];trivial,by simp⟩
   ·have hc:uq N d D':=by
     refine hr.c (fun ds e=>?_) (fun ds e=>?_)
     ·subst e;cases sh<;>first|(simp [zw] at ha;done)|exact absurd rfl hu
     ·subst e;cases sh<;>first|(simp [zw] at ha;done)|exact absurd rfl hu
    obtain ⟨q1,q2⟩:=WR hL hc ha hw hρ (sd:=(uw pre.length sh).1) (n':=(uw pre.length sh).2) rfl;exact ⟨q1,q2.nE,by simp⟩
theorem Wv {lens:List (Nat×Nat)} {b:Bs} {h:Heap} {k:Nat} (hm:Rm b N h k lens) {σ:Sy} (hσ:σ.lens=lens) {e:Env} (he:∀t,RD N (Bn σ.env t) (iM e t)):∀{env:List (Nat×Sh)} {Gi:List TW},VE σ ms env=some Gi->∀{ws pre post:List W},iA N.ρ Gi=some ws->N'.ρ=pre++ws++post->
  ∀{e':List (Nat×SD)} {n':Nat} {l:List (Nat×Nat)},GL pre.length env=(e',n',l)->n'=pre.length+ws.length/\(∀t,RD N' (Bn e' t) (iM e t))/\∀i m,(i,m)∈l->∃xs,jm N'.ρ i=some (.l xs)/\xs.length=m
 |[],Gi,ha,ws,pre,post,hw,hρ,e',n',l,hi=>by
  simp only [VE,A0] at ha;subst ha;have:=oJ hw;subst this
  simp only [GL,A3] at hi;obtain ⟨rfl,rfl,rfl⟩:=hi;exact ⟨by simp,fun t=>trivial,by simp⟩
 |(t,s)::env,Gi,ha,ws,pre,post,hw,hρ,e',n',l,hi=>by
  simp only [VE,A1,A0] at ha;obtain ⟨t1,h1,t2,h2,rfl⟩:=ha;obtain ⟨w1,w2,h3,h4,rfl⟩:=yx hw;rw [hσ] at h1;cases e1:I9 pre.length s with
  |mk sd p=>
   obtain ⟨n1,l1⟩:=p;obtain ⟨q1,q2,q3⟩:=afm hL hm (he t) h1 h3 (pre:=pre) (post:=w2++post) (by rw [hρ];simp) e1
   cases e2:GL n1 env with
   |mk e2' p2=>
    obtain ⟨n2,l2⟩:=p2;simp only [GL,e1,e2,A3] at hi;obtain ⟨rfl,rfl,rfl⟩:=hi;obtain ⟨q4,q5,q6⟩:=Wv hm hσ he h2 h4 (pre:=pre++w1) (post:=post) (by rw [hρ];simp) (e':=e2') (n':=n2) (l:=l2) (by rw [B8,<-q1];exact e2)
    refine ⟨by rw [q4];simp;omega,fun u=>?_,fun i m hi=>?_⟩
    ·simp only [Bn];by_cases hu:t=u
     ·subst hu;rw [C4 rfl];exact q2
     ·rw [Dd hu];exact q5 u
    ·rw [Bx] at hi;exact hi.elim (q3 i m) (q6 i m)
end
theorem PU {ρ:List W}:∀{t:List TW} {ws:List W},iA ρ t=some ws->ws.length=t.length
 |[],ws,h=>by rw [oJ h];rfl
 |x::t,ws,h=>by simp only [iA,A1,A0] at h;obtain ⟨w,_,ws',h2,rfl⟩:=h;simp [PU h2]
theorem Bc {ms:List (Option Nat)} {s:Sh} {d:SD} {t:List TW} (h:zw ms s d=some t) (n:Nat):(uw n s).2=n+t.length:=by
 unfold zw at h;split at h<;>first
  |(simp only [A0] at h;subst h;rfl)
  |(split at h
    ·simp only [A0] at h;subst h;rfl
    ·cases h)
  |cases h
theorem Li {ms:List (Option Nat)}:∀{ss:List Sh} {ds:List SD} {t:List TW},BR ms ss ds=some t->∀n,(oh n ss).2=n+t.length
 |[],[],t,h,n=>by simp only [BR,A0] at h;subst h;rfl
 |s::ss,d::ds,t,h,n=>by
  simp only [BR,A1,A0] at h;obtain ⟨t1,h1,t2,h2,rfl⟩:=h;have e1:=Bc h1 n;have e2:=Li h2 (n+t1.length);cases e3:uw n s with
  |mk sd n1=>
   rw [e3] at e1;simp only at e1;subst e1;cases e4:oh (n+t1.length) ss with
   |mk jI n2=>
    rw [e4] at e2;simp only [oh,e3,e4,B8] at e2 |-;omega
 |[],_::_,_,h,_=>by simp [BR] at h
 |_::_,[],_,h,_=>by simp [BR] at h
theorem agb {lens:List (Nat×Nat)} {ms:List (Option Nat)} {sh:Sh} {d:SD} {t:List TW} (h:Mx lens ms sh d=some t) (n:Nat):(I9 n sh).2.1=n+t.length:=by
 cases sh with
 |abZ m=>
  cases d with
  |agg ds=>
   simp only [Mx,A1] at h;obtain ⟨aY,_,h⟩:=h;split at h
   ·simp only [A0] at h;subst h;rfl
   ·cases h
  |_=>simp [Mx] at h
 |agg ss=>
  cases d with
  |agg ds=>
   simp only [Mx] at h;have:=Li h n
   cases e:oh n ss with
   |mk a c=>rw [e] at this;simp only [I9,e];exact this
  |_=>simp [Mx] at h
 |uf=>exact Bc (ms:=ms) (s:=.uf) (d:=d) h n
 |a=>exact Bc (s:=.a) (d:=d) h n
 |full=>exact Bc (s:=.full) (d:=d) h n
 |loc i off=>exact Bc (s:=.loc i off) (d:=d) h n
 |arr i=>exact Bc (s:=.arr i) (d:=d) h n
 |fD f c=>exact Bc (s:=.fD f c) (d:=d) h n
theorem CS {σ:Sy} {ms:List (Option Nat)} {j:Option Nat} {o:NF} {t:List TW} (h:Gz σ ms j o=some t):
  (j=none/\∃ay ety fr,o=.arr ay ety fr false/\t=[.c .z])\/
  (∃i,j=some i/\((∃m ds aY,o=.mH m/\dm σ.heap i=.box ds/\Ea ds=some aY/\aY.length=m/\t=[.l (JZ σ.lens aY)])\/
   (∃ss ds,o=.box ss/\dm σ.heap i=.box ds/\BR ms ss ds=some t)\/
   (∃ay ety fr al x fr' al',o=.arr ay ety fr al/\dm σ.heap i=.arr x ay ety fr' al'/\(fr'=true->fr=true)/\(al=true->al'=true)/\t=[.c x]))):=by
 cases j with
 |none=>
  left;cases o with
  |arr ay ety fr al=>
   cases al with
   |false=>simp only [Gz,A0] at h;exact ⟨rfl,ay,ety,fr,rfl,h.symm⟩
   |true=>simp [Gz] at h
  |_=>simp [Gz] at h
 |some i=>
  refine .inr ⟨i,rfl,?_⟩;cases o with
  |mH m=>
   cases hg:dm σ.heap i with
   |box ds=>
    simp only [Gz,hg,A1] at h;obtain ⟨aY,h1,h⟩:=h;split at h
    ·rename_i hl;simp only [A0] at h;exact .inl ⟨m,ds,aY,rfl,rfl,h1,hl,h.symm⟩
    ·cases h
   |_=>simp [Gz,hg] at h
  |box ss=>
   cases hg:dm σ.heap i with
   |box ds=>simp only [Gz,hg] at h;exact .inr (.inl ⟨ss,ds,rfl,rfl,h⟩)
   |_=>simp [Gz,hg] at h
  |arr ay ety fr al=>
   cases hg:dm σ.heap i with
   |arr x jW mh fr' al'=>
    simp only [Gz,hg] at h;split at h
    ·rename_i hc;simp only [A0] at h;obtain ⟨rfl,rfl,c3,c4⟩:=hc;exact .inr (.inr ⟨_,_,fr,al,x,fr',al',rfl,rfl,c3,c4,h.symm⟩)
    ·cases h
   |_=>simp [Gz,hg] at h
theorem adY {σ:Sy} {ms:List (Option Nat)} {j:Option Nat} {o:NF} {t:List TW} (h:Gz σ ms j o=some t) (n:Nat):(zK n o).2.1=n+t.length:=by
 rcases CS h with ⟨_,ay,ety,fr,rfl,rfl⟩|⟨i,_,⟨m,ds,aY,rfl,_,_,_,rfl⟩|⟨ss,ds,rfl,_,h1⟩|⟨ay,ety,fr,al,x,fr',al',rfl,_,_,_,rfl⟩⟩
 ·rfl
 ·rfl
 ·have:=Li h1 n
  cases e:oh n ss with
  |mk a c=>rw [e] at this;simp only [zK,e];exact this
 ·rfl
theorem Wj {σ:Sy} {ms:List (Option Nat)} {ρ ρ':List W}:∀{js:List (Option Nat)} {os:List NF} {Gi:List TW},ZM σ ms js os=some Gi->∀{ws pre post:List W},iA ρ Gi=some ws->ρ'=pre++ws++post->∀{q:Nat} {hp:List (Nat×SO)} {n':Nat} {l:List (Nat×Nat)},PE q pre.length os=(hp,n',l)->
  n'=pre.length+ws.length/\js.length=os.length/\(∀i,i < q\/q+os.length<=i->dm hp i=.dead)/\
  (∀(p:Nat) (o:NF) (j:Option Nat),os[p]?=some o->js[p]?=some j->∃(t1:List TW) (w1 F4 Em:List W),Gz σ ms j o=some t1/\iA ρ t1=some w1/\ρ'=F4++w1++Em/\dm hp (q+p)=(zK F4.length o).1)/\
  ∀x:Nat×Nat,x∈l->∃(p:Nat) (o:NF) (j:Option Nat) (t1:List TW) (w1 F4 Em:List W),os[p]?=some o/\js[p]?=some j/\Gz σ ms j o=some t1/\iA ρ t1=some w1/\ρ'=F4++w1++Em/\x∈(zK F4.length o).2.2
 |[],[],Gi,ha,ws,pre,post,hw,hρ,q,hp,n',l,hi=>by
  simp only [ZM,A0] at ha;subst ha;have:=oJ hw;subst this
  simp only [PE,A3] at hi;obtain ⟨rfl,rfl,rfl⟩:=hi;exact ⟨by simp,rfl,fun _ _=>rfl,by simp,by simp⟩
 |[],_::_,_,ha,_,_,_,_,_,_,_,_,_,_=>by simp [ZM] at ha
 |_::_,[],_,ha,_,_,_,_,_,_,_,_,_,_=>by simp [ZM] at ha
 |j::js,o::os,Gi,ha,ws,pre,post,hw,hρ,q,hp,n',l,hi=>by
  simp only [ZM,A1,A0] at ha;obtain ⟨t1,h1,t2,h2,rfl⟩:=ha;obtain ⟨w1,w2,h3,h4,rfl⟩:=yx hw;have e0:=adY h1 pre.length;cases e1:zK pre.length o with
  |mk x p1=>
   obtain ⟨n1,l1⟩:=p1;rw [e1] at e0;simp only at e0;rw [<-PU h3,<-List.length_append] at e0;subst e0;cases e2:PE (q+1) (pre++w1).length os with
   |mk hp2 p2=>
    obtain ⟨n2,l2⟩:=p2;simp only [PE,e1,e2,A3] at hi;obtain ⟨rfl,rfl,rfl⟩:=hi;obtain ⟨q1,q2,q3,q4,q5⟩:=Wj (ρ':=ρ') h2 h4 (pre:=pre++w1) (post:=post) (by rw [hρ];simp) e2
    refine ⟨by rw [q1];simp;omega,by simp [q2],fun i hi=>?_,fun p o' j' ho hj=>?_,fun y hy=>?_⟩
    ·simp only [Bm] at hi;rw [eu,Dd (by omega)]
     exact q3 i (by omega)
    ·cases p with
     |zero=>
      simp only [D2,A0] at ho hj;subst ho hj;exact ⟨t1,w1,pre,w2++post,h1,h3,by rw [hρ];simp,by rw [eu,C4 (by omega),e1]⟩
     |succ p=>
      simp only [C6] at ho hj;obtain ⟨t1',w1',F4,Em,r1,r2,r3,r4⟩:=q4 p o' j' ho hj;exact ⟨t1',w1',F4,Em,r1,r2,r3,by rw [eu,Dd (by omega),<-r4];congr 1;omega⟩
    ·rw [Bx] at hy;rcases hy with hy|hy
     ·exact ⟨0,o,j,t1,w1,pre,w2++post,rfl,rfl,h1,h3,by rw [hρ];simp,by rw [e1];exact hy⟩
     ·obtain ⟨p,o',j',r⟩:=q5 y hy;exact ⟨p+1,o',j',by simpa using r⟩
theorem Gv:∀{l:List (Option Nat)} {q i:Nat},l[q]?=some (some i)->i∈GM l
 |[],q,i,h=>by simp at h
 |x::l,0,i,h=>by simp only [D2,A0] at h;subst h;simp [GM]
 |none::l,q+1,i,h=>by simp only [C6] at h;simp only [GM];exact Gv h
 |some _::l,q+1,i,h=>by simp only [C6] at h;simp only [GM,D1];exact .inr (Gv h)
theorem KY:∀{l:List (Option Nat)},(GM l).Nodup->∀{q q' i:Nat},l[q]?=some (some i)->l[q']?=some (some i)->q=q'
 |[],_,q,q',i,h,_=>by simp at h
 |none::l,hn,q,q',i,h,h'=>by
  simp only [GM] at hn;cases q with
  |zero=>simp at h
  |succ q=>cases q' with
   |zero=>simp at h'
   |succ q'=>simp only [C6] at h h';rw [KY hn h h']
 |some p::l,hn,q,q',i,h,h'=>by
  simp only [GM,K0] at hn;cases q with
  |zero=>
   simp only [D2,A0] at h;subst h;cases q' with
   |zero=>rfl
   |succ q'=>simp only [C6] at h';exact absurd (Gv h') hn.1
  |succ q=>cases q' with
   |zero=>
    simp only [D2,A0] at h';subst h';simp only [C6] at h;exact absurd (Gv h) hn.1
   |succ q'=>simp only [C6] at h h';rw [KY hn.2 h h']
theorem OD {ms:List (Option Nat)}:∀{k b q:Nat},R9 ms b k=true->b<=q->q < b+k->ms[q]?=some (some q)
 |0,b,q,_,h1,h2=>by omega
 |k+1,b,q,h,h1,h2=>by
  simp only [R9,As] at h;by_cases hq:b=q
  ·subst hq;have h3:=h.1;split at h3
   ·rename_i i hm;simp only [Lw] at h3;subst h3;exact hm
   ·cases h3
  ·exact OD h.2 (by omega) (by omega)
theorem acC {b:Bs} {ρ:List W} {μ:Nat->Option Nat} {σ:Sy} {s:St} (hR:Rl b ρ μ σ s) {hh:HS} {Gi:List TW} (ha:Fa b.bg.length hh σ=some Gi) {ws:List W} (hw:iA ρ Gi=some ws):
  ∃μ',Rl b ws μ' (LY hh).1 s/\(LY hh).2=ws.length:=by
 unfold Fa at ha;simp only at ha;generalize hms:(List.range hh.heap.length).map _=ms at ha;split at ha
 case isFalse=>cases ha
 rename_i hc;rw [As] at hc;obtain ⟨hc1,hc2⟩:=hc;have aq7:=A8 hc1;simp only [A1,A0] at ha;obtain ⟨t1,h1,t2,h2,rfl⟩:=ha;obtain ⟨w1,w2,h3,h4,rfl⟩:=yx hw;have aiY:ms.length=hh.heap.length:=by rw [<-hms];simp
 cases e1:GL 0 hh.env with
 |mk env' p1=>
  obtain ⟨n1,l1⟩:=p1;have hn1:n1=w1.length:=by
   have aux:∀(env:List (Nat×Sh)) (t:List TW),VE σ ms env=some t->∀n,(GL n env).2.1=n+t.length:=by
    intro env;induction env with
    |nil=>intro t ht n;simp only [VE,A0] at ht;subst ht;rfl
    |cons p env ih=>
     obtain ⟨tt,sh⟩:=p;intro t ht n;simp only [VE,A1,A0] at ht;obtain ⟨a1,g1,a2,g2,rfl⟩:=ht;have f1:=agb g1 n;cases e3:I9 n sh with
     |mk sd p=>
      obtain ⟨n2,l2⟩:=p;rw [e3] at f1;simp only at f1;subst f1;have f2:=ih a2 g2 (n+a1.length);cases e4:GL (n+a1.length) env with
      |mk ee p=>
       obtain ⟨n3,l3⟩:=p;rw [e4] at f2;simp only [GL,e3,e4,B8] at f2 |-;omega
   have:=aux _ _ h1 0
   rw [e1] at this;simp only [E1] at this;rw [this,PU h3]
  subst hn1;cases e2:PE 0 w1.length hh.heap with
  |mk hp p2=>
   obtain ⟨n2,l2⟩:=p2;have eS:LY hh=(⟨env',hp,hh.heap.length,l1++l2⟩,n2):=by simp only [LY,e1,e2]
   obtain ⟨i1,i2,i3,i4,i5⟩:=Wj (ρ:=ρ) (ρ':=w1++w2) h2 h4 (pre:=w1) (post:=[]) (by simp) e2
   let μ':Nat->Option Nat:=fun q=>(ms[q]?.getD none).bind μ
   let N':Nm:=nm (w1++w2) μ' ⟨env',hp,hh.heap.length,l1++l2⟩
   have WE:∀(q:Nat) (o:NF) (j:Option Nat),hh.heap[q]?=some o->ms[q]?=some j->∃(t1:List TW) (w1' F4 Em:List W),Gz σ ms j o=some t1/\iA ρ t1=some w1'/\w1++w2=F4++w1'++Em/\dm hp q=(zK F4.length o).1:=by intro q o j ho hj;obtain ⟨a1,a2,a3,a4,a5,a6,a7,a8⟩:=i4 q o j ho hj;exact ⟨a1,a2,a3,a4,a5,a6,a7,by rw [<-a8];congr 1;omega⟩
   have hat:∀(q:Nat) (j:Option Nat),ms[q]?=some j->∃o,hh.heap[q]?=some o:=fun q j hq=>
    ⟨_,Ax (by rw [<-aiY];exact (B0.1 hq).1)⟩
   have hmu:∀(q i:Nat),ms[q]?=some (some i)->μ' q=μ i:=fun q i hq=>by simp [μ',hq]
   have anS:∀q:Nat,ms[q]?=some none->μ' q=none:=fun q hq=>by simp [μ',hq]
   have hsome:∀(q i:Nat),ms[q]?=some (some i)->i < σ.nx:=by
    intro q i hq;obtain ⟨o,ho⟩:=hat q _ hq;obtain ⟨a1,a2,a3,a4,a5,_⟩:=WE q o _ ho hq;refine hR.mem.ajN (N:=nm ρ μ σ) fun hd=>?_
    have hd':dm σ.heap i=.dead:=hd;rcases CS a5 with ⟨e,_⟩|⟨i',e,⟨m,ds,aY,_,g,_⟩|⟨ss,ds,_,g,_⟩|⟨_,_,_,_,x,_,_,_,g,_⟩⟩
    ·cases e
    all_goals (injection e with e;subst e;rw [hd'] at g;cases g)
   have agJ:∀(q j:Nat),μ' q=some j->∃i:Nat,ms[q]?=some (some i)/\μ i=some j:=by
    intro q j hq;simp only [μ'] at hq;cases hm:ms[q]? with
    |none=>simp [hm] at hq
    |some x=>cases x with
     |none=>simp [hm] at hq
     |some i=>simp [hm] at hq;exact ⟨i,rfl,hq⟩
   have hL:Link (nm ρ μ σ) N' ms:=by
    refine ⟨fun q i hq _=>⟨?_,hmu q i hq,fun y ay ety fr al hg=>?_⟩,fun q hq=>⟨?_,anS q hq,fun y ay ety fr al hg=>?_⟩⟩
    ·show q < hh.heap.length;rw [<-aiY];exact (B0.1 hq).1
    ·obtain ⟨o,ho⟩:=hat q _ hq;obtain ⟨a1,a2,a3,a4,a5,a6,a7,a8⟩:=WE q o _ ho hq;have hg':dm hp q=.arr y ay ety fr al:=hg;rw [a8] at hg';rcases CS a5 with ⟨e,_⟩|⟨i',e,⟨m,ds,aY,rfl,g,_⟩|⟨ss,ds,rfl,g,_⟩|⟨jW,mh,fr0,al0,x,fr',al',rfl,g,c1,c2,rfl⟩⟩
     ·cases e
     ·cases hg'
     ·cases e9:oh a3.length ss with|mk _ _=>simp only [zK,e9] at hg';cases hg'
     ·injection e with e;subst e;simp only [zK] at hg';injection hg' with x1 x2 x3 x4 x5;subst x1 x2 x3 x4 x5;obtain ⟨c,g1,rfl⟩:=Ho a6;obtain ⟨cs,n,g2,_⟩:=hR.mem.arr (N:=nm ρ μ σ) g;rw [show dW (nm ρ μ σ).ρ x=dW ρ x from rfl,g1] at g2
      injection g2 with g2;subst g2;refine ⟨x,fr',al',g,c1,cs,n,g1,?_⟩;show dW (w1++w2) (.v a3.length)=_
      rw [a7,Bk];exact at_new a3 _ _
    ·show q < hh.heap.length;rw [<-aiY];exact (B0.1 hq).1
    ·obtain ⟨o,ho⟩:=hat q _ hq;obtain ⟨a1,a2,a3,a4,a5,a6,a7,a8⟩:=WE q o _ ho hq;have hg':dm hp q=.arr y ay ety fr al:=hg;rw [a8] at hg';rcases CS a5 with ⟨_,jW,mh,fr0,rfl,rfl⟩|⟨i',e,_⟩
     ·simp only [zK] at hg';injection hg' with x1 x2 x3 x4 x5;subst x1 x2 x3 x4 x5;obtain ⟨c,g1,rfl⟩:=Ho a6;simp only [dW,A0] at g1;subst g1;show dW (w1++w2) (.v a3.length)=_
      rw [a7,Bk];exact at_new a3 _ _
     ·cases e
   obtain ⟨_,r2,r3⟩:=Wv hL hR.mem (σ:=σ) rfl hR.env h1 h3 (pre:=[]) (post:=w2) rfl e1;have hbl:∀(q:Nat) (o:NF) (j:Option Nat),hh.heap[q]?=some o->ms[q]?=some j->∀(t1:List TW) (w1' F4 Em:List W),Gz σ ms j o=some t1->iA ρ t1=some w1'->w1++w2=F4++w1'++Em->∀x∈(zK F4.length o).2.2,∃xs,jm (w1++w2) x.1=some (.l xs)/\xs.length=x.2:=by
    intro q o j ho hj t1' w1' F4 Em a5 a6 a7 x hx;rcases CS a5 with ⟨_,jW,mh,fr0,rfl,rfl⟩|⟨i',rfl,⟨m,ds,aY,rfl,g,c1,c2,rfl⟩|⟨ss,ds,rfl,g,_⟩|⟨jW,mh,fr0,al0,x',fr',al',rfl,g,_,_,rfl⟩⟩
    ·simp [zK] at hx
    ·simp only [zK,By] at hx;subst hx;obtain ⟨j',ds',_,_,g3⟩:=hR.mem.box (N:=nm ρ μ σ) g;exact (Nt hL hR.mem g3 c1 c2 a6 a7).2.2
    ·cases e9:oh F4.length ss with|mk _ _=>simp [zK,e9] at hx
    ·simp [zK] at hx
   refine ⟨μ',?_,by rw [eS];simp only;rw [i1,B8]⟩
   rw [eS];refine ⟨r2,⟨fun q=>?_,fun q q' j g1 g2 g3 g4=>?_,fun q j g1 g2=>?_,fun q hq=>?_,fun q j g1 g2=>?_,hR.mem.frame,hR.mem.le,fun i m hi=>?_⟩,fun q j hq=>?_⟩
   ·show Us N' s.heap q (dm hp q)
    by_cases hq:q < hh.heap.length
    ·have ho:hh.heap[q]?=some hh.heap[q]:=Ax hq;have hj:ms[q]?=some (ms[q]'(by omega)):=Ax (by omega)
     obtain ⟨a1,a2,a3,a4,a5,a6,a7,a8⟩:=WE q _ _ ho hj;rw [a8];generalize hh.heap[q]=o at *;generalize ms[q]'_=j at *;rcases CS a5 with ⟨rfl,jW,mh,fr0,rfl,rfl⟩|⟨i',rfl,⟨m,ds,aY,rfl,g,c1,c2,rfl⟩|⟨ss,ds,rfl,g,c1⟩|⟨jW,mh,fr0,al0,x',fr',al',rfl,g,c1,c2,rfl⟩⟩
     ·obtain ⟨c,g1,rfl⟩:=Ho a6;simp only [dW,A0] at g1;subst g1;refine ⟨[],0,?_,by simp,.inr ⟨anS q hj,rfl,fun _=>⟨rfl,rfl⟩⟩⟩
      show dW (w1++w2) (.v a3.length)=_
      rw [a7,Bk];exact at_new a3 _ _
     ·obtain ⟨j',ds',g1,g2,g3⟩:=hR.mem.box (N:=nm ρ μ σ) g;exact ⟨j',ds',by rw [show N'.μ q=μ' q from rfl,hmu q i' hj];exact g1,g2,(Nt hL hR.mem g3 c1 c2 a6 a7).2.1⟩
     ·obtain ⟨j',ds',g1,g2,g3⟩:=hR.mem.box (N:=nm ρ μ σ) g;cases e9:oh a3.length ss with
      |mk jI n9=>
       obtain ⟨_,q2⟩:=Lu hL g3 c1 a6 a7 e9;simp only [zK,e9];exact ⟨j',ds',by rw [show N'.μ q=μ' q from rfl,hmu q i' hj];exact g1,g2,q2⟩
     ·obtain ⟨cs,n,g1,g2,g3⟩:=hR.mem.arr (N:=nm ρ μ σ) g;obtain ⟨c,f1,rfl⟩:=Ho a6;rw [show dW (nm ρ μ σ).ρ x'=dW ρ x' from rfl,f1] at g1
      injection g1 with g1;subst g1;refine ⟨cs,n,?_,g2,?_⟩
      ·show dW (w1++w2) (.v a3.length)=_
       rw [a7,Bk];exact at_new a3 _ _
      ·rcases g3 with ⟨j',fz,k1,k2,k3,k4,k5⟩|⟨k1,k2,k3⟩
       ·refine .inl ⟨j',fz,by rw [show N'.μ q=μ' q from rfl,hmu q i' hj];exact k1,k2,k3,k4,fun hf=>k5 ?_⟩
        cases fr' with
        |false=>rfl
        |true=>rw [c1 rfl] at hf;cases hf
       ·refine .inr ⟨by rw [show N'.μ q=μ' q from rfl,hmu q i' hj];exact k1,?_,fun hf=>k3 ?_⟩
        ·cases al0 with
         |false=>rfl
         |true=>rw [c2 rfl] at k2;cases k2
        ·cases fr' with
         |false=>rfl
         |true=>rw [c1 rfl] at hf;cases hf
    ·rw [i3 q (.inr (by omega))];trivial
   ·obtain ⟨i,p1,p2⟩:=agJ q j g3;obtain ⟨i',p3,p4⟩:=agJ q' j g4;have:=hR.mem.inj i i' j (hsome q i p1) (hsome q' i' p3) p2 p4
    subst this;exact KY aq7 p1 p3
   ·obtain ⟨i,p1,p2⟩:=agJ q j g2;exact hR.mem.lt i j (hsome q i p1) p2
   ·have hq':hh.heap.length<=q:=hq;exact i3 q (.inr (by omega))
   ·obtain ⟨i,p1,p2⟩:=agJ q j g2;exact hR.mem.base i j (hsome q i p1) p2
   ·rw [Bx] at hi;rcases hi with hi|hi
    ·exact r3 i m hi
    ·obtain ⟨p,o,j,t1',w1',F4,Em,b1,b2,b3,b4,b5,b6⟩:=i5 _ hi;exact hbl p o j b1 b2 t1' w1' F4 Em b3 b4 b5 _ b6
   ·have hlt:q < b.bg.length:=(B0.1 hq).1;have hmq:=OD hc2 (Ft q) (by omega)
    refine ⟨?_,?_⟩
    ·show q < hh.heap.length;rw [<-aiY];exact (B0.1 hmq).1
    ·rw [hmu q q hmq];exact (hR.bg q j hq).2
end Go.Ey
