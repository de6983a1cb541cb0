import Derived.Test.YtolnnaanmfnkjaaGreatDoorZ47
import Derived.Test.YtolnnaanmfnkjaaGreatDoorZ48
import Derived.Test.YtolnnaanmfnkjaaGreatDoorZ49
set_option linter.all false
set_option maxHeartbeats 0
set_option maxRecDepth 100000
namespace Go.Ey.Pr
open Seat RowKit Proofs
section
variable {nat:Nat->List V->Option (List V)}
theorem aqL (ks:List Cs) (bs:List Bool) (dI:List aI) (u:Tm) (f:Fd) (hf:f.OK) (hb:bs.length=f.ps.length) (ht:(ai u).length=f.ps.length) (hmd:dI.length < 100000):∀(m p:Nat) (x:Dj),p+m=f.ps.length->x.s.length<=p->x.vars.length<=p->x.jb.length<=p->x.fJ.length<=p->
  bR (T nat).G 45 0 (st0 ks bs dI p u f x)=match Gi dI (f.ps.drop p) (bs.drop p) ((ai u).drop p) x with|none=>some (dS,[])|some y=>bR (T nat).G 45 0 (st0 ks bs dI f.ps.length u f y)
 |0,p,x,hp,_,_,_,_=>by
  obtain rfl:p=f.ps.length:=by omega
  rw [bG (Nat.lt_irrefl _),EO]
 |m+1,p,x,hp,h1,h2,h3,h4=>by
  have hpr:p < f.ps.length:=by omega
  have hpb:p < bs.length:=by omega
  have hpt:p < (ai u).length:=by omega
  have ih:=fun (y:Dj) (g1:y.s.length<=p+1) (g2:y.vars.length<=p+1) (g3:y.jb.length<=p+1) (g4:y.fJ.length<=p+1)=>aqL ks bs dI u f hf hb ht hmd m (p+1) y (by omega) g1 g2 g3 g4
  rw [drop_at hpr,drop_at hpb,drop_at hpt,Hq];cases hbb:bs[p] with
  |true=>
   cases hv:isVar (ai u)[p] with
   |false=>rw [aoS ks bs dI u f hf hmd p x h1 h2 h3 h4 hpr hpb hpt hbb hv];rfl
   |true=>
    cases hi:gm x.vars (aN (ai u)[p]) with
    |true=>rw [aor ks bs dI u f hf hmd p x h1 h2 h3 h4 hpr hpb hpt hbb hv hi];rfl
    |false=>rw [aob ks bs dI u f hf hmd p x h1 h2 h3 h4 hpr hpb hpt hbb hv hi,ih _ (by simp;omega) (by simp;omega) (by simp;omega) (by simp;omega)];rfl
  |false=>
   cases hm:gm dI f.ps[p] with
   |false=>rw [aqh ks bs dI u f hf hmd p x h1 h2 h3 h4 hpr hpb hpt hbb hm,ih _ (by simp;omega) (by simp;omega) (by simp;omega) (by simp;omega)];rfl
   |true=>
    cases hv:isVar (ai u)[p] with
    |false=>rw [apf ks bs dI u f hf hmd p x h1 h2 h3 h4 hpr hpb hpt hbb hm hv];rfl
    |true=>
     cases hi:gm x.vars (aN (ai u)[p]) with
     |true=>rw [aql ks bs dI u f hf hmd p x h1 h2 h3 h4 hpr hpb hpt hbb hm hv hi];rfl
     |false=>rw [aoY ks bs dI u f hf hmd p x h1 h2 h3 h4 hpr hpb hpt hbb hm hv hi,ih _ (by simp;omega) (by simp;omega) (by simp;omega) (by simp;omega)];rfl
theorem arh (ks:List Cs) (bs:List Bool) (dI:List aI) (u:Tm) (f:Fd) (hf:f.OK) (mt:Tm) (hm:f.ms=aa mt) (hmn:ah mt<=3000) (x:Dj) (hs:x.s.length < 100000) (ho:∀t∈x.fJ,ah t<=3000) (hos:au x.fJ<=60000) (hc:x.jb.length < 100000):
  bR (T nat).G 45 0 (st0 ks bs dI f.ps.length u f x)=cond (je x.jb (bT 1 [] x.fJ)) (some (dS,[])) (bR (T nat).G 45 1 (st1 ⟨f,ks,bs,u,x.s,bT 1 [] x.fJ,x.jb,ig x.s mt⟩ 0 [])):=by
 cases hq:je x.jb (bT 1 [] x.fJ) with
 |true=>exact an0 ks bs dI u f hf mt hm hmn x hs ho hos hc hq
 |false=>exact anP ks bs dI u f hf mt hm hmn x hs ho hos hc hq
end
section
variable {nat:Nat->List V->Option (List V)}
attribute [local congr] uq vD
theorem aqO (g:Gd) (hg:g.OK) (i:Nat) (hi:i < g.ks.length) (out:List Cs) (ho:out.length < 100000) (tests:List Tm):∀(m k:Nat) (acc:List (List cu)),k+m=g.ks[i].subs.length->acc.length<=k->(∀s∈acc,s.length < 100000/\yt s)->
  bR (T nat).G 45 4 (st4 g i k out tests acc)=bR (T nat).G 45 1 (st1 g (i+1) (out++[⟨tests,g.subs (g.ks[i].subs.drop k) acc⟩]))
 |0,k,acc,hk,ha,hok=>by
  have hlt:¬((k:Int) < (g.ks[i].subs.length:Int)):=by omega
  have hr:=Pf hi;have hks:=hg.ks;have hs':=bn i (by omega)
  have hl2:=YA tests acc;have ha2:=afJ (acc:=out) (x:=⟨tests,acc⟩) (by omega)
  rw [bG (by omega:¬k < g.ks[i].subs.length),afy _ rfl]
  simp [-Int.natCast_add,st4,st1,V4,zZ,hlt,hr,aG,hs',hl2,ha2,Gd.subs,aU hg.f,af]
 |m+1,k,acc,hk,ha,hok=>by
  have hc:=hg.subs _ (By hi);have hkr:k < g.ks[i].subs.length:=by omega
  have hlt:((k:Int) < (g.ks[i].subs.length:Int)):=by omega
  have hr:=Pf hi;have hl:=acZ (nat:=nat) g hg i hi k hkr out tests acc g.f.ps.length 0 [] (by omega) (by simp)
  simp only [C4,E2] at hl;have hls:(g.ls g.ks[i].subs[k]).length < 100000/\yt (g.ls g.ks[i].subs[k]):=⟨by have:=IW g.s g.ks[i].subs[k] g.f.ps g.bs (ai g.u);have:=hg.f.ps;unfold Gd.ls;omega,hg.ls _ (By hi) _ (By hkr)⟩
  have h2:=(aoD (nat:=nat) g hg i k (by omega) out tests (g.ls g.ks[i].subs[k]) hls acc ⟨by omega,hok⟩ acc.length 0 (by omega)).1
  rw [C4] at h2;have ih:=aqO g hg i hi out ho tests m (k+1) (g.add acc g.ks[i].subs[k]) (by omega) (by have:=aio g acc g.ks[i].subs[k];omega) (YZ g acc _ _ hok hls)
  have e:g.subs (g.ks[i].subs.drop k) acc=g.subs (g.ks[i].subs.drop (k+1)) (g.add acc g.ks[i].subs[k]):=by rw [drop_at hkr];rfl
  have ez:rows cK []=cz:=rfl;rw [e,<-ih];refine Eq.trans ?_ h2;refine Eq.trans ?_ hl;rw [afy _ rfl];simp [-Int.natCast_add,st4,st5,V4,zZ,hlt,hr,aG,ez,aU hg.f,af]
theorem anD (g:Gd) (hg:g.OK) (i:Nat) (hi:i < g.ks.length) (out:List Cs) (ho:out.length < 100000) (tests:List Tm):
  bR (T nat).G 45 8 (st8 g i 0 out tests)=bR (T nat).G 45 1 (st1 g (i+1) (out++[⟨tests,g.subs g.ks[i].subs []⟩])):=by
 have hr:=Pf hi;have hks:=hg.ks;have hc:=hg.subs _ (By hi);by_cases h0:0 < g.ks[i].subs.length
 ·have hlt:((0:Int) < (g.ks[i].subs.length:Int)):=by omega
  have hl:=XR (nat:=nat) g hg i hi 0 h0 out tests g.f.ps.length 0 [] (by omega) (by simp)
  simp only [C4,E2] at hl;have hls:(g.ls g.ks[i].subs[0]).length < 100000/\yt (g.ls g.ks[i].subs[0]):=⟨by have:=IW g.s g.ks[i].subs[0] g.f.ps g.bs (ai g.u);have:=hg.f.ps;unfold Gd.ls;omega,hg.ls _ (By hi) _ (By h0)⟩
  have h2:=ak1 (nat:=nat) g hg i 0 (by omega) out tests (g.ls g.ks[i].subs[0])
  have ih:=aqO (nat:=nat) g hg i hi out ho tests (g.ks[i].subs.length - 1) 1 [g.ls g.ks[i].subs[0]] (by omega) (by simp) (fun s hs=>by rw [B8.1 hs];exact hls)
  have e:g.subs g.ks[i].subs []=g.subs (g.ks[i].subs.drop 1) [g.ls g.ks[i].subs[0]]:=by have h3:=drop_at h0;rw [C4] at h3;exact E6 (fun l=>g.subs l []) h3
  have ez:rows cK []=cz:=rfl;rw [e,<-ih];refine Eq.trans ?_ h2;refine Eq.trans ?_ hl;rw [afk _ rfl];simp [-Int.natCast_add,st8,Yv,UL,zZ,hlt,h0,hr,aG,ez,aU hg.f,af]
 ·have hlt:¬((0:Int) < (g.ks[i].subs.length:Int)):=by omega
  have hs':=bn i (by omega)
  have hl2:=alK tests;have ha2:=afJ (acc:=out) (x:=⟨tests,[]⟩) (by omega)
  have e:g.ks[i].subs=[]:=Cp (by omega)
  rw [e,afk _ rfl];simp [-Int.natCast_add,st8,st1,UL,zZ,e,hlt,hr,aG,hs',hl2,ha2,Gd.subs,aU hg.f,af]
theorem aqz (g:Gd) (hg:g.OK):∀(m i:Nat) (out:List Cs),i+m=g.ks.length->out.length<=i->
  bR (T nat).G 45 1 (st1 g i out)=some ([.agg (aZ ⟨[g.u],g.jb,g.fx,out++(g.ks.drop i).map g.cas,g.Qd,1⟩),.one (cb true)],[])
 |0,i,out,hi,ho=>by
  have hlt:¬((i:Int) < (g.ks.length:Int)):=by omega
  have e11:=nH g.Qd;rw [bG (by omega:¬i < g.ks.length),ae7 _ rfl,aZ,<-e11]
  simp [-Int.natCast_add,st1,Vu,zZ,hlt,aG]
 |m+1,i,out,hi,ho=>by
  have hir:i < g.ks.length:=by omega
  have hks:=hg.ks;have hlt:((i:Int) < (g.ks.length:Int)):=by omega
  have h1:=anY (nat:=nat) g hg i hir out g.ks[i].tests.length 0 [] (by omega) (by simp)
  simp only [C4,E2] at h1;have h2:=anD (nat:=nat) g hg i hir out (by omega) (g.ks[i].tests.map fun t=>nnT (ig g.s t))
  have ih:=aqz g hg m (i+1) (out++[g.cas g.ks[i]]) (by omega) (by simp;omega)
  have ez:rows aa []=cz:=rfl;rw [drop_at hir,D4,show out++g.cas g.ks[i]::List.map g.cas (g.ks.drop (i+1))=out++[g.cas g.ks[i]]++List.map g.cas (g.ks.drop (i+1)) by simp,<-ih]
  refine Eq.trans ?_ h2;refine Eq.trans ?_ h1;rw [ae7 _ rfl];simp [-Int.natCast_add,st1,st2,Vu,zZ,hlt,aG,ez,aU hg.f,af]
end
mutual
theorem yT {s:List cu} {M:Nat} (hM:1<=M) (hs:∀a∈s,ah a.t<=M):∀t:Tm,ah (ig s t)<=ah t * M
 |.var p x=>by
  rw [ig];have h1:1<=ah (.var p x):=dY _;have h2:=Cd M h1;cases h:jX s (p,x) with
  |none=>simp only [Option.getD_none];exact Nat.le_mul_of_pos_right _ hM
  |some t=>
   obtain ⟨a,ha,rfl⟩:=EP h;have:=hs a ha
   simp only [Option.getD_some];omega
 |.dV o=>by rw [ig];exact Nat.le_mul_of_pos_right _ hM
 |.app p x ts=>by have h1:=Qf hM hs ts;rw [ig];simp only [ah];rw [Mu,Nat.one_mul];omega
theorem Qf {s:List cu} {M:Nat} (hM:1<=M) (hs:∀a∈s,ah a.t<=M):∀ts:List Tm,au (wu s ts)<=au ts * M
 |[]=>by simp [wu,au]
 |t::ts=>by have h1:=yT hM hs t;have h2:=Qf hM hs ts;rw [wu];simp only [au];rw [Mu];omega
end
theorem wh {M:Nat}:∀ts:List Tm,(∀t∈ts,ah t<=M)->au ts<=ts.length * M
 |[],_=>by simp [au]
 |t::ts,h=>by
  have h1:=wh ts fun x hx=>h x (Fm _ hx)
  have h2:=h t Fk;simp only [au,C5];rw [Mu,Nat.one_mul];omega
structure Dj.OK (M n:Nat) (x:Dj):Prop where
 s:x.s.length<=n/\∀a∈x.s,ah a.t<=M
 vars:x.vars.length<=n
 jb:x.jb.length<=n
 fJ:x.fJ.length<=n/\∀t∈x.fJ,ah t<=M
theorem RI {M:Nat} {dI:List aI}:∀(ps:List aI) (bs:List Bool) (ts:List Tm) (n:Nat) (x y:Dj),(∀t∈ts,ah t<=M)->x.OK M n->Gi dI ps bs ts x=some y->y.OK M (n+ps.length)
 |[],bs,ts,n,x,y,_,hx,h=>by rw [EO] at h;cases h;exact hx
 |p::ps,[],ts,n,x,y,_,hx,h=>by simp only [Gi,A0] at h;subst h;exact ⟨⟨by have:=hx.s.1;simp;omega,hx.s.2⟩,by have:=hx.vars;simp;omega,by have:=hx.jb;simp;omega,⟨by have:=hx.fJ.1;simp;omega,hx.fJ.2⟩⟩
 |p::ps,b::bs,[],n,x,y,_,hx,h=>by simp only [Gi,A0] at h;subst h;exact ⟨⟨by have:=hx.s.1;simp;omega,hx.s.2⟩,by have:=hx.vars;simp;omega,by have:=hx.jb;simp;omega,⟨by have:=hx.fJ.1;simp;omega,hx.fJ.2⟩⟩
 |p::ps,b::bs,t::ts,n,x,y,ht,hx,h=>by
  rw [Hq] at h;cases hq:((b||gm dI p) && !(isVar t && !gm x.vars (aN t))) with
  |true=>rw [hq] at h;cases h
  |false=>
   rw [hq,Ek] at h;have h1:=ht t Fk;have h2:=hx.s.1;have h3:=hx.vars;have h4:=hx.jb;have h5:=hx.fJ.1;have hx':Dj.OK M (n+1) ⟨x.s++[⟨p,t⟩],cond (b||gm dI p) (x.vars++[aN t]) x.vars,cond b (x.jb++[aN t]) x.jb,cond b x.fJ (x.fJ++[t])⟩:=by
    refine ⟨⟨by simp;omega,fun a ha=>?_⟩,?_,?_,⟨?_,fun a ha=>?_⟩⟩
    ·rcases B0.1 ha with ha|ha
     ·exact hx.s.2 a ha
     ·rw [B8.1 ha];exact h1
    ·cases b<;>cases gm dI p<;>simp<;>omega
    ·cases b<;>simp<;>omega
    ·cases b<;>simp<;>omega
    ·cases b with
     |true=>exact hx.fJ.2 a ha
     |false=>
      rcases B0.1 ha with ha|ha
      ·exact hx.fJ.2 a ha
      ·rw [B8.1 ha];exact h1
   have h6:=RI ps bs ts (n+1) _ y (fun a ha=>ht a (Fm _ ha)) hx' h
   rw [show n+(p::ps).length=n+1+ps.length by simp;omega]
   exact h6
structure RO (ks:List Cs):Prop where
 len:ks.length < 1000
 ts:∀c∈ks,c.tests.length < 1000/\∀t∈c.tests,ah t<=30
 ss:∀c∈ks,c.subs.length < 1000/\∀s∈c.subs,s.length<=1000/\∀a∈s,ah a.t<=30
theorem Ca {t:Tm} (h:ah t<=3000):Gq t:=⟨ad7 t h,h⟩
theorem F3 {u t:Tm} (h:t∈ai u):ah t<=ah u:=by
 cases u with
 |var p x=>cases h
 |dV o=>cases h
 |app p x ts=>have h1:=nC (show t∈ts from h);simp only [ah];omega
theorem YF {s sub:List cu} (hs:∀a∈s,ah a.t<=100) (hsub:∀a∈sub,ah a.t<=30):∀(ps:List aI) (bs:List Bool) (ts:List Tm),yt (lsA s sub ps bs ts)
 |[],bs,ts=>by simp [lsA,yt]
 |p::ps,[],ts=>by simp [lsA,yt]
 |p::ps,b::bs,[]=>by simp [lsA,yt]
 |p::ps,b::bs,t::ts=>by
  have ih:=YF hs hsub ps bs ts;rw [lsA];cases b with
  |false=>exact ih
  |true=>
   intro a ha;rcases D2.1 ha with rfl|ha
   ·have h1:=yT (M:=30) (by omega) hsub (.var p.1 p.2)
    have h2:=yT (M:=100) (by omega) hs (ig sub (.var p.1 p.2))
    have h0:ah (.var p.1 p.2)=1:=by simp [ah]
    rw [h0] at h1;exact Ca (by have:=Cd 100 h1;simp only;omega)
   ·exact ih a ha
def cdF (off:List aI) (f:Fd) (mt:Tm) (sc:Option (List Cs)) (u:Tm):Option gX:=cond (gm off (aN u)) none (cond (decide ((ai u).length=f.ps.length)) (sc.bind fun ks=>cdG f mt ks u) none)
def OW:Option gX->List V
 |none=>dS
 |some c=>[.agg (aZ c),.one (cb true)]
def LC:Option (List Cs)->List V
 |none=>[.one cz,.one (cb false)]
 |some ks=>[.one (rows dh ks),.one (cb true)]
section
variable {nat:Nat->List V->Option (List V)}
theorem arX (f:Fd) (hf:f.OK) (mt:Tm) (hm:f.ms=aa mt) (hmn:ah mt<=30) (ks:List Cs) (hks:RO ks) (u:Tm) (hu:ah u<=100) (hl:(ai u).length=f.ps.length):
  bR (T nat).G 45 0 (st0 ks (nk f.ps ks (List.replicate f.ps.length false)) (bT 1 [] [mt]) 0 u f ⟨[],[],[],[]⟩)=some (OW (cdG f mt ks u),[]):=by
 have hb:(nk f.ps ks (List.replicate f.ps.length false)).length=f.ps.length:=by rw [NT];simp
 have hn1:au [mt]<=60000:=by simp [au];omega
 have hps:=hf.ps;have h0:=aqL (nat:=nat) ks (nk f.ps ks (List.replicate f.ps.length false)) (bT 1 [] [mt]) u f hf hb hl (jr _ hn1) f.ps.length 0 ⟨[],[],[],[]⟩ (by omega) (by simp) (by simp) (by simp) (by simp)
 simp only [C4] at h0;rw [h0,cdG];cases hc:Gi (bT 1 [] [mt]) f.ps (nk f.ps ks (List.replicate f.ps.length false)) (ai u) ⟨[],[],[],[]⟩ with
 |none=>rfl
 |some x=>
  have hx:=RI (M:=100) f.ps _ _ 0 _ x (fun t ht=>E1 (F3 ht) hu) ⟨⟨by simp,by simp⟩,by simp,by simp,⟨by simp,by simp⟩⟩ hc
  rw [E4] at hx;have hoN:au x.fJ<=100000:=by have h1:=wh x.fJ hx.fJ.2;have h2:=Cd 100 hx.fJ.1;omega
  have atz:au x.fJ<=60000:=by
   have h1:=wh x.fJ hx.fJ.2;have h3:x.fJ.length<=100:=by
    have h4:f.ps.length<=ah u:=by
     rw [<-hl];cases u with
     |var p s=>simp [ai]
     |dV o=>simp [ai]
     |app p s ts=>simp only [ai,ah];have:=nD ts;omega
    have:=hx.fJ.1
    omega
   have h2:=Cd 100 h3;omega
  have h1:=arh (nat:=nat) ks (nk f.ps ks (List.replicate f.ps.length false)) (bT 1 [] [mt]) u f hf mt hm (by omega) x (by have:=hx.s.1;omega) (fun t ht=>E1 (hx.fJ.2 t ht) (by omega)) atz (by have:=hx.jb;omega)
  simp only [A4];rw [h1];cases hq:je x.jb (bT 1 [] x.fJ) with
  |true=>rfl
  |false=>
   have hsb:∀t:Tm,ah t<=30->ah (ig x.s t)<=3000:=fun t ht=>by
    have h2:=yT (M:=100) (by omega) hx.s.2 t
    have:=Cd 100 ht
    omega
   have hg:Gd.OK ⟨f,ks,nk f.ps ks (List.replicate f.ps.length false),u,x.s,bT 1 [] x.fJ,x.jb,ig x.s mt⟩:=
    ⟨hf,hb,hl,by have:=hks.len;simp only;omega,by have:=hx.s.1;simp only;omega,
     fun c hc=>⟨by have:=(hks.ts c hc).1;omega,fun t ht=>by have:=(hks.ts c hc).2 t ht;omega,fun t ht=>hsb t ((hks.ts c hc).2 t ht)⟩,
     fun c hc=>⟨by have:=(hks.ss c hc).1;omega,fun s hs=>⟨by have:=((hks.ss c hc).2 s hs).1;omega,fun a ha=>Ca (by have:=((hks.ss c hc).2 s hs).2 a ha;omega)⟩⟩,
     fun c hc s hs=>YF hx.s.2 ((hks.ss c hc).2 s hs).2 _ _ _⟩
   have h2:=aqz (nat:=nat) _ hg ks.length 0 [] (by simp) (by simp)
   simp only [C4,E2] at h2;simp only [Ek];rw [h2];rfl
theorem x45 {w:C} {off:List aI} {u:Tm} {f:Fd} {mt:Tm} {sc:Option (List Cs)} {k v:C} {es:List C} (ho:off.length < 100000) (hf:f.OK) (hcl:f.cl=1)
  (Fx:bq (T nat).G 101 [.v (.one w),.v (.agg (bP (aN u)))] []=some ([.agg (eF f),.one (cb true)],[]))
  (abT:bq (T nat).G 120 [.v (.one w),.v (.agg (bP (aN u)))] []=some ([.one k,.one v],[]))
  (hrow:fI 32 w k=some es) (hlen:jk false (ak es 20)=some (ci 1))
  (Pq:bq (T nat).G 121 [.v (.agg (eF f))] []=some (LC sc,[])) (hks:∀ks,sc=some ks->RO ks/\f.ms=aa mt/\ah mt<=30) (hu:ah u<=100):
  bq (T nat).G 45 [.v (.one w),.v (.one (rows bP off)),.v (.agg (aa u))] []=some (OW (cdF off f mt sc u),[]):=by
 have h65:=R4 (nat:=nat) off ho u;have e2:ak (eF f) 2=rows bP f.ps:=rfl;have e3:ak (eF f) 3=ci 1:=by rw [<-hcl];rfl
 have e10:=gI u;have hF:=aU hf;have em:=msF hf;have aaI:=ku u;rw [e10] at aaI;simp only [bP,<-gW,<-gY] at Fx abT;rw [cdF,aQ qc];cases hi:gm off (aN u) with
 |true=>
  rw [hi] at h65;simp (config := { maxSteps := 20000000 }) [t45,zZ,Fx,e3,h65,dS,OW,hF,af]
 |false=>
  rw [hi] at h65;by_cases hl:(ai u).length=f.ps.length
  ·cases hs:sc with
   |none=>
    rw [hs] at Pq;simp only [LC] at Pq;simp (config := { maxSteps := 20000000 }) [t45,zZ,Fx,e3,h65,e10,e2,eH,aG,hl,abT,hrow,hlen,Pq,dS,OW,hF,af]
   |some ks=>
    rw [hs] at Pq;simp only [LC] at Pq;obtain ⟨hk,hm,hmn⟩:=hks ks hs;have apb:=x90 (nat:=nat) 3000 [mt] (fun t ht=>by rw [B8.1 ht];omega) (by omega) (by simp [au];omega)
    have uy:=ku mt;rw [nH,<-hm,<-em] at uy;have er:rows aa [mt]=.slice f.ms 1:=by simp [rows,hm]
    rw [er,<-em] at apb;have h122:=asG (nat:=nat) f hf ks (by have:=hk.len;omega) fun c hc=>⟨fun s hs=>⟨fun a ha=>Ca (by have:=((hk.ss c hc).2 s hs).2 a ha;omega),((hk.ss c hc).2 s hs).1⟩,by have:=(hk.ss c hc).1;omega⟩
    have h0:=arX (nat:=nat) f hf mt hm hmn ks hk u hu hl;simp only [st0,D1,show rows cK []=cz from rfl,show rows bP []=cz from rfl,show rows aa []=cz from rfl] at h0
    rw [show rows aa [u]=.slice (aa u) 1 by simp [rows]] at h0
    simp (config := { maxSteps := 20000000 }) [t45,zZ,Fx,e3,h65,e10,e2,eH,aG,hl,abT,hrow,hlen,Pq,h122,uy,apb,aaI,h0,hF,af]
  ·have hle:(((ai u).length:Int)==(f.ps.length:Int))=false:=Dd.2 (by omega)
   simp (config := { maxSteps := 20000000 }) [t45,zZ,Fx,e3,h65,e10,e2,eH,aG,hl,hle,dS,OW,hF,af]
theorem anm {w off:C} {u:Tm} {es:List C}
  (Fx:bq (T nat).G 101 [.v (.one w),.v (.agg (bP (aN u)))] []=some ([.agg es,.one (cb false)],[])) (hes:es.length=37):
  bq (T nat).G 45 [.v (.one w),.v (.one off),.v (.agg (aa u))] []=some (dS,[]):=by
 simp only [bP,<-gW,<-gY] at Fx;rw [aQ qc];simp (config := { maxSteps := 20000000 }) [t45,zZ,Fx,dS,hes,af]
theorem anq {w off:C} {u:Tm} {es:List C} {c:Int}
  (Fx:bq (T nat).G 101 [.v (.one w),.v (.agg (bP (aN u)))] []=some ([.agg es,.one (cb true)],[])) (hes:es.length=37) (h3:ak es 3=ci c) (hc:c≠1):
  bq (T nat).G 45 [.v (.one w),.v (.one off),.v (.agg (aa u))] []=some (dS,[]):=by
 simp only [bP,<-gW,<-gY] at Fx;have hc':(c==1)=false:=Dd.2 hc;rw [aQ qc];simp (config := { maxSteps := 20000000 }) [t45,zZ,Fx,h3,hc,hc',dS,hes,af]
theorem apu {w:C} {off:List aI} {u:Tm} {es fs:List C} {n m:Nat} {k v:C} (ho:off.length < 100000)
  (Fx:bq (T nat).G 101 [.v (.one w),.v (.agg (bP (aN u)))] []=some ([.agg fs,.one (cb true)],[])) (hes:fs.length=37) (h3:ak fs 3=ci 1) (h2:jk false (ak fs 2)=some (ci n))
  (abT:bq (T nat).G 120 [.v (.one w),.v (.agg (bP (aN u)))] []=some ([.one k,.one v],[]))
  (hrow:fI 32 w k=some es) (hlen:jk false (ak es 20)=some (ci m)) (hm:m≠1):
  bq (T nat).G 45 [.v (.one w),.v (.one (rows bP off)),.v (.agg (aa u))] []=some (dS,[]):=by
 have h65:=R4 (nat:=nat) off ho u;have e10:=gI u;simp only [bP,<-gW,<-gY] at Fx abT;rw [aQ qc];cases hi:gm off (aN u) with
 |true=>
  rw [hi] at h65;simp (config := { maxSteps := 20000000 }) [t45,zZ,Fx,h3,h65,dS,hes,af]
 |false=>
  rw [hi] at h65;have hm':((m:Int)==1)=false:=Dd.2 (by omega)
  by_cases hl:(ai u).length=n
  ·simp (config := { maxSteps := 20000000 }) [t45,zZ,Fx,h3,h2,h65,e10,aG,hl,abT,hrow,hlen,hm,hm',dS,hes,af]
  ·have hle:(((ai u).length:Int)==(n:Int))=false:=Dd.2 (by omega)
   simp (config := { maxSteps := 20000000 }) [t45,zZ,Fx,h3,h2,h65,e10,aG,hl,hle,dS,hes,af]
def YI (cd:Tm->Option gX):List Tm->List gX
 |[]=>[]
 |u::l=>cond (decide (Go.Proofs.fZ u=3)) ((cd u).toList++YI cd l) (YI cd l)
theorem oD (c:gX):(aZ c).length=16:=by simp [aZ,af]
theorem ab2 (c:gX):[ak (aZ c) 0,ak (aZ c) 1,ak (aZ c) 2,ak (aZ c) 3,ak (aZ c) 4,ak (aZ c) 5,ak (aZ c) 6,ak (aZ c) 7,ak (aZ c) 8,ak (aZ c) 9,ak (aZ c) 10,ak (aZ c) 11,ak (aZ c) 12,ak (aZ c) 13,ak (aZ c) 14,ak (aZ c) 15]=aZ c:=by
 have h:=oD c;generalize aZ c=l at h
 match l,h with
 |[_,_,_,_,_,_,_,_,_,_,_,_,_,_,_,_],_=>rfl
theorem afs (c:gX):fK 16 1 [ak (aZ c) 0,ak (aZ c) 1,ak (aZ c) 2,ak (aZ c) 3,ak (aZ c) 4,ak (aZ c) 5,ak (aZ c) 6,ak (aZ c) 7,ak (aZ c) 8,ak (aZ c) 9,ak (aZ c) 10,ak (aZ c) 11,ak (aZ c) 12,ak (aZ c) 13,ak (aZ c) 14,ak (aZ c) 15]=some (.slice (aZ c) 1):=by rw [ab2];simp [fK,oD,bg]
theorem ajk {acc:List gX} {x:gX} (h:acc.length < 1000000):Fq 16 280 (.slice (aZ x) 1) (rows aZ acc)=some (rows aZ (acc++[x])):=
 BR oD (by decide) (by simp only [bg];omega) (by simp only [bg];omega)
theorem L6 (w off:C) (ts:List Tm) (hl:ts.length < 100000) (cd:Tm->Option gX) (hcd:∀u∈ts,Go.Proofs.fZ u=3->bq (T nat).G 45 [.v (.one w),.v (.one off),.v (.agg (aa u))] []=some (OW (cd u),[])):∀(m k:Nat) (acc:List gX),k+m=ts.length->acc.length<=k->
  bR (T nat).G 15 0 [.c w,.c off,.c (rows aa ts),.c (ci k),.c (rows aZ acc)]=some ([.one (rows aZ (acc++YI cd (ts.drop k)))],[])
 |0,k,acc,hk,ha=>by
  have hlt:¬((k:Int) < (ts.length:Int)):=by omega
  rw [aF Nf (t:=t15.heads[0]) rfl,bG (by omega:¬k < ts.length)]
  simp [-Int.natCast_add,t15,zZ,hlt,aG,YI]
 |m+1,k,acc,hk,ha=>by
  have hkr:k < ts.length:=by omega
  have hlt:((k:Int) < (ts.length:Int)):=by omega
  have hs:=bn k (by omega)
  have hr:=jd hkr;have hkd:=OE ts[k];rw [drop_at hkr,YI];by_cases h3:Go.Proofs.fZ ts[k]=3
  ·have hc:=hcd _ (By hkr) h3;cases hq:cd ts[k] with
   |none=>
    rw [hq] at hc;simp only [OW,dS] at hc;have ih:=L6 w off ts hl cd hcd m (k+1) acc (by omega) (by omega)
    rw [aF Nf (t:=t15.heads[0]) rfl];simp [-Int.natCast_add,t15,zZ,hlt,aG,hr,hkd,h3,hc,hs,ih,af]
   |some c=>
    rw [hq] at hc;simp only [OW] at hc;have ih:=L6 w off ts hl cd hcd m (k+1) (acc++[c]) (by omega) (by simp;omega)
    have ani:=afs c;have ha16:=ajk (acc:=acc) (x:=c) (by omega)
    rw [aF Nf (t:=t15.heads[0]) rfl];simp [-Int.natCast_add,t15,zZ,hlt,aG,hr,hkd,h3,hc,ani,ha16,hs,ih,af,oD]
  ·have h3':(Go.Proofs.fZ ts[k]==3)=false:=Dd.2 h3;have ih:=L6 w off ts hl cd hcd m (k+1) acc (by omega) (by omega)
   rw [aF Nf (t:=t15.heads[0]) rfl];simp [-Int.natCast_add,t15,zZ,hlt,aG,hr,hkd,h3,h3',hs,ih,af]
theorem x15 {w off:C} {ts us:List Tm} (h44:bq (T nat).G 44 [.v (.one (rows aa ts))] []=some ([.one (rows aa us)],[])) (hl:us.length < 100000) {cd:Tm->Option gX} (hcd:∀u∈us,Go.Proofs.fZ u=3->bq (T nat).G 45 [.v (.one w),.v (.one off),.v (.agg (aa u))] []=some (OW (cd u),[])):
  bq (T nat).G 15 [.v (.one w),.v (.one off),.v (.one (rows aa ts))] []=some ([.one (rows aZ (YI cd us))],[]):=by
 have h:=L6 (nat:=nat) w off us hl cd hcd us.length 0 [] (by omega) (by simp)
 simp only [C4,D1,E2,show rows aZ []=cz from rfl] at h
 rw [aQ Nf];simp [t15,zZ,h44,h]
end
end Go.Ey.Pr
