/- A part. -/
import Derived.Test.YtolnnaanmfnkjaaGreatDoorY40
import Derived.Test.YtolnnaanmfnkjaaGreatDoorY41
import Derived.Test.YtolnnaanmfnkjaaGreatDoorY42
set_option linter.all false
set_option maxHeartbeats 4000000
namespace Go.Ey.Pr
open Go Go.Ey Go.Ey.Seat Go.RowKit Go.Proofs
section
variable {nat:Nat->List V->Option (List V)}
theorem aoa (ks:List Cs) (bs:List Bool) (jE:List bq) (u:Tm) (f:Fd) (hf:f.OK) (hb:bs.length=f.ps.length) (ht:(aN u).length=f.ps.length) (hmd:jE.length < 100000):∀(m p:Nat) (x:M9),p+m=f.ps.length->x.s.length<=p->x.vars.length<=p->x.qb.length<=p->x.lu.length<=p->
  bn (T nat).G 45 0 (st0 ks bs jE p u f x)=match PW jE (f.ps.drop p) (bs.drop p) ((aN u).drop p) x with|none=>some (bT,[])|some y=>bn (T nat).G 45 0 (st0 ks bs jE f.ps.length u f y)
 |0,p,x,hp,_,_,_,_=>by
  obtain rfl:p=f.ps.length:=by omega
  rw [aA (Nat.lt_irrefl _),M7]
 |m+1,p,x,hp,h1,h2,h3,h4=>by
  have hpr:p < f.ps.length:=by omega
  have hpb:p < bs.length:=by omega
  have hpt:p < (aN u).length:=by omega
  have ih:=fun (y:M9) (g1:y.s.length<=p+1) (g2:y.vars.length<=p+1) (g3:y.qb.length<=p+1) (g4:y.lu.length<=p+1)=>aoa ks bs jE u f hf hb ht hmd m (p+1) y (by omega) g1 g2 g3 g4
  rw [drop_at hpr,drop_at hpb,drop_at hpt,Vb];cases hbb:bs[p] with
  |true=>
   cases hv:isVar (aN u)[p] with
   |false=>rw [aqc ks bs jE u f hf hmd p x h1 h2 h3 h4 hpr hpb hpt hbb hv];rfl
   |true=>
    cases hi:kF x.vars (bZ (aN u)[p]) with
    |true=>rw [anW ks bs jE u f hf hmd p x h1 h2 h3 h4 hpr hpb hpt hbb hv hi];rfl
    |false=>rw [ap7 ks bs jE u f hf hmd p x h1 h2 h3 h4 hpr hpb hpt hbb hv hi,ih _ (by simp;omega) (by simp;omega) (by simp;omega) (by simp;omega)];rfl
  |false=>
   cases hm:kF jE f.ps[p] with
   |false=>rw [apc ks bs jE u f hf hmd p x h1 h2 h3 h4 hpr hpb hpt hbb hm,ih _ (by simp;omega) (by simp;omega) (by simp;omega) (by simp;omega)];rfl
   |true=>
    cases hv:isVar (aN u)[p] with
    |false=>rw [anA ks bs jE u f hf hmd p x h1 h2 h3 h4 hpr hpb hpt hbb hm hv];rfl
    |true=>
     cases hi:kF x.vars (bZ (aN u)[p]) with
     |true=>rw [aoG ks bs jE u f hf hmd p x h1 h2 h3 h4 hpr hpb hpt hbb hm hv hi];rfl
     |false=>rw [anf ks bs jE u f hf hmd p x h1 h2 h3 h4 hpr hpb hpt hbb hm hv hi,ih _ (by simp;omega) (by simp;omega) (by simp;omega) (by simp;omega)];rfl
theorem aqH (ks:List Cs) (bs:List Bool) (jE:List bq) (u:Tm) (f:Fd) (hf:f.OK) (mt:Tm) (hm:f.ms=af mt) (hmn:av mt<=3000) (x:M9) (hs:x.s.length < 100000) (ho:∀t∈x.lu,av t<=3000) (hos:aJ x.lu<=60000) (hc:x.qb.length < 100000):
  bn (T nat).G 45 0 (st0 ks bs jE f.ps.length u f x)=cond (jS x.qb (iw 1 [] x.lu)) (some (bT,[])) (bn (T nat).G 45 1 (st1 ⟨f,ks,bs,u,x.s,iw 1 [] x.lu,x.qb,iY x.s mt⟩ 0 [])):=by
 cases hq:jS x.qb (iw 1 [] x.lu) with
 |true=>exact aof ks bs jE u f hf mt hm hmn x hs ho hos hc hq
 |false=>exact anm ks bs jE u f hf mt hm hmn x hs ho hos hc hq
end
end Go.Ey.Pr
set_option maxHeartbeats 4000000
namespace Go.Ey.Pr
open Go Go.Ey Go.Ey.Seat Go.RowKit Go.Proofs
mutual
theorem Aw {s:List cB} {M:Nat} (hM:1<=M) (hs:∀a∈s,av a.t<=M):∀t:Tm,av (iY s t)<=av t * M
 |.var p x=>by
  rw [iY];have h1:1<=av (.var p x):=jf _;have h2:=Cl M h1;cases h:lY s (p,x) with
  |none=>simp only [Option.getD_none];exact Nat.le_mul_of_pos_right _ hM
  |some t=>
   obtain ⟨a,ha,rfl⟩:=Gc h;have:=hs a ha
   simp only [Option.getD_some];omega
 |.eG o=>by rw [iY];exact Nat.le_mul_of_pos_right _ hM
 |.app p x ts=>by have h1:=Qn hM hs ts;rw [iY];simp only [av];rw [N5,Nat.one_mul];omega
theorem Qn {s:List cB} {M:Nat} (hM:1<=M) (hs:∀a∈s,av a.t<=M):∀ts:List Tm,aJ (yu s ts)<=aJ ts * M
 |[]=>by simp [yu,aJ]
 |t::ts=>by have h1:=Aw hM hs t;have h2:=Qn hM hs ts;rw [yu];simp only [aJ];rw [N5];omega
end
theorem Bu {M:Nat}:∀ts:List Tm,(∀t∈ts,av t<=M)->aJ ts<=ts.length * M
 |[],_=>by simp [aJ]
 |t::ts,h=>by
  have h1:=Bu ts fun x hx=>h x (E2 _ hx)
  have h2:=h t Fm;simp only [aJ,Bm];rw [N5,Nat.one_mul];omega
structure M9.OK (M n:Nat) (x:M9):Prop where
 s:x.s.length<=n/\∀a∈x.s,av a.t<=M
 vars:x.vars.length<=n
 qb:x.qb.length<=n
 lu:x.lu.length<=n/\∀t∈x.lu,av t<=M
theorem YN {M:Nat} {jE:List bq}:∀(ps:List bq) (bs:List Bool) (ts:List Tm) (n:Nat) (x y:M9),(∀t∈ts,av t<=M)->x.OK M n->PW jE ps bs ts x=some y->y.OK M (n+ps.length)
 |[],bs,ts,n,x,y,_,hx,h=>by rw [M7] at h;cases h;exact hx
 |p::ps,[],ts,n,x,y,_,hx,h=>by simp only [PW,A0] at h;subst h;exact ⟨⟨by have:=hx.s.1;simp;omega,hx.s.2⟩,by have:=hx.vars;simp;omega,by have:=hx.qb;simp;omega,⟨by have:=hx.lu.1;simp;omega,hx.lu.2⟩⟩
 |p::ps,b::bs,[],n,x,y,_,hx,h=>by simp only [PW,A0] at h;subst h;exact ⟨⟨by have:=hx.s.1;simp;omega,hx.s.2⟩,by have:=hx.vars;simp;omega,by have:=hx.qb;simp;omega,⟨by have:=hx.lu.1;simp;omega,hx.lu.2⟩⟩
 |p::ps,b::bs,t::ts,n,x,y,ht,hx,h=>by
  rw [Vb] at h;cases hq:((b||kF jE p) && !(isVar t && !kF x.vars (bZ t))) with
  |true=>rw [hq] at h;cases h
  |false=>
   rw [hq,E4] at h;have h1:=ht t Fm;have h2:=hx.s.1;have h3:=hx.vars;have h4:=hx.qb;have h5:=hx.lu.1;have hx':M9.OK M (n+1) ⟨x.s++[⟨p,t⟩],cond (b||kF jE p) (x.vars++[bZ t]) x.vars,cond b (x.qb++[bZ t]) x.qb,cond b x.lu (x.lu++[t])⟩:=by
    refine ⟨⟨by simp;omega,fun a ha=>?_⟩,?_,?_,⟨?_,fun a ha=>?_⟩⟩
    ·rcases Bx.1 ha with ha|ha
     ·exact hx.s.2 a ha
     ·rw [By.1 ha];exact h1
    ·cases b<;>cases kF jE p<;>simp<;>omega
    ·cases b<;>simp<;>omega
    ·cases b<;>simp<;>omega
    ·cases b with
     |true=>exact hx.lu.2 a ha
     |false=>
      rcases Bx.1 ha with ha|ha
      ·exact hx.lu.2 a ha
      ·rw [By.1 ha];exact h1
   have h6:=YN ps bs ts (n+1) _ y (fun a ha=>ht a (E2 _ ha)) hx' h
   rw [show n+(p::ps).length=n+1+ps.length by simp;omega]
   exact h6
structure ab8 (ks:List Cs):Prop where
 len:ks.length < 1000
 ts:∀c∈ks,c.tests.length < 1000/\∀t∈c.tests,av t<=30
 ss:∀c∈ks,c.subs.length < 1000/\∀s∈c.subs,s.length<=1000/\∀a∈s,av a.t<=30
theorem C8 {t:Tm} (h:av t<=3000):GA t:=⟨ae2 t h,h⟩
theorem Pw {u t:Tm} (h:t∈aN u):av t<=av u:=by
 cases u with
 |var p x=>cases h
 |eG o=>cases h
 |app p x ts=>have h1:=nK (show t∈ts from h);simp only [av];omega
theorem adP {s sub:List cB} (hs:∀a∈s,av a.t<=100) (hsub:∀a∈sub,av a.t<=30):∀(ps:List bq) (bs:List Bool) (ts:List Tm),Ac (lsA s sub ps bs ts)
 |[],bs,ts=>by simp [lsA,Ac]
 |p::ps,[],ts=>by simp [lsA,Ac]
 |p::ps,b::bs,[]=>by simp [lsA,Ac]
 |p::ps,b::bs,t::ts=>by
  have ih:=adP hs hsub ps bs ts;rw [lsA];cases b with
  |false=>exact ih
  |true=>
   intro a ha;rcases D1.1 ha with rfl|ha
   ·have h1:=Aw (M:=30) (by omega) hsub (.var p.1 p.2)
    have h2:=Aw (M:=100) (by omega) hs (iY sub (.var p.1 p.2))
    have h0:av (.var p.1 p.2)=1:=by simp [av]
    rw [h0] at h1;exact C8 (by have:=Cl 100 h1;simp only;omega)
   ·exact ih a ha
def cdF (off:List bq) (f:Fd) (mt:Tm) (sc:Option (List Cs)) (u:Tm):Option bH:=cond (kF off (bZ u)) none (cond (decide ((aN u).length=f.ps.length)) (sc.bind fun ks=>cdG f mt ks u) none)
def cdV:Option bH->List V
 |none=>bT
 |some c=>[.agg (aj c),.one (cb true)]
def abL:Option (List Cs)->List V
 |none=>[.one cz,.one (cb false)]
 |some ks=>[.one (rows aQ ks),.one (cb true)]
section
variable {nat:Nat->List V->Option (List V)}
set_option maxRecDepth 100000 in
theorem arc (f:Fd) (hf:f.OK) (mt:Tm) (hm:f.ms=af mt) (hmn:av mt<=30) (ks:List Cs) (hks:ab8 ks) (u:Tm) (hu:av u<=100) (hl:(aN u).length=f.ps.length):
  bn (T nat).G 45 0 (st0 ks (Bq f.ps ks (List.replicate f.ps.length false)) (iw 1 [] [mt]) 0 u f ⟨[],[],[],[]⟩)=some (cdV (cdG f mt ks u),[]):=by
 have hb:(Bq f.ps ks (List.replicate f.ps.length false)).length=f.ps.length:=by rw [Wt];simp
 have hn1:aJ [mt]<=60000:=by simp [aJ];omega
 have hps:=hf.ps;have h0:=aoa (nat:=nat) ks (Bq f.ps ks (List.replicate f.ps.length false)) (iw 1 [] [mt]) u f hf hb hl (wm _ hn1) f.ps.length 0 ⟨[],[],[],[]⟩ (by omega) (by simp) (by simp) (by simp) (by simp)
 simp only [An] at h0;rw [h0,cdG];cases hc:PW (iw 1 [] [mt]) f.ps (Bq f.ps ks (List.replicate f.ps.length false)) (aN u) ⟨[],[],[],[]⟩ with
 |none=>rfl
 |some x=>
  have hx:=YN (M:=100) f.ps _ _ 0 _ x (fun t ht=>Dg (Pw ht) hu) ⟨⟨by simp,by simp⟩,by simp,by simp,⟨by simp,by simp⟩⟩ hc
  rw [E1] at hx;have hoN:aJ x.lu<=100000:=by have h1:=Bu x.lu hx.lu.2;have h2:=Cl 100 hx.lu.1;omega
  have arB:aJ x.lu<=60000:=by
   have h1:=Bu x.lu hx.lu.2;have h3:x.lu.length<=100:=by
    have h4:f.ps.length<=av u:=by
     rw [<-hl];cases u with
     |var p s=>simp [aN]
     |eG o=>simp [aN]
     |app p s ts=>simp only [aN,av];have:=qd ts;omega
    have:=hx.lu.1
    omega
   have h2:=Cl 100 h3;omega
  have h1:=aqH (nat:=nat) ks (Bq f.ps ks (List.replicate f.ps.length false)) (iw 1 [] [mt]) u f hf mt hm (by omega) x (by have:=hx.s.1;omega) (fun t ht=>Dg (hx.lu.2 t ht) (by omega)) arB (by have:=hx.qb;omega)
  simp only [A4];rw [h1];cases hq:jS x.qb (iw 1 [] x.lu) with
  |true=>rfl
  |false=>
   have hsb:∀t:Tm,av t<=30->av (iY x.s t)<=3000:=fun t ht=>by
    have h2:=Aw (M:=100) (by omega) hx.s.2 t
    have:=Cl 100 ht
    omega
   have hg:Gd.OK ⟨f,ks,Bq f.ps ks (List.replicate f.ps.length false),u,x.s,iw 1 [] x.lu,x.qb,iY x.s mt⟩:=
    ⟨hf,hb,hl,by have:=hks.len;simp only;omega,by have:=hx.s.1;simp only;omega,
     fun c hc=>⟨by have:=(hks.ts c hc).1;omega,fun t ht=>by have:=(hks.ts c hc).2 t ht;omega,fun t ht=>hsb t ((hks.ts c hc).2 t ht)⟩,
     fun c hc=>⟨by have:=(hks.ss c hc).1;omega,fun s hs=>⟨by have:=((hks.ss c hc).2 s hs).1;omega,fun a ha=>C8 (by have:=((hks.ss c hc).2 s hs).2 a ha;omega)⟩⟩,
     fun c hc s hs=>adP hx.s.2 ((hks.ss c hc).2 s hs).2 _ _ _⟩
   have h2:=aov (nat:=nat) _ hg ks.length 0 [] (by simp) (by simp)
   simp only [An,D4] at h2;simp only [E4];rw [h2];rfl
set_option maxRecDepth 100000 in
theorem x45 {w:C} {off:List bq} {u:Tm} {f:Fd} {mt:Tm} {sc:Option (List Cs)} {k v:C} {es:List C} (ho:off.length < 100000) (hf:f.OK) (hcl:f.cl=1)
  (Gy:bz (T nat).G 101 [.v (.one w),.v (.agg (bW (bZ u)))] []=some ([.agg (j5 f),.one (cb true)],[]))
  (abv:bz (T nat).G 120 [.v (.one w),.v (.agg (bW (bZ u)))] []=some ([.one k,.one v],[]))
  (hrow:eZ 32 w k=some es) (hlen:lN false (au es 20)=some (ci 1))
  (Vk:bz (T nat).G 121 [.v (.agg (j5 f))] []=some (abL sc,[])) (hks:∀ks,sc=some ks->ab8 ks/\f.ms=af mt/\av mt<=30) (hu:av u<=100):
  bz (T nat).G 45 [.v (.one w),.v (.one (rows bW off)),.v (.agg (af u))] []=some (cdV (cdF off f mt sc u),[]):=by
 have h65:=SI (nat:=nat) off ho u;have e2:au (j5 f) 2=rows bW f.ps:=rfl;have e3:au (j5 f) 3=ci 1:=by rw [<-hcl];rfl
 have e10:=ng u;have hF:=dh hf;have em:=msF hf;have ajm:=kR u;rw [e10] at ajm;simp only [bW,<-uy,<-ve] at Gy abv;rw [cdF,aG tq];cases hi:kF off (bZ u) with
 |true=>
  rw [hi] at h65;simp (config := { maxSteps := 20000000 }) [t45,zZ,Gy,e3,h65,bT,cdV,hF,ah]
 |false=>
  rw [hi] at h65;by_cases hl:(aN u).length=f.ps.length
  ·cases hs:sc with
   |none=>
    rw [hs] at Vk;simp only [abL] at Vk;simp (config := { maxSteps := 20000000 }) [t45,zZ,Gy,e3,h65,e10,e2,fo,aa,hl,abv,hrow,hlen,Vk,bT,cdV,hF,ah]
   |some ks=>
    rw [hs] at Vk;simp only [abL] at Vk;obtain ⟨hk,hm,hmn⟩:=hks ks hs;have apt:=x90 (nat:=nat) 3000 [mt] (fun t ht=>by rw [By.1 ht];omega) (by omega) (by simp [aJ];omega)
    have Cb:=kR mt;rw [kJ,<-hm,<-em] at Cb;have er:rows af [mt]=.slice f.ms 1:=by simp [rows,hm]
    rw [er,<-em] at apt;have h122:=asI (nat:=nat) f hf ks (by have:=hk.len;omega) fun c hc=>⟨fun s hs=>⟨fun a ha=>C8 (by have:=((hk.ss c hc).2 s hs).2 a ha;omega),((hk.ss c hc).2 s hs).1⟩,by have:=(hk.ss c hc).1;omega⟩
    have h0:=arc (nat:=nat) f hf mt hm hmn ks hk u hu hl;simp only [st0,A6,show rows bu []=cz from rfl,show rows bW []=cz from rfl,show rows af []=cz from rfl] at h0
    rw [show rows af [u]=.slice (af u) 1 by simp [rows]] at h0
    simp (config := { maxSteps := 20000000 }) [t45,zZ,Gy,e3,h65,e10,e2,fo,aa,hl,abv,hrow,hlen,Vk,h122,Cb,apt,ajm,h0,hF,ah]
  ·have hle:(((aN u).length:Int)==(f.ps.length:Int))=false:=C1.2 (by omega)
   simp (config := { maxSteps := 20000000 }) [t45,zZ,Gy,e3,h65,e10,e2,fo,aa,hl,hle,bT,cdV,hF,ah]
set_option maxRecDepth 100000 in
theorem arY {w off:C} {u:Tm} {es:List C}
  (Gy:bz (T nat).G 101 [.v (.one w),.v (.agg (bW (bZ u)))] []=some ([.agg es,.one (cb false)],[])) (hes:es.length=37):
  bz (T nat).G 45 [.v (.one w),.v (.one off),.v (.agg (af u))] []=some (bT,[]):=by
 simp only [bW,<-uy,<-ve] at Gy;rw [aG tq];simp (config := { maxSteps := 20000000 }) [t45,zZ,Gy,bT,hes,ah]
set_option maxRecDepth 100000 in
theorem aqI {w off:C} {u:Tm} {es:List C} {c:Int}
  (Gy:bz (T nat).G 101 [.v (.one w),.v (.agg (bW (bZ u)))] []=some ([.agg es,.one (cb true)],[])) (hes:es.length=37) (h3:au es 3=ci c) (hc:c≠1):
  bz (T nat).G 45 [.v (.one w),.v (.one off),.v (.agg (af u))] []=some (bT,[]):=by
 simp only [bW,<-uy,<-ve] at Gy;have hc':(c==1)=false:=C1.2 hc;rw [aG tq];simp (config := { maxSteps := 20000000 }) [t45,zZ,Gy,h3,hc,hc',bT,hes,ah]
set_option maxRecDepth 100000 in
theorem as7 {w:C} {off:List bq} {u:Tm} {es fs:List C} {n m:Nat} {k v:C} (ho:off.length < 100000)
  (Gy:bz (T nat).G 101 [.v (.one w),.v (.agg (bW (bZ u)))] []=some ([.agg fs,.one (cb true)],[])) (hes:fs.length=37) (h3:au fs 3=ci 1) (h2:lN false (au fs 2)=some (ci n))
  (abv:bz (T nat).G 120 [.v (.one w),.v (.agg (bW (bZ u)))] []=some ([.one k,.one v],[]))
  (hrow:eZ 32 w k=some es) (hlen:lN false (au es 20)=some (ci m)) (hm:m≠1):
  bz (T nat).G 45 [.v (.one w),.v (.one (rows bW off)),.v (.agg (af u))] []=some (bT,[]):=by
 have h65:=SI (nat:=nat) off ho u;have e10:=ng u;simp only [bW,<-uy,<-ve] at Gy abv;rw [aG tq];cases hi:kF off (bZ u) with
 |true=>
  rw [hi] at h65;simp (config := { maxSteps := 20000000 }) [t45,zZ,Gy,h3,h65,bT,hes,ah]
 |false=>
  rw [hi] at h65;have hm':((m:Int)==1)=false:=C1.2 (by omega)
  by_cases hl:(aN u).length=n
  ·simp (config := { maxSteps := 20000000 }) [t45,zZ,Gy,h3,h2,h65,e10,aa,hl,abv,hrow,hlen,hm,hm',bT,hes,ah]
  ·have hle:(((aN u).length:Int)==(n:Int))=false:=C1.2 (by omega)
   simp (config := { maxSteps := 20000000 }) [t45,zZ,Gy,h3,h2,h65,e10,aa,hl,hle,bT,hes,ah]
def sgL (cd:Tm->Option bH):List Tm->List bH
 |[]=>[]
 |u::l=>cond (decide (Go.Proofs.kH u=3)) ((cd u).toList++sgL cd l) (sgL cd l)
theorem o9 (c:bH):(aj c).length=16:=by simp [aj,ah]
theorem aby (c:bH):[au (aj c) 0,au (aj c) 1,au (aj c) 2,au (aj c) 3,au (aj c) 4,au (aj c) 5,au (aj c) 6,au (aj c) 7,au (aj c) 8,au (aj c) 9,au (aj c) 10,au (aj c) 11,au (aj c) 12,au (aj c) 13,au (aj c) 14,au (aj c) 15]=aj c:=by
 have h:=o9 c;generalize aj c=l at h
 match l,h with
 |[_,_,_,_,_,_,_,_,_,_,_,_,_,_,_,_],_=>rfl
theorem Uo (c:bH):fq 16 1 [au (aj c) 0,au (aj c) 1,au (aj c) 2,au (aj c) 3,au (aj c) 4,au (aj c) 5,au (aj c) 6,au (aj c) 7,au (aj c) 8,au (aj c) 9,au (aj c) 10,au (aj c) 11,au (aj c) 12,au (aj c) 13,au (aj c) 14,au (aj c) 15]=some (.slice (aj c) 1):=by rw [aby];simp [fq,o9,aB]
theorem Vi {acc:List bH} {x:bH} (h:acc.length < 1000000):iO 16 280 (.slice (aj x) 1) (rows aj acc)=some (rows aj (acc++[x])):=
 BO o9 (by decide) (by simp only [aB];omega) (by simp only [aB];omega)
theorem Na (w off:C) (ts:List Tm) (hl:ts.length < 100000) (cd:Tm->Option bH) (hcd:∀u∈ts,Go.Proofs.kH u=3->bz (T nat).G 45 [.v (.one w),.v (.one off),.v (.agg (af u))] []=some (cdV (cd u),[])):∀(m k:Nat) (acc:List bH),k+m=ts.length->acc.length<=k->
  bn (T nat).G 15 0 [.c w,.c off,.c (rows af ts),.c (ci k),.c (rows aj acc)]=some ([.one (rows aj (acc++sgL cd (ts.drop k)))],[])
 |0,k,acc,hk,ha=>by
  have hlt:¬((k:Int) < (ts.length:Int)):=by omega
  rw [ai Oi (t:=t15.heads[0]) rfl,aA (by omega:¬k < ts.length)]
  simp [-Int.natCast_add,t15,zZ,hlt,aa,sgL]
 |m+1,k,acc,hk,ha=>by
  have hkr:k < ts.length:=by omega
  have hlt:((k:Int) < (ts.length:Int)):=by omega
  have hs:=ax k (by omega)
  have hr:=eH hkr;have hkd:=WM ts[k];rw [drop_at hkr,sgL];by_cases h3:Go.Proofs.kH ts[k]=3
  ·have hc:=hcd _ (A5 hkr) h3;cases hq:cd ts[k] with
   |none=>
    rw [hq] at hc;simp only [cdV,bT] at hc;have ih:=Na w off ts hl cd hcd m (k+1) acc (by omega) (by omega)
    rw [ai Oi (t:=t15.heads[0]) rfl];simp [-Int.natCast_add,t15,zZ,hlt,aa,hr,hkd,h3,hc,hs,ih,ah]
   |some c=>
    rw [hq] at hc;simp only [cdV] at hc;have ih:=Na w off ts hl cd hcd m (k+1) (acc++[c]) (by omega) (by simp;omega)
    have Uq:=Uo c;have ha16:=Vi (acc:=acc) (x:=c) (by omega)
    rw [ai Oi (t:=t15.heads[0]) rfl];simp [-Int.natCast_add,t15,zZ,hlt,aa,hr,hkd,h3,hc,Uq,ha16,hs,ih,ah,o9]
  ·have h3':(Go.Proofs.kH ts[k]==3)=false:=C1.2 h3;have ih:=Na w off ts hl cd hcd m (k+1) acc (by omega) (by omega)
   rw [ai Oi (t:=t15.heads[0]) rfl];simp [-Int.natCast_add,t15,zZ,hlt,aa,hr,hkd,h3,h3',hs,ih,ah]
theorem x15 {w off:C} {ts us:List Tm} (h44:bz (T nat).G 44 [.v (.one (rows af ts))] []=some ([.one (rows af us)],[])) (hl:us.length < 100000) {cd:Tm->Option bH} (hcd:∀u∈us,Go.Proofs.kH u=3->bz (T nat).G 45 [.v (.one w),.v (.one off),.v (.agg (af u))] []=some (cdV (cd u),[])):
  bz (T nat).G 15 [.v (.one w),.v (.one off),.v (.one (rows af ts))] []=some ([.one (rows aj (sgL cd us))],[]):=by
 have h:=Na (nat:=nat) w off us hl cd hcd us.length 0 [] (by omega) (by simp)
 simp only [An,A6,D4,show rows aj []=cz from rfl] at h
 rw [aG Oi];simp [t15,zZ,h44,h]
end
end Go.Ey.Pr
