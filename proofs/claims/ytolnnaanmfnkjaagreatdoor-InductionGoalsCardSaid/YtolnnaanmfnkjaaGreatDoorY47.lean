/- A part. -/
import Derived.Test.YtolnnaanmfnkjaaGreatDoorY35
import Derived.Test.YtolnnaanmfnkjaaGreatDoorY45
set_option linter.all false
set_option maxHeartbeats 4000000
namespace Go.Ey.Pr
open Go Go.Ey Go.Ey.Seat Go.RowKit Go.Proofs
structure ab2 (n:Nat) (x:Cs):Prop where
 tl:x.tests.length < 1000
 sl:x.subs.length < 1000
 ok:∀s∈x.subs,s.length<=n/\(s.map cB.v).Nodup/\∀a∈s,av a.t<=30
 ts:∀t∈x.tests,av t<=2900
structure okW (n:Nat) (c:bH):Prop where
 ca:c.calls.length<=n
 ch:c.changed.length<=n
 fx:c.fixed.length<=n
 sc:c.score<=n
 kl:c.cases.length < 1000
 ks:∀x∈c.cases,ab2 n x
 co:∀t∈c.calls,GA t
 mo:GA c.measure
structure Ck (c:bH):Prop where
 w:okW 100 c
 ap:apart c.fixed c.changed=true
theorem ap6 {s:List cB} (h:∀a∈s,av a.t<=30):Ac s:=fun a ha=>C8 (by have:=h a ha;omega)
theorem ab2.two {n:Nat} {x:Cs} (h:ab2 n x) (hn:n<=40000):iK x:=⟨by have:=h.tl;omega,by have:=h.sl;omega,fun s hs=>⟨by have:=(h.ok s hs).1;omega,ap6 (h.ok s hs).2.2⟩,fun t ht=>by have:=h.ts t ht;show av t<=3000;omega⟩
theorem okW.cd {n:Nat} {c:bH} (h:okW n c) (hn:n<=40000):kU c:=⟨by have:=h.ca;omega,by have:=h.ch;omega,by have:=h.fx;omega,by have:=h.kl;omega,fun x hx=>(h.ks x hx).two hn⟩
theorem Ck.cd {c:bH} (h:Ck c):kU c:=h.w.cd (by omega)
theorem De:∀(b a:List bq),(dX a b).length<=a.length+b.length
 |[],a=>by simp [dX]
 |s::b,a=>by
  rw [dX];cases Xt a s with
  |true=>
   have h:=De b a;simp only [Ek,Bm];omega
  |false=>
   have h:=De b (a++[s]);simp only [B8,Bm,F2] at h;simp only [C2,Cd,Bm];omega
theorem abM {x y:List cB} (hx:(x.map cB.v).Nodup) (hy:(y.map cB.v).Nodup):((gY x y).map cB.v).Nodup:=by
 rw [CP,K1,Hs];refine ⟨hx,?_,fun v hv w hw e=>?_⟩
 ·exact hy.sublist (List.filter_sublist.map _)
 ·subst e;obtain ⟨a,ha,rfl⟩:=Kf.1 hv;obtain ⟨b,hb,e⟩:=Kf.1 hw;have h2:=(List.mem_filter.1 hb).2;have h3:xO x b=true:=I3.2 ⟨a,ha,IV.2 e.symm⟩;rw [h3] at h2;cases h2
theorem ac3 {n m:Nat}:∀(xs ys:List (List cB)),(∀s∈xs,s.length<=n/\(s.map cB.v).Nodup/\∀a∈s,av a.t<=30)->(∀s∈ys,s.length<=m/\(s.map cB.v).Nodup/\∀a∈s,av a.t<=30)->(ko xs ys).length<=xs.length/\∀s∈ko xs ys,s.length<=n+m/\(s.map cB.v).Nodup/\∀a∈s,av a.t<=30
 |[],ys,_,_=>by simp [ko]
 |x::xs,[],_,_=>by simp [ko]
 |x::xs,y::ys,hx,hy=>by
  obtain ⟨h1,h2⟩:=ac3 xs ys (fun s hs=>hx s (E2 _ hs)) (fun s hs=>hy s (E2 _ hs))
  have h3:=hx x Fm;have h4:=hy y Fm;rw [ko];refine ⟨by simp;omega,fun s hs=>?_⟩
  rcases D1.1 hs with rfl|hs
  ·refine ⟨?_,abM h3.2.1 h4.2.1,fun a ha=>?_⟩
   ·rw [CP];have:=List.length_filter_le (fun q=>!xO x q) y
    simp only [B8];omega
   ·rw [CP] at ha;rcases Bx.1 ha with ha|ha
    ·exact h3.2.2 a ha
    ·exact h4.2.2 a (List.mem_filter.1 ha).1
  ·exact h2 s hs
theorem acS {n m:Nat}:∀(xs ys:List Cs),(∀x∈xs,ab2 n x)->(∀x∈ys,ab2 m x)->(uh xs ys).length<=xs.length/\∀x∈uh xs ys,ab2 (n+m) x
 |[],ys,_,_=>by simp [uh]
 |x::xs,[],_,_=>by simp [uh]
 |x::xs,y::ys,hx,hy=>by
  obtain ⟨h1,h2⟩:=acS xs ys (fun s hs=>hx s (E2 _ hs)) (fun s hs=>hy s (E2 _ hs))
  have h3:=hx x Fm;have h4:=hy y Fm;rw [uh];refine ⟨by simp;omega,fun s hs=>?_⟩
  rcases D1.1 hs with rfl|hs
  ·obtain ⟨g1,g2⟩:=ac3 x.subs y.subs h3.ok h4.ok;exact ⟨h3.tl,by have:=h3.sl;simp only [Uu];omega,g2,h3.ts⟩
  ·exact h2 s hs
theorem Tk {a b c:bH} {n m:Nat} (ha:okW n a) (hb:okW m b) (h:merge a b=some c):okW (n+m) c:=by
 rw [merge,xe] at h;split at h
 ·cases h
 ·cases hq:decide (a.cases.length=b.cases.length) && rq a.cases b.cases with
  |false=>rw [hq] at h;cases h
  |true=>
   rw [hq] at h;simp only [Fi,G3,A0] at h;subst h;obtain ⟨h1,h2⟩:=acS a.cases b.cases ha.ks hb.ks;have h3:=De b.changed a.changed;have h4:=De b.fixed a.fixed;exact ⟨by have:=ha.ca;have:=hb.ca;simp;omega,by have:=ha.ch;have:=hb.ch;simp only;omega,by have:=ha.fx;have:=hb.fx;simp only;omega,by have:=ha.sc;have:=hb.sc;simp only;omega,by have:=ha.kl;simp only;omega,h2,fun t ht=>(Bx.1 ht).elim (ha.co t) (hb.co t),ha.mo⟩
theorem Ry:∀(n:Nat) (t:Tm),av (Qh n t)<=av t
 |0,t=>by simp [Qh]
 |n+1,t=>by
  cases h1:Kq j4 1 t with
  |false=>simp only [Qh,h1,E4];exact B9 _
  |true=>
   obtain ⟨a,rfl⟩:=zL h1;cases h2:Kq j4 1 a with
   |false=>simp only [Qh,aN,h1,h2,E4,Fi];exact B9 _
   |true=>
    obtain ⟨b,rfl⟩:=zL h2;have h3:=Ry n b;simp only [Qh,aN,h1,h2,Fi];simp only [av,aJ];omega
theorem aaY {g:Gd} {P:List cB->Prop} (h:∀c∈g.ks,∀s∈c.subs,P (g.ls s)) {c:Cs} (hc:c∈g.ks):∀(ss acc:List (List cB)),(∀s∈ss,s∈c.subs)->(∀s∈acc,P s)->(g.subs ss acc).length<=acc.length+ss.length/\∀s∈g.subs ss acc,P s
 |[],acc,_,ha=>⟨by simp [Gd.subs],ha⟩
 |s::ss,acc,hs,ha=>by
  have h1:=h c hc s (hs s Fm);have hacc:∀q∈g.add acc s,P q:=fun q hq=>by
   simp only [Gd.add] at hq;cases hk:C9 acc (g.ls s) with
   |true=>rw [hk] at hq;exact ha q hq
   |false=>
    rw [hk,E4] at hq;rcases Bx.1 hq with hq|hq
    ·exact ha q hq
    ·rw [By.1 hq];exact h1
  have hl:(g.add acc s).length<=acc.length+1:=by simp only [Gd.add];cases C9 acc (g.ls s)<;>simp
  obtain ⟨h2,h3⟩:=aaY h hc ss (g.add acc s) (fun q hq=>hs q (E2 _ hq)) hacc
  have e:g.subs (s::ss) acc=g.subs ss (g.add acc s):=rfl;rw [e];exact ⟨by simp only [Bm];omega,h3⟩
theorem ae5 (jE:List bq) (s sub:List cB):∀(ps:List bq) (bs:List Bool) (ts:List Tm) (x y:M9),PW jE ps bs ts x=some y->((lsA s sub ps bs ts).map cB.v).Nodup/\∀v∈(lsA s sub ps bs ts).map cB.v,v ∉ x.vars
 |p::ps,b::bs,t::ts,x,y,h=>by
  rw [PW] at h;cases hq:((b||kF jE p) && !(isVar t && !kF x.vars (bZ t))) with
  |true=>rw [hq] at h;cases h
  |false=>
   rw [hq,E4] at h;obtain ⟨h1,h2⟩:=ae5 jE s sub ps bs ts _ y h;cases b with
   |true=>
    simp only [Bool.true_or,Bool.true_and,Bool.not_eq_false',As,It,Fi] at hq h2;have hn:bZ t ∉ x.vars:=fun hm=>by rw [BC.2 hm] at hq;exact absurd hq.2 (by simp)
    rw [lsA,Fi,Cp,K0];refine ⟨⟨fun hm=>h2 _ hm (by simp),h1⟩,fun v hv=>?_⟩
    rcases D1.1 hv with rfl|hv
    ·exact hn
    ·exact fun hm=>h2 v hv (J0 _ hm)
   |false=>
    rw [lsA,E4];refine ⟨h1,fun v hv hm=>h2 v hv ?_⟩
    cases kF jE p with
    |true=>exact J0 _ hm
    |false=>exact hm
 |[],_,_,_,_,_=>by simp [lsA]
 |_::_,[],_,_,_,_=>by simp [lsA]
 |_::_,_::_,[],_,_,_=>by simp [lsA]
def mOK (jE:List bq):List bq->List Bool->bq->Bool
 |p::ps,b::bs,v=>(!jY p v||(b||kF jE p)) && mOK jE ps bs v
 |_,_,_=>true
def ah4 (jE ps0:List bq) (bs0:List Bool) (sub:List cB):List bq->List Bool->Bool
 |p::ps,b::bs=>(!b||(vsT (iY sub (.var p.1 p.2))).all (mOK jE ps0 bs0)) && ah4 jE ps0 bs0 sub ps bs
 |_,_=>true
def vOK (mt:Tm) (ps:List bq) (ks:List Cs):Bool:=ks.all fun c=>c.subs.all fun s=>ah4 (iw 1 [] [mt]) ps (Bq ps ks (List.replicate ps.length false)) s ps (Bq ps ks (List.replicate ps.length false))
theorem NV (a:cB) (v:bq):∀s:List cB,lY (s++[a]) v=(lY s v).or (cond (jY a.v v) (some a.t) none)
 |[]=>by cases h:jY a.v v<;>simp [lY,h]
 |b::s=>by rw [E3,lY,NV a v s,lY];cases jY b.v v<;>rfl
def Nz (s:List cB) (v:bq):Prop:=∀t,lY s v=some t->isVar t=true
theorem aaJ (jE:List bq):∀(ps:List bq) (bs:List Bool) (ts:List Tm) (x y:M9),PW jE ps bs ts x=some y->∀v,mOK jE ps bs v=true->Nz x.s v->Nz y.s v
 |p::ps,b::bs,t::ts,x,y,h,v,hv,hx=>by
  rw [PW] at h;cases hq:((b||kF jE p) && !(isVar t && !kF x.vars (bZ t))) with
  |true=>rw [hq] at h;cases h
  |false=>
   rw [hq,E4] at h;simp only [mOK,As] at hv;refine aaJ jE ps bs ts _ y h v hv.2 fun t' ht=>?_
   simp only at ht;rw [NV] at ht;cases ha:lY x.s v with
   |some u=>rw [ha] at ht;exact hx t' (by rw [ha];simpa using ht)
   |none=>
    rw [ha,Option.none_or] at ht;cases he:jY p v with
    |false=>simp only [he,E4] at ht;cases ht
    |true=>
     simp only [he,Fi,A0] at ht;subst ht;have h1:=hv.1;rw [he] at h1;simp only [Bool.not_true,G1] at h1;rw [h1] at hq;simp only [Bool.true_and,Bool.not_eq_false',As] at hq;exact hq.1
 |[],bs,ts,x,y,h,v,hv,hx=>by rw [M7] at h;cases h;exact hx
 |_::_,[],_,x,y,h,v,hv,hx=>by simp only [PW,A0] at h;subst h;exact hx
 |_::_,_::_,[],x,y,h,v,hv,hx=>by simp only [PW,A0] at h;subst h;exact hx
theorem V9 {t:Tm} (h:isVar t=true):av t=1:=by
 cases t with
 |var p x=>simp [av]
 |eG o=>simp [isVar,Go.Proofs.kH] at h
 |app p x ts=>simp [isVar,Go.Proofs.kH] at h
mutual
theorem aaw {s:List cB}:∀t:Tm,(∀v∈vsT t,Nz s v)->av (iY s t)<=av t
 |.var p x,h=>by
  rw [iY];cases ha:lY s (p,x) with
  |none=>exact B9 _
  |some t=>
   rw [Option.getD_some,V9 (h (p,x) (by simp [vsT]) t ha)]
   exact jf _
 |.eG o,_=>by rw [iY];exact B9 _
 |.app p x ts,h=>by
  rw [iY];simp only [av];have:=Wl ts (by simpa [vsT] using h)
  omega
theorem Wl {s:List cB}:∀ts:List Tm,(∀v∈Ml ts,Nz s v)->aJ (yu s ts)<=aJ ts
 |[],_=>by simp [yu,aJ]
 |t::ts,h=>by
  have h1:=aaw t fun v hv=>h v (by simp [Ml,hv])
  have h2:=Wl ts fun v hv=>h v (by simp [Ml,hv])
  rw [yu];simp only [aJ];omega
end
theorem Ra {jE ps0:List bq} {bs0:List Bool} {s sub:List cB} (h0:∀v,mOK jE ps0 bs0 v=true->Nz s v) (hs:∀a∈sub,av a.t<=30):∀(ps:List bq) (bs:List Bool) (ts:List Tm),ah4 jE ps0 bs0 sub ps bs=true->∀a∈lsA s sub ps bs ts,av a.t<=30
 |p::ps,b::bs,t::ts,hv,a,ha=>by
  simp only [ah4,As] at hv;have ih:=Ra h0 hs ps bs ts hv.2;rw [lsA] at ha;cases b with
  |false=>exact ih a ha
  |true=>
   rw [Fi] at ha;rcases D1.1 ha with rfl|ha
   ·have h1:=hv.1;simp only [Bool.not_true,G1,E0] at h1;refine Dg (aaw _ fun v hv=>h0 v (h1 v hv)) ?_
    rw [iY];cases hc:lY sub (p.1,p.2) with
    |none=>simp [av]
    |some t=>
     obtain ⟨a,ha,rfl⟩:=Gc hc;exact hs a ha
   ·exact ih a ha
 |[],_,_,_,a,ha=>by simp [lsA] at ha
 |_::_,[],_,_,a,ha=>by simp [lsA] at ha
 |_::_,_::_,[],_,a,ha=>by simp [lsA] at ha
theorem qf:∀a b:List Tm,aJ (a++b)=aJ a+aJ b
 |[],b=>by simp [aJ]
 |t::a,b=>by simp only [E3,aJ,qf a b];omega
theorem abe (jE:List bq):∀(ps:List bq) (bs:List Bool) (ts:List Tm) (x y:M9),PW jE ps bs ts x=some y->aJ y.lu<=aJ x.lu+aJ ts
 |p::ps,b::bs,t::ts,x,y,h=>by
  rw [PW] at h;cases hq:((b||kF jE p) && !(isVar t && !kF x.vars (bZ t))) with
  |true=>rw [hq] at h;cases h
  |false=>
   rw [hq,E4] at h;have h1:=abe jE ps bs ts _ y h;simp only [aJ] at h1 |-;cases b with
   |true=>simp only [Fi] at h1;omega
   |false=>simp only [E4,qf,aJ] at h1;omega
 |[],bs,ts,x,y,h=>by rw [M7] at h;cases h;omega
 |_::_,[],_,x,y,h=>by simp only [PW,A0] at h;subst h;omega
 |_::_,_::_,[],x,y,h=>by simp only [PW,A0] at h;subst h;omega
theorem af9 (u:Tm):aJ (aN u)<=av u:=by
 cases u with
 |var p s=>simp [aN,aJ]
 |eG o=>simp [aN,aJ]
 |app p s ts=>simp only [aN,av];omega
theorem aks {f:Fd} (hf:f.OK) {mt:Tm} (hmt:av mt<=30) {ks:List Cs} (hks:ab8 ks) (VQ:vOK mt f.ps ks=true) {u:Tm} (hu:av u<=90) (hl:(aN u).length=f.ps.length) {c:bH} (h:cdG f mt ks u=some c):Ck c:=by
 simp only [cdG] at h;cases hc:PW (iw 1 [] [mt]) f.ps (Bq f.ps ks (List.replicate f.ps.length false)) (aN u) ⟨[],[],[],[]⟩ with
 |none=>rw [hc] at h;cases h
 |some x=>
  rw [hc] at h;have hx:=YN (M:=90) f.ps _ _ 0 _ x (fun t ht=>Dg (Pw ht) hu) ⟨⟨by simp,by simp⟩,by simp,by simp,⟨by simp,by simp⟩⟩ hc
  rw [E1] at hx;have ho:=abe _ _ _ _ _ _ hc;have has:=af9 u;have hln:=qd (aN u);simp only [aJ,E1] at ho;have hvr:=fun v hv=>aaJ _ _ _ _ _ _ hc v hv (fun t ht=>by cases ht)
  simp only [A4] at h;cases hq:jS x.qb (iw 1 [] x.lu) with
  |true=>rw [hq] at h;cases h
  |false=>
   rw [hq] at h;simp only [E4,A0] at h;subst h;have hfl:(iw 1 [] x.lu).length<=aJ x.lu:=by rw [EO];have h1:=Gf (Ml x.lu) [];have h2:=JL x.lu;simp only [F2] at h1;omega
   simp only [vOK,E0] at VQ;have hls:∀c∈ks,∀s∈c.subs,(lsA x.s s f.ps (Bq f.ps ks (List.replicate f.ps.length false)) (aN u)).length<=100/\((lsA x.s s f.ps (Bq f.ps ks (List.replicate f.ps.length false)) (aN u)).map cB.v).Nodup/\∀a∈lsA x.s s f.ps (Bq f.ps ks (List.replicate f.ps.length false)) (aN u),av a.t<=30:=fun c hc' s hs=>
    ⟨by have:=MK x.s s f.ps (Bq f.ps ks (List.replicate f.ps.length false)) (aN u);omega,(ae5 _ x.s s _ _ _ _ _ hc).1,Ra hvr ((hks.ss c hc').2 s hs).2 _ _ _ (VQ c hc' s hs)⟩
   refine ⟨⟨by simp [Gd.cand],by have:=hx.qb;simp only [Gd.cand];omega,by simp only [Gd.cand];omega,by simp [Gd.cand],by have:=hks.len;simp [Gd.cand];omega,fun y hy=>?_,fun t ht=>?_,?_⟩,?_⟩
   ·simp only [Gd.cand,Kf] at hy;obtain ⟨c,hc',rfl⟩:=hy;obtain ⟨h1,h2⟩:=aaY (g:=⟨f,ks,Bq f.ps ks (List.replicate f.ps.length false),u,x.s,iw 1 [] x.lu,x.qb,iY x.s mt⟩) (P:=fun s=>s.length<=100/\(s.map cB.v).Nodup/\∀a∈s,av a.t<=30) hls hc' c.subs [] (fun s hs=>hs) (fun s hs=>by cases hs)
    refine ⟨by have:=(hks.ts c hc').1;simp [Gd.cas];omega,by have:=(hks.ss c hc').1;simp only [Gd.cas];simp only [F2] at h1;omega,h2,fun t ht=>?_⟩
    simp only [Gd.cas,Kf] at ht;obtain ⟨t,ht,rfl⟩:=ht;have h5:=Aw (M:=90) (by omega) hx.s.2 t
    have h6:=Cl 90 ((hks.ts c hc').2 t ht);have h7:=Ry (av (iY x.s t)) (iY x.s t);simp only [nnT];omega
   ·simp only [Gd.cand,By] at ht;rw [ht];exact C8 (by omega)
   ·simp only [Gd.cand];have h5:=Aw (M:=90) (by omega) hx.s.2 mt
    have h6:=Cl 90 hmt;exact C8 (by omega)
   ·simp only [Gd.cand];refine Af.2 fun s hs hs'=>?_
    have h5:jS x.qb (iw 1 [] x.lu)=true:=I3.2 ⟨s,hs',BC.2 hs⟩;rw [hq] at h5;cases h5
theorem akQ {off:List bq} {f:Fd} (hf:f.OK) {mt:Tm} {sc:Option (List Cs)} (hks:∀ks,sc=some ks->ab8 ks/\av mt<=30/\vOK mt f.ps ks=true) {u:Tm} (hu:av u<=90) {c:bH} (h:cdF off f mt sc u=some c):Ck c:=by
 simp only [cdF] at h;cases hi:kF off (bZ u) with
 |true=>rw [hi] at h;cases h
 |false=>
  rw [hi,E4] at h;by_cases hl:(aN u).length=f.ps.length
  ·simp only [hl,decide_true,Fi] at h;obtain ⟨ks,hs,h⟩:=A1.1 h;obtain ⟨h1,h2,h3⟩:=hks ks hs;exact aks hf h2 h1 h3 hu hl h
  ·simp only [hl,N6,E4] at h;cases h
theorem gp {l:List bH} {k:Nat} (h:k < l.length):eZ 16 (rows aj l) (ci k)=some (aj l[k]):=kg o9 (Ax h)
theorem Tw:(dH,agh)∈names:=C7 (i:=13) rfl
theorem ag3:(dH,abW)∈names:=C7 (i:=14) rfl
theorem ag5:(usr,abP)∈names:=C7 (i:=30) rfl
theorem agY:(usr,ace)∈names:=C7 (i:=27) rfl
theorem agZ:(usr,abx)∈names:=C7 (i:=32) rfl
theorem ahG:(dH,abI)∈names:=C7 (i:=0) rfl
theorem ahM:(dH,acr)∈names:=C7 (i:=1) rfl
theorem ahb:(usr,abT)∈names:=C7 (i:=33) rfl
theorem aip:(dH,CO)∈names:=C7 (i:=7) rfl
theorem jT (r:Nat) {t x y:Tm} (ht:DT 22 t) (hx:DT 1 x) (hy:DT 1 y):DT 25 (bL r t x y):=by
 have nt:=ht.sz;have nx:=hx.sz;have ny:=hy.sz
 match r with
 |0=>exact ⟨⟨Tw,⟨hx.ok,ht.ok,trivial⟩⟩,by simp only [bL,av,aJ];omega⟩
 |1=>exact ⟨⟨ag3,⟨⟨Tw,hx.ok,hy.ok,trivial⟩,trivial⟩⟩,by simp only [bL,av,aJ];omega⟩
 |2=>exact ⟨⟨ag5,⟨hx.ok,hy.ok,trivial⟩⟩,by simp only [bL,av,aJ];omega⟩
 |3=>exact ⟨⟨agY,⟨hx.ok,hy.ok,ht.ok,trivial⟩⟩,by simp only [bL,av,aJ];omega⟩
 |4=>exact ⟨⟨agZ,⟨hx.ok,trivial⟩⟩,by simp only [bL,av,aJ];omega⟩
 |5=>exact ⟨⟨ahG,⟨hx.ok,hy.ok,trivial⟩⟩,by simp only [bL,av,aJ];omega⟩
 |6=>exact ⟨⟨ahM,⟨hx.ok,hy.ok,trivial⟩⟩,by simp only [bL,av,aJ];omega⟩
 |7=>exact ⟨⟨ahb,⟨hx.ok,trivial⟩⟩,by simp only [bL,av,aJ];omega⟩
 |_+8=>exact ht.mono (by omega)
theorem DW {b u v:Tm} (hb:DT 25 b) (hu:DT 1 u) (hv:DT 1 v):DT 29 (jL b u v):=by have nb:=hb.sz;have nu:=hu.sz;have nv:=hv.sz;exact ⟨⟨aip,hb.ok,⟨Tw,hu.ok,hv.ok,trivial⟩,trivial⟩,by simp only [jL,av,aJ];omega⟩
section
variable {nat:Nat->List V->Option (List V)}
theorem ahm (na:jq nat) (hn:nS nat) {cw:C} (hw:RK Hr cw) (bs:List UInt8) (hb:bs.length<=80) {n i:Int} (hlt:i < n) (hi:-1000 < i/\i < 1000) (c:List Tm) (hc:c.length < 1000) (hk:Al c) (pos:Nat) (hp:pos<=bs.length):
  ∃(z:Tm) (p7:Nat),bn (T nat).G 11 0 [.c cw,.c (rows af c),.c (ci n),.c (ci i),.l (bx bs pos)]=bn (T nat).G 11 0 [.c cw,.c (rows af (gX c z)),.c (ci n),.c (ci (i+1)),.l (bx bs p7)]/\DT 29 z/\p7<=bs.length:=by
 obtain ⟨t,p1,h1,dt,q1⟩:=x39 na hn hw bs hb 1 (by omega) pos hp
 obtain ⟨x,p2,h2,dx,q2⟩:=x22 (nat:=nat) bs p1 hb q1;obtain ⟨y,p3,h3,dy,q3⟩:=x22 (nat:=nat) bs p2 hb q2;obtain ⟨r,p4,h4,r0,r1,q4⟩:=x38 (nat:=nat) bs p3 hb q3 9 (by omega)
 obtain ⟨b,p5,h5,b0,b1,q5⟩:=x38 (nat:=nat) bs p4 hb q4 2 (by omega)
 obtain ⟨u,p6,h6,du,q6⟩:=x22 (nat:=nat) bs p5 hb q5;obtain ⟨v,p7,h7,dv,q7⟩:=x22 (nat:=nat) bs p6 hb q6;have Uy:DT 22 t:=dt;rcases (by omega:r=0\/r=1\/r=2\/r=3\/r=4\/r=5\/r=6\/r=7\/r=8) with rfl|rfl|rfl|rfl|rfl|rfl|rfl|rfl|rfl
 ·by_cases hb0:b=0
  ·subst hb0;exact ⟨jL (bL 0 t x y) u v,p7,ag6 rfl rfl rfl rfl rfl rfl hlt hi hc hk h1 h2 h3 rfl rfl h5 h6 h7 h4,DW (jT 0 Uy dx dy) du dv,q7⟩
  ·exact ⟨bL 0 t x y,p5,agS rfl rfl rfl rfl rfl rfl hlt hi hc hk h1 h2 h3 hb0 h5 h4,(jT 0 Uy dx dy).mono (by omega),q5⟩
 ·by_cases hb0:b=0
  ·subst hb0;exact ⟨jL (bL 1 t x y) u v,p7,agG rfl rfl rfl rfl rfl rfl hlt hi hc hk h1 h2 h3 rfl rfl h5 h6 h7 h4,DW (jT 1 Uy dx dy) du dv,q7⟩
  ·exact ⟨bL 1 t x y,p5,ahf rfl rfl rfl rfl rfl rfl hlt hi hc hk h1 h2 h3 hb0 h5 h4,(jT 1 Uy dx dy).mono (by omega),q5⟩
 ·by_cases hb0:b=0
  ·subst hb0;exact ⟨jL (bL 2 t x y) u v,p7,ahs rfl rfl rfl rfl rfl rfl hlt hi hc hk h1 h2 h3 rfl rfl h5 h6 h7 h4,DW (jT 2 Uy dx dy) du dv,q7⟩
  ·exact ⟨bL 2 t x y,p5,ahD rfl rfl rfl rfl rfl rfl hlt hi hc hk h1 h2 h3 hb0 h5 h4,(jT 2 Uy dx dy).mono (by omega),q5⟩
 ·by_cases hb0:b=0
  ·subst hb0;exact ⟨jL (bL 3 t x y) u v,p7,agI rfl rfl rfl rfl rfl rfl hlt hi hc hk h1 h2 h3 rfl rfl h5 h6 h7 h4,DW (jT 3 Uy dx dy) du dv,q7⟩
  ·exact ⟨bL 3 t x y,p5,ahw rfl rfl rfl rfl rfl rfl hlt hi hc hk h1 h2 h3 hb0 h5 h4,(jT 3 Uy dx dy).mono (by omega),q5⟩
 ·by_cases hb0:b=0
  ·subst hb0;exact ⟨jL (bL 4 t x y) u v,p7,ahi rfl rfl rfl rfl rfl rfl hlt hi hc hk h1 h2 h3 rfl rfl h5 h6 h7 h4,DW (jT 4 Uy dx dy) du dv,q7⟩
  ·exact ⟨bL 4 t x y,p5,aio rfl rfl rfl rfl rfl rfl hlt hi hc hk h1 h2 h3 hb0 h5 h4,(jT 4 Uy dx dy).mono (by omega),q5⟩
 ·by_cases hb0:b=0
  ·subst hb0;exact ⟨jL (bL 5 t x y) u v,p7,agy rfl rfl rfl rfl rfl rfl hlt hi hc hk h1 h2 h3 rfl rfl h5 h6 h7 h4,DW (jT 5 Uy dx dy) du dv,q7⟩
  ·exact ⟨bL 5 t x y,p5,aiV rfl rfl rfl rfl rfl rfl hlt hi hc hk h1 h2 h3 hb0 h5 h4,(jT 5 Uy dx dy).mono (by omega),q5⟩
 ·by_cases hb0:b=0
  ·subst hb0;exact ⟨jL (bL 6 t x y) u v,p7,aiE rfl rfl rfl rfl rfl rfl hlt hi hc hk h1 h2 h3 rfl rfl h5 h6 h7 h4,DW (jT 6 Uy dx dy) du dv,q7⟩
  ·exact ⟨bL 6 t x y,p5,ajf rfl rfl rfl rfl rfl rfl hlt hi hc hk h1 h2 h3 hb0 h5 h4,(jT 6 Uy dx dy).mono (by omega),q5⟩
 ·by_cases hb0:b=0
  ·subst hb0;exact ⟨jL (bL 7 t x y) u v,p7,ahJ rfl rfl rfl rfl rfl rfl hlt hi hc hk h1 h2 h3 rfl rfl h5 h6 h7 h4,DW (jT 7 Uy dx dy) du dv,q7⟩
  ·exact ⟨bL 7 t x y,p5,ais rfl rfl rfl rfl rfl rfl hlt hi hc hk h1 h2 h3 hb0 h5 h4,(jT 7 Uy dx dy).mono (by omega),q5⟩
 ·by_cases hb0:b=0
  ·subst hb0;exact ⟨jL (bL 8 t x y) u v,p7,aiI rfl rfl rfl rfl rfl rfl hlt hi hc hk h1 h2 h3 rfl rfl h5 h6 h7 rfl h4,DW (jT 8 Uy dx dy) du dv,q7⟩
  ·exact ⟨bL 8 t x y,p5,ahN rfl rfl rfl rfl rfl rfl hlt hi hc hk h1 h2 h3 hb0 h5 rfl h4,(jT 8 Uy dx dy).mono (by omega),q5⟩
theorem Z9 (na:jq nat) (hn:nS nat) {cw:C} (hw:RK Hr cw) (bs:List UInt8) (hb:bs.length<=80) (n:Nat) (hn3:n<=3):∀(m i:Nat) (c:List Tm) (pos:Nat),i+m=n->DC i 29 c->pos<=bs.length->
  ∃(c':List Tm) (pos':Nat),bn (T nat).G 11 0 [.c cw,.c (rows af c),.c (ci n),.c (ci i),.l (bx bs pos)]=some ([.one (rows af c')],[bx bs pos'])/\DC n 29 c'/\pos'<=bs.length
 |0,i,c,pos,hi,hc,hp=>by
  have hlt:¬((i:Int) < (n:Int)):=by omega
  obtain rfl:i=n:=by omega
  refine ⟨c,pos,?_,hc,hp⟩;rw [ai ja (t:=lD) rfl];simp [lD,zZ,hlt,mP]
 |m+1,i,c,pos,hi,hc,hp=>by
  have hlt:((i:Int) < (n:Int)):=by omega
  have hl:=hc.len;obtain ⟨z,p7,h1,dz,q7⟩:=ahm na hn hw bs hb hlt ⟨by omega,by omega⟩ c (by omega) (hc.okc (by omega)) pos hp
  obtain ⟨c',p8,g1,g2,g3⟩:=Z9 na hn hw bs hb n hn3 m (i+1) (gX c z) p7 (by omega) (hc.add dz) q7
  rw [show (((i+1:Nat)):Int)=(i:Int)+1 by omega] at g1
  exact ⟨c',p8,h1.trans g1,g2,g3⟩
theorem x11 (na:jq nat) (hn:nS nat) {cw:C} (hw:RK Hr cw) (bs:List UInt8) (hb:bs.length<=80) (pos:Nat) (hp:pos<=bs.length):
  ∃(c:List Tm) (pos':Nat),bz (T nat).G 11 [.ref 0 0,.v (.one cw)] [bx bs pos]=some ([.one (rows af c)],[bx bs pos'])/\DC 3 29 c/\pos'<=bs.length:=by
 obtain ⟨r,p1,h8,r0,r1,hp1⟩:=x38 (nat:=nat) bs pos hb hp 3 (by omega)
 obtain ⟨k,rfl⟩:=Int.eq_ofNat_of_zero_le r0;have hs:cZ .add false (ci 1) (ci (k:Int))=some (ci ((k+1:Nat):Int)):=by
  rw [eO (by omega) (by omega)]
  exact F0 (fun x=>some (ci x)) (by omega)
 obtain ⟨c,p2,g1,g2,g3⟩:=Z9 na hn hw bs hb (k+1) (by omega) (k+1) 0 [] p1 (by omega) ⟨B9 _,fun t h=>by cases h⟩ hp1
 rw [tO] at g1;simp only [A6] at g1;refine ⟨c,p2,?_,⟨Dg g2.len (by omega),g2.all⟩,g3⟩
 rw [aG ja];simp [-Int.natCast_add,u11,zZ,h8,hs,g1,mP]
end
end Go.Ey.Pr
set_option maxHeartbeats 4000000
namespace Go.Ey.Pr
open Go Go.Ey Go.Ey.Seat Go.RowKit Go.Proofs
section
variable {nat:Nat->List V->Option (List V)}
def U2 (nat:Nat->List V->Option (List V)) (w:C) (P:bH->Prop):Prop:=∀c:List Tm,DC 3 29 c->∃l:List bH,bz (T nat).G 15 [.v (.one w),.v (.one cz),.v (.one (rows af c))] []=some ([.one (rows aj l)],[])/\l.length<=100/\∀x∈l,P x
end
end Go.Ey.Pr
set_option maxHeartbeats 4000000
namespace Go.Ey.Pr
open Go Go.Ey Go.Ey.Seat Go.RowKit Go.Proofs
noncomputable def kOb:Ob->List K
 |.cons a b=>[kI 4,kE,kE,kE,kE,kE,.sl 7 [kOb b,kOb a] 2]
 |.num n d=>kO (.num n d)
 |.sy p s=>kO (.sy p s)
 |.st t=>kO (.st t)
theorem SB (o:Ob):(kOb o).length=7:=by cases o<;>rfl
theorem amm:∀o:Ob,lU (kOb o) (enc o)
 |.cons a b=>by have h1:=nQ.cons (amm a) (SB a) (nQ.nil (ay:=7));have h2:=nQ.cons (amm b) (SB b) h1;exact .cons (RK.i _ _) (.cons Lx (.cons Lx (.cons Lx (.cons Lx (.cons Lx (.cons (RK.sl 7 [kOb b,kOb a] 2 _ h2 rfl) .nil))))))
 |.num n d=>rkO (o:=.num n d) rfl
 |.sy p s=>rkO (o:=.sy p s) rfl
 |.st t=>rkO (o:=.st t) rfl
theorem lU.app:∀{a b:List K} {c d:List C},lU a c->lU b d->lU (a++b) (c++d)
 |[],_,_,_,.nil,h=>h
 |_::_,_,_,_,.cons h1 h2,h=> .cons h1 (lU.app h2 h)
theorem nQ.snoc {e:Nat}:∀{rev:List (List K)} {cs:List C} {row:List K} {r:List C},nQ e rev cs->lU row r->row.length=e->nQ e (rev++[row]) (r++cs)
 |[],_,row,r,.nil,h,hl=>by
  have:=nQ.cons h hl (nQ.nil (ay:=e))
  simpa using this
 |x::rev,_,row,r,.cons h1 h2 h3,h,hl=>by rw [E3,<-List.append_assoc];exact nQ.cons h1 h2 (nQ.snoc h3 h hl)
mutual
noncomputable def kT:Tm->List K
 |.var p s=>[kI 1,kS p,kS s,kI 0,kE,kE,kE,kE,kE,kz,kz]
 |.eG o=>[kI 2,kE,kE]++kOb o++[kz]
 |.app p s ts=>[kI 3,kS p,kS s,kI 0,kE,kE,kE,kE,kE,kz,.sl 11 (kTr ts) ts.length]
noncomputable def kTr:List Tm->List (List K)
 |[]=>[]
 |t::ts=>kTr ts++[kT t]
end
theorem akU (t:Tm):(kT t).length=11:=by
 cases t with
 |eG o=>simp [kT,SB]
 |_=>rfl
theorem aaK:∀ts:List Tm,(kTr ts).length=ts.length
 |[]=>rfl
 |t::ts=>by simp [kTr,aaK ts]
theorem atG (o:Ob):[au (enc o) 0,au (enc o) 1,au (enc o) 2,au (enc o) 3,au (enc o) 4,au (enc o) 5,au (enc o) 6,cz]=enc o++[cz]:=by cases o<;>rfl
mutual
theorem rkT:∀t:Tm,lU (kT t) (af t)
 |.var p s=> .cons (RK.i _ _) (.cons (Qe p) (.cons (Qe s) (.cons (RK.i _ _) (.cons Lx (.cons Lx (.cons Lx (.cons Lx (.cons Lx (.cons rkZ (.cons rkZ .nil))))))))))
 |.eG o=>by rw [af,atG];exact .cons (RK.i _ _) (.cons Lx (.cons Lx (lU.app (amm o) (.cons rkZ .nil))))
 |.app p s ts=> .cons (RK.i _ _) (.cons (Qe p) (.cons (Qe s) (.cons (RK.i _ _) (.cons Lx (.cons Lx (.cons Lx (.cons Lx (.cons Lx (.cons rkZ (.cons (RK.sl 11 (kTr ts) _ _ (apC ts) (aaK ts)) .nil))))))))))
theorem apC:∀ts:List Tm,nQ 11 (kTr ts) (fF ts)
 |[]=>nQ.nil
 |t::ts=>nQ.snoc (apC ts) (rkT t) (akU t)
end
mutual
noncomputable def KI:K->K->Bool
 |.i k n,.i k' n'=>decide (k=k') && decide (n=n')
 |.b x,.b y=>decide (x=y)
 |.s l w,.s l' w'=>Nat.beq l l' && Nat.beq w w'
 |.sl e r n,.sl e' r' n'=>Nat.beq e e' && (Nat.beq n n' && abt r r')
 |_,_=>false
noncomputable def Mr:List K->List K->Bool
 |[],[]=>true
 |x::xs,y::ys=>KI x y && Mr xs ys
 |_,_=>false
noncomputable def abt:List (List K)->List (List K)->Bool
 |[],[]=>true
 |x::xs,y::ys=>Mr x y && abt xs ys
 |_,_=>false
end
mutual
theorem alQ:∀(a b:K),KI a b=true->a=b
 |.i k n,.i k' n',h=>by simp only [KI,As,F1] at h;rw [h.1,h.2]
 |.b x,.b y,h=>by simp only [KI,F1] at h;rw [h]
 |.s l w,.s l' w',h=>by simp only [KI,As] at h;rw [C5 h.1,C5 h.2]
 |.sl e r n,.sl e' r' n',h=>by simp only [KI,As] at h;rw [C5 h.1,C5 h.2.1,aa5 _ _ h.2.2]
 |.o _,.i _ _,h=>by simp [KI] at h
 |.o _,.b _,h=>by simp [KI] at h
 |.o _,.s _ _,h=>by simp [KI] at h
 |.o _,.sl _ _ _,h=>by simp [KI] at h
 |.o _,.o _,h=>by simp [KI] at h
 |.i _ _,.b _,h=>by simp [KI] at h
 |.i _ _,.s _ _,h=>by simp [KI] at h
 |.i _ _,.sl _ _ _,h=>by simp [KI] at h
 |.i _ _,.o _,h=>by simp [KI] at h
 |.b _,.i _ _,h=>by simp [KI] at h
 |.b _,.s _ _,h=>by simp [KI] at h
 |.b _,.sl _ _ _,h=>by simp [KI] at h
 |.b _,.o _,h=>by simp [KI] at h
 |.s _ _,.i _ _,h=>by simp [KI] at h
 |.s _ _,.b _,h=>by simp [KI] at h
 |.s _ _,.sl _ _ _,h=>by simp [KI] at h
 |.s _ _,.o _,h=>by simp [KI] at h
 |.sl _ _ _,.i _ _,h=>by simp [KI] at h
 |.sl _ _ _,.b _,h=>by simp [KI] at h
 |.sl _ _ _,.s _ _,h=>by simp [KI] at h
 |.sl _ _ _,.o _,h=>by simp [KI] at h
theorem IL:∀(a b:List K),Mr a b=true->a=b
 |[],[],_=>rfl
 |x::xs,y::ys,h=>by simp only [Mr,As] at h;rw [alQ _ _ h.1,IL _ _ h.2]
 |[],_::_,h=>by simp [Mr] at h
 |_::_,[],h=>by simp [Mr] at h
theorem aa5:∀(a b:List (List K)),abt a b=true->a=b
 |[],[],_=>rfl
 |x::xs,y::ys,h=>by simp only [abt,As] at h;rw [IL _ _ h.1,aa5 _ _ h.2]
 |[],_::_,h=>by simp [abt] at h
 |_::_,[],h=>by simp [abt] at h
end
noncomputable def dB:K->ByteArray
 |.s l w=>⟨(strOf l w).toArray⟩
 |_=>⟨#[]⟩
noncomputable def akL:Nat->List K->Option Ob
 |n+1,[.i _ (.ofNat c),a1,a2,a3,a4,a5,r]=>
  match c with
  |1=>some (.num (dB a1) (dB a2))
  |2=>some (.sy (dB a3) (dB a4))
  |3=>some (.st (dB a5))
  |4=>match r with
   |.sl _ [b,a] _=>(akL n a).bind fun x=>(akL n b).map fun y=> .cons x y
   |_=>none
  |_=>none
 |_,_=>none
noncomputable def ap8 (f:List K->Option Tm):List (List K)->List Tm->Option (List Tm)
 |[],acc=>some acc
 |r::rs,acc=>(f r).bind fun t=>ap8 f rs (t::acc)
noncomputable def agF:Nat->List K->Option Tm
 |n+1,[.i _ (.ofNat c),p,s,o0,o1,o2,o3,o4,o5,o6,z]=>
  match c with
  |1=>some (.var (dB p) (dB s))
  |2=>(akL 20 [o0,o1,o2,o3,o4,o5,o6]).map .eG
  |3=>match z with
   |.sl _ rev _=>(ap8 (agF n) rev []).map fun ts=> .app (dB p) (dB s) ts
   |_=>none
  |_=>none
 |_,_=>none
noncomputable def akf (ps:List bq):K:=.sl 2 (ps.map fun p=>[kS p.1,kS p.2]).reverse ps.length
noncomputable def acw:List (List K)->List bq->List bq
 |[x,y]::rs,acc=>acw rs ((dB x,dB y)::acc)
 |_::rs,acc=>acw rs acc
 |[],acc=>acc
inductive Dat where
 |none
 |other
 |many
 |some (ps:List bq) (body mt:Tm)
noncomputable def ksb (ks:List Cs):Bool:=Nat.blt ks.length 1000 && ks.all fun c=>(Nat.blt c.tests.length 1000 && c.tests.all fun t=>Nat.ble (av t) 30) && (Nat.blt c.subs.length 1000 && c.subs.all fun s=>Nat.ble s.length 1000 && s.all fun a=>Nat.ble (av a.t) 30)
theorem amn {ks:List Cs} (h:ksb ks=true):ab8 ks:=by simp only [ksb,As,E0,Nat.blt_eq,N2] at h;exact ⟨h.1,fun c hc=>⟨(h.2 c hc).1.1,(h.2 c hc).1.2⟩,fun c hc=>⟨(h.2 c hc).2.1,fun s hs=>⟨((h.2 c hc).2.2 s hs).1,((h.2 c hc).2.2 s hs).2⟩⟩⟩
noncomputable def akN (w:K) (k i:Nat):Option K:=match w with
 |.sl _ rev n=>cond (Nat.blt k n) ((rev.getD (n - 1 - k) [])[i]?) Option.none
 |_=>Option.none
noncomputable def apr (w:K) (nm:bq) (a1 a2:bN):Option Dat:=
 match a1,a2 with
 |.ret [.l 37 xs,.c (.b ok)] [],.ret [.c (.i .i64 (.ofNat k)),.c _] []=>
  cond (Nat.beq xs.length 37) (cond ok
   (match xs with
   |a::b:: .sl 2 pr pn:: .i .i64 cl::rest=>
    cond (decide (cl=1))
     (match akN w k 20 with
     |Option.some (.sl _ _ cnt)=>
      cond (Nat.beq cnt 1)
       (match agF 100 ((rest.drop 11).take 11) with
       |Option.some body=>
        let ps:=acw pr []
        let mt:=(agF 100 (rest.drop 22)).getD (.eG (.st ⟨#[]⟩))
        cond (Mr [kS nm.1,kS nm.2,akf ps] [a,b,.sl 2 pr pn] && (Mr (kT body) ((rest.drop 11).take 11) && (Nat.ble (av body) 3000 && (Nat.ble ps.length 1000 && acf xs))))
         (match aiA (oF FX 300 121 [.agg (ado xs)]) with
         |Option.none=>Option.none
         |Option.some Option.none=>Option.some (.some ps body mt)
         |Option.some (Option.some ks)=>cond (ksb ks && (Mr (kT mt) (rest.drop 22) && (Nat.ble (av mt) 30 && vOK mt ps ks))) (Option.some (.some ps body mt)) Option.none)
         Option.none
       |Option.none=>Option.none)
       (Option.some .many)
     |_=>Option.none)
     (Option.some .other)
   |_=>Option.none) (Option.some .none)) Option.none
 |_,_=>Option.none
noncomputable def amC (nm:bq):Option Dat:=apr Hr nm ((mE kgD 3000).fn 101 [.c Hr,.l 2 [kS nm.1,kS nm.2]] []) ((mE kgD 3000).fn 120 [.c Hr,.l 2 [kS nm.1,kS nm.2]] [])
noncomputable def Qc (i:Nat):Bool:=((names.drop (4 * i)).take 4).all fun nm=>(amC nm).isSome
set_option maxRecDepth 100000
theorem aoK:Qc 0=true:=by kernel_rfl
theorem ann:Qc 1=true:=by kernel_rfl
theorem aqe:Qc 2=true:=by kernel_rfl
theorem anQ:Qc 3=true:=by kernel_rfl
theorem anO:Qc 4=true:=by kernel_rfl
theorem aoX:Qc 5=true:=by kernel_rfl
theorem ao4:Qc 6=true:=by kernel_rfl
theorem aqb:Qc 7=true:=by kernel_rfl
theorem anL:Qc 8=true:=by kernel_rfl
theorem anu:Qc 9=true:=by kernel_rfl
theorem Qq {α:Type} {f:α->Bool} {k:Nat}:∀(n:Nat) (l:List α),l.length<=k * n->(∀i,i < n->((l.drop (k * i)).take k).all f=true)->l.all f=true
 |0,l,h,_=>by
  have:l=[]:=E7 (by omega)
  subst this;rfl
 |n+1,l,h,hi=>by
  rw [<-List.take_append_drop k l,List.all_append,As];refine ⟨by simpa using hi 0 (by omega),Qq (k:=k) n (l.drop k) (by rw [G0];rw [Nat.mul_add,Nat.mul_one] at h;omega) fun i hn=>?_⟩
  have:=hi (i+1) (by omega)
  rwa [Nat.mul_add,Nat.mul_one,Nat.add_comm,<-List.drop_drop] at this
theorem abV:names.all (fun nm=>(amC nm).isSome)=true:=Qq (k:=4) 10 names (by decide) fun i hi=>match i,hi with
 |0,_=>aoK
 |1,_=>ann
 |2,_=>aqe
 |3,_=>anQ
 |4,_=>anO
 |5,_=>aoX
 |6,_=>ao4
 |7,_=>aqb
 |8,_=>anL
 |9,_=>anu
 |i+10,h=>absurd h (by omega)
end Go.Ey.Pr
