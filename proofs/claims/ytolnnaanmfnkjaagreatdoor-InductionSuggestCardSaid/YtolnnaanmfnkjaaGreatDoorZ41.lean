import Derived.Test.YtolnnaanmfnkjaaGreatDoorZ37
import Derived.Test.YtolnnaanmfnkjaaGreatDoorZ39
set_option linter.all false
set_option maxHeartbeats 0
set_option maxRecDepth 100000
namespace Go.Ey.Pr
open Seat RowKit Proofs
section
variable {nat:Nat->List V->Option (List V)} {f:Fd} {ks:List Cs} {u:Tm} {s:List cu} {bs:List Bool} {dI:List aI} {mm:Tm}
theorem aou (hv:Cc nat) (hg:agA f bs u dI):∀(m i:Nat) (x:Dj),i+m=f.ps.length->x.vars.length<=i->x.jb.length<=i->x.fJ.length<=i->(∀t∈x.fJ,ah t<=100)->
  bR (T nat).G 43 3 (p3 f ks u s bs dI mm i x)=match pgP dI (ai u) i (f.ps.drop i) (bs.drop i) ((ai u).drop i) x with|none=>some (dS,[])|some y=>bR (T nat).G 43 6 (p6 ⟨f,ks,bs,u,s,bT 1 [] y.fJ,y.jb,mm⟩ 0 [])
 |0,i,x,hi,h2,h3,h4,h5=>by
  have hal:=hg.al;have har:=hg.ar;have hlt:¬((i:Int) < (f.ps.length:Int)):=by omega
  have h6:=wh x.fJ h5;have h8:au x.fJ<=60000:=by omega
  have h116:=hv x.fJ (fun t ht=>by have:=h5 t ht;omega) h8
  rw [bG (by omega:¬i < f.ps.length),ZR,ace _ rfl]
  simp (config := { maxSteps := 20000000 }) [-Int.natCast_add,p3,p6,EE,zZ,hlt,h116,aG,show rows dh []=cz from rfl,aU hg.fk,af]
 |m+1,i,x,hi,h2,h3,h4,h5=>by
  have hpr:i < f.ps.length:=by omega
  have hpb:i < bs.length:=by have:=hg.bl;omega
  have hpt:i < (ai u).length:=by have:=hg.ar;omega
  rw [drop_at hpr,drop_at hpb,drop_at hpt,UX,as8 hv hg i x h2 h3 h4 hpr hpb hpt];cases hq:((bs[i]||gm dI f.ps[i]) && !(isVar (ai u)[i] && !gm x.vars (aN (ai u)[i]))) with
  |true=>rfl
  |false=>
   cases ho:(bs[i] && IX i 0 (ai u) (aN (ai u)[i])) with
   |true=>rfl
   |false=>
    simp only [Ek];refine aou hv hg m (i+1) _ (by omega) ?_ ?_ ?_ ?_
    ·cases bs[i]<;>cases gm dI f.ps[i]<;>simp<;>omega
    ·cases bs[i]<;>simp<;>omega
    ·cases bs[i]<;>simp<;>omega
    ·intro t ht;cases hb:bs[i] with
     |true=>rw [hb] at ht;exact h5 t ht
     |false=>
      rw [hb] at ht;rcases B0.1 ht with ht|ht
      ·exact h5 t ht
      ·rw [B8.1 ht];exact hg.nd _ (By hpt)
end
def Gd.Lx (g:Gd) (acc:List (List cu)) (sub:List cu):List (List cu):=cond (NS acc (g.ls sub)) acc (acc++[g.ls sub])
def Gd.MG (g:Gd) (subs:List (List cu)) (acc:List (List cu)):List (List cu):=subs.foldl g.Lx acc
def Gd.Tv (g:Gd) (c:Cs):Cs:=⟨c.tests.map fun t=>nnT (ig g.s t),g.MG c.subs []⟩
section
variable {nat:Nat->List V->Option (List V)}
theorem apn (g:Gd) (hg:g.OK) (i:Nat) (c:Cs) (hc:c∈g.ks) (out:List Cs):∀(m k:Nat) (acc:List Tm),k+m=c.tests.length->acc.length<=k->
  bR (T nat).G 43 7 (p7 g i k c out acc)=bR (T nat).G 43 8 (p8 g i 0 c.subs out (acc++(c.tests.drop k).map fun t=>nnT (ig g.s t)) [])
 |0,k,acc,hk,ha=>by
  have hlt:¬((k:Int) < (c.tests.length:Int)):=by omega
  have e1:ak (dh c) 1=rows encS c.subs:=rfl;rw [bG (by omega:¬k < c.tests.length),aeX _ rfl]
  simp [-Int.natCast_add,p7,p8,Vl,zZ,hlt,e1,aG,show rows encS []=cz from rfl,aU hg.f,af,zO]
 |m+1,k,acc,hk,ha=>by
  have hc2:=hg.tests _ hc;have hkr:k < c.tests.length:=by omega
  have hlt:((k:Int) < (c.tests.length:Int)):=by omega
  have hs':=bn k (by omega)
  have hr2:=jd hkr;have hm:=By hkr;have h74:=x74 (nat:=nat) g.s hg.s 3000 c.tests[k] (hc2.2.1 _ hm) (by omega)
  have arT:=atp (nat:=nat) (ig g.s c.tests[k]);have uy:=ku (nnT (ig g.s c.tests[k]));have Fv:=BB (acc:=acc) (x:=nnT (ig g.s c.tests[k])) (by omega)
  have ih:=apn g hg i c hc out m (k+1) (acc++[nnT (ig g.s c.tests[k])]) (by omega) (by simp;omega)
  rw [drop_at hkr,D4,<-List.singleton_append,<-List.append_assoc,<-ih,aeX (p7 g i k c out acc) rfl];simp [-Int.natCast_add,p7,Vl,zZ,hlt,hr2,h74,arT,uy,Fv,hs',aU hg.f,af,zO]
theorem amt (g:Gd) (hg:g.OK) (i k:Nat) (hk:k < 100000) (x:List cu) (hx:proper g.f.ps x) (hok:yt x) (hxl:yt (g.ls x)) (hll:(g.ls x).length < 100000) (ss:List (List cu)) (out:List Cs) (tests:List Tm) (acc:List (List cu)) (hal:acc.length < 100000) (hacc:∀s∈acc,s.length < 100000/\yt s):∀(m p:Nat) (l:List cu),p+m=g.f.ps.length->l.length<=p->l++lsA g.s x (g.f.ps.drop p) (g.bs.drop p) ((ai g.u).drop p)=g.ls x->
  bR (T nat).G 43 9 (p9 g i k p x l ss out tests acc)=bR (T nat).G 43 8 (p8 g i (k+1) ss out tests (g.Lx acc x))
 |0,p,l,hp,hl,he=>by
  have hlt:¬((p:Int) < (g.f.ps.length:Int)):=by omega
  have hs:=bn k (by omega)
  rw [bG (by omega:¬p < g.f.ps.length),show lsA g.s x [] (g.bs.drop p) ((ai g.u).drop p)=[] by simp [lsA],Cl] at he
  subst he;have aoM:=aq0 (nat:=nat) acc (g.ls x) hll hal hacc;have h1:=YO (g.ls x);have h2:=adj (acc:=acc) (x:=g.ls x) (by omega)
  rw [Gd.Lx,XZ _ rfl];cases hq:NS acc (g.ls x)<;>rw [hq] at aoM<;>
   simp [-Int.natCast_add,p9,p8,Qx,zZ,hlt,aoM,h1,h2,hs,aU hg.f,af]
 |m+1,p,l,hp,hl,he=>by
  have hpr:p < g.f.ps.length:=by omega
  have hpb:p < g.bs.length:=by have:=hg.bs;omega
  have hpt:p < (ai g.u).length:=by have:=hg.ar;omega
  have hpx:p < x.length:=by have:=hx.1;omega
  have hps:=hg.f.ps;have hlt:((p:Int) < (g.f.ps.length:Int)):=by omega
  have hs':=bn p (by omega)
  have e10:=gI g.u;have hrt:=jd hpt;have hrb:=CR hpb;have agJ:=AL hpx;have n1:=nH x[p].t;have hox:=hok x[p] (By hpx);have hsub:=hx.2 p hpx hpr;have h74:=x74 (nat:=nat) g.s hg.s 3000 x[p].t hox.2 (by omega)
  have A7:=SG (ai g.u)[p] (ig g.s x[p].t);have A8:=Es (acc:=l) (x:=⟨aN (ai g.u)[p],ig g.s x[p].t⟩) (by omega)
  rw [drop_at hpr,drop_at hpb,drop_at hpt,lsA,<-hsub] at he;cases hbb:g.bs[p] with
  |false=>
   rw [hbb] at hrb he;have ih:=amt g hg i k hk x hx hok hxl hll ss out tests acc hal hacc m (p+1) l (by omega) (by omega) he
   rw [<-ih,XZ (p9 g i k p x l ss out tests acc) rfl];simp [-Int.natCast_add,p9,Qx,zZ,hlt,hrb,hs',aU hg.f,af]
  |true=>
   rw [hbb] at hrb he;have ih:=amt g hg i k hk x hx hok hxl hll ss out tests acc hal hacc m (p+1) (l++[⟨aN (ai g.u)[p],ig g.s x[p].t⟩]) (by omega) (by simp;omega) (by rw [<-he];simp)
   rw [<-ih,XZ (p9 g i k p x l ss out tests acc) rfl];simp [-Int.natCast_add,p9,Qx,zZ,hlt,hrb,hrt,agJ,n1,h74,e10,A7,A8,hs',aU hg.f,af]
theorem agL (g:Gd) (acc:List (List cu)) (x:List cu) (hxl:(g.ls x).length < 100000/\yt (g.ls x)) (ha:∀s∈acc,s.length < 100000/\yt s):∀s∈g.Lx acc x,s.length < 100000/\yt s:=by
 intro s hs;rw [Gd.Lx] at hs;cases hq:NS acc (g.ls x) with
 |true=>rw [hq] at hs;exact ha s hs
 |false=>
  rw [hq] at hs;rcases B0.1 hs with hs|hs
  ·exact ha s hs
  ·rw [B8.1 hs];exact hxl
theorem adi (g:Gd) (acc:List (List cu)) (x:List cu):(g.Lx acc x).length<=acc.length+1:=by rw [Gd.Lx];cases NS acc (g.ls x)<;>simp
theorem anO (g:Gd) (hg:g.OK) (i:Nat) (hi:i < 100000) (ss:List (List cu)) (hss:∀x∈ss,proper g.f.ps x/\yt x/\(g.ls x).length < 100000/\yt (g.ls x)) (hsl:ss.length < 100000) (out:List Cs) (hol:out.length < 100000) (tests:List Tm):∀(m k:Nat) (acc:List (List cu)),k+m=ss.length->acc.length<=k->(∀s∈acc,s.length < 100000/\yt s)->
  bR (T nat).G 43 8 (p8 g i k ss out tests acc)=bR (T nat).G 43 6 (p6 g (i+1) (out++[⟨tests,g.MG (ss.drop k) acc⟩]))
 |0,k,acc,hk,ha,hac=>by
  have hlt:¬((k:Int) < (ss.length:Int)):=by omega
  have hs:=bn i (by omega)
  have hl2:=YA tests acc;have ha2:=afJ (acc:=out) (x:=⟨tests,acc⟩) (by omega)
  rw [bG (by omega:¬k < ss.length),show g.MG [] acc=acc from rfl,ad9 _ rfl]
  simp [-Int.natCast_add,p8,p6,WT,zZ,hlt,hl2,ha2,hs,aU hg.f,af]
 |m+1,k,acc,hk,ha,hac=>by
  have hkr:k < ss.length:=by omega
  have hlt:((k:Int) < (ss.length:Int)):=by omega
  have hx:=hss _ (By hkr);have e2:ak (eF g.f) 2=rows bP g.f.ps:=rfl;have h1:=amt (nat:=nat) g hg i k (by omega) ss[k] hx.1 hx.2.1 hx.2.2.2 hx.2.2.1 ss out tests acc (by omega) hac g.f.ps.length 0 [] (by omega) (by simp) (by simp [Gd.ls])
  have ih:=anO g hg i hi ss hss hsl out hol tests m (k+1) (g.Lx acc ss[k]) (by omega) (by have:=adi g acc ss[k];omega) (agL g acc ss[k] hx.2.2 hac)
  have e:g.MG (ss.drop k) acc=g.MG (ss.drop (k+1)) (g.Lx acc ss[k]):=by rw [drop_at hkr];rfl
  rw [e,<-ih,<-h1,ad9 (p8 g i k ss out tests acc) rfl];simp [-Int.natCast_add,p8,p9,WT,zZ,hlt,X4 hkr,e2,eH,show rows cK []=cz from rfl,aU hg.f,af]
theorem ao9 (g:Gd) (hg:g.OK) (hp:∀c∈g.ks,∀x∈c.subs,proper g.f.ps x):∀(m i:Nat) (out:List Cs),i+m=g.ks.length->out.length<=i->
  bR (T nat).G 43 6 (p6 g i out)=some ([.agg (aZ ⟨[g.u],g.jb,g.fx,out++(g.ks.drop i).map g.Tv,g.Qd,1⟩),.one (cb true)],[])
 |0,i,out,hi,ho=>by
  have hlt:¬((i:Int) < (g.ks.length:Int)):=by omega
  have e11:=nH g.Qd;rw [bG (by omega:¬i < g.ks.length),af7 _ rfl,aZ,<-e11]
  simp [-Int.natCast_add,p6,Vg,zZ,hlt]
 |m+1,i,out,hi,ho=>by
  have hir:i < g.ks.length:=by omega
  have hks:=hg.ks;have hlt:((i:Int) < (g.ks.length:Int)):=by omega
  have hm:=By hir;have hc:=hg.subs _ hm;have e0:ak (dh g.ks[i]) 0=rows aa g.ks[i].tests:=rfl;have ek:[rows aa g.ks[i].tests,rows encS g.ks[i].subs]=dh g.ks[i]:=rfl;have hrk:=Pf hir;rw [ek] at hrk;have h1:=apn (nat:=nat) g hg i g.ks[i] hm out g.ks[i].tests.length 0 [] (by omega) (by simp)
  simp only [C4,E2] at h1;have h2:=anO (nat:=nat) g hg i (by omega) g.ks[i].subs (fun x hx=>⟨hp _ hm x hx,(hc.2 x hx).2,by have:=IW g.s x g.f.ps g.bs (ai g.u);have:=hg.f.ps;unfold Gd.ls;omega,hg.ls _ hm x hx⟩) hc.1 out (by omega) (g.ks[i].tests.map fun t=>nnT (ig g.s t)) g.ks[i].subs.length 0 [] (by omega) (by simp) (by simp)
  simp only [C4] at h2;have ih:=ao9 g hg hp m (i+1) (out++[g.Tv g.ks[i]]) (by omega) (by simp;omega)
  rw [drop_at hir,D4,show out++g.Tv g.ks[i]::List.map g.Tv (g.ks.drop (i+1))=out++[g.Tv g.ks[i]]++List.map g.Tv (g.ks.drop (i+1)) by simp,<-ih]
  refine Eq.trans ?_ h2;refine Eq.trans ?_ h1;rw [af7 _ rfl];simp [-Int.natCast_add,p6,p7,Vg,zZ,hlt,hrk,e0,aG,show rows aa []=cz from rfl,aU hg.f,af,zO]
end
theorem Iu:∀{a b:List cu},oH a b=true->a=b
 |[],[],_=>rfl
 |[],_::_,h=>by cases h
 |_::_,[],h=>by cases h
 |⟨v,t⟩::l,⟨v',t'⟩::m,h=>by simp only [oH,A5] at h;rw [xy.1 h.1,Go.Proofs.NM h.2.1,Iu h.2.2]
theorem OC:∀a:List cu,oH a a=true
 |[]=>rfl
 |a::l=>by rw [oH,xy.2 rfl,zh,OC l];rfl
theorem Y6 {x:List cu} {a:cu} (h:a.v ∉ x.map cu.v):mP x a=false:=by
 cases hq:mP x a with
 |false=>rfl
 |true=>
  obtain ⟨y,hy,h1⟩:=Ix.1 hq;simp only [A5] at h1;exact absurd (J0.2 ⟨y,hy,xy.1 h1.1⟩) h
theorem Ot:∀{x l:List cu},x.map cu.v=l.map cu.v->(x.map cu.v).Nodup->Jo x l=oH x l
 |[],[],_,_=>rfl
 |[],_::_,h,_=>by cases h
 |_::_,[],h,_=>by cases h
 |a::x,b::l,h,hn=>by
  simp only [D4,Dg] at h;simp only [D4,Kp] at hn;have ih:=Ot h.2 hn.2;have h1:mP (a::x) b=nR a.t b.t:=by
   rw [mP,List.any_cons,show (x.any fun y=>CX y.v b.v && nR y.t b.t)=mP x b from rfl,Y6 (by rw [<-h.1];exact hn.1),xy.2 h.1]
   simp
  have h2:l.all (mP (a::x))=l.all (mP x):=by
   rw [Ks,D0,D0];have h3:∀c∈l,mP (a::x) c=mP x c:=fun c hc=>by
    have h4:c.v∈x.map cu.v:=by rw [h.2];exact J0.2 ⟨c,hc,rfl⟩
    have h5:CX a.v c.v=false:=by
     cases hq:CX a.v c.v with
     |false=>rfl
     |true=>rw [xy.1 hq] at hn;exact absurd h4 hn.1
    rw [mP,List.any_cons,h5];rfl
   constructor
   ·intro g c hc;rw [<-h3 c hc];exact g c hc
   ·intro g c hc;rw [h3 c hc];exact g c hc
  rw [Jo,I3,h1,h2,oH,xy.2 h.1,Bool.true_and,<-ih];rfl
theorem abX {acc:List (List cu)} {l:List cu} (h:∀x∈acc,x.map cu.v=l.map cu.v) (hn:(l.map cu.v).Nodup):wN acc l=NS acc l:=by
 rw [wN,NS,Ks,Ix,Ix];constructor
 ·rintro ⟨x,hx,hc⟩;have h1:=h x hx;rw [Ot h1 (by rw [h1];exact hn)] at hc
  simp only [A5] at hc;exact ⟨x,hx,hc.1⟩
 ·rintro ⟨x,hx,hc⟩;obtain rfl:=Iu hc;have h1:=Ot rfl hn;rw [OC] at h1;exact ⟨x,hx,by rw [h1];rfl⟩
def cvA:List aI->List Bool->List Tm->List aI
 |_::ps,b::bs,t::ts=>cond b (aN t::cvA ps bs ts) (cvA ps bs ts)
 |_,_,_=>[]
theorem af5 (s sub:List cu):∀(ps:List aI) (bs:List Bool) (ts:List Tm),(lsA s sub ps bs ts).map cu.v=cvA ps bs ts
 |[],bs,ts=>by simp [lsA,cvA]
 |p::ps,[],ts=>by simp [lsA,cvA]
 |p::ps,b::bs,[]=>by simp [lsA,cvA]
 |p::ps,b::bs,t::ts=>by have ih:=af5 s sub ps bs ts;cases b<;>simp [lsA,cvA,ih]
theorem Ol (g:Gd) (hn:(cvA g.f.ps g.bs (ai g.u)).Nodup):∀(ss acc:List (List cu)),(∀x∈acc,x.map cu.v=cvA g.f.ps g.bs (ai g.u))->g.MG ss acc=g.subs ss acc
 |[],acc,_=>rfl
 |s::ss,acc,h=>by
  have hv:(g.ls s).map cu.v=cvA g.f.ps g.bs (ai g.u):=af5 _ _ _ _ _;have h1:g.Lx acc s=g.add acc s:=by rw [Gd.Lx,Gd.add,abX (fun x hx=>(h x hx).trans hv.symm) (by rw [hv];exact hn)]
  have h2:∀x∈g.add acc s,x.map cu.v=cvA g.f.ps g.bs (ai g.u):=fun x hx=>by
   rw [Gd.add] at hx;cases hq:wN acc (g.ls s) with
   |true=>rw [hq] at hx;exact h x hx
   |false=>
    rw [hq] at hx;rcases B0.1 hx with hx|hx
    ·exact h x hx
    ·rw [B8.1 hx];exact hv
  show g.MG ss (g.Lx acc s)=g.subs ss (g.add acc s)
  rw [h1];exact Ol g hn ss _ h2
theorem amc {t:Tm} {nm:aI}:gm (bT 1 [] [t]) nm=true↔nm∈TP t:=by rw [xY,yV,EZ];simp [Fw]
theorem aci {t:Tm} (h:isVar t=true):TP t=[aN t]:=by
 cases t with
 |var p x=>rfl
 |dV o=>simp [isVar,Go.Proofs.fZ] at h
 |app p x ts=>simp [isVar,Go.Proofs.fZ] at h
structure ath (bs:List Bool) (ts:List Tm) (x y:Dj):Prop where
 v:∀(k:Nat) t,bs[k]?=some true->ts[k]?=some t->isVar t=true/\aN t ∉ x.vars
 d:∀(k k':Nat) t t',k < k'->bs[k]?=some true->ts[k]?=some t->bs[k']?=some true->ts[k']?=some t'->aN t'≠aN t
 c:∀nm,nm∈y.jb↔nm∈x.jb\/∃(k:Nat) (t:Tm),bs[k]?=some true/\ts[k]?=some t/\nm=aN t
 o:∀u,u∈y.fJ↔u∈x.fJ\/∃k:Nat,bs[k]?=some false/\ts[k]?=some u
theorem XE (dI:List aI):∀(ps:List aI) (bs:List Bool) (ts:List Tm) (x y:Dj),bs.length=ps.length->ts.length=ps.length->Gi dI ps bs ts x=some y->ath bs ts x y/\y.s=x.s++sA ps ts
 |[],bs,ts,x,y,hb,ht,h=>by obtain rfl:=Cp hb;obtain rfl:=Cp ht;rw [EO] at h;cases h;exact ⟨⟨fun k t h=>by simp at h,fun k k' t t' _ h=>by simp at h,fun nm=>by simp,fun u=>by simp⟩,by simp [sA]⟩
 |p::ps,[],ts,x,y,hb,_,_=>by cases hb
 |p::ps,b::bs,[],x,y,_,ht,_=>by cases ht
 |p::ps,b::bs,t::ts,x,y,hb,ht,h=>by
  rw [Hq] at h;cases hq:((b||gm dI p) && !(isVar t && !gm x.vars (aN t))) with
  |true=>rw [hq] at h;cases h
  |false=>
   rw [hq,Ek] at h;obtain ⟨ih,is⟩:=XE dI ps bs ts _ y (by simpa using hb) (by simpa using ht) h
   have hv0:b=true->isVar t=true/\aN t ∉ x.vars:=fun hb=>by subst hb;simp only [Bool.true_or,Bool.true_and,Bool.not_eq_false',A5,L1] at hq;exact ⟨hq.1,fun hm=>by rw [xY.2 hm] at hq;exact absurd hq.2 (by decide)⟩
   have hsub:∀nm,nm∈x.vars->nm∈cond (b||gm dI p) (x.vars++[aN t]) x.vars:=fun nm hm=>by cases (b||gm dI p)<;>simp [hm]
   refine ⟨⟨?_,?_,?_,?_⟩,by rw [is,sA];simp⟩
   ·intro k u h1 h2
    match k,h1,h2 with
    |0,h1,h2=>
     simp only [C0,A0] at h1 h2;subst h2;exact hv0 h1
    |k+1,h1,h2=>
     simp only [Bm] at h1 h2;obtain ⟨g1,g2⟩:=ih.v k u h1 h2;exact ⟨g1,fun hm=>g2 (hsub _ hm)⟩
   ·intro k k' u u' hk h1 h2 h3 h4
    match k,k',hk,h1,h2,h3,h4 with
    |0,k'+1,_,g1,g2,g3,g4=>
     rw [C0] at g1 g2;rw [Bm] at g3 g4;have g1:=I2 g1;have g2:=I2 g2;intro he;refine (ih.v k' u' g3 g4).2 ?_;rw [he,<-g2,g1];simp
    |k+1,k'+1,hk,h1,h2,h3,h4=>
     simp only [Bm] at h1 h2 h3 h4;exact ih.d k k' u u' (by omega) h1 h2 h3 h4
   ·intro nm;rw [ih.c nm];constructor
    ·rintro (h1|⟨k,u,h1,h2,h3⟩)
     ·cases b with
      |false=>exact .inl h1
      |true=>
       rcases B0.1 h1 with h1|h1
       ·exact .inl h1
       ·exact .inr ⟨0,t,rfl,rfl,B8.1 h1⟩
     ·exact .inr ⟨k+1,u,h1,h2,h3⟩
    ·rintro (h1|⟨k,u,h1,h2,h3⟩)
     ·refine .inl ?_;cases b with
      |false=>exact h1
      |true=>exact F2 _ h1
     ·match k,h1,h2 with
      |0,h1,h2=>
       simp only [C0,A0] at h1 h2;subst h1 h2;exact .inl (by simp [h3])
      |k+1,h1,h2=>exact .inr ⟨k,u,h1,h2,h3⟩
   ·intro u;rw [ih.o u];constructor
    ·rintro (h1|⟨k,h1,h2⟩)
     ·cases b with
      |true=>exact .inl h1
      |false=>
       rcases B0.1 h1 with h1|h1
       ·exact .inl h1
       ·exact .inr ⟨0,rfl,by rw [B8.1 h1];rfl⟩
     ·exact .inr ⟨k+1,h1,h2⟩
    ·rintro (h1|⟨k,h1,h2⟩)
     ·refine .inl ?_;cases b with
      |true=>exact h1
      |false=>exact F2 _ h1
     ·match k,h1,h2 with
      |0,h1,h2=>
       simp only [C0,A0] at h1 h2;subst h1 h2;exact .inl (by simp)
      |k+1,h1,h2=>exact .inr ⟨k,h1,h2⟩
def O7 (al:List Tm):Nat->List aI->List Bool->List Tm->Bool
 |i,_::ps,b::bs,t::ts=>(b && IX i 0 al (aN t))||O7 al (i+1) ps bs ts
 |_,_,_,_=>false
theorem afQ (dI:List aI) (al:List Tm):∀(ps:List aI) (i:Nat) (bs:List Bool) (ts:List Tm) (x:Dj),pgP dI al i ps bs ts x=(Gi dI ps bs ts x).bind fun y=>cond (O7 al i ps bs ts) none (some y)
 |[],i,bs,ts,x=>by simp [ZR,EO,O7]
 |p::ps,i,[],ts,x=>by simp [pgP,Gi,O7]
 |p::ps,i,b::bs,[],x=>by simp [pgP,Gi,O7]
 |p::ps,i,b::bs,t::ts,x=>by
  rw [UX,Hq,afQ dI al ps,O7];cases ((b||gm dI p) && !(isVar t && !gm x.vars (aN t))) with
  |true=>rfl
  |false=>
   simp only [Ek];cases (b && IX i 0 al (aN t)) with
   |false=>rfl
   |true=>
    simp only [F1,Bool.true_or];cases Gi dI ps bs ts _<;>rfl
theorem Od (i:Nat) (nm:aI):∀(ts:List Tm) (k:Nat),IX i k ts nm=true↔∃(j:Nat) (t:Tm),ts[j]?=some t/\k+j≠i/\nm∈TP t
 |[],k=>by simp [IX]
 |t::ts,k=>by
  rw [IX,Bool.or_eq_true,Od i nm ts (k+1),A5,amc];constructor
  ·rintro (⟨h1,h2⟩|⟨j,u,h1,h2,h3⟩)
   ·exact ⟨0,t,rfl,by simpa using h1,h2⟩
   ·exact ⟨j+1,u,h1,by omega,h3⟩
  ·rintro ⟨j,u,h1,h2,h3⟩
   match j,h1,h2 with
   |0,h1,h2=>
    simp only [C0,A0] at h1;subst h1;exact .inl ⟨by simpa using h2,h3⟩
   |j+1,h1,h2=>exact .inr ⟨j,u,h1,by omega,h3⟩
theorem VI (al:List Tm):∀(ps:List aI) (i:Nat) (bs:List Bool) (ts:List Tm),bs.length=ps.length->ts.length=ps.length->(O7 al i ps bs ts=true↔∃(k:Nat) (t:Tm),bs[k]?=some true/\ts[k]?=some t/\IX (i+k) 0 al (aN t)=true)
 |[],i,bs,ts,hb,ht=>by obtain rfl:=Cp hb;simp [O7]
 |p::ps,i,[],ts,hb,_=>by cases hb
 |p::ps,i,b::bs,[],_,ht=>by cases ht
 |p::ps,i,b::bs,t::ts,hb,ht=>by
  rw [O7,Bool.or_eq_true,VI al ps (i+1) bs ts (by simpa using hb) (by simpa using ht),A5]
  constructor
  ·rintro (⟨h1,h2⟩|⟨k,u,h1,h2,h3⟩)
   ·exact ⟨0,t,by rw [h1];rfl,rfl,h2⟩
   ·exact ⟨k+1,u,h1,h2,by rw [show i+(k+1)=i+1+k by omega];exact h3⟩
  ·rintro ⟨k,u,h1,h2,h3⟩
   match k,h1,h2,h3 with
   |0,h1,h2,h3=>
    simp only [C0,A0] at h1 h2;subst h2;exact .inl ⟨h1,h3⟩
   |k+1,h1,h2,h3=>exact .inr ⟨k,u,h1,h2,by rw [show i+1+k=i+(k+1) by omega];exact h3⟩
theorem anL (dI ps:List aI) (bs:List Bool) (al:List Tm) (hb:bs.length=ps.length) (ht:al.length=ps.length):
  pgP dI al 0 ps bs al ⟨[],[],[],[]⟩=(Gi dI ps bs al ⟨[],[],[],[]⟩).bind fun y=>cond (je y.jb (bT 1 [] y.fJ)) none (some y):=by
 rw [afQ];cases hc:Gi dI ps bs al ⟨[],[],[],[]⟩ with
 |none=>rfl
 |some y=>
  obtain ⟨ca,_⟩:=XE dI ps bs al _ y hb ht hc;have e:O7 al 0 ps bs al=je y.jb (bT 1 [] y.fJ):=by
   rw [Ks,VI al ps 0 bs al hb ht,je,Ix];have hin:∀nm,gm (bT 1 [] y.fJ) nm=true↔∃t∈y.fJ,nm∈TP t:=fun nm=>by
    rw [xY,yV,EZ];have:∀ts:List Tm,nm∈Fw ts↔∃t∈ts,nm∈TP t:=fun ts=>by
     induction ts with
     |nil=>simp [Fw]
     |cons t ts ih=>simp [Fw,ih]
    simp [this]
   constructor
   ·rintro ⟨k,t,h1,h2,h3⟩;obtain ⟨j,u,g1,g2,g3⟩:=(Od _ _ _ _).1 h3;refine ⟨aN t,(ca.c _).2 (.inr ⟨k,t,h1,h2,rfl⟩),(hin _).2 ⟨u,(ca.o u).2 (.inr ⟨j,?_,g1⟩),g3⟩⟩;have hj:j < bs.length:=by
     have:=(As.1 g1).1
     omega
    have hbj:bs[j]?=some bs[j]:=A6 hj;cases hq:bs[j] with
    |false=>rw [hbj,hq]
    |true=>
     rw [hq] at hbj;exfalso;have hv:=(ca.v j u hbj g1).1;rw [aci hv,B8] at g3;rcases Nat.lt_or_gt_of_ne (show j≠k by omega) with hl|hl
     ·exact ca.d j k u t hl hbj g1 h1 h2 g3
     ·exact ca.d k j t u hl h1 h2 hbj g1 g3.symm
   ·rintro ⟨nm,h1,h2⟩;rcases (ca.c nm).1 h1 with hx|⟨k,t,g0,h3,rfl⟩
    ·exact absurd hx (by simp)
    obtain ⟨u,hu,h4⟩:=(hin _).1 h2;rcases (ca.o u).1 hu with hx|⟨j,g1,g2⟩
    ·exact absurd hx (by simp)
    refine ⟨k,t,g0,h3,(Od _ _ _ _).2 ⟨j,u,g2,fun he=>?_,h4⟩⟩
    obtain rfl:j=k:=by omega
    rw [g0] at g1;cases g1
  rw [e];rfl
theorem amC (dI:List aI) (s sub:List cu) (ps:List aI) (bs:List Bool) (ts:List Tm) (x y:Dj) (h:Gi dI ps bs ts x=some y):(cvA ps bs ts).Nodup:=by
 have h1:=(YK dI s sub ps bs ts x y h).1
 rwa [af5] at h1
section
variable {nat:Nat->List V->Option (List V)}
theorem aua (hv:Cc nat) (f:Fd) (hf:f.OK) (mt:Tm) (hm:f.ms=aa mt) (hmn:ah mt<=30) (ks:List Cs) (hks:RO ks) (hpr:∀c∈ks,∀x∈c.subs,proper f.ps x) (u:Tm) (hu:ah u<=100) (hl:(ai u).length=f.ps.length):
  bR (T nat).G 43 0 (p0 f ks u 0 [])=some (OW (cdG f mt ks u),[]):=by
 have hok:∀c∈ks,c.subs.length < 100000/\∀x∈c.subs,x.length < 100000/\yt x:=fun c hc=>⟨by have:=(hks.ss c hc).1;omega,fun s hs=>⟨by have:=((hks.ss c hc).2 s hs).1;omega,fun a ha=>Ca (by have:=((hks.ss c hc).2 s hs).2 a ha;omega)⟩⟩
 have hal:(ai u).length<=600/\∀t∈ai u,ah t<=100:=by
  refine ⟨?_,fun t ht=>E1 (F3 ht) hu⟩
  cases u with
  |var p s=>simp [ai]
  |dV o=>simp [ai]
  |app p s ts=>simp only [ai,ah] at hu |-;have:=nD ts;omega
 have hbl:(nk f.ps ks (List.replicate f.ps.length false)).length=f.ps.length:=by rw [NT];simp
 have h1:=apr (nat:=nat) f hf ks u hl f.ps.length 0 [] (by omega) (by simp)
 simp only [C4,E2] at h1;have hsl:=aec f.ps (ai u);have h2:=ajp (nat:=nat) f hf hv mt hm hmn ks (by have:=hks.len;omega) (fun c hc=>⟨(hok c hc).1,fun x hx=>⟨hpr c hc x hx,((hok c hc).2 x hx).2⟩⟩) u (sA f.ps (ai u)) (by omega) ks.length 0 (List.replicate f.ps.length false) (by simp) (by omega)
 simp only [C4] at h2;have hg:agA f (nk f.ps ks (List.replicate f.ps.length false)) u (bT 1 [] [mt]):=⟨hf,hbl,hl,hal.1,hal.2,jr _ (by simp [au];omega)⟩
 have h3:=aou (nat:=nat) (ks:=ks) (s:=sA f.ps (ai u)) (mm:=ig (sA f.ps (ai u)) mt) hv hg f.ps.length 0 ⟨[],[],[],[]⟩ (by omega) (by simp) (by simp) (by simp) (by simp)
 simp only [C4] at h3;rw [h1,h2,h3,anL _ _ _ _ hbl hl,cdG];cases hc:Gi (bT 1 [] [mt]) f.ps (nk f.ps ks (List.replicate f.ps.length false)) (ai u) ⟨[],[],[],[]⟩ with
 |none=>rfl
 |some x=>
  simp only [A4];cases hq:je x.jb (bT 1 [] x.fJ) with
  |true=>rfl
  |false=>
   have hx:=RI (M:=100) f.ps _ _ 0 _ x hal.2 ⟨⟨by simp,by simp⟩,by simp,by simp,⟨by simp,by simp⟩⟩ hc
   rw [E4] at hx;have hxs:=(XE _ _ _ _ _ _ hbl hl hc).2;simp only [E2] at hxs;have hps:=hf.ps;have hsb:∀t:Tm,ah t<=30->ah (ig x.s t)<=3000:=fun t ht=>by
    have h2:=yT (M:=100) (by omega) hx.s.2 t
    have:=Cd 100 ht
    omega
   have hgd:Gd.OK ⟨f,ks,nk f.ps ks (List.replicate f.ps.length false),u,x.s,bT 1 [] x.fJ,x.jb,ig x.s mt⟩:=
    ⟨hf,hbl,hl,by have:=hks.len;simp only;omega,by have:=hx.s.1;simp only;omega,
     fun c hc=>⟨by have:=(hks.ts c hc).1;omega,fun t ht=>by have:=(hks.ts c hc).2 t ht;omega,fun t ht=>hsb t ((hks.ts c hc).2 t ht)⟩,
     fun c hc=>⟨(hok c hc).1,(hok c hc).2⟩,
     fun c hc s hs=>YF hx.s.2 ((hks.ss c hc).2 s hs).2 _ _ _⟩
   have h4:=ao9 (nat:=nat) _ hgd hpr ks.length 0 [] (by simp) (by simp)
   simp only [C4,E2] at h4;rw [<-hxs];simp only [Ek];rw [h4];have hcv:=amC _ x.s [] f.ps _ _ _ x hc;have e:∀c:Cs,Gd.Tv ⟨f,ks,nk f.ps ks (List.replicate f.ps.length false),u,x.s,bT 1 [] x.fJ,x.jb,ig x.s mt⟩ c=Gd.cas ⟨f,ks,nk f.ps ks (List.replicate f.ps.length false),u,x.s,bT 1 [] x.fJ,x.jb,ig x.s mt⟩ c:=fun c=>by rw [Gd.Tv,Gd.cas,Ol _ hcv _ _ (by simp)]
   rw [show Gd.Tv ⟨f,ks,nk f.ps ks (List.replicate f.ps.length false),u,x.s,bT 1 [] x.fJ,x.jb,ig x.s mt⟩=Gd.cas ⟨f,ks,nk f.ps ks (List.replicate f.ps.length false),u,x.s,bT 1 [] x.fJ,x.jb,ig x.s mt⟩ from funext e]
   rfl
theorem aop {f:Fd} {u:Tm} (hnm:f.nm=aN u) (off:List aI) (ho:off.length < 100000):bq (T nat).G 111 [.v (.one (rows bP off)),.v (.agg [ak (eF f) 0,ak (eF f) 1])] []=some ([.one (cb (gm off (aN u)))],[]):=by have h:=ak5 (nat:=nat) off ho (aN u);rw [<-hnm] at h |-;exact h
theorem x43 (hv:Cc nat) {w:C} {off:List aI} {u:Tm} {f:Fd} {mt:Tm} {sc:Option (List Cs)} {k v:C} {es:List C} (ho:off.length < 100000) (hf:f.OK) (hcl:f.cl=1) (hnm:f.nm=aN u)
  (Fu:bq (T nat).G 110 [.v (.one w),.v (.agg (bP (aN u)))] []=some ([.agg (eF f),.one (cb true)],[]))
  (h112:bq (T nat).G 112 [.v (.one w),.v (.agg (bP (aN u)))] []=some ([.one k,.one v],[]))
  (hrow:fI 32 w k=some es) (hlen:jk false (ak es 20)=some (ci 1))
  (Q8:bq (T nat).G 113 [.v (.agg (eF f))] []=some (LC sc,[])) (hks:∀ks,sc=some ks->RO ks/\f.ms=aa mt/\ah mt<=30/\∀c∈ks,∀x∈c.subs,proper f.ps x) (hu:ah u<=100):
  bq (T nat).G 43 [.v (.one w),.v (.one (rows bP off)),.v (.agg (aa u))] []=some (OW (cdF off f mt sc u),[]):=by
 have EH:=aop (nat:=nat) hnm off ho;have e2:ak (eF f) 2=rows bP f.ps:=rfl;have e3:ak (eF f) 3=ci 1:=by rw [<-hcl];rfl
 have e10:=gI u;have hF:=aU hf;have e0:[ak (eF f) 0,ak (eF f) 1]=bP (aN u):=by rw [<-hnm];rfl
 simp only [bP,<-gW,<-gY] at Fu h112 e0;simp only [Dg,and_true] at e0;rw [cdF,aQ qN];cases hi:gm off (aN u) with
 |true=>
  rw [hi] at EH;simp (config := { maxSteps := 20000000 }) [t43,b43,zZ,Fu,e3,EH,dS,OW,hF,af]
 |false=>
  rw [hi] at EH;by_cases hl:(ai u).length=f.ps.length
  ·rw [<-e0.1,<-e0.2] at h112;cases hs:sc with
   |none=>
    rw [hs] at Q8;simp only [LC] at Q8;simp (config := { maxSteps := 20000000 }) [t43,b43,zZ,Fu,e3,EH,e10,e2,eH,aG,hl,h112,hrow,hlen,Q8,dS,OW,hF,af]
   |some ks=>
    rw [hs] at Q8;simp only [LC] at Q8;obtain ⟨hk,hm,hmn,hpr⟩:=hks ks hs;have h0:=aua (nat:=nat) hv f hf mt hm hmn ks hk hpr u hu hl;simp only [p0,TL,D1,show rows cK []=cz from rfl] at h0
    simp (config := { maxSteps := 20000000 }) [t43,b43,zZ,Fu,e3,EH,e10,e2,eH,aG,hl,h112,hrow,hlen,Q8,h0,hF,af]
  ·have hle:(((ai u).length:Int)==(f.ps.length:Int))=false:=Dd.2 (by omega)
   simp (config := { maxSteps := 20000000 }) [t43,b43,zZ,Fu,e3,EH,e10,e2,eH,aG,hl,hle,dS,OW,hF,af]
theorem aqP {w off:C} {u:Tm} {es:List C}
  (Fu:bq (T nat).G 110 [.v (.one w),.v (.agg (bP (aN u)))] []=some ([.agg es,.one (cb false)],[])) (hes:es.length=37):
  bq (T nat).G 43 [.v (.one w),.v (.one off),.v (.agg (aa u))] []=some (dS,[]):=by
 simp only [bP,<-gW,<-gY] at Fu;rw [aQ qN];simp (config := { maxSteps := 20000000 }) [t43,b43,zZ,Fu,dS,hes,af]
theorem ark {w off:C} {u:Tm} {es:List C} {c:Int}
  (Fu:bq (T nat).G 110 [.v (.one w),.v (.agg (bP (aN u)))] []=some ([.agg es,.one (cb true)],[])) (hes:es.length=37) (h3:ak es 3=ci c) (hc:c≠1):
  bq (T nat).G 43 [.v (.one w),.v (.one off),.v (.agg (aa u))] []=some (dS,[]):=by
 simp only [bP,<-gW,<-gY] at Fu;have hc':(c==1)=false:=Dd.2 hc;rw [aQ qN];simp (config := { maxSteps := 20000000 }) [t43,b43,zZ,Fu,h3,hc,hc',dS,hes,af]
theorem as0 {w:C} {off:List aI} {u:Tm} {es fs:List C} {n m:Nat} {k v:C} (ho:off.length < 100000)
  (Fu:bq (T nat).G 110 [.v (.one w),.v (.agg (bP (aN u)))] []=some ([.agg fs,.one (cb true)],[])) (hes:fs.length=37) (h0:ak fs 0=ak (aa u) 1) (h1:ak fs 1=ak (aa u) 2) (h3:ak fs 3=ci 1) (h2:jk false (ak fs 2)=some (ci n))
  (h112:bq (T nat).G 112 [.v (.one w),.v (.agg (bP (aN u)))] []=some ([.one k,.one v],[]))
  (hrow:fI 32 w k=some es) (hlen:jk false (ak es 20)=some (ci m)) (hm:m≠1):
  bq (T nat).G 43 [.v (.one w),.v (.one (rows bP off)),.v (.agg (aa u))] []=some (dS,[]):=by
 have EH:=acs (nat:=nat) off ho u;have e10:=gI u;simp only [bP,<-gW,<-gY] at Fu h112;rw [aQ qN];cases hi:gm off (aN u) with
 |true=>
  rw [hi] at EH;simp (config := { maxSteps := 20000000 }) [t43,b43,zZ,Fu,h0,h1,h3,EH,dS,hes,af]
 |false=>
  rw [hi] at EH;have hm':((m:Int)==1)=false:=Dd.2 (by omega)
  by_cases hl:(ai u).length=n
  ·simp (config := { maxSteps := 20000000 }) [t43,b43,zZ,Fu,h0,h1,h3,h2,EH,e10,aG,hl,h112,hrow,hlen,hm,hm',dS,hes,af]
  ·have hle:(((ai u).length:Int)==(n:Int))=false:=Dd.2 (by omega)
   simp (config := { maxSteps := 20000000 }) [t43,b43,zZ,Fu,h0,h1,h3,h2,EH,e10,aG,hl,hle,dS,hes,af]
end
end Go.Ey.Pr
