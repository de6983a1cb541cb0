/- A part. -/
import Derived.Test.YtolnnaanmfnkjaaGreatDoorY39
set_option linter.all false
set_option maxHeartbeats 4000000
namespace Go.Ey.Pr
open Go Go.Ey Go.Ey.Seat Go.RowKit Go.Proofs
section
variable {nat:Nat->List V->Option (List V)}
set_option maxRecDepth 100000 in
set_option maxHeartbeats 4000000 in
theorem aqc (ks:List Cs) (bs:List Bool) (jE:List bq) (u:Tm) (f:Fd) (hf:f.OK) (hmd:jE.length < 100000) (p:Nat) (x:M9) (h1:x.s.length<=p) (h2:x.vars.length<=p) (h3:x.qb.length<=p) (h4:x.lu.length<=p) (hpr:p < f.ps.length) (hpb:p < bs.length) (hpt:p < (aN u).length) (hbb:bs[p]=true) (hv:isVar (aN u)[p]=false):
  bn (T nat).G 45 0 (st0 ks bs jE p u f x)=some (bT,[]):=by
 have hps:=hf.ps;have hlt:((p:Int) < (f.ps.length:Int)):=by omega
 have hs':=ax p (by omega)
 have e2:au (j5 f) 2=rows bW f.ps:=rfl;have e10:=ng u;have hr:eZ 2 (rows bW f.ps) (ci p)=some [cs f.ps[p].1,cs f.ps[p].2]:=kC hpr;have hrt:=eH hpt;have hrb:=JY hpb;have om:=rJ f.ps[p] (aN u)[p];have ni:=AA (acc:=x.s) (x:=⟨f.ps[p],(aN u)[p]⟩) (by omega)
 have MU:=DF (aN u)[p];have IW:=SI (nat:=nat) x.vars (by omega) (aN u)[p]
 have BV:=x65 (nat:=nat) jE hmd f.ps[p];simp only [bW] at BV;have hl2:=G9 (aN u)[p];have Cb:=kR (aN u)[p];have WG:=qm (acc:=x.vars) (x:=bZ (aN u)[p]) (by omega)
 have Yw:=qm (acc:=x.qb) (x:=bZ (aN u)[p]) (by omega)
 have NU:=D8 (acc:=x.lu) (x:=(aN u)[p]) (by omega)
 rw [hbb] at hrb;rw [hv] at MU;simp only [st0];rw [Db _ rfl];simp (config := { maxSteps := 20000000 }) [-Int.natCast_add,Eb,zZ,hlt,e2,fo,e10,hr,hrt,hrb,om,ni,MU,bT,dh hf,ah]
end
end Go.Ey.Pr
set_option maxHeartbeats 4000000
namespace Go.Ey.Pr
open Go Go.Ey Go.Ey.Seat Go.RowKit Go.Proofs
section
variable {nat:Nat->List V->Option (List V)}
set_option maxRecDepth 100000 in
set_option maxHeartbeats 4000000 in
theorem ap7 (ks:List Cs) (bs:List Bool) (jE:List bq) (u:Tm) (f:Fd) (hf:f.OK) (hmd:jE.length < 100000) (p:Nat) (x:M9) (h1:x.s.length<=p) (h2:x.vars.length<=p) (h3:x.qb.length<=p) (h4:x.lu.length<=p) (hpr:p < f.ps.length) (hpb:p < bs.length) (hpt:p < (aN u).length) (hbb:bs[p]=true) (hv:isVar (aN u)[p]=true) (hi:kF x.vars (bZ (aN u)[p])=false):
  bn (T nat).G 45 0 (st0 ks bs jE p u f x)=bn (T nat).G 45 0 (st0 ks bs jE (p+1) u f ⟨x.s++[⟨f.ps[p],(aN u)[p]⟩],x.vars++[bZ (aN u)[p]],x.qb++[bZ (aN u)[p]],x.lu⟩):=by
 have hps:=hf.ps;have hlt:((p:Int) < (f.ps.length:Int)):=by omega
 have hs':=ax p (by omega)
 have e2:au (j5 f) 2=rows bW f.ps:=rfl;have e10:=ng u;have hr:eZ 2 (rows bW f.ps) (ci p)=some [cs f.ps[p].1,cs f.ps[p].2]:=kC hpr;have hrt:=eH hpt;have hrb:=JY hpb;have om:=rJ f.ps[p] (aN u)[p];have ni:=AA (acc:=x.s) (x:=⟨f.ps[p],(aN u)[p]⟩) (by omega)
 have MU:=DF (aN u)[p];have IW:=SI (nat:=nat) x.vars (by omega) (aN u)[p]
 have BV:=x65 (nat:=nat) jE hmd f.ps[p];simp only [bW] at BV;have hl2:=G9 (aN u)[p];have Cb:=kR (aN u)[p];have WG:=qm (acc:=x.vars) (x:=bZ (aN u)[p]) (by omega)
 have Yw:=qm (acc:=x.qb) (x:=bZ (aN u)[p]) (by omega)
 have NU:=D8 (acc:=x.lu) (x:=(aN u)[p]) (by omega)
 rw [hbb] at hrb;rw [hv] at MU;rw [hi] at IW;simp only [st0];rw [Db _ rfl];simp (config := { maxSteps := 20000000 }) [-Int.natCast_add,Eb,zZ,hlt,e2,fo,e10,hr,hrt,hrb,om,ni,MU,IW,hs',hl2,WG,Yw,dh hf,ah]
end
end Go.Ey.Pr
set_option maxHeartbeats 4000000
namespace Go.Ey.Pr
open Go Go.Ey Go.Ey.Seat Go.RowKit Go.Proofs
section
variable {nat:Nat->List V->Option (List V)}
set_option maxRecDepth 100000 in
set_option maxHeartbeats 4000000 in
theorem aoG (ks:List Cs) (bs:List Bool) (jE:List bq) (u:Tm) (f:Fd) (hf:f.OK) (hmd:jE.length < 100000) (p:Nat) (x:M9) (h1:x.s.length<=p) (h2:x.vars.length<=p) (h3:x.qb.length<=p) (h4:x.lu.length<=p) (hpr:p < f.ps.length) (hpb:p < bs.length) (hpt:p < (aN u).length) (hbb:bs[p]=false) (hm:kF jE f.ps[p]=true) (hv:isVar (aN u)[p]=true) (hi:kF x.vars (bZ (aN u)[p])=true):
  bn (T nat).G 45 0 (st0 ks bs jE p u f x)=some (bT,[]):=by
 have hps:=hf.ps;have hlt:((p:Int) < (f.ps.length:Int)):=by omega
 have hs':=ax p (by omega)
 have e2:au (j5 f) 2=rows bW f.ps:=rfl;have e10:=ng u;have hr:eZ 2 (rows bW f.ps) (ci p)=some [cs f.ps[p].1,cs f.ps[p].2]:=kC hpr;have hrt:=eH hpt;have hrb:=JY hpb;have om:=rJ f.ps[p] (aN u)[p];have ni:=AA (acc:=x.s) (x:=⟨f.ps[p],(aN u)[p]⟩) (by omega)
 have MU:=DF (aN u)[p];have IW:=SI (nat:=nat) x.vars (by omega) (aN u)[p]
 have BV:=x65 (nat:=nat) jE hmd f.ps[p];simp only [bW] at BV;have hl2:=G9 (aN u)[p];have Cb:=kR (aN u)[p];have WG:=qm (acc:=x.vars) (x:=bZ (aN u)[p]) (by omega)
 have Yw:=qm (acc:=x.qb) (x:=bZ (aN u)[p]) (by omega)
 have NU:=D8 (acc:=x.lu) (x:=(aN u)[p]) (by omega)
 rw [hbb] at hrb;rw [hv] at MU;rw [hi] at IW;rw [hm] at BV;simp only [st0];rw [Db _ rfl];simp (config := { maxSteps := 20000000 }) [-Int.natCast_add,Eb,zZ,hlt,e2,fo,e10,hr,hrt,hrb,om,ni,BV,MU,IW,bT,dh hf,ah]
end
end Go.Ey.Pr
set_option maxHeartbeats 4000000
namespace Go.Ey.Pr
open Go Go.Ey Go.Ey.Seat Go.RowKit Go.Proofs
section
variable {nat:Nat->List V->Option (List V)}
set_option maxRecDepth 100000 in
set_option maxHeartbeats 4000000 in
theorem anf (ks:List Cs) (bs:List Bool) (jE:List bq) (u:Tm) (f:Fd) (hf:f.OK) (hmd:jE.length < 100000) (p:Nat) (x:M9) (h1:x.s.length<=p) (h2:x.vars.length<=p) (h3:x.qb.length<=p) (h4:x.lu.length<=p) (hpr:p < f.ps.length) (hpb:p < bs.length) (hpt:p < (aN u).length) (hbb:bs[p]=false) (hm:kF jE f.ps[p]=true) (hv:isVar (aN u)[p]=true) (hi:kF x.vars (bZ (aN u)[p])=false):
  bn (T nat).G 45 0 (st0 ks bs jE p u f x)=bn (T nat).G 45 0 (st0 ks bs jE (p+1) u f ⟨x.s++[⟨f.ps[p],(aN u)[p]⟩],x.vars++[bZ (aN u)[p]],x.qb,x.lu++[(aN u)[p]]⟩):=by
 have hps:=hf.ps;have hlt:((p:Int) < (f.ps.length:Int)):=by omega
 have hs':=ax p (by omega)
 have e2:au (j5 f) 2=rows bW f.ps:=rfl;have e10:=ng u;have hr:eZ 2 (rows bW f.ps) (ci p)=some [cs f.ps[p].1,cs f.ps[p].2]:=kC hpr;have hrt:=eH hpt;have hrb:=JY hpb;have om:=rJ f.ps[p] (aN u)[p];have ni:=AA (acc:=x.s) (x:=⟨f.ps[p],(aN u)[p]⟩) (by omega)
 have MU:=DF (aN u)[p];have IW:=SI (nat:=nat) x.vars (by omega) (aN u)[p]
 have BV:=x65 (nat:=nat) jE hmd f.ps[p];simp only [bW] at BV;have hl2:=G9 (aN u)[p];have Cb:=kR (aN u)[p];have WG:=qm (acc:=x.vars) (x:=bZ (aN u)[p]) (by omega)
 have Yw:=qm (acc:=x.qb) (x:=bZ (aN u)[p]) (by omega)
 have NU:=D8 (acc:=x.lu) (x:=(aN u)[p]) (by omega)
 rw [hbb] at hrb;rw [hv] at MU;rw [hi] at IW;rw [hm] at BV;simp only [st0];rw [Db _ rfl];simp (config := { maxSteps := 20000000 }) [-Int.natCast_add,Eb,zZ,hlt,e2,fo,e10,hr,hrt,hrb,om,ni,BV,MU,IW,hs',hl2,WG,Cb,NU,dh hf,ah]
end
end Go.Ey.Pr
set_option maxHeartbeats 4000000
namespace Go.Ey.Pr
open Go Go.Ey Go.Ey.Seat Go.RowKit Go.Proofs
structure Sb (R:Nat->List V->List V->Prop):Prop where
 uniq:∀{f:Nat} {vs rs rs':List V},R f vs rs->R f vs rs'->rs=rs'
 isN:∀{f:Nat} {vs rs:List V},R f vs rs->isN f=true
 ok:∀{f:Nat} {vs rs:List V},R f vs rs->oq PP f vs rs
open Classical in
noncomputable def Mv (R:Nat->List V->List V->Prop) (f:Nat) (vs:List V):Option (List V):=if h:∃rs,R f vs rs then some (Classical.choose h) else none
theorem XB {R:Nat->List V->List V->Prop} {f:Nat} {vs rs:List V} (h:Mv R f vs=some rs):R f vs rs:=by
 unfold Mv at h;split at h
 ·rename_i hx;have:=Classical.choose_spec hx
  simp only [A0] at h
  rwa [h] at this
 ·cases h
theorem Sb.at {R:Nat->List V->List V->Prop} (h:Sb R) {f:Nat} {vs rs:List V} (r:R f vs rs):Mv R f vs=some rs:=by have hx:∃rs,R f vs rs:=⟨rs,r⟩;unfold Mv;rw [dif_pos hx,h.uniq (Classical.choose_spec hx) r]
theorem Sb.seat {R:Nat->List V->List V->Prop} (h:Sb R):(T (Mv R)).OK:=
 ⟨fun f vs hf=>by
  cases hn:Mv R f vs with
  |none=>exact hn
  |some rs=>have h2:=h.isN (XB hn);exact absurd (hf.symm.trans h2) (by decide),fun f vs rs hn=>h.ok (XB hn),VF _,Tryz.mixed⟩
theorem alb:isN 283=true:=by kernel_rfl
theorem anl:isN 44=true:=by kernel_rfl
def R0 (f:Nat) (vs rs:List V):Prop:=
 (∃n:Int,(-3<=n/\n<=3)/\f=283/\vs=[.one (ci n),.one (ci 10)]/\rs=[.one (cs (ND n))])\/
 (∃ts:List Tm,((∀x∈ts,GA x)/\aJ ts<=90000)/\f=44/\vs=[.one (rows af ts)]/\rs=[.one (rows af (j6 [] ts))])
theorem Je {a b:C} {l m:List V} (h:V.one a::l=.one b::m):a=b/\l=m:=by simp only [E6,V.one.injEq] at h;exact h
theorem aaH {f:Nat} {vs rs rs':List V} (h:R0 f vs rs) (h':R0 f vs rs'):rs=rs':=by
 rcases h with ⟨n,_,hf,hv,rfl⟩|⟨ts,_,hf,hv,rfl⟩<;>subst hf<;>subst hv<;>
  rcases h' with ⟨n',_,hf,hv,rfl⟩|⟨ts',_,hf,hv,rfl⟩<;>try (cases hf;done)
 ·have:=(Je hv).1
  simp only [ci,C.lit.injEq,Value.int.injEq,L7] at this;rw [this]
 ·rw [KQ (Je hv).1]
theorem ajo {f:Nat} {vs rs:List V} (h:R0 f vs rs):oq PP f vs rs:=by
 rcases h with ⟨n,hp,rfl,rfl,rfl⟩|⟨ts,hp,rfl,rfl,rfl⟩
 ·exact amE hp.1 hp.2
 ·exact aoJ hp.1 hp.2
theorem Lf {f:Nat} {vs rs:List V} (h:R0 f vs rs):f=283\/f=44:=by rcases h with ⟨_,_,rfl,_⟩|⟨_,_,rfl,_⟩<;>simp
theorem ad7:Sb R0:=⟨aaH,fun h=>by
  rcases Lf h with rfl|rfl
  ·exact alb
  ·exact anl,ajo⟩
theorem agr {R:Nat->List V->List V->Prop} (h:Sb R) (hs:∀{f vs rs},R0 f vs rs->R f vs rs):nS (Mv R):=
 ⟨h.at (hs (.inl ⟨0,by omega,rfl,rfl,rfl⟩)),h.at (hs (.inl ⟨1,by omega,rfl,rfl,rfl⟩))⟩
end Go.Ey.Pr
