/- A part. -/
import Derived.Test.YtolnnaanmfnkjaaGreatDoorY39
set_option linter.all false
set_option maxHeartbeats 4000000
namespace Go.Ey.Pr
open Go Go.Ey Go.Ey.Seat Go.RowKit Go.Proofs
section
variable {nat:Nat->List V->Option (List V)}
set_option maxRecDepth 100000 in
set_option maxHeartbeats 4000000 in
theorem anW (ks:List Cs) (bs:List Bool) (jE:List bq) (u:Tm) (f:Fd) (hf:f.OK) (hmd:jE.length < 100000) (p:Nat) (x:M9) (h1:x.s.length<=p) (h2:x.vars.length<=p) (h3:x.qb.length<=p) (h4:x.lu.length<=p) (hpr:p < f.ps.length) (hpb:p < bs.length) (hpt:p < (aN u).length) (hbb:bs[p]=true) (hv:isVar (aN u)[p]=true) (hi:kF x.vars (bZ (aN u)[p])=true):
  bn (T nat).G 45 0 (st0 ks bs jE p u f x)=some (bT,[]):=by
 have hps:=hf.ps;have hlt:((p:Int) < (f.ps.length:Int)):=by omega
 have hs':=ax p (by omega)
 have e2:au (j5 f) 2=rows bW f.ps:=rfl;have e10:=ng u;have hr:eZ 2 (rows bW f.ps) (ci p)=some [cs f.ps[p].1,cs f.ps[p].2]:=kC hpr;have hrt:=eH hpt;have hrb:=JY hpb;have om:=rJ f.ps[p] (aN u)[p];have ni:=AA (acc:=x.s) (x:=⟨f.ps[p],(aN u)[p]⟩) (by omega)
 have MU:=DF (aN u)[p];have IW:=SI (nat:=nat) x.vars (by omega) (aN u)[p]
 have BV:=x65 (nat:=nat) jE hmd f.ps[p];simp only [bW] at BV;have hl2:=G9 (aN u)[p];have Cb:=kR (aN u)[p];have WG:=qm (acc:=x.vars) (x:=bZ (aN u)[p]) (by omega)
 have Yw:=qm (acc:=x.qb) (x:=bZ (aN u)[p]) (by omega)
 have NU:=D8 (acc:=x.lu) (x:=(aN u)[p]) (by omega)
 rw [hbb] at hrb;rw [hv] at MU;rw [hi] at IW;simp only [st0];rw [Db _ rfl];simp (config := { maxSteps := 20000000 }) [-Int.natCast_add,Eb,zZ,hlt,e2,fo,e10,hr,hrt,hrb,om,ni,MU,IW,bT,dh hf,ah]
end
end Go.Ey.Pr
set_option maxHeartbeats 4000000
namespace Go.Ey.Pr
open Go Go.Ey Go.Ey.Seat Go.RowKit Go.Proofs
section
variable {nat:Nat->List V->Option (List V)}
set_option maxRecDepth 100000 in
set_option maxHeartbeats 4000000 in
theorem apc (ks:List Cs) (bs:List Bool) (jE:List bq) (u:Tm) (f:Fd) (hf:f.OK) (hmd:jE.length < 100000) (p:Nat) (x:M9) (h1:x.s.length<=p) (h2:x.vars.length<=p) (h3:x.qb.length<=p) (h4:x.lu.length<=p) (hpr:p < f.ps.length) (hpb:p < bs.length) (hpt:p < (aN u).length) (hbb:bs[p]=false) (hm:kF jE f.ps[p]=false):
  bn (T nat).G 45 0 (st0 ks bs jE p u f x)=bn (T nat).G 45 0 (st0 ks bs jE (p+1) u f ⟨x.s++[⟨f.ps[p],(aN u)[p]⟩],x.vars,x.qb,x.lu++[(aN u)[p]]⟩):=by
 have hps:=hf.ps;have hlt:((p:Int) < (f.ps.length:Int)):=by omega
 have hs':=ax p (by omega)
 have e2:au (j5 f) 2=rows bW f.ps:=rfl;have e10:=ng u;have hr:eZ 2 (rows bW f.ps) (ci p)=some [cs f.ps[p].1,cs f.ps[p].2]:=kC hpr;have hrt:=eH hpt;have hrb:=JY hpb;have om:=rJ f.ps[p] (aN u)[p];have ni:=AA (acc:=x.s) (x:=⟨f.ps[p],(aN u)[p]⟩) (by omega)
 have MU:=DF (aN u)[p];have IW:=SI (nat:=nat) x.vars (by omega) (aN u)[p]
 have BV:=x65 (nat:=nat) jE hmd f.ps[p];simp only [bW] at BV;have hl2:=G9 (aN u)[p];have Cb:=kR (aN u)[p];have WG:=qm (acc:=x.vars) (x:=bZ (aN u)[p]) (by omega)
 have Yw:=qm (acc:=x.qb) (x:=bZ (aN u)[p]) (by omega)
 have NU:=D8 (acc:=x.lu) (x:=(aN u)[p]) (by omega)
 rw [hbb] at hrb;rw [hm] at BV;simp only [st0];rw [Db _ rfl];simp (config := { maxSteps := 20000000 }) [-Int.natCast_add,Eb,zZ,hlt,e2,fo,e10,hr,hrt,hrb,om,ni,BV,hs',Cb,NU,dh hf,ah]
end
end Go.Ey.Pr
set_option maxHeartbeats 4000000
namespace Go.Ey.Pr
open Go Go.Ey Go.Ey.Seat Go.RowKit Go.Proofs
section
variable {nat:Nat->List V->Option (List V)}
set_option maxRecDepth 100000 in
set_option maxHeartbeats 4000000 in
theorem aof (ks:List Cs) (bs:List Bool) (jE:List bq) (u:Tm) (f:Fd) (hf:f.OK) (mt:Tm) (hm:f.ms=af mt) (hmn:av mt<=3000) (x:M9) (hs:x.s.length < 100000) (ho:∀t∈x.lu,av t<=3000) (hos:aJ x.lu<=60000) (hc:x.qb.length < 100000) (hq:jS x.qb (iw 1 [] x.lu)=true):
  bn (T nat).G 45 0 (st0 ks bs jE f.ps.length u f x)=some (bT,[]):=by
 have hlt:¬((f.ps.length:Int) < (f.ps.length:Int)):=by omega
 have e2:au (j5 f) 2=rows bW f.ps:=rfl;have h90:=x90 (nat:=nat) 3000 x.lu ho (by omega) hos
 have hcl:=wm x.lu hos;have Y3:=x59 (nat:=nat) x.qb (iw 1 [] x.lu) hc hcl;have h77:=x77 (nat:=nat) x.s hs 3000 mt hmn (by omega)
 have em:=msF hf;rw [hm] at em;have ek:rows aQ []=cz:=rfl;rw [hq] at Y3;simp only [st0];rw [Db _ rfl];simp (config := { maxSteps := 20000000 }) [-Int.natCast_add,Eb,zZ,hlt,e2,fo,h90,Y3,bT,dh hf,ah]
end
end Go.Ey.Pr
set_option maxHeartbeats 4000000
namespace Go.Ey.Pr
open Go Go.Ey Go.Ey.Seat Go.RowKit Go.Proofs
theorem oM (l:List bq) (p:bq):Xt l p=kF l p:=by rw [Hx,JX,BC]
theorem aa0:∀(ts:List Tm) (t:Tm),inT ts t=ts.any fun u=>jb u t
 |[],t=>rfl
 |u::ts,t=>by rw [inT,List.any_cons,aa0 ts t]
theorem BN (a b:bq):decide (a=b)=jY a b:=by rw [Hx,F1,IV]
section
variable {nat:Nat->List V->Option (List V)}
structure iK (x:Cs):Prop where
 tl:x.tests.length < 100000
 sl:x.subs.length < 100000
 ok:∀s∈x.subs,s.length < 100000/\Ac s
 ts:Al x.tests
theorem Gp (x y:Cs):covers x y=((y.tests.all (inT x.tests)) && y.subs.all fun s=>x.subs.any fun r=>ext r s):=by rw [covers,show inT x.tests=fun t=>x.tests.any fun u=>jb u t from funext fun t=>aa0 _ _]
structure kU (c:bH):Prop where
 ca:c.calls.length < 100000
 ch:c.changed.length < 100000
 fx:c.fixed.length < 100000
 kl:c.cases.length < 100000
 ks:∀x∈c.cases,iK x
theorem ak (c:bH):(aj c).length=16:=by simp [aj,ah]
theorem dU (c:bH):au (aj c) 1=rows bW c.changed:=rfl
theorem fu (c:bH):au (aj c) 2=rows bW c.fixed:=rfl
theorem Lm (c:bH):au (aj c) 0=rows af c.calls:=rfl
theorem bX (c:bH):au (aj c) 14=rows aQ c.cases:=by
 unfold aj;generalize hb:af c.measure=bd;have h:=ah c.measure;rw [hb] at h
 match bd,h with
 |[_,_,_,_,_,_,_,_,_,_,_],_=>rfl
theorem BI (c:bH):au (aj c) 15=ci c.score:=by
 unfold aj;generalize hb:af c.measure=bd;have h:=ah c.measure;rw [hb] at h
 match bd,h with
 |[_,_,_,_,_,_,_,_,_,_,_],_=>rfl
end
end Go.Ey.Pr
