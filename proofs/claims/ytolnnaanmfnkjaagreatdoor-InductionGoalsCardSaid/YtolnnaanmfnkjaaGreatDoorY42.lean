/- A part. -/
import Derived.Test.YtolnnaanmfnkjaaGreatDoorY39
set_option linter.all false
set_option maxHeartbeats 4000000
namespace Go.Ey.Pr
open Go Go.Ey Go.Ey.Seat Go.RowKit Go.Proofs
section
variable {nat:Nat->List V->Option (List V)}
set_option maxRecDepth 100000 in
set_option maxHeartbeats 4000000 in
theorem anA (ks:List Cs) (bs:List Bool) (jE:List bq) (u:Tm) (f:Fd) (hf:f.OK) (hmd:jE.length < 100000) (p:Nat) (x:M9) (h1:x.s.length<=p) (h2:x.vars.length<=p) (h3:x.qb.length<=p) (h4:x.lu.length<=p) (hpr:p < f.ps.length) (hpb:p < bs.length) (hpt:p < (aN u).length) (hbb:bs[p]=false) (hm:kF jE f.ps[p]=true) (hv:isVar (aN u)[p]=false):
  bn (T nat).G 45 0 (st0 ks bs jE p u f x)=some (bT,[]):=by
 have hps:=hf.ps;have hlt:((p:Int) < (f.ps.length:Int)):=by omega
 have hs':=ax p (by omega)
 have e2:au (j5 f) 2=rows bW f.ps:=rfl;have e10:=ng u;have hr:eZ 2 (rows bW f.ps) (ci p)=some [cs f.ps[p].1,cs f.ps[p].2]:=kC hpr;have hrt:=eH hpt;have hrb:=JY hpb;have om:=rJ f.ps[p] (aN u)[p];have ni:=AA (acc:=x.s) (x:=⟨f.ps[p],(aN u)[p]⟩) (by omega)
 have MU:=DF (aN u)[p];have IW:=SI (nat:=nat) x.vars (by omega) (aN u)[p]
 have BV:=x65 (nat:=nat) jE hmd f.ps[p];simp only [bW] at BV;have hl2:=G9 (aN u)[p];have Cb:=kR (aN u)[p];have WG:=qm (acc:=x.vars) (x:=bZ (aN u)[p]) (by omega)
 have Yw:=qm (acc:=x.qb) (x:=bZ (aN u)[p]) (by omega)
 have NU:=D8 (acc:=x.lu) (x:=(aN u)[p]) (by omega)
 rw [hbb] at hrb;rw [hv] at MU;rw [hm] at BV;simp only [st0];rw [Db _ rfl];simp (config := { maxSteps := 20000000 }) [-Int.natCast_add,Eb,zZ,hlt,e2,fo,e10,hr,hrt,hrb,om,ni,BV,MU,bT,dh hf,ah]
end
end Go.Ey.Pr
set_option maxHeartbeats 4000000
namespace Go.Ey.Pr
open Go Go.Ey Go.Ey.Seat Go.RowKit Go.Proofs
section
variable {nat:Nat->List V->Option (List V)}
set_option maxRecDepth 100000 in
set_option maxHeartbeats 4000000 in
theorem anm (ks:List Cs) (bs:List Bool) (jE:List bq) (u:Tm) (f:Fd) (hf:f.OK) (mt:Tm) (hm:f.ms=af mt) (hmn:av mt<=3000) (x:M9) (hs:x.s.length < 100000) (ho:∀t∈x.lu,av t<=3000) (hos:aJ x.lu<=60000) (hc:x.qb.length < 100000) (hq:jS x.qb (iw 1 [] x.lu)=false):
  bn (T nat).G 45 0 (st0 ks bs jE f.ps.length u f x)=bn (T nat).G 45 1 (st1 ⟨f,ks,bs,u,x.s,iw 1 [] x.lu,x.qb,iY x.s mt⟩ 0 []):=by
 have hlt:¬((f.ps.length:Int) < (f.ps.length:Int)):=by omega
 have e2:au (j5 f) 2=rows bW f.ps:=rfl;have h90:=x90 (nat:=nat) 3000 x.lu ho (by omega) hos
 have hcl:=wm x.lu hos;have Y3:=x59 (nat:=nat) x.qb (iw 1 [] x.lu) hc hcl;have h77:=x77 (nat:=nat) x.s hs 3000 mt hmn (by omega)
 have em:=msF hf;rw [hm] at em;have ek:rows aQ []=cz:=rfl;rw [hq] at Y3;simp only [st0,st1];rw [Db _ rfl];simp (config := { maxSteps := 20000000 }) [-Int.natCast_add,Eb,zZ,hlt,e2,fo,h90,Y3,em,h77,ek,dh hf,ah]
end
end Go.Ey.Pr
