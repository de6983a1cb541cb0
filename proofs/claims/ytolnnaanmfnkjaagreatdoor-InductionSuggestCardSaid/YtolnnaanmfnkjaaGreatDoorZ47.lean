import Derived.Test.YtolnnaanmfnkjaaGreatDoorZ35
set_option linter.all false
set_option maxHeartbeats 0
set_option maxRecDepth 100000
namespace Go.Ey.Pr
open Seat RowKit Proofs
section
variable {nat:Nat->List V->Option (List V)}
theorem aor (ks:List Cs) (bs:List Bool) (dI:List aI) (u:Tm) (f:Fd) (hf:f.OK) (hmd:dI.length < 100000) (p:Nat) (x:Dj) (h1:x.s.length<=p) (h2:x.vars.length<=p) (h3:x.jb.length<=p) (h4:x.fJ.length<=p) (hpr:p < f.ps.length) (hpb:p < bs.length) (hpt:p < (ai u).length) (hbb:bs[p]=true) (hv:isVar (ai u)[p]=true) (hi:gm x.vars (aN (ai u)[p])=true):
  bR (T nat).G 45 0 (st0 ks bs dI p u f x)=some (dS,[]):=by
 have hps:=hf.ps;have hlt:((p:Int) < (f.ps.length:Int)):=by omega
 have hs':=bn p (by omega)
 have e2:ak (eF f) 2=rows bP f.ps:=rfl;have e10:=gI u;have hr:fI 2 (rows bP f.ps) (ci p)=some [cs f.ps[p].1,cs f.ps[p].2]:=oK hpr;have hrt:=jd hpt;have hrb:=CR hpb;have A7:=BN f.ps[p] (ai u)[p];have A8:=Es (acc:=x.s) (x:=⟨f.ps[p],(ai u)[p]⟩) (by omega)
 have DN:=Aw (ai u)[p];have IU:=R4 (nat:=nat) x.vars (by omega) (ai u)[p]
 have Bg:=x65 (nat:=nat) dI hmd f.ps[p];simp only [bP] at Bg;have hl2:=Ez (ai u)[p];have uy:=ku (ai u)[p];have M4:=rF (acc:=x.vars) (x:=aN (ai u)[p]) (by omega)
 have TE:=rF (acc:=x.jb) (x:=aN (ai u)[p]) (by omega)
 have Fv:=BB (acc:=x.fJ) (x:=(ai u)[p]) (by omega)
 rw [hbb] at hrb;rw [hv] at DN;rw [hi] at IU;simp only [st0];rw [Cb _ rfl];simp (config := { maxSteps := 20000000 }) [-Int.natCast_add,C9,zZ,hlt,e2,eH,e10,hr,hrt,hrb,A7,A8,DN,IU,dS,aU hf,af]
end
section
variable {nat:Nat->List V->Option (List V)}
theorem aqh (ks:List Cs) (bs:List Bool) (dI:List aI) (u:Tm) (f:Fd) (hf:f.OK) (hmd:dI.length < 100000) (p:Nat) (x:Dj) (h1:x.s.length<=p) (h2:x.vars.length<=p) (h3:x.jb.length<=p) (h4:x.fJ.length<=p) (hpr:p < f.ps.length) (hpb:p < bs.length) (hpt:p < (ai u).length) (hbb:bs[p]=false) (hm:gm dI f.ps[p]=false):
  bR (T nat).G 45 0 (st0 ks bs dI p u f x)=bR (T nat).G 45 0 (st0 ks bs dI (p+1) u f ⟨x.s++[⟨f.ps[p],(ai u)[p]⟩],x.vars,x.jb,x.fJ++[(ai u)[p]]⟩):=by
 have hps:=hf.ps;have hlt:((p:Int) < (f.ps.length:Int)):=by omega
 have hs':=bn p (by omega)
 have e2:ak (eF f) 2=rows bP f.ps:=rfl;have e10:=gI u;have hr:fI 2 (rows bP f.ps) (ci p)=some [cs f.ps[p].1,cs f.ps[p].2]:=oK hpr;have hrt:=jd hpt;have hrb:=CR hpb;have A7:=BN f.ps[p] (ai u)[p];have A8:=Es (acc:=x.s) (x:=⟨f.ps[p],(ai u)[p]⟩) (by omega)
 have DN:=Aw (ai u)[p];have IU:=R4 (nat:=nat) x.vars (by omega) (ai u)[p]
 have Bg:=x65 (nat:=nat) dI hmd f.ps[p];simp only [bP] at Bg;have hl2:=Ez (ai u)[p];have uy:=ku (ai u)[p];have M4:=rF (acc:=x.vars) (x:=aN (ai u)[p]) (by omega)
 have TE:=rF (acc:=x.jb) (x:=aN (ai u)[p]) (by omega)
 have Fv:=BB (acc:=x.fJ) (x:=(ai u)[p]) (by omega)
 rw [hbb] at hrb;rw [hm] at Bg;simp only [st0];rw [Cb _ rfl];simp (config := { maxSteps := 20000000 }) [-Int.natCast_add,C9,zZ,hlt,e2,eH,e10,hr,hrt,hrb,A7,A8,Bg,hs',uy,Fv,aU hf,af]
end
section
variable {nat:Nat->List V->Option (List V)}
theorem apf (ks:List Cs) (bs:List Bool) (dI:List aI) (u:Tm) (f:Fd) (hf:f.OK) (hmd:dI.length < 100000) (p:Nat) (x:Dj) (h1:x.s.length<=p) (h2:x.vars.length<=p) (h3:x.jb.length<=p) (h4:x.fJ.length<=p) (hpr:p < f.ps.length) (hpb:p < bs.length) (hpt:p < (ai u).length) (hbb:bs[p]=false) (hm:gm dI f.ps[p]=true) (hv:isVar (ai u)[p]=false):
  bR (T nat).G 45 0 (st0 ks bs dI p u f x)=some (dS,[]):=by
 have hps:=hf.ps;have hlt:((p:Int) < (f.ps.length:Int)):=by omega
 have hs':=bn p (by omega)
 have e2:ak (eF f) 2=rows bP f.ps:=rfl;have e10:=gI u;have hr:fI 2 (rows bP f.ps) (ci p)=some [cs f.ps[p].1,cs f.ps[p].2]:=oK hpr;have hrt:=jd hpt;have hrb:=CR hpb;have A7:=BN f.ps[p] (ai u)[p];have A8:=Es (acc:=x.s) (x:=⟨f.ps[p],(ai u)[p]⟩) (by omega)
 have DN:=Aw (ai u)[p];have IU:=R4 (nat:=nat) x.vars (by omega) (ai u)[p]
 have Bg:=x65 (nat:=nat) dI hmd f.ps[p];simp only [bP] at Bg;have hl2:=Ez (ai u)[p];have uy:=ku (ai u)[p];have M4:=rF (acc:=x.vars) (x:=aN (ai u)[p]) (by omega)
 have TE:=rF (acc:=x.jb) (x:=aN (ai u)[p]) (by omega)
 have Fv:=BB (acc:=x.fJ) (x:=(ai u)[p]) (by omega)
 rw [hbb] at hrb;rw [hv] at DN;rw [hm] at Bg;simp only [st0];rw [Cb _ rfl];simp (config := { maxSteps := 20000000 }) [-Int.natCast_add,C9,zZ,hlt,e2,eH,e10,hr,hrt,hrb,A7,A8,Bg,DN,dS,aU hf,af]
end
section
variable {nat:Nat->List V->Option (List V)}
theorem aql (ks:List Cs) (bs:List Bool) (dI:List aI) (u:Tm) (f:Fd) (hf:f.OK) (hmd:dI.length < 100000) (p:Nat) (x:Dj) (h1:x.s.length<=p) (h2:x.vars.length<=p) (h3:x.jb.length<=p) (h4:x.fJ.length<=p) (hpr:p < f.ps.length) (hpb:p < bs.length) (hpt:p < (ai u).length) (hbb:bs[p]=false) (hm:gm dI f.ps[p]=true) (hv:isVar (ai u)[p]=true) (hi:gm x.vars (aN (ai u)[p])=true):
  bR (T nat).G 45 0 (st0 ks bs dI p u f x)=some (dS,[]):=by
 have hps:=hf.ps;have hlt:((p:Int) < (f.ps.length:Int)):=by omega
 have hs':=bn p (by omega)
 have e2:ak (eF f) 2=rows bP f.ps:=rfl;have e10:=gI u;have hr:fI 2 (rows bP f.ps) (ci p)=some [cs f.ps[p].1,cs f.ps[p].2]:=oK hpr;have hrt:=jd hpt;have hrb:=CR hpb;have A7:=BN f.ps[p] (ai u)[p];have A8:=Es (acc:=x.s) (x:=⟨f.ps[p],(ai u)[p]⟩) (by omega)
 have DN:=Aw (ai u)[p];have IU:=R4 (nat:=nat) x.vars (by omega) (ai u)[p]
 have Bg:=x65 (nat:=nat) dI hmd f.ps[p];simp only [bP] at Bg;have hl2:=Ez (ai u)[p];have uy:=ku (ai u)[p];have M4:=rF (acc:=x.vars) (x:=aN (ai u)[p]) (by omega)
 have TE:=rF (acc:=x.jb) (x:=aN (ai u)[p]) (by omega)
 have Fv:=BB (acc:=x.fJ) (x:=(ai u)[p]) (by omega)
 rw [hbb] at hrb;rw [hv] at DN;rw [hi] at IU;rw [hm] at Bg;simp only [st0];rw [Cb _ rfl];simp (config := { maxSteps := 20000000 }) [-Int.natCast_add,C9,zZ,hlt,e2,eH,e10,hr,hrt,hrb,A7,A8,Bg,DN,IU,dS,aU hf,af]
end
end Go.Ey.Pr
