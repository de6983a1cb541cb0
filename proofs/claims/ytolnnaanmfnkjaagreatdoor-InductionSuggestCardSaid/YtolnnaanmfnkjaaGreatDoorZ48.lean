import Derived.Test.YtolnnaanmfnkjaaGreatDoorZ36
set_option linter.all false
set_option maxHeartbeats 0
set_option maxRecDepth 100000
namespace Go.Ey.Pr
open Seat RowKit Proofs
section
variable {nat:Nat->List V->Option (List V)}
theorem aoS (ks:List Cs) (bs:List Bool) (dI:List aI) (u:Tm) (f:Fd) (hf:f.OK) (hmd:dI.length < 100000) (p:Nat) (x:Dj) (h1:x.s.length<=p) (h2:x.vars.length<=p) (h3:x.jb.length<=p) (h4:x.fJ.length<=p) (hpr:p < f.ps.length) (hpb:p < bs.length) (hpt:p < (ai u).length) (hbb:bs[p]=true) (hv:isVar (ai u)[p]=false):
  bR (T nat).G 45 0 (st0 ks bs dI p u f x)=some (dS,[]):=by
 have hps:=hf.ps;have hlt:((p:Int) < (f.ps.length:Int)):=by omega
 have hs':=bn p (by omega)
 have e2:ak (eF f) 2=rows bP f.ps:=rfl;have e10:=gI u;have hr:fI 2 (rows bP f.ps) (ci p)=some [cs f.ps[p].1,cs f.ps[p].2]:=oK hpr;have hrt:=jd hpt;have hrb:=CR hpb;have A7:=BN f.ps[p] (ai u)[p];have A8:=Es (acc:=x.s) (x:=⟨f.ps[p],(ai u)[p]⟩) (by omega)
 have DN:=Aw (ai u)[p];have IU:=R4 (nat:=nat) x.vars (by omega) (ai u)[p]
 have Bg:=x65 (nat:=nat) dI hmd f.ps[p];simp only [bP] at Bg;have hl2:=Ez (ai u)[p];have uy:=ku (ai u)[p];have M4:=rF (acc:=x.vars) (x:=aN (ai u)[p]) (by omega)
 have TE:=rF (acc:=x.jb) (x:=aN (ai u)[p]) (by omega)
 have Fv:=BB (acc:=x.fJ) (x:=(ai u)[p]) (by omega)
 rw [hbb] at hrb;rw [hv] at DN;simp only [st0];rw [Cb _ rfl];simp (config := { maxSteps := 20000000 }) [-Int.natCast_add,C9,zZ,hlt,e2,eH,e10,hr,hrt,hrb,A7,A8,DN,dS,aU hf,af]
end
section
variable {nat:Nat->List V->Option (List V)}
theorem aob (ks:List Cs) (bs:List Bool) (dI:List aI) (u:Tm) (f:Fd) (hf:f.OK) (hmd:dI.length < 100000) (p:Nat) (x:Dj) (h1:x.s.length<=p) (h2:x.vars.length<=p) (h3:x.jb.length<=p) (h4:x.fJ.length<=p) (hpr:p < f.ps.length) (hpb:p < bs.length) (hpt:p < (ai u).length) (hbb:bs[p]=true) (hv:isVar (ai u)[p]=true) (hi:gm x.vars (aN (ai u)[p])=false):
  bR (T nat).G 45 0 (st0 ks bs dI p u f x)=bR (T nat).G 45 0 (st0 ks bs dI (p+1) u f ⟨x.s++[⟨f.ps[p],(ai u)[p]⟩],x.vars++[aN (ai u)[p]],x.jb++[aN (ai u)[p]],x.fJ⟩):=by
 have hps:=hf.ps;have hlt:((p:Int) < (f.ps.length:Int)):=by omega
 have hs':=bn p (by omega)
 have e2:ak (eF f) 2=rows bP f.ps:=rfl;have e10:=gI u;have hr:fI 2 (rows bP f.ps) (ci p)=some [cs f.ps[p].1,cs f.ps[p].2]:=oK hpr;have hrt:=jd hpt;have hrb:=CR hpb;have A7:=BN f.ps[p] (ai u)[p];have A8:=Es (acc:=x.s) (x:=⟨f.ps[p],(ai u)[p]⟩) (by omega)
 have DN:=Aw (ai u)[p];have IU:=R4 (nat:=nat) x.vars (by omega) (ai u)[p]
 have Bg:=x65 (nat:=nat) dI hmd f.ps[p];simp only [bP] at Bg;have hl2:=Ez (ai u)[p];have uy:=ku (ai u)[p];have M4:=rF (acc:=x.vars) (x:=aN (ai u)[p]) (by omega)
 have TE:=rF (acc:=x.jb) (x:=aN (ai u)[p]) (by omega)
 have Fv:=BB (acc:=x.fJ) (x:=(ai u)[p]) (by omega)
 rw [hbb] at hrb;rw [hv] at DN;rw [hi] at IU;simp only [st0];rw [Cb _ rfl];simp (config := { maxSteps := 20000000 }) [-Int.natCast_add,C9,zZ,hlt,e2,eH,e10,hr,hrt,hrb,A7,A8,DN,IU,hs',hl2,M4,TE,aU hf,af]
end
section
variable {nat:Nat->List V->Option (List V)}
theorem aoY (ks:List Cs) (bs:List Bool) (dI:List aI) (u:Tm) (f:Fd) (hf:f.OK) (hmd:dI.length < 100000) (p:Nat) (x:Dj) (h1:x.s.length<=p) (h2:x.vars.length<=p) (h3:x.jb.length<=p) (h4:x.fJ.length<=p) (hpr:p < f.ps.length) (hpb:p < bs.length) (hpt:p < (ai u).length) (hbb:bs[p]=false) (hm:gm dI f.ps[p]=true) (hv:isVar (ai u)[p]=true) (hi:gm x.vars (aN (ai u)[p])=false):
  bR (T nat).G 45 0 (st0 ks bs dI p u f x)=bR (T nat).G 45 0 (st0 ks bs dI (p+1) u f ⟨x.s++[⟨f.ps[p],(ai u)[p]⟩],x.vars++[aN (ai u)[p]],x.jb,x.fJ++[(ai u)[p]]⟩):=by
 have hps:=hf.ps;have hlt:((p:Int) < (f.ps.length:Int)):=by omega
 have hs':=bn p (by omega)
 have e2:ak (eF f) 2=rows bP f.ps:=rfl;have e10:=gI u;have hr:fI 2 (rows bP f.ps) (ci p)=some [cs f.ps[p].1,cs f.ps[p].2]:=oK hpr;have hrt:=jd hpt;have hrb:=CR hpb;have A7:=BN f.ps[p] (ai u)[p];have A8:=Es (acc:=x.s) (x:=⟨f.ps[p],(ai u)[p]⟩) (by omega)
 have DN:=Aw (ai u)[p];have IU:=R4 (nat:=nat) x.vars (by omega) (ai u)[p]
 have Bg:=x65 (nat:=nat) dI hmd f.ps[p];simp only [bP] at Bg;have hl2:=Ez (ai u)[p];have uy:=ku (ai u)[p];have M4:=rF (acc:=x.vars) (x:=aN (ai u)[p]) (by omega)
 have TE:=rF (acc:=x.jb) (x:=aN (ai u)[p]) (by omega)
 have Fv:=BB (acc:=x.fJ) (x:=(ai u)[p]) (by omega)
 rw [hbb] at hrb;rw [hv] at DN;rw [hi] at IU;rw [hm] at Bg;simp only [st0];rw [Cb _ rfl];simp (config := { maxSteps := 20000000 }) [-Int.natCast_add,C9,zZ,hlt,e2,eH,e10,hr,hrt,hrb,A7,A8,Bg,DN,IU,hs',hl2,M4,uy,Fv,aU hf,af]
end
section
variable {nat:Nat->List V->Option (List V)}
theorem an0 (ks:List Cs) (bs:List Bool) (dI:List aI) (u:Tm) (f:Fd) (hf:f.OK) (mt:Tm) (hm:f.ms=aa mt) (hmn:ah mt<=3000) (x:Dj) (hs:x.s.length < 100000) (ho:∀t∈x.fJ,ah t<=3000) (hos:au x.fJ<=60000) (hc:x.jb.length < 100000) (hq:je x.jb (bT 1 [] x.fJ)=true):
  bR (T nat).G 45 0 (st0 ks bs dI f.ps.length u f x)=some (dS,[]):=by
 have hlt:¬((f.ps.length:Int) < (f.ps.length:Int)):=by omega
 have e2:ak (eF f) 2=rows bP f.ps:=rfl;have h90:=x90 (nat:=nat) 3000 x.fJ ho (by omega) hos
 have hcl:=jr x.fJ hos;have h59:=x59 (nat:=nat) x.jb (bT 1 [] x.fJ) hc hcl;have h77:=x77 (nat:=nat) x.s hs 3000 mt hmn (by omega)
 have em:=msF hf;rw [hm] at em;have ek:rows dh []=cz:=rfl;rw [hq] at h59;simp only [st0];rw [Cb _ rfl];simp (config := { maxSteps := 20000000 }) [-Int.natCast_add,C9,zZ,hlt,e2,eH,h90,h59,dS,aU hf,af]
end
section
variable {nat:Nat->List V->Option (List V)}
theorem anP (ks:List Cs) (bs:List Bool) (dI:List aI) (u:Tm) (f:Fd) (hf:f.OK) (mt:Tm) (hm:f.ms=aa mt) (hmn:ah mt<=3000) (x:Dj) (hs:x.s.length < 100000) (ho:∀t∈x.fJ,ah t<=3000) (hos:au x.fJ<=60000) (hc:x.jb.length < 100000) (hq:je x.jb (bT 1 [] x.fJ)=false):
  bR (T nat).G 45 0 (st0 ks bs dI f.ps.length u f x)=bR (T nat).G 45 1 (st1 ⟨f,ks,bs,u,x.s,bT 1 [] x.fJ,x.jb,ig x.s mt⟩ 0 []):=by
 have hlt:¬((f.ps.length:Int) < (f.ps.length:Int)):=by omega
 have e2:ak (eF f) 2=rows bP f.ps:=rfl;have h90:=x90 (nat:=nat) 3000 x.fJ ho (by omega) hos
 have hcl:=jr x.fJ hos;have h59:=x59 (nat:=nat) x.jb (bT 1 [] x.fJ) hc hcl;have h77:=x77 (nat:=nat) x.s hs 3000 mt hmn (by omega)
 have em:=msF hf;rw [hm] at em;have ek:rows dh []=cz:=rfl;rw [hq] at h59;simp only [st0,st1];rw [Cb _ rfl];simp (config := { maxSteps := 20000000 }) [-Int.natCast_add,C9,zZ,hlt,e2,eH,h90,h59,em,h77,ek,aU hf,af]
end
end Go.Ey.Pr
