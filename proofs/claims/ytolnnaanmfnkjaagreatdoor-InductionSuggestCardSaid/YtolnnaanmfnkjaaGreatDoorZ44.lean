import Derived.Test.YtolnnaanmfnkjaaGreatDoorZ43
set_option linter.all false
set_option maxHeartbeats 0
set_option maxRecDepth 100000
noncomputable section
namespace Go.Ey.Pr
open Seat
section
variable {nat:Nat->List V->Option (List V)}
def ajf (nat:Nat->List V->Option (List V)) (bs:List UInt8) (cw:C) (d:Nat):Prop:=
 ∀pos,pos<=bs.length->∃(t:Tm) (pos':Nat),bq (T nat).G 39 [.ref 0 0,.v (.one cw),.v (.one (ci d))] [bx bs pos]=some ([.agg (aa t)],[bx bs pos'])/\DT (QT d) t/\pos'<=bs.length
theorem Rv (bs:List UInt8) (cw:C) (d:Nat) (hd:d < 100) (ih:ajf nat bs cw d) (p s:ByteArray) (n:Nat) (hn:n<=3):∀(m i:Nat) (acc:List Tm) (pos:Nat),i+m=n->acc.length=i->(∀x∈acc,DT (QT d) x)->pos<=bs.length->
  ∃(l:List Tm) (pos':Nat),bR (T nat).G 39 0 [.c cw,.c (ci ((d+1:Nat):Int)),.c (ci n),.c (ci i),.l (bx bs pos),.c (ci 0),.c ce,.c ce,.c (ci 0),.c ce,.c ce,.c ce,.c ce,.c ce,.c cz,.c cz,.l [cs p,cs s],.c (rows aa acc)]=some ([.agg (aa (.app p s l))],[bx bs pos'])/\l.length=n/\(∀x∈l,DT (QT d) x)/\pos'<=bs.length
 |0,i,acc,pos,hi,hc,ha,hp=>by
  have hlt:¬((i:Int) < (n:Int)):=by omega
  refine ⟨acc,pos,?_,by omega,ha,hp⟩
  rw [aF AA (t:=aeZ[0]) rfl];simp [aeZ,zZ,hlt,x54,zg,af]
 |m+1,i,acc,pos,hi,hc,ha,hp=>by
  have hlt:((i:Int) < (n:Int)):=by omega
  obtain ⟨t,pos1,h1,h2,h3⟩:=ih pos hp;obtain ⟨l,pos2,g1,g2,g3,g4⟩:=Rv bs cw d hd ih p s n hn m (i+1) (acc++[t]) pos1 (by omega) (by simp [hc]) (fun x hx=>by
   rcases B0.1 hx with h|h
   ·exact ha x h
   ·simp only [B8] at h;subst h;exact h2) h3
  refine ⟨l,pos2,?_,g2,g3,g4⟩;have hs:bW .sub false (ci ((d+1:Nat):Int)) (ci 1)=some (ci (d:Int)):=by
   rw [nQ (by omega) (by omega)]
   exact E6 (fun x=>some (ci x)) (by omega)
  have hap:=BB (acc:=acc) (x:=t) (by omega)
  have hs2:=bn i (by omega)
  rw [aF AA (t:=aeZ[0]) rfl];simp [-Int.natCast_add,aeZ,zZ,hlt,hs,h1,ku,hap,hs2,g1,zg,af]
theorem X9 {o:Ob} {d:Nat} (h:Dr 1 o):DT (QT d) (.dV o):=ala h.1 (E1 h.2.1 (XX d))
theorem amV {t:Tm} {d:Nat} (h:DT 1 t):DT (QT d) t:=h.mono (by have:=XX d;omega)
theorem ajM {p s:ByteArray} {l:List Tm} {d:Nat} (hs:(p,s)∈names) (hl:l.length<=3) (h:∀t∈l,DT (QT d) t):DT (QT (d+1)) (.app p s l):=by
 refine (amO hs hl h).mono ?_;have:=Cd (QT d) hl
 simp only [QT];omega
theorem x39 (na:kN nat) (hi:qd nat) {cw:C} (hw:RK D6 cw) (bs:List UInt8) (hb:bs.length<=80):∀d:Nat,d < 100->ajf nat bs cw d:=by
 intro d;induction d with
 |zero=>
  intro _ pos hp;obtain ⟨r,p1,h8,r0,r1,hp1⟩:=x38 (nat:=nat) bs pos hb hp 12 (by omega)
  obtain ⟨v,p2,hv,dv,hp2⟩:=x22 (nat:=nat) bs p1 hb hp1;obtain ⟨o,p3,ho,dro,hp3⟩:=x103 (nat:=nat) na bs hb 1 (by omega) p1 hp1
  have hd:((0:Nat):Int) < 1:=by omega
  by_cases h3:r < 3
  ·exact ⟨v,p2,anj rfl rfl rfl h3 h8 hv,amV dv,hp2⟩
  ·by_cases h4:r=3
   ·subst h4;exact ⟨.dV o,p3,aqx rfl rfl rfl h8 ho,X9 dro,hp3⟩
   ·have hm0:0<=r.tmod 4:=Int.tmod_nonneg _ (by omega)
    have hm1:r.tmod 4 < 4:=Int.tmod_lt_of_pos _ (by omega)
    by_cases h5:r.tmod 4 < 3
    ·exact ⟨v,p2,ast rfl rfl rfl hd (by omega) h5 h8 hv,amV dv,hp2⟩
    ·exact ⟨.dV o,p3,arA rfl rfl rfl hd (by omega) (by omega) h8 ho,X9 dro,hp3⟩
 |succ d ih=>
  intro hd' pos hp;have ih:=ih (by omega)
  obtain ⟨r,p1,h8,r0,r1,hp1⟩:=x38 (nat:=nat) bs pos hb hp 12 (by omega)
  have hd:¬((d+1:Nat):Int) < 1:=by omega
  by_cases h3:r < 3
  ·obtain ⟨v,p2,hv,dv,hp2⟩:=x22 (nat:=nat) bs p1 hb hp1;exact ⟨v,p2,anj rfl rfl rfl h3 h8 hv,amV dv,hp2⟩
  ·by_cases h4:r=3
   ·subst h4;obtain ⟨o,p3,ho,dro,hp3⟩:=x103 (nat:=nat) na bs hb 1 (by omega) p1 hp1
    exact ⟨.dV o,p3,aqx rfl rfl rfl h8 ho,X9 dro,hp3⟩
   ·obtain ⟨q,p2,Jh,q0,q1,hp2⟩:=x38 (nat:=nat) bs p1 hb hp1 4 (by omega)
    by_cases h5:q < 3
    ·obtain ⟨k,p3,h8b,k0,k1,hp3⟩:=x38 (nat:=nat) bs p2 hb hp2 (heads.length:Nat) (by decide)
     obtain ⟨k,rfl⟩:=Int.eq_ofNat_of_zero_le k0;have hk:k < heads.length:=by omega
     obtain ⟨n,x,hn,ha⟩:=f78 hi hw (D0.1 ab0 heads[k] (By hk));have e:=asH rfl rfl rfl rfl x104 x105 hd (by omega) h5 hk h8 Jh h8b ha
     obtain ⟨l,p4,g1,g2,g3,g4⟩:=Rv bs cw d (by omega) ih dw heads[k] n hn n 0 [] p3 (by omega) rfl (fun x hx=>by cases hx) hp3
     exact ⟨_,p4,e.trans g1,ajM (agG (By hk)) (by omega) g3,g4⟩
    ·obtain ⟨k,p3,h8b,k0,k1,hp3⟩:=x38 (nat:=nat) bs p2 hb hp2 (owns.length:Nat) (by decide)
     obtain ⟨k,rfl⟩:=Int.eq_ofNat_of_zero_le k0;have hk:k < owns.length:=by omega
     obtain ⟨n,x,hn,ha⟩:=f78 hi hw (D0.1 abu owns[k] (By hk));have e:=ase rfl rfl rfl rfl x104 x105 hd (by omega) h5 hk h8 Jh h8b ha
     obtain ⟨l,p4,g1,g2,g3,g4⟩:=Rv bs cw d (by omega) ih usr owns[k] n hn n 0 [] p3 (by omega) rfl (fun x hx=>by cases hx) hp3
     exact ⟨_,p4,e.trans g1,ajM (al2 (By hk)) (by omega) g3,g4⟩
end
end Go.Ey.Pr
end
