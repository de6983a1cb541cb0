/- A part. -/
import Derived.Test.YtolnnaanmfnkjaaGreatDoorY19
set_option linter.all false
namespace Go.Ey
structure U9 (b:Bs) (res:List Res) (rs:List RS) (boxes:List Nat) (r:R) (s:St):Prop where
 ex:∃ds,Ff s.env s.heap res=some ds/\gz (RsR s.heap b.k0) rs r.1 ds/\(qi rs ds).Nodup/\∀j∈qi rs ds,j < s.nx
 le:b.k0<=s.nx
 frame:∀j,j < b.k0->j ∉ b.bg->aH s.heap j=aH b.h0 j
 boxes:gz (Iz s.heap) boxes r.2 b.bg
section
variable {b:Bs} {ρ:List W} {μ:Nat->Option Nat} {σ:Sy} {s:St} {call:qM} {head:ug} {r:R}
theorem RA.ak5 {N:Nm} {sd:SD} {d:D} (hr:RD N sd d) (h1:∀q,sd≠.lC q) (h2:sd≠.uf):(∀q,d≠.lC q)/\RA N sd d:=by
 cases sd with
 |uf=>exact absurd rfl h2
 |lC q=>exact absurd rfl (h1 q)
 |a x=>refine ⟨fun q e=>?_,hr⟩;subst e;obtain ⟨c,_,h|⟨cs,n,_,h⟩⟩:=hr<;>cases h
 |full x=>refine ⟨fun q e=>?_,hr⟩;subst e;obtain ⟨cs,n,_,h⟩:=hr;cases h
 |loc i o=>refine ⟨fun q e=>?_,hr⟩;subst e;obtain ⟨_,j,_,h⟩:=hr;cases h
 |arr i=>refine ⟨fun q e=>?_,hr⟩;subst e;obtain ⟨_,⟨j,len,_,h,_⟩|⟨_,cs,n,h,_⟩⟩:=hr<;>cases h
 |view i x=>refine ⟨fun q e=>?_,hr⟩;subst e;obtain ⟨_,cs,len,_,h|⟨j,off,_,h,_⟩⟩:=hr<;>cases h
 |nY i x o=>refine ⟨fun q e=>?_,hr⟩;subst e;obtain ⟨_,kd,q,_,_,⟨j,o',_,h,_⟩|⟨_,cs,h,_⟩⟩:=hr<;>cases h
 |ptr r o e=>refine ⟨fun q e=>?_,hr⟩;subst e;obtain ⟨xs,rest,_,_,h⟩:=hr;cases h
 |fD f c=>refine ⟨fun q e=>?_,hr⟩;subst e;obtain ⟨c',h,_⟩:=hr;cases h
 |agg ds=>refine ⟨fun q e=>?_,hr⟩;subst e;obtain ⟨ds',h,_⟩:=hr;cases h
theorem M3 (hR:Rl b ρ μ σ s):∀{res:List Res} {jI:List SD},Xa σ res=some jI->∃ds,Ff s.env s.heap res=some ds/\aF (RA (nm ρ μ σ)) jI ds
 |[],jI,h=>by simp only [Xa,A0] at h;subst h;exact ⟨[],rfl,trivial⟩
 |.tmp t::res,jI,h=>by
  simp only [Xa,A1] at h;obtain ⟨asD,h1,h2⟩:=h;obtain ⟨ds,h3,h4⟩:=M3 hR h1;have hr:=hR.env t;have key:∀sd,Bn σ.env t=sd->(∀q,sd≠.lC q)->sd≠.uf->jI=sd::asD->∃ds,Ff s.env s.heap (.tmp t::res)=some ds/\aF (RA (nm ρ μ σ)) jI ds:=by intro sd e n1 n2 e2;rw [e] at hr;obtain ⟨q1,q2⟩:=RA.ak5 hr n1 n2;subst e2;refine ⟨iM s.env t::ds,?_,q2,h4⟩;simp only [Ff,h3,A2,A4]
  split at h2
  ·cases h2
  ·cases h2
  ·rename_i n1 n2;simp only [A0] at h2;exact key _ rfl (fun q e=>n1 q e) (fun e=>n2 e) h2.symm
 |.cell t agg size::res,jI,h=>by
  simp only [Xa] at h;have hr:=hR.env t;split at h
  case h_2=>cases h
  rename_i i off hs;rw [hs] at hr;obtain ⟨hi,j,g1,g2⟩:=hr;split at h
  case h_2=>cases h
  rename_i ds0 hg;obtain ⟨j',ds',b1,b2,b3⟩:=hR.mem.box (N:=nm ρ μ σ) hg;rw [g1] at b1;injection b1 with b1;subst b1
  split at h
  ·split at h
   case isFalse=>cases h
   rename_i hc;simp only [A1,A0] at h;obtain ⟨l,h1,rfl⟩:=h;obtain ⟨ds,h3,h4⟩:=M3 hR h1;refine ⟨.agg ((ds'.drop off).take size)::ds,?_,⟨_,rfl,(b3.drop off).take size⟩,h4⟩;simp only [Ff,g2,kG,b2,Ek,A2];rw [C4 (by rw [<-b3.len];exact hc)]
   simp [h3]
  ·simp only [A1,A0] at h;obtain ⟨d,h0,l,h1,rfl⟩:=h;obtain ⟨ds,h3,h4⟩:=M3 hR h1;obtain ⟨d',h5,h6⟩:=b3.get off h0;refine ⟨d'::ds,?_,h6.toA,h4⟩;simp only [Ff,g2,kG,b2,C2,Cd,h5,h3,A2,A4]
variable (hm:Rm b (nm ρ μ σ) s.heap s.nx σ.lens) (hbx:∀j∈b.bg,∃i ds,i < σ.nx/\μ i=some j/\dm σ.heap i=.box ds)
include hm hbx
theorem TJ {i j:Nat} (hi:i < σ.nx) (hj:μ i=some j) {x:At} {ay ety:Nat} {fr al:Bool} (hg:dm σ.heap i=.arr x ay ety fr al):b.k0<=j:=by
 rcases hm.base i j hi hj with h|h
 ·exact h
 ·obtain ⟨i',ds,h1,h2,h3⟩:=hbx j h;have:=hm.inj i i' j hi h1 hj h2
  subst this;rw [hg] at h3;cases h3
theorem aaN {ck:CK} {sd:SD} {d:D} (hr:uq (nm ρ μ σ) sd d) {x:At} {own:List Nat} (hc:DN σ.heap ck sd=some (x,own)):
  ∃c,dW ρ x=some c/\QS s.heap b.k0 ck c d/\mY (nm ρ μ σ) (DR ck d) own/\(DR ck d).Nodup:=by
 have MF:∀{ck:CK} {d:D},(∀a b c e,ck≠.own a b c e)->mY (nm ρ μ σ) (DR ck d) own/\(DR ck d).Nodup:=by intro ck d h;cases ck<;>first|exact ⟨mY.nil,Ix⟩|exact absurd rfl (h _ _ _ _)
 cases ck with
 |c=>
  cases sd with
  |a y=>
   simp only [DN,A0,A3] at hc;obtain ⟨rfl,rfl⟩:=hc;obtain ⟨c,h1,h2⟩:=hr;exact ⟨c,h1,.inl h2,MF (by simp)⟩
  |full y=>
   simp only [DN,A0,A3] at hc;obtain ⟨rfl,rfl⟩:=hc;obtain ⟨cs,n,h1,h2⟩:=hr;exact ⟨_,h1,.inl (.inr ⟨cs,n,rfl,h2⟩),MF (by simp)⟩
  |view i y=>
   simp only [DN] at hc;split at hc
   case h_2=>cases hc
   rename_i z e t fr al hg;simp only [A0,A3] at hc;obtain ⟨rfl,rfl⟩:=hc;obtain ⟨hi,cs,len,h1,hr⟩:=hr;refine ⟨_,h1,?_,MF (by simp)⟩
   rcases hr with rfl|⟨j,off,h2,rfl,h3⟩
   ·exact .inl (.inl rfl)
   ·obtain ⟨_,ys,n,h4,h5,h6⟩:=h3 _ _ _ _ _ hg;obtain ⟨ys',n',g1,g2,g3⟩:=hm.arr (N:=nm ρ μ σ) hg;rw [h4] at g1;injection g1 with g1;injection g1 with g1 g1';subst g1 g1'
    rcases g3 with ⟨j',fz,k1,k2,_⟩|⟨k1,_⟩
    ·rw [h2] at k1;injection k1 with k1;subst k1
     exact .inr ⟨j,off,len,ys,e,fz,t,rfl,TJ hm hbx hi h2 hg,k2,h5,by rw [h6]⟩
    ·rw [h2] at k1;cases k1
  |arr i=>
   simp only [DN] at hc;split at hc
   case h_2=>cases hc
   rename_i y e t fr al hg;simp only [A0,A3] at hc;obtain ⟨rfl,rfl⟩:=hc;obtain ⟨cs,n,g1,g2,g3⟩:=hm.arr (N:=nm ρ μ σ) hg;refine ⟨_,g1,?_,MF (by simp)⟩
   obtain ⟨hi,hr⟩:=hr;rcases hr with ⟨j,len,h1,rfl,h3⟩|⟨h1,cs',n',rfl,h3⟩
   ·obtain ⟨cs',h4⟩:=h3 _ _ _ _ _ hg;rw [g1] at h4;injection h4 with h4;injection h4 with h4 h5;subst h4 h5
    rcases g3 with ⟨j',fz,k1,k2,_⟩|⟨k1,_⟩
    ·rw [h1] at k1;injection k1 with k1;subst k1
     exact .inr ⟨j,0,n,cs,e,fz,t,rfl,TJ hm hbx hi h1 hg,k2,by omega,by rw [<-g2];simp⟩
    ·rw [h1] at k1;cases k1
   ·have h4:=h3 _ _ _ _ _ hg;rw [g1] at h4;injection h4 with h4;injection h4 with h4 h5;subst h4 h5
    exact .inl (.inr ⟨cs,n,rfl,rfl⟩)
  |_=>simp [DN] at hc
 |d=>
  cases sd with
  |a y=>
   simp only [DN,A0,A3] at hc;obtain ⟨rfl,rfl⟩:=hc;obtain ⟨c,h1,h2⟩:=hr;exact ⟨c,h1,h2,MF (by simp)⟩
  |full y=>
   simp only [DN,A0,A3] at hc;obtain ⟨rfl,rfl⟩:=hc;obtain ⟨cs,n,h1,h2⟩:=hr;exact ⟨_,h1,.inr ⟨cs,n,rfl,h2⟩,MF (by simp)⟩
  |_=>simp [DN] at hc
 |full=>
  cases sd with
  |full y=>
   simp only [DN,A0,A3] at hc;obtain ⟨rfl,rfl⟩:=hc;obtain ⟨cs,n,h1,h2⟩:=hr;exact ⟨_,h1,⟨cs,n,rfl,h2⟩,MF (by simp)⟩
  |_=>simp [DN] at hc
 |own ay ety fr al=>
  cases sd with
  |arr i=>
   simp only [DN] at hc;split at hc
   case h_2=>cases hc
   rename_i y e t fr' al' hg;split at hc
   case isFalse=>cases hc
   rename_i hcond;obtain ⟨rfl,rfl,c3,c4⟩:=hcond;simp only [A0,A3] at hc;obtain ⟨rfl,rfl⟩:=hc;obtain ⟨cs,n,g1,g2,g3⟩:=hm.arr (N:=nm ρ μ σ) hg;obtain ⟨hi,hr⟩:=hr;have hfr:fr=false->fr'=false:=fun h=>by cases fr' with|false=>rfl|true=>rw [c3 rfl] at h;cases h
   rcases hr with ⟨j,len,h1,rfl,h3⟩|⟨h1,cs',n',rfl,h3⟩
   ·obtain ⟨cs',h4⟩:=h3 _ _ _ _ _ hg;rw [g1] at h4;injection h4 with h4;injection h4 with h4 h5;subst h4 h5
    rcases g3 with ⟨j',fz,k1,k2,k3,k4,k5⟩|⟨k1,_⟩
    ·rw [h1] at k1;injection k1 with k1;subst k1
     refine ⟨_,g1,⟨cs,n,rfl,g2,.inl ⟨j,fz,rfl,TJ hm hbx hi h1 hg,k2,k3,k4,fun h=>k5 (hfr h)⟩⟩,?_,by simp [DR]⟩
     intro q hq;simp [DR] at hq;subst hq;exact ⟨i,by simp,hi,h1⟩
    ·rw [h1] at k1;cases k1
   ·have h4:=h3 _ _ _ _ _ hg;rw [g1] at h4;injection h4 with h4;injection h4 with h4 h5;subst h4 h5
    rcases g3 with ⟨j',fz,k1,_⟩|⟨k1,k2,k3⟩
    ·rw [h1] at k1;cases k1
    ·refine ⟨_,g1,⟨cs,n,rfl,g2,.inr ⟨rfl,?_,fun h=>k3 (hfr h)⟩⟩,mY.nil,Ix⟩
     cases al with
     |false=>rfl
     |true=>rw [c4 rfl] at k2;cases k2
  |full y=>
   cases al with
   |true=>cases y<;>simp [DN] at hc
   |false=>
    cases y with
    |z=>
     simp only [DN,A0,A3] at hc;obtain ⟨rfl,rfl⟩:=hc;obtain ⟨cs,n,h1,rfl⟩:=hr;simp only [dW,A0,C.slice.injEq] at h1;obtain ⟨rfl,rfl⟩:=h1;exact ⟨.slice [] 0,rfl,⟨[],0,rfl,by simp,.inr ⟨rfl,rfl,fun _=>⟨rfl,rfl⟩⟩⟩,mY.nil,Ix⟩
    |_=>simp [DN] at hc
  |_=>simp [DN] at hc
omit hbx in
theorem Rv {a c o1 o2:List Nat} (h1:mY (nm ρ μ σ) a o1) (h2:mY (nm ρ μ σ) c o2) (ha:a.Nodup) (hc:c.Nodup) (ho:(o1++o2).Nodup):(a++c).Nodup:=by
 refine Hs.2 ⟨ha,hc,fun j hj j' hj' e=>?_⟩
 subst e;obtain ⟨i,q1,q2,q3⟩:=h1 j hj;obtain ⟨i',p1,p2,p3⟩:=h2 j hj';have:=hm.inj i i' j q2 p2 q3 p3
 subst this;exact (Hs.1 ho).2.2 i q1 i p1 rfl
theorem Xj:∀{ks:List CK} {jI:List SD} {ds:List D},aF (uq (nm ρ μ σ)) jI ds->∀{xs:List At} {own:List Nat},Ns σ.heap ks jI=some (xs,own)->
  ∃cs,nI ρ xs=some cs/\gz (QS s.heap b.k0) ks cs ds/\mY (nm ρ μ σ) (CU ks ds) own/\(own.Nodup->(CU ks ds).Nodup)
 |[],[],[],_,xs,own,h=>by simp only [Ns,A0,A3] at h;obtain ⟨rfl,rfl⟩:=h;exact ⟨[],rfl,trivial,mY.nil,fun _=>Ix⟩
 |k::ks,sd::jI,d::ds,hr,xs,own,h=>by simp only [Ns,A1,A0,A3,C0] at h;obtain ⟨x,o1,h1,xs',o2,h2,rfl,rfl⟩:=h;obtain ⟨c,q1,q2,q3,q4⟩:=aaN hm hbx hr.1 h1;obtain ⟨cs,p1,p2,p3,p4⟩:=Xj hr.2 h2;exact ⟨c::cs,by simp [nI,q1,p1],⟨q2,p2⟩,q3.append p3,fun ho=>Rv hm q3 p3 q4 (p4 (Hs.1 ho).2.1) ho⟩
 |[],_::_,_,_,_,_,h=>by simp [Ns] at h
 |_::_,[],_,_,_,_,h=>by simp [Ns] at h
 |[],[],_::_,hr,_,_,_=>hr.elim
 |_::_,_::_,[],hr,_,_,_=>hr.elim
theorem aii {rs:RS} {sd:SD} {d:D} (hr:RA (nm ρ μ σ) sd d) {tv:TV} {own:List Nat} (h:adF σ.lens σ.heap rs sd=some (tv,own)):
  ∃v,Wn ρ tv=some v/\RsR s.heap b.k0 rs v d/\mY (nm ρ μ σ) (Yr rs d) own/\(own.Nodup->(Yr rs d).Nodup):=by
 cases rs with
 |one k=>
  simp only [adF,A1,A0,A3,C0] at h;obtain ⟨x,o1,h1,rfl,rfl⟩:=h;have hc:uq (nm ρ μ σ) sd d:=by
   cases sd with
   |agg ds=>cases k<;>simp [DN] at h1
   |_=>exact hr
  obtain ⟨c,q1,q2,q3,q4⟩:=aaN hm hbx hc h1;exact ⟨.one c,by simp [Wn,q1],q2,q3,fun _=>q4⟩
 |agg ks=>
  cases sd with
  |agg jI=>
   simp only [adF,A1,A0,A3,C0] at h;obtain ⟨xs,o1,h1,rfl,rfl⟩:=h;obtain ⟨ds,rfl,hr⟩:=hr;obtain ⟨cs,p1,p2,p3,p4⟩:=Xj hm hbx hr h1;have e:TF ρ (JZ σ.lens xs)=nI ρ xs:=Gb hm xs;exact ⟨.agg cs,by simp [Wn,e,p1],⟨ds,rfl,p2⟩,p3,p4⟩
  |_=>simp [adF] at h
theorem WO:∀{rs:List RS} {jI:List SD} {ds:List D},aF (RA (nm ρ μ σ)) jI ds->∀{tvs:List TV} {own:List Nat},PD σ.lens σ.heap rs jI=some (tvs,own)->
  ∃vs,Es ρ tvs=some vs/\gz (RsR s.heap b.k0) rs vs ds/\mY (nm ρ μ σ) (qi rs ds) own/\(own.Nodup->(qi rs ds).Nodup)
 |[],[],[],_,xs,own,h=>by simp only [PD,A0,A3] at h;obtain ⟨rfl,rfl⟩:=h;exact ⟨[],rfl,trivial,mY.nil,fun _=>Ix⟩
 |k::ks,sd::jI,d::ds,hr,xs,own,h=>by simp only [PD,A1,A0,A3,C0] at h;obtain ⟨x,o1,h1,xs',o2,h2,rfl,rfl⟩:=h;obtain ⟨c,q1,q2,q3,q4⟩:=aii hm hbx hr.1 h1;obtain ⟨cs,p1,p2,p3,p4⟩:=WO hr.2 h2;exact ⟨c::cs,by simp [Es,q1,p1],⟨q2,p2⟩,q3.append p3,fun ho=>Rv hm q3 p3 (q4 (Hs.1 ho).1) (p4 (Hs.1 ho).2.1) ho⟩
 |[],_::_,_,_,_,_,h=>by simp [PD] at h
 |_::_,[],_,_,_,_,h=>by simp [PD] at h
 |[],[],_::_,hr,_,_,_=>hr.elim
 |_::_,_::_,[],hr,_,_,_=>hr.elim
end
theorem XT {b:Bs} {ρ:List W} {μ:Nat->Option Nat} {σ:Sy} {s:St} (hR:Rl b ρ μ σ s):mM (nm ρ μ σ) (List.range b.bg.length) b.bg:=by
 have aux:∀(l:List Nat) (q:Nat),(∀p j,l[p]?=some j->q+p < σ.nx/\μ (q+p)=some j)->mM (nm ρ μ σ) ((List.range l.length).map (q+·)) l:=by
  intro l;induction l with
  |nil=>intro q _;trivial
  |cons a l ih=>
   intro q h;rw [Bm,List.range_succ_eq_map,Cp,List.map_map];refine ⟨h 0 a (by simp),?_⟩
   have:=ih (q+1) fun p j hp=>by
    have:=h (p+1) j (by simpa using hp)
    rw [show q+(p+1)=q+1+p by omega] at this
    exact this
   have e:((fun x=>q+x) ∘ Nat.succ)=(q+1+·):=by funext x;simp;omega
   rw [e];exact this
 have:=aux b.bg 0 fun p j hp=>by rw [E1];exact hR.bg p j hp
 simpa using this
theorem QH {b:Bs} {ρ:List W} {μ:Nat->Option Nat} {σ:Sy} {s:St} {call:qM} {head:ug} {r:R} {cx:Cx} (hR:Rl b ρ μ σ s) (hl:b.bg.length=cx.bl.length) (hd:aR call head (TH cx σ) ρ=some r):U9 b cx.res cx.rs cx.bl r s:=by
 unfold TH at hd;split at hd
 case h_2=>cases hd
 rename_i jI h1;split at hd
 case h_2=>cases hd
 rename_i tvs own h2;split at hd
 case h_2=>cases hd
 rename_i bs h3;split at hd
 case isFalse=>cases hd
 rename_i hn;have af6:=XT hR;rw [hl] at af6;obtain ⟨ds,q1,q2⟩:=M3 hR h1;have hbx:∀j∈b.bg,∃i ds,i < σ.nx/\μ i=some j/\dm σ.heap i=.box ds:=by intro j hj;obtain ⟨i,p1,p2,p3⟩:=mM.mem af6 j hj;obtain ⟨ds,p4⟩:=BG h3 i p1;exact ⟨i,ds,p2,p3,p4⟩
 obtain ⟨vs,r1,r2,r3,r4⟩:=WO hR.mem hbx q2 h2;obtain ⟨xss,c1,c2⟩:=Dy hR.mem af6 h3;simp only [aR,A1,A0] at hd;obtain ⟨vs',g1,xss',g2,rfl⟩:=hd;rw [r1] at g1;injection g1 with g1;subst g1
 rw [show FL ρ bs=_ from c1] at g2;injection g2 with g2;subst g2
 refine ⟨⟨ds,q1,r2,r4 (A8 hn),fun j hj=>?_⟩,hR.mem.le,hR.mem.frame,c2⟩
 obtain ⟨i,p1,p2,p3⟩:=r3 j hj;exact hR.mem.lt i j p2 p3
end Go.Ey
namespace Go.Ey
def EV (F:Fe) (c:jA) (s:St) (x:Ex) (s':St):Prop:=∃n,dn F n c s=some (x,s')
def Ez (F:Fe):List Fr->Ex->St->St->Prop
 |[],x,s,s'=>(x=.normal\/x=.ret)/\s'=s
 |.seq _ c::K,.normal,s,s'=>∃x1 s1,EV F c s x1 s1/\Ez F K x1 s1 s'
 |.seq _ _::K,x,s,s'=>Ez F K x s s'
 |.blk id::K,.exit id',s,s'=>if id'=id then Ez F K .normal s s' else Ez F K (.exit id') s s'
 |.blk _::K,x,s,s'=>Ez F K x s s'
 |.loop _ c::K,.normal,s,s'=>∃x1 s1,EV F (.loop c) s x1 s1/\Ez F K x1 s1 s'
 |.loop _ _::K,x,s,s'=>Ez F K x s s'
def WF (B:jA):List Fr->Prop
 |[]=>True
 |.seq p c::K=>jN B p=some (c,K)/\WF B K
 |.blk _::K=>WF B K
 |.loop p c::K=>jN B p=some (.loop c,K)/\WF B K
theorem QE {B:jA}:∀{p:List Nat} {c:jA} {K:List Fr},jN B p=some (c,K)->WF B K
 |[],c,K,h=>by simp only [jN,A0,A3] at h;obtain ⟨_,rfl⟩:=h;trivial
 |i::q,c,K,h=>by
  simp only [jN,A1] at h;obtain ⟨⟨c',K'⟩,h1,h2⟩:=h;have hw:=QE h1;split at h2<;>try (cases h2;done)
  all_goals (rename_i e;simp only at e;subst e;simp only [A0,A3] at h2;obtain ⟨_,rfl⟩:=h2)
  ·exact ⟨by simp [jN,h1],hw⟩
  ·exact hw
  ·exact hw
  ·exact hw
  ·exact hw
  ·exact ⟨h1,hw⟩
theorem Jb {F:Fe} {s:St}:∀K:List Fr,Ez F K .ret s s
 |[]=>⟨.inr rfl,rfl⟩
 |.seq _ _::K=>Jb K
 |.blk _::K=>Jb K
 |.loop _ _::K=>Jb K
theorem EV.seq {F:Fe} {a c:jA} {s s1 s2:St} {x:Ex} (h1:EV F a s .normal s1) (h2:EV F c s1 x s2):EV F (.seq a c) s x s2:=by obtain ⟨n1,h1⟩:=h1;obtain ⟨n2,h2⟩:=h2;refine ⟨max n1 n2+1,?_⟩;simp only [dn,Gq (Nat.le_max_left n1 n2) a s _ h1,A2,A4];exact Gq (Nat.le_max_right n1 n2) c s1 _ h2
theorem EV.loop {F:Fe} {c:jA} {s s1 s2:St} {x:Ex} (h1:EV F c s .normal s1) (h2:EV F (.loop c) s1 x s2):EV F (.loop c) s x s2:=by obtain ⟨n1,h1⟩:=h1;obtain ⟨n2,h2⟩:=h2;refine ⟨max n1 n2+1,?_⟩;simp only [dn,Gq (Nat.le_max_left n1 n2) c s _ h1,A2,A4];exact Gq (Nat.le_max_right n1 n2) (.loop c) s1 _ h2
section
variable {F:Fe} {B:jA} {cx:Cx} {b:Bs} {call:qM} {head:ug} {r:R}
def JV (F:Fe) (B:jA) (cx:Cx) (head:ug):Prop:=
 ∀(i:Nat) (ws:List W) (r:R),head i ws=some r->∀hh,cx.heads[i]?=some hh->∀c K,jN B hh.p=some (.loop c,K)->∀(b:Bs) (μ:Nat->Option Nat) (s:St),b.bg.length=cx.bl.length->Rl b ws μ (LY hh).1 s->(LY hh).2=ws.length->
  ∃x1 s1 s',EV F (.loop c) s x1 s1/\Ez F K x1 s1 s'/\U9 b cx.res cx.rs cx.bl r s'
theorem LZ {k:Nat} {p:List Nat} {σ:Sy} {ρ:List W}:∀{hs:List HS} {i:Nat},aR call head (sj k p σ i hs) ρ=some r->∃j hh Gi ws,hs[j]?=some hh/\hh.p=p/\Fa k hh σ=some Gi/\iA ρ Gi=some ws/\head (i+j) ws=some r
 |[],i,hd=>by simp [sj,aR] at hd
 |h::hs,i,hd=>by
  have rest:aR call head (sj k p σ (i+1) hs) ρ=some r->∃j hh Gi ws,(h::hs)[j]?=some hh/\hh.p=p/\Fa k hh σ=some Gi/\iA ρ Gi=some ws/\head (i+j) ws=some r:=by intro hd;obtain ⟨j,hh,Gi,ws,q1,q2,q3,q4,q5⟩:=LZ hd;exact ⟨j+1,hh,Gi,ws,by simpa using q1,q2,q3,q4,by rw [show i+(j+1)=i+1+j by omega];exact q5⟩
  simp only [sj] at hd;split at hd
  ·rename_i hp;split at hd
   ·rename_i Gi ha;simp only [aR,A1] at hd;obtain ⟨ws,h1,h2⟩:=hd;exact ⟨0,h,Gi,ws,by simp,hp,ha,h1,h2⟩
   ·exact rest hd
  ·exact rest hd
variable (hh:JV F B cx head) (hlen:b.bg.length=cx.bl.length)
include hh hlen
theorem aay {p:List Nat} {c:jA} {K:List Fr} (hloc:jN B p=some (.loop c,K)) {ρ:List W} {μ:Nat->Option Nat} {σ:Sy} {s:St} (hR:Rl b ρ μ σ s) (hd:aR call head (sj cx.bl.length p σ 0 cx.heads) ρ=some r):
  ∃x1 s1 s',EV F (.loop c) s x1 s1/\Ez F K x1 s1 s'/\U9 b cx.res cx.rs cx.bl r s':=by
 obtain ⟨j,h,Gi,ws,q1,q2,q3,q4,q5⟩:=LZ hd;rw [<-hlen] at q3;obtain ⟨μ',q6,q7⟩:=acC hR q3 q4;subst q2;rw [E1] at q5;exact hh j ws r q5 h q1 c K hloc b μ' s hlen q6 q7
theorem Fs {rec:List Nat->jA->List Fr->Sy->Nat->Kn->Tree}
  (hrec:∀p c K ρ μ σ kn s,jN B p=some (c,K)->Rl b ρ μ σ s->Qd kn ρ->aR call head (rec p c K σ ρ.length kn) ρ=some r->∃x1 s1 s',EV F c s x1 s1/\Ez F K x1 s1 s'/\U9 b cx.res cx.rs cx.bl r s'):
  ∀{K:List Fr} {ρ:List W} {μ:Nat->Option Nat} {σ:Sy} {kn:Kn} {s:St},WF B K->Rl b ρ μ σ s->Qd kn ρ->aR call head (QC cx rec K σ ρ.length kn) ρ=some r->∃s',Ez F K .normal s s'/\U9 b cx.res cx.rs cx.bl r s'
 |[],ρ,μ,σ,kn,s,_,hR,hk,hd=>⟨s,⟨.inl rfl,rfl⟩,QH hR hlen hd⟩
 |.seq p c::K,ρ,μ,σ,kn,s,hw,hR,hk,hd=>by obtain ⟨x1,s1,s',h1,h2,h3⟩:=hrec p c K ρ μ σ kn s hw.1 hR hk hd;exact ⟨s',⟨x1,s1,h1,h2⟩,h3⟩
 |.blk _::K,ρ,μ,σ,kn,s,hw,hR,hk,hd=>Fs hrec (K:=K) hw hR hk hd
 |.loop p c::K,ρ,μ,σ,kn,s,hw,hR,hk,hd=>by obtain ⟨x1,s1,s',h1,h2,h3⟩:=aay hh hlen hw.1 hR hd;exact ⟨s',⟨x1,s1,h1,h2⟩,h3⟩
theorem I6 {rec:List Nat->jA->List Fr->Sy->Nat->Kn->Tree} {id:Nat}
  (hrec:∀p c K ρ μ σ kn s,jN B p=some (c,K)->Rl b ρ μ σ s->Qd kn ρ->aR call head (rec p c K σ ρ.length kn) ρ=some r->∃x1 s1 s',EV F c s x1 s1/\Ez F K x1 s1 s'/\U9 b cx.res cx.rs cx.bl r s'):
  ∀{K:List Fr} {ρ:List W} {μ:Nat->Option Nat} {σ:Sy} {kn:Kn} {s:St},WF B K->Rl b ρ μ σ s->Qd kn ρ->aR call head (NH cx rec id K σ ρ.length kn) ρ=some r->∃s',Ez F K (.exit id) s s'/\U9 b cx.res cx.rs cx.bl r s'
 |[],ρ,μ,σ,kn,s,_,hR,hk,hd=>by simp [NH,aR] at hd
 |.seq p c::K,ρ,μ,σ,kn,s,hw,hR,hk,hd=>I6 hrec (K:=K) hw.2 hR hk hd
 |.blk id'::K,ρ,μ,σ,kn,s,hw,hR,hk,hd=>by
  simp only [NH] at hd;split at hd
  ·rename_i e;obtain ⟨s',h1,h2⟩:=Fs hh hlen hrec (K:=K) hw hR hk hd;exact ⟨s',by simp only [Ez];rw [C4 e];exact h1,h2⟩
  ·rename_i e;obtain ⟨s',h1,h2⟩:=I6 hrec (K:=K) hw hR hk hd;exact ⟨s',by simp only [Ez];rw [Dd e];exact h1,h2⟩
 |.loop p c::K,ρ,μ,σ,kn,s,hw,hR,hk,hd=>I6 hrec (K:=K) hw.2 hR hk hd
theorem Pv (hcall:tN F cx.sig call):∀(fuel:Nat) (p:List Nat) (c:jA) (K:List Fr) (ρ:List W) (μ:Nat->Option Nat) (σ:Sy) (kn:Kn) (s:St),jN B p=some (c,K)->Rl b ρ μ σ s->Qd kn ρ->aR call head (Bz cx fuel p c K σ ρ.length kn) ρ=some r->
  ∃x1 s1 s',EV F c s x1 s1/\Ez F K x1 s1 s'/\U9 b cx.res cx.rs cx.bl r s'
 |0,_,_,_,_,_,_,_,_,_,_,_,hd=>by simp [Bz,aR] at hd
 |fuel+1,p,c,K,ρ,μ,σ,kn,s,hloc,hR,hk,hd=>by
  have ih:=Pv hcall fuel;have hw:=QE hloc;cases c with
  |skip=>
   obtain ⟨s',h1,h2⟩:=Fs hh hlen ih hw hR hk hd;exact ⟨.normal,s,s',⟨1,rfl⟩,h1,h2⟩
  |ret=>exact ⟨.ret,s,s,⟨1,rfl⟩,Jb K,QH hR hlen hd⟩
  |exit id=>
   obtain ⟨s',h1,h2⟩:=I6 hh hlen ih hw hR hk hd;exact ⟨.exit id,s,s',⟨1,rfl⟩,h1,h2⟩
  |region is=>
   obtain ⟨n0,s1,h1,ws,μ',σ',BX,p1,p2,p3⟩:=wD hcall is ρ μ σ s kn hR hk hd;obtain ⟨s',h2,h3⟩:=Fs hh hlen ih hw p1 p2 p3;exact ⟨.normal,s1,s',⟨n0+1,by simp [dn,h1 n0 (B9 _)]⟩,h2,h3⟩
  |draw is ws=>
   have hR0:Rl b ρ μ σ ⟨s.env,s.heap,s.nx+0⟩:=hR;obtain ⟨n0,e',h',ts,h1,ws',μ',σ',BX,ae4,p1,p2,p3,_,p5⟩:=wu (nx:=s.nx) hcall is ρ μ σ s.env s.heap 0 kn [] hR0 hk hd;rw [D4] at p3;simp only at p3;split at p3
   case isFalse=>cases p3
   rename_i hok;have hok':D6 ts ws=true:=Jf (fun i i' j a1 a2 a3 a4=>p1.mem.inj i i' j a1 a2 a3 a4) (pre:=[]) (pre':=[]) trivial p5 hok
   rw [E1] at p1;obtain ⟨s',h2,h3⟩:=Fs hh hlen ih hw p1 p2 p3;exact ⟨.normal,_,s',⟨n0+1,by simp [dn,h1 n0 (B9 _),hok']⟩,h2,h3⟩
  |mix is ws=>simp [Bz,aR] at hd
  |seq a c2=>
   have hl1:jN B (0::p)=some (a,.seq (1::p) c2::K):=by simp [jN,hloc]
   obtain ⟨x1,s1,s',h1,h2,h3⟩:=ih _ _ _ ρ μ σ kn s hl1 hR hk hd;cases x1 with
   |normal=>
    obtain ⟨x2,s2,h4,h5⟩:=h2;exact ⟨x2,s2,s',h1.seq h4,h5,h3⟩
   |exit id=>
    obtain ⟨n,hn⟩:=h1;exact ⟨.exit id,s1,s',⟨n+1,by simp [dn,hn]⟩,h2,h3⟩
   |ret=>
    obtain ⟨n,hn⟩:=h1;exact ⟨.ret,s1,s',⟨n+1,by simp [dn,hn]⟩,h2,h3⟩
  |cond x a c2=>
   simp only [Bz] at hd;obtain ⟨t,BX,e1,e2,e3⟩:=BM rfl hk (F6 hR.env x) hd;cases t with
   |true=>
    have hl1:jN B (0::p)=some (a,K):=by simp [jN,hloc]
    obtain ⟨x1,s1,s',⟨n,h1⟩,h2,h3⟩:=ih _ _ _ ρ μ σ BX s hl1 hR e2 e3;exact ⟨x1,s1,s',⟨n+1,by simp [dn,e1,asBool,h1]⟩,h2,h3⟩
   |false=>
    have hl1:jN B (1::p)=some (c2,K):=by simp [jN,hloc]
    obtain ⟨x1,s1,s',⟨n,h1⟩,h2,h3⟩:=ih _ _ _ ρ μ σ BX s hl1 hR e2 e3;exact ⟨x1,s1,s',⟨n+1,by simp [dn,e1,asBool,h1]⟩,h2,h3⟩
  |block id c2=>
   have hl1:jN B (0::p)=some (c2,.blk id::K):=by simp [jN,hloc]
   obtain ⟨x1,s1,s',⟨n,h1⟩,h2,h3⟩:=ih _ _ _ ρ μ σ kn s hl1 hR hk hd;cases x1 with
   |normal=>exact ⟨.normal,s1,s',⟨n+1,by simp [dn,h1]⟩,h2,h3⟩
   |ret=>exact ⟨.ret,s1,s',⟨n+1,by simp [dn,h1]⟩,h2,h3⟩
   |exit id'=>
    simp only [Ez] at h2;by_cases he:id'=id
    ·rw [C4 he] at h2;exact ⟨.normal,s1,s',⟨n+1,by simp [dn,h1,he]⟩,h2,h3⟩
    ·rw [Dd he] at h2;exact ⟨.exit id',s1,s',⟨n+1,by simp [dn,h1,he]⟩,h2,h3⟩
  |loop c2=>exact aay hh hlen hloc hR hd
end
structure aeP (F:Fe) (sig:Nat->Option fC) (G:GT) (fuel:Nat) (hs:Nat->List HS):Prop where
 fn:∀f tf,G.fn f=some tf->∃I s,F.code (s.cd f)=some I/\sig f=some s/\I.nparams=s.params.length/\tf=UT sig fuel s (hs f) I/\s.nat=false/\∀vs,F.nat (s.cd f) vs=none
 nat:∀f aY bs r,G.fn f=none->G.nat f aY bs=some r->∃s vs,sig f=some s/\s.nat=true/\s.boxes=[]/\bs=[]/\sF s.params aY/\aY=vs.map .v/\F.nat f vs=some r.1
section
variable {F:Fe} {sig:Nat->Option fC} {G:GT} {fuel:Nat} {hs:Nat->List HS} (hT:aeP F sig G fuel hs)
include hT
theorem YW {n:Nat} (hc:tN F sig (runT G n)) (hd:∀f I s,F.code (s.cd f)=some I->sig f=some s->(∃tf,G.fn f=some tf)->JV F I.body ⟨sig,hs f,I.res,s.rs,s.boxes⟩ (kY G n f)):
  ∀f I s,F.code (s.cd f)=some I->sig f=some s->(∃tf,G.fn f=some tf)->JV F I.body ⟨sig,hs f,I.res,s.rs,s.boxes⟩ (kY G (n+1) f):=by
 intro f I s hI hs' ⟨tf,htf⟩ i ws r hr hh hhi c K hloc b μ st hlen hR hn;obtain ⟨I',s0,q1,q2,_,q4,_⟩:=hT.fn f tf htf;rw [hs'] at q2;injection q2 with q2;subst q2
 rw [hI] at q1;injection q1 with q1;subst q1
 simp only [kY,htf,A4,A1] at hr;obtain ⟨t,h1,h2⟩:=hr;subst q4;simp only [UT,List.getElem?_map] at h1;rw [show (hs f)[i]?=some hh from hhi] at h1
 simp only [G3,A0] at h1;subst h1;simp only [UC,hloc] at h2;have hl1:jN I.body (0::hh.p)=some (c,.loop hh.p c::K):=by simp [jN,hloc]
 rw [hn] at h2;obtain ⟨x1,s1,s',g1,g2,g3⟩:=Pv (cx:=⟨sig,hs f,I.res,s.rs,s.boxes⟩) (hd f I s hI hs' ⟨_,htf⟩) hlen hc fuel _ _ _ ws μ _ [] st hl1 hR (fun i j t h=>by simp [YE] at h) h2
 cases x1 with
 |normal=>
  obtain ⟨x2,s2,g4,g5⟩:=g2;exact ⟨x2,s2,s',g1.loop g4,g5,g3⟩
 |exit id=>
  obtain ⟨m,hm⟩:=g1;exact ⟨.exit id,s1,s',⟨m+1,by simp [dn,hm]⟩,g2,g3⟩
 |ret=>
  obtain ⟨m,hm⟩:=g1;exact ⟨.ret,s1,s',⟨m+1,by simp [dn,hm]⟩,g2,g3⟩
end
theorem zb {α:Type} {k:List W->Option α} {r:α}:∀{ps:List PS} {aY:List LA} {ρ:List W},di k ps aY ρ=some r->sF ps aY/\∃ws,k (ρ++ws)=some r/\
  ∀{bg:List Nat} {ds:List D} {N:Nm} {post:List W} {t:Nat},gz (ZH bg) ps aY ds->N.ρ=ρ++ws++post->(∀q j,bg[q]?=some j->q < N.nx/\N.μ q=some j)->∀{e:List (Nat×SD)} {n':Nat} {l:List (Nat×Nat)},Gx ps t ρ.length=(e,n',l)->
   n'=ρ.length+ws.length/\(∀u,RD N (Bn e u) (iM (j3 t ds) u))/\∀i m,(i,m)∈l->∃xs,jm N.ρ i=some (.l xs)/\xs.length=m
 |[],[],ρ,h=>by
  refine ⟨trivial,[],by rw [D0];exact h,?_⟩
  intro bg ds N post t ha hρ hl e n' l he;cases ds with
  |nil=>
   simp only [Gx,A3] at he;obtain ⟨rfl,rfl,rfl⟩:=he;exact ⟨by simp,fun u=>trivial,by simp⟩
  |cons _ _=>exact ha.elim
 |.one::ps,.v (.one c)::aY,ρ,h=>by
  simp only [di] at h;obtain ⟨h1,ws,h2,h3⟩:=zb h;refine ⟨h1,.c c::ws,by rw [Bk] at h2;exact h2,?_⟩
  intro bg ds N post t ha hρ hl e n' l he;cases ds with
  |nil=>exact ha.elim
  |cons d ds=>
   cases e1:Gx ps (t+1) (ρ.length+1) with
   |mk e' p=>
    obtain ⟨n1,l1⟩:=p;simp only [Gx,e1,A3] at he;obtain ⟨rfl,rfl,rfl⟩:=he;obtain ⟨q1,q2,q3⟩:=h3 (N:=N) (post:=post) (t:=t+1) ha.2 (by rw [hρ];simp) hl (e:=e') (n':=n1) (l:=l1) (by rw [B8];exact e1)
    refine ⟨by rw [q1];simp;omega,fun u=>?_,q3⟩
    simp only [Bn,j3,iM];by_cases hu:t=u
    ·rw [C4 hu,C4 hu];exact ⟨c,by rw [hρ,Bk];exact at_new ρ c _,ha.1⟩
    ·rw [Dd hu,Dd hu];exact q2 u
 |.agg m::ps,.v (.agg xs)::aY,ρ,h=>by
  simp only [di] at h;split at h
  case isFalse=>cases h
  rename_i hm;obtain ⟨h1,ws,h2,h3⟩:=zb h;refine ⟨⟨hm,h1⟩,.l xs::ws,by rw [Bk] at h2;exact h2,?_⟩
  intro bg ds N post t ha hρ hl e n' l he;cases ds with
  |nil=>exact ha.elim
  |cons d ds=>
   cases e1:Gx ps (t+1) (ρ.length+1) with
   |mk e' p=>
    obtain ⟨n1,l1⟩:=p;simp only [Gx,e1,A3] at he;obtain ⟨rfl,rfl,rfl⟩:=he;obtain ⟨q1,q2,q3⟩:=h3 (N:=N) (post:=post) (t:=t+1) ha.2 (by rw [hρ];simp) hl (e:=e') (n':=n1) (l:=l1) (by rw [B8];exact e1)
    have hg:jm N.ρ ρ.length=some (.l xs):=by rw [hρ,Bk];exact mR ρ _ _
    refine ⟨by rw [q1];simp;omega,fun u=>?_,fun i q hi=>?_⟩
    ·simp only [Bn,j3,iM];by_cases hu:t=u
     ·rw [C4 hu,C4 hu];obtain ⟨⟨_,ds',rfl,a2⟩,_⟩:=ha;exact ⟨ds',rfl,I1 hg (An ..) hm a2⟩
     ·rw [Dd hu,Dd hu];exact q2 u
    ·simp only [D1,A3] at hi;rcases hi with ⟨rfl,rfl⟩|hi
     ·exact ⟨xs,hg,hm⟩
     ·exact q3 i q hi
 |.ref b o::ps,.ref b' o'::aY,ρ,h=>by
  simp only [di] at h;split at h
  case isFalse=>cases h
  rename_i hm;obtain ⟨h1,ws,h2,h3⟩:=zb h;refine ⟨⟨hm.1.symm,hm.2.symm,h1⟩,ws,h2,?_⟩;intro bg ds N post t ha hρ hl e n' l he;cases ds with
  |nil=>exact ha.elim
  |cons d ds=>
   cases e1:Gx ps (t+1) ρ.length with
   |mk e' p=>
    obtain ⟨n1,l1⟩:=p;simp only [Gx,e1,A3] at he;obtain ⟨rfl,rfl,rfl⟩:=he;obtain ⟨q1,q2,q3⟩:=h3 (N:=N) (post:=post) (t:=t+1) ha.2 hρ hl e1;refine ⟨q1,fun u=>?_,q3⟩
    simp only [Bn,j3,iM];by_cases hu:t=u
    ·rw [C4 hu,C4 hu];obtain ⟨_,_,j,a1,a2⟩:=ha.1;obtain ⟨l1',l2'⟩:=hl b j a1;exact ⟨l1',j,l2',a2⟩
    ·rw [Dd hu,Dd hu];exact q2 u
 |.fD g caps::ps,.ref b' o'::aY,ρ,h=>by
  simp only [di] at h;split at h
  case isFalse=>cases h
  rename_i hm;obtain ⟨h1,ws,h2,h3⟩:=zb h;refine ⟨⟨hm.1,hm.2,h1⟩,ws,h2,?_⟩;intro bg ds N post t ha hρ hl e n' l he;cases ds with
  |nil=>exact ha.elim
  |cons d ds=>
   cases e1:Gx ps (t+1) ρ.length with
   |mk e' p=>
    obtain ⟨n1,l1⟩:=p;simp only [Gx,e1,A3] at he;obtain ⟨rfl,rfl,rfl⟩:=he;obtain ⟨q1,q2,q3⟩:=h3 (N:=N) (post:=post) (t:=t+1) ha.2 hρ hl e1;refine ⟨q1,fun u=>?_,q3⟩
    simp only [Bn,j3,iM];by_cases hu:t=u
    ·rw [C4 hu,C4 hu];obtain ⟨_,_,cs,rfl,a2⟩:=ha.1;exact ⟨cs,rfl,a2.mono fun p q ⟨c1,c2⟩=>⟨(hl _ _ c1).1,(hl _ _ c1).2,c2⟩⟩
    ·rw [Dd hu,Dd hu];exact q2 u
 |.fD _ _::_,[],_,h=>by simp [di] at h
 |.fD _ _::_,.v _::_,_,h=>by simp [di] at h
 |[],_::_,_,h=>by simp [di] at h
 |.one::_,[],_,h=>by simp [di] at h
 |.agg _::_,[],_,h=>by simp [di] at h
 |.ref _ _::_,[],_,h=>by simp [di] at h
 |.one::_,.v (.agg _)::_,_,h=>by simp [di] at h
 |.one::_,.v (.full _ _)::_,_,h=>by simp [di] at h
 |.agg _::_,.v (.full _ _)::_,_,h=>by simp [di] at h
 |.one::_,.ref _ _::_,_,h=>by simp [di] at h
 |.agg _::_,.v (.one _)::_,_,h=>by simp [di] at h
 |.agg _::_,.ref _ _::_,_,h=>by simp [di] at h
 |.ref _ _::_,.v _::_,_,h=>by simp [di] at h
theorem Me {α:Type} {k:List W->Option α} {r:α}:∀{ms:List Nat} {bs:List (List C)} {ρ:List W},iD k ms bs ρ=some r->aF (fun m (xs:List C)=>xs.length=m) ms bs/\k (ρ++bs.map .l)=some r
 |[],[],ρ,h=>⟨trivial,by rw [Ln,D0];exact h⟩
 |m::ms,xs::bs,ρ,h=>by
  simp only [iD] at h;split at h
  case isFalse=>cases h
  rename_i hm;obtain ⟨h1,h2⟩:=Me h;exact ⟨⟨hm,h1⟩,by rw [Bk] at h2;exact h2⟩
 |[],_::_,_,h=>by simp [iD] at h
 |_::_,[],_,h=>by simp [iD] at h
theorem Vr:∀{ms:List Nat} {b n:Nat} {hp:List (Nat×SO)} {n':Nat} {l:List (Nat×Nat)},YI ms b n=(hp,n',l)->n'=n+ms.length/\(∀i,i < b\/b+ms.length<=i->dm hp i=.dead)/\(∀q m,ms[q]?=some m->dm hp (b+q)=.box ((Cq (n+q) 0 m).map .a))/\∀i m,(i,m)∈l->∃q,i=n+q/\ms[q]?=some m
 |[],b,n,hp,n',l,h=>by simp only [YI,A3] at h;obtain ⟨rfl,rfl,rfl⟩:=h;exact ⟨rfl,fun _ _=>rfl,by simp,by simp⟩
 |m::ms,b,n,hp,n',l,h=>by
  cases e:YI ms (b+1) (n+1) with
  |mk hp' p=>
   obtain ⟨n1,l1⟩:=p;simp only [YI,e,A3] at h;obtain ⟨rfl,rfl,rfl⟩:=h;obtain ⟨q1,q2,q3,q4⟩:=Vr e;refine ⟨by rw [q1];simp;omega,fun i hi=>?_,fun q m' hq=>?_,fun i q hi=>?_⟩
   ·simp only [Bm] at hi;rw [eu,Dd (by omega)]
    exact q2 i (by omega)
   ·cases q with
    |zero=>
     simp only [D2,A0] at hq;subst hq;rw [eu,C4 (by omega)];rfl
    |succ q=>
     simp only [C6] at hq;rw [eu,Dd (by omega),show b+(q+1)=b+1+q by omega,q3 q m' hq,show n+1+q=n+(q+1) by omega]
   ·simp only [D1,A3] at hi;rcases hi with ⟨rfl,rfl⟩|hi
    ·exact ⟨0,rfl,rfl⟩
    ·obtain ⟨p,h1,h2⟩:=q4 i q hi;exact ⟨p+1,by omega,by simpa using h2⟩
theorem RV:∀{l:List Nat},l.Nodup->∀{q q' j:Nat},l[q]?=some j->l[q']?=some j->q=q'
 |[],_,q,q',j,h,_=>by simp at h
 |a::l,hn,q,q',j,h,h'=>by
  rw [K0] at hn;cases q with
  |zero=>
   simp only [D2,A0] at h;subst h;cases q' with
   |zero=>rfl
   |succ q'=>simp only [C6] at h';exact absurd (C7 h') hn.1
  |succ q=>cases q' with
   |zero=>
    simp only [D2,A0] at h';subst h';simp only [C6] at h;exact absurd (C7 h) hn.1
   |succ q'=>simp only [C6] at h h';rw [RV hn.2 h h']
section
variable {F:Fe} {sig:Nat->Option fC} {G:GT} {fuel:Nat} {hs:Nat->List HS} (hT:aeP F sig G fuel hs)
include hT
theorem YP {n:Nat} (hc:tN F sig (runT G n)) (hd:∀f I s,F.code (s.cd f)=some I->sig f=some s->(∃tf,G.fn f=some tf)->JV F I.body ⟨sig,hs f,I.res,s.rs,s.boxes⟩ (kY G n f)):tN F sig (runT G (n+1)):=by
 intro f aY bs r hr;rw [runT] at hr;split at hr
 case h_2 hnone=>
  obtain ⟨s,vs,k1,k2,k3,k4,k5,k6,k7⟩:=hT.nat f aY bs r hnone hr;refine ⟨s,k1,k5,by rw [k3,k4];trivial,fun h=>(by rw [k2] at h;cases h),fun _=>⟨vs,k6,1,fun m hm=>?_⟩⟩
  obtain ⟨m',rfl⟩:∃m',m=m'+1:=⟨m - 1,by omega⟩
  rw [oF,k7]
 rename_i tf htf;have hb:=hr;obtain ⟨I,s,q1,q2,q3,q4,hsn,hnn⟩:=hT.fn f tf htf;have hdf:=hd f I s q1 q2 ⟨tf,htf⟩;subst q4;simp only [Ef,UT] at hb;obtain ⟨hsh,ws,h1,h2⟩:=zb hb;obtain ⟨h3,h4⟩:=Me h1;rw [D4] at h4;refine ⟨s,q2,hsh,h3,fun _=>⟨fun h k bg ds ha hbx hnd hlk=>?_,hnn⟩,fun h=>(by rw [hsn] at h;cases h)⟩
 have hl3:=hbx.acj;cases e1:Gx s.params 0 0 with
 |mk env' p1=>
  obtain ⟨n1,l1⟩:=p1;cases e2:YI s.boxes 0 n1 with
  |mk hp p2=>
   obtain ⟨n2,l2⟩:=p2;have eS:XU s=(⟨env',hp,s.boxes.length,l1++l2⟩,n2):=by simp only [XU,e1,e2]
   obtain ⟨b1,b2,b3,b4⟩:=Vr e2
   let N:Nm:=nm (ws++bs.map .l) (fun q=>bg[q]?) ⟨env',hp,s.boxes.length,l1++l2⟩
   have hlq:∀(q j:Nat),bg[q]?=some j->q < s.boxes.length:=fun q j hq=>by have:=(B0.1 hq).1;omega
   obtain ⟨r1,r2,r3⟩:=h2 (N:=N) (post:=bs.map .l) (t:=0) ha (by simp [N,nm]) (fun q j hq=>⟨hlq q j hq,hq⟩) (e:=env') (n':=n1) (l:=l1) e1
   have hn1:n1=ws.length:=by rw [r1];simp
   subst hn1;have hwq:∀(q:Nat) (xs:List C),bs[q]?=some xs->jm (ws++bs.map .l) (ws.length+q)=some (.l xs):=fun q xs hq=>by
    have:=Wi ws bs q xs hq []
    rw [D0] at this;exact this
   have hR:Rl ⟨h,k,bg⟩ (ws++bs.map .l) (fun q=>bg[q]?) ⟨env',hp,s.boxes.length,l1++l2⟩ ⟨j3 0 ds,h,k⟩:=by
    refine ⟨r2,⟨fun q=>?_,fun q q' j _ _ g3 g4=>RV hnd g3 g4,fun q j _ g2=>hlk j (C7 g2),fun q hq=>b2 q (.inr (by have hq':s.boxes.length<=q:=hq;omega)),fun q j _ g2=> .inr (C7 g2),fun j _ _=>rfl,B9 _,fun i m hi=>?_⟩,fun q j hq=>⟨hlq q j hq,hq⟩⟩
    ·show Us N h q (dm hp q)
     by_cases hq:q < s.boxes.length
     ·have hj:bg[q]?=some (bg[q]'(by omega)):=Ax (by omega)
      obtain ⟨m,xs,c1,c2,c3,ds',c4,c5⟩:=hbx.get hj;have:=b3 q m c1
      rw [E1] at this;rw [this];exact ⟨_,ds',hj,c4,I1 (N:=N) (hwq q xs c2) (An ..) c3 c5⟩
     ·rw [b2 q (.inr (by omega))];trivial
    ·rw [Bx] at hi;rcases hi with hi|hi
     ·exact r3 i m hi
     ·obtain ⟨q,rfl,c1⟩:=b4 i m hi;have hqb:q < s.boxes.length:=(B0.1 c1).1;have hj:bg[q]?=some (bg[q]'(by omega)):=Ax (by omega)
      obtain ⟨m',xs,c2,c3,c4,_⟩:=hbx.get hj;rw [c1] at c2;injection c2 with c2;subst c2
      exact ⟨xs,hwq q xs c3,c4⟩
   rw [eS] at h4;simp only at h4;have hn2:n2=(ws++bs.map W.l).length:=by rw [b1,B8,Mn];omega
   rw [hn2] at h4;obtain ⟨x1,s1,s',⟨m,g1⟩,g2,g3⟩:=Pv (b:=⟨h,k,bg⟩) (cx:=⟨sig,hs f,I.res,s.rs,s.boxes⟩) (B:=I.body) hdf hl3.2.symm hc fuel [] I.body [] _ _ _ [] _ rfl hR (fun i j t hi=>by simp [YE] at hi) h4
   obtain ⟨g4,rfl⟩:=g2;obtain ⟨⟨rs,k1,k2,k3,k4⟩,k5,k6,k7⟩:=g3;refine ⟨m+1,rs,s'.heap,s'.nx,?_,k5,k6,k7,k2,k3,k4⟩;have hlen:ds.length=I.nparams:=by rw [q3,<-ha.acj.2]
   simp only [jh,q1,A2,A4];rw [C4 hlen,g1];simp only [A4];rcases g4 with rfl|rfl<;>simp [k1]
theorem aaW:∀n,tN F sig (runT G n)/\∀f I s,F.code (s.cd f)=some I->sig f=some s->(∃tf,G.fn f=some tf)->JV F I.body ⟨sig,hs f,I.res,s.rs,s.boxes⟩ (kY G n f)
 |0=>⟨fun f aY bs r h=>by simp [runT] at h,fun f I s _ _ _ i ws r h=>by simp [kY] at h⟩
 |n+1=>by obtain ⟨h1,h2⟩:=aaW n;exact ⟨YP hT h1 h2,YW hT h1 h2⟩
theorem ahH {f:Nat} {vs rs:List V} {bs':List (List C)} (hcd:∀s,sig f=some s->s.code=none) (h:bz G f (vs.map .v) []=some (rs,bs')):∃n,oF F n f vs=some rs:=by
 obtain ⟨n,hn⟩:=TR h;obtain ⟨s,q1,q2,q3,q4⟩:=(aaW hT n).1 _ _ _ _ hn;have hb:s.boxes=[]:=by cases hsb:s.boxes with|nil=>rfl|cons _ _=>rw [hsb] at q3;exact q3.elim
 cases hsn:s.nat with
 |false=>
  obtain ⟨k1,k2⟩:=q4.1 hsn;have aj7:s.cd f=f:=by simp [fC.cd,hcd s q1]
  rw [aj7] at k1 k2;obtain ⟨n0,h0⟩:=k1.fn q2 hb (k2 _);exact ⟨n0,h0 n0 (B9 _)⟩
 |true=>
  obtain ⟨vs',k1,n0,h0⟩:=q4.2 hsn;have inj:∀a b:List V,a.map LA.v=b.map LA.v->a=b:=by
   intro a;induction a with
   |nil=>intro b hb;cases b with|nil=>rfl|cons _ _=>simp at hb
   |cons x a ih=>intro b hb;cases b with
    |nil=>simp at hb
    |cons y b=>simp only [Cp,E6,LA.v.injEq] at hb;rw [hb.1,ih b hb.2]
  rw [inj _ _ k1];exact ⟨n0,h0 n0 (B9 _)⟩
end
end Go.Ey
