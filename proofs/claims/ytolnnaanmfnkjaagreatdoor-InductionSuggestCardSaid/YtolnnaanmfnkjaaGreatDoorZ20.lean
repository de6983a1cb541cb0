/- A part. -/
import Derived.Test.YtolnnaanmfnkjaaGreatDoorZ18
set_option linter.all false
namespace Go.Ey
structure VK (b:Bs) (res:List Res) (rs:List RS) (boxes:List Nat) (r:R) (s:St):Prop where
 ex:∃ds,Ei s.env s.heap res=some ds/\fB (RsR s.heap b.k0) rs r.1 ds/\(oN rs ds).Nodup/\∀j∈oN rs ds,j < s.nx
 le:b.k0<=s.nx
 frame:∀j,j < b.k0->j ∉ b.aK->ax s.heap j=ax b.h0 j
 boxes:fB (F8 s.heap) boxes r.2 b.aK
section
variable {b:Bs} {ρ:List W} {μ:Nat->Option Nat} {σ:Sy} {s:St} {call:qp} {head:qZ} {r:R}
theorem RA.alV {N:Nm} {sd:SD} {d:D} (hr:RD N sd d) (h1:∀q,sd≠.jG q) (h2:sd≠.rq):(∀q,d≠.jG q)/\RA N sd d:=by
 cases sd with
 |rq=>exact absurd rfl h2
 |jG q=>exact absurd rfl (h1 q)
 |a x=>refine ⟨fun q e=>?_,hr⟩;subst e;obtain ⟨c,_,h|⟨cs,n,_,h⟩⟩:=hr<;>cases h
 |full x=>refine ⟨fun q e=>?_,hr⟩;subst e;obtain ⟨cs,n,_,h⟩:=hr;cases h
 |loc i o=>refine ⟨fun q e=>?_,hr⟩;subst e;obtain ⟨_,j,_,h⟩:=hr;cases h
 |arr i=>refine ⟨fun q e=>?_,hr⟩;subst e;obtain ⟨_,⟨j,len,_,h,_⟩|⟨_,cs,n,h,_⟩⟩:=hr<;>cases h
 |view i x=>refine ⟨fun q e=>?_,hr⟩;subst e;obtain ⟨_,cs,len,_,h|⟨j,off,_,h,_⟩⟩:=hr<;>cases h
 |nK i x o=>refine ⟨fun q e=>?_,hr⟩;subst e;obtain ⟨_,kd,q,_,_,⟨j,o',_,h,_⟩|⟨_,cs,h,_⟩⟩:=hr<;>cases h
 |ptr r o e=>refine ⟨fun q e=>?_,hr⟩;subst e;obtain ⟨xs,rest,_,_,h⟩:=hr;cases h
 |fq f c=>refine ⟨fun q e=>?_,hr⟩;subst e;obtain ⟨c',h,_⟩:=hr;cases h
 |agg ds=>refine ⟨fun q e=>?_,hr⟩;subst e;obtain ⟨ds',h,_⟩:=hr;cases h
theorem Ma (hR:Rl b ρ μ σ s):∀{res:List Res} {iq:List SD},UJ σ res=some iq->∃ds,Ei s.env s.heap res=some ds/\av (RA (nm ρ μ σ)) iq ds
 |[],iq,h=>by simp only [UJ,A0] at h;subst h;exact ⟨[],rfl,trivial⟩
 |.tmp t::res,iq,h=>by
  simp only [UJ,A1] at h;obtain ⟨arK,h1,h2⟩:=h;obtain ⟨ds,h3,h4⟩:=Ma hR h1;have hr:=hR.env t;have key:∀sd,Ae σ.env t=sd->(∀q,sd≠.jG q)->sd≠.rq->iq=sd::arK->∃ds,Ei s.env s.heap (.tmp t::res)=some ds/\av (RA (nm ρ μ σ)) iq ds:=by intro sd e n1 n2 e2;rw [e] at hr;obtain ⟨q1,q2⟩:=RA.alV hr n1 n2;subst e2;refine ⟨fT s.env t::ds,?_,q2,h4⟩;simp only [Ei,h3,A2,A4]
  split at h2
  ·cases h2
  ·cases h2
  ·rename_i n1 n2;simp only [A0] at h2;exact key _ rfl (fun q e=>n1 q e) (fun e=>n2 e) h2.symm
 |.cell t agg size::res,iq,h=>by
  simp only [UJ] at h;have hr:=hR.env t;split at h
  case h_2=>cases h
  rename_i i off hs;rw [hs] at hr;obtain ⟨hi,j,g1,g2⟩:=hr;split at h
  case h_2=>cases h
  rename_i ds0 hg;obtain ⟨j',ds',b1,b2,b3⟩:=hR.mem.box (N:=nm ρ μ σ) hg;rw [g1] at b1;injection b1 with b1;subst b1
  split at h
  ·split at h
   case isFalse=>cases h
   rename_i hc;simp only [A1,A0] at h;obtain ⟨l,h1,rfl⟩:=h;obtain ⟨ds,h3,h4⟩:=Ma hR h1;refine ⟨.agg ((ds'.drop off).take size)::ds,?_,⟨_,rfl,(b3.drop off).take size⟩,h4⟩;simp only [Ei,g2,ji,b2,E7,A2];rw [C6 (by rw [<-b3.len];exact hc)]
   simp [h3]
  ·simp only [A1,A0] at h;obtain ⟨d,h0,l,h1,rfl⟩:=h;obtain ⟨ds,h3,h4⟩:=Ma hR h1;obtain ⟨d',h5,h6⟩:=b3.get off h0;refine ⟨d'::ds,?_,h6.toA,h4⟩;simp only [Ei,g2,ji,b2,C2,C7,h5,h3,A2,A4]
variable (hm:Rm b (nm ρ μ σ) s.heap s.nx σ.lens) (hbx:∀j∈b.aK,∃i ds,i < σ.nx/\μ i=some j/\bX σ.heap i=.box ds)
include hm hbx
theorem Te {i j:Nat} (hi:i < σ.nx) (hj:μ i=some j) {x:At} {aj ety:Nat} {fr al:Bool} (hg:bX σ.heap i=.arr x aj ety fr al):b.k0<=j:=by
 rcases hm.base i j hi hj with h|h
 ·exact h
 ·obtain ⟨i',ds,h1,h2,h3⟩:=hbx j h;have:=hm.inj i i' j hi h1 hj h2
  subst this;rw [hg] at h3;cases h3
theorem aaW {ck:CK} {sd:SD} {d:D} (hr:rJ (nm ρ μ σ) sd d) {x:At} {own:List Nat} (hc:Ck σ.heap ck sd=some (x,own)):
  ∃c,dH ρ x=some c/\PM s.heap b.k0 ck c d/\l8 (nm ρ μ σ) (Cm ck d) own/\(Cm ck d).Nodup:=by
 have LD:∀{ck:CK} {d:D},(∀a b c e,ck≠.own a b c e)->l8 (nm ρ μ σ) (Cm ck d) own/\(Cm ck d).Nodup:=by intro ck d h;cases ck<;>first|exact ⟨l8.nil,J1⟩|exact absurd rfl (h _ _ _ _)
 cases ck with
 |c=>
  cases sd with
  |a y=>
   simp only [Ck,A0,A3] at hc;obtain ⟨rfl,rfl⟩:=hc;obtain ⟨c,h1,h2⟩:=hr;exact ⟨c,h1,.inl h2,LD (by simp)⟩
  |full y=>
   simp only [Ck,A0,A3] at hc;obtain ⟨rfl,rfl⟩:=hc;obtain ⟨cs,n,h1,h2⟩:=hr;exact ⟨_,h1,.inl (.inr ⟨cs,n,rfl,h2⟩),LD (by simp)⟩
  |view i y=>
   simp only [Ck] at hc;split at hc
   case h_2=>cases hc
   rename_i z e t fr al hg;simp only [A0,A3] at hc;obtain ⟨rfl,rfl⟩:=hc;obtain ⟨hi,cs,len,h1,hr⟩:=hr;refine ⟨_,h1,?_,LD (by simp)⟩
   rcases hr with rfl|⟨j,off,h2,rfl,h3⟩
   ·exact .inl (.inl rfl)
   ·obtain ⟨_,ys,n,h4,h5,h6⟩:=h3 _ _ _ _ _ hg;obtain ⟨ys',n',g1,g2,g3⟩:=hm.arr (N:=nm ρ μ σ) hg;rw [h4] at g1;injection g1 with g1;injection g1 with g1 g1';subst g1 g1'
    rcases g3 with ⟨j',fz,k1,k2,_⟩|⟨k1,_⟩
    ·rw [h2] at k1;injection k1 with k1;subst k1
     exact .inr ⟨j,off,len,ys,e,fz,t,rfl,Te hm hbx hi h2 hg,k2,h5,by rw [h6]⟩
    ·rw [h2] at k1;cases k1
  |arr i=>
   simp only [Ck] at hc;split at hc
   case h_2=>cases hc
   rename_i y e t fr al hg;simp only [A0,A3] at hc;obtain ⟨rfl,rfl⟩:=hc;obtain ⟨cs,n,g1,g2,g3⟩:=hm.arr (N:=nm ρ μ σ) hg;refine ⟨_,g1,?_,LD (by simp)⟩
   obtain ⟨hi,hr⟩:=hr;rcases hr with ⟨j,len,h1,rfl,h3⟩|⟨h1,cs',n',rfl,h3⟩
   ·obtain ⟨cs',h4⟩:=h3 _ _ _ _ _ hg;rw [g1] at h4;injection h4 with h4;injection h4 with h4 h5;subst h4 h5
    rcases g3 with ⟨j',fz,k1,k2,_⟩|⟨k1,_⟩
    ·rw [h1] at k1;injection k1 with k1;subst k1
     exact .inr ⟨j,0,n,cs,e,fz,t,rfl,Te hm hbx hi h1 hg,k2,by omega,by rw [<-g2];simp⟩
    ·rw [h1] at k1;cases k1
   ·have h4:=h3 _ _ _ _ _ hg;rw [g1] at h4;injection h4 with h4;injection h4 with h4 h5;subst h4 h5
    exact .inl (.inr ⟨cs,n,rfl,rfl⟩)
  |_=>simp [Ck] at hc
 |d=>
  cases sd with
  |a y=>
   simp only [Ck,A0,A3] at hc;obtain ⟨rfl,rfl⟩:=hc;obtain ⟨c,h1,h2⟩:=hr;exact ⟨c,h1,h2,LD (by simp)⟩
  |full y=>
   simp only [Ck,A0,A3] at hc;obtain ⟨rfl,rfl⟩:=hc;obtain ⟨cs,n,h1,h2⟩:=hr;exact ⟨_,h1,.inr ⟨cs,n,rfl,h2⟩,LD (by simp)⟩
  |_=>simp [Ck] at hc
 |full=>
  cases sd with
  |full y=>
   simp only [Ck,A0,A3] at hc;obtain ⟨rfl,rfl⟩:=hc;obtain ⟨cs,n,h1,h2⟩:=hr;exact ⟨_,h1,⟨cs,n,rfl,h2⟩,LD (by simp)⟩
  |_=>simp [Ck] at hc
 |own aj ety fr al=>
  cases sd with
  |arr i=>
   simp only [Ck] at hc;split at hc
   case h_2=>cases hc
   rename_i y e t fr' al' hg;split at hc
   case isFalse=>cases hc
   rename_i hcond;obtain ⟨rfl,rfl,c3,c4⟩:=hcond;simp only [A0,A3] at hc;obtain ⟨rfl,rfl⟩:=hc;obtain ⟨cs,n,g1,g2,g3⟩:=hm.arr (N:=nm ρ μ σ) hg;obtain ⟨hi,hr⟩:=hr;have hfr:fr=false->fr'=false:=fun h=>by cases fr' with|false=>rfl|true=>rw [c3 rfl] at h;cases h
   rcases hr with ⟨j,len,h1,rfl,h3⟩|⟨h1,cs',n',rfl,h3⟩
   ·obtain ⟨cs',h4⟩:=h3 _ _ _ _ _ hg;rw [g1] at h4;injection h4 with h4;injection h4 with h4 h5;subst h4 h5
    rcases g3 with ⟨j',fz,k1,k2,k3,k4,k5⟩|⟨k1,_⟩
    ·rw [h1] at k1;injection k1 with k1;subst k1
     refine ⟨_,g1,⟨cs,n,rfl,g2,.inl ⟨j,fz,rfl,Te hm hbx hi h1 hg,k2,k3,k4,fun h=>k5 (hfr h)⟩⟩,?_,by simp [Cm]⟩
     intro q hq;simp [Cm] at hq;subst hq;exact ⟨i,by simp,hi,h1⟩
    ·rw [h1] at k1;cases k1
   ·have h4:=h3 _ _ _ _ _ hg;rw [g1] at h4;injection h4 with h4;injection h4 with h4 h5;subst h4 h5
    rcases g3 with ⟨j',fz,k1,_⟩|⟨k1,k2,k3⟩
    ·rw [h1] at k1;cases k1
    ·refine ⟨_,g1,⟨cs,n,rfl,g2,.inr ⟨rfl,?_,fun h=>k3 (hfr h)⟩⟩,l8.nil,J1⟩
     cases al with
     |false=>rfl
     |true=>rw [c4 rfl] at k2;cases k2
  |full y=>
   cases al with
   |true=>cases y<;>simp [Ck] at hc
   |false=>
    cases y with
    |z=>
     simp only [Ck,A0,A3] at hc;obtain ⟨rfl,rfl⟩:=hc;obtain ⟨cs,n,h1,rfl⟩:=hr;simp only [dH,A0,C.slice.injEq] at h1;obtain ⟨rfl,rfl⟩:=h1;exact ⟨.slice [] 0,rfl,⟨[],0,rfl,by simp,.inr ⟨rfl,rfl,fun _=>⟨rfl,rfl⟩⟩⟩,l8.nil,J1⟩
    |_=>simp [Ck] at hc
  |_=>simp [Ck] at hc
omit hbx in
theorem PK {a c o1 o2:List Nat} (h1:l8 (nm ρ μ σ) a o1) (h2:l8 (nm ρ μ σ) c o2) (ha:a.Nodup) (hc:c.Nodup) (ho:(o1++o2).Nodup):(a++c).Nodup:=by
 refine I0.2 ⟨ha,hc,fun j hj j' hj' e=>?_⟩
 subst e;obtain ⟨i,q1,q2,q3⟩:=h1 j hj;obtain ⟨i',p1,p2,p3⟩:=h2 j hj';have:=hm.inj i i' j q2 p2 q3 p3
 subst this;exact (I0.1 ho).2.2 i q1 i p1 rfl
theorem Vt:∀{ks:List CK} {iq:List SD} {ds:List D},av (rJ (nm ρ μ σ)) iq ds->∀{xs:List At} {own:List Nat},Oo σ.heap ks iq=some (xs,own)->
  ∃cs,nA ρ xs=some cs/\fB (PM s.heap b.k0) ks cs ds/\l8 (nm ρ μ σ) (BF ks ds) own/\(own.Nodup->(BF ks ds).Nodup)
 |[],[],[],_,xs,own,h=>by simp only [Oo,A0,A3] at h;obtain ⟨rfl,rfl⟩:=h;exact ⟨[],rfl,trivial,l8.nil,fun _=>J1⟩
 |k::ks,sd::iq,d::ds,hr,xs,own,h=>by simp only [Oo,A1,A0,A3,C1] at h;obtain ⟨x,o1,h1,xs',o2,h2,rfl,rfl⟩:=h;obtain ⟨c,q1,q2,q3,q4⟩:=aaW hm hbx hr.1 h1;obtain ⟨cs,p1,p2,p3,p4⟩:=Vt hr.2 h2;exact ⟨c::cs,by simp [nA,q1,p1],⟨q2,p2⟩,q3.append p3,fun ho=>PK hm q3 p3 q4 (p4 (I0.1 ho).2.1) ho⟩
 |[],_::_,_,_,_,_,h=>by simp [Oo] at h
 |_::_,[],_,_,_,_,h=>by simp [Oo] at h
 |[],[],_::_,hr,_,_,_=>hr.elim
 |_::_,_::_,[],hr,_,_,_=>hr.elim
theorem aiv {rs:RS} {sd:SD} {d:D} (hr:RA (nm ρ μ σ) sd d) {tv:TV} {own:List Nat} (h:afz σ.lens σ.heap rs sd=some (tv,own)):
  ∃v,Ua ρ tv=some v/\RsR s.heap b.k0 rs v d/\l8 (nm ρ μ σ) (Yo rs d) own/\(own.Nodup->(Yo rs d).Nodup):=by
 cases rs with
 |one k=>
  simp only [afz,A1,A0,A3,C1] at h;obtain ⟨x,o1,h1,rfl,rfl⟩:=h;have hc:rJ (nm ρ μ σ) sd d:=by
   cases sd with
   |agg ds=>cases k<;>simp [Ck] at h1
   |_=>exact hr
  obtain ⟨c,q1,q2,q3,q4⟩:=aaW hm hbx hc h1;exact ⟨.one c,by simp [Ua,q1],q2,q3,fun _=>q4⟩
 |agg ks=>
  cases sd with
  |agg iq=>
   simp only [afz,A1,A0,A3,C1] at h;obtain ⟨xs,o1,h1,rfl,rfl⟩:=h;obtain ⟨ds,rfl,hr⟩:=hr;obtain ⟨cs,p1,p2,p3,p4⟩:=Vt hm hbx hr h1;have e:Tt ρ (IB σ.lens xs)=nA ρ xs:=ER hm xs;exact ⟨.agg cs,by simp [Ua,e,p1],⟨ds,rfl,p2⟩,p3,p4⟩
  |_=>simp [afz] at h
theorem UB:∀{rs:List RS} {iq:List SD} {ds:List D},av (RA (nm ρ μ σ)) iq ds->∀{tvs:List TV} {own:List Nat},NL σ.lens σ.heap rs iq=some (tvs,own)->
  ∃vs,Dl ρ tvs=some vs/\fB (RsR s.heap b.k0) rs vs ds/\l8 (nm ρ μ σ) (oN rs ds) own/\(own.Nodup->(oN rs ds).Nodup)
 |[],[],[],_,xs,own,h=>by simp only [NL,A0,A3] at h;obtain ⟨rfl,rfl⟩:=h;exact ⟨[],rfl,trivial,l8.nil,fun _=>J1⟩
 |k::ks,sd::iq,d::ds,hr,xs,own,h=>by simp only [NL,A1,A0,A3,C1] at h;obtain ⟨x,o1,h1,xs',o2,h2,rfl,rfl⟩:=h;obtain ⟨c,q1,q2,q3,q4⟩:=aiv hm hbx hr.1 h1;obtain ⟨cs,p1,p2,p3,p4⟩:=UB hr.2 h2;exact ⟨c::cs,by simp [Dl,q1,p1],⟨q2,p2⟩,q3.append p3,fun ho=>PK hm q3 p3 (q4 (I0.1 ho).1) (p4 (I0.1 ho).2.1) ho⟩
 |[],_::_,_,_,_,_,h=>by simp [NL] at h
 |_::_,[],_,_,_,_,h=>by simp [NL] at h
 |[],[],_::_,hr,_,_,_=>hr.elim
 |_::_,_::_,[],hr,_,_,_=>hr.elim
end
theorem Zd {b:Bs} {ρ:List W} {μ:Nat->Option Nat} {σ:Sy} {s:St} (hR:Rl b ρ μ σ s):lu (nm ρ μ σ) (List.range b.aK.length) b.aK:=by
 have aux:∀(l:List Nat) (q:Nat),(∀p j,l[p]?=some j->q+p < σ.nx/\μ (q+p)=some j)->lu (nm ρ μ σ) ((List.range l.length).map (q+·)) l:=by
  intro l;induction l with
  |nil=>intro q _;trivial
  |cons a l ih=>
   intro q h;rw [C5,List.range_succ_eq_map,D4,List.map_map];refine ⟨h 0 a (by simp),?_⟩
   have:=ih (q+1) fun p j hp=>by
    have:=h (p+1) j (by simpa using hp)
    rw [show q+(p+1)=q+1+p by omega] at this
    exact this
   have e:((fun x=>q+x) ∘ Nat.succ)=(q+1+·):=by funext x;simp;omega
   rw [e];exact this
 have:=aux b.aK 0 fun p j hp=>by rw [E4];exact hR.aK p j hp
 simpa using this
theorem PY {b:Bs} {ρ:List W} {μ:Nat->Option Nat} {σ:Sy} {s:St} {call:qp} {head:qZ} {r:R} {cx:Cx} (hR:Rl b ρ μ σ s) (hl:b.aK.length=cx.bl.length) (hd:aA call head (Ty cx σ) ρ=some r):VK b cx.res cx.rs cx.bl r s:=by
 unfold Ty at hd;split at hd
 case h_2=>cases hd
 rename_i iq h1;split at hd
 case h_2=>cases hd
 rename_i tvs own h2;split at hd
 case h_2=>cases hd
 rename_i bs h3;split at hd
 case isFalse=>cases hd
 rename_i hn;have adY:=Zd hR;rw [hl] at adY;obtain ⟨ds,q1,q2⟩:=Ma hR h1;have hbx:∀j∈b.aK,∃i ds,i < σ.nx/\μ i=some j/\bX σ.heap i=.box ds:=by intro j hj;obtain ⟨i,p1,p2,p3⟩:=lu.mem adY j hj;obtain ⟨ds,p4⟩:=Az h3 i p1;exact ⟨i,ds,p2,p3,p4⟩
 obtain ⟨vs,r1,r2,r3,r4⟩:=UB hR.mem hbx q2 h2;obtain ⟨xss,c1,c2⟩:=BU hR.mem adY h3;simp only [aA,A1,A0] at hd;obtain ⟨vs',g1,xss',g2,rfl⟩:=hd;rw [r1] at g1;injection g1 with g1;subst g1
 rw [show DK ρ bs=_ from c1] at g2;injection g2 with g2;subst g2
 refine ⟨⟨ds,q1,r2,r4 (yY hn),fun j hj=>?_⟩,hR.mem.le,hR.mem.frame,c2⟩
 obtain ⟨i,p1,p2,p3⟩:=r3 j hj;exact hR.mem.lt i j p2 p3
end Go.Ey
namespace Go.Ey
def EV (F:DF) (c:gQ) (s:St) (x:Ex) (s':St):Prop:=∃n,bZ F n c s=some (x,s')
def Dm (F:DF):List Fr->Ex->St->St->Prop
 |[],x,s,s'=>(x=.normal\/x=.ret)/\s'=s
 |.seq _ c::K,.normal,s,s'=>∃x1 s1,EV F c s x1 s1/\Dm F K x1 s1 s'
 |.seq _ _::K,x,s,s'=>Dm F K x s s'
 |.blk id::K,.exit id',s,s'=>if id'=id then Dm F K .normal s s' else Dm F K (.exit id') s s'
 |.blk _::K,x,s,s'=>Dm F K x s s'
 |.loop _ c::K,.normal,s,s'=>∃x1 s1,EV F (.loop c) s x1 s1/\Dm F K x1 s1 s'
 |.loop _ _::K,x,s,s'=>Dm F K x s s'
def WF (B:gQ):List Fr->Prop
 |[]=>True
 |.seq p c::K=>iO B p=some (c,K)/\WF B K
 |.blk _::K=>WF B K
 |.loop p c::K=>iO B p=some (.loop c,K)/\WF B K
theorem PN {B:gQ}:∀{p:List Nat} {c:gQ} {K:List Fr},iO B p=some (c,K)->WF B K
 |[],c,K,h=>by simp only [iO,A0,A3] at h;obtain ⟨_,rfl⟩:=h;trivial
 |i::q,c,K,h=>by
  simp only [iO,A1] at h;obtain ⟨⟨c',K'⟩,h1,h2⟩:=h;have hw:=PN h1;split at h2<;>try (cases h2;done)
  all_goals (rename_i e;simp only at e;subst e;simp only [A0,A3] at h2;obtain ⟨_,rfl⟩:=h2)
  ·exact ⟨by simp [iO,h1],hw⟩
  ·exact hw
  ·exact hw
  ·exact hw
  ·exact hw
  ·exact ⟨h1,hw⟩
theorem H6 {F:DF} {s:St}:∀K:List Fr,Dm F K .ret s s
 |[]=>⟨.inr rfl,rfl⟩
 |.seq _ _::K=>H6 K
 |.blk _::K=>H6 K
 |.loop _ _::K=>H6 K
theorem EV.seq {F:DF} {a c:gQ} {s s1 s2:St} {x:Ex} (h1:EV F a s .normal s1) (h2:EV F c s1 x s2):EV F (.seq a c) s x s2:=by obtain ⟨n1,h1⟩:=h1;obtain ⟨n2,h2⟩:=h2;refine ⟨max n1 n2+1,?_⟩;simp only [bZ,ET (Nat.le_max_left n1 n2) a s _ h1,A2,A4];exact ET (Nat.le_max_right n1 n2) c s1 _ h2
theorem EV.loop {F:DF} {c:gQ} {s s1 s2:St} {x:Ex} (h1:EV F c s .normal s1) (h2:EV F (.loop c) s1 x s2):EV F (.loop c) s x s2:=by obtain ⟨n1,h1⟩:=h1;obtain ⟨n2,h2⟩:=h2;refine ⟨max n1 n2+1,?_⟩;simp only [bZ,ET (Nat.le_max_left n1 n2) c s _ h1,A2,A4];exact ET (Nat.le_max_right n1 n2) (.loop c) s1 _ h2
section
variable {F:DF} {B:gQ} {cx:Cx} {b:Bs} {call:qp} {head:qZ} {r:R}
def Hf (F:DF) (B:gQ) (cx:Cx) (head:qZ):Prop:=
 ∀(i:Nat) (ws:List W) (r:R),head i ws=some r->∀hh,cx.heads[i]?=some hh->∀c K,iO B hh.p=some (.loop c,K)->∀(b:Bs) (μ:Nat->Option Nat) (s:St),b.aK.length=cx.bl.length->Rl b ws μ (KR hh).1 s->(KR hh).2=ws.length->
  ∃x1 s1 s',EV F (.loop c) s x1 s1/\Dm F K x1 s1 s'/\VK b cx.res cx.rs cx.bl r s'
theorem K3 {k:Nat} {p:List Nat} {σ:Sy} {ρ:List W}:∀{hs:List HS} {i:Nat},aA call head (qo k p σ i hs) ρ=some r->∃j hh Ff ws,hs[j]?=some hh/\hh.p=p/\DW k hh σ=some Ff/\fQ ρ Ff=some ws/\head (i+j) ws=some r
 |[],i,hd=>by simp [qo,aA] at hd
 |h::hs,i,hd=>by
  have rest:aA call head (qo k p σ (i+1) hs) ρ=some r->∃j hh Ff ws,(h::hs)[j]?=some hh/\hh.p=p/\DW k hh σ=some Ff/\fQ ρ Ff=some ws/\head (i+j) ws=some r:=by intro hd;obtain ⟨j,hh,Ff,ws,q1,q2,q3,q4,q5⟩:=K3 hd;exact ⟨j+1,hh,Ff,ws,by simpa using q1,q2,q3,q4,by rw [show i+(j+1)=i+1+j by omega];exact q5⟩
  simp only [qo] at hd;split at hd
  ·rename_i hp;split at hd
   ·rename_i Ff ha;simp only [aA,A1] at hd;obtain ⟨ws,h1,h2⟩:=hd;exact ⟨0,h,Ff,ws,by simp,hp,ha,h1,h2⟩
   ·exact rest hd
  ·exact rest hd
variable (hh:Hf F B cx head) (hlen:b.aK.length=cx.bl.length)
include hh hlen
theorem aaD {p:List Nat} {c:gQ} {K:List Fr} (hloc:iO B p=some (.loop c,K)) {ρ:List W} {μ:Nat->Option Nat} {σ:Sy} {s:St} (hR:Rl b ρ μ σ s) (hd:aA call head (qo cx.bl.length p σ 0 cx.heads) ρ=some r):
  ∃x1 s1 s',EV F (.loop c) s x1 s1/\Dm F K x1 s1 s'/\VK b cx.res cx.rs cx.bl r s':=by
 obtain ⟨j,h,Ff,ws,q1,q2,q3,q4,q5⟩:=K3 hd;rw [<-hlen] at q3;obtain ⟨μ',q6,q7⟩:=abA hR q3 q4;subst q2;rw [E4] at q5;exact hh j ws r q5 h q1 c K hloc b μ' s hlen q6 q7
theorem Ej {rec:List Nat->gQ->List Fr->Sy->Nat->Kn->Tree}
  (hrec:∀p c K ρ μ σ kn s,iO B p=some (c,K)->Rl b ρ μ σ s->OU kn ρ->aA call head (rec p c K σ ρ.length kn) ρ=some r->∃x1 s1 s',EV F c s x1 s1/\Dm F K x1 s1 s'/\VK b cx.res cx.rs cx.bl r s'):
  ∀{K:List Fr} {ρ:List W} {μ:Nat->Option Nat} {σ:Sy} {kn:Kn} {s:St},WF B K->Rl b ρ μ σ s->OU kn ρ->aA call head (Qu cx rec K σ ρ.length kn) ρ=some r->∃s',Dm F K .normal s s'/\VK b cx.res cx.rs cx.bl r s'
 |[],ρ,μ,σ,kn,s,_,hR,hk,hd=>⟨s,⟨.inl rfl,rfl⟩,PY hR hlen hd⟩
 |.seq p c::K,ρ,μ,σ,kn,s,hw,hR,hk,hd=>by obtain ⟨x1,s1,s',h1,h2,h3⟩:=hrec p c K ρ μ σ kn s hw.1 hR hk hd;exact ⟨s',⟨x1,s1,h1,h2⟩,h3⟩
 |.blk _::K,ρ,μ,σ,kn,s,hw,hR,hk,hd=>Ej hrec (K:=K) hw hR hk hd
 |.loop p c::K,ρ,μ,σ,kn,s,hw,hR,hk,hd=>by obtain ⟨x1,s1,s',h1,h2,h3⟩:=aaD hh hlen hw.1 hR hd;exact ⟨s',⟨x1,s1,h1,h2⟩,h3⟩
theorem II {rec:List Nat->gQ->List Fr->Sy->Nat->Kn->Tree} {id:Nat}
  (hrec:∀p c K ρ μ σ kn s,iO B p=some (c,K)->Rl b ρ μ σ s->OU kn ρ->aA call head (rec p c K σ ρ.length kn) ρ=some r->∃x1 s1 s',EV F c s x1 s1/\Dm F K x1 s1 s'/\VK b cx.res cx.rs cx.bl r s'):
  ∀{K:List Fr} {ρ:List W} {μ:Nat->Option Nat} {σ:Sy} {kn:Kn} {s:St},WF B K->Rl b ρ μ σ s->OU kn ρ->aA call head (Ng cx rec id K σ ρ.length kn) ρ=some r->∃s',Dm F K (.exit id) s s'/\VK b cx.res cx.rs cx.bl r s'
 |[],ρ,μ,σ,kn,s,_,hR,hk,hd=>by simp [Ng,aA] at hd
 |.seq p c::K,ρ,μ,σ,kn,s,hw,hR,hk,hd=>II hrec (K:=K) hw.2 hR hk hd
 |.blk id'::K,ρ,μ,σ,kn,s,hw,hR,hk,hd=>by
  simp only [Ng] at hd;split at hd
  ·rename_i e;obtain ⟨s',h1,h2⟩:=Ej hh hlen hrec (K:=K) hw hR hk hd;exact ⟨s',by simp only [Dm];rw [C6 e];exact h1,h2⟩
  ·rename_i e;obtain ⟨s',h1,h2⟩:=II hrec (K:=K) hw hR hk hd;exact ⟨s',by simp only [Dm];rw [E0 e];exact h1,h2⟩
 |.loop p c::K,ρ,μ,σ,kn,s,hw,hR,hk,hd=>II hrec (K:=K) hw.2 hR hk hd
theorem Nz (hcall:qf F cx.sig call):∀(fuel:Nat) (p:List Nat) (c:gQ) (K:List Fr) (ρ:List W) (μ:Nat->Option Nat) (σ:Sy) (kn:Kn) (s:St),iO B p=some (c,K)->Rl b ρ μ σ s->OU kn ρ->aA call head (xk cx fuel p c K σ ρ.length kn) ρ=some r->
  ∃x1 s1 s',EV F c s x1 s1/\Dm F K x1 s1 s'/\VK b cx.res cx.rs cx.bl r s'
 |0,_,_,_,_,_,_,_,_,_,_,_,hd=>by simp [xk,aA] at hd
 |fuel+1,p,c,K,ρ,μ,σ,kn,s,hloc,hR,hk,hd=>by
  have ih:=Nz hcall fuel;have hw:=PN hloc;cases c with
  |skip=>
   obtain ⟨s',h1,h2⟩:=Ej hh hlen ih hw hR hk hd;exact ⟨.normal,s,s',⟨1,rfl⟩,h1,h2⟩
  |ret=>exact ⟨.ret,s,s,⟨1,rfl⟩,H6 K,PY hR hlen hd⟩
  |exit id=>
   obtain ⟨s',h1,h2⟩:=II hh hlen ih hw hR hk hd;exact ⟨.exit id,s,s',⟨1,rfl⟩,h1,h2⟩
  |region is=>
   obtain ⟨n0,s1,h1,ws,μ',σ',Bc,p1,p2,p3⟩:=tq hcall is ρ μ σ s kn hR hk hd;obtain ⟨s',h2,h3⟩:=Ej hh hlen ih hw p1 p2 p3;exact ⟨.normal,s1,s',⟨n0+1,by simp [bZ,h1 n0 (An _)]⟩,h2,h3⟩
  |draw is ws=>
   have hR0:Rl b ρ μ σ ⟨s.env,s.heap,s.nx+0⟩:=hR;obtain ⟨n0,e',h',ts,h1,ws',μ',σ',Bc,adJ,p1,p2,p3,_,p5⟩:=tC (nx:=s.nx) hcall is ρ μ σ s.env s.heap 0 kn [] hR0 hk hd;rw [E2] at p3;simp only at p3;split at p3
   case isFalse=>cases p3
   rename_i hok;have hok':BO ts ws=true:=G6 (fun i i' j a1 a2 a3 a4=>p1.mem.inj i i' j a1 a2 a3 a4) (pre:=[]) (pre':=[]) trivial p5 hok
   rw [E4] at p1;obtain ⟨s',h2,h3⟩:=Ej hh hlen ih hw p1 p2 p3;exact ⟨.normal,_,s',⟨n0+1,by simp [bZ,h1 n0 (An _),hok']⟩,h2,h3⟩
  |mix is ws=>simp [xk,aA] at hd
  |seq a c2=>
   have hl1:iO B (0::p)=some (a,.seq (1::p) c2::K):=by simp [iO,hloc]
   obtain ⟨x1,s1,s',h1,h2,h3⟩:=ih _ _ _ ρ μ σ kn s hl1 hR hk hd;cases x1 with
   |normal=>
    obtain ⟨x2,s2,h4,h5⟩:=h2;exact ⟨x2,s2,s',h1.seq h4,h5,h3⟩
   |exit id=>
    obtain ⟨n,hn⟩:=h1;exact ⟨.exit id,s1,s',⟨n+1,by simp [bZ,hn]⟩,h2,h3⟩
   |ret=>
    obtain ⟨n,hn⟩:=h1;exact ⟨.ret,s1,s',⟨n+1,by simp [bZ,hn]⟩,h2,h3⟩
  |cond x a c2=>
   simp only [xk] at hd;obtain ⟨t,Bc,e1,e2,e3⟩:=Ay rfl hk (Ew hR.env x) hd;cases t with
   |true=>
    have hl1:iO B (0::p)=some (a,K):=by simp [iO,hloc]
    obtain ⟨x1,s1,s',⟨n,h1⟩,h2,h3⟩:=ih _ _ _ ρ μ σ Bc s hl1 hR e2 e3;exact ⟨x1,s1,s',⟨n+1,by simp [bZ,e1,asBool,h1]⟩,h2,h3⟩
   |false=>
    have hl1:iO B (1::p)=some (c2,K):=by simp [iO,hloc]
    obtain ⟨x1,s1,s',⟨n,h1⟩,h2,h3⟩:=ih _ _ _ ρ μ σ Bc s hl1 hR e2 e3;exact ⟨x1,s1,s',⟨n+1,by simp [bZ,e1,asBool,h1]⟩,h2,h3⟩
  |block id c2=>
   have hl1:iO B (0::p)=some (c2,.blk id::K):=by simp [iO,hloc]
   obtain ⟨x1,s1,s',⟨n,h1⟩,h2,h3⟩:=ih _ _ _ ρ μ σ kn s hl1 hR hk hd;cases x1 with
   |normal=>exact ⟨.normal,s1,s',⟨n+1,by simp [bZ,h1]⟩,h2,h3⟩
   |ret=>exact ⟨.ret,s1,s',⟨n+1,by simp [bZ,h1]⟩,h2,h3⟩
   |exit id'=>
    simp only [Dm] at h2;by_cases he:id'=id
    ·rw [C6 he] at h2;exact ⟨.normal,s1,s',⟨n+1,by simp [bZ,h1,he]⟩,h2,h3⟩
    ·rw [E0 he] at h2;exact ⟨.exit id',s1,s',⟨n+1,by simp [bZ,h1,he]⟩,h2,h3⟩
  |loop c2=>exact aaD hh hlen hloc hR hd
end
structure afw (F:DF) (sig:Nat->Option eT) (G:GT) (fuel:Nat) (hs:Nat->List HS):Prop where
 fn:∀f tf,G.fn f=some tf->∃I s,F.code (s.cd f)=some I/\sig f=some s/\I.nparams=s.params.length/\tf=PR sig fuel s (hs f) I/\s.nat=false/\∀vs,F.nat (s.cd f) vs=none
 nat:∀f aJ bs r,G.fn f=none->G.nat f aJ bs=some r->∃s vs,sig f=some s/\s.nat=true/\s.boxes=[]/\bs=[]/\qA s.params aJ/\aJ=vs.map .v/\F.nat f vs=some r.1
section
variable {F:DF} {sig:Nat->Option eT} {G:GT} {fuel:Nat} {hs:Nat->List HS} (hT:afw F sig G fuel hs)
include hT
theorem YJ {n:Nat} (hc:qf F sig (runT G n)) (hd:∀f I s,F.code (s.cd f)=some I->sig f=some s->(∃tf,G.fn f=some tf)->Hf F I.body ⟨sig,hs f,I.res,s.rs,s.boxes⟩ (jC G n f)):
  ∀f I s,F.code (s.cd f)=some I->sig f=some s->(∃tf,G.fn f=some tf)->Hf F I.body ⟨sig,hs f,I.res,s.rs,s.boxes⟩ (jC G (n+1) f):=by
 intro f I s hI hs' ⟨tf,htf⟩ i ws r hr hh hhi c K hloc b μ st hlen hR hn;obtain ⟨I',s0,q1,q2,_,q4,_⟩:=hT.fn f tf htf;rw [hs'] at q2;injection q2 with q2;subst q2
 rw [hI] at q1;injection q1 with q1;subst q1
 simp only [jC,htf,A4,A1] at hr;obtain ⟨t,h1,h2⟩:=hr;subst q4;simp only [PR,List.getElem?_map] at h1;rw [show (hs f)[i]?=some hh from hhi] at h1
 simp only [Hj,A0] at h1;subst h1;simp only [uu,hloc] at h2;have hl1:iO I.body (0::hh.p)=some (c,.loop hh.p c::K):=by simp [iO,hloc]
 rw [hn] at h2;obtain ⟨x1,s1,s',g1,g2,g3⟩:=Nz (cx:=⟨sig,hs f,I.res,s.rs,s.boxes⟩) (hd f I s hI hs' ⟨_,htf⟩) hlen hc fuel _ _ _ ws μ _ [] st hl1 hR (fun i j t h=>by simp [Xe] at h) h2
 cases x1 with
 |normal=>
  obtain ⟨x2,s2,g4,g5⟩:=g2;exact ⟨x2,s2,s',g1.loop g4,g5,g3⟩
 |exit id=>
  obtain ⟨m,hm⟩:=g1;exact ⟨.exit id,s1,s',⟨m+1,by simp [bZ,hm]⟩,g2,g3⟩
 |ret=>
  obtain ⟨m,hm⟩:=g1;exact ⟨.ret,s1,s',⟨m+1,by simp [bZ,hm]⟩,g2,g3⟩
end
theorem vQ {α:Type} {k:List W->Option α} {r:α}:∀{ps:List PS} {aJ:List LA} {ρ:List W},bS k ps aJ ρ=some r->qA ps aJ/\∃ws,k (ρ++ws)=some r/\
  ∀{aK:List Nat} {ds:List D} {N:Nm} {post:List W} {t:Nat},fB (Zf aK) ps aJ ds->N.ρ=ρ++ws++post->(∀q j,aK[q]?=some j->q < N.nx/\N.μ q=some j)->∀{e:List (Nat×SD)} {n':Nat} {l:List (Nat×Nat)},Fy ps t ρ.length=(e,n',l)->
   n'=ρ.length+ws.length/\(∀u,RD N (Ae e u) (fT (jf t ds) u))/\∀i m,(i,m)∈l->∃xs,gG N.ρ i=some (.l xs)/\xs.length=m
 |[],[],ρ,h=>by
  refine ⟨trivial,[],by rw [Cl];exact h,?_⟩
  intro aK ds N post t ha hρ hl e n' l he;cases ds with
  |nil=>
   simp only [Fy,A3] at he;obtain ⟨rfl,rfl,rfl⟩:=he;exact ⟨by simp,fun u=>trivial,by simp⟩
  |cons _ _=>exact ha.elim
 |.one::ps,.v (.one c)::aJ,ρ,h=>by
  simp only [bS] at h;obtain ⟨h1,ws,h2,h3⟩:=vQ h;refine ⟨h1,.c c::ws,by rw [B9] at h2;exact h2,?_⟩
  intro aK ds N post t ha hρ hl e n' l he;cases ds with
  |nil=>exact ha.elim
  |cons d ds=>
   cases e1:Fy ps (t+1) (ρ.length+1) with
   |mk e' p=>
    obtain ⟨n1,l1⟩:=p;simp only [Fy,e1,A3] at he;obtain ⟨rfl,rfl,rfl⟩:=he;obtain ⟨q1,q2,q3⟩:=h3 (N:=N) (post:=post) (t:=t+1) ha.2 (by rw [hρ];simp) hl (e:=e') (n':=n1) (l:=l1) (by rw [Ax];exact e1)
    refine ⟨by rw [q1];simp;omega,fun u=>?_,q3⟩
    simp only [Ae,jf,fT];by_cases hu:t=u
    ·rw [C6 hu,C6 hu];exact ⟨c,by rw [hρ,B9];exact at_new ρ c _,ha.1⟩
    ·rw [E0 hu,E0 hu];exact q2 u
 |.agg m::ps,.v (.agg xs)::aJ,ρ,h=>by
  simp only [bS] at h;split at h
  case isFalse=>cases h
  rename_i hm;obtain ⟨h1,ws,h2,h3⟩:=vQ h;refine ⟨⟨hm,h1⟩,.l xs::ws,by rw [B9] at h2;exact h2,?_⟩
  intro aK ds N post t ha hρ hl e n' l he;cases ds with
  |nil=>exact ha.elim
  |cons d ds=>
   cases e1:Fy ps (t+1) (ρ.length+1) with
   |mk e' p=>
    obtain ⟨n1,l1⟩:=p;simp only [Fy,e1,A3] at he;obtain ⟨rfl,rfl,rfl⟩:=he;obtain ⟨q1,q2,q3⟩:=h3 (N:=N) (post:=post) (t:=t+1) ha.2 (by rw [hρ];simp) hl (e:=e') (n':=n1) (l:=l1) (by rw [Ax];exact e1)
    have hg:gG N.ρ ρ.length=some (.l xs):=by rw [hρ,B9];exact mJ ρ _ _
    refine ⟨by rw [q1];simp;omega,fun u=>?_,fun i q hi=>?_⟩
    ·simp only [Ae,jf,fT];by_cases hu:t=u
     ·rw [C6 hu,C6 hu];obtain ⟨⟨_,ds',rfl,a2⟩,_⟩:=ha;exact ⟨ds',rfl,Ih hg (C4 ..) hm a2⟩
     ·rw [E0 hu,E0 hu];exact q2 u
    ·simp only [D2,A3] at hi;rcases hi with ⟨rfl,rfl⟩|hi
     ·exact ⟨xs,hg,hm⟩
     ·exact q3 i q hi
 |.ref b o::ps,.ref b' o'::aJ,ρ,h=>by
  simp only [bS] at h;split at h
  case isFalse=>cases h
  rename_i hm;obtain ⟨h1,ws,h2,h3⟩:=vQ h;refine ⟨⟨hm.1.symm,hm.2.symm,h1⟩,ws,h2,?_⟩;intro aK ds N post t ha hρ hl e n' l he;cases ds with
  |nil=>exact ha.elim
  |cons d ds=>
   cases e1:Fy ps (t+1) ρ.length with
   |mk e' p=>
    obtain ⟨n1,l1⟩:=p;simp only [Fy,e1,A3] at he;obtain ⟨rfl,rfl,rfl⟩:=he;obtain ⟨q1,q2,q3⟩:=h3 (N:=N) (post:=post) (t:=t+1) ha.2 hρ hl e1;refine ⟨q1,fun u=>?_,q3⟩
    simp only [Ae,jf,fT];by_cases hu:t=u
    ·rw [C6 hu,C6 hu];obtain ⟨_,_,j,a1,a2⟩:=ha.1;obtain ⟨l1',l2'⟩:=hl b j a1;exact ⟨l1',j,l2',a2⟩
    ·rw [E0 hu,E0 hu];exact q2 u
 |.fq g caps::ps,.ref b' o'::aJ,ρ,h=>by
  simp only [bS] at h;split at h
  case isFalse=>cases h
  rename_i hm;obtain ⟨h1,ws,h2,h3⟩:=vQ h;refine ⟨⟨hm.1,hm.2,h1⟩,ws,h2,?_⟩;intro aK ds N post t ha hρ hl e n' l he;cases ds with
  |nil=>exact ha.elim
  |cons d ds=>
   cases e1:Fy ps (t+1) ρ.length with
   |mk e' p=>
    obtain ⟨n1,l1⟩:=p;simp only [Fy,e1,A3] at he;obtain ⟨rfl,rfl,rfl⟩:=he;obtain ⟨q1,q2,q3⟩:=h3 (N:=N) (post:=post) (t:=t+1) ha.2 hρ hl e1;refine ⟨q1,fun u=>?_,q3⟩
    simp only [Ae,jf,fT];by_cases hu:t=u
    ·rw [C6 hu,C6 hu];obtain ⟨_,_,cs,rfl,a2⟩:=ha.1;exact ⟨cs,rfl,a2.mono fun p q ⟨c1,c2⟩=>⟨(hl _ _ c1).1,(hl _ _ c1).2,c2⟩⟩
    ·rw [E0 hu,E0 hu];exact q2 u
 |.fq _ _::_,[],_,h=>by simp [bS] at h
 |.fq _ _::_,.v _::_,_,h=>by simp [bS] at h
 |[],_::_,_,h=>by simp [bS] at h
 |.one::_,[],_,h=>by simp [bS] at h
 |.agg _::_,[],_,h=>by simp [bS] at h
 |.ref _ _::_,[],_,h=>by simp [bS] at h
 |.one::_,.v (.agg _)::_,_,h=>by simp [bS] at h
 |.one::_,.v (.full _ _)::_,_,h=>by simp [bS] at h
 |.agg _::_,.v (.full _ _)::_,_,h=>by simp [bS] at h
 |.one::_,.ref _ _::_,_,h=>by simp [bS] at h
 |.agg _::_,.v (.one _)::_,_,h=>by simp [bS] at h
 |.agg _::_,.ref _ _::_,_,h=>by simp [bS] at h
 |.ref _ _::_,.v _::_,_,h=>by simp [bS] at h
theorem Li {α:Type} {k:List W->Option α} {r:α}:∀{ms:List Nat} {bs:List (List C)} {ρ:List W},fV k ms bs ρ=some r->av (fun m (xs:List C)=>xs.length=m) ms bs/\k (ρ++bs.map .l)=some r
 |[],[],ρ,h=>⟨trivial,by rw [Kx,Cl];exact h⟩
 |m::ms,xs::bs,ρ,h=>by
  simp only [fV] at h;split at h
  case isFalse=>cases h
  rename_i hm;obtain ⟨h1,h2⟩:=Li h;exact ⟨⟨hm,h1⟩,by rw [B9] at h2;exact h2⟩
 |[],_::_,_,h=>by simp [fV] at h
 |_::_,[],_,h=>by simp [fV] at h
theorem U3:∀{ms:List Nat} {b n:Nat} {hp:List (Nat×SO)} {n':Nat} {l:List (Nat×Nat)},Yc ms b n=(hp,n',l)->n'=n+ms.length/\(∀i,i < b\/b+ms.length<=i->bX hp i=.dead)/\(∀q m,ms[q]?=some m->bX hp (b+q)=.box ((Ba (n+q) 0 m).map .a))/\∀i m,(i,m)∈l->∃q,i=n+q/\ms[q]?=some m
 |[],b,n,hp,n',l,h=>by simp only [Yc,A3] at h;obtain ⟨rfl,rfl,rfl⟩:=h;exact ⟨rfl,fun _ _=>rfl,by simp,by simp⟩
 |m::ms,b,n,hp,n',l,h=>by
  cases e:Yc ms (b+1) (n+1) with
  |mk hp' p=>
   obtain ⟨n1,l1⟩:=p;simp only [Yc,e,A3] at h;obtain ⟨rfl,rfl,rfl⟩:=h;obtain ⟨q1,q2,q3,q4⟩:=U3 e;refine ⟨by rw [q1];simp;omega,fun i hi=>?_,fun q m' hq=>?_,fun i q hi=>?_⟩
   ·simp only [C5] at hi;rw [dN,E0 (by omega)]
    exact q2 i (by omega)
   ·cases q with
    |zero=>
     simp only [C0,A0] at hq;subst hq;rw [dN,C6 (by omega)];rfl
    |succ q=>
     simp only [Bm] at hq;rw [dN,E0 (by omega),show b+(q+1)=b+1+q by omega,q3 q m' hq,show n+1+q=n+(q+1) by omega]
   ·simp only [D2,A3] at hi;rcases hi with ⟨rfl,rfl⟩|hi
    ·exact ⟨0,rfl,rfl⟩
    ·obtain ⟨p,h1,h2⟩:=q4 i q hi;exact ⟨p+1,by omega,by simpa using h2⟩
theorem P7:∀{l:List Nat},l.Nodup->∀{q q' j:Nat},l[q]?=some j->l[q']?=some j->q=q'
 |[],_,q,q',j,h,_=>by simp at h
 |a::l,hn,q,q',j,h,h'=>by
  rw [Kp] at hn;cases q with
  |zero=>
   simp only [C0,A0] at h;subst h;cases q' with
   |zero=>rfl
   |succ q'=>simp only [Bm] at h';exact absurd (C3 h') hn.1
  |succ q=>cases q' with
   |zero=>
    simp only [C0,A0] at h';subst h';simp only [Bm] at h;exact absurd (C3 h) hn.1
   |succ q'=>simp only [Bm] at h h';rw [P7 hn.2 h h']
section
variable {F:DF} {sig:Nat->Option eT} {G:GT} {fuel:Nat} {hs:Nat->List HS} (hT:afw F sig G fuel hs)
include hT
theorem Yq {n:Nat} (hc:qf F sig (runT G n)) (hd:∀f I s,F.code (s.cd f)=some I->sig f=some s->(∃tf,G.fn f=some tf)->Hf F I.body ⟨sig,hs f,I.res,s.rs,s.boxes⟩ (jC G n f)):qf F sig (runT G (n+1)):=by
 intro f aJ bs r hr;rw [runT] at hr;split at hr
 case h_2 hnone=>
  obtain ⟨s,vs,k1,k2,k3,k4,k5,k6,k7⟩:=hT.nat f aJ bs r hnone hr;refine ⟨s,k1,k5,by rw [k3,k4];trivial,fun h=>(by rw [k2] at h;cases h),fun _=>⟨vs,k6,1,fun m hm=>?_⟩⟩
  obtain ⟨m',rfl⟩:∃m',m=m'+1:=⟨m - 1,by omega⟩
  rw [jL,k7]
 rename_i tf htf;have hb:=hr;obtain ⟨I,s,q1,q2,q3,q4,hsn,hnn⟩:=hT.fn f tf htf;have hdf:=hd f I s q1 q2 ⟨tf,htf⟩;subst q4;simp only [CZ,PR] at hb;obtain ⟨hsh,ws,h1,h2⟩:=vQ hb;obtain ⟨h3,h4⟩:=Li h1;rw [E2] at h4;refine ⟨s,q2,hsh,h3,fun _=>⟨fun h k aK ds ha hbx hnd hlk=>?_,hnn⟩,fun h=>(by rw [hsn] at h;cases h)⟩
 have hl3:=hbx.ab3;cases e1:Fy s.params 0 0 with
 |mk env' p1=>
  obtain ⟨n1,l1⟩:=p1;cases e2:Yc s.boxes 0 n1 with
  |mk hp p2=>
   obtain ⟨n2,l2⟩:=p2;have eS:MP s=(⟨env',hp,s.boxes.length,l1++l2⟩,n2):=by simp only [MP,e1,e2]
   obtain ⟨b1,b2,b3,b4⟩:=U3 e2
   let N:Nm:=nm (ws++bs.map .l) (fun q=>aK[q]?) ⟨env',hp,s.boxes.length,l1++l2⟩
   have hlq:∀(q j:Nat),aK[q]?=some j->q < s.boxes.length:=fun q j hq=>by have:=(As.1 hq).1;omega
   obtain ⟨r1,r2,r3⟩:=h2 (N:=N) (post:=bs.map .l) (t:=0) ha (by simp [N,nm]) (fun q j hq=>⟨hlq q j hq,hq⟩) (e:=env') (n':=n1) (l:=l1) e1
   have hn1:n1=ws.length:=by rw [r1];simp
   subst hn1;have hwq:∀(q:Nat) (xs:List C),bs[q]?=some xs->gG (ws++bs.map .l) (ws.length+q)=some (.l xs):=fun q xs hq=>by
    have:=U0 ws bs q xs hq []
    rw [Cl] at this;exact this
   have hR:Rl ⟨h,k,aK⟩ (ws++bs.map .l) (fun q=>aK[q]?) ⟨env',hp,s.boxes.length,l1++l2⟩ ⟨jf 0 ds,h,k⟩:=by
    refine ⟨r2,⟨fun q=>?_,fun q q' j _ _ g3 g4=>P7 hnd g3 g4,fun q j _ g2=>hlk j (C3 g2),fun q hq=>b2 q (.inr (by have hq':s.boxes.length<=q:=hq;omega)),fun q j _ g2=> .inr (C3 g2),fun j _ _=>rfl,An _,fun i m hi=>?_⟩,fun q j hq=>⟨hlq q j hq,hq⟩⟩
    ·show Sr N h q (bX hp q)
     by_cases hq:q < s.boxes.length
     ·have hj:aK[q]?=some (aK[q]'(by omega)):=A6 (by omega)
      obtain ⟨m,xs,c1,c2,c3,ds',c4,c5⟩:=hbx.get hj;have:=b3 q m c1
      rw [E4] at this;rw [this];exact ⟨_,ds',hj,c4,Ih (N:=N) (hwq q xs c2) (C4 ..) c3 c5⟩
     ·rw [b2 q (.inr (by omega))];trivial
    ·rw [B0] at hi;rcases hi with hi|hi
     ·exact r3 i m hi
     ·obtain ⟨q,rfl,c1⟩:=b4 i m hi;have hqb:q < s.boxes.length:=(As.1 c1).1;have hj:aK[q]?=some (aK[q]'(by omega)):=A6 (by omega)
      obtain ⟨m',xs,c2,c3,c4,_⟩:=hbx.get hj;rw [c1] at c2;injection c2 with c2;subst c2
      exact ⟨xs,hwq q xs c3,c4⟩
   rw [eS] at h4;simp only at h4;have hn2:n2=(ws++bs.map W.l).length:=by rw [b1,Ax,Lw];omega
   rw [hn2] at h4;obtain ⟨x1,s1,s',⟨m,g1⟩,g2,g3⟩:=Nz (b:=⟨h,k,aK⟩) (cx:=⟨sig,hs f,I.res,s.rs,s.boxes⟩) (B:=I.body) hdf hl3.2.symm hc fuel [] I.body [] _ _ _ [] _ rfl hR (fun i j t hi=>by simp [Xe] at hi) h4
   obtain ⟨g4,rfl⟩:=g2;obtain ⟨⟨rs,k1,k2,k3,k4⟩,k5,k6,k7⟩:=g3;refine ⟨m+1,rs,s'.heap,s'.nx,?_,k5,k6,k7,k2,k3,k4⟩;have hlen:ds.length=I.nparams:=by rw [q3,<-ha.ab3.2]
   simp only [gu,q1,A2,A4];rw [C6 hlen,g1];simp only [A4];rcases g4 with rfl|rfl<;>simp [k1]
theorem ZW:∀n,qf F sig (runT G n)/\∀f I s,F.code (s.cd f)=some I->sig f=some s->(∃tf,G.fn f=some tf)->Hf F I.body ⟨sig,hs f,I.res,s.rs,s.boxes⟩ (jC G n f)
 |0=>⟨fun f aJ bs r h=>by simp [runT] at h,fun f I s _ _ _ i ws r h=>by simp [jC] at h⟩
 |n+1=>by obtain ⟨h1,h2⟩:=ZW n;exact ⟨Yq hT h1 h2,YJ hT h1 h2⟩
theorem agp {f:Nat} {vs rs:List V} {bs':List (List C)} (hcd:∀s,sig f=some s->s.code=none) (h:bq G f (vs.map .v) []=some (rs,bs')):∃n,jL F n f vs=some rs:=by
 obtain ⟨n,hn⟩:=R8 h;obtain ⟨s,q1,q2,q3,q4⟩:=(ZW hT n).1 _ _ _ _ hn;have hb:s.boxes=[]:=by cases hsb:s.boxes with|nil=>rfl|cons _ _=>rw [hsb] at q3;exact q3.elim
 cases hsn:s.nat with
 |false=>
  obtain ⟨k1,k2⟩:=q4.1 hsn;have alL:s.cd f=f:=by simp [eT.cd,hcd s q1]
  rw [alL] at k1 k2;obtain ⟨n0,h0⟩:=k1.fn q2 hb (k2 _);exact ⟨n0,h0 n0 (An _)⟩
 |true=>
  obtain ⟨vs',k1,n0,h0⟩:=q4.2 hsn;have inj:∀a b:List V,a.map LA.v=b.map LA.v->a=b:=by
   intro a;induction a with
   |nil=>intro b hb;cases b with|nil=>rfl|cons _ _=>simp at hb
   |cons x a ih=>intro b hb;cases b with
    |nil=>simp at hb
    |cons y b=>simp only [D4,Dg,LA.v.injEq] at hb;rw [hb.1,ih b hb.2]
  rw [inj _ _ k1];exact ⟨n0,h0 n0 (An _)⟩
end
end Go.Ey
