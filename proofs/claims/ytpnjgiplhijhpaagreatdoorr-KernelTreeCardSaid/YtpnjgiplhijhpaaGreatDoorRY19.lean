/- A part. -/
import Derived.Test.YtpnjgiplhijhpaaGreatDoorRY18
set_option linter.all false
namespace Go.Ey
structure Iw (b:Bs) (res:List RP) (rs:List RS) (boxes:List Nat) (r:R) (s:St):Prop where
 ex:∃ds,oG s.env s.heap res=some ds/\bL (R4 s.heap b.k0) rs r.1 ds/\(iH rs ds).Nodup/\∀j∈iH rs ds,j < s.nx
 le:b.k0<=s.nx
 frame:∀j,j < b.k0->j ∉ b.ai->af s.heap j=af b.h0 j
 boxes:bL (sJ s.heap) boxes r.2 b.ai
section
variable {b:Bs} {ρ:List W} {μ:Nat->Option Nat} {σ:Sy} {s:St} {call:uL} {head:wu} {r:R}
theorem RA.WC {N:Nm} {sd:SD} {d:D} (hr:RD N sd d) (h1:∀q,sd≠.dB q) (h2:sd≠.fK):(∀q,d≠.dB q)/\RA N sd d:=by
 cases sd with
 |fK=>exact absurd rfl h2
 |dB q=>exact absurd rfl (h1 q)
 |a x=>refine ⟨fun q e=>?_,hr⟩;subst e;obtain ⟨c,_,h|⟨cs,n,_,h⟩⟩:=hr<;>cases h
 |full x=>refine ⟨fun q e=>?_,hr⟩;subst e;obtain ⟨cs,n,_,h⟩:=hr;cases h
 |loc i o=>refine ⟨fun q e=>?_,hr⟩;subst e;obtain ⟨_,j,_,h⟩:=hr;cases h
 |arr i=>refine ⟨fun q e=>?_,hr⟩;subst e;obtain ⟨_,⟨j,len,_,h,_⟩|⟨_,cs,n,h,_⟩⟩:=hr<;>cases h
 |view i x=>refine ⟨fun q e=>?_,hr⟩;subst e;obtain ⟨_,cs,len,_,h|⟨j,off,_,h,_⟩⟩:=hr<;>cases h
 |gU i x o=>refine ⟨fun q e=>?_,hr⟩;subst e;obtain ⟨_,kd,q,_,_,⟨j,o',_,h,_⟩|⟨_,cs,h,_⟩⟩:=hr<;>cases h
 |ptr r o e=>refine ⟨fun q e=>?_,hr⟩;subst e;obtain ⟨xs,rest,_,_,h⟩:=hr;cases h
 |bJ f c=>refine ⟨fun q e=>?_,hr⟩;subst e;obtain ⟨c',h,_⟩:=hr;cases h
 |agg ds=>refine ⟨fun q e=>?_,hr⟩;subst e;obtain ⟨ds',h,_⟩:=hr;cases h
theorem y5 (hR:Rl b ρ μ σ s):∀{res:List RP} {dN:List SD},Ir σ res=some dN->∃ds,oG s.env s.heap res=some ds/\aj (RA (nm ρ μ σ)) dN ds
 |[],dN,h=>by simp only [Ir,Option.some.injEq] at h;subst h;exact ⟨[],rfl,trivial⟩
 |.tmp t::res,dN,h=>by
  simp only [Ir,Option.bind_eq_some_iff] at h;obtain ⟨ae7,h1,h2⟩:=h;obtain ⟨ds,h3,h4⟩:=y5 hR h1;have hr:=hR.env t;have key:∀sd,lS σ.env t=sd->(∀q,sd≠.dB q)->sd≠.fK->dN=sd::ae7->∃ds,oG s.env s.heap (.tmp t::res)=some ds/\aj (RA (nm ρ μ σ)) dN ds:=by intro sd e n1 n2 e2;rw [e] at hr;obtain ⟨q1,q2⟩:=RA.WC hr n1 n2;subst e2;refine ⟨bS s.env t::ds,?_,q2,h4⟩;simp only [oG,h3,Option.bind_eq_bind,Option.bind_some]
  split at h2
  ·cases h2
  ·cases h2
  ·rename_i n1 n2;simp only [Option.some.injEq] at h2;exact key _ rfl (fun q e=>n1 q e) (fun e=>n2 e) h2.symm
 |.cell t agg size::res,dN,h=>by
  simp only [Ir] at h;have hr:=hR.env t;split at h
  case h_2=>cases h
  rename_i i off hs;rw [hs] at hr;obtain ⟨hi,j,g1,g2⟩:=hr;split at h
  case h_2=>cases h
  rename_i ds0 hg;obtain ⟨j',ds',b1,b2,b3⟩:=hR.mem.box (N:=nm ρ μ σ) hg;rw [g1] at b1;injection b1 with b1;subst b1
  split at h
  ·split at h
   case isFalse=>cases h
   rename_i hc;simp only [Option.bind_eq_some_iff,Option.some.injEq] at h;obtain ⟨l,h1,rfl⟩:=h;obtain ⟨ds,h3,h4⟩:=y5 hR h1;refine ⟨.agg ((ds'.drop off).take size)::ds,?_,⟨_,rfl,(b3.drop off).take size⟩,h4⟩;simp only [oG,g2,dG,b2,if_true,Option.bind_eq_bind];rw [if_pos (by rw [<-b3.len];exact hc)]
   simp [h3]
  ·simp only [Option.bind_eq_some_iff,Option.some.injEq] at h;obtain ⟨d,h0,l,h1,rfl⟩:=h;obtain ⟨ds,h3,h4⟩:=y5 hR h1;obtain ⟨d',h5,h6⟩:=b3.get off h0;refine ⟨d'::ds,?_,h6.toA,h4⟩;simp only [oG,g2,dG,b2,Bool.false_eq_true,if_false,h5,h3,Option.bind_eq_bind,Option.bind_some]
variable (hm:Rm b (nm ρ μ σ) s.heap s.nx σ.lens) (hbx:∀j∈b.ai,∃i ds,i < σ.nx/\μ i=some j/\aM σ.heap i=.box ds)
include hm hbx
theorem EM {i j:Nat} (hi:i < σ.nx) (hj:μ i=some j) {x:At} {aa ety:Nat} {fr al:Bool} (hg:aM σ.heap i=.arr x aa ety fr al):b.k0<=j:=by
 rcases hm.base i j hi hj with h|h
 ·exact h
 ·obtain ⟨i',ds,h1,h2,h3⟩:=hbx j h;have:=hm.inj i i' j hi h1 hj h2
  subst this;rw [hg] at h3;cases h3
theorem Lp {ck:CK} {sd:SD} {d:D} (hr:jo (nm ρ μ σ) sd d) {x:At} {own:List Nat} (hc:oF σ.heap ck sd=some (x,own)):
  ∃c,aV ρ x=some c/\CY s.heap b.k0 ck c d/\gz (nm ρ μ σ) (oL ck d) own/\(oL ck d).Nodup:=by
 have yA:∀{ck:CK} {d:D},(∀a b c e,ck≠.own a b c e)->gz (nm ρ μ σ) (oL ck d) own/\(oL ck d).Nodup:=by intro ck d h;cases ck<;>first|exact ⟨gz.nil,List.nodup_nil⟩|exact absurd rfl (h _ _ _ _)
 cases ck with
 |c=>
  cases sd with
  |a y=>
   simp only [oF,Option.some.injEq,Prod.mk.injEq] at hc;obtain ⟨rfl,rfl⟩:=hc;obtain ⟨c,h1,h2⟩:=hr;exact ⟨c,h1,.inl h2,yA (by simp)⟩
  |full y=>
   simp only [oF,Option.some.injEq,Prod.mk.injEq] at hc;obtain ⟨rfl,rfl⟩:=hc;obtain ⟨cs,n,h1,h2⟩:=hr;exact ⟨_,h1,.inl (.inr ⟨cs,n,rfl,h2⟩),yA (by simp)⟩
  |view i y=>
   simp only [oF] at hc;split at hc
   case h_2=>cases hc
   rename_i z e t fr al hg;simp only [Option.some.injEq,Prod.mk.injEq] at hc;obtain ⟨rfl,rfl⟩:=hc;obtain ⟨hi,cs,len,h1,hr⟩:=hr;refine ⟨_,h1,?_,yA (by simp)⟩
   rcases hr with rfl|⟨j,off,h2,rfl,h3⟩
   ·exact .inl (.inl rfl)
   ·obtain ⟨_,ys,n,h4,h5,h6⟩:=h3 _ _ _ _ _ hg;obtain ⟨ys',n',g1,g2,g3⟩:=hm.arr (N:=nm ρ μ σ) hg;rw [h4] at g1;injection g1 with g1;injection g1 with g1 g1';subst g1 g1'
    rcases g3 with ⟨j',fz,k1,k2,_⟩|⟨k1,_⟩
    ·rw [h2] at k1;injection k1 with k1;subst k1
     exact .inr ⟨j,off,len,ys,e,fz,t,rfl,EM hm hbx hi h2 hg,k2,h5,by rw [h6]⟩
    ·rw [h2] at k1;cases k1
  |arr i=>
   simp only [oF] at hc;split at hc
   case h_2=>cases hc
   rename_i y e t fr al hg;simp only [Option.some.injEq,Prod.mk.injEq] at hc;obtain ⟨rfl,rfl⟩:=hc;obtain ⟨cs,n,g1,g2,g3⟩:=hm.arr (N:=nm ρ μ σ) hg;refine ⟨_,g1,?_,yA (by simp)⟩
   obtain ⟨hi,hr⟩:=hr;rcases hr with ⟨j,len,h1,rfl,h3⟩|⟨h1,cs',n',rfl,h3⟩
   ·obtain ⟨cs',h4⟩:=h3 _ _ _ _ _ hg;rw [g1] at h4;injection h4 with h4;injection h4 with h4 h5;subst h4 h5
    rcases g3 with ⟨j',fz,k1,k2,_⟩|⟨k1,_⟩
    ·rw [h1] at k1;injection k1 with k1;subst k1
     exact .inr ⟨j,0,n,cs,e,fz,t,rfl,EM hm hbx hi h1 hg,k2,by omega,by rw [<-g2];simp⟩
    ·rw [h1] at k1;cases k1
   ·have h4:=h3 _ _ _ _ _ hg;rw [g1] at h4;injection h4 with h4;injection h4 with h4 h5;subst h4 h5
    exact .inl (.inr ⟨cs,n,rfl,rfl⟩)
  |_=>simp [oF] at hc
 |d=>
  cases sd with
  |a y=>
   simp only [oF,Option.some.injEq,Prod.mk.injEq] at hc;obtain ⟨rfl,rfl⟩:=hc;obtain ⟨c,h1,h2⟩:=hr;exact ⟨c,h1,h2,yA (by simp)⟩
  |full y=>
   simp only [oF,Option.some.injEq,Prod.mk.injEq] at hc;obtain ⟨rfl,rfl⟩:=hc;obtain ⟨cs,n,h1,h2⟩:=hr;exact ⟨_,h1,.inr ⟨cs,n,rfl,h2⟩,yA (by simp)⟩
  |_=>simp [oF] at hc
 |full=>
  cases sd with
  |full y=>
   simp only [oF,Option.some.injEq,Prod.mk.injEq] at hc;obtain ⟨rfl,rfl⟩:=hc;obtain ⟨cs,n,h1,h2⟩:=hr;exact ⟨_,h1,⟨cs,n,rfl,h2⟩,yA (by simp)⟩
  |_=>simp [oF] at hc
 |own aa ety fr al=>
  cases sd with
  |arr i=>
   simp only [oF] at hc;split at hc
   case h_2=>cases hc
   rename_i y e t fr' al' hg;split at hc
   case isFalse=>cases hc
   rename_i hcond;obtain ⟨rfl,rfl,c3,c4⟩:=hcond;simp only [Option.some.injEq,Prod.mk.injEq] at hc;obtain ⟨rfl,rfl⟩:=hc;obtain ⟨cs,n,g1,g2,g3⟩:=hm.arr (N:=nm ρ μ σ) hg;obtain ⟨hi,hr⟩:=hr;have hfr:fr=false->fr'=false:=fun h=>by cases fr' with|false=>rfl|true=>rw [c3 rfl] at h;cases h
   rcases hr with ⟨j,len,h1,rfl,h3⟩|⟨h1,cs',n',rfl,h3⟩
   ·obtain ⟨cs',h4⟩:=h3 _ _ _ _ _ hg;rw [g1] at h4;injection h4 with h4;injection h4 with h4 h5;subst h4 h5
    rcases g3 with ⟨j',fz,k1,k2,k3,k4,k5⟩|⟨k1,_⟩
    ·rw [h1] at k1;injection k1 with k1;subst k1
     refine ⟨_,g1,⟨cs,n,rfl,g2,.inl ⟨j,fz,rfl,EM hm hbx hi h1 hg,k2,k3,k4,fun h=>k5 (hfr h)⟩⟩,?_,by simp [oL]⟩
     intro q hq;simp [oL] at hq;subst hq;exact ⟨i,by simp,hi,h1⟩
    ·rw [h1] at k1;cases k1
   ·have h4:=h3 _ _ _ _ _ hg;rw [g1] at h4;injection h4 with h4;injection h4 with h4 h5;subst h4 h5
    rcases g3 with ⟨j',fz,k1,_⟩|⟨k1,k2,k3⟩
    ·rw [h1] at k1;cases k1
    ·refine ⟨_,g1,⟨cs,n,rfl,g2,.inr ⟨rfl,?_,fun h=>k3 (hfr h)⟩⟩,gz.nil,List.nodup_nil⟩
     cases al with
     |false=>rfl
     |true=>rw [c4 rfl] at k2;cases k2
  |full y=>
   cases al with
   |true=>cases y<;>simp [oF] at hc
   |false=>
    cases y with
    |z=>
     simp only [oF,Option.some.injEq,Prod.mk.injEq] at hc;obtain ⟨rfl,rfl⟩:=hc;obtain ⟨cs,n,h1,rfl⟩:=hr;simp only [aV,Option.some.injEq,C.slice.injEq] at h1;obtain ⟨rfl,rfl⟩:=h1;exact ⟨.slice [] 0,rfl,⟨[],0,rfl,by simp,.inr ⟨rfl,rfl,fun _=>⟨rfl,rfl⟩⟩⟩,gz.nil,List.nodup_nil⟩
    |_=>simp [oF] at hc
  |_=>simp [oF] at hc
omit hbx in
theorem De {a c o1 o2:List Nat} (h1:gz (nm ρ μ σ) a o1) (h2:gz (nm ρ μ σ) c o2) (ha:a.Nodup) (hc:c.Nodup) (ho:(o1++o2).Nodup):(a++c).Nodup:=by
 refine List.nodup_append.2 ⟨ha,hc,fun j hj j' hj' e=>?_⟩
 subst e;obtain ⟨i,q1,q2,q3⟩:=h1 j hj;obtain ⟨i',p1,p2,p3⟩:=h2 j hj';have:=hm.inj i i' j q2 p2 q3 p3
 subst this;exact (List.nodup_append.1 ho).2.2 i q1 i p1 rfl
theorem FQ:∀{ks:List CK} {dN:List SD} {ds:List D},aj (jo (nm ρ μ σ)) dN ds->∀{xs:List At} {own:List Nat},Br σ.heap ks dN=some (xs,own)->
  ∃cs,iM ρ xs=some cs/\bL (CY s.heap b.k0) ks cs ds/\gz (nm ρ μ σ) (nO ks ds) own/\(own.Nodup->(nO ks ds).Nodup)
 |[],[],[],_,xs,own,h=>by simp only [Br,Option.some.injEq,Prod.mk.injEq] at h;obtain ⟨rfl,rfl⟩:=h;exact ⟨[],rfl,trivial,gz.nil,fun _=>List.nodup_nil⟩
 |k::ks,sd::dN,d::ds,hr,xs,own,h=>by simp only [Br,Option.bind_eq_some_iff,Option.some.injEq,Prod.mk.injEq,Prod.exists] at h;obtain ⟨x,o1,h1,xs',o2,h2,rfl,rfl⟩:=h;obtain ⟨c,q1,q2,q3,q4⟩:=Lp hm hbx hr.1 h1;obtain ⟨cs,p1,p2,p3,p4⟩:=FQ hr.2 h2;exact ⟨c::cs,by simp [iM,q1,p1],⟨q2,p2⟩,q3.append p3,fun ho=>De hm q3 p3 q4 (p4 (List.nodup_append.1 ho).2.1) ho⟩
 |[],_::_,_,_,_,_,h=>by simp [Br] at h
 |_::_,[],_,_,_,_,h=>by simp [Br] at h
 |[],[],_::_,hr,_,_,_=>hr.elim
 |_::_,_::_,[],hr,_,_,_=>hr.elim
theorem TU {rs:RS} {sd:SD} {d:D} (hr:RA (nm ρ μ σ) sd d) {tv:TV} {own:List Nat} (h:Pt σ.lens σ.heap rs sd=some (tv,own)):
  ∃v,Kl ρ tv=some v/\R4 s.heap b.k0 rs v d/\gz (nm ρ μ σ) (JR rs d) own/\(own.Nodup->(JR rs d).Nodup):=by
 cases rs with
 |one k=>
  simp only [Pt,Option.bind_eq_some_iff,Option.some.injEq,Prod.mk.injEq,Prod.exists] at h;obtain ⟨x,o1,h1,rfl,rfl⟩:=h;have hc:jo (nm ρ μ σ) sd d:=by
   cases sd with
   |agg ds=>cases k<;>simp [oF] at h1
   |_=>exact hr
  obtain ⟨c,q1,q2,q3,q4⟩:=Lp hm hbx hc h1;exact ⟨.one c,by simp [Kl,q1],q2,q3,fun _=>q4⟩
 |agg ks=>
  cases sd with
  |agg dN=>
   simp only [Pt,Option.bind_eq_some_iff,Option.some.injEq,Prod.mk.injEq,Prod.exists] at h;obtain ⟨xs,o1,h1,rfl,rfl⟩:=h;obtain ⟨ds,rfl,hr⟩:=hr;obtain ⟨cs,p1,p2,p3,p4⟩:=FQ hm hbx hr h1;have e:Dn ρ (vg σ.lens xs)=iM ρ xs:=qM hm xs;exact ⟨.agg cs,by simp [Kl,e,p1],⟨ds,rfl,p2⟩,p3,p4⟩
  |_=>simp [Pt] at h
theorem Ic:∀{rs:List RS} {dN:List SD} {ds:List D},aj (RA (nm ρ μ σ)) dN ds->∀{tvs:List TV} {own:List Nat},Aw σ.lens σ.heap rs dN=some (tvs,own)->
  ∃vs,tq ρ tvs=some vs/\bL (R4 s.heap b.k0) rs vs ds/\gz (nm ρ μ σ) (iH rs ds) own/\(own.Nodup->(iH rs ds).Nodup)
 |[],[],[],_,xs,own,h=>by simp only [Aw,Option.some.injEq,Prod.mk.injEq] at h;obtain ⟨rfl,rfl⟩:=h;exact ⟨[],rfl,trivial,gz.nil,fun _=>List.nodup_nil⟩
 |k::ks,sd::dN,d::ds,hr,xs,own,h=>by simp only [Aw,Option.bind_eq_some_iff,Option.some.injEq,Prod.mk.injEq,Prod.exists] at h;obtain ⟨x,o1,h1,xs',o2,h2,rfl,rfl⟩:=h;obtain ⟨c,q1,q2,q3,q4⟩:=TU hm hbx hr.1 h1;obtain ⟨cs,p1,p2,p3,p4⟩:=Ic hr.2 h2;exact ⟨c::cs,by simp [tq,q1,p1],⟨q2,p2⟩,q3.append p3,fun ho=>De hm q3 p3 (q4 (List.nodup_append.1 ho).1) (p4 (List.nodup_append.1 ho).2.1) ho⟩
 |[],_::_,_,_,_,_,h=>by simp [Aw] at h
 |_::_,[],_,_,_,_,h=>by simp [Aw] at h
 |[],[],_::_,hr,_,_,_=>hr.elim
 |_::_,_::_,[],hr,_,_,_=>hr.elim
end
theorem Js {b:Bs} {ρ:List W} {μ:Nat->Option Nat} {σ:Sy} {s:St} (hR:Rl b ρ μ σ s):fZ (nm ρ μ σ) (List.range b.ai.length) b.ai:=by
 have aux:∀(l:List Nat) (q:Nat),(∀p j,l[p]?=some j->q+p < σ.nx/\μ (q+p)=some j)->fZ (nm ρ μ σ) ((List.range l.length).map (q+·)) l:=by
  intro l;induction l with
  |nil=>intro q _;trivial
  |cons a l ih=>
   intro q h;rw [List.length_cons,List.range_succ_eq_map,List.map_cons,List.map_map];refine ⟨h 0 a (by simp),?_⟩
   have:=ih (q+1) fun p j hp=>by
    have:=h (p+1) j (by simpa using hp)
    rw [show q+(p+1)=q+1+p by omega] at this
    exact this
   have e:((fun x=>q+x) ∘ Nat.succ)=(q+1+·):=by funext x;simp;omega
   rw [e];exact this
 have:=aux b.ai 0 fun p j hp=>by rw [Nat.zero_add];exact hR.ai p j hp
 simpa using this
theorem CW {b:Bs} {ρ:List W} {μ:Nat->Option Nat} {σ:Sy} {s:St} {call:uL} {head:wu} {r:R} {cx:Cx} (hR:Rl b ρ μ σ s) (hl:b.ai.length=cx.bl.length) (hd:az call head (Dy cx σ) ρ=some r):Iw b cx.res cx.rs cx.bl r s:=by
 unfold Dy at hd;split at hd
 case h_2=>cases hd
 rename_i dN h1;split at hd
 case h_2=>cases hd
 rename_i tvs own h2;split at hd
 case h_2=>cases hd
 rename_i bs h3;split at hd
 case isFalse=>cases hd
 rename_i hn;have Ph:=Js hR;rw [hl] at Ph;obtain ⟨ds,q1,q2⟩:=y5 hR h1;have hbx:∀j∈b.ai,∃i ds,i < σ.nx/\μ i=some j/\aM σ.heap i=.box ds:=by intro j hj;obtain ⟨i,p1,p2,p3⟩:=fZ.mem Ph j hj;obtain ⟨ds,p4⟩:=lX h3 i p1;exact ⟨i,ds,p2,p3,p4⟩
 obtain ⟨vs,r1,r2,r3,r4⟩:=Ic hR.mem hbx q2 h2;obtain ⟨xss,c1,c2⟩:=ou hR.mem Ph h3;simp only [az,Option.bind_eq_some_iff,Option.some.injEq] at hd;obtain ⟨vs',g1,xss',g2,rfl⟩:=hd;rw [r1] at g1;injection g1 with g1;subst g1
 rw [show uz ρ bs=_ from c1] at g2;injection g2 with g2;subst g2
 refine ⟨⟨ds,q1,r2,r4 (kX hn),fun j hj=>?_⟩,hR.mem.le,hR.mem.frame,c2⟩
 obtain ⟨i,p1,p2,p3⟩:=r3 j hj;exact hR.mem.lt i j p2 p3
end Go.Ey
namespace Go.Ey
def EV (F:nD) (c:bC) (s:St) (x:Ex) (s':St):Prop:=∃n,aI F n c s=some (x,s')
def pG (F:nD):List Fr->Ex->St->St->Prop
 |[],x,s,s'=>(x=.normal\/x=.ret)/\s'=s
 |.seq _ c::K,.normal,s,s'=>∃x1 s1,EV F c s x1 s1/\pG F K x1 s1 s'
 |.seq _ _::K,x,s,s'=>pG F K x s s'
 |.blk id::K,.exit id',s,s'=>if id'=id then pG F K .normal s s' else pG F K (.exit id') s s'
 |.blk _::K,x,s,s'=>pG F K x s s'
 |.loop _ c::K,.normal,s,s'=>∃x1 s1,EV F (.loop c) s x1 s1/\pG F K x1 s1 s'
 |.loop _ _::K,x,s,s'=>pG F K x s s'
def WF (B:bC):List Fr->Prop
 |[]=>True
 |.seq p c::K=>dH B p=some (c,K)/\WF B K
 |.blk _::K=>WF B K
 |.loop p c::K=>dH B p=some (.loop c,K)/\WF B K
theorem Dh {B:bC}:∀{p:List Nat} {c:bC} {K:List Fr},dH B p=some (c,K)->WF B K
 |[],c,K,h=>by simp only [dH,Option.some.injEq,Prod.mk.injEq] at h;obtain ⟨_,rfl⟩:=h;trivial
 |i::q,c,K,h=>by
  simp only [dH,Option.bind_eq_some_iff] at h;obtain ⟨⟨c',K'⟩,h1,h2⟩:=h;have hw:=Dh h1;split at h2<;>try (cases h2;done)
  all_goals (rename_i e;simp only at e;subst e;simp only [Option.some.injEq,Prod.mk.injEq] at h2;obtain ⟨_,rfl⟩:=h2)
  ·exact ⟨by simp [dH,h1],hw⟩
  ·exact hw
  ·exact hw
  ·exact hw
  ·exact hw
  ·exact ⟨h1,hw⟩
theorem vY {F:nD} {s:St}:∀K:List Fr,pG F K .ret s s
 |[]=>⟨.inr rfl,rfl⟩
 |.seq _ _::K=>vY K
 |.blk _::K=>vY K
 |.loop _ _::K=>vY K
theorem EV.seq {F:nD} {a c:bC} {s s1 s2:St} {x:Ex} (h1:EV F a s .normal s1) (h2:EV F c s1 x s2):EV F (.seq a c) s x s2:=by obtain ⟨n1,h1⟩:=h1;obtain ⟨n2,h2⟩:=h2;refine ⟨max n1 n2+1,?_⟩;simp only [aI,qR (Nat.le_max_left n1 n2) a s _ h1,Option.bind_eq_bind,Option.bind_some];exact qR (Nat.le_max_right n1 n2) c s1 _ h2
theorem EV.loop {F:nD} {c:bC} {s s1 s2:St} {x:Ex} (h1:EV F c s .normal s1) (h2:EV F (.loop c) s1 x s2):EV F (.loop c) s x s2:=by obtain ⟨n1,h1⟩:=h1;obtain ⟨n2,h2⟩:=h2;refine ⟨max n1 n2+1,?_⟩;simp only [aI,qR (Nat.le_max_left n1 n2) c s _ h1,Option.bind_eq_bind,Option.bind_some];exact qR (Nat.le_max_right n1 n2) (.loop c) s1 _ h2
section
variable {F:nD} {B:bC} {cx:Cx} {b:Bs} {call:uL} {head:wu} {r:R}
def wh (F:nD) (B:bC) (cx:Cx) (head:wu):Prop:=
 ∀(i:Nat) (ws:List W) (r:R),head i ws=some r->∀hh,cx.heads[i]?=some hh->∀c K,dH B hh.p=some (.loop c,K)->∀(b:Bs) (μ:Nat->Option Nat) (s:St),b.ai.length=cx.bl.length->Rl b ws μ (ym hh).1 s->(ym hh).2=ws.length->
  ∃x1 s1 s',EV F (.loop c) s x1 s1/\pG F K x1 s1 s'/\Iw b cx.res cx.rs cx.bl r s'
theorem xN {k:Nat} {p:List Nat} {σ:Sy} {ρ:List W}:∀{hs:List HS} {i:Nat},az call head (iZ k p σ i hs) ρ=some r->∃j hh qQ ws,hs[j]?=some hh/\hh.p=p/\pW k hh σ=some qQ/\gy ρ qQ=some ws/\head (i+j) ws=some r
 |[],i,hd=>by simp [iZ,az] at hd
 |h::hs,i,hd=>by
  have rest:az call head (iZ k p σ (i+1) hs) ρ=some r->∃j hh qQ ws,(h::hs)[j]?=some hh/\hh.p=p/\pW k hh σ=some qQ/\gy ρ qQ=some ws/\head (i+j) ws=some r:=by intro hd;obtain ⟨j,hh,qQ,ws,q1,q2,q3,q4,q5⟩:=xN hd;exact ⟨j+1,hh,qQ,ws,by simpa using q1,q2,q3,q4,by rw [show i+(j+1)=i+1+j by omega];exact q5⟩
  simp only [iZ] at hd;split at hd
  ·rename_i hp;split at hd
   ·rename_i qQ ha;simp only [az,Option.bind_eq_some_iff] at hd;obtain ⟨ws,h1,h2⟩:=hd;exact ⟨0,h,qQ,ws,by simp,hp,ha,h1,h2⟩
   ·exact rest hd
  ·exact rest hd
variable (hh:wh F B cx head) (hlen:b.ai.length=cx.bl.length)
include hh hlen
theorem LF {p:List Nat} {c:bC} {K:List Fr} (hloc:dH B p=some (.loop c,K)) {ρ:List W} {μ:Nat->Option Nat} {σ:Sy} {s:St} (hR:Rl b ρ μ σ s) (hd:az call head (iZ cx.bl.length p σ 0 cx.heads) ρ=some r):
  ∃x1 s1 s',EV F (.loop c) s x1 s1/\pG F K x1 s1 s'/\Iw b cx.res cx.rs cx.bl r s':=by
 obtain ⟨j,h,qQ,ws,q1,q2,q3,q4,q5⟩:=xN hd;rw [<-hlen] at q3;obtain ⟨μ',q6,q7⟩:=M6 hR q3 q4;subst q2;rw [Nat.zero_add] at q5;exact hh j ws r q5 h q1 c K hloc b μ' s hlen q6 q7
theorem qD {rec:List Nat->bC->List Fr->Sy->Nat->Kn->Tree}
  (hrec:∀p c K ρ μ σ kn s,dH B p=some (c,K)->Rl b ρ μ σ s->BC kn ρ->az call head (rec p c K σ ρ.length kn) ρ=some r->∃x1 s1 s',EV F c s x1 s1/\pG F K x1 s1 s'/\Iw b cx.res cx.rs cx.bl r s'):
  ∀{K:List Fr} {ρ:List W} {μ:Nat->Option Nat} {σ:Sy} {kn:Kn} {s:St},WF B K->Rl b ρ μ σ s->BC kn ρ->az call head (Cz cx rec K σ ρ.length kn) ρ=some r->∃s',pG F K .normal s s'/\Iw b cx.res cx.rs cx.bl r s'
 |[],ρ,μ,σ,kn,s,_,hR,hk,hd=>⟨s,⟨.inl rfl,rfl⟩,CW hR hlen hd⟩
 |.seq p c::K,ρ,μ,σ,kn,s,hw,hR,hk,hd=>by obtain ⟨x1,s1,s',h1,h2,h3⟩:=hrec p c K ρ μ σ kn s hw.1 hR hk hd;exact ⟨s',⟨x1,s1,h1,h2⟩,h3⟩
 |.blk _::K,ρ,μ,σ,kn,s,hw,hR,hk,hd=>qD hrec (K:=K) hw hR hk hd
 |.loop p c::K,ρ,μ,σ,kn,s,hw,hR,hk,hd=>by obtain ⟨x1,s1,s',h1,h2,h3⟩:=LF hh hlen hw.1 hR hd;exact ⟨s',⟨x1,s1,h1,h2⟩,h3⟩
theorem vU {rec:List Nat->bC->List Fr->Sy->Nat->Kn->Tree} {id:Nat}
  (hrec:∀p c K ρ μ σ kn s,dH B p=some (c,K)->Rl b ρ μ σ s->BC kn ρ->az call head (rec p c K σ ρ.length kn) ρ=some r->∃x1 s1 s',EV F c s x1 s1/\pG F K x1 s1 s'/\Iw b cx.res cx.rs cx.bl r s'):
  ∀{K:List Fr} {ρ:List W} {μ:Nat->Option Nat} {σ:Sy} {kn:Kn} {s:St},WF B K->Rl b ρ μ σ s->BC kn ρ->az call head (Ag cx rec id K σ ρ.length kn) ρ=some r->∃s',pG F K (.exit id) s s'/\Iw b cx.res cx.rs cx.bl r s'
 |[],ρ,μ,σ,kn,s,_,hR,hk,hd=>by simp [Ag,az] at hd
 |.seq p c::K,ρ,μ,σ,kn,s,hw,hR,hk,hd=>vU hrec (K:=K) hw.2 hR hk hd
 |.blk id'::K,ρ,μ,σ,kn,s,hw,hR,hk,hd=>by
  simp only [Ag] at hd;split at hd
  ·rename_i e;obtain ⟨s',h1,h2⟩:=qD hh hlen hrec (K:=K) hw hR hk hd;exact ⟨s',by simp only [pG];rw [if_pos e];exact h1,h2⟩
  ·rename_i e;obtain ⟨s',h1,h2⟩:=vU hrec (K:=K) hw hR hk hd;exact ⟨s',by simp only [pG];rw [if_neg e];exact h1,h2⟩
 |.loop p c::K,ρ,μ,σ,kn,s,hw,hR,hk,hd=>vU hrec (K:=K) hw.2 hR hk hd
theorem A9 (hcall:iT F cx.sig call):∀(fuel:Nat) (p:List Nat) (c:bC) (K:List Fr) (ρ:List W) (μ:Nat->Option Nat) (σ:Sy) (kn:Kn) (s:St),dH B p=some (c,K)->Rl b ρ μ σ s->BC kn ρ->az call head (l7 cx fuel p c K σ ρ.length kn) ρ=some r->
  ∃x1 s1 s',EV F c s x1 s1/\pG F K x1 s1 s'/\Iw b cx.res cx.rs cx.bl r s'
 |0,_,_,_,_,_,_,_,_,_,_,_,hd=>by simp [l7,az] at hd
 |fuel+1,p,c,K,ρ,μ,σ,kn,s,hloc,hR,hk,hd=>by
  have ih:=A9 hcall fuel;have hw:=Dh hloc;cases c with
  |skip=>
   obtain ⟨s',h1,h2⟩:=qD hh hlen ih hw hR hk hd;exact ⟨.normal,s,s',⟨1,rfl⟩,h1,h2⟩
  |ret=>exact ⟨.ret,s,s,⟨1,rfl⟩,vY K,CW hR hlen hd⟩
  |exit id=>
   obtain ⟨s',h1,h2⟩:=vU hh hlen ih hw hR hk hd;exact ⟨.exit id,s,s',⟨1,rfl⟩,h1,h2⟩
  |region is=>
   obtain ⟨n0,s1,h1,ws,μ',σ',mY,p1,p2,p3⟩:=jB hcall is ρ μ σ s kn hR hk hd;obtain ⟨s',h2,h3⟩:=qD hh hlen ih hw p1 p2 p3;exact ⟨.normal,s1,s',⟨n0+1,by simp [aI,h1 n0 (Nat.le_refl _)]⟩,h2,h3⟩
  |draw is ws=>
   have hR0:Rl b ρ μ σ ⟨s.env,s.heap,s.nx+0⟩:=hR;obtain ⟨n0,e',h',ts,h1,ws',μ',σ',mY,N8,p1,p2,p3,_,p5⟩:=jC (nx:=s.nx) hcall is ρ μ σ s.env s.heap 0 kn [] hR0 hk hd;rw [List.nil_append] at p3;simp only at p3;split at p3
   case isFalse=>cases p3
   rename_i hok;have hok':iD ts ws=true:=uF (fun i i' j a1 a2 a3 a4=>p1.mem.inj i i' j a1 a2 a3 a4) (pre:=[]) (pre':=[]) trivial p5 hok
   rw [Nat.zero_add] at p1;obtain ⟨s',h2,h3⟩:=qD hh hlen ih hw p1 p2 p3;exact ⟨.normal,_,s',⟨n0+1,by simp [aI,h1 n0 (Nat.le_refl _),hok']⟩,h2,h3⟩
  |mix is ws=>simp [l7,az] at hd
  |seq a c2=>
   have hl1:dH B (0::p)=some (a,.seq (1::p) c2::K):=by simp [dH,hloc]
   obtain ⟨x1,s1,s',h1,h2,h3⟩:=ih _ _ _ ρ μ σ kn s hl1 hR hk hd;cases x1 with
   |normal=>
    obtain ⟨x2,s2,h4,h5⟩:=h2;exact ⟨x2,s2,s',h1.seq h4,h5,h3⟩
   |exit id=>
    obtain ⟨n,hn⟩:=h1;exact ⟨.exit id,s1,s',⟨n+1,by simp [aI,hn]⟩,h2,h3⟩
   |ret=>
    obtain ⟨n,hn⟩:=h1;exact ⟨.ret,s1,s',⟨n+1,by simp [aI,hn]⟩,h2,h3⟩
  |cond x a c2=>
   simp only [l7] at hd;obtain ⟨t,mY,e1,e2,e3⟩:=mK rfl hk (pR hR.env x) hd;cases t with
   |true=>
    have hl1:dH B (0::p)=some (a,K):=by simp [dH,hloc]
    obtain ⟨x1,s1,s',⟨n,h1⟩,h2,h3⟩:=ih _ _ _ ρ μ σ mY s hl1 hR e2 e3;exact ⟨x1,s1,s',⟨n+1,by simp [aI,e1,asBool,h1]⟩,h2,h3⟩
   |false=>
    have hl1:dH B (1::p)=some (c2,K):=by simp [dH,hloc]
    obtain ⟨x1,s1,s',⟨n,h1⟩,h2,h3⟩:=ih _ _ _ ρ μ σ mY s hl1 hR e2 e3;exact ⟨x1,s1,s',⟨n+1,by simp [aI,e1,asBool,h1]⟩,h2,h3⟩
  |block id c2=>
   have hl1:dH B (0::p)=some (c2,.blk id::K):=by simp [dH,hloc]
   obtain ⟨x1,s1,s',⟨n,h1⟩,h2,h3⟩:=ih _ _ _ ρ μ σ kn s hl1 hR hk hd;cases x1 with
   |normal=>exact ⟨.normal,s1,s',⟨n+1,by simp [aI,h1]⟩,h2,h3⟩
   |ret=>exact ⟨.ret,s1,s',⟨n+1,by simp [aI,h1]⟩,h2,h3⟩
   |exit id'=>
    simp only [pG] at h2;by_cases he:id'=id
    ·rw [if_pos he] at h2;exact ⟨.normal,s1,s',⟨n+1,by simp [aI,h1,he]⟩,h2,h3⟩
    ·rw [if_neg he] at h2;exact ⟨.exit id',s1,s',⟨n+1,by simp [aI,h1,he]⟩,h2,h3⟩
  |loop c2=>exact LF hh hlen hloc hR hd
end
structure OB (F:nD) (sig:Nat->Option aN) (G:GT) (fuel:Nat) (hs:Nat->List HS):Prop where
 EX:∀f,F.EX f=none
 fn:∀f tf,G.fn f=some tf->∃I s,F.code (s.cd f)=some I/\sig f=some s/\I.nparams=s.params.length/\tf=FM sig fuel s (hs f) I/\s.nat=false/\∀vs,F.nat (s.cd f) vs=none
 nat:∀f ax bs r,G.fn f=none->G.nat f ax bs=some r->∃s vs,sig f=some s/\s.nat=true/\s.boxes=[]/\bs=[]/\iO s.params ax/\ax=vs.map .v/\F.nat f vs=some r.1
section
variable {F:nD} {sig:Nat->Option aN} {G:GT} {fuel:Nat} {hs:Nat->List HS} (hT:OB F sig G fuel hs)
include hT
theorem Jo {n:Nat} (hc:iT F sig (runT G n)) (hd:∀f I s,F.code (s.cd f)=some I->sig f=some s->(∃tf,G.fn f=some tf)->wh F I.body ⟨sig,hs f,I.res,s.rs,s.boxes⟩ (gT G n f)):
  ∀f I s,F.code (s.cd f)=some I->sig f=some s->(∃tf,G.fn f=some tf)->wh F I.body ⟨sig,hs f,I.res,s.rs,s.boxes⟩ (gT G (n+1) f):=by
 intro f I s hI hs' ⟨tf,YM⟩ i ws r hr hh hhi c K hloc b μ st hlen hR hn;obtain ⟨I',s0,q1,q2,_,q4,_⟩:=hT.fn f tf YM;rw [hs'] at q2;injection q2 with q2;subst q2
 rw [hI] at q1;injection q1 with q1;subst q1
 simp only [gT,YM,Option.bind_some,Option.bind_eq_some_iff] at hr;obtain ⟨t,h1,h2⟩:=hr;subst q4;simp only [FM,List.getElem?_map] at h1;rw [show (hs f)[i]?=some hh from hhi] at h1
 simp only [Option.map_some,Option.some.injEq] at h1;subst h1;simp only [FO,hloc] at h2;have hl1:dH I.body (0::hh.p)=some (c,.loop hh.p c::K):=by simp [dH,hloc]
 rw [hn] at h2;obtain ⟨x1,s1,s',g1,g2,g3⟩:=A9 (cx:=⟨sig,hs f,I.res,s.rs,s.boxes⟩) (hd f I s hI hs' ⟨_,YM⟩) hlen hc fuel _ _ _ ws μ _ [] st hl1 hR (fun i j t h=>by simp [JQ] at h) h2
 cases x1 with
 |normal=>
  obtain ⟨x2,s2,g4,g5⟩:=g2;exact ⟨x2,s2,s',g1.loop g4,g5,g3⟩
 |exit id=>
  obtain ⟨m,hm⟩:=g1;exact ⟨.exit id,s1,s',⟨m+1,by simp [aI,hm]⟩,g2,g3⟩
 |ret=>
  obtain ⟨m,hm⟩:=g1;exact ⟨.ret,s1,s',⟨m+1,by simp [aI,hm]⟩,g2,g3⟩
end
theorem jN {α:Type} {k:List W->Option α} {r:α}:∀{ps:List PS} {ax:List LA} {ρ:List W},aK k ps ax ρ=some r->iO ps ax/\∃ws,k (ρ++ws)=some r/\
  ∀{ai:List Nat} {ds:List D} {N:Nm} {post:List W} {t:Nat},bL (JM ai) ps ax ds->N.ρ=ρ++ws++post->(∀q j,ai[q]?=some j->q < N.nx/\N.μ q=some j)->∀{e:List (Nat×SD)} {n':Nat} {l:List (Nat×Nat)},rq ps t ρ.length=(e,n',l)->
   n'=ρ.length+ws.length/\(∀u,RD N (lS e u) (bS (dZ t ds) u))/\∀i m,(i,m)∈l->∃xs,eu N.ρ i=some (.l xs)/\xs.length=m
 |[],[],ρ,h=>by
  refine ⟨trivial,[],by rw [List.append_nil];exact h,?_⟩
  intro ai ds N post t ha hρ hl e n' l he;cases ds with
  |nil=>
   simp only [rq,Prod.mk.injEq] at he;obtain ⟨rfl,rfl,rfl⟩:=he;exact ⟨by simp,fun u=>trivial,by simp⟩
  |cons _ _=>exact ha.elim
 |.one::ps,.v (.one c)::ax,ρ,h=>by
  simp only [aK] at h;obtain ⟨h1,ws,h2,h3⟩:=jN h;refine ⟨h1,.c c::ws,by rw [List.append_assoc] at h2;exact h2,?_⟩
  intro ai ds N post t ha hρ hl e n' l he;cases ds with
  |nil=>exact ha.elim
  |cons d ds=>
   cases e1:rq ps (t+1) (ρ.length+1) with
   |mk e' p=>
    obtain ⟨n1,l1⟩:=p;simp only [rq,e1,Prod.mk.injEq] at he;obtain ⟨rfl,rfl,rfl⟩:=he;obtain ⟨q1,q2,q3⟩:=h3 (N:=N) (post:=post) (t:=t+1) ha.2 (by rw [hρ];simp) hl (e:=e') (n':=n1) (l:=l1) (by rw [List.length_append];exact e1)
    refine ⟨by rw [q1];simp;omega,fun u=>?_,q3⟩
    simp only [lS,dZ,bS];by_cases hu:t=u
    ·rw [if_pos hu,if_pos hu];exact ⟨c,by rw [hρ,List.append_assoc];exact at_new ρ c _,ha.1⟩
    ·rw [if_neg hu,if_neg hu];exact q2 u
 |.agg m::ps,.v (.agg xs)::ax,ρ,h=>by
  simp only [aK] at h;split at h
  case isFalse=>cases h
  rename_i hm;obtain ⟨h1,ws,h2,h3⟩:=jN h;refine ⟨⟨hm,h1⟩,.l xs::ws,by rw [List.append_assoc] at h2;exact h2,?_⟩
  intro ai ds N post t ha hρ hl e n' l he;cases ds with
  |nil=>exact ha.elim
  |cons d ds=>
   cases e1:rq ps (t+1) (ρ.length+1) with
   |mk e' p=>
    obtain ⟨n1,l1⟩:=p;simp only [rq,e1,Prod.mk.injEq] at he;obtain ⟨rfl,rfl,rfl⟩:=he;obtain ⟨q1,q2,q3⟩:=h3 (N:=N) (post:=post) (t:=t+1) ha.2 (by rw [hρ];simp) hl (e:=e') (n':=n1) (l:=l1) (by rw [List.length_append];exact e1)
    have hg:eu N.ρ ρ.length=some (.l xs):=by rw [hρ,List.append_assoc];exact gD ρ _ _
    refine ⟨by rw [q1];simp;omega,fun u=>?_,fun i q hi=>?_⟩
    ·simp only [lS,dZ,bS];by_cases hu:t=u
     ·rw [if_pos hu,if_pos hu];obtain ⟨⟨_,ds',rfl,a2⟩,_⟩:=ha;exact ⟨ds',rfl,uY hg (List.drop_zero ..) hm a2⟩
     ·rw [if_neg hu,if_neg hu];exact q2 u
    ·simp only [List.mem_cons,Prod.mk.injEq] at hi;rcases hi with ⟨rfl,rfl⟩|hi
     ·exact ⟨xs,hg,hm⟩
     ·exact q3 i q hi
 |.ref b o::ps,.ref b' o'::ax,ρ,h=>by
  simp only [aK] at h;split at h
  case isFalse=>cases h
  rename_i hm;obtain ⟨h1,ws,h2,h3⟩:=jN h;refine ⟨⟨hm.1.symm,hm.2.symm,h1⟩,ws,h2,?_⟩;intro ai ds N post t ha hρ hl e n' l he;cases ds with
  |nil=>exact ha.elim
  |cons d ds=>
   cases e1:rq ps (t+1) ρ.length with
   |mk e' p=>
    obtain ⟨n1,l1⟩:=p;simp only [rq,e1,Prod.mk.injEq] at he;obtain ⟨rfl,rfl,rfl⟩:=he;obtain ⟨q1,q2,q3⟩:=h3 (N:=N) (post:=post) (t:=t+1) ha.2 hρ hl e1;refine ⟨q1,fun u=>?_,q3⟩
    simp only [lS,dZ,bS];by_cases hu:t=u
    ·rw [if_pos hu,if_pos hu];obtain ⟨_,_,j,a1,a2⟩:=ha.1;obtain ⟨l1',l2'⟩:=hl b j a1;exact ⟨l1',j,l2',a2⟩
    ·rw [if_neg hu,if_neg hu];exact q2 u
 |.bJ g caps::ps,.ref b' o'::ax,ρ,h=>by
  simp only [aK] at h;split at h
  case isFalse=>cases h
  rename_i hm;obtain ⟨h1,ws,h2,h3⟩:=jN h;refine ⟨⟨hm.1,hm.2,h1⟩,ws,h2,?_⟩;intro ai ds N post t ha hρ hl e n' l he;cases ds with
  |nil=>exact ha.elim
  |cons d ds=>
   cases e1:rq ps (t+1) ρ.length with
   |mk e' p=>
    obtain ⟨n1,l1⟩:=p;simp only [rq,e1,Prod.mk.injEq] at he;obtain ⟨rfl,rfl,rfl⟩:=he;obtain ⟨q1,q2,q3⟩:=h3 (N:=N) (post:=post) (t:=t+1) ha.2 hρ hl e1;refine ⟨q1,fun u=>?_,q3⟩
    simp only [lS,dZ,bS];by_cases hu:t=u
    ·rw [if_pos hu,if_pos hu];obtain ⟨_,_,cs,rfl,a2⟩:=ha.1;exact ⟨cs,rfl,a2.mono fun p q ⟨c1,c2⟩=>⟨(hl _ _ c1).1,(hl _ _ c1).2,c2⟩⟩
    ·rw [if_neg hu,if_neg hu];exact q2 u
 |.bJ _ _::_,[],_,h=>by simp [aK] at h
 |.bJ _ _::_,.v _::_,_,h=>by simp [aK] at h
 |[],_::_,_,h=>by simp [aK] at h
 |.one::_,[],_,h=>by simp [aK] at h
 |.agg _::_,[],_,h=>by simp [aK] at h
 |.ref _ _::_,[],_,h=>by simp [aK] at h
 |.one::_,.v (.agg _)::_,_,h=>by simp [aK] at h
 |.one::_,.v (.full _ _)::_,_,h=>by simp [aK] at h
 |.agg _::_,.v (.full _ _)::_,_,h=>by simp [aK] at h
 |.one::_,.ref _ _::_,_,h=>by simp [aK] at h
 |.agg _::_,.v (.one _)::_,_,h=>by simp [aK] at h
 |.agg _::_,.ref _ _::_,_,h=>by simp [aK] at h
 |.ref _ _::_,.v _::_,_,h=>by simp [aK] at h
theorem xL {α:Type} {k:List W->Option α} {r:α}:∀{ms:List Nat} {bs:List (List C)} {ρ:List W},di k ms bs ρ=some r->aj (fun m (xs:List C)=>xs.length=m) ms bs/\k (ρ++bs.map .l)=some r
 |[],[],ρ,h=>⟨trivial,by rw [List.map_nil,List.append_nil];exact h⟩
 |m::ms,xs::bs,ρ,h=>by
  simp only [di] at h;split at h
  case isFalse=>cases h
  rename_i hm;obtain ⟨h1,h2⟩:=xL h;exact ⟨⟨hm,h1⟩,by rw [List.append_assoc] at h2;exact h2⟩
 |[],_::_,_,h=>by simp [di] at h
 |_::_,[],_,h=>by simp [di] at h
theorem Ih:∀{ms:List Nat} {b n:Nat} {hp:List (Nat×SO)} {n':Nat} {l:List (Nat×Nat)},J7 ms b n=(hp,n',l)->n'=n+ms.length/\(∀i,i < b\/b+ms.length<=i->aM hp i=.dead)/\(∀q m,ms[q]?=some m->aM hp (b+q)=.box ((nk (n+q) 0 m).map .a))/\∀i m,(i,m)∈l->∃q,i=n+q/\ms[q]?=some m
 |[],b,n,hp,n',l,h=>by simp only [J7,Prod.mk.injEq] at h;obtain ⟨rfl,rfl,rfl⟩:=h;exact ⟨rfl,fun _ _=>rfl,by simp,by simp⟩
 |m::ms,b,n,hp,n',l,h=>by
  cases e:J7 ms (b+1) (n+1) with
  |mk hp' p=>
   obtain ⟨n1,l1⟩:=p;simp only [J7,e,Prod.mk.injEq] at h;obtain ⟨rfl,rfl,rfl⟩:=h;obtain ⟨q1,q2,q3,q4⟩:=Ih e;refine ⟨by rw [q1];simp;omega,fun i hi=>?_,fun q m' hq=>?_,fun i q hi=>?_⟩
   ·simp only [List.length_cons] at hi;rw [aZ,if_neg (by omega)]
    exact q2 i (by omega)
   ·cases q with
    |zero=>
     simp only [List.getElem?_cons_zero,Option.some.injEq] at hq;subst hq;rw [aZ,if_pos (by omega)];rfl
    |succ q=>
     simp only [List.getElem?_cons_succ] at hq;rw [aZ,if_neg (by omega),show b+(q+1)=b+1+q by omega,q3 q m' hq,show n+1+q=n+(q+1) by omega]
   ·simp only [List.mem_cons,Prod.mk.injEq] at hi;rcases hi with ⟨rfl,rfl⟩|hi
    ·exact ⟨0,rfl,rfl⟩
    ·obtain ⟨p,h1,h2⟩:=q4 i q hi;exact ⟨p+1,by omega,by simpa using h2⟩
theorem BN:∀{l:List Nat},l.Nodup->∀{q q' j:Nat},l[q]?=some j->l[q']?=some j->q=q'
 |[],_,q,q',j,h,_=>by simp at h
 |a::l,hn,q,q',j,h,h'=>by
  rw [List.nodup_cons] at hn;cases q with
  |zero=>
   simp only [List.getElem?_cons_zero,Option.some.injEq] at h;subst h;cases q' with
   |zero=>rfl
   |succ q'=>simp only [List.getElem?_cons_succ] at h';exact absurd (List.mem_of_getElem? h') hn.1
  |succ q=>cases q' with
   |zero=>
    simp only [List.getElem?_cons_zero,Option.some.injEq] at h';subst h';simp only [List.getElem?_cons_succ] at h;exact absurd (List.mem_of_getElem? h) hn.1
   |succ q'=>simp only [List.getElem?_cons_succ] at h h';rw [BN hn.2 h h']
section
variable {F:nD} {sig:Nat->Option aN} {G:GT} {fuel:Nat} {hs:Nat->List HS} (hT:OB F sig G fuel hs)
include hT
theorem JV {n:Nat} (hc:iT F sig (runT G n)) (hd:∀f I s,F.code (s.cd f)=some I->sig f=some s->(∃tf,G.fn f=some tf)->wh F I.body ⟨sig,hs f,I.res,s.rs,s.boxes⟩ (gT G n f)):iT F sig (runT G (n+1)):=by
 intro f ax bs r hr;rw [runT] at hr;split at hr
 case h_2 hnone=>
  obtain ⟨s,vs,k1,k2,k3,k4,k5,k6,k7⟩:=hT.nat f ax bs r hnone hr;refine ⟨s,k1,k5,by rw [k3,k4];trivial,fun h=>(by rw [k2] at h;cases h),fun _=>⟨vs,k6,1,fun m hm=>?_⟩⟩
  obtain ⟨m',rfl⟩:∃m',m=m'+1:=⟨m - 1,by omega⟩
  rw [fQ,k7]
 rename_i tf YM;have hb:=hr;obtain ⟨I,s,q1,q2,q3,q4,hsn,hnn⟩:=hT.fn f tf YM;have hdf:=hd f I s q1 q2 ⟨tf,YM⟩;subst q4;simp only [rZ,FM] at hb;obtain ⟨hsh,ws,h1,h2⟩:=jN hb;obtain ⟨h3,h4⟩:=xL h1;rw [List.nil_append] at h4;refine ⟨s,q2,hsh,h3,fun _=>⟨fun h k ai ds ha hbx hnd hlk=>?_,hnn⟩,fun h=>(by rw [hsn] at h;cases h)⟩
 have hl3:=hbx.AB;cases e1:rq s.params 0 0 with
 |mk env' p1=>
  obtain ⟨n1,l1⟩:=p1;cases e2:J7 s.boxes 0 n1 with
  |mk hp p2=>
   obtain ⟨n2,l2⟩:=p2;have eS:IK s=(⟨env',hp,s.boxes.length,l1++l2⟩,n2):=by simp only [IK,e1,e2]
   obtain ⟨b1,b2,b3,b4⟩:=Ih e2
   let N:Nm:=nm (ws++bs.map .l) (fun q=>ai[q]?) ⟨env',hp,s.boxes.length,l1++l2⟩
   have hlq:∀(q j:Nat),ai[q]?=some j->q < s.boxes.length:=fun q j hq=>by have:=(List.getElem?_eq_some_iff.1 hq).1;omega
   obtain ⟨r1,r2,r3⟩:=h2 (N:=N) (post:=bs.map .l) (t:=0) ha (by simp [N,nm]) (fun q j hq=>⟨hlq q j hq,hq⟩) (e:=env') (n':=n1) (l:=l1) e1
   have hn1:n1=ws.length:=by rw [r1];simp
   subst hn1;have hwq:∀(q:Nat) (xs:List C),bs[q]?=some xs->eu (ws++bs.map .l) (ws.length+q)=some (.l xs):=fun q xs hq=>by
    have:=GD ws bs q xs hq []
    rw [List.append_nil] at this;exact this
   have hR:Rl ⟨h,k,ai⟩ (ws++bs.map .l) (fun q=>ai[q]?) ⟨env',hp,s.boxes.length,l1++l2⟩ ⟨dZ 0 ds,h,k⟩:=by
    refine ⟨r2,⟨fun q=>?_,fun q q' j _ _ g3 g4=>BN hnd g3 g4,fun q j _ g2=>hlk j (List.mem_of_getElem? g2),fun q hq=>b2 q (.inr (by have hq':s.boxes.length<=q:=hq;omega)),fun q j _ g2=> .inr (List.mem_of_getElem? g2),fun j _ _=>rfl,Nat.le_refl _,fun i m hi=>?_⟩,fun q j hq=>⟨hlq q j hq,hq⟩⟩
    ·show Du N h q (aM hp q)
     by_cases hq:q < s.boxes.length
     ·have hj:ai[q]?=some (ai[q]'(by omega)):=List.getElem?_eq_getElem (by omega)
      obtain ⟨m,xs,c1,c2,c3,ds',c4,c5⟩:=hbx.get hj;have:=b3 q m c1
      rw [Nat.zero_add] at this;rw [this];exact ⟨_,ds',hj,c4,uY (N:=N) (hwq q xs c2) (List.drop_zero ..) c3 c5⟩
     ·rw [b2 q (.inr (by omega))];trivial
    ·rw [List.mem_append] at hi;rcases hi with hi|hi
     ·exact r3 i m hi
     ·obtain ⟨q,rfl,c1⟩:=b4 i m hi;have hqb:q < s.boxes.length:=(List.getElem?_eq_some_iff.1 c1).1;have hj:ai[q]?=some (ai[q]'(by omega)):=List.getElem?_eq_getElem (by omega)
      obtain ⟨m',xs,c2,c3,c4,_⟩:=hbx.get hj;rw [c1] at c2;injection c2 with c2;subst c2
      exact ⟨xs,hwq q xs c3,c4⟩
   rw [eS] at h4;simp only at h4;have hn2:n2=(ws++bs.map W.l).length:=by rw [b1,List.length_append,List.length_map];omega
   rw [hn2] at h4;obtain ⟨x1,s1,s',⟨m,g1⟩,g2,g3⟩:=A9 (b:=⟨h,k,ai⟩) (cx:=⟨sig,hs f,I.res,s.rs,s.boxes⟩) (B:=I.body) hdf hl3.2.symm hc fuel [] I.body [] _ _ _ [] _ rfl hR (fun i j t hi=>by simp [JQ] at hi) h4
   obtain ⟨g4,rfl⟩:=g2;obtain ⟨⟨rs,k1,k2,k3,k4⟩,k5,k6,k7⟩:=g3;refine ⟨m+1,rs,s'.heap,s'.nx,?_,k5,k6,k7,k2,k3,k4⟩;have hlen:ds.length=I.nparams:=by rw [q3,<-ha.AB.2]
   simp only [bQ,hT.EX,q1,Option.bind_eq_bind,Option.bind_some];rw [if_pos hlen,g1];simp only [Option.bind_some];rcases g4 with rfl|rfl<;>simp [k1]
theorem LX:∀n,iT F sig (runT G n)/\∀f I s,F.code (s.cd f)=some I->sig f=some s->(∃tf,G.fn f=some tf)->wh F I.body ⟨sig,hs f,I.res,s.rs,s.boxes⟩ (gT G n f)
 |0=>⟨fun f ax bs r h=>by simp [runT] at h,fun f I s _ _ _ i ws r h=>by simp [gT] at h⟩
 |n+1=>by obtain ⟨h1,h2⟩:=LX n;exact ⟨JV hT h1 h2,Jo hT h1 h2⟩
theorem SX {f:Nat} {vs rs:List V} {bs':List (List C)} (hcd:∀s,sig f=some s->s.code=none) (h:kL G f (vs.map .v) []=some (rs,bs')):∃n,fQ F n f vs=some rs:=by
 obtain ⟨n,hn⟩:=EP h;obtain ⟨s,q1,q2,q3,q4⟩:=(LX hT n).1 _ _ _ _ hn;have hb:s.boxes=[]:=by cases hsb:s.boxes with|nil=>rfl|cons _ _=>rw [hsb] at q3;exact q3.elim
 cases hsn:s.nat with
 |false=>
  obtain ⟨k1,k2⟩:=q4.1 hsn;have Yj:s.cd f=f:=by simp [aN.cd,hcd s q1]
  rw [Yj] at k1 k2;obtain ⟨n0,h0⟩:=k1.fn q2 hb (k2 _);exact ⟨n0,h0 n0 (Nat.le_refl _)⟩
 |true=>
  obtain ⟨vs',k1,n0,h0⟩:=q4.2 hsn;have inj:∀a b:List V,a.map LA.v=b.map LA.v->a=b:=by
   intro a;induction a with
   |nil=>intro b hb;cases b with|nil=>rfl|cons _ _=>simp at hb
   |cons x a ih=>intro b hb;cases b with
    |nil=>simp at hb
    |cons y b=>simp only [List.map_cons,List.cons.injEq,LA.v.injEq] at hb;rw [hb.1,ih b hb.2]
  rw [inj _ _ k1];exact ⟨n0,h0 n0 (Nat.le_refl _)⟩
end
end Go.Ey
