/- A part. -/
import Derived.Test.YtolnnaanmfnkjaaGreatDoorZ12
set_option linter.all false
namespace Go.Ey
section
variable {b:Bs} {ρ:List W} {μ:Nat->Option Nat} {σ:Sy} {h:Heap} {k:Nat} {call:qp} {head:qZ} {kt:SD->Sy->Nat->Tree} {r:R} {F:DF} {sig:Nat->Option eT}
theorem Rm.ama {N:Nm} {lens:List (Nat×Nat)} (hm:Rm b N h k lens) {o:SO} (wC:j4 N (N.new none o)->Sr (N.new none o) h N.nx o):j4 N (N.new none o)/\Rm b (N.new none o) h k lens:=by
 have hv:j4 N (N.new none o):=by
  refine ⟨fun _ _ h=>h,fun _ _ h=>h,Mb _,fun i hi=>?_,fun p y' aj ety fr' al' hp hg=>?_⟩
  ·show (if i=N.nx then none else N.μ i)=N.μ i
   rw [E0 (by omega)]
  ·simp only [Nm.new,dN] at hg;rw [E0 (by omega)] at hg
   exact ⟨y',fr',al',hg,id,fun cs _ hc=>⟨cs,hc,fun _=>rfl⟩⟩
 have hmu:∀i p,i < N.nx+1->(N.new none o).μ i=some p->i < N.nx/\N.μ i=some p:=by
  intro i p hi hp;by_cases he:i=N.nx
  ·simp [Nm.new,he] at hp
  ·have hp':N.μ i=some p:=by simpa [Nm.new,he] using hp
   exact ⟨by omega,hp'⟩
 refine ⟨hv,fun p=>?_,fun i i' p h1 h2 h3 h4=>?_,fun i p h1 h2=>?_,fun p hp=>?_,fun i p h1 h2=>?_,hm.frame,hm.le,hm.lens⟩
 ·show Sr (N.new none o) h p (bX ((N.nx,o)::N.hs) p)
  rw [dN];by_cases he:N.nx=p
  ·subst he;rw [C6 rfl];exact wC hv
  ·rw [E0 he];by_cases hp:p < N.nx
   ·exact (hm.obj p).mono hv hp fun _ _=>rfl
   ·rw [hm.dom p (Ly hp)];trivial
 ·obtain ⟨a1,a2⟩:=hmu i p h1 h3;obtain ⟨b1,b2⟩:=hmu i' p h2 h4;exact hm.inj i i' p a1 b1 a2 b2
 ·obtain ⟨a1,a2⟩:=hmu i p h1 h2;exact hm.lt _ _ a1 a2
 ·show bX ((N.nx,o)::N.hs) p=.dead
  have hp':N.nx+1<=p:=hp;rw [dN,E0 (by omega)]
  exact hm.dom p (by omega)
 ·obtain ⟨a1,a2⟩:=hmu i p h1 h2;exact hm.base i p a1 a2
def CkS (h:Heap) (k0:Nat):CK->C->D->Prop
 |.c,c,d=>CD c d
 |ck,c,d=>PM h k0 ck c d
def Reach (nx:Nat) (μ μ':Nat->Option Nat) (nx':Nat) (own:List Nat):Prop:=∀i j,i < nx'->μ' i=some j->(i < nx/\μ i=some j)\/j∈own
theorem acf (hm:Rm b (nm ρ μ σ) h k σ.lens) {k0:Nat} (hb:b.k0<=k0) {x:At} {c:C} (hx:dH ρ x=some c) {ck:CK} {d:D} (hr:CkS h k0 ck c d) (hown:∀j∈Cm ck d,j < k/\∀i,i < σ.nx->μ i≠some j) {sd:SD} {σ':Sy} (hc:ckS σ x ck=(sd,σ')):
  ∃μ',j4 (nm ρ μ σ) (nm ρ μ' σ')/\Rm b (nm ρ μ' σ') h k σ'.lens/\rJ (nm ρ μ' σ') sd d/\σ'.env=σ.env/\Reach σ.nx μ μ' σ'.nx (Cm ck d):=by
 have same:∀{sd:SD},rJ (nm ρ μ σ) sd d->∃μ',j4 (nm ρ μ σ) (nm ρ μ' σ)/\Rm b (nm ρ μ' σ) h k σ.lens/\rJ (nm ρ μ' σ) sd d/\σ.env=σ.env/\Reach σ.nx μ μ' σ.nx (Cm ck d):=
  fun h=>⟨μ,j4.refl _,hm,h,rfl,fun i j h1 h2=> .inl ⟨h1,h2⟩⟩
 cases ck with
 |c=>
  simp only [ckS,A3] at hc;obtain ⟨rfl,rfl⟩:=hc;exact same ⟨c,hx,hr⟩
 |d=>
  simp only [ckS,A3] at hc;obtain ⟨rfl,rfl⟩:=hc;exact same ⟨c,hx,hr⟩
 |full=>
  simp only [ckS,A3] at hc;obtain ⟨rfl,rfl⟩:=hc;obtain ⟨cs,n,rfl,rfl⟩:=hr;exact same ⟨cs,n,hx,rfl⟩
 |own aj ety fr al=>
  simp only [ckS,A3] at hc;obtain ⟨rfl,rfl⟩:=hc;obtain ⟨cs,n,rfl,h1,h2⟩:=hr;rcases h2 with ⟨j,fz,rfl,h3,h4,h5,h6,h7⟩|⟨rfl,h3,h4⟩
  ·obtain ⟨hj,hf⟩:=hown j (by simp [Cm])
   obtain ⟨v1,v2⟩:=hm.ao4 (o:=.arr x aj ety fr al) hj (E1 hb h3) hf fun hv=>⟨cs,n,hx,h1,.inl ⟨j,fz,wD _ _ _,h4,h5,h6,h7⟩⟩
   refine ⟨((nm ρ μ σ).new (some j) (.arr x aj ety fr al)).μ,v1,v2,⟨K0 _,.inl ⟨j,n,wD (nm ρ μ σ) _ _,rfl,fun y e t f a hg=>?_⟩⟩,rfl,fun i q hi hq=>?_⟩
   ·have hg:SO.arr x aj ety fr al=.arr y e t f a:=by simpa [nm,Sy.new,bX] using hg
    injection hg with hg;subst hg;exact ⟨cs,hx⟩
   ·by_cases he:i=σ.nx
    ·have hq':some j=some q:=by simpa [Nm.new,nm,he] using hq
     injection hq' with hq';right;simp [Cm,hq']
    ·left;have hi':i < σ.nx+1:=hi;exact ⟨by omega,by simpa [Nm.new,nm,he] using hq⟩
  ·obtain ⟨v1,v2⟩:=hm.ama (o:=.arr x aj ety fr al) fun hv=>⟨cs,n,hx,h1,.inr ⟨wD _ _ _,h3,h4⟩⟩
   refine ⟨((nm ρ μ σ).new none (.arr x aj ety fr al)).μ,v1,v2,⟨K0 _,.inr ⟨wD (nm ρ μ σ) _ _,cs,n,rfl,fun y e t f a hg=>?_⟩⟩,rfl,fun i q hi hq=>?_⟩
   ·have hg:SO.arr x aj ety fr al=.arr y e t f a:=by simpa [nm,Sy.new,bX] using hg
    injection hg with hg;subst hg;exact hx
   ·by_cases he:i=σ.nx
    ·simp [Nm.new,nm,he] at hq
    ·left;have hi':i < σ.nx+1:=hi;exact ⟨by omega,by simpa [Nm.new,nm,he] using hq⟩
theorem Reach.trans {nx nx1 nx2:Nat} {μ μ1 μ2:Nat->Option Nat} {o1 o2:List Nat} (h:Reach nx μ μ1 nx1 o1) (h':Reach nx1 μ1 μ2 nx2 o2):Reach nx μ μ2 nx2 (o1++o2):=fun i j hi hj=>by
 rcases h' i j hi hj with ⟨a,c⟩|a
 ·rcases h i j a c with h1|h1
  ·exact .inl h1
  ·exact .inr (B0.2 (.inl h1))
 ·exact .inr (B0.2 (.inr a))
theorem Nj {o1 o2:List Nat} (hn:(o1++o2).Nodup) (hown:∀j∈o1++o2,j < k/\∀i,i < σ.nx->μ i≠some j) {μ':Nat->Option Nat} {nx':Nat} (hr:Reach σ.nx μ μ' nx' o1):∀j∈o2,j < k/\∀i,i < nx'->μ' i≠some j:=by
 intro j hj;obtain ⟨h1,h2⟩:=hown j (B0.2 (.inr hj));refine ⟨h1,fun i hi he=>?_⟩
 rcases hr i j hi he with ⟨a,c⟩|a
 ·exact h2 i a c
 ·exact (I0.1 hn).2.2 j a j hj rfl
theorem aal {k0:Nat} (hb:b.k0<=k0) {i:Nat} {xs:List C} (hw:gG ρ i=some (.l xs)):∀{ks:List CK} {cs:List C} {ds:List D} {j:Nat} {μ:Nat->Option Nat} {σ:Sy},Rm b (nm ρ μ σ) h k σ.lens->xs.drop j=cs->fB (CkS h k0) ks cs ds->
  (BF ks ds).Nodup->(∀j∈BF ks ds,j < k/\∀i,i < σ.nx->μ i≠some j)->∀{iq:List SD} {σ':Sy},Yd σ i ks j=(iq,σ')->
  ∃μ',j4 (nm ρ μ σ) (nm ρ μ' σ')/\Rm b (nm ρ μ' σ') h k σ'.lens/\av (rJ (nm ρ μ' σ')) iq ds/\σ'.env=σ.env/\Reach σ.nx μ μ' σ'.nx (BF ks ds)
 |[],[],[],j,μ,σ,hm,_,_,_,_,iq,σ',hc=>by simp only [Yd,A3] at hc;obtain ⟨rfl,rfl⟩:=hc;exact ⟨μ,j4.refl _,hm,trivial,rfl,fun i j h1 h2=> .inl ⟨h1,h2⟩⟩
 |ck::ks,c::cs,d::ds,j,μ,σ,hm,hx,hr,hn,hown,iq,σ',hc=>by
  have hlt:j < xs.length:=by
   rcases L7 j xs.length with h|h
   ·exact h
   ·rw [List.drop_of_length_le h] at hx;cases hx
  rw [Hh hlt] at hx;injection hx with hx1 hx2;have hat:dH ρ (.n i j)=some c:=by simp only [dH,hw,yw xs j hlt,hx1]
  cases h1:ckS σ (.n i j) ck with
  |mk sd σ1=>
   cases h2:Yd σ1 i ks (j+1) with
   |mk aga σ2=>
    simp only [Yd,h1,h2,A3] at hc;obtain ⟨rfl,rfl⟩:=hc;simp only [BF] at hn hown |-;obtain ⟨μ1,a1,a2,a3,a4,a5⟩:=acf hm hb hat hr.1 (fun j hj=>hown j (B0.2 (.inl hj))) h1
    obtain ⟨μ2,b1,b2,b3,b4,b5⟩:=aal hb hw a2 hx2 hr.2 (I0.1 hn).2.1 (Nj hn hown a5) h2;exact ⟨μ2,a1.trans b1,b2,⟨b1.dc a3,b3⟩,b4.trans a4,a5.trans b5⟩
 |[],_::_,_,_,_,_,_,_,hr,_,_,_,_,_=>hr.elim
 |[],[],_::_,_,_,_,_,_,hr,_,_,_,_,_=>hr.elim
 |_::_,[],_,_,_,_,_,_,hr,_,_,_,_,_=>hr.elim
 |_::_,_::_,[],_,_,_,_,_,hr,_,_,_,_,_=>hr.elim
def RsS (h:Heap) (k0:Nat):RS->V->D->Prop
 |.one k,.one c,d=>CkS h k0 k c d
 |.agg ks,.agg cs,d=>∃ds,d=.agg ds/\fB (CkS h k0) ks cs ds
 |_,_,_=>False
theorem Me {k0:Nat} (hb:b.k0<=k0):∀{ks:List RS} {vs:List V} {ds:List D} {ws pre post:List W} {μ:Nat->Option Nat} {σ:Sy},Rm b (nm ρ μ σ) h k σ.lens->VsW (ks.map RS.shape) vs ws->ρ=pre++ws++post->fB (RsS h k0) ks vs ds->
  (oN ks ds).Nodup->(∀j∈oN ks ds,j < k/\∀i,i < σ.nx->μ i≠some j)->∀{iq:List SD} {σ':Sy},Oh σ ks pre.length=(iq,σ')->
  ∃μ',j4 (nm ρ μ σ) (nm ρ μ' σ')/\Rm b (nm ρ μ' σ') h k σ'.lens/\av (RA (nm ρ μ' σ')) iq ds/\σ'.env=σ.env/\Reach σ.nx μ μ' σ'.nx (oN ks ds)
 |[],[],[],ws,pre,post,μ,σ,hm,_,_,_,_,_,iq,σ',hc=>by simp only [Oh,A3] at hc;obtain ⟨rfl,rfl⟩:=hc;exact ⟨μ,j4.refl _,hm,trivial,rfl,fun i j h1 h2=> .inl ⟨h1,h2⟩⟩
 |.one ck::ks,.one c::vs,d::ds,.c c'::ws,pre,post,μ,σ,hm,hw,hρ,hr,hn,hown,iq,σ',hc=>by
  obtain ⟨rfl,hw⟩:=hw;have hat:dH ρ (.v pre.length)=some c':=by rw [hρ,B9];exact at_new pre c' _
  cases h1:ckS σ (.v pre.length) ck with
  |mk sd σ1=>
   cases h2:Oh σ1 ks (pre.length+1) with
   |mk aga σ2=>
    simp only [Oh,h1,h2,A3] at hc;obtain ⟨rfl,rfl⟩:=hc;simp only [oN,Yo] at hn hown |-;obtain ⟨μ1,a1,a2,a3,a4,a5⟩:=acf hm hb hat hr.1 (fun j hj=>hown j (B0.2 (.inl hj))) h1
    obtain ⟨μ2,b1,b2,b3,b4,b5⟩:=Me (pre:=pre++[.c c']) (post:=post) hb a2 hw (by rw [hρ];simp) hr.2 (I0.1 hn).2.1 (Nj hn hown a5) (by simpa using h2)
    exact ⟨μ2,a1.trans b1,b2,⟨b1.ra a3.toA,b3⟩,b4.trans a4,a5.trans b5⟩
 |.agg cks::ks,.agg cs::vs,d::ds,.l cs'::ws,pre,post,μ,σ,hm,hw,hρ,hr,hn,hown,iq,σ',hc=>by
  obtain ⟨rfl,hlen,hw⟩:=hw;have hg:gG ρ pre.length=some (.l cs'):=by rw [hρ,B9];exact mJ pre _ _
  obtain ⟨⟨es,rfl,hr1⟩,hr2⟩:=hr;have hm0:Rm b (nm ρ μ (σ.len pre.length cks.length)) h k (σ.len pre.length cks.length).lens:=by
   refine Rm.lens' hm fun i m hi=>?_
   simp only [Sy.len,D2,A3] at hi;rcases hi with ⟨rfl,rfl⟩|hi
   ·exact ⟨cs',hg,hlen⟩
   ·exact hm.lens i m hi
  cases h1:Yd (σ.len pre.length cks.length) pre.length cks 0 with
  |mk sd σ1=>
   cases h2:Oh σ1 ks (pre.length+1) with
   |mk aga σ2=>
    simp only [Oh,h1,h2,A3] at hc;obtain ⟨rfl,rfl⟩:=hc;simp only [oN,Yo] at hn hown |-;obtain ⟨μ1,a1,a2,a3,a4,a5⟩:=aal hb hg hm0 (C4 ..) hr1 (I0.1 hn).1 (fun j hj=>hown j (B0.2 (.inl hj))) h1
    obtain ⟨μ2,b1,b2,b3,b4,b5⟩:=Me (pre:=pre++[.l cs']) (post:=post) hb a2 hw (by rw [hρ];simp) hr2 (I0.1 hn).2.1 (Nj (σ:=σ) hn hown a5) (by simpa using h2)
    exact ⟨μ2,j4.trans (show j4 (nm ρ μ σ) (nm ρ μ1 σ1) from a1) b1,b2,⟨⟨es,rfl,a3.mono fun _ _=>b1.dc⟩,b3⟩,b4.trans a4,a5.trans b5⟩
 |[],_::_,_,_,_,_,_,_,_,_,_,hr,_,_,_,_,_=>hr.elim
 |[],[],_::_,_,_,_,_,_,_,_,_,hr,_,_,_,_,_=>hr.elim
 |_::_,[],_,_,_,_,_,_,_,_,_,hr,_,_,_,_,_=>hr.elim
 |_::_,_::_,[],_,_,_,_,_,_,_,_,hr,_,_,_,_,_=>hr.elim
 |.one _::_,.agg _::_,_::_,_,_,_,_,_,_,_,_,hr,_,_,_,_,_=>hr.1.elim
 |.agg _::_,.one _::_,_::_,_,_,_,_,_,_,_,_,hr,_,_,_,_,_=>hr.1.elim
 |.one _::_,.one _::_,_::_,[],_,_,_,_,_,hw,_,_,_,_,_,_,_=>hw.elim
 |.one _::_,.one _::_,_::_,.l _::_,_,_,_,_,_,hw,_,_,_,_,_,_,_=>hw.elim
 |.agg _::_,.agg _::_,_::_,[],_,_,_,_,_,hw,_,_,_,_,_,_,_=>hw.elim
 |.agg _::_,.agg _::_,_::_,.c _::_,_,_,_,_,_,hw,_,_,_,_,_,_,_=>hw.elim
end
end Go.Ey
namespace Go.Ey
section
variable {b:Bs} {N:Nm} {h:Heap} {k:Nat} {lens:List (Nat×Nat)}
def lu (N:Nm) (bx aK:List Nat):Prop:=av (fun i j=>i < N.nx/\N.μ i=some j) bx aK
theorem lu.get {bx aK:List Nat} (hl:lu N bx aK) {q i:Nat} (hq:bx[q]?=some i):∃j,aK[q]?=some j/\i < N.nx/\N.μ i=some j:=av.get q hl hq
theorem yY:∀{l:List Nat},nodupB l=true->l.Nodup
 |[],_=>J1
 |i::l,h=>by simp only [nodupB,A5,L1,List.contains_eq_mem,decide_eq_false_iff_not] at h;exact Kp.2 ⟨h.1,yY h.2⟩
theorem lu.mem:∀{bx aK:List Nat},lu N bx aK->∀j∈aK,∃i∈bx,i < N.nx/\N.μ i=some j
 |[],[],_,j,hj=>by simp at hj
 |i::bx,j'::aK,hl,j,hj=>by
  simp only [D2] at hj;rcases hj with rfl|hj
  ·exact ⟨i,by simp,hl.1⟩
  ·obtain ⟨i',h1,h2⟩:=lu.mem hl.2 j hj;exact ⟨i',by simp [h1],h2⟩
 |[],_::_,hl,_,_=>hl.elim
 |_::_,[],hl,_,_=>hl.elim
theorem lu.nodup (hm:Rm b N h k lens):∀{bx aK:List Nat},lu N bx aK->bx.Nodup->aK.Nodup
 |[],[],_,_=>J1
 |i::bx,j::aK,hl,hn=>by
  rw [Kp] at hn |-;refine ⟨fun hj=>?_,lu.nodup hm hl.2 hn.2⟩
  obtain ⟨i',h1,h2,h3⟩:=lu.mem hl.2 j hj;have:=hm.inj i i' j hl.1.1 h2 hl.1.2 h3
  subst this;exact hn.1 h1
 |[],_::_,hl,_=>hl.elim
 |_::_,[],hl,_=>hl.elim
theorem aaV {bx aK:List Nat} (hl:lu N bx aK):∀{caps gT cs:List (Nat×Nat)},abY bx caps gT=true->av (fun p q:Nat×Nat=>p.1 < N.nx/\N.μ p.1=some q.1/\q.2=p.2) gT cs->av (fun p q:Nat×Nat=>aK[p.1]?=some q.1/\q.2=p.2) caps cs
 |[],[],[],_,_=>trivial
 |(b,o)::r,(i,o')::r',(j,o2)::cs,hc,hr=>by
  simp only [abY,A5,K1] at hc;obtain ⟨⟨hb,rfl⟩,hc⟩:=hc;obtain ⟨j',g1,_,g2⟩:=hl.get hb;obtain ⟨⟨_,g3,g4⟩,hr⟩:=hr;simp only at g3 g4;rw [g2] at g3;injection g3 with g3;subst g3
  exact ⟨⟨g1,g4⟩,aaV hl hc hr⟩
 |[],_::_,_,hc,_=>by simp [abY] at hc
 |_::_,[],_,hc,_=>by simp [abY] at hc
 |[],[],_::_,_,hr=>hr.elim
 |_::_,_::_,[],_,hr=>hr.elim
theorem NW:∀{caps gT cs:List (Nat×Nat)},av (fun p q:Nat×Nat=>p.1 < N.nx/\N.μ p.1=some q.1/\q.2=p.2) gT cs->∀{q i:Nat},Fe caps gT q=some i->∃j,i < N.nx/\N.μ i=some j
 |[],_,_,_,q,i,h=>by simp [Fe] at h
 |_::_,[],_,_,q,i,h=>by simp [Fe] at h
 |(b,o)::r,(i',o')::r',(j,o2)::cs,hr,q,i,h=>by
  simp only [Fe] at h;split at h
  ·simp only [A0] at h;subst h;exact ⟨j,hr.1.1,hr.1.2.1⟩
  ·exact NW hr.2 h
 |_::_,_::_,[],hr,_,_,_=>hr.elim
theorem LH {bx aK:List Nat}:∀{ps:List PS} {iq:List SD} {ds:List D} {N:Nm} {h:Heap},Rm b N h k lens->lu N bx aK->av (RD N) iq ds->∀{aJ:List TA} {us:List (Nat×SO)},Am lens N.hs bx ps iq=some (aJ,us)->
  ∃ds1 us',xw h ds=some (ds1,us')/\j4 N (N.upd us)/\Rm b (N.upd us) (ay h us') k lens/\∃FC,sj N.ρ aJ=some FC/\(qA ps FC->fB (Zf aK) ps FC ds1)
 |[],[],[],N,h,hm,_,_,aJ,us,hf=>by simp only [Am,A0,A3] at hf;obtain ⟨rfl,rfl⟩:=hf;exact ⟨[],[],rfl,j4.refl _,hm,[],rfl,fun _=>trivial⟩
 |[],_::_,_,_,_,_,_,_,_,_,hf=>by simp [Am] at hf
 |.one::_,[],_,_,_,_,_,_,_,_,hf=>by cases hf
 |.agg _::_,[],_,_,_,_,_,_,_,_,hf=>by cases hf
 |.ref _ _::_,[],_,_,_,_,_,_,_,_,hf=>by cases hf
 |.fq _ _::_,[],_,_,_,_,_,_,_,_,hf=>by cases hf
 |p::ps,sd::iq,[],_,_,_,_,hr,_,_,_=>hr.elim
 |[],[],_::_,_,_,_,_,hr,_,_,_=>hr.elim
 |p::ps,sd::iq,d::ds,N,h,hm,hl,hr,aJ,us,hf=>by
  have gen:(∀q o,p≠.ref q o)->(∀q o,p≠.fq q o)->(FP lens N.hs sd).bind (fun p=>(Am lens (FW N.hs p.2) bx ps iq).bind fun q=>some (TA.v p.1::q.1,p.2++q.2))=some (aJ,us)->
    ∃ds1 us',xw h (d::ds)=some (ds1,us')/\j4 N (N.upd us)/\Rm b (N.upd us) (ay h us') k lens/\∃FC,sj N.ρ aJ=some FC/\(qA (p::ps) FC->fB (Zf aK) (p::ps) FC ds1):=by
   intro hp hp' hf;simp only [A1,A0,A3,C1] at hf;obtain ⟨tv,u1,h1,as',u2,h2,rfl,rfl⟩:=hf;obtain ⟨v,Df,k1,k2,k3,k4,k5⟩:=Mv hm hr.1 h1;obtain ⟨d1,l1,l2⟩:=Zv k1;obtain ⟨ds1,Fp,q1,q2,q3,FC,q4,q5⟩:=LH (N:=N.upd u1) (h:=ay h Df) k4 hl (hr.2.mono fun _ _=>k3.rd) h2
   refine ⟨d1::ds1,Df++Fp,by simp [xw,l1,q1],?_,?_,.v v::FC,?_,fun hs=>?_⟩
   ·rw [Nm.lJ];exact k3.trans q2
   ·rw [Nm.lJ,gP];exact q3
   ·have:sj N.ρ as'=some FC:=q4
    simp [sj,XY,k2,this]
   ·cases p with
    |one=>cases v with
     |full _ _=>exact hs.elim
     |one c=>exact ⟨l2,q5 hs⟩
     |agg cs=>exact hs.elim
    |agg m=>cases v with
     |full _ _=>exact hs.elim
     |one c=>exact hs.elim
     |agg cs=>exact ⟨⟨hs.1,l2⟩,q5 hs.2⟩
    |ref q o=>exact absurd rfl (hp q o)
    |fq q o=>exact absurd rfl (hp' q o)
  cases p with
  |one=>exact gen (by simp) (by simp) (by simpa [Am] using hf)
  |agg m=>exact gen (by simp) (by simp) (by simpa [Am] using hf)
  |fq g caps=>
   cases sd with
   |fq g' gT=>
    simp only [Am] at hf;split at hf
    case isFalse=>cases hf
    rename_i hc;obtain ⟨rfl,hc1⟩:=hc;simp only [A1,A0,A3,C1] at hf;obtain ⟨as',u2,h2,rfl,rfl⟩:=hf;obtain ⟨ds1,Fp,q1,q2,q3,FC,q4,q5⟩:=LH hm hl hr.2 h2;obtain ⟨cs,rfl,g2⟩:=hr.1;refine ⟨.fq g' cs::ds1,Fp,?_,q2,q3,.ref 0 0::FC,?_,fun hs=>⟨⟨rfl,rfl,cs,rfl,aaV hl hc1 g2⟩,q5 hs.2.2⟩⟩
    ·simp [xw,Sk,Lm,ay,q1]
    ·simp [sj,XY,q4]
   |_=>simp [Am] at hf
  |ref q off=>
   cases sd with
   |loc i o=>
    simp only [Am] at hf;split at hf
    case isFalse=>cases hf
    rename_i hc;obtain ⟨hc1,rfl⟩:=hc;simp only [A1,A0,A3,C1] at hf;obtain ⟨as',u2,h2,rfl,rfl⟩:=hf;obtain ⟨ds1,Fp,q1,q2,q3,FC,q4,q5⟩:=LH hm hl hr.2 h2;obtain ⟨hi,j,g1,g2⟩:=hr.1;obtain ⟨j',g3,_,g4⟩:=hl.get hc1;rw [g1] at g4;injection g4 with g4;subst g4
    refine ⟨d::ds1,Fp,?_,q2,q3,.ref q o::FC,?_,fun hs=>⟨⟨rfl,rfl,j,g3,g2⟩,q5 hs.2.2⟩⟩
    ·simp [xw,g2,Sk,Lm,ay,q1]
    ·simp [sj,XY,q4]
   |_=>simp [Am] at hf
theorem BU (hm:Rm b N h k lens):∀{bx ms aK:List Nat} {bs:List SL},lu N bx aK->qa lens N.hs bx ms=some bs->∃xss,DK N.ρ bs=some xss/\fB (F8 h) ms xss aK
 |[],[],[],bs,_,hf=>by simp only [qa,A0] at hf;subst hf;exact ⟨[],rfl,trivial⟩
 |i::bx,m::ms,j::aK,bs,hl,hf=>by
  simp only [qa] at hf;split at hf
  case h_2=>cases hf
  rename_i ds hg;simp only [A1] at hf;obtain ⟨aJ,h1,hf⟩:=hf;split at hf
  case isFalse=>cases hf
  rename_i hc;simp only [A1,A0] at hf;obtain ⟨bs',h2,rfl⟩:=hf;obtain ⟨xss,h3,h4⟩:=BU hm hl.2 h2;obtain ⟨j',ds',g1,g2,g3⟩:=hm.box hg;rw [hl.1.2] at g1;injection g1 with g1;subst g1
  obtain ⟨xs,h5,h6⟩:=EI g3 h1;refine ⟨xs::xss,by simp [DK,ER hm,h5,h3],⟨by rw [IQ h5];exact hc,ds',g2,h6⟩,h4⟩
 |[],[],_::_,_,hl,_=>hl.elim
 |[],_::_,_,_,_,hf=>by simp [qa] at hf
 |_::_,[],_,_,_,hf=>by simp [qa] at hf
 |_::_,_::_,[],_,hl,_=>hl.elim
theorem GQ {ps:List PS} {iq:List SD}:∀{m q:Nat} {bx:List Nat},zy ps iq q m=some bx->bx.length=m
 |0,_,bx,h=>by simp only [zy,A0] at h;subst h;rfl
 |m+1,q,bx,h=>by simp only [zy,A1,A0] at h;obtain ⟨i,_,is,h2,rfl⟩:=h;simp [GQ h2]
theorem VS:∀{ps:List PS} {iq:List SD} {ds:List D},av (RD N) iq ds->∀{q i:Nat},oJ ps iq q=some i->∃j,i < N.nx/\N.μ i=some j
 |[],_,_,_,q,i,h=>by simp [oJ] at h
 |.one::_,[],_,_,q,i,h=>by cases h
 |.agg _::_,[],_,_,q,i,h=>by cases h
 |.ref _ _::_,[],_,_,q,i,h=>by cases h
 |.fq _ _::_,[],_,_,q,i,h=>by cases h
 |p::ps,sd::iq,d::ds,hr,q,i,h=>by
  have rest:oJ ps iq q=some i->∃j,i < N.nx/\N.μ i=some j:=VS hr.2;cases p with
  |one=>exact rest (by simpa [oJ] using h)
  |agg m=>exact rest (by simpa [oJ] using h)
  |ref q' o=>
   cases sd with
   |loc i' o'=>
    simp only [oJ] at h;split at h
    ·simp only [A0] at h;subst h;obtain ⟨hi,j,g1,_⟩:=hr.1;exact ⟨j,hi,g1⟩
    ·exact rest h
   |_=>exact rest (by simpa [oJ] using h)
  |fq g caps=>
   cases sd with
   |fq g' gT=>
    simp only [oJ] at h;split at h
    ·rename_i i' hc;simp only [A0] at h;subst h;obtain ⟨cs,_,g2⟩:=hr.1;exact NW g2 hc
    ·exact rest h
   |_=>exact rest (by simpa [oJ] using h)
 |_::_,_::_,[],hr,_,_,_=>hr.elim
theorem Jl {ps:List PS} {iq:List SD} {ds:List D} (hr:av (RD N) iq ds):∀{m q:Nat} {bx:List Nat},zy ps iq q m=some bx->∃aK,lu N bx aK
 |0,_,bx,h=>by simp only [zy,A0] at h;subst h;exact ⟨[],trivial⟩
 |m+1,q,bx,h=>by simp only [zy,A1,A0] at h;obtain ⟨i,h1,is,h2,rfl⟩:=h;obtain ⟨aK,h3⟩:=Jl hr h2;obtain ⟨j,h4,h5⟩:=VS hr h1;exact ⟨j::aK,⟨h4,h5⟩,h3⟩
theorem Bv:∀{bx ms:List Nat} {σ:Sy} {n:Nat},(kQ σ bx ms n).env=σ.env/\(kQ σ bx ms n).nx=σ.nx
 |[],_,_,_=>⟨rfl,rfl⟩
 |_::_,[],_,_=>⟨rfl,rfl⟩
 |i::bx,m::ms,σ,n=>by simp only [kQ];exact Bv
theorem U8:∀{bx ms:List Nat} {σ:Sy} {n:Nat},bx.Nodup->bx.length=ms.length->(∀i,i ∉ bx->bX (kQ σ bx ms n).heap i=bX σ.heap i)/\(∀q i m,bx[q]?=some i->ms[q]?=some m->bX (kQ σ bx ms n).heap i=.box ((Ba (n+q) 0 m).map .a))
 |[],[],σ,n,_,_=>⟨fun _ _=>rfl,by simp⟩
 |[],_::_,_,_,_,hl=>by simp at hl
 |_::_,[],_,_,_,hl=>by simp at hl
 |i::bx,m::ms,σ,n,hn,hl=>by
  rw [Kp] at hn;simp only [kQ];obtain ⟨h1,h2⟩:=U8 (σ:={ σ with heap:=(i,.box ((Ba n 0 m).map .a))::σ.heap,lens:=(n,m)::σ.lens}) (n:=n+1) hn.2 (by simpa using hl)
  refine ⟨fun p hp=>?_,fun q p m' hq hm'=>?_⟩
  ·simp only [D2,not_or] at hp;rw [h1 p hp.2,dN,E0 (fun e=>hp.1 e.symm)]
  ·cases q with
   |zero=>
    simp only [C0,A0] at hq hm';subst hq hm';rw [h1 i hn.1,dN,C6 rfl];rfl
   |succ q=>
    simp only [Bm] at hq hm';rw [h2 q p m' hq hm',show n+1+q=n+(q+1) by omega]
theorem PX:∀{bx ms:List Nat} {σ:Sy} {n:Nat} {i m:Nat},(i,m)∈(kQ σ bx ms n).lens->(i,m)∈σ.lens\/∃q,i=n+q/\ms[q]?=some m
 |[],_,_,_,_,_,h=> .inl h
 |_::_,[],_,_,_,_,h=> .inl h
 |_::bx,m'::ms,σ,n,i,m,h=>by
  simp only [kQ] at h;rcases PX h with h|⟨q,h1,h2⟩
  ·simp only [D2,A3] at h;rcases h with ⟨rfl,rfl⟩|h
   ·exact .inr ⟨0,rfl,rfl⟩
   ·exact .inl h
  ·exact .inr ⟨q+1,by omega,by simpa using h2⟩
theorem U0 (pre:List W) (xss:List (List C)):∀(q:Nat) (xs:List C),xss[q]?=some xs->∀post,gG (pre++xss.map .l++post) (pre.length+q)=some (.l xs):=by
 induction xss generalizing pre with
 |nil=>intro q xs h;simp at h
 |cons y xss ih=>
  intro q xs h post;cases q with
  |zero=>
   simp only [C0,A0] at h;subst h;rw [D4,B9];exact mJ pre _ _
  |succ q=>
   simp only [Bm] at h;have:=ih (pre++[.l y]) q xs h post
   rw [Ax] at this;rw [D4];rw [show pre.length+(q+1)=pre.length+[W.l y].length+q by simp;omega]
   rw [show pre++W.l y::xss.map .l++post=pre++[.l y]++xss.map .l++post by simp]
   exact this
theorem fB.get {α β γ:Type} {R:α->β->γ->Prop}:∀{aJ:List α} {bs:List β} {cs:List γ} {q:Nat} {c:γ},fB R aJ bs cs->cs[q]?=some c->∃a b,aJ[q]?=some a/\bs[q]?=some b/\R a b c
 |[],[],[],q,c,_,h=>by simp at h
 |a::aJ,b::bs,c'::cs,q,c,h1,h=>by
  cases q with
  |zero=>simp only [C0,A0] at h;subst h;exact ⟨a,b,rfl,rfl,h1.1⟩
  |succ q=>
   simp only [Bm] at h;obtain ⟨a',b',q1,q2,q3⟩:=fB.get h1.2 h;exact ⟨a',b',by simpa using q1,by simpa using q2,q3⟩
 |[],_::_,_,_,_,h1,_=>h1.elim
 |[],[],_::_,_,_,h1,_=>h1.elim
 |_::_,[],_,_,_,h1,_=>h1.elim
 |_::_,_::_,[],_,_,h1,_=>h1.elim
theorem CD.rd {c:C} {d:D} (h:CD c d) {x:At} (hx:dH N.ρ x=some c):rJ N (.a x) d:=⟨c,hx,h⟩
theorem Ih {i:Nat} {xs:List C} (hw:gG N.ρ i=some (.l xs)):∀{m off:Nat} {ys:List C} {ds:List D},xs.drop off=ys->ys.length=m->av CD ys ds->av (rJ N) ((Ba i off m).map .a) ds
 |0,off,[],[],_,_,_=>trivial
 |m+1,off,y::ys,d::ds,hx,hl,hr=>by
  have hlt:off < xs.length:=by
   rcases L7 off xs.length with h|h
   ·exact h
   ·rw [List.drop_of_length_le h] at hx;cases hx
  rw [Hh hlt] at hx;injection hx with hx1 hx2;exact ⟨hr.1.rd (by simp only [dH,hw,yw xs off hlt,hx1]),Ih hw hx2 (by simpa using hl) hr.2⟩
 |0,_,_::_,_,_,hl,_=>by simp at hl
 |_+1,_,[],_,_,hl,_=>by simp at hl
 |0,_,[],_::_,_,_,hr=>hr.elim
 |_+1,_,_::_,[],_,_,hr=>hr.elim
end
section
variable {b:Bs} {ρ:List W} {μ:Nat->Option Nat} {σ:Sy} {h:Heap} {k:Nat} {call:qp} {head:qZ} {kt:SD->Sy->Nat->Tree} {r:R} {F:DF} {sig:Nat->Option eT}
theorem Mx (hm:Rm b (nm ρ μ σ) h k σ.lens) {bx ms aK:List Nat} (hn:bx.Nodup) (hlen:bx.length=ms.length) (hl:lu (nm ρ μ σ) bx aK) (ard:∀i∈bx,∃ds,bX σ.heap i=.box ds) {h':Heap} {k':Nat} (hk:k<=k')
  (hfr:∀j,j < k->j ∉ aK->ax h' j=ax h j) {pre:List W} {xss:List (List C)} (hbs:fB (F8 h') ms xss aK) (hρ:ρ=pre++xss.map .l):
  j4 (nm ρ μ σ) (nm ρ μ (kQ σ bx ms pre.length))/\Rm b (nm ρ μ (kQ σ bx ms pre.length)) h' k' (kQ σ bx ms pre.length).lens:=by
 obtain ⟨g1,g2⟩:=U8 (σ:=σ) (n:=pre.length) hn hlen;obtain ⟨e1,e2⟩:=Bv (bx:=bx) (ms:=ms) (σ:=σ) (n:=pre.length);have hv:j4 (nm ρ μ σ) (nm ρ μ (kQ σ bx ms pre.length)):=by
  refine ⟨fun _ _ h=>h,fun _ _ h=>h,?_,fun _ _=>rfl,fun i y' aj ety fr' al' hi hg=>?_⟩
  ·show σ.nx<=(kQ σ bx ms pre.length).nx;rw [e2];exact An _
  ·by_cases hib:i∈bx
   ·obtain ⟨q,hq⟩:=List.getElem?_of_mem hib;obtain ⟨m,hq'⟩:∃m,ms[q]?=some m:=by
     have:=(As.1 hq).1
     exact ⟨ms[q]'(by omega),A6 (by omega)⟩
    have hg':bX (kQ σ bx ms pre.length).heap i=.arr y' aj ety fr' al':=hg;rw [g2 q i m hq hq'] at hg';cases hg'
   ·have hg':bX (kQ σ bx ms pre.length).heap i=.arr y' aj ety fr' al':=hg;rw [g1 i hib] at hg';exact ⟨y',fr',al',hg',id,fun cs _ hc=>⟨cs,hc,fun _=>rfl⟩⟩
 have hwq:∀q xs,xss[q]?=some xs->gG ρ (pre.length+q)=some (.l xs):=fun q xs hq=>by
  have:=U0 pre xss q xs hq []
  rw [Cl] at this;rw [hρ];exact this
 refine ⟨hv,fun i=>?_,fun i i' j h1 h2 h3 h4=>?_,fun i j h1 h2=>?_,fun i hi=>?_,fun i j h1 h2=>?_,fun j h1 h2=>?_,E1 hm.le hk,fun i m hi=>?_⟩
 ·by_cases hib:i∈bx
  ·obtain ⟨q,hq⟩:=List.getElem?_of_mem hib;obtain ⟨j,hj1,hj2,hj3⟩:=hl.get hq;obtain ⟨m,xs,hb1,hb2,hb3,ds,hb4,hb5⟩:=hbs.get hj1;show Sr _ h' i (bX (kQ σ bx ms pre.length).heap i)
   rw [g2 q i m hq hb1];subst hb3;exact ⟨j,ds,hj3,hb4,Ih (N:=nm ρ μ (kQ σ bx ms pre.length)) (hwq q xs hb2) (C4 ..) rfl hb5⟩
  ·show Sr _ h' i (bX (kQ σ bx ms pre.length).heap i)
   rw [g1 i hib];by_cases hi:i < σ.nx
   ·refine Sr.mono hv hi (fun j hj=>hfr j (hm.lt i j hi hj) fun hjl=>?_) (hm.obj i)
    obtain ⟨i',h1,h2,h3⟩:=lu.mem hl j hjl;exact hib (hm.inj i i' j hi h2 hj h3▸h1)
   ·rw [show bX σ.heap i=.dead from hm.dom i (Ly hi)];trivial
 ·rw [show (nm ρ μ (kQ σ bx ms pre.length)).nx=σ.nx from e2] at h1 h2
  exact hm.inj i i' j h1 h2 h3 h4
 ·rw [show (nm ρ μ (kQ σ bx ms pre.length)).nx=σ.nx from e2] at h1
  exact F0 (hm.lt i j h1 h2) hk
 ·rw [show (nm ρ μ (kQ σ bx ms pre.length)).nx=σ.nx from e2] at hi
  show bX (kQ σ bx ms pre.length).heap i=.dead
  rw [g1 i fun hib=>?_]
  ·exact hm.dom i hi
  ·obtain ⟨ds,hds⟩:=ard i hib;have:=hm.dom i hi
   rw [show bX (nm ρ μ σ).hs i=_ from hds] at this
   cases this
 ·rw [show (nm ρ μ (kQ σ bx ms pre.length)).nx=σ.nx from e2] at h1
  exact hm.base i j h1 h2
 ·rw [hfr j (F0 h1 hm.le) fun hjl=>?_]
  ·exact hm.frame j h1 h2
  ·obtain ⟨i',q1,q2,q3⟩:=lu.mem hl j hjl;rcases hm.base i' j q2 q3 with q|q
   ·omega
   ·exact h2 q
 ·rcases PX hi with hi|⟨q,rfl,hq⟩
  ·exact hm.lens i m hi
  ·obtain ⟨xs,hxs⟩:∃xs,xss[q]?=some xs:=by
    have:=(As.1 hq).1
    have hl2:=hbs.ab3;exact ⟨xss[q]'(by omega),A6 (by omega)⟩
   obtain ⟨j,hj⟩:∃j,aK[q]?=some j:=by
    have:=(As.1 hq).1
    have hl2:=hbs.ab3;exact ⟨aK[q]'(by omega),A6 (by omega)⟩
   obtain ⟨m',xs',hb1,hb2,hb3,_⟩:=hbs.get hj;rw [hq] at hb1;injection hb1 with hb1
   rw [hxs] at hb2;injection hb2 with hb2
   subst hb1 hb2;exact ⟨xs,hwq q xs hxs,hb3⟩
end
end Go.Ey
namespace Go.Ey
section
variable {b:Bs} {ρ:List W} {μ:Nat->Option Nat} {σ:Sy} {h:Heap} {k:Nat} {call:qp} {head:qZ} {r:R} {F:DF} {sig:Nat->Option eT}
theorem Az {lens:List (Nat×Nat)} {hs:List (Nat×SO)}:∀{bx ms:List Nat} {bs:List SL},qa lens hs bx ms=some bs->∀i∈bx,∃ds,bX hs i=.box ds
 |[],_,_,_,i,hi=>by simp at hi
 |_::_,[],_,hf,_,_=>by simp [qa] at hf
 |i::bx,m::ms,bs,hf,p,hp=>by
  simp only [qa] at hf;split at hf
  case h_2=>cases hf
  rename_i ds hg;simp only [A1] at hf;obtain ⟨aJ,h1,hf⟩:=hf;split at hf
  case isFalse=>cases hf
  simp only [A1] at hf;obtain ⟨bs',h2,_⟩:=hf;simp only [D2] at hp;rcases hp with rfl|hp
  ·exact ⟨ds,hg⟩
  ·exact Az h2 p hp
theorem ZF {h:Heap} {k0:Nat} {ck:CK} {c:C} {d:D} (hr:PM h k0 ck c d):∀j∈Cm ck d,k0<=j:=by
 intro j hj;cases ck with
 |own aj ety fr al=>
  obtain ⟨cs,n,_,_,⟨j',fz,rfl,h3,_⟩|⟨rfl,_⟩⟩:=hr
  ·simp [Cm] at hj;subst hj;exact h3
  ·simp [Cm] at hj
 |_=>simp [Cm] at hj
theorem Uk {h:Heap} {k0:Nat}:∀{ks:List CK} {cs:List C} {ds:List D},fB (PM h k0) ks cs ds->∀j∈BF ks ds,k0<=j
 |[],[],[],_,j,hj=>by simp [BF] at hj
 |_::_,_::_,_::_,hr,j,hj=>by simp only [BF,B0] at hj;exact hj.elim (ZF hr.1 j) (Uk hr.2 j)
 |[],_::_,_,h1,_,_=>h1.elim
 |[],[],_::_,h1,_,_=>h1.elim
 |_::_,[],_,h1,_,_=>h1.elim
 |_::_,_::_,[],h1,_,_=>h1.elim
theorem WN {h:Heap} {k0:Nat}:∀{ks:List RS} {vs:List V} {ds:List D},fB (RsR h k0) ks vs ds->∀j∈oN ks ds,k0<=j
 |[],[],[],_,j,hj=>by simp [oN] at hj
 |rs::_,v::_,d::_,hr,j,hj=>by
  simp only [oN,B0] at hj;rcases hj with hj|hj
  ·cases rs with
   |one k=>cases v with
    |full _ _=>exact hr.1.elim
    |one c=>exact ZF hr.1 j hj
    |agg cs=>exact hr.1.elim
   |agg ks=>cases v with
    |full _ _=>exact hr.1.elim
    |one c=>exact hr.1.elim
    |agg cs=>obtain ⟨ds,rfl,h2⟩:=hr.1;exact Uk h2 j hj
  ·exact WN hr.2 j hj
 |[],_::_,_,h1,_,_=>h1.elim
 |[],[],_::_,h1,_,_=>h1.elim
 |_::_,[],_,h1,_,_=>h1.elim
 |_::_,_::_,[],h1,_,_=>h1.elim
theorem aed {h:Heap} {k0:Nat}:∀{ks:List RS} {vs:List V} {ds:List D},ks.all RS.VQ=true->fB (RsR h k0) ks vs ds->fB (RsS h k0) ks vs ds:=by
 have one:∀{ck:CK} {c:C} {d:D},ck.VQ=true->PM h k0 ck c d->CkS h k0 ck c d:=by intro ck c d hk hr;cases ck<;>first|exact hr|cases hk
 have many:∀{ks:List CK} {cs:List C} {ds:List D},ks.all CK.VQ=true->fB (PM h k0) ks cs ds->fB (CkS h k0) ks cs ds:=by
  intro ks;induction ks with
  |nil=>intro cs ds _ hr;cases cs<;>cases ds<;>first|trivial|exact hr.elim
  |cons ck ks ih=>
   intro cs ds hk hr;cases cs with
   |nil=>exact hr.elim
   |cons c cs=>cases ds with
    |nil=>exact hr.elim
    |cons d ds=>
     simp only [I3,A5] at hk;exact ⟨one hk.1 hr.1,ih hk.2 hr.2⟩
 intro ks;induction ks with
 |nil=>intro vs ds _ hr;cases vs<;>cases ds<;>first|trivial|exact hr.elim
 |cons rs ks ih=>
  intro vs ds hk hr;cases vs with
  |nil=>exact hr.elim
  |cons v vs=>cases ds with
   |nil=>exact hr.elim
   |cons d ds=>
    simp only [I3,A5] at hk;refine ⟨?_,ih hk.2 hr.2⟩;cases rs with
    |one k=>cases v with
     |full _ _=>exact hr.1.elim
     |one c=>exact one hk.1 hr.1
     |agg cs=>exact hr.1.elim
    |agg cks=>cases v with
     |full _ _=>exact hr.1.elim
     |one c=>exact hr.1.elim
     |agg cs=>obtain ⟨es,h1,h2⟩:=hr.1;exact ⟨es,h1,many hk.1 h2⟩
theorem ZM {h h0:Heap} {k0:Nat}:∀{ks:List RS} {vs:List V} {ds ds1:List D},ks.all RS.isC=true->fB (RsR h0 k0) ks vs ds->av VD vs ds1->fB (RsS h k0) ks vs ds1/\oN ks ds1=[]:=by
 have many:∀{ks:List CK} {cs:List C} {ds ds1:List D},ks.all CK.isC=true->fB (PM h0 k0) ks cs ds->av CD cs ds1->fB (CkS h k0) ks cs ds1/\BF ks ds1=[]:=by
  intro ks;induction ks with
  |nil=>
   intro cs ds ds1 _ hr hv;cases cs with
   |nil=>cases ds1 with
    |nil=>exact ⟨trivial,rfl⟩
    |cons _ _=>exact hv.elim
   |cons _ _=>cases ds<;>exact hr.elim
  |cons ck ks ih=>
   intro cs ds ds1 hk hr hv;cases cs with
   |nil=>exact hr.elim
   |cons c cs=>cases ds with
    |nil=>exact hr.elim
    |cons d ds=>cases ds1 with
     |nil=>exact hv.elim
     |cons d1 ds1=>
      simp only [I3,A5] at hk;obtain ⟨h1,h2⟩:=ih hk.2 hr.2 hv.2;cases ck with
      |c=>exact ⟨⟨hv.1,h1⟩,by simp [BF,Cm,h2]⟩
      |_=>cases hk.1
 intro ks;induction ks with
 |nil=>
  intro vs ds ds1 _ hr hv;cases vs with
  |nil=>cases ds1 with
   |nil=>exact ⟨trivial,rfl⟩
   |cons _ _=>exact hv.elim
  |cons _ _=>cases ds<;>exact hr.elim
 |cons rs ks ih=>
  intro vs ds ds1 hk hr hv;cases vs with
  |nil=>exact hr.elim
  |cons v vs=>cases ds with
   |nil=>exact hr.elim
   |cons d ds=>cases ds1 with
    |nil=>exact hv.elim
    |cons d1 ds1=>
     simp only [I3,A5] at hk;obtain ⟨h1,h2⟩:=ih hk.2 hr.2 hv.2;cases rs with
     |one ck=>cases v with
      |full _ _=>exact hr.1.elim
      |one c=>cases ck with
       |c=>exact ⟨⟨hv.1,h1⟩,by simp [oN,Yo,Cm,h2]⟩
       |_=>cases hk.1
      |agg cs=>exact hr.1.elim
     |agg cks=>cases v with
      |full _ _=>exact hr.1.elim
      |one c=>exact hr.1.elim
      |agg cs=>
       obtain ⟨es,_,h3⟩:=hr.1;obtain ⟨es1,h4,h5⟩:=hv.1;obtain ⟨h6,h7⟩:=many hk.1 h3 h5;subst h4;exact ⟨⟨⟨es1,rfl,h6⟩,h1⟩,by simp [oN,Yo,h7,h2]⟩
theorem MZ {us:List (Nat×Obj)}:∀{h:Heap} {j:Nat},(∀p∈us,p.1≠j)->ax (ay h us) j=ax h j:=by
 induction us with
 |nil=>intro h j _;rfl
 |cons u us ih=>
  intro h j hn;simp only [ay];rw [ih fun p hp=>hn p (by simp [hp])]
  simp [ax,hn u (by simp)]
theorem Rm.heap' {N:Nm} {lens:List (Nat×Nat)} (hm:Rm b N h k lens) {h':Heap} (hh:∀j,j < b.k0\/(∃i,i < N.nx/\N.μ i=some j)->ax h' j=ax h j):Rm b N h' k lens:=
 { hm with
   obj:=fun i=>by
    by_cases hi:i < N.nx
    ·exact (hm.obj i).mono (j4.refl N) hi fun j hj=>hh j (.inr ⟨i,hi,hj⟩)
    ·rw [hm.dom i (Ly hi)];trivial
   frame:=fun j h1 h2=>by rw [hh j (.inl h1)];exact hm.frame j h1 h2}
theorem ajr {N:Nm} {iq:List SD} {ds:List D} (h:av (RA N) iq ds):RD N (Zj iq) (Dc ds):=by
 match iq,ds,h with
 |[],[],_=>exact ⟨[],rfl,trivial⟩
 |[d],[v],h=>exact h.1.mY
 |d::d'::ds,v::v'::vs,h=>exact ⟨_,rfl,h⟩
def ZZ (b:Bs) (ρ:List W) (μ:Nat->Option Nat) (σ:Sy) (call:qp) (head:qZ) (kt:SD->Sy->Nat->Tree) (r:R) (d:D) (h':Heap) (k':Nat):Prop:=
 ∃(ws:List W) (μ':Nat->Option Nat) (σ':Sy) (sd:SD),σ'.env=σ.env/\j4 (nm ρ μ σ) (nm (ρ++ws) μ' σ')/\Rm b (nm (ρ++ws) μ' σ') h' k' σ'.lens/\RD (nm (ρ++ws) μ' σ') sd d/\aA call head (kt sd σ' (ρ++ws).length) (ρ++ws)=some r
theorem Ue {kt:SD->Sy->Nat->Tree} (hcall:qf F sig call) (hm:Rm b (nm ρ μ σ) h k σ.lens) {own:Bool} {f g:Nat} {iq:List SD} {ds:List D} (hds:av (RD (nm ρ μ σ)) iq ds) (hd:aA call head (Ep sig own σ ρ.length f g iq kt) ρ=some r):
  ∃n0 d h' k',(∀n,n0<=n->wZ (gu F n) (cond own 1 0) f ds h k=some (d,h',k'))/\k<=k'/\ZZ b ρ μ σ call head kt r d h' k':=by
 unfold Ep at hd;split at hd
 case h_2=>cases hd
 rename_i s hs;by_cases Re:s.nat=true\/s.cd g≠f
 ·rw [C6 Re] at hd;cases hd
 rw [E0 Re] at hd;have hsn:¬s.nat=true:=fun e=>Re (.inl e)
 have hcf:s.cd g=f:=Classical.byContradiction fun e=>Re (.inr e)
 by_cases hkind:(if own=true then s.rs.all RS.VQ else s.rs.all RS.isC)=true
 case neg=>rw [E0 hkind] at hd;cases hd
 rw [C6 hkind] at hd;split at hd
 case h_2=>cases hd
 rename_i bx hbx;split at hd
 case isFalse=>cases hd
 rename_i hnd;split at hd
 case h_2=>cases hd
 rename_i aJ us hargs;split at hd
 case h_2=>cases hd
 rename_i bs hbs;have hlb:=GQ hbx;obtain ⟨aK,hl⟩:=Jl hds hbx;have hbn:=yY hnd;obtain ⟨ds1,Df,a1,a2,a3,FC,a4,a5⟩:=LH hm hl hds hargs;obtain ⟨xss,c1,c2⟩:=BU (N:=(nm ρ μ σ).upd us) a3 hl hbs;cases hr:Oh (kQ (σ.upd us) bx s.boxes (ρ.length+(s.rs.map RS.shape).length)) s.rs ρ.length with
 |mk acR σ2=>
  simp only [hr,aA,A1] at hd;obtain ⟨akU,h1,xss',h2,rr,h3,hd⟩:=hd;have e1:akU=FC:=by have:sj ρ aJ=some FC:=a4;rw [h1] at this;injection this
  have e2:xss'=xss:=by have:DK ρ bs=some xss:=c1;rw [h2] at this;injection this
  subst e1 e2;obtain ⟨s',g1,g2,g3,g4⟩:=hcall _ _ _ _ h3;rw [hs] at g1;injection g1 with g1;subst g1
  have hln:=lu.nodup hm hl hbn;have hlk:∀j∈aK,j < k:=fun j hj=>by obtain ⟨i,_,q2,q3⟩:=lu.mem hl j hj;exact hm.lt i j q2 q3
  obtain ⟨n,rs,h',k',f1,f2,f3,f4,f5,f6,f7⟩:=(hcf▸(g4.1 (by simpa using hsn)).1) (ay h Df) k aK ds1 (a5 g2) c2 hln hlk
  unfold sized at hd;split at hd
  case isFalse=>cases hd
  rename_i hsz;obtain ⟨ws,w1,w2⟩:=uk hd;rw [C4] at w1;obtain ⟨yss,w3,w4,w5⟩:=Eo w2;have akx:yss=rr.2:=by
   apply List.ext_getElem?;intro q;by_cases hq:q < s.boxes.length
   ·rw [<-w4 q hq,E4]
   ·have q1:yss.length=s.boxes.length:=w3.len.symm;rw [Hp (by omega),Hp (by rw [hsz.2];omega)]
  subst akx;have hmu:Rm b (nm (ρ++(ws++rr.2.map .l)) μ (σ.upd us)) (ay h Df) k (σ.upd us).lens:=a3.ext (ws++rr.2.map W.l);have hwl:(ρ++ws).length=ρ.length+(s.rs.map RS.shape).length:=by rw [Ax,w1.len]
  obtain ⟨v1,v2⟩:=Mx (σ:=σ.upd us) (ρ:=ρ++(ws++rr.2.map W.l)) (pre:=ρ++ws) (xss:=rr.2) hmu hbn hlb hl (Az hbs) f2 f3 f4 (by rw [B9])
  rw [hwl] at v1 v2;have hres:∀{h2:Heap} {rs2:List D},Rm b (nm (ρ++(ws++rr.2.map .l)) μ (kQ (σ.upd us) bx s.boxes (ρ.length+(s.rs.map RS.shape).length))) h2 k' (kQ (σ.upd us) bx s.boxes (ρ.length+(s.rs.map RS.shape).length)).lens->fB (RsS h2 k) s.rs rr.1 rs2->(oN s.rs rs2).Nodup->(∀j∈oN s.rs rs2,k<=j/\j < k')->ZZ b ρ μ σ call head kt r (Dc rs2) h2 k':=by
   intro h2 rs2 hm2 hrs aph hown;obtain ⟨μ',p1,p2,p3,p4,_⟩:=Me (ρ:=ρ++(ws++rr.2.map .l)) (k0:=k) (pre:=ρ) (post:=rr.2.map .l) hm.le hm2 w1 (by rw [B9]) hrs aph (fun j hj=>⟨(hown j hj).2,fun i hi he=>by
    have e3:(kQ (σ.upd us) bx s.boxes (ρ.length+(s.rs.map RS.shape).length)).nx=σ.nx:=Bv.2;rw [e3] at hi;have:=hm.lt i j hi he
    have:=(hown j hj).1
    omega⟩) hr
   refine ⟨ws++rr.2.map .l,μ',σ2,Zj acR,p4.trans Bv.1,((a2.trans (lC _ (ws++rr.2.map W.l))).trans v1).trans p1,p2,ajr p3,?_⟩;rw [B9] at w5;rw [show (ρ++(ws++rr.2.map W.l)).length=ρ.length+(s.rs.map RS.shape).length+s.boxes.length by have q1:=w1.len;have q2:=hsz.2;simp only [Ax,Lw] at *;omega]
   exact w5
  cases own with
  |true=>
   simp only [E7] at hkind;refine ⟨n,Dc rs,h',k',fun m hmn=>?_,f2,hres v2 (aed hkind f5) f6 fun j hj=>⟨WN f5 j hj,f7 j hj⟩⟩
   simp only [wZ,Wh,F1,a1,show ¬((1:Nat)=2) by decide,C7,A2,A4]
   rw [QG hmn f ds1 (ay h Df) k _ f1];simp
  |false=>
   simp only [C2,C7] at hkind;obtain ⟨Fp,d1,d2,_⟩:=E5 (ZU f5);obtain ⟨rs2,d3,d4⟩:=UG d1;obtain ⟨q1,q2⟩:=ZM (h:=ay h' Fp) hkind f5 d4;refine ⟨n,Dc rs2,ay h' Fp,k',fun m hmn=>?_,f2,hres (v2.heap' fun j hj=>MZ fun p hp he=>?_) q1 (by rw [q2];exact J1) (by rw [q2];simp)⟩
   ·simp only [wZ,Wh,Ek,a1,show ¬((0:Nat)=2) by decide,C7,A2,A4]
    rw [QG hmn f ds1 (ay h Df) k _ f1];simp [d3]
   ·have hge:=d2 p hp;subst he;rcases hj with hj|⟨i,hi,hj⟩
    ·have:=hm.le;omega
    ·have e3:(kQ (σ.upd us) bx s.boxes (ρ.length+(s.rs.map RS.shape).length)).nx=σ.nx:=Bv.2;have hi':i < σ.nx:=by rw [<-e3];exact hi
     have:=hm.lt i p.1 hi' hj
     omega
theorem M7 {kt:SD->Sy->Nat->Tree} (hcall:qf F sig call) (hm:Rm b (nm ρ μ σ) h k σ.lens) {own:Bool} {f:Nat} {iq:List SD} {ds:List D} (hds:av (RD (nm ρ μ σ)) iq ds) (hd:aA call head (Ta sig own σ ρ.length f iq kt) ρ=some r):
  ∃n0 d h' k',(∀n,n0<=n->wZ (gu F n) (cond own 1 0) f ds h k=some (d,h',k'))/\k<=k'/\ZZ b ρ μ σ call head kt r d h' k':=
 Ue hcall hm hds hd
end
end Go.Ey
