/- A part. -/
import Derived.Test.YtolnnaanmfnkjaaGreatDoorY10
set_option linter.all false
namespace Go.Ey
section
variable {b:Bs} {ρ:List W} {μ:Nat->Option Nat} {σ:Sy} {h:Heap} {k:Nat} {call:qM} {head:ug} {kt:SD->Sy->Nat->Tree} {r:R} {F:Fe} {sig:Nat->Option fC}
theorem Rm.amf {N:Nm} {lens:List (Nat×Nat)} (hm:Rm b N h k lens) {o:SO} (zg:l9 N (N.new none o)->Us (N.new none o) h N.nx o):l9 N (N.new none o)/\Rm b (N.new none o) h k lens:=by
 have hv:l9 N (N.new none o):=by
  refine ⟨fun _ _ h=>h,fun _ _ h=>h,N4 _,fun i hi=>?_,fun p y' ay ety fr' al' hp hg=>?_⟩
  ·show (if i=N.nx then none else N.μ i)=N.μ i
   rw [Dd (by omega)]
  ·simp only [Nm.new,eu] at hg;rw [Dd (by omega)] at hg
   exact ⟨y',fr',al',hg,id,fun cs _ hc=>⟨cs,hc,fun _=>rfl⟩⟩
 have hmu:∀i p,i < N.nx+1->(N.new none o).μ i=some p->i < N.nx/\N.μ i=some p:=by
  intro i p hi hp;by_cases he:i=N.nx
  ·simp [Nm.new,he] at hp
  ·have hp':N.μ i=some p:=by simpa [Nm.new,he] using hp
   exact ⟨by omega,hp'⟩
 refine ⟨hv,fun p=>?_,fun i i' p h1 h2 h3 h4=>?_,fun i p h1 h2=>?_,fun p hp=>?_,fun i p h1 h2=>?_,hm.frame,hm.le,hm.lens⟩
 ·show Us (N.new none o) h p (dm ((N.nx,o)::N.hs) p)
  rw [eu];by_cases he:N.nx=p
  ·subst he;rw [C4 rfl];exact zg hv
  ·rw [Dd he];by_cases hp:p < N.nx
   ·exact (hm.obj p).mono hv hp fun _ _=>rfl
   ·rw [hm.dom p (My hp)];trivial
 ·obtain ⟨a1,a2⟩:=hmu i p h1 h3;obtain ⟨b1,b2⟩:=hmu i' p h2 h4;exact hm.inj i i' p a1 b1 a2 b2
 ·obtain ⟨a1,a2⟩:=hmu i p h1 h2;exact hm.lt _ _ a1 a2
 ·show dm ((N.nx,o)::N.hs) p=.dead
  have hp':N.nx+1<=p:=hp;rw [eu,Dd (by omega)]
  exact hm.dom p (by omega)
 ·obtain ⟨a1,a2⟩:=hmu i p h1 h2;exact hm.base i p a1 a2
def CkS (h:Heap) (k0:Nat):CK->C->D->Prop
 |.c,c,d=>CD c d
 |ck,c,d=>QS h k0 ck c d
def Reach (nx:Nat) (μ μ':Nat->Option Nat) (nx':Nat) (own:List Nat):Prop:=∀i j,i < nx'->μ' i=some j->(i < nx/\μ i=some j)\/j∈own
theorem aea (hm:Rm b (nm ρ μ σ) h k σ.lens) {k0:Nat} (hb:b.k0<=k0) {x:At} {c:C} (hx:dW ρ x=some c) {ck:CK} {d:D} (hr:CkS h k0 ck c d) (hown:∀j∈DR ck d,j < k/\∀i,i < σ.nx->μ i≠some j) {sd:SD} {σ':Sy} (hc:ckS σ x ck=(sd,σ')):
  ∃μ',l9 (nm ρ μ σ) (nm ρ μ' σ')/\Rm b (nm ρ μ' σ') h k σ'.lens/\uq (nm ρ μ' σ') sd d/\σ'.env=σ.env/\Reach σ.nx μ μ' σ'.nx (DR ck d):=by
 have same:∀{sd:SD},uq (nm ρ μ σ) sd d->∃μ',l9 (nm ρ μ σ) (nm ρ μ' σ)/\Rm b (nm ρ μ' σ) h k σ.lens/\uq (nm ρ μ' σ) sd d/\σ.env=σ.env/\Reach σ.nx μ μ' σ.nx (DR ck d):=
  fun h=>⟨μ,l9.refl _,hm,h,rfl,fun i j h1 h2=> .inl ⟨h1,h2⟩⟩
 cases ck with
 |c=>
  simp only [ckS,A3] at hc;obtain ⟨rfl,rfl⟩:=hc;exact same ⟨c,hx,hr⟩
 |d=>
  simp only [ckS,A3] at hc;obtain ⟨rfl,rfl⟩:=hc;exact same ⟨c,hx,hr⟩
 |full=>
  simp only [ckS,A3] at hc;obtain ⟨rfl,rfl⟩:=hc;obtain ⟨cs,n,rfl,rfl⟩:=hr;exact same ⟨cs,n,hx,rfl⟩
 |own ay ety fr al=>
  simp only [ckS,A3] at hc;obtain ⟨rfl,rfl⟩:=hc;obtain ⟨cs,n,rfl,h1,h2⟩:=hr;rcases h2 with ⟨j,fz,rfl,h3,h4,h5,h6,h7⟩|⟨rfl,h3,h4⟩
  ·obtain ⟨hj,hf⟩:=hown j (by simp [DR])
   obtain ⟨v1,v2⟩:=hm.ap2 (o:=.arr x ay ety fr al) hj (Dg hb h3) hf fun hv=>⟨cs,n,hx,h1,.inl ⟨j,fz,zk _ _ _,h4,h5,h6,h7⟩⟩
   refine ⟨((nm ρ μ σ).new (some j) (.arr x ay ety fr al)).μ,v1,v2,⟨Kp _,.inl ⟨j,n,zk (nm ρ μ σ) _ _,rfl,fun y e t f a hg=>?_⟩⟩,rfl,fun i q hi hq=>?_⟩
   ·have hg:SO.arr x ay ety fr al=.arr y e t f a:=by simpa [nm,Sy.new,dm] using hg
    injection hg with hg;subst hg;exact ⟨cs,hx⟩
   ·by_cases he:i=σ.nx
    ·have hq':some j=some q:=by simpa [Nm.new,nm,he] using hq
     injection hq' with hq';right;simp [DR,hq']
    ·left;have hi':i < σ.nx+1:=hi;exact ⟨by omega,by simpa [Nm.new,nm,he] using hq⟩
  ·obtain ⟨v1,v2⟩:=hm.amf (o:=.arr x ay ety fr al) fun hv=>⟨cs,n,hx,h1,.inr ⟨zk _ _ _,h3,h4⟩⟩
   refine ⟨((nm ρ μ σ).new none (.arr x ay ety fr al)).μ,v1,v2,⟨Kp _,.inr ⟨zk (nm ρ μ σ) _ _,cs,n,rfl,fun y e t f a hg=>?_⟩⟩,rfl,fun i q hi hq=>?_⟩
   ·have hg:SO.arr x ay ety fr al=.arr y e t f a:=by simpa [nm,Sy.new,dm] using hg
    injection hg with hg;subst hg;exact hx
   ·by_cases he:i=σ.nx
    ·simp [Nm.new,nm,he] at hq
    ·left;have hi':i < σ.nx+1:=hi;exact ⟨by omega,by simpa [Nm.new,nm,he] using hq⟩
theorem Reach.trans {nx nx1 nx2:Nat} {μ μ1 μ2:Nat->Option Nat} {o1 o2:List Nat} (h:Reach nx μ μ1 nx1 o1) (h':Reach nx1 μ1 μ2 nx2 o2):Reach nx μ μ2 nx2 (o1++o2):=fun i j hi hj=>by
 rcases h' i j hi hj with ⟨a,c⟩|a
 ·rcases h i j a c with h1|h1
  ·exact .inl h1
  ·exact .inr (Bx.2 (.inl h1))
 ·exact .inr (Bx.2 (.inr a))
theorem OJ {o1 o2:List Nat} (hn:(o1++o2).Nodup) (hown:∀j∈o1++o2,j < k/\∀i,i < σ.nx->μ i≠some j) {μ':Nat->Option Nat} {nx':Nat} (hr:Reach σ.nx μ μ' nx' o1):∀j∈o2,j < k/\∀i,i < nx'->μ' i≠some j:=by
 intro j hj;obtain ⟨h1,h2⟩:=hown j (Bx.2 (.inr hj));refine ⟨h1,fun i hi he=>?_⟩
 rcases hr i j hi he with ⟨a,c⟩|a
 ·exact h2 i a c
 ·exact (Hs.1 hn).2.2 j a j hj rfl
theorem aaC {k0:Nat} (hb:b.k0<=k0) {i:Nat} {xs:List C} (hw:jm ρ i=some (.l xs)):∀{ks:List CK} {cs:List C} {ds:List D} {j:Nat} {μ:Nat->Option Nat} {σ:Sy},Rm b (nm ρ μ σ) h k σ.lens->xs.drop j=cs->gz (CkS h k0) ks cs ds->
  (CU ks ds).Nodup->(∀j∈CU ks ds,j < k/\∀i,i < σ.nx->μ i≠some j)->∀{jI:List SD} {σ':Sy},ZE σ i ks j=(jI,σ')->
  ∃μ',l9 (nm ρ μ σ) (nm ρ μ' σ')/\Rm b (nm ρ μ' σ') h k σ'.lens/\aF (uq (nm ρ μ' σ')) jI ds/\σ'.env=σ.env/\Reach σ.nx μ μ' σ'.nx (CU ks ds)
 |[],[],[],j,μ,σ,hm,_,_,_,_,jI,σ',hc=>by simp only [ZE,A3] at hc;obtain ⟨rfl,rfl⟩:=hc;exact ⟨μ,l9.refl _,hm,trivial,rfl,fun i j h1 h2=> .inl ⟨h1,h2⟩⟩
 |ck::ks,c::cs,d::ds,j,μ,σ,hm,hx,hr,hn,hown,jI,σ',hc=>by
  have hlt:j < xs.length:=by
   rcases Mb j xs.length with h|h
   ·exact h
   ·rw [List.drop_of_length_le h] at hx;cases hx
  rw [Gk hlt] at hx;injection hx with hx1 hx2;have hat:dW ρ (.n i j)=some c:=by simp only [dW,hw,Ai xs j hlt,hx1]
  cases h1:ckS σ (.n i j) ck with
  |mk sd σ1=>
   cases h2:ZE σ1 i ks (j+1) with
   |mk agC σ2=>
    simp only [ZE,h1,h2,A3] at hc;obtain ⟨rfl,rfl⟩:=hc;simp only [CU] at hn hown |-;obtain ⟨μ1,a1,a2,a3,a4,a5⟩:=aea hm hb hat hr.1 (fun j hj=>hown j (Bx.2 (.inl hj))) h1
    obtain ⟨μ2,b1,b2,b3,b4,b5⟩:=aaC hb hw a2 hx2 hr.2 (Hs.1 hn).2.1 (OJ hn hown a5) h2;exact ⟨μ2,a1.trans b1,b2,⟨b1.dc a3,b3⟩,b4.trans a4,a5.trans b5⟩
 |[],_::_,_,_,_,_,_,_,hr,_,_,_,_,_=>hr.elim
 |[],[],_::_,_,_,_,_,_,hr,_,_,_,_,_=>hr.elim
 |_::_,[],_,_,_,_,_,_,hr,_,_,_,_,_=>hr.elim
 |_::_,_::_,[],_,_,_,_,_,hr,_,_,_,_,_=>hr.elim
def RsS (h:Heap) (k0:Nat):RS->V->D->Prop
 |.one k,.one c,d=>CkS h k0 k c d
 |.agg ks,.agg cs,d=>∃ds,d=.agg ds/\gz (CkS h k0) ks cs ds
 |_,_,_=>False
theorem MH {k0:Nat} (hb:b.k0<=k0):∀{ks:List RS} {vs:List V} {ds:List D} {ws pre post:List W} {μ:Nat->Option Nat} {σ:Sy},Rm b (nm ρ μ σ) h k σ.lens->VsW (ks.map RS.shape) vs ws->ρ=pre++ws++post->gz (RsS h k0) ks vs ds->
  (qi ks ds).Nodup->(∀j∈qi ks ds,j < k/\∀i,i < σ.nx->μ i≠some j)->∀{jI:List SD} {σ':Sy},Py σ ks pre.length=(jI,σ')->
  ∃μ',l9 (nm ρ μ σ) (nm ρ μ' σ')/\Rm b (nm ρ μ' σ') h k σ'.lens/\aF (RA (nm ρ μ' σ')) jI ds/\σ'.env=σ.env/\Reach σ.nx μ μ' σ'.nx (qi ks ds)
 |[],[],[],ws,pre,post,μ,σ,hm,_,_,_,_,_,jI,σ',hc=>by simp only [Py,A3] at hc;obtain ⟨rfl,rfl⟩:=hc;exact ⟨μ,l9.refl _,hm,trivial,rfl,fun i j h1 h2=> .inl ⟨h1,h2⟩⟩
 |.one ck::ks,.one c::vs,d::ds,.c c'::ws,pre,post,μ,σ,hm,hw,hρ,hr,hn,hown,jI,σ',hc=>by
  obtain ⟨rfl,hw⟩:=hw;have hat:dW ρ (.v pre.length)=some c':=by rw [hρ,Bk];exact at_new pre c' _
  cases h1:ckS σ (.v pre.length) ck with
  |mk sd σ1=>
   cases h2:Py σ1 ks (pre.length+1) with
   |mk agC σ2=>
    simp only [Py,h1,h2,A3] at hc;obtain ⟨rfl,rfl⟩:=hc;simp only [qi,Yr] at hn hown |-;obtain ⟨μ1,a1,a2,a3,a4,a5⟩:=aea hm hb hat hr.1 (fun j hj=>hown j (Bx.2 (.inl hj))) h1
    obtain ⟨μ2,b1,b2,b3,b4,b5⟩:=MH (pre:=pre++[.c c']) (post:=post) hb a2 hw (by rw [hρ];simp) hr.2 (Hs.1 hn).2.1 (OJ hn hown a5) (by simpa using h2)
    exact ⟨μ2,a1.trans b1,b2,⟨b1.ra a3.toA,b3⟩,b4.trans a4,a5.trans b5⟩
 |.agg cks::ks,.agg cs::vs,d::ds,.l cs'::ws,pre,post,μ,σ,hm,hw,hρ,hr,hn,hown,jI,σ',hc=>by
  obtain ⟨rfl,hlen,hw⟩:=hw;have hg:jm ρ pre.length=some (.l cs'):=by rw [hρ,Bk];exact mR pre _ _
  obtain ⟨⟨es,rfl,hr1⟩,hr2⟩:=hr;have hm0:Rm b (nm ρ μ (σ.len pre.length cks.length)) h k (σ.len pre.length cks.length).lens:=by
   refine Rm.lens' hm fun i m hi=>?_
   simp only [Sy.len,D1,A3] at hi;rcases hi with ⟨rfl,rfl⟩|hi
   ·exact ⟨cs',hg,hlen⟩
   ·exact hm.lens i m hi
  cases h1:ZE (σ.len pre.length cks.length) pre.length cks 0 with
  |mk sd σ1=>
   cases h2:Py σ1 ks (pre.length+1) with
   |mk agC σ2=>
    simp only [Py,h1,h2,A3] at hc;obtain ⟨rfl,rfl⟩:=hc;simp only [qi,Yr] at hn hown |-;obtain ⟨μ1,a1,a2,a3,a4,a5⟩:=aaC hb hg hm0 (An ..) hr1 (Hs.1 hn).1 (fun j hj=>hown j (Bx.2 (.inl hj))) h1
    obtain ⟨μ2,b1,b2,b3,b4,b5⟩:=MH (pre:=pre++[.l cs']) (post:=post) hb a2 hw (by rw [hρ];simp) hr2 (Hs.1 hn).2.1 (OJ (σ:=σ) hn hown a5) (by simpa using h2)
    exact ⟨μ2,l9.trans (show l9 (nm ρ μ σ) (nm ρ μ1 σ1) from a1) b1,b2,⟨⟨es,rfl,a3.mono fun _ _=>b1.dc⟩,b3⟩,b4.trans a4,a5.trans b5⟩
 |[],_::_,_,_,_,_,_,_,_,_,_,hr,_,_,_,_,_=>hr.elim
 |[],[],_::_,_,_,_,_,_,_,_,_,hr,_,_,_,_,_=>hr.elim
 |_::_,[],_,_,_,_,_,_,_,_,_,hr,_,_,_,_,_=>hr.elim
 |_::_,_::_,[],_,_,_,_,_,_,_,_,hr,_,_,_,_,_=>hr.elim
 |.one _::_,.agg _::_,_::_,_,_,_,_,_,_,_,_,hr,_,_,_,_,_=>hr.1.elim
 |.agg _::_,.one _::_,_::_,_,_,_,_,_,_,_,_,hr,_,_,_,_,_=>hr.1.elim
 |.one _::_,.one _::_,_::_,[],_,_,_,_,_,hw,_,_,_,_,_,_,_=>hw.elim
 |.one _::_,.one _::_,_::_,.l _::_,_,_,_,_,_,hw,_,_,_,_,_,_,_=>hw.elim
 |.agg _::_,.agg _::_,_::_,[],_,_,_,_,_,hw,_,_,_,_,_,_,_=>hw.elim
 |.agg _::_,.agg _::_,_::_,.c _::_,_,_,_,_,_,hw,_,_,_,_,_,_,_=>hw.elim
end
end Go.Ey
namespace Go.Ey
section
variable {b:Bs} {N:Nm} {h:Heap} {k:Nat} {lens:List (Nat×Nat)}
def mM (N:Nm) (bx bg:List Nat):Prop:=aF (fun i j=>i < N.nx/\N.μ i=some j) bx bg
theorem mM.get {bx bg:List Nat} (hl:mM N bx bg) {q i:Nat} (hq:bx[q]?=some i):∃j,bg[q]?=some j/\i < N.nx/\N.μ i=some j:=aF.get q hl hq
theorem A8:∀{l:List Nat},nodupB l=true->l.Nodup
 |[],_=>Ix
 |i::l,h=>by simp only [nodupB,As,It,List.contains_eq_mem,decide_eq_false_iff_not] at h;exact K0.2 ⟨h.1,A8 h.2⟩
theorem mM.mem:∀{bx bg:List Nat},mM N bx bg->∀j∈bg,∃i∈bx,i < N.nx/\N.μ i=some j
 |[],[],_,j,hj=>by simp at hj
 |i::bx,j'::bg,hl,j,hj=>by
  simp only [D1] at hj;rcases hj with rfl|hj
  ·exact ⟨i,by simp,hl.1⟩
  ·obtain ⟨i',h1,h2⟩:=mM.mem hl.2 j hj;exact ⟨i',by simp [h1],h2⟩
 |[],_::_,hl,_,_=>hl.elim
 |_::_,[],hl,_,_=>hl.elim
theorem mM.nodup (hm:Rm b N h k lens):∀{bx bg:List Nat},mM N bx bg->bx.Nodup->bg.Nodup
 |[],[],_,_=>Ix
 |i::bx,j::bg,hl,hn=>by
  rw [K0] at hn |-;refine ⟨fun hj=>?_,mM.nodup hm hl.2 hn.2⟩
  obtain ⟨i',h1,h2,h3⟩:=mM.mem hl.2 j hj;have:=hm.inj i i' j hl.1.1 h2 hl.1.2 h3
  subst this;exact hn.1 h1
 |[],_::_,hl,_=>hl.elim
 |_::_,[],hl,_=>hl.elim
theorem Z5 {bx bg:List Nat} (hl:mM N bx bg):∀{caps jC cs:List (Nat×Nat)},abz bx caps jC=true->aF (fun p q:Nat×Nat=>p.1 < N.nx/\N.μ p.1=some q.1/\q.2=p.2) jC cs->aF (fun p q:Nat×Nat=>bg[p.1]?=some q.1/\q.2=p.2) caps cs
 |[],[],[],_,_=>trivial
 |(b,o)::r,(i,o')::r',(j,o2)::cs,hc,hr=>by
  simp only [abz,As,Lw] at hc;obtain ⟨⟨hb,rfl⟩,hc⟩:=hc;obtain ⟨j',g1,_,g2⟩:=hl.get hb;obtain ⟨⟨_,g3,g4⟩,hr⟩:=hr;simp only at g3 g4;rw [g2] at g3;injection g3 with g3;subst g3
  exact ⟨⟨g1,g4⟩,Z5 hl hc hr⟩
 |[],_::_,_,hc,_=>by simp [abz] at hc
 |_::_,[],_,hc,_=>by simp [abz] at hc
 |[],[],_::_,_,hr=>hr.elim
 |_::_,_::_,[],_,hr=>hr.elim
theorem OL:∀{caps jC cs:List (Nat×Nat)},aF (fun p q:Nat×Nat=>p.1 < N.nx/\N.μ p.1=some q.1/\q.2=p.2) jC cs->∀{q i:Nat},Gr caps jC q=some i->∃j,i < N.nx/\N.μ i=some j
 |[],_,_,_,q,i,h=>by simp [Gr] at h
 |_::_,[],_,_,q,i,h=>by simp [Gr] at h
 |(b,o)::r,(i',o')::r',(j,o2)::cs,hr,q,i,h=>by
  simp only [Gr] at h;split at h
  ·simp only [A0] at h;subst h;exact ⟨j,hr.1.1,hr.1.2.1⟩
  ·exact OL hr.2 h
 |_::_,_::_,[],hr,_,_,_=>hr.elim
theorem ML {bx bg:List Nat}:∀{ps:List PS} {jI:List SD} {ds:List D} {N:Nm} {h:Heap},Rm b N h k lens->mM N bx bg->aF (RD N) jI ds->∀{aY:List TA} {us:List (Nat×SO)},Br lens N.hs bx ps jI=some (aY,us)->
  ∃ds1 us',zz h ds=some (ds1,us')/\l9 N (N.upd us)/\Rm b (N.upd us) (aK h us') k lens/\∃GH,wC N.ρ aY=some GH/\(sF ps GH->gz (ZH bg) ps GH ds1)
 |[],[],[],N,h,hm,_,_,aY,us,hf=>by simp only [Br,A0,A3] at hf;obtain ⟨rfl,rfl⟩:=hf;exact ⟨[],[],rfl,l9.refl _,hm,[],rfl,fun _=>trivial⟩
 |[],_::_,_,_,_,_,_,_,_,_,hf=>by simp [Br] at hf
 |.one::_,[],_,_,_,_,_,_,_,_,hf=>by cases hf
 |.agg _::_,[],_,_,_,_,_,_,_,_,hf=>by cases hf
 |.ref _ _::_,[],_,_,_,_,_,_,_,_,hf=>by cases hf
 |.fD _ _::_,[],_,_,_,_,_,_,_,_,hf=>by cases hf
 |p::ps,sd::jI,[],_,_,_,_,hr,_,_,_=>hr.elim
 |[],[],_::_,_,_,_,_,hr,_,_,_=>hr.elim
 |p::ps,sd::jI,d::ds,N,h,hm,hl,hr,aY,us,hf=>by
  have gen:(∀q o,p≠.ref q o)->(∀q o,p≠.fD q o)->(GX lens N.hs sd).bind (fun p=>(Br lens (H9 N.hs p.2) bx ps jI).bind fun q=>some (TA.v p.1::q.1,p.2++q.2))=some (aY,us)->
    ∃ds1 us',zz h (d::ds)=some (ds1,us')/\l9 N (N.upd us)/\Rm b (N.upd us) (aK h us') k lens/\∃GH,wC N.ρ aY=some GH/\(sF (p::ps) GH->gz (ZH bg) (p::ps) GH ds1):=by
   intro hp hp' hf;simp only [A1,A0,A3,C0] at hf;obtain ⟨tv,u1,h1,as',u2,h2,rfl,rfl⟩:=hf;obtain ⟨v,Et,k1,k2,k3,k4,k5⟩:=PN hm hr.1 h1;obtain ⟨d1,l1,l2⟩:=abk k1;obtain ⟨ds1,HV,q1,q2,q3,GH,q4,q5⟩:=ML (N:=N.upd u1) (h:=aK h Et) k4 hl (hr.2.mono fun _ _=>k3.rd) h2
   refine ⟨d1::ds1,Et++HV,by simp [zz,l1,q1],?_,?_,.v v::GH,?_,fun hs=>?_⟩
   ·rw [Nm.mZ];exact k3.trans q2
   ·rw [Nm.mZ,jy];exact q3
   ·have:wC N.ρ as'=some GH:=q4
    simp [wC,YX,k2,this]
   ·cases p with
    |one=>cases v with
     |full _ _=>exact hs.elim
     |one c=>exact ⟨l2,q5 hs⟩
     |agg cs=>exact hs.elim
    |agg m=>cases v with
     |full _ _=>exact hs.elim
     |one c=>exact hs.elim
     |agg cs=>exact ⟨⟨hs.1,l2⟩,q5 hs.2⟩
    |ref q o=>exact absurd rfl (hp q o)
    |fD q o=>exact absurd rfl (hp' q o)
  cases p with
  |one=>exact gen (by simp) (by simp) (by simpa [Br] using hf)
  |agg m=>exact gen (by simp) (by simp) (by simpa [Br] using hf)
  |fD g caps=>
   cases sd with
   |fD g' jC=>
    simp only [Br] at hf;split at hf
    case isFalse=>cases hf
    rename_i hc;obtain ⟨rfl,hc1⟩:=hc;simp only [A1,A0,A3,C0] at hf;obtain ⟨as',u2,h2,rfl,rfl⟩:=hf;obtain ⟨ds1,HV,q1,q2,q3,GH,q4,q5⟩:=ML hm hl hr.2 h2;obtain ⟨cs,rfl,g2⟩:=hr.1;refine ⟨.fD g' cs::ds1,HV,?_,q2,q3,.ref 0 0::GH,?_,fun hs=>⟨⟨rfl,rfl,cs,rfl,Z5 hl hc1 g2⟩,q5 hs.2.2⟩⟩
    ·simp [zz,Uf,Mt,aK,q1]
    ·simp [wC,YX,q4]
   |_=>simp [Br] at hf
  |ref q off=>
   cases sd with
   |loc i o=>
    simp only [Br] at hf;split at hf
    case isFalse=>cases hf
    rename_i hc;obtain ⟨hc1,rfl⟩:=hc;simp only [A1,A0,A3,C0] at hf;obtain ⟨as',u2,h2,rfl,rfl⟩:=hf;obtain ⟨ds1,HV,q1,q2,q3,GH,q4,q5⟩:=ML hm hl hr.2 h2;obtain ⟨hi,j,g1,g2⟩:=hr.1;obtain ⟨j',g3,_,g4⟩:=hl.get hc1;rw [g1] at g4;injection g4 with g4;subst g4
    refine ⟨d::ds1,HV,?_,q2,q3,.ref q o::GH,?_,fun hs=>⟨⟨rfl,rfl,j,g3,g2⟩,q5 hs.2.2⟩⟩
    ·simp [zz,g2,Uf,Mt,aK,q1]
    ·simp [wC,YX,q4]
   |_=>simp [Br] at hf
theorem Dy (hm:Rm b N h k lens):∀{bx ms bg:List Nat} {bs:List SL},mM N bx bg->su lens N.hs bx ms=some bs->∃xss,FL N.ρ bs=some xss/\gz (Iz h) ms xss bg
 |[],[],[],bs,_,hf=>by simp only [su,A0] at hf;subst hf;exact ⟨[],rfl,trivial⟩
 |i::bx,m::ms,j::bg,bs,hl,hf=>by
  simp only [su] at hf;split at hf
  case h_2=>cases hf
  rename_i ds hg;simp only [A1] at hf;obtain ⟨aY,h1,hf⟩:=hf;split at hf
  case isFalse=>cases hf
  rename_i hc;simp only [A1,A0] at hf;obtain ⟨bs',h2,rfl⟩:=hf;obtain ⟨xss,h3,h4⟩:=Dy hm hl.2 h2;obtain ⟨j',ds',g1,g2,g3⟩:=hm.box hg;rw [hl.1.2] at g1;injection g1 with g1;subst g1
  obtain ⟨xs,h5,h6⟩:=EW g3 h1;refine ⟨xs::xss,by simp [FL,Gb hm,h5,h3],⟨by rw [Jg h5];exact hc,ds',g2,h6⟩,h4⟩
 |[],[],_::_,_,hl,_=>hl.elim
 |[],_::_,_,_,_,hf=>by simp [su] at hf
 |_::_,[],_,_,_,hf=>by simp [su] at hf
 |_::_,_::_,[],_,hl,_=>hl.elim
theorem Im {ps:List PS} {jI:List SD}:∀{m q:Nat} {bx:List Nat},Bj ps jI q m=some bx->bx.length=m
 |0,_,bx,h=>by simp only [Bj,A0] at h;subst h;rfl
 |m+1,q,bx,h=>by simp only [Bj,A1,A0] at h;obtain ⟨i,_,is,h2,rfl⟩:=h;simp [Im h2]
theorem UL:∀{ps:List PS} {jI:List SD} {ds:List D},aF (RD N) jI ds->∀{q i:Nat},qc ps jI q=some i->∃j,i < N.nx/\N.μ i=some j
 |[],_,_,_,q,i,h=>by simp [qc] at h
 |.one::_,[],_,_,q,i,h=>by cases h
 |.agg _::_,[],_,_,q,i,h=>by cases h
 |.ref _ _::_,[],_,_,q,i,h=>by cases h
 |.fD _ _::_,[],_,_,q,i,h=>by cases h
 |p::ps,sd::jI,d::ds,hr,q,i,h=>by
  have rest:qc ps jI q=some i->∃j,i < N.nx/\N.μ i=some j:=UL hr.2;cases p with
  |one=>exact rest (by simpa [qc] using h)
  |agg m=>exact rest (by simpa [qc] using h)
  |ref q' o=>
   cases sd with
   |loc i' o'=>
    simp only [qc] at h;split at h
    ·simp only [A0] at h;subst h;obtain ⟨hi,j,g1,_⟩:=hr.1;exact ⟨j,hi,g1⟩
    ·exact rest h
   |_=>exact rest (by simpa [qc] using h)
  |fD g caps=>
   cases sd with
   |fD g' jC=>
    simp only [qc] at h;split at h
    ·rename_i i' hc;simp only [A0] at h;subst h;obtain ⟨cs,_,g2⟩:=hr.1;exact OL g2 hc
    ·exact rest h
   |_=>exact rest (by simpa [qc] using h)
 |_::_,_::_,[],hr,_,_,_=>hr.elim
theorem KC {ps:List PS} {jI:List SD} {ds:List D} (hr:aF (RD N) jI ds):∀{m q:Nat} {bx:List Nat},Bj ps jI q m=some bx->∃bg,mM N bx bg
 |0,_,bx,h=>by simp only [Bj,A0] at h;subst h;exact ⟨[],trivial⟩
 |m+1,q,bx,h=>by simp only [Bj,A1,A0] at h;obtain ⟨i,h1,is,h2,rfl⟩:=h;obtain ⟨bg,h3⟩:=KC hr h2;obtain ⟨j,h4,h5⟩:=UL hr h1;exact ⟨j::bg,⟨h4,h5⟩,h3⟩
theorem CE:∀{bx ms:List Nat} {σ:Sy} {n:Nat},(mH σ bx ms n).env=σ.env/\(mH σ bx ms n).nx=σ.nx
 |[],_,_,_=>⟨rfl,rfl⟩
 |_::_,[],_,_=>⟨rfl,rfl⟩
 |i::bx,m::ms,σ,n=>by simp only [mH];exact CE
theorem VJ:∀{bx ms:List Nat} {σ:Sy} {n:Nat},bx.Nodup->bx.length=ms.length->(∀i,i ∉ bx->dm (mH σ bx ms n).heap i=dm σ.heap i)/\(∀q i m,bx[q]?=some i->ms[q]?=some m->dm (mH σ bx ms n).heap i=.box ((Cq (n+q) 0 m).map .a))
 |[],[],σ,n,_,_=>⟨fun _ _=>rfl,by simp⟩
 |[],_::_,_,_,_,hl=>by simp at hl
 |_::_,[],_,_,_,hl=>by simp at hl
 |i::bx,m::ms,σ,n,hn,hl=>by
  rw [K0] at hn;simp only [mH];obtain ⟨h1,h2⟩:=VJ (σ:={ σ with heap:=(i,.box ((Cq n 0 m).map .a))::σ.heap,lens:=(n,m)::σ.lens}) (n:=n+1) hn.2 (by simpa using hl)
  refine ⟨fun p hp=>?_,fun q p m' hq hm'=>?_⟩
  ·simp only [D1,not_or] at hp;rw [h1 p hp.2,eu,Dd (fun e=>hp.1 e.symm)]
  ·cases q with
   |zero=>
    simp only [D2,A0] at hq hm';subst hq hm';rw [h1 i hn.1,eu,C4 rfl];rfl
   |succ q=>
    simp only [C6] at hq hm';rw [h2 q p m' hq hm',show n+1+q=n+(q+1) by omega]
theorem Qy:∀{bx ms:List Nat} {σ:Sy} {n:Nat} {i m:Nat},(i,m)∈(mH σ bx ms n).lens->(i,m)∈σ.lens\/∃q,i=n+q/\ms[q]?=some m
 |[],_,_,_,_,_,h=> .inl h
 |_::_,[],_,_,_,_,h=> .inl h
 |_::bx,m'::ms,σ,n,i,m,h=>by
  simp only [mH] at h;rcases Qy h with h|⟨q,h1,h2⟩
  ·simp only [D1,A3] at h;rcases h with ⟨rfl,rfl⟩|h
   ·exact .inr ⟨0,rfl,rfl⟩
   ·exact .inl h
  ·exact .inr ⟨q+1,by omega,by simpa using h2⟩
theorem Wi (pre:List W) (xss:List (List C)):∀(q:Nat) (xs:List C),xss[q]?=some xs->∀post,jm (pre++xss.map .l++post) (pre.length+q)=some (.l xs):=by
 induction xss generalizing pre with
 |nil=>intro q xs h;simp at h
 |cons y xss ih=>
  intro q xs h post;cases q with
  |zero=>
   simp only [D2,A0] at h;subst h;rw [Cp,Bk];exact mR pre _ _
  |succ q=>
   simp only [C6] at h;have:=ih (pre++[.l y]) q xs h post
   rw [B8] at this;rw [Cp];rw [show pre.length+(q+1)=pre.length+[W.l y].length+q by simp;omega]
   rw [show pre++W.l y::xss.map .l++post=pre++[.l y]++xss.map .l++post by simp]
   exact this
theorem gz.get {α β γ:Type} {R:α->β->γ->Prop}:∀{aY:List α} {bs:List β} {cs:List γ} {q:Nat} {c:γ},gz R aY bs cs->cs[q]?=some c->∃a b,aY[q]?=some a/\bs[q]?=some b/\R a b c
 |[],[],[],q,c,_,h=>by simp at h
 |a::aY,b::bs,c'::cs,q,c,h1,h=>by
  cases q with
  |zero=>simp only [D2,A0] at h;subst h;exact ⟨a,b,rfl,rfl,h1.1⟩
  |succ q=>
   simp only [C6] at h;obtain ⟨a',b',q1,q2,q3⟩:=gz.get h1.2 h;exact ⟨a',b',by simpa using q1,by simpa using q2,q3⟩
 |[],_::_,_,_,_,h1,_=>h1.elim
 |[],[],_::_,_,_,h1,_=>h1.elim
 |_::_,[],_,_,_,h1,_=>h1.elim
 |_::_,_::_,[],_,_,h1,_=>h1.elim
theorem CD.rd {c:C} {d:D} (h:CD c d) {x:At} (hx:dW N.ρ x=some c):uq N (.a x) d:=⟨c,hx,h⟩
theorem I1 {i:Nat} {xs:List C} (hw:jm N.ρ i=some (.l xs)):∀{m off:Nat} {ys:List C} {ds:List D},xs.drop off=ys->ys.length=m->aF CD ys ds->aF (uq N) ((Cq i off m).map .a) ds
 |0,off,[],[],_,_,_=>trivial
 |m+1,off,y::ys,d::ds,hx,hl,hr=>by
  have hlt:off < xs.length:=by
   rcases Mb off xs.length with h|h
   ·exact h
   ·rw [List.drop_of_length_le h] at hx;cases hx
  rw [Gk hlt] at hx;injection hx with hx1 hx2;exact ⟨hr.1.rd (by simp only [dW,hw,Ai xs off hlt,hx1]),I1 hw hx2 (by simpa using hl) hr.2⟩
 |0,_,_::_,_,_,hl,_=>by simp at hl
 |_+1,_,[],_,_,hl,_=>by simp at hl
 |0,_,[],_::_,_,_,hr=>hr.elim
 |_+1,_,_::_,[],_,_,hr=>hr.elim
end
section
variable {b:Bs} {ρ:List W} {μ:Nat->Option Nat} {σ:Sy} {h:Heap} {k:Nat} {call:qM} {head:ug} {kt:SD->Sy->Nat->Tree} {r:R} {F:Fe} {sig:Nat->Option fC}
theorem NA (hm:Rm b (nm ρ μ σ) h k σ.lens) {bx ms bg:List Nat} (hn:bx.Nodup) (hlen:bx.length=ms.length) (hl:mM (nm ρ μ σ) bx bg) (aqw:∀i∈bx,∃ds,dm σ.heap i=.box ds) {h':Heap} {k':Nat} (hk:k<=k')
  (hfr:∀j,j < k->j ∉ bg->aH h' j=aH h j) {pre:List W} {xss:List (List C)} (hbs:gz (Iz h') ms xss bg) (hρ:ρ=pre++xss.map .l):
  l9 (nm ρ μ σ) (nm ρ μ (mH σ bx ms pre.length))/\Rm b (nm ρ μ (mH σ bx ms pre.length)) h' k' (mH σ bx ms pre.length).lens:=by
 obtain ⟨g1,g2⟩:=VJ (σ:=σ) (n:=pre.length) hn hlen;obtain ⟨e1,e2⟩:=CE (bx:=bx) (ms:=ms) (σ:=σ) (n:=pre.length);have hv:l9 (nm ρ μ σ) (nm ρ μ (mH σ bx ms pre.length)):=by
  refine ⟨fun _ _ h=>h,fun _ _ h=>h,?_,fun _ _=>rfl,fun i y' ay ety fr' al' hi hg=>?_⟩
  ·show σ.nx<=(mH σ bx ms pre.length).nx;rw [e2];exact B9 _
  ·by_cases hib:i∈bx
   ·obtain ⟨q,hq⟩:=List.getElem?_of_mem hib;obtain ⟨m,hq'⟩:∃m,ms[q]?=some m:=by
     have:=(B0.1 hq).1
     exact ⟨ms[q]'(by omega),Ax (by omega)⟩
    have hg':dm (mH σ bx ms pre.length).heap i=.arr y' ay ety fr' al':=hg;rw [g2 q i m hq hq'] at hg';cases hg'
   ·have hg':dm (mH σ bx ms pre.length).heap i=.arr y' ay ety fr' al':=hg;rw [g1 i hib] at hg';exact ⟨y',fr',al',hg',id,fun cs _ hc=>⟨cs,hc,fun _=>rfl⟩⟩
 have hwq:∀q xs,xss[q]?=some xs->jm ρ (pre.length+q)=some (.l xs):=fun q xs hq=>by
  have:=Wi pre xss q xs hq []
  rw [D0] at this;rw [hρ];exact this
 refine ⟨hv,fun i=>?_,fun i i' j h1 h2 h3 h4=>?_,fun i j h1 h2=>?_,fun i hi=>?_,fun i j h1 h2=>?_,fun j h1 h2=>?_,Dg hm.le hk,fun i m hi=>?_⟩
 ·by_cases hib:i∈bx
  ·obtain ⟨q,hq⟩:=List.getElem?_of_mem hib;obtain ⟨j,hj1,hj2,hj3⟩:=hl.get hq;obtain ⟨m,xs,hb1,hb2,hb3,ds,hb4,hb5⟩:=hbs.get hj1;show Us _ h' i (dm (mH σ bx ms pre.length).heap i)
   rw [g2 q i m hq hb1];subst hb3;exact ⟨j,ds,hj3,hb4,I1 (N:=nm ρ μ (mH σ bx ms pre.length)) (hwq q xs hb2) (An ..) rfl hb5⟩
  ·show Us _ h' i (dm (mH σ bx ms pre.length).heap i)
   rw [g1 i hib];by_cases hi:i < σ.nx
   ·refine Us.mono hv hi (fun j hj=>hfr j (hm.lt i j hi hj) fun hjl=>?_) (hm.obj i)
    obtain ⟨i',h1,h2,h3⟩:=mM.mem hl j hjl;exact hib (hm.inj i i' j hi h2 hj h3▸h1)
   ·rw [show dm σ.heap i=.dead from hm.dom i (My hi)];trivial
 ·rw [show (nm ρ μ (mH σ bx ms pre.length)).nx=σ.nx from e2] at h1 h2
  exact hm.inj i i' j h1 h2 h3 h4
 ·rw [show (nm ρ μ (mH σ bx ms pre.length)).nx=σ.nx from e2] at h1
  exact Fk (hm.lt i j h1 h2) hk
 ·rw [show (nm ρ μ (mH σ bx ms pre.length)).nx=σ.nx from e2] at hi
  show dm (mH σ bx ms pre.length).heap i=.dead
  rw [g1 i fun hib=>?_]
  ·exact hm.dom i hi
  ·obtain ⟨ds,hds⟩:=aqw i hib;have:=hm.dom i hi
   rw [show dm (nm ρ μ σ).hs i=_ from hds] at this
   cases this
 ·rw [show (nm ρ μ (mH σ bx ms pre.length)).nx=σ.nx from e2] at h1
  exact hm.base i j h1 h2
 ·rw [hfr j (Fk h1 hm.le) fun hjl=>?_]
  ·exact hm.frame j h1 h2
  ·obtain ⟨i',q1,q2,q3⟩:=mM.mem hl j hjl;rcases hm.base i' j q2 q3 with q|q
   ·omega
   ·exact h2 q
 ·rcases Qy hi with hi|⟨q,rfl,hq⟩
  ·exact hm.lens i m hi
  ·obtain ⟨xs,hxs⟩:∃xs,xss[q]?=some xs:=by
    have:=(B0.1 hq).1
    have hl2:=hbs.acj;exact ⟨xss[q]'(by omega),Ax (by omega)⟩
   obtain ⟨j,hj⟩:∃j,bg[q]?=some j:=by
    have:=(B0.1 hq).1
    have hl2:=hbs.acj;exact ⟨bg[q]'(by omega),Ax (by omega)⟩
   obtain ⟨m',xs',hb1,hb2,hb3,_⟩:=hbs.get hj;rw [hq] at hb1;injection hb1 with hb1
   rw [hxs] at hb2;injection hb2 with hb2
   subst hb1 hb2;exact ⟨xs,hwq q xs hxs,hb3⟩
end
end Go.Ey
