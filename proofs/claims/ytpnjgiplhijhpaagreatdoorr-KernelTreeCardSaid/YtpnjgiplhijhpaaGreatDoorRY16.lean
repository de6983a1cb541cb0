/- A part. -/
import Derived.Test.YtpnjgiplhijhpaaGreatDoorRY14
set_option linter.all false
namespace Go.Ey
section
variable {b:Bs} {ρ:List W} {μ:Nat->Option Nat} {σ:Sy} {h:Heap} {k:Nat} {call:uL} {head:wu} {kt:SD->Sy->Nat->Tree} {r:R} {F:nD} {sig:Nat->Option aN}
theorem Rm.Yn {N:Nm} {lens:List (Nat×Nat)} (hm:Rm b N h k lens) {o:SO} (jh:fG N (N.new none o)->Du (N.new none o) h N.nx o):fG N (N.new none o)/\Rm b (N.new none o) h k lens:=by
 have hv:fG N (N.new none o):=by
  refine ⟨fun _ _ h=>h,fun _ _ h=>h,Nat.le_succ _,fun i hi=>?_,fun p y' aa ety fr' al' hp hg=>?_⟩
  ·show (if i=N.nx then none else N.μ i)=N.μ i
   rw [if_neg (by omega)]
  ·simp only [Nm.new,aZ] at hg;rw [if_neg (by omega)] at hg
   exact ⟨y',fr',al',hg,id,fun cs _ hc=>⟨cs,hc,fun _=>rfl⟩⟩
 have hmu:∀i p,i < N.nx+1->(N.new none o).μ i=some p->i < N.nx/\N.μ i=some p:=by
  intro i p hi hp;by_cases he:i=N.nx
  ·simp [Nm.new,he] at hp
  ·have hp':N.μ i=some p:=by simpa [Nm.new,he] using hp
   exact ⟨by omega,hp'⟩
 refine ⟨hv,fun p=>?_,fun i i' p h1 h2 h3 h4=>?_,fun i p h1 h2=>?_,fun p hp=>?_,fun i p h1 h2=>?_,hm.frame,hm.le,hm.lens⟩
 ·show Du (N.new none o) h p (aM ((N.nx,o)::N.hs) p)
  rw [aZ];by_cases he:N.nx=p
  ·subst he;rw [if_pos rfl];exact jh hv
  ·rw [if_neg he];by_cases hp:p < N.nx
   ·exact (hm.obj p).mono hv hp fun _ _=>rfl
   ·rw [hm.dom p (Nat.le_of_not_lt hp)];trivial
 ·obtain ⟨a1,a2⟩:=hmu i p h1 h3;obtain ⟨b1,b2⟩:=hmu i' p h2 h4;exact hm.inj i i' p a1 b1 a2 b2
 ·obtain ⟨a1,a2⟩:=hmu i p h1 h2;exact hm.lt _ _ a1 a2
 ·show aM ((N.nx,o)::N.hs) p=.dead
  have hp':N.nx+1<=p:=hp;rw [aZ,if_neg (by omega)]
  exact hm.dom p (by omega)
 ·obtain ⟨a1,a2⟩:=hmu i p h1 h2;exact hm.base i p a1 a2
def Uj (h:Heap) (k0:Nat):CK->C->D->Prop
 |.c,c,d=>CD c d
 |ck,c,d=>CY h k0 ck c d
def Reach (nx:Nat) (μ μ':Nat->Option Nat) (nx':Nat) (own:List Nat):Prop:=∀i j,i < nx'->μ' i=some j->(i < nx/\μ i=some j)\/j∈own
theorem Ru (hm:Rm b (nm ρ μ σ) h k σ.lens) {k0:Nat} (hb:b.k0<=k0) {x:At} {c:C} (hx:aV ρ x=some c) {ck:CK} {d:D} (hr:Uj h k0 ck c d) (hown:∀j∈oL ck d,j < k/\∀i,i < σ.nx->μ i≠some j) {sd:SD} {σ':Sy} (hc:Uq σ x ck=(sd,σ')):
  ∃μ',fG (nm ρ μ σ) (nm ρ μ' σ')/\Rm b (nm ρ μ' σ') h k σ'.lens/\jo (nm ρ μ' σ') sd d/\σ'.env=σ.env/\Reach σ.nx μ μ' σ'.nx (oL ck d):=by
 have same:∀{sd:SD},jo (nm ρ μ σ) sd d->∃μ',fG (nm ρ μ σ) (nm ρ μ' σ)/\Rm b (nm ρ μ' σ) h k σ.lens/\jo (nm ρ μ' σ) sd d/\σ.env=σ.env/\Reach σ.nx μ μ' σ.nx (oL ck d):=
  fun h=>⟨μ,fG.refl _,hm,h,rfl,fun i j h1 h2=> .inl ⟨h1,h2⟩⟩
 cases ck with
 |c=>
  simp only [Uq,Prod.mk.injEq] at hc;obtain ⟨rfl,rfl⟩:=hc;exact same ⟨c,hx,hr⟩
 |d=>
  simp only [Uq,Prod.mk.injEq] at hc;obtain ⟨rfl,rfl⟩:=hc;exact same ⟨c,hx,hr⟩
 |full=>
  simp only [Uq,Prod.mk.injEq] at hc;obtain ⟨rfl,rfl⟩:=hc;obtain ⟨cs,n,rfl,rfl⟩:=hr;exact same ⟨cs,n,hx,rfl⟩
 |own aa ety fr al=>
  simp only [Uq,Prod.mk.injEq] at hc;obtain ⟨rfl,rfl⟩:=hc;obtain ⟨cs,n,rfl,h1,h2⟩:=hr;rcases h2 with ⟨j,fz,rfl,h3,h4,h5,h6,h7⟩|⟨rfl,h3,h4⟩
  ·obtain ⟨hj,hf⟩:=hown j (by simp [oL])
   obtain ⟨v1,v2⟩:=hm.Y9 (o:=.arr x aa ety fr al) hj (Nat.le_trans hb h3) hf fun hv=>⟨cs,n,hx,h1,.inl ⟨j,fz,jW _ _ _,h4,h5,h6,h7⟩⟩
   refine ⟨((nm ρ μ σ).new (some j) (.arr x aa ety fr al)).μ,v1,v2,⟨Nat.lt_succ_self _,.inl ⟨j,n,jW (nm ρ μ σ) _ _,rfl,fun y e t f a hg=>?_⟩⟩,rfl,fun i q hi hq=>?_⟩
   ·have hg:SO.arr x aa ety fr al=.arr y e t f a:=by simpa [nm,Sy.new,aM] using hg
    injection hg with hg;subst hg;exact ⟨cs,hx⟩
   ·by_cases he:i=σ.nx
    ·have hq':some j=some q:=by simpa [Nm.new,nm,he] using hq
     injection hq' with hq';right;simp [oL,hq']
    ·left;have hi':i < σ.nx+1:=hi;exact ⟨by omega,by simpa [Nm.new,nm,he] using hq⟩
  ·obtain ⟨v1,v2⟩:=hm.Yn (o:=.arr x aa ety fr al) fun hv=>⟨cs,n,hx,h1,.inr ⟨jW _ _ _,h3,h4⟩⟩
   refine ⟨((nm ρ μ σ).new none (.arr x aa ety fr al)).μ,v1,v2,⟨Nat.lt_succ_self _,.inr ⟨jW (nm ρ μ σ) _ _,cs,n,rfl,fun y e t f a hg=>?_⟩⟩,rfl,fun i q hi hq=>?_⟩
   ·have hg:SO.arr x aa ety fr al=.arr y e t f a:=by simpa [nm,Sy.new,aM] using hg
    injection hg with hg;subst hg;exact hx
   ·by_cases he:i=σ.nx
    ·simp [Nm.new,nm,he] at hq
    ·left;have hi':i < σ.nx+1:=hi;exact ⟨by omega,by simpa [Nm.new,nm,he] using hq⟩
theorem Reach.trans {nx nx1 nx2:Nat} {μ NM Vr:Nat->Option Nat} {o1 o2:List Nat} (h:Reach nx μ NM nx1 o1) (h':Reach nx1 NM Vr nx2 o2):Reach nx μ Vr nx2 (o1++o2):=fun i j hi hj=>by
 rcases h' i j hi hj with ⟨a,c⟩|a
 ·rcases h i j a c with h1|h1
  ·exact .inl h1
  ·exact .inr (List.mem_append.2 (.inl h1))
 ·exact .inr (List.mem_append.2 (.inr a))
theorem AA {o1 o2:List Nat} (hn:(o1++o2).Nodup) (hown:∀j∈o1++o2,j < k/\∀i,i < σ.nx->μ i≠some j) {μ':Nat->Option Nat} {nx':Nat} (hr:Reach σ.nx μ μ' nx' o1):∀j∈o2,j < k/\∀i,i < nx'->μ' i≠some j:=by
 intro j hj;obtain ⟨h1,h2⟩:=hown j (List.mem_append.2 (.inr hj));refine ⟨h1,fun i hi he=>?_⟩
 rcases hr i j hi he with ⟨a,c⟩|a
 ·exact h2 i a c
 ·exact (List.nodup_append.1 hn).2.2 j a j hj rfl
theorem Ml {k0:Nat} (hb:b.k0<=k0) {i:Nat} {xs:List C} (hw:eu ρ i=some (.l xs)):∀{ks:List CK} {cs:List C} {ds:List D} {j:Nat} {μ:Nat->Option Nat} {σ:Sy},Rm b (nm ρ μ σ) h k σ.lens->xs.drop j=cs->bL (Uj h k0) ks cs ds->
  (nO ks ds).Nodup->(∀j∈nO ks ds,j < k/\∀i,i < σ.nx->μ i≠some j)->∀{dN:List SD} {σ':Sy},IV σ i ks j=(dN,σ')->
  ∃μ',fG (nm ρ μ σ) (nm ρ μ' σ')/\Rm b (nm ρ μ' σ') h k σ'.lens/\aj (jo (nm ρ μ' σ')) dN ds/\σ'.env=σ.env/\Reach σ.nx μ μ' σ'.nx (nO ks ds)
 |[],[],[],j,μ,σ,hm,_,_,_,_,dN,σ',hc=>by simp only [IV,Prod.mk.injEq] at hc;obtain ⟨rfl,rfl⟩:=hc;exact ⟨μ,fG.refl _,hm,trivial,rfl,fun i j h1 h2=> .inl ⟨h1,h2⟩⟩
 |ck::ks,c::cs,d::ds,j,μ,σ,hm,hx,hr,hn,hown,dN,σ',hc=>by
  have hlt:j < xs.length:=by
   rcases Nat.lt_or_ge j xs.length with h|h
   ·exact h
   ·rw [List.drop_of_length_le h] at hx;cases hx
  rw [List.drop_eq_getElem_cons hlt] at hx;injection hx with hx1 hx2;have hat:aV ρ (.n i j)=some c:=by simp only [aV,hw,kM xs j hlt,hx1]
  cases h1:Uq σ (.n i j) ck with
  |mk sd σ1=>
   cases h2:IV σ1 i ks (j+1) with
   |mk UA σ2=>
    simp only [IV,h1,h2,Prod.mk.injEq] at hc;obtain ⟨rfl,rfl⟩:=hc;simp only [nO] at hn hown |-;obtain ⟨NM,a1,a2,a3,a4,a5⟩:=Ru hm hb hat hr.1 (fun j hj=>hown j (List.mem_append.2 (.inl hj))) h1
    obtain ⟨Vr,b1,b2,b3,b4,b5⟩:=Ml hb hw a2 hx2 hr.2 (List.nodup_append.1 hn).2.1 (AA hn hown a5) h2;exact ⟨Vr,a1.trans b1,b2,⟨b1.dc a3,b3⟩,b4.trans a4,a5.trans b5⟩
 |[],_::_,_,_,_,_,_,_,hr,_,_,_,_,_=>hr.elim
 |[],[],_::_,_,_,_,_,_,hr,_,_,_,_,_=>hr.elim
 |_::_,[],_,_,_,_,_,_,hr,_,_,_,_,_=>hr.elim
 |_::_,_::_,[],_,_,_,_,_,hr,_,_,_,_,_=>hr.elim
def YP (h:Heap) (k0:Nat):RS->V->D->Prop
 |.one k,.one c,d=>Uj h k0 k c d
 |.agg ks,.agg cs,d=>∃ds,d=.agg ds/\bL (Uj h k0) ks cs ds
 |_,_,_=>False
theorem yX {k0:Nat} (hb:b.k0<=k0):∀{ks:List RS} {vs:List V} {ds:List D} {ws pre post:List W} {μ:Nat->Option Nat} {σ:Sy},Rm b (nm ρ μ σ) h k σ.lens->Us (ks.map RS.shape) vs ws->ρ=pre++ws++post->bL (YP h k0) ks vs ds->
  (iH ks ds).Nodup->(∀j∈iH ks ds,j < k/\∀i,i < σ.nx->μ i≠some j)->∀{dN:List SD} {σ':Sy},zS σ ks pre.length=(dN,σ')->
  ∃μ',fG (nm ρ μ σ) (nm ρ μ' σ')/\Rm b (nm ρ μ' σ') h k σ'.lens/\aj (RA (nm ρ μ' σ')) dN ds/\σ'.env=σ.env/\Reach σ.nx μ μ' σ'.nx (iH ks ds)
 |[],[],[],ws,pre,post,μ,σ,hm,_,_,_,_,_,dN,σ',hc=>by simp only [zS,Prod.mk.injEq] at hc;obtain ⟨rfl,rfl⟩:=hc;exact ⟨μ,fG.refl _,hm,trivial,rfl,fun i j h1 h2=> .inl ⟨h1,h2⟩⟩
 |.one ck::ks,.one c::vs,d::ds,.c c'::ws,pre,post,μ,σ,hm,hw,hρ,hr,hn,hown,dN,σ',hc=>by
  obtain ⟨rfl,hw⟩:=hw;have hat:aV ρ (.v pre.length)=some c':=by rw [hρ,List.append_assoc];exact at_new pre c' _
  cases h1:Uq σ (.v pre.length) ck with
  |mk sd σ1=>
   cases h2:zS σ1 ks (pre.length+1) with
   |mk UA σ2=>
    simp only [zS,h1,h2,Prod.mk.injEq] at hc;obtain ⟨rfl,rfl⟩:=hc;simp only [iH,JR] at hn hown |-;obtain ⟨NM,a1,a2,a3,a4,a5⟩:=Ru hm hb hat hr.1 (fun j hj=>hown j (List.mem_append.2 (.inl hj))) h1
    obtain ⟨Vr,b1,b2,b3,b4,b5⟩:=yX (pre:=pre++[.c c']) (post:=post) hb a2 hw (by rw [hρ];simp) hr.2 (List.nodup_append.1 hn).2.1 (AA hn hown a5) (by simpa using h2)
    exact ⟨Vr,a1.trans b1,b2,⟨b1.ra a3.toA,b3⟩,b4.trans a4,a5.trans b5⟩
 |.agg XY::ks,.agg cs::vs,d::ds,.l cs'::ws,pre,post,μ,σ,hm,hw,hρ,hr,hn,hown,dN,σ',hc=>by
  obtain ⟨rfl,hlen,hw⟩:=hw;have hg:eu ρ pre.length=some (.l cs'):=by rw [hρ,List.append_assoc];exact gD pre _ _
  obtain ⟨⟨es,rfl,hr1⟩,hr2⟩:=hr;have hm0:Rm b (nm ρ μ (σ.len pre.length XY.length)) h k (σ.len pre.length XY.length).lens:=by
   refine Rm.lens' hm fun i m hi=>?_
   simp only [Sy.len,List.mem_cons,Prod.mk.injEq] at hi;rcases hi with ⟨rfl,rfl⟩|hi
   ·exact ⟨cs',hg,hlen⟩
   ·exact hm.lens i m hi
  cases h1:IV (σ.len pre.length XY.length) pre.length XY 0 with
  |mk sd σ1=>
   cases h2:zS σ1 ks (pre.length+1) with
   |mk UA σ2=>
    simp only [zS,h1,h2,Prod.mk.injEq] at hc;obtain ⟨rfl,rfl⟩:=hc;simp only [iH,JR] at hn hown |-;obtain ⟨NM,a1,a2,a3,a4,a5⟩:=Ml hb hg hm0 (List.drop_zero ..) hr1 (List.nodup_append.1 hn).1 (fun j hj=>hown j (List.mem_append.2 (.inl hj))) h1
    obtain ⟨Vr,b1,b2,b3,b4,b5⟩:=yX (pre:=pre++[.l cs']) (post:=post) hb a2 hw (by rw [hρ];simp) hr2 (List.nodup_append.1 hn).2.1 (AA (σ:=σ) hn hown a5) (by simpa using h2)
    exact ⟨Vr,fG.trans (show fG (nm ρ μ σ) (nm ρ NM σ1) from a1) b1,b2,⟨⟨es,rfl,a3.mono fun _ _=>b1.dc⟩,b3⟩,b4.trans a4,a5.trans b5⟩
 |[],_::_,_,_,_,_,_,_,_,_,_,hr,_,_,_,_,_=>hr.elim
 |[],[],_::_,_,_,_,_,_,_,_,_,hr,_,_,_,_,_=>hr.elim
 |_::_,[],_,_,_,_,_,_,_,_,_,hr,_,_,_,_,_=>hr.elim
 |_::_,_::_,[],_,_,_,_,_,_,_,_,hr,_,_,_,_,_=>hr.elim
 |.one _::_,.agg _::_,_::_,_,_,_,_,_,_,_,_,hr,_,_,_,_,_=>hr.1.elim
 |.agg _::_,.one _::_,_::_,_,_,_,_,_,_,_,_,hr,_,_,_,_,_=>hr.1.elim
 |.one _::_,.one _::_,_::_,[],_,_,_,_,_,hw,_,_,_,_,_,_,_=>hw.elim
 |.one _::_,.one _::_,_::_,.l _::_,_,_,_,_,_,hw,_,_,_,_,_,_,_=>hw.elim
 |.agg _::_,.agg _::_,_::_,[],_,_,_,_,_,hw,_,_,_,_,_,_,_=>hw.elim
 |.agg _::_,.agg _::_,_::_,.c _::_,_,_,_,_,_,hw,_,_,_,_,_,_,_=>hw.elim
end
end Go.Ey
namespace Go.Ey
section
variable {b:Bs} {N:Nm} {h:Heap} {k:Nat} {lens:List (Nat×Nat)}
def fZ (N:Nm) (bx ai:List Nat):Prop:=aj (fun i j=>i < N.nx/\N.μ i=some j) bx ai
theorem fZ.get {bx ai:List Nat} (hl:fZ N bx ai) {q i:Nat} (hq:bx[q]?=some i):∃j,ai[q]?=some j/\i < N.nx/\N.μ i=some j:=aj.get q hl hq
theorem kX:∀{l:List Nat},nodupB l=true->l.Nodup
 |[],_=>List.nodup_nil
 |i::l,h=>by simp only [nodupB,Bool.and_eq_true,Bool.not_eq_true',List.contains_eq_mem,decide_eq_false_iff_not] at h;exact List.nodup_cons.2 ⟨h.1,kX h.2⟩
theorem fZ.mem:∀{bx ai:List Nat},fZ N bx ai->∀j∈ai,∃i∈bx,i < N.nx/\N.μ i=some j
 |[],[],_,j,hj=>by simp at hj
 |i::bx,j'::ai,hl,j,hj=>by
  simp only [List.mem_cons] at hj;rcases hj with rfl|hj
  ·exact ⟨i,by simp,hl.1⟩
  ·obtain ⟨i',h1,h2⟩:=fZ.mem hl.2 j hj;exact ⟨i',by simp [h1],h2⟩
 |[],_::_,hl,_,_=>hl.elim
 |_::_,[],hl,_,_=>hl.elim
theorem fZ.nodup (hm:Rm b N h k lens):∀{bx ai:List Nat},fZ N bx ai->bx.Nodup->ai.Nodup
 |[],[],_,_=>List.nodup_nil
 |i::bx,j::ai,hl,hn=>by
  rw [List.nodup_cons] at hn |-;refine ⟨fun hj=>?_,fZ.nodup hm hl.2 hn.2⟩
  obtain ⟨i',h1,h2,h3⟩:=fZ.mem hl.2 j hj;have:=hm.inj i i' j hl.1.1 h2 hl.1.2 h3
  subst this;exact hn.1 h1
 |[],_::_,hl,_=>hl.elim
 |_::_,[],hl,_=>hl.elim
theorem Lg {bx ai:List Nat} (hl:fZ N bx ai):∀{caps dA cs:List (Nat×Nat)},Nf bx caps dA=true->aj (fun p q:Nat×Nat=>p.1 < N.nx/\N.μ p.1=some q.1/\q.2=p.2) dA cs->aj (fun p q:Nat×Nat=>ai[p.1]?=some q.1/\q.2=p.2) caps cs
 |[],[],[],_,_=>trivial
 |(b,o)::r,(i,o')::r',(j,o2)::cs,hc,hr=>by
  simp only [Nf,Bool.and_eq_true,beq_iff_eq] at hc;obtain ⟨⟨hb,rfl⟩,hc⟩:=hc;obtain ⟨j',g1,_,g2⟩:=hl.get hb;obtain ⟨⟨_,g3,g4⟩,hr⟩:=hr;simp only at g3 g4;rw [g2] at g3;injection g3 with g3;subst g3
  exact ⟨⟨g1,g4⟩,Lg hl hc hr⟩
 |[],_::_,_,hc,_=>by simp [Nf] at hc
 |_::_,[],_,hc,_=>by simp [Nf] at hc
 |[],[],_::_,_,hr=>hr.elim
 |_::_,_::_,[],_,hr=>hr.elim
theorem zN:∀{caps dA cs:List (Nat×Nat)},aj (fun p q:Nat×Nat=>p.1 < N.nx/\N.μ p.1=some q.1/\q.2=p.2) dA cs->∀{q i:Nat},qO caps dA q=some i->∃j,i < N.nx/\N.μ i=some j
 |[],_,_,_,q,i,h=>by simp [qO] at h
 |_::_,[],_,_,q,i,h=>by simp [qO] at h
 |(b,o)::r,(i',o')::r',(j,o2)::cs,hr,q,i,h=>by
  simp only [qO] at h;split at h
  ·simp only [Option.some.injEq] at h;subst h;exact ⟨j,hr.1.1,hr.1.2.1⟩
  ·exact zN hr.2 h
 |_::_,_::_,[],hr,_,_,_=>hr.elim
theorem zg {bx ai:List Nat}:∀{ps:List PS} {dN:List SD} {ds:List D} {N:Nm} {h:Heap},Rm b N h k lens->fZ N bx ai->aj (RD N) dN ds->∀{ax:List TA} {us:List (Nat×SO)},lW lens N.hs bx ps dN=some (ax,us)->
  ∃ds1 us',iU h ds=some (ds1,us')/\fG N (N.upd us)/\Rm b (N.upd us) (ah h us') k lens/\∃ru,jY N.ρ ax=some ru/\(iO ps ru->bL (JM ai) ps ru ds1)
 |[],[],[],N,h,hm,_,_,ax,us,hf=>by simp only [lW,Option.some.injEq,Prod.mk.injEq] at hf;obtain ⟨rfl,rfl⟩:=hf;exact ⟨[],[],rfl,fG.refl _,hm,[],rfl,fun _=>trivial⟩
 |[],_::_,_,_,_,_,_,_,_,_,hf=>by simp [lW] at hf
 |.one::_,[],_,_,_,_,_,_,_,_,hf=>by cases hf
 |.agg _::_,[],_,_,_,_,_,_,_,_,hf=>by cases hf
 |.ref _ _::_,[],_,_,_,_,_,_,_,_,hf=>by cases hf
 |.bJ _ _::_,[],_,_,_,_,_,_,_,_,hf=>by cases hf
 |p::ps,sd::dN,[],_,_,_,_,hr,_,_,_=>hr.elim
 |[],[],_::_,_,_,_,_,hr,_,_,_=>hr.elim
 |p::ps,sd::dN,d::ds,N,h,hm,hl,hr,ax,us,hf=>by
  have gen:(∀q o,p≠.ref q o)->(∀q o,p≠.bJ q o)->(si lens N.hs sd).bind (fun p=>(lW lens (sP N.hs p.2) bx ps dN).bind fun q=>some (TA.v p.1::q.1,p.2++q.2))=some (ax,us)->
    ∃ds1 us',iU h (d::ds)=some (ds1,us')/\fG N (N.upd us)/\Rm b (N.upd us) (ah h us') k lens/\∃ru,jY N.ρ ax=some ru/\(iO (p::ps) ru->bL (JM ai) (p::ps) ru ds1):=by
   intro hp hp' hf;simp only [Option.bind_eq_some_iff,Option.some.injEq,Prod.mk.injEq,Prod.exists] at hf;obtain ⟨tv,u1,h1,as',u2,h2,rfl,rfl⟩:=hf;obtain ⟨v,pE,k1,k2,k3,k4,k5⟩:=AL hm hr.1 h1;obtain ⟨d1,l1,l2⟩:=LW k1;obtain ⟨ds1,yZ,q1,q2,q3,ru,q4,q5⟩:=zg (N:=N.upd u1) (h:=ah h pE) k4 hl (hr.2.mono fun _ _=>k3.rd) h2
   refine ⟨d1::ds1,pE++yZ,by simp [iU,l1,q1],?_,?_,.v v::ru,?_,fun hs=>?_⟩
   ·rw [Nm.gK];exact k3.trans q2
   ·rw [Nm.gK,dz];exact q3
   ·have:jY N.ρ as'=some ru:=q4
    simp [jY,NG,k2,this]
   ·cases p with
    |one=>cases v with
     |full _ _=>exact hs.elim
     |one c=>exact ⟨l2,q5 hs⟩
     |agg cs=>exact hs.elim
    |agg m=>cases v with
     |full _ _=>exact hs.elim
     |one c=>exact hs.elim
     |agg cs=>exact ⟨⟨hs.1,l2⟩,q5 hs.2⟩
    |ref q o=>exact absurd rfl (hp q o)
    |bJ q o=>exact absurd rfl (hp' q o)
  cases p with
  |one=>exact gen (by simp) (by simp) (by simpa [lW] using hf)
  |agg m=>exact gen (by simp) (by simp) (by simpa [lW] using hf)
  |bJ g caps=>
   cases sd with
   |bJ g' dA=>
    simp only [lW] at hf;split at hf
    case isFalse=>cases hf
    rename_i hc;obtain ⟨rfl,hc1⟩:=hc;simp only [Option.bind_eq_some_iff,Option.some.injEq,Prod.mk.injEq,Prod.exists] at hf;obtain ⟨as',u2,h2,rfl,rfl⟩:=hf;obtain ⟨ds1,yZ,q1,q2,q3,ru,q4,q5⟩:=zg hm hl hr.2 h2;obtain ⟨cs,rfl,g2⟩:=hr.1;refine ⟨.bJ g' cs::ds1,yZ,?_,q2,q3,.ref 0 0::ru,?_,fun hs=>⟨⟨rfl,rfl,cs,rfl,Lg hl hc1 g2⟩,q5 hs.2.2⟩⟩
    ·simp [iU,zX,tL,ah,q1]
    ·simp [jY,NG,q4]
   |_=>simp [lW] at hf
  |ref q off=>
   cases sd with
   |loc i o=>
    simp only [lW] at hf;split at hf
    case isFalse=>cases hf
    rename_i hc;obtain ⟨hc1,rfl⟩:=hc;simp only [Option.bind_eq_some_iff,Option.some.injEq,Prod.mk.injEq,Prod.exists] at hf;obtain ⟨as',u2,h2,rfl,rfl⟩:=hf;obtain ⟨ds1,yZ,q1,q2,q3,ru,q4,q5⟩:=zg hm hl hr.2 h2;obtain ⟨hi,j,g1,g2⟩:=hr.1;obtain ⟨j',g3,_,g4⟩:=hl.get hc1;rw [g1] at g4;injection g4 with g4;subst g4
    refine ⟨d::ds1,yZ,?_,q2,q3,.ref q o::ru,?_,fun hs=>⟨⟨rfl,rfl,j,g3,g2⟩,q5 hs.2.2⟩⟩
    ·simp [iU,g2,zX,tL,ah,q1]
    ·simp [jY,NG,q4]
   |_=>simp [lW] at hf
theorem ou (hm:Rm b N h k lens):∀{bx ms ai:List Nat} {bs:List SL},fZ N bx ai->iX lens N.hs bx ms=some bs->∃xss,uz N.ρ bs=some xss/\bL (sJ h) ms xss ai
 |[],[],[],bs,_,hf=>by simp only [iX,Option.some.injEq] at hf;subst hf;exact ⟨[],rfl,trivial⟩
 |i::bx,m::ms,j::ai,bs,hl,hf=>by
  simp only [iX] at hf;split at hf
  case h_2=>cases hf
  rename_i ds hg;simp only [Option.bind_eq_some_iff] at hf;obtain ⟨ax,h1,hf⟩:=hf;split at hf
  case isFalse=>cases hf
  rename_i hc;simp only [Option.bind_eq_some_iff,Option.some.injEq] at hf;obtain ⟨bs',h2,rfl⟩:=hf;obtain ⟨xss,h3,h4⟩:=ou hm hl.2 h2;obtain ⟨j',ds',g1,g2,g3⟩:=hm.box hg;rw [hl.1.2] at g1;injection g1 with g1;subst g1
  obtain ⟨xs,h5,h6⟩:=qb g3 h1;refine ⟨xs::xss,by simp [uz,qM hm,h5,h3],⟨by rw [uG h5];exact hc,ds',g2,h6⟩,h4⟩
 |[],[],_::_,_,hl,_=>hl.elim
 |[],_::_,_,_,_,hf=>by simp [iX] at hf
 |_::_,[],_,_,_,hf=>by simp [iX] at hf
 |_::_,_::_,[],_,hl,_=>hl.elim
theorem sG {ps:List PS} {dN:List SD}:∀{m q:Nat} {bx:List Nat},lH ps dN q m=some bx->bx.length=m
 |0,_,bx,h=>by simp only [lH,Option.some.injEq] at h;subst h;rfl
 |m+1,q,bx,h=>by simp only [lH,Option.bind_eq_some_iff,Option.some.injEq] at h;obtain ⟨i,_,is,h2,rfl⟩:=h;simp [sG h2]
theorem Gx:∀{ps:List PS} {dN:List SD} {ds:List D},aj (RD N) dN ds->∀{q i:Nat},iJ ps dN q=some i->∃j,i < N.nx/\N.μ i=some j
 |[],_,_,_,q,i,h=>by simp [iJ] at h
 |.one::_,[],_,_,q,i,h=>by cases h
 |.agg _::_,[],_,_,q,i,h=>by cases h
 |.ref _ _::_,[],_,_,q,i,h=>by cases h
 |.bJ _ _::_,[],_,_,q,i,h=>by cases h
 |p::ps,sd::dN,d::ds,hr,q,i,h=>by
  have rest:iJ ps dN q=some i->∃j,i < N.nx/\N.μ i=some j:=Gx hr.2;cases p with
  |one=>exact rest (by simpa [iJ] using h)
  |agg m=>exact rest (by simpa [iJ] using h)
  |ref q' o=>
   cases sd with
   |loc i' o'=>
    simp only [iJ] at h;split at h
    ·simp only [Option.some.injEq] at h;subst h;obtain ⟨hi,j,g1,_⟩:=hr.1;exact ⟨j,hi,g1⟩
    ·exact rest h
   |_=>exact rest (by simpa [iJ] using h)
  |bJ g caps=>
   cases sd with
   |bJ g' dA=>
    simp only [iJ] at h;split at h
    ·rename_i i' hc;simp only [Option.some.injEq] at h;subst h;obtain ⟨cs,_,g2⟩:=hr.1;exact zN g2 hc
    ·exact rest h
   |_=>exact rest (by simpa [iJ] using h)
 |_::_,_::_,[],hr,_,_,_=>hr.elim
theorem wK {ps:List PS} {dN:List SD} {ds:List D} (hr:aj (RD N) dN ds):∀{m q:Nat} {bx:List Nat},lH ps dN q m=some bx->∃ai,fZ N bx ai
 |0,_,bx,h=>by simp only [lH,Option.some.injEq] at h;subst h;exact ⟨[],trivial⟩
 |m+1,q,bx,h=>by simp only [lH,Option.bind_eq_some_iff,Option.some.injEq] at h;obtain ⟨i,h1,is,h2,rfl⟩:=h;obtain ⟨ai,h3⟩:=wK hr h2;obtain ⟨j,h4,h5⟩:=Gx hr h1;exact ⟨j::ai,⟨h4,h5⟩,h3⟩
theorem nK:∀{bx ms:List Nat} {σ:Sy} {n:Nat},(bg σ bx ms n).env=σ.env/\(bg σ bx ms n).nx=σ.nx
 |[],_,_,_=>⟨rfl,rfl⟩
 |_::_,[],_,_=>⟨rfl,rfl⟩
 |i::bx,m::ms,σ,n=>by simp only [bg];exact nK
theorem Gr:∀{bx ms:List Nat} {σ:Sy} {n:Nat},bx.Nodup->bx.length=ms.length->(∀i,i ∉ bx->aM (bg σ bx ms n).heap i=aM σ.heap i)/\(∀q i m,bx[q]?=some i->ms[q]?=some m->aM (bg σ bx ms n).heap i=.box ((nk (n+q) 0 m).map .a))
 |[],[],σ,n,_,_=>⟨fun _ _=>rfl,by simp⟩
 |[],_::_,_,_,_,hl=>by simp at hl
 |_::_,[],_,_,_,hl=>by simp at hl
 |i::bx,m::ms,σ,n,hn,hl=>by
  rw [List.nodup_cons] at hn;simp only [bg];obtain ⟨h1,h2⟩:=Gr (σ:={ σ with heap:=(i,.box ((nk n 0 m).map .a))::σ.heap,lens:=(n,m)::σ.lens}) (n:=n+1) hn.2 (by simpa using hl)
  refine ⟨fun p hp=>?_,fun q p m' hq hm'=>?_⟩
  ·simp only [List.mem_cons,not_or] at hp;rw [h1 p hp.2,aZ,if_neg (fun e=>hp.1 e.symm)]
  ·cases q with
   |zero=>
    simp only [List.getElem?_cons_zero,Option.some.injEq] at hq hm';subst hq hm';rw [h1 i hn.1,aZ,if_pos rfl];rfl
   |succ q=>
    simp only [List.getElem?_cons_succ] at hq hm';rw [h2 q p m' hq hm',show n+1+q=n+(q+1) by omega]
theorem CG:∀{bx ms:List Nat} {σ:Sy} {n:Nat} {i m:Nat},(i,m)∈(bg σ bx ms n).lens->(i,m)∈σ.lens\/∃q,i=n+q/\ms[q]?=some m
 |[],_,_,_,_,_,h=> .inl h
 |_::_,[],_,_,_,_,h=> .inl h
 |_::bx,m'::ms,σ,n,i,m,h=>by
  simp only [bg] at h;rcases CG h with h|⟨q,h1,h2⟩
  ·simp only [List.mem_cons,Prod.mk.injEq] at h;rcases h with ⟨rfl,rfl⟩|h
   ·exact .inr ⟨0,rfl,rfl⟩
   ·exact .inl h
  ·exact .inr ⟨q+1,by omega,by simpa using h2⟩
theorem GD (pre:List W) (xss:List (List C)):∀(q:Nat) (xs:List C),xss[q]?=some xs->∀post,eu (pre++xss.map .l++post) (pre.length+q)=some (.l xs):=by
 induction xss generalizing pre with
 |nil=>intro q xs h;simp at h
 |cons y xss ih=>
  intro q xs h post;cases q with
  |zero=>
   simp only [List.getElem?_cons_zero,Option.some.injEq] at h;subst h;rw [List.map_cons,List.append_assoc];exact gD pre _ _
  |succ q=>
   simp only [List.getElem?_cons_succ] at h;have:=ih (pre++[.l y]) q xs h post
   rw [List.length_append] at this;rw [List.map_cons];rw [show pre.length+(q+1)=pre.length+[W.l y].length+q by simp;omega]
   rw [show pre++W.l y::xss.map .l++post=pre++[.l y]++xss.map .l++post by simp]
   exact this
theorem bL.get {α β γ:Type} {R:α->β->γ->Prop}:∀{ax:List α} {bs:List β} {cs:List γ} {q:Nat} {c:γ},bL R ax bs cs->cs[q]?=some c->∃a b,ax[q]?=some a/\bs[q]?=some b/\R a b c
 |[],[],[],q,c,_,h=>by simp at h
 |a::ax,b::bs,c'::cs,q,c,h1,h=>by
  cases q with
  |zero=>simp only [List.getElem?_cons_zero,Option.some.injEq] at h;subst h;exact ⟨a,b,rfl,rfl,h1.1⟩
  |succ q=>
   simp only [List.getElem?_cons_succ] at h;obtain ⟨a',b',q1,q2,q3⟩:=bL.get h1.2 h;exact ⟨a',b',by simpa using q1,by simpa using q2,q3⟩
 |[],_::_,_,_,_,h1,_=>h1.elim
 |[],[],_::_,_,_,h1,_=>h1.elim
 |_::_,[],_,_,_,h1,_=>h1.elim
 |_::_,_::_,[],_,_,h1,_=>h1.elim
theorem CD.rd {c:C} {d:D} (h:CD c d) {x:At} (hx:aV N.ρ x=some c):jo N (.a x) d:=⟨c,hx,h⟩
theorem uY {i:Nat} {xs:List C} (hw:eu N.ρ i=some (.l xs)):∀{m off:Nat} {ys:List C} {ds:List D},xs.drop off=ys->ys.length=m->aj CD ys ds->aj (jo N) ((nk i off m).map .a) ds
 |0,off,[],[],_,_,_=>trivial
 |m+1,off,y::ys,d::ds,hx,hl,hr=>by
  have hlt:off < xs.length:=by
   rcases Nat.lt_or_ge off xs.length with h|h
   ·exact h
   ·rw [List.drop_of_length_le h] at hx;cases hx
  rw [List.drop_eq_getElem_cons hlt] at hx;injection hx with hx1 hx2;exact ⟨hr.1.rd (by simp only [aV,hw,kM xs off hlt,hx1]),uY hw hx2 (by simpa using hl) hr.2⟩
 |0,_,_::_,_,_,hl,_=>by simp at hl
 |_+1,_,[],_,_,hl,_=>by simp at hl
 |0,_,[],_::_,_,_,hr=>hr.elim
 |_+1,_,_::_,[],_,_,hr=>hr.elim
end
section
variable {b:Bs} {ρ:List W} {μ:Nat->Option Nat} {σ:Sy} {h:Heap} {k:Nat} {call:uL} {head:wu} {kt:SD->Sy->Nat->Tree} {r:R} {F:nD} {sig:Nat->Option aN}
theorem Be (hm:Rm b (nm ρ μ σ) h k σ.lens) {bx ms ai:List Nat} (hn:bx.Nodup) (hlen:bx.length=ms.length) (hl:fZ (nm ρ μ σ) bx ai) (adV:∀i∈bx,∃ds,aM σ.heap i=.box ds) {h':Heap} {k':Nat} (hk:k<=k')
  (hfr:∀j,j < k->j ∉ ai->af h' j=af h j) {pre:List W} {xss:List (List C)} (hbs:bL (sJ h') ms xss ai) (hρ:ρ=pre++xss.map .l):
  fG (nm ρ μ σ) (nm ρ μ (bg σ bx ms pre.length))/\Rm b (nm ρ μ (bg σ bx ms pre.length)) h' k' (bg σ bx ms pre.length).lens:=by
 obtain ⟨g1,g2⟩:=Gr (σ:=σ) (n:=pre.length) hn hlen;obtain ⟨e1,e2⟩:=nK (bx:=bx) (ms:=ms) (σ:=σ) (n:=pre.length);have hv:fG (nm ρ μ σ) (nm ρ μ (bg σ bx ms pre.length)):=by
  refine ⟨fun _ _ h=>h,fun _ _ h=>h,?_,fun _ _=>rfl,fun i y' aa ety fr' al' hi hg=>?_⟩
  ·show σ.nx<=(bg σ bx ms pre.length).nx;rw [e2];exact Nat.le_refl _
  ·by_cases hib:i∈bx
   ·obtain ⟨q,hq⟩:=List.getElem?_of_mem hib;obtain ⟨m,hq'⟩:∃m,ms[q]?=some m:=by
     have:=(List.getElem?_eq_some_iff.1 hq).1
     exact ⟨ms[q]'(by omega),List.getElem?_eq_getElem (by omega)⟩
    have hg':aM (bg σ bx ms pre.length).heap i=.arr y' aa ety fr' al':=hg;rw [g2 q i m hq hq'] at hg';cases hg'
   ·have hg':aM (bg σ bx ms pre.length).heap i=.arr y' aa ety fr' al':=hg;rw [g1 i hib] at hg';exact ⟨y',fr',al',hg',id,fun cs _ hc=>⟨cs,hc,fun _=>rfl⟩⟩
 have hwq:∀q xs,xss[q]?=some xs->eu ρ (pre.length+q)=some (.l xs):=fun q xs hq=>by
  have:=GD pre xss q xs hq []
  rw [List.append_nil] at this;rw [hρ];exact this
 refine ⟨hv,fun i=>?_,fun i i' j h1 h2 h3 h4=>?_,fun i j h1 h2=>?_,fun i hi=>?_,fun i j h1 h2=>?_,fun j h1 h2=>?_,Nat.le_trans hm.le hk,fun i m hi=>?_⟩
 ·by_cases hib:i∈bx
  ·obtain ⟨q,hq⟩:=List.getElem?_of_mem hib;obtain ⟨j,hj1,hj2,hj3⟩:=hl.get hq;obtain ⟨m,xs,hb1,hb2,hb3,ds,hb4,hb5⟩:=hbs.get hj1;show Du _ h' i (aM (bg σ bx ms pre.length).heap i)
   rw [g2 q i m hq hb1];subst hb3;exact ⟨j,ds,hj3,hb4,uY (N:=nm ρ μ (bg σ bx ms pre.length)) (hwq q xs hb2) (List.drop_zero ..) rfl hb5⟩
  ·show Du _ h' i (aM (bg σ bx ms pre.length).heap i)
   rw [g1 i hib];by_cases hi:i < σ.nx
   ·refine Du.mono hv hi (fun j hj=>hfr j (hm.lt i j hi hj) fun hjl=>?_) (hm.obj i)
    obtain ⟨i',h1,h2,h3⟩:=fZ.mem hl j hjl;exact hib (hm.inj i i' j hi h2 hj h3▸h1)
   ·rw [show aM σ.heap i=.dead from hm.dom i (Nat.le_of_not_lt hi)];trivial
 ·rw [show (nm ρ μ (bg σ bx ms pre.length)).nx=σ.nx from e2] at h1 h2
  exact hm.inj i i' j h1 h2 h3 h4
 ·rw [show (nm ρ μ (bg σ bx ms pre.length)).nx=σ.nx from e2] at h1
  exact Nat.lt_of_lt_of_le (hm.lt i j h1 h2) hk
 ·rw [show (nm ρ μ (bg σ bx ms pre.length)).nx=σ.nx from e2] at hi
  show aM (bg σ bx ms pre.length).heap i=.dead
  rw [g1 i fun hib=>?_]
  ·exact hm.dom i hi
  ·obtain ⟨ds,hds⟩:=adV i hib;have:=hm.dom i hi
   rw [show aM (nm ρ μ σ).hs i=_ from hds] at this
   cases this
 ·rw [show (nm ρ μ (bg σ bx ms pre.length)).nx=σ.nx from e2] at h1
  exact hm.base i j h1 h2
 ·rw [hfr j (Nat.lt_of_lt_of_le h1 hm.le) fun hjl=>?_]
  ·exact hm.frame j h1 h2
  ·obtain ⟨i',q1,q2,q3⟩:=fZ.mem hl j hjl;rcases hm.base i' j q2 q3 with q|q
   ·omega
   ·exact h2 q
 ·rcases CG hi with hi|⟨q,rfl,hq⟩
  ·exact hm.lens i m hi
  ·obtain ⟨xs,hxs⟩:∃xs,xss[q]?=some xs:=by
    have:=(List.getElem?_eq_some_iff.1 hq).1
    have hl2:=hbs.AB;exact ⟨xss[q]'(by omega),List.getElem?_eq_getElem (by omega)⟩
   obtain ⟨j,hj⟩:∃j,ai[q]?=some j:=by
    have:=(List.getElem?_eq_some_iff.1 hq).1
    have hl2:=hbs.AB;exact ⟨ai[q]'(by omega),List.getElem?_eq_getElem (by omega)⟩
   obtain ⟨m',xs',hb1,hb2,hb3,_⟩:=hbs.get hj;rw [hq] at hb1;injection hb1 with hb1
   rw [hxs] at hb2;injection hb2 with hb2
   subst hb1 hb2;exact ⟨xs,hwq q xs hxs,hb3⟩
end
end Go.Ey
namespace Go.Ey
section
variable {b:Bs} {ρ:List W} {μ:Nat->Option Nat} {σ:Sy} {h:Heap} {k:Nat} {call:uL} {head:wu} {r:R} {F:nD} {sig:Nat->Option aN}
theorem lX {lens:List (Nat×Nat)} {hs:List (Nat×SO)}:∀{bx ms:List Nat} {bs:List SL},iX lens hs bx ms=some bs->∀i∈bx,∃ds,aM hs i=.box ds
 |[],_,_,_,i,hi=>by simp at hi
 |_::_,[],_,hf,_,_=>by simp [iX] at hf
 |i::bx,m::ms,bs,hf,p,hp=>by
  simp only [iX] at hf;split at hf
  case h_2=>cases hf
  rename_i ds hg;simp only [Option.bind_eq_some_iff] at hf;obtain ⟨ax,h1,hf⟩:=hf;split at hf
  case isFalse=>cases hf
  simp only [Option.bind_eq_some_iff] at hf;obtain ⟨bs',h2,_⟩:=hf;simp only [List.mem_cons] at hp;rcases hp with rfl|hp
  ·exact ⟨ds,hg⟩
  ·exact lX h2 p hp
theorem LU {h:Heap} {k0:Nat} {ck:CK} {c:C} {d:D} (hr:CY h k0 ck c d):∀j∈oL ck d,k0<=j:=by
 intro j hj;cases ck with
 |own aa ety fr al=>
  obtain ⟨cs,n,_,_,⟨j',fz,rfl,h3,_⟩|⟨rfl,_⟩⟩:=hr
  ·simp [oL] at hj;subst hj;exact h3
  ·simp [oL] at hj
 |_=>simp [oL] at hj
theorem Il {h:Heap} {k0:Nat}:∀{ks:List CK} {cs:List C} {ds:List D},bL (CY h k0) ks cs ds->∀j∈nO ks ds,k0<=j
 |[],[],[],_,j,hj=>by simp [nO] at hj
 |_::_,_::_,_::_,hr,j,hj=>by simp only [nO,List.mem_append] at hj;exact hj.elim (LU hr.1 j) (Il hr.2 j)
 |[],_::_,_,h1,_,_=>h1.elim
 |[],[],_::_,h1,_,_=>h1.elim
 |_::_,[],_,h1,_,_=>h1.elim
 |_::_,_::_,[],h1,_,_=>h1.elim
theorem FN {h:Heap} {k0:Nat}:∀{ks:List RS} {vs:List V} {ds:List D},bL (R4 h k0) ks vs ds->∀j∈iH ks ds,k0<=j
 |[],[],[],_,j,hj=>by simp [iH] at hj
 |rs::_,v::_,d::_,hr,j,hj=>by
  simp only [iH,List.mem_append] at hj;rcases hj with hj|hj
  ·cases rs with
   |one k=>cases v with
    |full _ _=>exact hr.1.elim
    |one c=>exact LU hr.1 j hj
    |agg cs=>exact hr.1.elim
   |agg ks=>cases v with
    |full _ _=>exact hr.1.elim
    |one c=>exact hr.1.elim
    |agg cs=>obtain ⟨ds,rfl,h2⟩:=hr.1;exact Il h2 j hj
  ·exact FN hr.2 j hj
 |[],_::_,_,h1,_,_=>h1.elim
 |[],[],_::_,h1,_,_=>h1.elim
 |_::_,[],_,h1,_,_=>h1.elim
 |_::_,_::_,[],h1,_,_=>h1.elim
theorem Pg {h:Heap} {k0:Nat}:∀{ks:List RS} {vs:List V} {ds:List D},ks.all RS.Fv=true->bL (R4 h k0) ks vs ds->bL (YP h k0) ks vs ds:=by
 have one:∀{ck:CK} {c:C} {d:D},ck.Fv=true->CY h k0 ck c d->Uj h k0 ck c d:=by intro ck c d hk hr;cases ck<;>first|exact hr|cases hk
 have many:∀{ks:List CK} {cs:List C} {ds:List D},ks.all CK.Fv=true->bL (CY h k0) ks cs ds->bL (Uj h k0) ks cs ds:=by
  intro ks;induction ks with
  |nil=>intro cs ds _ hr;cases cs<;>cases ds<;>first|trivial|exact hr.elim
  |cons ck ks ih=>
   intro cs ds hk hr;cases cs with
   |nil=>exact hr.elim
   |cons c cs=>cases ds with
    |nil=>exact hr.elim
    |cons d ds=>
     simp only [List.all_cons,Bool.and_eq_true] at hk;exact ⟨one hk.1 hr.1,ih hk.2 hr.2⟩
 intro ks;induction ks with
 |nil=>intro vs ds _ hr;cases vs<;>cases ds<;>first|trivial|exact hr.elim
 |cons rs ks ih=>
  intro vs ds hk hr;cases vs with
  |nil=>exact hr.elim
  |cons v vs=>cases ds with
   |nil=>exact hr.elim
   |cons d ds=>
    simp only [List.all_cons,Bool.and_eq_true] at hk;refine ⟨?_,ih hk.2 hr.2⟩;cases rs with
    |one k=>cases v with
     |full _ _=>exact hr.1.elim
     |one c=>exact one hk.1 hr.1
     |agg cs=>exact hr.1.elim
    |agg XY=>cases v with
     |full _ _=>exact hr.1.elim
     |one c=>exact hr.1.elim
     |agg cs=>obtain ⟨es,h1,h2⟩:=hr.1;exact ⟨es,h1,many hk.1 h2⟩
theorem K6 {h h0:Heap} {k0:Nat}:∀{ks:List RS} {vs:List V} {ds ds1:List D},ks.all RS.Ty=true->bL (R4 h0 k0) ks vs ds->aj VD vs ds1->bL (YP h k0) ks vs ds1/\iH ks ds1=[]:=by
 have many:∀{ks:List CK} {cs:List C} {ds ds1:List D},ks.all CK.Ty=true->bL (CY h0 k0) ks cs ds->aj CD cs ds1->bL (Uj h k0) ks cs ds1/\nO ks ds1=[]:=by
  intro ks;induction ks with
  |nil=>
   intro cs ds ds1 _ hr hv;cases cs with
   |nil=>cases ds1 with
    |nil=>exact ⟨trivial,rfl⟩
    |cons _ _=>exact hv.elim
   |cons _ _=>cases ds<;>exact hr.elim
  |cons ck ks ih=>
   intro cs ds ds1 hk hr hv;cases cs with
   |nil=>exact hr.elim
   |cons c cs=>cases ds with
    |nil=>exact hr.elim
    |cons d ds=>cases ds1 with
     |nil=>exact hv.elim
     |cons d1 ds1=>
      simp only [List.all_cons,Bool.and_eq_true] at hk;obtain ⟨h1,h2⟩:=ih hk.2 hr.2 hv.2;cases ck with
      |c=>exact ⟨⟨hv.1,h1⟩,by simp [nO,oL,h2]⟩
      |_=>cases hk.1
 intro ks;induction ks with
 |nil=>
  intro vs ds ds1 _ hr hv;cases vs with
  |nil=>cases ds1 with
   |nil=>exact ⟨trivial,rfl⟩
   |cons _ _=>exact hv.elim
  |cons _ _=>cases ds<;>exact hr.elim
 |cons rs ks ih=>
  intro vs ds ds1 hk hr hv;cases vs with
  |nil=>exact hr.elim
  |cons v vs=>cases ds with
   |nil=>exact hr.elim
   |cons d ds=>cases ds1 with
    |nil=>exact hv.elim
    |cons d1 ds1=>
     simp only [List.all_cons,Bool.and_eq_true] at hk;obtain ⟨h1,h2⟩:=ih hk.2 hr.2 hv.2;cases rs with
     |one ck=>cases v with
      |full _ _=>exact hr.1.elim
      |one c=>cases ck with
       |c=>exact ⟨⟨hv.1,h1⟩,by simp [iH,JR,oL,h2]⟩
       |_=>cases hk.1
      |agg cs=>exact hr.1.elim
     |agg XY=>cases v with
      |full _ _=>exact hr.1.elim
      |one c=>exact hr.1.elim
      |agg cs=>
       obtain ⟨es,_,h3⟩:=hr.1;obtain ⟨es1,h4,h5⟩:=hv.1;obtain ⟨h6,h7⟩:=many hk.1 h3 h5;subst h4;exact ⟨⟨⟨es1,rfl,h6⟩,h1⟩,by simp [iH,JR,h7,h2]⟩
theorem Bc {us:List (Nat×Obj)}:∀{h:Heap} {j:Nat},(∀p∈us,p.1≠j)->af (ah h us) j=af h j:=by
 induction us with
 |nil=>intro h j _;rfl
 |cons u us ih=>
  intro h j hn;simp only [ah];rw [ih fun p hp=>hn p (by simp [hp])]
  simp [af,hn u (by simp)]
theorem Rm.heap' {N:Nm} {lens:List (Nat×Nat)} (hm:Rm b N h k lens) {h':Heap} (hh:∀j,j < b.k0\/(∃i,i < N.nx/\N.μ i=some j)->af h' j=af h j):Rm b N h' k lens:=
 { hm with
   obj:=fun i=>by
    by_cases hi:i < N.nx
    ·exact (hm.obj i).mono (fG.refl N) hi fun j hj=>hh j (.inr ⟨i,hi,hj⟩)
    ·rw [hm.dom i (Nat.le_of_not_lt hi)];trivial
   frame:=fun j h1 h2=>by rw [hh j (.inl h1)];exact hm.frame j h1 h2}
theorem U5 {N:Nm} {dN:List SD} {ds:List D} (h:aj (RA N) dN ds):RD N (JA dN) (ko ds):=by
 match dN,ds,h with
 |[],[],_=>exact ⟨[],rfl,trivial⟩
 |[d],[v],h=>exact h.1.fM
 |d::d'::ds,v::v'::vs,h=>exact ⟨_,rfl,h⟩
def KU (b:Bs) (ρ:List W) (μ:Nat->Option Nat) (σ:Sy) (call:uL) (head:wu) (kt:SD->Sy->Nat->Tree) (r:R) (d:D) (h':Heap) (k':Nat):Prop:=
 ∃(ws:List W) (μ':Nat->Option Nat) (σ':Sy) (sd:SD),σ'.env=σ.env/\fG (nm ρ μ σ) (nm (ρ++ws) μ' σ')/\Rm b (nm (ρ++ws) μ' σ') h' k' σ'.lens/\RD (nm (ρ++ws) μ' σ') sd d/\az call head (kt sd σ' (ρ++ws).length) (ρ++ws)=some r
theorem G8 {kt:SD->Sy->Nat->Tree} (hcall:iT F sig call) (hm:Rm b (nm ρ μ σ) h k σ.lens) {own:Bool} {f g:Nat} {dN:List SD} {ds:List D} (hds:aj (RD (nm ρ μ σ)) dN ds) (hd:az call head (qw sig own σ ρ.length f g dN kt) ρ=some r):
  ∃n0 d h' k',(∀n,n0<=n->iA (bQ F n) (cond own 1 0) f ds h k=some (d,h',k'))/\k<=k'/\KU b ρ μ σ call head kt r d h' k':=by
 unfold qw at hd;split at hd
 case h_2=>cases hd
 rename_i s hs;by_cases Dx:s.nat=true\/s.cd g≠f
 ·rw [if_pos Dx] at hd;cases hd
 rw [if_neg Dx] at hd;have hsn:¬s.nat=true:=fun e=>Dx (.inl e)
 have hcf:s.cd g=f:=Classical.byContradiction fun e=>Dx (.inr e)
 by_cases hkind:(if own=true then s.rs.all RS.Fv else s.rs.all RS.Ty)=true
 case neg=>rw [if_neg hkind] at hd;cases hd
 rw [if_pos hkind] at hd;split at hd
 case h_2=>cases hd
 rename_i bx hbx;split at hd
 case isFalse=>cases hd
 rename_i hnd;split at hd
 case h_2=>cases hd
 rename_i ax us hargs;split at hd
 case h_2=>cases hd
 rename_i bs hbs;have hlb:=sG hbx;obtain ⟨ai,hl⟩:=wK hds hbx;have hbn:=kX hnd;obtain ⟨ds1,pE,a1,a2,a3,ru,a4,a5⟩:=zg hm hl hds hargs;obtain ⟨xss,c1,c2⟩:=ou (N:=(nm ρ μ σ).upd us) a3 hl hbs;cases hr:zS (bg (σ.upd us) bx s.boxes (ρ.length+(s.rs.map RS.shape).length)) s.rs ρ.length with
 |mk QZ σ2=>
  simp only [hr,az,Option.bind_eq_some_iff] at hd;obtain ⟨Xh,h1,xss',h2,rr,h3,hd⟩:=hd;have e1:Xh=ru:=by have:jY ρ ax=some ru:=a4;rw [h1] at this;injection this
  have e2:xss'=xss:=by have:uz ρ bs=some xss:=c1;rw [h2] at this;injection this
  subst e1 e2;obtain ⟨s',g1,g2,g3,g4⟩:=hcall _ _ _ _ h3;rw [hs] at g1;injection g1 with g1;subst g1
  have hln:=fZ.nodup hm hl hbn;have hlk:∀j∈ai,j < k:=fun j hj=>by obtain ⟨i,_,q2,q3⟩:=fZ.mem hl j hj;exact hm.lt i j q2 q3
  obtain ⟨n,rs,h',k',f1,f2,f3,f4,f5,f6,f7⟩:=(hcf▸(g4.1 (by simpa using hsn)).1) (ah h pE) k ai ds1 (a5 g2) c2 hln hlk
  unfold sized at hd;split at hd
  case isFalse=>cases hd
  rename_i hsz;obtain ⟨ws,w1,w2⟩:=jL hd;rw [List.drop_zero] at w1;obtain ⟨yss,w3,w4,w5⟩:=qi w2;have Yi:yss=rr.2:=by
   apply List.ext_getElem?;intro q;by_cases hq:q < s.boxes.length
   ·rw [<-w4 q hq,Nat.zero_add]
   ·have q1:yss.length=s.boxes.length:=w3.len.symm;rw [List.getElem?_eq_none (by omega),List.getElem?_eq_none (by rw [hsz.2];omega)]
  subst Yi;have hmu:Rm b (nm (ρ++(ws++rr.2.map .l)) μ (σ.upd us)) (ah h pE) k (σ.upd us).lens:=a3.ext (ws++rr.2.map W.l);have hwl:(ρ++ws).length=ρ.length+(s.rs.map RS.shape).length:=by rw [List.length_append,w1.len]
  obtain ⟨v1,v2⟩:=Be (σ:=σ.upd us) (ρ:=ρ++(ws++rr.2.map W.l)) (pre:=ρ++ws) (xss:=rr.2) hmu hbn hlb hl (lX hbs) f2 f3 f4 (by rw [List.append_assoc])
  rw [hwl] at v1 v2;have hres:∀{h2:Heap} {R6:List D},Rm b (nm (ρ++(ws++rr.2.map .l)) μ (bg (σ.upd us) bx s.boxes (ρ.length+(s.rs.map RS.shape).length))) h2 k' (bg (σ.upd us) bx s.boxes (ρ.length+(s.rs.map RS.shape).length)).lens->bL (YP h2 k) s.rs rr.1 R6->(iH s.rs R6).Nodup->(∀j∈iH s.rs R6,k<=j/\j < k')->KU b ρ μ σ call head kt r (ko R6) h2 k':=by
   intro h2 R6 hm2 hrs ad4 hown;obtain ⟨μ',p1,p2,p3,p4,_⟩:=yX (ρ:=ρ++(ws++rr.2.map .l)) (k0:=k) (pre:=ρ) (post:=rr.2.map .l) hm.le hm2 w1 (by rw [List.append_assoc]) hrs ad4 (fun j hj=>⟨(hown j hj).2,fun i hi he=>by
    have e3:(bg (σ.upd us) bx s.boxes (ρ.length+(s.rs.map RS.shape).length)).nx=σ.nx:=nK.2;rw [e3] at hi;have:=hm.lt i j hi he
    have:=(hown j hj).1
    omega⟩) hr
   refine ⟨ws++rr.2.map .l,μ',σ2,JA QZ,p4.trans nK.1,((a2.trans (gu _ (ws++rr.2.map W.l))).trans v1).trans p1,p2,U5 p3,?_⟩;rw [List.append_assoc] at w5;rw [show (ρ++(ws++rr.2.map W.l)).length=ρ.length+(s.rs.map RS.shape).length+s.boxes.length by have q1:=w1.len;have q2:=hsz.2;simp only [List.length_append,List.length_map] at *;omega]
   exact w5
  cases own with
  |true=>
   simp only [if_true] at hkind;refine ⟨n,ko rs,h',k',fun m hmn=>?_,f2,hres v2 (Pg hkind f5) f6 fun j hj=>⟨FN f5 j hj,f7 j hj⟩⟩
   simp only [iA,Af,cond_true,a1,show ¬((1:Nat)=2) by decide,if_false,Option.bind_eq_bind,Option.bind_some]
   rw [CR hmn f ds1 (ah h pE) k _ f1];simp
  |false=>
   simp only [Bool.false_eq_true,if_false] at hkind;obtain ⟨yZ,d1,d2,_⟩:=qN (Ky f5);obtain ⟨R6,d3,d4⟩:=Iy d1;obtain ⟨q1,q2⟩:=K6 (h:=ah h' yZ) hkind f5 d4;refine ⟨n,ko R6,ah h' yZ,k',fun m hmn=>?_,f2,hres (v2.heap' fun j hj=>Bc fun p hp he=>?_) q1 (by rw [q2];exact List.nodup_nil) (by rw [q2];simp)⟩
   ·simp only [iA,Af,cond_false,a1,show ¬((0:Nat)=2) by decide,if_false,Option.bind_eq_bind,Option.bind_some]
    rw [CR hmn f ds1 (ah h pE) k _ f1];simp [d3]
   ·have hge:=d2 p hp;subst he;rcases hj with hj|⟨i,hi,hj⟩
    ·have:=hm.le;omega
    ·have e3:(bg (σ.upd us) bx s.boxes (ρ.length+(s.rs.map RS.shape).length)).nx=σ.nx:=nK.2;have hi':i < σ.nx:=by rw [<-e3];exact hi
     have:=hm.lt i p.1 hi' hj
     omega
theorem Bt {kt:SD->Sy->Nat->Tree} (hcall:iT F sig call) (hm:Rm b (nm ρ μ σ) h k σ.lens) {own:Bool} {f:Nat} {dN:List SD} {ds:List D} (hds:aj (RD (nm ρ μ σ)) dN ds) (hd:az call head (Ee sig own σ ρ.length f dN kt) ρ=some r):
  ∃n0 d h' k',(∀n,n0<=n->iA (bQ F n) (cond own 1 0) f ds h k=some (d,h',k'))/\k<=k'/\KU b ρ μ σ call head kt r d h' k':=
 G8 hcall hm hds hd
end
end Go.Ey
namespace Go.Ey
structure Rl (b:Bs) (ρ:List W) (μ:Nat->Option Nat) (σ:Sy) (s:St):Prop where
 env:∀t,RD (nm ρ μ σ) (lS σ.env t) (bS s.env t)
 mem:Rm b (nm ρ μ σ) s.heap s.nx σ.lens
 ai:∀q j,b.ai[q]?=some j->q < σ.nx/\μ q=some j
def BC (kn:Kn) (ρ:List W):Prop:=∀i j t,JQ kn i j=some t->aV ρ (match j with|0=> .v i|j+1=> .n i j)=some (.lit (.bool t))
theorem BC.ext {kn:Kn} {ρ:List W} (h:BC kn ρ) (ws:List W):BC kn (ρ++ws):=fun i j t hi=>dF (h i j t hi)
theorem BC.cons {kn:Kn} {ρ:List W} (h:BC kn ρ) {i j:Nat} {t:Bool} (hc:aV ρ (match j with|0=> .v i|j+1=> .n i j)=some (.lit (.bool t))):BC (((i,j),t)::kn) ρ:=by
 intro p q t' hq;simp only [JQ] at hq;split at hq
 ·rename_i e;obtain ⟨rfl,rfl⟩:=e;injection hq with hq;subst hq;exact hc
 ·exact h p q t' hq
section
variable {b:Bs} {ρ:List W} {μ:Nat->Option Nat} {σ:Sy} {s:St} {call:uL} {head:wu} {r:R} {F:nD} {sig:Nat->Option aN}
theorem pR {e:Env} (he:∀t,RD (nm ρ μ σ) (lS σ.env t) (bS e t)) (x:X):RD (nm ρ μ σ) (xS σ x) (iI e x):=by
 cases x with
 |t n=>exact he n
 |k v=>
  simp only [xS,iI];by_cases hs:scalar v=true
  ·rw [if_pos hs,if_pos hs];exact ⟨.lit v,rfl,.inl rfl⟩
  ·rw [if_neg hs,if_neg hs];by_cases hv:v=.slice none 0 0
   ·subst hv;exact ⟨[],0,rfl,rfl⟩
   ·split
    ·exact absurd rfl hv
    ·trivial
 |f n=>exact ⟨[],rfl,trivial⟩
theorem xD {e:Env} (he:∀t,RD (nm ρ μ σ) (lS σ.env t) (bS e t)):∀xs:List X,aj (RD (nm ρ μ σ)) (xs.map (xS σ)) (xs.map (iI e))
 |[]=>trivial
 |x::xs=>⟨pR he x,xD he xs⟩
theorem Q7 (σ:Sy) (dst:Option Nat) (sd:SD) (t:Nat):lS (σ.put dst sd).env t=if dst=some t then sd else lS σ.env t:=by
 cases dst with
 |none=>simp [Sy.put]
 |some q=>
  simp only [Sy.put,lS,Option.some.injEq]
theorem NV (e:Env) (dst:Option Nat) (d:D) (t:Nat):bS (dO e dst d) t=if dst=some t then d else bS e t:=by
 cases dst with
 |none=>simp [dO]
 |some q=>simp only [dO,bS,Option.some.injEq]
theorem FH (σ:Sy) (dst:Option Nat) (sd:SD):(σ.put dst sd).heap=σ.heap/\(σ.put dst sd).nx=σ.nx/\(σ.put dst sd).lens=σ.lens:=by cases dst<;>exact ⟨rfl,rfl,rfl⟩
theorem Jc (σ:Sy) (dst:Option Nat) (sd:SD):nm ρ μ (σ.put dst sd)=nm ρ μ σ:=by cases dst<;>rfl
theorem Rl.step (hR:Rl b ρ μ σ s) {ρ':List W} {μ':Nat->Option Nat} {σ':Sy} (he:σ'.env=σ.env) (hv:fG (nm ρ μ σ) (nm ρ' μ' σ')) {h':Heap} {k':Nat} (hm:Rm b (nm ρ' μ' σ') h' k' σ'.lens) {sd:SD} {d:D} (hr:RD (nm ρ' μ' σ') sd d) (dst:Option Nat):
  Rl b ρ' μ' (σ'.put dst sd) ⟨dO s.env dst d,h',k'⟩ where
 env t:=by
  rw [Jc,Q7,NV];by_cases h:dst=some t
  ·rw [if_pos h,if_pos h];exact hr
  ·rw [if_neg h,if_neg h,he];exact hv.rd (hR.env t)
 mem:=by rw [Jc,(FH σ' dst sd).2.2];exact hm
 ai q j hq:=by obtain ⟨h1,h2⟩:=hR.ai q j hq;rw [(FH σ' dst sd).2.1];exact ⟨Nat.lt_of_lt_of_le h1 hv.nx,by have:=hv.mu q h1;simp only [nm] at this;rw [this];exact h2⟩
theorem mK {N:Nm} (hρ:N.ρ=ρ) {kn:Kn} (hk:BC kn ρ) {sd:SD} {d:D} (hr:RD N sd d) {kt:Bool->Kn->Tree} (hd:az call head (nW kn sd kt) ρ=some r):
  ∃t mY,d=.c (.lit (.bool t))/\BC mY ρ/\az call head (kt t mY) ρ=some r:=by
 unfold nW at hd;split at hd
 ·rename_i t;obtain ⟨c,h1,h2⟩:=hr;simp only [aV,Option.some.injEq] at h1;subst h1;exact ⟨t,kn,CD.lit h2,hk,hd⟩
 ·rename_i i;obtain ⟨c,h1,h2⟩:=hr;rw [hρ] at h1;split at hd
  ·rename_i t hkn;have:=hk i 0 t hkn
   rw [h1] at this;injection this with this;subst this
   exact ⟨t,kn,CD.lit h2,hk,hd⟩
  ·simp only [az,h1,Option.bind_some] at hd;unfold tQ at hd;split at hd
   ·exact ⟨true,_,CD.lit h2,hk.cons (j:=0) h1,hd⟩
   ·exact ⟨false,_,CD.lit h2,hk.cons (j:=0) h1,hd⟩
   ·cases hd
 ·rename_i i j;obtain ⟨c,h1,h2⟩:=hr;rw [hρ] at h1;split at hd
  ·rename_i t hkn;have:=hk i (j+1) t hkn
   simp only at this;rw [h1] at this;injection this with this;subst this
   exact ⟨t,kn,CD.lit h2,hk,hd⟩
  ·simp only [az,h1,Option.bind_some] at hd;unfold tQ at hd;split at hd
   ·exact ⟨true,_,CD.lit h2,hk.cons (j:=j+1) h1,hd⟩
   ·exact ⟨false,_,CD.lit h2,hk.cons (j:=j+1) h1,hd⟩
   ·cases hd
 ·cases hd
theorem vO {e:Env} (he:∀t,RD (nm ρ μ σ) (lS σ.env t) (bS e t)) {kn:Kn} (hk:BC kn ρ) {g:Option (Nat×Bool)} {kt:Bool->Kn->Tree} (hd:az call head (wP σ kn g kt) ρ=some r):
  ∃w mY,wanted e g=some w/\BC mY ρ/\az call head (kt w mY) ρ=some r:=by
 unfold wP at hd;split at hd
 ·exact ⟨true,kn,rfl,hk,hd⟩
 ·rename_i t want;have hr:=he t;split at hd
  ·rename_i hs;rw [hs] at hr;obtain ⟨ds',h1,h2⟩:=hr;cases ds' with
   |nil=>exact ⟨false,kn,by simp [wanted,h1],hk,hd⟩
   |cons _ _=>exact h2.elim
  ·obtain ⟨w,mY,h1,h2,h3⟩:=mK rfl hk hr hd;exact ⟨w==want,mY,by simp [wanted,h1],h2,h3⟩
theorem qj {cl:Callee} {ld:bn} {i:aW} {is:List aW} {s:St} (h1:∀f own xs,i.ins≠.cu f own xs) (h2:∀x xs,i.ins≠.dQ x xs):
  dR cl ld (i::is) s=(wanted s.env i.guard).bind fun w=>if w then (gm cl (iI s.env) s.heap s.nx i.ins).bind fun p=>dR cl ld is ⟨dO s.env i.dst p.1,ah s.heap p.2,s.nx+1⟩ else dR cl ld is ⟨dO s.env i.dst fF,s.heap,s.nx⟩:=by
 simp only [dR,Option.bind_eq_bind]
def HV (b:Bs) (ρ:List W) (call:uL) (head:wu) (kt:Sy->Nat->Kn->Tree) (r:R) (s':St):Prop:=
 ∃(ws:List W) (μ':Nat->Option Nat) (σ':Sy) (mY:Kn),Rl b (ρ++ws) μ' σ' s'/\BC mY (ρ++ws)/\az call head (kt σ' (ρ++ws).length mY) (ρ++ws)=some r
theorem HV.pre {kt:Sy->Nat->Kn->Tree} {ws:List W} {s':St} (h:HV b (ρ++ws) call head kt r s'):HV b ρ call head kt r s':=by obtain ⟨ws',μ',σ',mY,h1,h2,h3⟩:=h;rw [List.append_assoc] at h1 h2 h3;exact ⟨ws++ws',μ',σ',mY,h1,h2,h3⟩
def qL:Ins->Bool
 |.pick _ _ _|.call _ _|.cu _ _ _|.dQ _ _|.eZ _ _|.Qq|.tK _ _ _ _ _ _ _|.tY _ _ _ _ _=>false
 |_=>true
theorem Eu {sig:Nat->Option aN} {kt:Sy->Nat->Kn->Tree} {i:aW} {is:List aW} {σ:Sy} {n:Nat} {kn:Kn} (hp:qL i.ins=true):
  jb sig kt (i::is) σ n kn=wP σ kn i.guard fun w kn=>match w with
   |false=>jb sig kt is (σ.put i.dst (.dB [])) n kn
   |true=>ay σ n (xS σ) (fun d σ n=>jb sig kt is (σ.put i.dst d) n kn) i.ins:=by
 simp only [jb];congr 1;funext w kn;cases w with
 |false=>rfl
 |true=>cases hi:i.ins<;>first|rfl|(rw [hi] at hp;cases hp)
theorem E9 {N:Nm}:RD N (.dB []) fF:=⟨[],rfl,trivial⟩
theorem yl {cl:Callee} {dx:X->D} {h:Heap} {k:Nat} {i:Ins} (hp:qL i=true):gm cl dx h k i=step dx h k i:=by cases i<;>first|rfl|cases hp
theorem jB (hcall:iT F sig call) {kt:Sy->Nat->Kn->Tree}:∀(is:List aW) (ρ:List W) (μ:Nat->Option Nat) (σ:Sy) (s:St) (kn:Kn),Rl b ρ μ σ s->BC kn ρ->az call head (jb sig kt is σ ρ.length kn) ρ=some r->
  ∃n0 s',(∀n,n0<=n->dR (fQ F n) (bQ F n) is s=some s')/\HV b ρ call head kt r s'
 |[],ρ,μ,σ,s,kn,hR,hk,hd=>⟨0,s,fun _ _=>rfl,[],μ,σ,kn,by rw [List.append_nil];exact hR,by rw [List.append_nil];exact hk,by rw [List.append_nil];exact hd⟩
 |i::is,ρ,μ,σ,s,kn,hR,hk,hd=>by
  have skip:∀{mY:Kn},BC mY ρ->wanted s.env i.guard=some false->az call head (jb sig kt is (σ.put i.dst (.dB [])) ρ.length mY) ρ=some r->
    ∃n0 s',(∀n,n0<=n->dR (fQ F n) (bQ F n) (i::is) s=some s')/\HV b ρ call head kt r s':=by
   intro mY hk' hw hd;have hR':=hR.step rfl (fG.refl _) hR.mem E9 i.dst;obtain ⟨n0,s',h1,h2⟩:=jB hcall is ρ μ _ _ mY hR' hk' hd;refine ⟨n0,s',fun n hn=>?_,h2⟩
   simp only [dR,hw,Option.bind_eq_bind,Option.bind_some];exact h1 n hn
  by_cases hp:qL i.ins=true
  ·rw [Eu hp] at hd;obtain ⟨w,mY,g1,g2,g3⟩:=vO hR.env hk hd;cases w with
   |false=>exact skip g2 g1 g3
   |true=>
    obtain ⟨d,us,h1,ws,μ',σ',sd,p1,p2,p3,p4,p5,_⟩:=QT hR.mem (pR hR.env) i.ins g3;have hR':=hR.step p1 p2 p3 p4 i.dst;obtain ⟨n0,s',q1,q2⟩:=jB hcall is (ρ++ws) μ' _ _ mY hR' (g2.ext ws) p5;refine ⟨n0,s',fun n hn=>?_,q2.pre⟩
    rw [qj (fun f own xs e=>by rw [e] at hp;cases hp) (fun x xs e=>by rw [e] at hp;cases hp),g1]
    simp only [Option.bind_some,if_true];rw [yl hp,h1];exact q1 n hn
  ·simp only [jb] at hd;obtain ⟨w,mY,g1,g2,g3⟩:=vO hR.env hk hd;cases w with
   |false=>exact skip g2 g1 g3
   |true=>
    cases hi:i.ins with
    |pick c x y=>
     rw [hi] at g3;obtain ⟨t,kn2,e1,e2,e3⟩:=mK rfl g2 (pR hR.env c) g3;have hR':=hR.step rfl (fG.refl _) (hR.mem.tick (Nat.le_succ _)) (pR hR.env (if t then x else y)) i.dst
     obtain ⟨n0,s',q1,q2⟩:=jB hcall is ρ μ _ _ kn2 hR' e2 e3;refine ⟨n0,s',fun n hn=>?_,q2⟩
     rw [qj (fun f own xs e=>by rw [hi] at e;cases e) (fun x xs e=>by rw [hi] at e;cases e),g1]
     simp only [Option.bind_some,if_true,hi,gm,lN,Bool.false_eq_true,if_false,bD,step,e1,asBool,Option.bind_eq_bind,aH,Option.map_some,ah];have:=q1 n hn
     cases t<;>exact this
    |call f xs=>
     rw [hi] at g3;obtain ⟨n0,vs,us,rs,h1,h2,ws,μ',σ',sd,p1,p2,p3,p4,p5,_⟩:=Bu hcall hR.mem (xD hR.env xs) g3;have hR':=hR.step p1 p2 p3 p4 i.dst;obtain ⟨n1,s',q1,q2⟩:=jB hcall is (ρ++ws) μ' _ _ mY hR' (g2.ext ws) p5;refine ⟨max n0 n1,s',fun n hn=>?_,q2.pre⟩
     rw [qj (fun f own xs e=>by rw [hi] at e;cases e) (fun x xs e=>by rw [hi] at e;cases e),g1]
     simp only [Option.bind_some,if_true,hi,gm,lN,Bool.false_eq_true,if_false,bD,h1,h2 n (by omega),Option.bind_eq_bind]
     exact q1 n (by omega)
    |cu f own xs=>
     rw [hi] at g3;by_cases ho2:own=2
     ·simp [ho2,az] at g3
     simp only [ho2,if_false] at g3;obtain ⟨n0,d,h',k',h1,h2,ws,μ',σ',sd,p1,p2,p3,p4,p5⟩:=Bt hcall hR.mem (xD hR.env xs) g3;have h1:∀n,n0<=n->iA (bQ F n) own f (xs.map (iI s.env)) s.heap s.nx=some (d,h',k'):=fun n hn=>by
      have:=h1 n hn
      by_cases ho:own=0
      ·subst ho;exact this
      ·have e9:(own !=0)=true:=by simp [ho]
       rw [e9,cond_true] at this;simpa [iA,Af,ho2,ho] using this
     have hR':=hR.step p1 p2 p3 p4 i.dst;obtain ⟨n1,s',q1,q2⟩:=jB hcall is (ρ++ws) μ' _ _ mY hR' (g2.ext ws) p5;refine ⟨max n0 n1,s',fun n hn=>?_,q2.pre⟩
     simp only [dR,g1,hi,Option.bind_eq_bind,Option.bind_some,if_true,h1 n (by omega)]
     exact q1 n (by omega)
    |dQ x xs=>
     rw [hi] at g3;simp only at g3;have hx:=pR hR.env x;split at g3
     case h_2=>cases g3
     rename_i f caps hxe;rw [hxe] at hx;obtain ⟨cs,hx1,hx2⟩:=hx;have Zu:∀{caps cs:List (Nat×Nat)},aj (fun p q:Nat×Nat=>p.1 < (nm ρ μ σ).nx/\(nm ρ μ σ).μ p.1=some q.1/\q.2=p.2) caps cs->aj (RD (nm ρ μ σ)) (caps.map fun p=>SD.loc p.1 p.2) (cs.map fun p=>D.loc p.1 p.2):=by
      intro caps;induction caps with
      |nil=>intro cs h;cases cs with|nil=>trivial|cons _ _=>exact h.elim
      |cons p caps ih=>intro cs h;cases cs with
       |nil=>exact h.elim
       |cons q cs=>exact ⟨⟨h.1.1,q.1,h.1.2.1,by simp only;rw [h.1.2.2]⟩,ih h.2⟩
     obtain ⟨n0,d,h',k',h1,h2,ws,μ',σ',sd,p1,p2,p3,p4,p5⟩:=Bt hcall hR.mem ((xD hR.env xs).append (Zu hx2)) g3;simp only [cond_false] at h1;have hR':=hR.step p1 p2 p3 p4 i.dst;obtain ⟨n1,s',q1,q2⟩:=jB hcall is (ρ++ws) μ' _ _ mY hR' (g2.ext ws) p5;refine ⟨max n0 n1,s',fun n hn=>?_,q2.pre⟩
     simp only [dR,g1,hi,hx1,Option.bind_eq_bind,Option.bind_some,if_true,h1 n (by omega)]
     exact q1 n (by omega)
    |eZ f xs=>rw [hi] at g3;simp [ay,az] at g3
    |Qq=>rw [hi] at g3;simp [ay,az] at g3
    |tK k n ag z ok x y=>rw [hi] at g3;simp [ay,az] at g3
    |tY k n x y z=>rw [hi] at g3;simp [ay,az] at g3
    |_=>rw [hi] at hp;exact absurd rfl hp
end
end Go.Ey
