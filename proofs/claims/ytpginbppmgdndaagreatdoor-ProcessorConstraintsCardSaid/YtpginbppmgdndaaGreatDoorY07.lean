/- A part of the proof. -/
import Derived.Test.YtpginbppmgdndaaGreatDoorY06
set_option linter.all false
namespace Go.Ey
section
variable {b:Bs} {N:Nm} {h:Heap} {k:Nat} {lens:List (Nat×Nat)}
def LentN (N:Nm) (bx lent:List Nat):Prop:=All2 (fun i j=>i < N.nx∧N.μ i=some j) bx lent
theorem LentN.get {bx lent:List Nat} (hl:LentN N bx lent) {q i:Nat} (hq:bx[q]?=some i):∃j,lent[q]?=some j∧i < N.nx∧N.μ i=some j:=All2.get q hl hq
theorem nodupB_iff:∀{l:List Nat},nodupB l=true→l.Nodup
 |[],_=>List.nodup_nil
 |i::l,h=>by
  simp only [nodupB,Bool.and_eq_true,Bool.not_eq_true',List.contains_eq_mem,decide_eq_false_iff_not] at h
  exact List.nodup_cons.2 ⟨h.1,nodupB_iff h.2⟩
theorem LentN.mem:∀{bx lent:List Nat},LentN N bx lent→∀j∈lent,∃i∈bx,i < N.nx∧N.μ i=some j
 |[],[],_,j,hj=>by simp at hj
 |i::bx,j'::lent,hl,j,hj=>by
  simp only [List.mem_cons] at hj
  rcases hj with rfl|hj
  ·exact ⟨i,by simp,hl.1⟩
  ·obtain ⟨i',h1,h2⟩:=LentN.mem hl.2 j hj
   exact ⟨i',by simp [h1],h2⟩
 |[],_::_,hl,_,_=>hl.elim
 |_::_,[],hl,_,_=>hl.elim
theorem LentN.nodup (hm:Rm b N h k lens):∀{bx lent:List Nat},LentN N bx lent→bx.Nodup→lent.Nodup
 |[],[],_,_=>List.nodup_nil
 |i::bx,j::lent,hl,hn=>by
  rw [List.nodup_cons] at hn ⊢
  refine ⟨fun hj=>?_,LentN.nodup hm hl.2 hn.2⟩
  obtain ⟨i',h1,h2,h3⟩:=LentN.mem hl.2 j hj
  have:=hm.inj i i' j hl.1.1 h2 hl.1.2 h3
  subst this
  exact hn.1 h1
 |[],_::_,hl,_=>hl.elim
 |_::_,[],hl,_=>hl.elim
theorem capL_ok {bx lent:List Nat} (hl:LentN N bx lent):∀{caps caps' cs:List (Nat×Nat)},capL bx caps caps'=true→All2 (fun p q:Nat×Nat=>p.1 < N.nx∧N.μ p.1=some q.1∧q.2=p.2) caps' cs→All2 (fun p q:Nat×Nat=>lent[p.1]?=some q.1∧q.2=p.2) caps cs
 |[],[],[],_,_=>trivial
 |(b,o)::r,(i,o')::r',(j,o2)::cs,hc,hr=>by
  simp only [capL,Bool.and_eq_true,beq_iff_eq] at hc
  obtain ⟨⟨hb,rfl⟩,hc⟩:=hc
  obtain ⟨j',g1,_,g2⟩:=hl.get hb
  obtain ⟨⟨_,g3,g4⟩,hr⟩:=hr
  simp only at g3 g4
  rw [g2] at g3;injection g3 with g3;subst g3
  exact ⟨⟨g1,g4⟩,capL_ok hl hc hr⟩
 |[],_::_,_,hc,_=>by simp [capL] at hc
 |_::_,[],_,hc,_=>by simp [capL] at hc
 |[],[],_::_,_,hr=>hr.elim
 |_::_,_::_,[],_,hr=>hr.elim
theorem findCap_ok:∀{caps caps' cs:List (Nat×Nat)},All2 (fun p q:Nat×Nat=>p.1 < N.nx∧N.μ p.1=some q.1∧q.2=p.2) caps' cs→∀{q i:Nat},findCap caps caps' q=some i→∃j,i < N.nx∧N.μ i=some j
 |[],_,_,_,q,i,h=>by simp [findCap] at h
 |_::_,[],_,_,q,i,h=>by simp [findCap] at h
 |(b,o)::r,(i',o')::r',(j,o2)::cs,hr,q,i,h=>by
  simp only [findCap] at h
  split at h
  ·simp only [Option.some.injEq] at h
   subst h
   exact ⟨j,hr.1.1,hr.1.2.1⟩
  ·exact findCap_ok hr.2 h
 |_::_,_::_,[],hr,_,_,_=>hr.elim
theorem argL_ok {bx lent:List Nat}:∀{ps:List PS} {sds:List SD} {ds:List D} {N:Nm} {h:Heap},Rm b N h k lens→LentN N bx lent→All2 (RD N) sds ds→∀{as:List TA} {us:List (Nat×SO)},argL lens N.hs bx ps sds=some (as,us)→
  ∃ds1 us',frzDs h ds=some (ds1,us')∧SEv N (N.upd us)∧Rm b (N.upd us) (updH h us') k lens∧∃las,taDs N.ρ as=some las∧(shapeA ps las→All3 (ArgR lent) ps las ds1)
 |[],[],[],N,h,hm,_,_,as,us,hf=>by
  simp only [argL,Option.some.injEq,Prod.mk.injEq] at hf
  obtain ⟨rfl,rfl⟩:=hf
  exact ⟨[],[],rfl,SEv.refl _,hm,[],rfl,fun _=>trivial⟩
 |[],_::_,_,_,_,_,_,_,_,_,hf=>by simp [argL] at hf
 |.one::_,[],_,_,_,_,_,_,_,_,hf=>by cases hf
 |.agg _::_,[],_,_,_,_,_,_,_,_,hf=>by cases hf
 |.ref _ _::_,[],_,_,_,_,_,_,_,_,hf=>by cases hf
 |.clo _ _::_,[],_,_,_,_,_,_,_,_,hf=>by cases hf
 |p::ps,sd::sds,[],_,_,_,_,hr,_,_,_=>hr.elim
 |[],[],_::_,_,_,_,_,hr,_,_,_=>hr.elim
 |p::ps,sd::sds,d::ds,N,h,hm,hl,hr,as,us,hf=>by
  have gen:(∀q o,p≠.ref q o)→(∀q o,p≠.clo q o)→(frzVS lens N.hs sd).bind (fun p=>(argL lens (updS N.hs p.2) bx ps sds).bind fun q=>some (TA.v p.1::q.1,p.2++q.2))=some (as,us)→
    ∃ds1 us',frzDs h (d::ds)=some (ds1,us')∧SEv N (N.upd us)∧Rm b (N.upd us) (updH h us') k lens∧∃las,taDs N.ρ as=some las∧(shapeA (p::ps) las→All3 (ArgR lent) (p::ps) las ds1):=by
   intro hp hp' hf
   simp only [Option.bind_eq_some_iff,Option.some.injEq,Prod.mk.injEq,Prod.exists] at hf
   obtain ⟨tv,u1,h1,as',u2,h2,rfl,rfl⟩:=hf
   obtain ⟨v,us1,k1,k2,k3,k4,k5⟩:=frzVS_ok hm hr.1 h1
   obtain ⟨d1,l1,l2⟩:=frzD_of k1
   obtain ⟨ds1,us2,q1,q2,q3,las,q4,q5⟩:=argL_ok (N:=N.upd u1) (h:=updH h us1) k4 hl (hr.2.mono fun _ _=>k3.rd) h2
   refine ⟨d1::ds1,us1++us2,by simp [frzDs,l1,q1],?_,?_,.v v::las,?_,fun hs=>?_⟩
   ·rw [Nm.upd_append];exact k3.trans q2
   ·rw [Nm.upd_append,updH_append'];exact q3
   ·have:taDs N.ρ as'=some las:=q4
    simp [taDs,taD,k2,this]
   ·cases p with
    |one=>cases v with
     |one c=>exact ⟨l2,q5 hs⟩
     |agg cs=>exact hs.elim
    |agg m=>cases v with
     |one c=>exact hs.elim
     |agg cs=>exact ⟨⟨hs.1,l2⟩,q5 hs.2⟩
    |ref q o=>exact absurd rfl (hp q o)
    |clo q o=>exact absurd rfl (hp' q o)
  cases p with
  |one=>exact gen (by simp) (by simp) (by simpa [argL] using hf)
  |agg m=>exact gen (by simp) (by simp) (by simpa [argL] using hf)
  |clo g caps=>
   cases sd with
   |clo g' caps'=>
    simp only [argL] at hf
    split at hf
    case isFalse=>cases hf
    rename_i hc
    obtain ⟨rfl,hc1⟩:=hc
    simp only [Option.bind_eq_some_iff,Option.some.injEq,Prod.mk.injEq,Prod.exists] at hf
    obtain ⟨as',u2,h2,rfl,rfl⟩:=hf
    obtain ⟨ds1,us2,q1,q2,q3,las,q4,q5⟩:=argL_ok hm hl hr.2 h2
    obtain ⟨cs,rfl,g2⟩:=hr.1
    refine ⟨.clo g' cs::ds1,us2,?_,q2,q3,.ref 0 0::las,?_,fun hs=>⟨⟨rfl,rfl,cs,rfl,capL_ok hl hc1 g2⟩,q5 hs.2.2⟩⟩
    ·simp [frzDs,frzD,frzA,updH,q1]
    ·simp [taDs,taD,q4]
   |_=>simp [argL] at hf
  |ref q off=>
   cases sd with
   |loc i o=>
    simp only [argL] at hf
    split at hf
    case isFalse=>cases hf
    rename_i hc
    obtain ⟨hc1,rfl⟩:=hc
    simp only [Option.bind_eq_some_iff,Option.some.injEq,Prod.mk.injEq,Prod.exists] at hf
    obtain ⟨as',u2,h2,rfl,rfl⟩:=hf
    obtain ⟨ds1,us2,q1,q2,q3,las,q4,q5⟩:=argL_ok hm hl hr.2 h2
    obtain ⟨hi,j,g1,g2⟩:=hr.1
    obtain ⟨j',g3,_,g4⟩:=hl.get hc1
    rw [g1] at g4;injection g4 with g4;subst g4
    refine ⟨d::ds1,us2,?_,q2,q3,.ref q o::las,?_,fun hs=>⟨⟨rfl,rfl,j,g3,g2⟩,q5 hs.2.2⟩⟩
    ·simp [frzDs,g2,frzD,frzA,updH,q1]
    ·simp [taDs,taD,q4]
   |_=>simp [argL] at hf
theorem boxesOf_ok (hm:Rm b N h k lens):∀{bx ms lent:List Nat} {bs:List SL},LentN N bx lent→boxesOf lens N.hs bx ms=some bs→∃xss,slDs N.ρ bs=some xss∧All3 (BoxR h) ms xss lent
 |[],[],[],bs,_,hf=>by
  simp only [boxesOf,Option.some.injEq] at hf
  subst hf
  exact ⟨[],rfl,trivial⟩
 |i::bx,m::ms,j::lent,bs,hl,hf=>by
  simp only [boxesOf] at hf
  split at hf
  case h_2=>cases hf
  rename_i ds hg
  simp only [Option.bind_eq_some_iff] at hf
  obtain ⟨as,h1,hf⟩:=hf
  split at hf
  case isFalse=>cases hf
  rename_i hc
  simp only [Option.bind_eq_some_iff,Option.some.injEq] at hf
  obtain ⟨bs',h2,rfl⟩:=hf
  obtain ⟨xss,h3,h4⟩:=boxesOf_ok hm hl.2 h2
  obtain ⟨j',ds',g1,g2,g3⟩:=hm.box hg
  rw [hl.1.2] at g1;injection g1 with g1;subst g1
  obtain ⟨xs,h5,h6⟩:=asAts_ok g3 h1
  refine ⟨xs::xss,by simp [slDs,mkSL_at hm,h5,h3],⟨by rw [atCs_len h5];exact hc,ds',g2,h6⟩,h4⟩
 |[],[],_::_,_,hl,_=>hl.elim
 |[],_::_,_,_,_,hf=>by simp [boxesOf] at hf
 |_::_,[],_,_,_,hf=>by simp [boxesOf] at hf
 |_::_,_::_,[],_,hl,_=>hl.elim
theorem findBs_len {ps:List PS} {sds:List SD}:∀{m q:Nat} {bx:List Nat},findBs ps sds q m=some bx→bx.length=m
 |0,_,bx,h=>by simp only [findBs,Option.some.injEq] at h;subst h;rfl
 |m+1,q,bx,h=>by
  simp only [findBs,Option.bind_eq_some_iff,Option.some.injEq] at h
  obtain ⟨i,_,is,h2,rfl⟩:=h
  simp [findBs_len h2]
theorem findB_ok:∀{ps:List PS} {sds:List SD} {ds:List D},All2 (RD N) sds ds→∀{q i:Nat},findB ps sds q=some i→∃j,i < N.nx∧N.μ i=some j
 |[],_,_,_,q,i,h=>by simp [findB] at h
 |.one::_,[],_,_,q,i,h=>by cases h
 |.agg _::_,[],_,_,q,i,h=>by cases h
 |.ref _ _::_,[],_,_,q,i,h=>by cases h
 |.clo _ _::_,[],_,_,q,i,h=>by cases h
 |p::ps,sd::sds,d::ds,hr,q,i,h=>by
  have rest:findB ps sds q=some i→∃j,i < N.nx∧N.μ i=some j:=findB_ok hr.2
  cases p with
  |one=>exact rest (by simpa [findB] using h)
  |agg m=>exact rest (by simpa [findB] using h)
  |ref q' o=>
   cases sd with
   |loc i' o'=>
    simp only [findB] at h
    split at h
    ·simp only [Option.some.injEq] at h
     subst h
     obtain ⟨hi,j,g1,_⟩:=hr.1
     exact ⟨j,hi,g1⟩
    ·exact rest h
   |_=>exact rest (by simpa [findB] using h)
  |clo g caps=>
   cases sd with
   |clo g' caps'=>
    simp only [findB] at h
    split at h
    ·rename_i i' hc
     simp only [Option.some.injEq] at h
     subst h
     obtain ⟨cs,_,g2⟩:=hr.1
     exact findCap_ok g2 hc
    ·exact rest h
   |_=>exact rest (by simpa [findB] using h)
 |_::_,_::_,[],hr,_,_,_=>hr.elim
theorem findBs_ok {ps:List PS} {sds:List SD} {ds:List D} (hr:All2 (RD N) sds ds):∀{m q:Nat} {bx:List Nat},findBs ps sds q m=some bx→∃lent,LentN N bx lent
 |0,_,bx,h=>by simp only [findBs,Option.some.injEq] at h;subst h;exact ⟨[],trivial⟩
 |m+1,q,bx,h=>by
  simp only [findBs,Option.bind_eq_some_iff,Option.some.injEq] at h
  obtain ⟨i,h1,is,h2,rfl⟩:=h
  obtain ⟨lent,h3⟩:=findBs_ok hr h2
  obtain ⟨j,h4,h5⟩:=findB_ok hr h1
  exact ⟨j::lent,⟨h4,h5⟩,h3⟩
theorem boxL_env:∀{bx ms:List Nat} {σ:Sy} {n:Nat},(boxL σ bx ms n).env=σ.env∧(boxL σ bx ms n).nx=σ.nx
 |[],_,_,_=>⟨rfl,rfl⟩
 |_::_,[],_,_=>⟨rfl,rfl⟩
 |i::bx,m::ms,σ,n=>by
  simp only [boxL]
  exact boxL_env
theorem boxL_get:∀{bx ms:List Nat} {σ:Sy} {n:Nat},bx.Nodup→bx.length=ms.length→(∀i,i ∉ bx→getO (boxL σ bx ms n).heap i=getO σ.heap i)∧(∀q i m,bx[q]?=some i→ms[q]?=some m→getO (boxL σ bx ms n).heap i=.box ((nths (n+q) 0 m).map .a))
 |[],[],σ,n,_,_=>⟨fun _ _=>rfl,by simp⟩
 |[],_::_,_,_,_,hl=>by simp at hl
 |_::_,[],_,_,_,hl=>by simp at hl
 |i::bx,m::ms,σ,n,hn,hl=>by
  rw [List.nodup_cons] at hn
  simp only [boxL]
  obtain ⟨h1,h2⟩:=boxL_get (σ:={ σ with heap:=(i,.box ((nths n 0 m).map .a))::σ.heap,lens:=(n,m)::σ.lens}) (n:=n+1) hn.2 (by simpa using hl)
  refine ⟨fun p hp=>?_,fun q p m' hq hm'=>?_⟩
  ·simp only [List.mem_cons,not_or] at hp
   rw [h1 p hp.2,getO_cons,if_neg (fun e=>hp.1 e.symm)]
  ·cases q with
   |zero=>
    simp only [List.getElem?_cons_zero,Option.some.injEq] at hq hm'
    subst hq hm'
    rw [h1 i hn.1,getO_cons,if_pos rfl]
    rfl
   |succ q=>
    simp only [List.getElem?_cons_succ] at hq hm'
    rw [h2 q p m' hq hm',show n+1+q=n+(q+1) by omega]
theorem boxL_lens:∀{bx ms:List Nat} {σ:Sy} {n:Nat} {i m:Nat},(i,m)∈(boxL σ bx ms n).lens→(i,m)∈σ.lens∨∃q,i=n+q∧ms[q]?=some m
 |[],_,_,_,_,_,h=> .inl h
 |_::_,[],_,_,_,_,h=> .inl h
 |_::bx,m'::ms,σ,n,i,m,h=>by
  simp only [boxL] at h
  rcases boxL_lens h with h|⟨q,h1,h2⟩
  ·simp only [List.mem_cons,Prod.mk.injEq] at h
   rcases h with ⟨rfl,rfl⟩|h
   ·exact .inr ⟨0,rfl,rfl⟩
   ·exact .inl h
  ·exact .inr ⟨q+1,by omega,by simpa using h2⟩
theorem getW_mid (pre:List W) (xss:List (List C)):∀(q:Nat) (xs:List C),xss[q]?=some xs→∀post,getW (pre++xss.map .l++post) (pre.length+q)=some (.l xs):=by
 induction xss generalizing pre with
 |nil=>intro q xs h;simp at h
 |cons y xss ih=>
  intro q xs h post
  cases q with
  |zero=>
   simp only [List.getElem?_cons_zero,Option.some.injEq] at h
   subst h
   rw [List.map_cons,List.append_assoc]
   exact getW_len pre _ _
  |succ q=>
   simp only [List.getElem?_cons_succ] at h
   have:=ih (pre++[.l y]) q xs h post
   rw [List.length_append] at this
   rw [List.map_cons]
   rw [show pre.length+(q+1)=pre.length+[W.l y].length+q by simp;omega]
   rw [show pre++W.l y::xss.map .l++post=pre++[.l y]++xss.map .l++post by simp]
   exact this
theorem All3.get {α β γ:Type} {R:α→β→γ→Prop}:∀{as:List α} {bs:List β} {cs:List γ} {q:Nat} {c:γ},All3 R as bs cs→cs[q]?=some c→∃a b,as[q]?=some a∧bs[q]?=some b∧R a b c
 |[],[],[],q,c,_,h=>by simp at h
 |a::as,b::bs,c'::cs,q,c,h1,h=>by
  cases q with
  |zero=>simp only [List.getElem?_cons_zero,Option.some.injEq] at h;subst h;exact ⟨a,b,rfl,rfl,h1.1⟩
  |succ q=>
   simp only [List.getElem?_cons_succ] at h
   obtain ⟨a',b',q1,q2,q3⟩:=All3.get h1.2 h
   exact ⟨a',b',by simpa using q1,by simpa using q2,q3⟩
 |[],_::_,_,_,_,h1,_=>h1.elim
 |[],[],_::_,_,_,h1,_=>h1.elim
 |_::_,[],_,_,_,h1,_=>h1.elim
 |_::_,_::_,[],_,_,h1,_=>h1.elim
theorem CD.rd {c:C} {d:D} (h:CD c d) {x:At} (hx:atC N.ρ x=some c):RDc N (.a x) d:=⟨c,hx,h⟩
theorem nths_CD {i:Nat} {xs:List C} (hw:getW N.ρ i=some (.l xs)):∀{m off:Nat} {ys:List C} {ds:List D},xs.drop off=ys→ys.length=m→All2 CD ys ds→All2 (RDc N) ((nths i off m).map .a) ds
 |0,off,[],[],_,_,_=>trivial
 |m+1,off,y::ys,d::ds,hx,hl,hr=>by
  have hlt:off < xs.length:=by
   rcases Nat.lt_or_ge off xs.length with h|h
   ·exact h
   ·rw [List.drop_of_length_le h] at hx;cases hx
  rw [List.drop_eq_getElem_cons hlt] at hx
  injection hx with hx1 hx2
  exact ⟨hr.1.rd (by simp only [atC,hw,nthC_drop xs off hlt,hx1]),nths_CD hw hx2 (by simpa using hl) hr.2⟩
 |0,_,_::_,_,_,hl,_=>by simp at hl
 |_+1,_,[],_,_,hl,_=>by simp at hl
 |0,_,[],_::_,_,_,hr=>hr.elim
 |_+1,_,_::_,[],_,_,hr=>hr.elim
end
section
variable {b:Bs} {ρ:List W} {μ:Nat→Option Nat} {σ:Sy} {h:Heap} {k:Nat} {call:FnT} {head:HdT} {kt:SD→Sy→Nat→Tree} {r:R} {F:Tab} {sig:Nat→Option Sig}
theorem lent_after (hm:Rm b (nm ρ μ σ) h k σ.lens) {bx ms lent:List Nat} (hn:bx.Nodup) (hlen:bx.length=ms.length) (hl:LentN (nm ρ μ σ) bx lent) (hbox:∀i∈bx,∃ds,getO σ.heap i=.box ds) {h':Heap} {k':Nat} (hk:k≤k')
  (hfr:∀j,j < k→j ∉ lent→getH h' j=getH h j) {pre:List W} {xss:List (List C)} (hbs:All3 (BoxR h') ms xss lent) (hρ:ρ=pre++xss.map .l):
  SEv (nm ρ μ σ) (nm ρ μ (boxL σ bx ms pre.length))∧Rm b (nm ρ μ (boxL σ bx ms pre.length)) h' k' (boxL σ bx ms pre.length).lens:=by
 obtain ⟨g1,g2⟩:=boxL_get (σ:=σ) (n:=pre.length) hn hlen
 obtain ⟨e1,e2⟩:=boxL_env (bx:=bx) (ms:=ms) (σ:=σ) (n:=pre.length)
 have hv:SEv (nm ρ μ σ) (nm ρ μ (boxL σ bx ms pre.length)):=by
  refine ⟨fun _ _ h=>h,fun _ _ h=>h,?_,fun _ _=>rfl,fun i y' esz ety fr' al' hi hg=>?_⟩
  ·show σ.nx≤(boxL σ bx ms pre.length).nx;rw [e2];exact Nat.le_refl _
  ·by_cases hib:i∈bx
   ·obtain ⟨q,hq⟩:=List.getElem?_of_mem hib
    obtain ⟨m,hq'⟩:∃m,ms[q]?=some m:=by
     have:=(List.getElem?_eq_some_iff.1 hq).1
     exact ⟨ms[q]'(by omega),List.getElem?_eq_getElem (by omega)⟩
    have hg':getO (boxL σ bx ms pre.length).heap i=.arr y' esz ety fr' al':=hg
    rw [g2 q i m hq hq'] at hg'
    cases hg'
   ·have hg':getO (boxL σ bx ms pre.length).heap i=.arr y' esz ety fr' al':=hg
    rw [g1 i hib] at hg'
    exact ⟨y',fr',al',hg',id,fun cs _ hc=>⟨cs,hc,fun _=>rfl⟩⟩
 have hwq:∀q xs,xss[q]?=some xs→getW ρ (pre.length+q)=some (.l xs):=fun q xs hq=>by
  have:=getW_mid pre xss q xs hq []
  rw [List.append_nil] at this
  rw [hρ];exact this
 refine ⟨hv,fun i=>?_,fun i i' j h1 h2 h3 h4=>?_,fun i j h1 h2=>?_,fun i hi=>?_,fun i j h1 h2=>?_,fun j h1 h2=>?_,Nat.le_trans hm.le hk,fun i m hi=>?_⟩
 ·by_cases hib:i∈bx
  ·obtain ⟨q,hq⟩:=List.getElem?_of_mem hib
   obtain ⟨j,hj1,hj2,hj3⟩:=hl.get hq
   obtain ⟨m,xs,hb1,hb2,hb3,ds,hb4,hb5⟩:=hbs.get hj1
   show ROb _ h' i (getO (boxL σ bx ms pre.length).heap i)
   rw [g2 q i m hq hb1]
   subst hb3
   exact ⟨j,ds,hj3,hb4,nths_CD (N:=nm ρ μ (boxL σ bx ms pre.length)) (hwq q xs hb2) (List.drop_zero ..) rfl hb5⟩
  ·show ROb _ h' i (getO (boxL σ bx ms pre.length).heap i)
   rw [g1 i hib]
   by_cases hi:i < σ.nx
   ·refine ROb.mono hv hi (fun j hj=>hfr j (hm.lt i j hi hj) fun hjl=>?_) (hm.obj i)
    obtain ⟨i',h1,h2,h3⟩:=LentN.mem hl j hjl
    exact hib (hm.inj i i' j hi h2 hj h3▸h1)
   ·rw [show getO σ.heap i=.dead from hm.dom i (Nat.le_of_not_lt hi)];trivial
 ·rw [show (nm ρ μ (boxL σ bx ms pre.length)).nx=σ.nx from e2] at h1 h2
  exact hm.inj i i' j h1 h2 h3 h4
 ·rw [show (nm ρ μ (boxL σ bx ms pre.length)).nx=σ.nx from e2] at h1
  exact Nat.lt_of_lt_of_le (hm.lt i j h1 h2) hk
 ·rw [show (nm ρ μ (boxL σ bx ms pre.length)).nx=σ.nx from e2] at hi
  show getO (boxL σ bx ms pre.length).heap i=.dead
  rw [g1 i fun hib=>?_]
  ·exact hm.dom i hi
  ·obtain ⟨ds,hds⟩:=hbox i hib
   have:=hm.dom i hi
   rw [show getO (nm ρ μ σ).hs i=_ from hds] at this
   cases this
 ·rw [show (nm ρ μ (boxL σ bx ms pre.length)).nx=σ.nx from e2] at h1
  exact hm.base i j h1 h2
 ·rw [hfr j (Nat.lt_of_lt_of_le h1 hm.le) fun hjl=>?_]
  ·exact hm.frame j h1 h2
  ·obtain ⟨i',q1,q2,q3⟩:=LentN.mem hl j hjl
   rcases hm.base i' j q2 q3 with q|q
   ·omega
   ·exact h2 q
 ·rcases boxL_lens hi with hi|⟨q,rfl,hq⟩
  ·exact hm.lens i m hi
  ·obtain ⟨xs,hxs⟩:∃xs,xss[q]?=some xs:=by
    have:=(List.getElem?_eq_some_iff.1 hq).1
    have hl2:=hbs.len1
    exact ⟨xss[q]'(by omega),List.getElem?_eq_getElem (by omega)⟩
   obtain ⟨j,hj⟩:∃j,lent[q]?=some j:=by
    have:=(List.getElem?_eq_some_iff.1 hq).1
    have hl2:=hbs.len1
    exact ⟨lent[q]'(by omega),List.getElem?_eq_getElem (by omega)⟩
   obtain ⟨m',xs',hb1,hb2,hb3,_⟩:=hbs.get hj
   rw [hq] at hb1;injection hb1 with hb1
   rw [hxs] at hb2;injection hb2 with hb2
   subst hb1 hb2
   exact ⟨xs,hwq q xs hxs,hb3⟩
end
end Go.Ey

namespace Go.Ey
section
variable {b:Bs} {ρ:List W} {μ:Nat→Option Nat} {σ:Sy} {h:Heap} {k:Nat} {call:FnT} {head:HdT} {r:R} {F:Tab} {sig:Nat→Option Sig}
theorem boxesOf_box {lens:List (Nat×Nat)} {hs:List (Nat×SO)}:∀{bx ms:List Nat} {bs:List SL},boxesOf lens hs bx ms=some bs→∀i∈bx,∃ds,getO hs i=.box ds
 |[],_,_,_,i,hi=>by simp at hi
 |_::_,[],_,hf,_,_=>by simp [boxesOf] at hf
 |i::bx,m::ms,bs,hf,p,hp=>by
  simp only [boxesOf] at hf
  split at hf
  case h_2=>cases hf
  rename_i ds hg
  simp only [Option.bind_eq_some_iff] at hf
  obtain ⟨as,h1,hf⟩:=hf
  split at hf
  case isFalse=>cases hf
  simp only [Option.bind_eq_some_iff] at hf
  obtain ⟨bs',h2,_⟩:=hf
  simp only [List.mem_cons] at hp
  rcases hp with rfl|hp
  ·exact ⟨ds,hg⟩
  ·exact boxesOf_box h2 p hp
theorem ownC_ge {h:Heap} {k0:Nat} {ck:CK} {c:C} {d:D} (hr:CkR h k0 ck c d):∀j∈ownC ck d,k0≤j:=by
 intro j hj
 cases ck with
 |own esz ety fr al=>
  obtain ⟨cs,n,_,_,⟨j',fz,rfl,h3,_⟩|⟨rfl,_⟩⟩:=hr
  ·simp [ownC] at hj;subst hj;exact h3
  ·simp [ownC] at hj
 |_=>simp [ownC] at hj
theorem ownCs_ge {h:Heap} {k0:Nat}:∀{ks:List CK} {cs:List C} {ds:List D},All3 (CkR h k0) ks cs ds→∀j∈ownCs ks ds,k0≤j
 |[],[],[],_,j,hj=>by simp [ownCs] at hj
 |_::_,_::_,_::_,hr,j,hj=>by
  simp only [ownCs,List.mem_append] at hj
  exact hj.elim (ownC_ge hr.1 j) (ownCs_ge hr.2 j)
 |[],_::_,_,h1,_,_=>h1.elim
 |[],[],_::_,h1,_,_=>h1.elim
 |_::_,[],_,h1,_,_=>h1.elim
 |_::_,_::_,[],h1,_,_=>h1.elim
theorem ownRs_ge {h:Heap} {k0:Nat}:∀{ks:List RS} {vs:List V} {ds:List D},All3 (RsR h k0) ks vs ds→∀j∈ownRs ks ds,k0≤j
 |[],[],[],_,j,hj=>by simp [ownRs] at hj
 |rs::_,v::_,d::_,hr,j,hj=>by
  simp only [ownRs,List.mem_append] at hj
  rcases hj with hj|hj
  ·cases rs with
   |one k=>cases v with
    |one c=>exact ownC_ge hr.1 j hj
    |agg cs=>exact hr.1.elim
   |agg ks=>cases v with
    |one c=>exact hr.1.elim
    |agg cs=>obtain ⟨ds,rfl,h2⟩:=hr.1;exact ownCs_ge h2 j hj
  ·exact ownRs_ge hr.2 j hj
 |[],_::_,_,h1,_,_=>h1.elim
 |[],[],_::_,h1,_,_=>h1.elim
 |_::_,[],_,h1,_,_=>h1.elim
 |_::_,_::_,[],h1,_,_=>h1.elim
theorem rsS_notC {h:Heap} {k0:Nat}:∀{ks:List RS} {vs:List V} {ds:List D},ks.all RS.notC=true→All3 (RsR h k0) ks vs ds→All3 (RsS h k0) ks vs ds:=by
 have one:∀{ck:CK} {c:C} {d:D},ck.notC=true→CkR h k0 ck c d→CkS h k0 ck c d:=by
  intro ck c d hk hr
  cases ck<;>first|exact hr|cases hk
 have many:∀{ks:List CK} {cs:List C} {ds:List D},ks.all CK.notC=true→All3 (CkR h k0) ks cs ds→All3 (CkS h k0) ks cs ds:=by
  intro ks
  induction ks with
  |nil=>intro cs ds _ hr;cases cs<;>cases ds<;>first|trivial|exact hr.elim
  |cons ck ks ih=>
   intro cs ds hk hr
   cases cs with
   |nil=>exact hr.elim
   |cons c cs=>cases ds with
    |nil=>exact hr.elim
    |cons d ds=>
     simp only [List.all_cons,Bool.and_eq_true] at hk
     exact ⟨one hk.1 hr.1,ih hk.2 hr.2⟩
 intro ks
 induction ks with
 |nil=>intro vs ds _ hr;cases vs<;>cases ds<;>first|trivial|exact hr.elim
 |cons rs ks ih=>
  intro vs ds hk hr
  cases vs with
  |nil=>exact hr.elim
  |cons v vs=>cases ds with
   |nil=>exact hr.elim
   |cons d ds=>
    simp only [List.all_cons,Bool.and_eq_true] at hk
    refine ⟨?_,ih hk.2 hr.2⟩
    cases rs with
    |one k=>cases v with
     |one c=>exact one hk.1 hr.1
     |agg cs=>exact hr.1.elim
    |agg cks=>cases v with
     |one c=>exact hr.1.elim
     |agg cs=>obtain ⟨es,h1,h2⟩:=hr.1;exact ⟨es,h1,many hk.1 h2⟩
theorem rsS_isC {h h0:Heap} {k0:Nat}:∀{ks:List RS} {vs:List V} {ds ds1:List D},ks.all RS.isC=true→All3 (RsR h0 k0) ks vs ds→All2 VD vs ds1→All3 (RsS h k0) ks vs ds1∧ownRs ks ds1=[]:=by
 have many:∀{ks:List CK} {cs:List C} {ds ds1:List D},ks.all CK.isC=true→All3 (CkR h0 k0) ks cs ds→All2 CD cs ds1→All3 (CkS h k0) ks cs ds1∧ownCs ks ds1=[]:=by
  intro ks
  induction ks with
  |nil=>
   intro cs ds ds1 _ hr hv
   cases cs with
   |nil=>cases ds1 with
    |nil=>exact ⟨trivial,rfl⟩
    |cons _ _=>exact hv.elim
   |cons _ _=>cases ds<;>exact hr.elim
  |cons ck ks ih=>
   intro cs ds ds1 hk hr hv
   cases cs with
   |nil=>exact hr.elim
   |cons c cs=>cases ds with
    |nil=>exact hr.elim
    |cons d ds=>cases ds1 with
     |nil=>exact hv.elim
     |cons d1 ds1=>
      simp only [List.all_cons,Bool.and_eq_true] at hk
      obtain ⟨h1,h2⟩:=ih hk.2 hr.2 hv.2
      cases ck with
      |c=>exact ⟨⟨hv.1,h1⟩,by simp [ownCs,ownC,h2]⟩
      |_=>cases hk.1
 intro ks
 induction ks with
 |nil=>
  intro vs ds ds1 _ hr hv
  cases vs with
  |nil=>cases ds1 with
   |nil=>exact ⟨trivial,rfl⟩
   |cons _ _=>exact hv.elim
  |cons _ _=>cases ds<;>exact hr.elim
 |cons rs ks ih=>
  intro vs ds ds1 hk hr hv
  cases vs with
  |nil=>exact hr.elim
  |cons v vs=>cases ds with
   |nil=>exact hr.elim
   |cons d ds=>cases ds1 with
    |nil=>exact hv.elim
    |cons d1 ds1=>
     simp only [List.all_cons,Bool.and_eq_true] at hk
     obtain ⟨h1,h2⟩:=ih hk.2 hr.2 hv.2
     cases rs with
     |one ck=>cases v with
      |one c=>cases ck with
       |c=>exact ⟨⟨hv.1,h1⟩,by simp [ownRs,ownR,ownC,h2]⟩
       |_=>cases hk.1
      |agg cs=>exact hr.1.elim
     |agg cks=>cases v with
      |one c=>exact hr.1.elim
      |agg cs=>
       obtain ⟨es,_,h3⟩:=hr.1
       obtain ⟨es1,h4,h5⟩:=hv.1
       obtain ⟨h6,h7⟩:=many hk.1 h3 h5
       subst h4
       exact ⟨⟨⟨es1,rfl,h6⟩,h1⟩,by simp [ownRs,ownR,h7,h2]⟩
theorem updH_other {us:List (Nat×Obj)}:∀{h:Heap} {j:Nat},(∀p∈us,p.1≠j)→getH (updH h us) j=getH h j:=by
 induction us with
 |nil=>intro h j _;rfl
 |cons u us ih=>
  intro h j hn
  simp only [updH]
  rw [ih fun p hp=>hn p (by simp [hp])]
  simp [getH,hn u (by simp)]
theorem Rm.heap' {N:Nm} {lens:List (Nat×Nat)} (hm:Rm b N h k lens) {h':Heap} (hh:∀j,j < b.k0∨(∃i,i < N.nx∧N.μ i=some j)→getH h' j=getH h j):Rm b N h' k lens:=
 { hm with
   obj:=fun i=>by
    by_cases hi:i < N.nx
    ·exact (hm.obj i).mono (SEv.refl N) hi fun j hj=>hh j (.inr ⟨i,hi,hj⟩)
    ·rw [hm.dom i (Nat.le_of_not_lt hi)];trivial
   frame:=fun j h1 h2=>by rw [hh j (.inl h1)];exact hm.frame j h1 h2}
theorem tup_D {N:Nm} {sds:List SD} {ds:List D} (h:All2 (RA N) sds ds):RD N (tupS sds) (tupD ds):=by
 match sds,ds,h with
 |[],[],_=>exact ⟨[],rfl,trivial⟩
 |[d],[v],h=>exact h.1.toD
 |d::d'::ds,v::v'::vs,h=>exact ⟨_,rfl,h⟩
def PostL (b:Bs) (ρ:List W) (μ:Nat→Option Nat) (σ:Sy) (call:FnT) (head:HdT) (kt:SD→Sy→Nat→Tree) (r:R) (d:D) (h':Heap) (k':Nat):Prop:=
 ∃(ws:List W) (μ':Nat→Option Nat) (σ':Sy) (sd:SD),σ'.env=σ.env∧SEv (nm ρ μ σ) (nm (ρ++ws) μ' σ')∧Rm b (nm (ρ++ws) μ' σ') h' k' σ'.lens∧RD (nm (ρ++ws) μ' σ') sd d∧denT call head (kt sd σ' (ρ++ws).length) (ρ++ws)=some r
theorem symLendK_ok {kt:SD→Sy→Nat→Tree} (hcall:CallsOK F sig call) (hm:Rm b (nm ρ μ σ) h k σ.lens) {own:Bool} {f g:Nat} {sds:List SD} {ds:List D} (hds:All2 (RD (nm ρ μ σ)) sds ds) (hd:denT call head (symLendK sig own σ ρ.length f g sds kt) ρ=some r):
  ∃n0 d h' k',(∀n,n0≤n→lendC (evBody F n) own f ds h k=some (d,h',k'))∧k≤k'∧PostL b ρ μ σ call head kt r d h' k':=by
 unfold symLendK at hd
 split at hd
 case h_2=>cases hd
 rename_i s hs
 by_cases hsn':s.nat=true∨s.cd g≠f
 ·rw [if_pos hsn'] at hd;cases hd
 rw [if_neg hsn'] at hd
 have hsn:¬s.nat=true:=fun e=>hsn' (.inl e)
 have hcf:s.cd g=f:=Classical.byContradiction fun e=>hsn' (.inr e)
 by_cases hkind:(if own=true then s.rs.all RS.notC else s.rs.all RS.isC)=true
 case neg=>rw [if_neg hkind] at hd;cases hd
 rw [if_pos hkind] at hd
 split at hd
 case h_2=>cases hd
 rename_i bx hbx
 split at hd
 case isFalse=>cases hd
 rename_i hnd
 split at hd
 case h_2=>cases hd
 rename_i as us hargs
 split at hd
 case h_2=>cases hd
 rename_i bs hbs
 have hlb:=findBs_len hbx
 obtain ⟨lent,hl⟩:=findBs_ok hds hbx
 have hbn:=nodupB_iff hnd
 obtain ⟨ds1,us1,a1,a2,a3,las,a4,a5⟩:=argL_ok hm hl hds hargs
 obtain ⟨xss,c1,c2⟩:=boxesOf_ok (N:=(nm ρ μ σ).upd us) a3 hl hbs
 cases hr:resL (boxL (σ.upd us) bx s.boxes (ρ.length+(s.rs.map RS.shape).length)) s.rs ρ.length with
 |mk sres σ2=>
  simp only [hr,denT,Option.bind_eq_some_iff] at hd
  obtain ⟨las',h1,xss',h2,rr,h3,hd⟩:=hd
  have e1:las'=las:=by have:taDs ρ as=some las:=a4;rw [h1] at this;injection this
  have e2:xss'=xss:=by have:slDs ρ bs=some xss:=c1;rw [h2] at this;injection this
  subst e1 e2
  obtain ⟨s',g1,g2,g3,g4⟩:=hcall _ _ _ _ h3
  rw [hs] at g1;injection g1 with g1;subst g1
  have hln:=LentN.nodup hm hl hbn
  have hlk:∀j∈lent,j < k:=fun j hj=>by
   obtain ⟨i,_,q2,q3⟩:=LentN.mem hl j hj
   exact hm.lt i j q2 q3
  obtain ⟨n,rs,h',k',f1,f2,f3,f4,f5,f6,f7⟩:=(hcf▸(g4.1 (by simpa using hsn)).1) (updH h us1) k lent ds1 (a5 g2) c2 hln hlk
  unfold sized at hd
  split at hd
  case isFalse=>cases hd
  rename_i hsz
  obtain ⟨ws,w1,w2⟩:=bindVs_some hd
  rw [List.drop_zero] at w1
  obtain ⟨yss,w3,w4,w5⟩:=bindBs_some w2
  have hyss:yss=rr.2:=by
   apply List.ext_getElem?
   intro q
   by_cases hq:q < s.boxes.length
   ·rw [←w4 q hq,Nat.zero_add]
   ·have q1:yss.length=s.boxes.length:=w3.len.symm
    rw [List.getElem?_eq_none (by omega),List.getElem?_eq_none (by rw [hsz.2];omega)]
  subst hyss
  have hmu:Rm b (nm (ρ++(ws++rr.2.map .l)) μ (σ.upd us)) (updH h us1) k (σ.upd us).lens:=a3.ext (ws++rr.2.map W.l)
  have hwl:(ρ++ws).length=ρ.length+(s.rs.map RS.shape).length:=by rw [List.length_append,w1.len]
  obtain ⟨v1,v2⟩:=lent_after (σ:=σ.upd us) (ρ:=ρ++(ws++rr.2.map W.l)) (pre:=ρ++ws) (xss:=rr.2) hmu hbn hlb hl (boxesOf_box hbs) f2 f3 f4 (by rw [List.append_assoc])
  rw [hwl] at v1 v2
  have hres:∀{h2:Heap} {rs2:List D},Rm b (nm (ρ++(ws++rr.2.map .l)) μ (boxL (σ.upd us) bx s.boxes (ρ.length+(s.rs.map RS.shape).length))) h2 k' (boxL (σ.upd us) bx s.boxes (ρ.length+(s.rs.map RS.shape).length)).lens→All3 (RsS h2 k) s.rs rr.1 rs2→(ownRs s.rs rs2).Nodup→(∀j∈ownRs s.rs rs2,k≤j∧j < k')→PostL b ρ μ σ call head kt r (tupD rs2) h2 k':=by
   intro h2 rs2 hm2 hrs hnd2 hown
   obtain ⟨μ',p1,p2,p3,p4,_⟩:=resL_ok (ρ:=ρ++(ws++rr.2.map .l)) (k0:=k) (pre:=ρ) (post:=rr.2.map .l) hm.le hm2 w1 (by rw [List.append_assoc]) hrs hnd2 (fun j hj=>⟨(hown j hj).2,fun i hi he=>by
    have e3:(boxL (σ.upd us) bx s.boxes (ρ.length+(s.rs.map RS.shape).length)).nx=σ.nx:=boxL_env.2
    rw [e3] at hi
    have:=hm.lt i j hi he
    have:=(hown j hj).1
    omega⟩) hr
   refine ⟨ws++rr.2.map .l,μ',σ2,tupS sres,p4.trans boxL_env.1,((a2.trans (sev_ext _ (ws++rr.2.map W.l))).trans v1).trans p1,p2,tup_D p3,?_⟩
   rw [List.append_assoc] at w5
   rw [show (ρ++(ws++rr.2.map W.l)).length=ρ.length+(s.rs.map RS.shape).length+s.boxes.length by have q1:=w1.len;have q2:=hsz.2;simp only [List.length_append,List.length_map] at *;omega]
   exact w5
  cases own with
  |true=>
   simp only [if_true] at hkind
   refine ⟨n,tupD rs,h',k',fun m hmn=>?_,f2,hres v2 (rsS_notC hkind f5) f6 fun j hj=>⟨ownRs_ge f5 j hj,f7 j hj⟩⟩
   simp only [lendC,a1,Option.bind_eq_bind,Option.bind_some]
   rw [evBody_le hmn f ds1 (updH h us1) k _ f1]
   simp
  |false=>
   simp only [Bool.false_eq_true,if_false] at hkind
   obtain ⟨us2,d1,d2,_⟩:=frzVs_res (rsAll f5)
   obtain ⟨rs2,d3,d4⟩:=frzDs_of d1
   obtain ⟨q1,q2⟩:=rsS_isC (h:=updH h' us2) hkind f5 d4
   refine ⟨n,tupD rs2,updH h' us2,k',fun m hmn=>?_,f2,hres (v2.heap' fun j hj=>updH_other fun p hp he=>?_) q1 (by rw [q2];exact List.nodup_nil) (by rw [q2];simp)⟩
   ·simp only [lendC,a1,Option.bind_eq_bind,Option.bind_some]
    rw [evBody_le hmn f ds1 (updH h us1) k _ f1]
    simp [d3]
   ·have hge:=d2 p hp
    subst he
    rcases hj with hj|⟨i,hi,hj⟩
    ·have:=hm.le;omega
    ·have e3:(boxL (σ.upd us) bx s.boxes (ρ.length+(s.rs.map RS.shape).length)).nx=σ.nx:=boxL_env.2
     have hi':i < σ.nx:=by rw [←e3];exact hi
     have:=hm.lt i p.1 hi' hj
     omega
theorem symLend_ok {kt:SD→Sy→Nat→Tree} (hcall:CallsOK F sig call) (hm:Rm b (nm ρ μ σ) h k σ.lens) {own:Bool} {f:Nat} {sds:List SD} {ds:List D} (hds:All2 (RD (nm ρ μ σ)) sds ds) (hd:denT call head (symLend sig own σ ρ.length f sds kt) ρ=some r):
  ∃n0 d h' k',(∀n,n0≤n→lendC (evBody F n) own f ds h k=some (d,h',k'))∧k≤k'∧PostL b ρ μ σ call head kt r d h' k':=
 symLendK_ok hcall hm hds hd
end
end Go.Ey

namespace Go.Ey
structure Rl (b:Bs) (ρ:List W) (μ:Nat→Option Nat) (σ:Sy) (s:St):Prop where
 env:∀t,RD (nm ρ μ σ) (getS σ.env t) (getE s.env t)
 mem:Rm b (nm ρ μ σ) s.heap s.nx σ.lens
 lent:∀q j,b.lent[q]?=some j→q < σ.nx∧μ q=some j
def Kno (kn:Kn) (ρ:List W):Prop:=∀i j t,knOf kn i j=some t→atC ρ (match j with|0=> .v i|j+1=> .n i j)=some (.lit (.bool t))
theorem Kno.ext {kn:Kn} {ρ:List W} (h:Kno kn ρ) (ws:List W):Kno kn (ρ++ws):=fun i j t hi=>atC_append (h i j t hi)
theorem Kno.cons {kn:Kn} {ρ:List W} (h:Kno kn ρ) {i j:Nat} {t:Bool} (hc:atC ρ (match j with|0=> .v i|j+1=> .n i j)=some (.lit (.bool t))):Kno (((i,j),t)::kn) ρ:=by
 intro p q t' hq
 simp only [knOf] at hq
 split at hq
 ·rename_i e
  obtain ⟨rfl,rfl⟩:=e
  injection hq with hq
  subst hq
  exact hc
 ·exact h p q t' hq
section
variable {b:Bs} {ρ:List W} {μ:Nat→Option Nat} {σ:Sy} {s:St} {call:FnT} {head:HdT} {r:R} {F:Tab} {sig:Nat→Option Sig}
theorem xS_ok {e:Env} (he:∀t,RD (nm ρ μ σ) (getS σ.env t) (getE e t)) (x:X):RD (nm ρ μ σ) (xS σ x) (evX e x):=by
 cases x with
 |t n=>exact he n
 |k v=>
  simp only [xS,evX]
  by_cases hs:scalar v=true
  ·rw [if_pos hs,if_pos hs];exact ⟨.lit v,rfl,.inl rfl⟩
  ·rw [if_neg hs,if_neg hs]
   by_cases hv:v=.slice none 0 0
   ·subst hv;exact ⟨[],0,rfl,rfl⟩
   ·split
    ·exact absurd rfl hv
    ·trivial
 |f n=>exact ⟨[],rfl,trivial⟩
theorem xSs_ok {e:Env} (he:∀t,RD (nm ρ μ σ) (getS σ.env t) (getE e t)):∀xs:List X,All2 (RD (nm ρ μ σ)) (xs.map (xS σ)) (xs.map (evX e))
 |[]=>trivial
 |x::xs=>⟨xS_ok he x,xSs_ok he xs⟩
theorem getS_put (σ:Sy) (dst:Option Nat) (sd:SD) (t:Nat):getS (σ.put dst sd).env t=if dst=some t then sd else getS σ.env t:=by
 cases dst with
 |none=>simp [Sy.put]
 |some q=>
  simp only [Sy.put,getS,Option.some.injEq]
theorem getE_put (e:Env) (dst:Option Nat) (d:D) (t:Nat):getE (putE e dst d) t=if dst=some t then d else getE e t:=by
 cases dst with
 |none=>simp [putE]
 |some q=>simp only [putE,getE,Option.some.injEq]
theorem put_heap (σ:Sy) (dst:Option Nat) (sd:SD):(σ.put dst sd).heap=σ.heap∧(σ.put dst sd).nx=σ.nx∧(σ.put dst sd).lens=σ.lens:=by
 cases dst<;>exact ⟨rfl,rfl,rfl⟩
theorem nm_put (σ:Sy) (dst:Option Nat) (sd:SD):nm ρ μ (σ.put dst sd)=nm ρ μ σ:=by
 cases dst<;>rfl
theorem Rl.step (hR:Rl b ρ μ σ s) {ρ':List W} {μ':Nat→Option Nat} {σ':Sy} (he:σ'.env=σ.env) (hv:SEv (nm ρ μ σ) (nm ρ' μ' σ')) {h':Heap} {k':Nat} (hm:Rm b (nm ρ' μ' σ') h' k' σ'.lens) {sd:SD} {d:D} (hr:RD (nm ρ' μ' σ') sd d) (dst:Option Nat):
  Rl b ρ' μ' (σ'.put dst sd) ⟨putE s.env dst d,h',k'⟩ where
 env t:=by
  rw [nm_put,getS_put,getE_put]
  by_cases h:dst=some t
  ·rw [if_pos h,if_pos h];exact hr
  ·rw [if_neg h,if_neg h,he];exact hv.rd (hR.env t)
 mem:=by
  rw [nm_put,(put_heap σ' dst sd).2.2];exact hm
 lent q j hq:=by
  obtain ⟨h1,h2⟩:=hR.lent q j hq
  rw [(put_heap σ' dst sd).2.1]
  exact ⟨Nat.lt_of_lt_of_le h1 hv.nx,by have:=hv.mu q h1;simp only [nm] at this;rw [this];exact h2⟩
theorem withBool_ok {N:Nm} (hρ:N.ρ=ρ) {kn:Kn} (hk:Kno kn ρ) {sd:SD} {d:D} (hr:RD N sd d) {kt:Bool→Kn→Tree} (hd:denT call head (withBool kn sd kt) ρ=some r):
  ∃t kn',d=.c (.lit (.bool t))∧Kno kn' ρ∧denT call head (kt t kn') ρ=some r:=by
 unfold withBool at hd
 split at hd
 ·rename_i t
  obtain ⟨c,h1,h2⟩:=hr
  simp only [atC,Option.some.injEq] at h1
  subst h1
  exact ⟨t,kn,CD.lit h2,hk,hd⟩
 ·rename_i i
  obtain ⟨c,h1,h2⟩:=hr
  rw [hρ] at h1
  split at hd
  ·rename_i t hkn
   have:=hk i 0 t hkn
   rw [h1] at this;injection this with this;subst this
   exact ⟨t,kn,CD.lit h2,hk,hd⟩
  ·simp only [denT,h1,Option.bind_some] at hd
   unfold iteC at hd
   split at hd
   ·exact ⟨true,_,CD.lit h2,hk.cons (j:=0) h1,hd⟩
   ·exact ⟨false,_,CD.lit h2,hk.cons (j:=0) h1,hd⟩
   ·cases hd
 ·rename_i i j
  obtain ⟨c,h1,h2⟩:=hr
  rw [hρ] at h1
  split at hd
  ·rename_i t hkn
   have:=hk i (j+1) t hkn
   simp only at this
   rw [h1] at this;injection this with this;subst this
   exact ⟨t,kn,CD.lit h2,hk,hd⟩
  ·simp only [denT,h1,Option.bind_some] at hd
   unfold iteC at hd
   split at hd
   ·exact ⟨true,_,CD.lit h2,hk.cons (j:=j+1) h1,hd⟩
   ·exact ⟨false,_,CD.lit h2,hk.cons (j:=j+1) h1,hd⟩
   ·cases hd
 ·cases hd
theorem guard_ok {e:Env} (he:∀t,RD (nm ρ μ σ) (getS σ.env t) (getE e t)) {kn:Kn} (hk:Kno kn ρ) {g:Option (Nat×Bool)} {kt:Bool→Kn→Tree} (hd:denT call head (guardS σ kn g kt) ρ=some r):
  ∃w kn',wanted e g=some w∧Kno kn' ρ∧denT call head (kt w kn') ρ=some r:=by
 unfold guardS at hd
 split at hd
 ·exact ⟨true,kn,rfl,hk,hd⟩
 ·rename_i t want
  have hr:=he t
  split at hd
  ·rename_i hs
   rw [hs] at hr
   obtain ⟨ds',h1,h2⟩:=hr
   cases ds' with
   |nil=>exact ⟨false,kn,by simp [wanted,h1],hk,hd⟩
   |cons _ _=>exact h2.elim
  ·obtain ⟨w,kn',h1,h2,h3⟩:=withBool_ok rfl hk hr hd
   exact ⟨w==want,kn',by simp [wanted,h1],h2,h3⟩
theorem evSeq_other {cl:Callee} {ld:Lender} {i:Inst} {is:List Inst} {s:St} (h1:∀f own xs,i.ins≠.callS f own xs) (h2:∀x xs,i.ins≠.callV x xs):
  evSeq cl ld (i::is) s=(wanted s.env i.guard).bind fun w=>if w then (stepS cl (evX s.env) s.heap s.nx i.ins).bind fun p=>evSeq cl ld is ⟨putE s.env i.dst p.1,updH s.heap p.2,s.nx+1⟩ else evSeq cl ld is ⟨putE s.env i.dst undefD,s.heap,s.nx⟩:=by
 simp only [evSeq,Option.bind_eq_bind]
def PostS (b:Bs) (ρ:List W) (call:FnT) (head:HdT) (kt:Sy→Nat→Kn→Tree) (r:R) (s':St):Prop:=
 ∃(ws:List W) (μ':Nat→Option Nat) (σ':Sy) (kn':Kn),Rl b (ρ++ws) μ' σ' s'∧Kno kn' (ρ++ws)∧denT call head (kt σ' (ρ++ws).length kn') (ρ++ws)=some r
theorem PostS.pre {kt:Sy→Nat→Kn→Tree} {ws:List W} {s':St} (h:PostS b (ρ++ws) call head kt r s'):PostS b ρ call head kt r s':=by
 obtain ⟨ws',μ',σ',kn',h1,h2,h3⟩:=h
 rw [List.append_assoc] at h1 h2 h3
 exact ⟨ws++ws',μ',σ',kn',h1,h2,h3⟩
def isPlain:Ins→Bool
 |.pick _ _ _|.call _ _|.callS _ _ _|.callV _ _|.callL _ _|.mkm|.mget _ _ _ _ _ _ _|.mput _ _ _ _ _=>false
 |_=>true
theorem symSeq_plain {sig:Nat→Option Sig} {kt:Sy→Nat→Kn→Tree} {i:Inst} {is:List Inst} {σ:Sy} {n:Nat} {kn:Kn} (hp:isPlain i.ins=true):
  symSeq sig kt (i::is) σ n kn=guardS σ kn i.guard fun w kn=>match w with
   |false=>symSeq sig kt is (σ.put i.dst (.tup [])) n kn
   |true=>symIns σ n (xS σ) (fun d σ n=>symSeq sig kt is (σ.put i.dst d) n kn) i.ins:=by
 simp only [symSeq]
 congr 1
 funext w kn
 cases w with
 |false=>rfl
 |true=>cases hi:i.ins<;>first|rfl|(rw [hi] at hp;cases hp)
theorem undef_rd {N:Nm}:RD N (.tup []) undefD:=⟨[],rfl,trivial⟩
theorem stepS_plain {cl:Callee} {dx:X→D} {h:Heap} {k:Nat} {i:Ins} (hp:isPlain i=true):stepS cl dx h k i=step dx h k i:=by
 cases i<;>first|rfl|cases hp
theorem symSeq_ok (hcall:CallsOK F sig call) {kt:Sy→Nat→Kn→Tree}:∀(is:List Inst) (ρ:List W) (μ:Nat→Option Nat) (σ:Sy) (s:St) (kn:Kn),Rl b ρ μ σ s→Kno kn ρ→denT call head (symSeq sig kt is σ ρ.length kn) ρ=some r→
  ∃n0 s',(∀n,n0≤n→evSeq (evFn F n) (evBody F n) is s=some s')∧PostS b ρ call head kt r s'
 |[],ρ,μ,σ,s,kn,hR,hk,hd=>⟨0,s,fun _ _=>rfl,[],μ,σ,kn,by rw [List.append_nil];exact hR,by rw [List.append_nil];exact hk,by rw [List.append_nil];exact hd⟩
 |i::is,ρ,μ,σ,s,kn,hR,hk,hd=>by
  have skip:∀{kn':Kn},Kno kn' ρ→wanted s.env i.guard=some false→denT call head (symSeq sig kt is (σ.put i.dst (.tup [])) ρ.length kn') ρ=some r→
    ∃n0 s',(∀n,n0≤n→evSeq (evFn F n) (evBody F n) (i::is) s=some s')∧PostS b ρ call head kt r s':=by
   intro kn' hk' hw hd
   have hR':=hR.step rfl (SEv.refl _) hR.mem undef_rd i.dst
   obtain ⟨n0,s',h1,h2⟩:=symSeq_ok hcall is ρ μ _ _ kn' hR' hk' hd
   refine ⟨n0,s',fun n hn=>?_,h2⟩
   simp only [evSeq,hw,Option.bind_eq_bind,Option.bind_some]
   exact h1 n hn
  by_cases hp:isPlain i.ins=true
  ·rw [symSeq_plain hp] at hd
   obtain ⟨w,kn',g1,g2,g3⟩:=guard_ok hR.env hk hd
   cases w with
   |false=>exact skip g2 g1 g3
   |true=>
    obtain ⟨d,us,h1,ws,μ',σ',sd,p1,p2,p3,p4,p5,_⟩:=sym_ok hR.mem (xS_ok hR.env) i.ins g3
    have hR':=hR.step p1 p2 p3 p4 i.dst
    obtain ⟨n0,s',q1,q2⟩:=symSeq_ok hcall is (ρ++ws) μ' _ _ kn' hR' (g2.ext ws) p5
    refine ⟨n0,s',fun n hn=>?_,q2.pre⟩
    rw [evSeq_other (fun f own xs e=>by rw [e] at hp;cases hp) (fun x xs e=>by rw [e] at hp;cases hp),g1]
    simp only [Option.bind_some,if_true]
    rw [stepS_plain hp,h1]
    exact q1 n hn
  ·simp only [symSeq] at hd
   obtain ⟨w,kn',g1,g2,g3⟩:=guard_ok hR.env hk hd
   cases w with
   |false=>exact skip g2 g1 g3
   |true=>
    cases hi:i.ins with
    |pick c x y=>
     rw [hi] at g3
     obtain ⟨t,kn2,e1,e2,e3⟩:=withBool_ok rfl g2 (xS_ok hR.env c) g3
     have hR':=hR.step rfl (SEv.refl _) (hR.mem.tick (Nat.le_succ _)) (xS_ok hR.env (if t then x else y)) i.dst
     obtain ⟨n0,s',q1,q2⟩:=symSeq_ok hcall is ρ μ _ _ kn2 hR' e2 e3
     refine ⟨n0,s',fun n hn=>?_,q2⟩
     rw [evSeq_other (fun f own xs e=>by rw [hi] at e;cases e) (fun x xs e=>by rw [hi] at e;cases e),g1]
     simp only [Option.bind_some,if_true,hi,stepS,isMapI,Bool.false_eq_true,if_false,stepC,step,e1,asBool,Option.bind_eq_bind,pureD,Option.map_some,updH]
     have:=q1 n hn
     cases t<;>exact this
    |call f xs=>
     rw [hi] at g3
     obtain ⟨n0,vs,us,rs,h1,h2,ws,μ',σ',sd,p1,p2,p3,p4,p5,_⟩:=symCall_ok hcall hR.mem (xSs_ok hR.env xs) g3
     have hR':=hR.step p1 p2 p3 p4 i.dst
     obtain ⟨n1,s',q1,q2⟩:=symSeq_ok hcall is (ρ++ws) μ' _ _ kn' hR' (g2.ext ws) p5
     refine ⟨max n0 n1,s',fun n hn=>?_,q2.pre⟩
     rw [evSeq_other (fun f own xs e=>by rw [hi] at e;cases e) (fun x xs e=>by rw [hi] at e;cases e),g1]
     simp only [Option.bind_some,if_true,hi,stepS,isMapI,Bool.false_eq_true,if_false,stepC,h1,h2 n (by omega),Option.bind_eq_bind]
     exact q1 n (by omega)
    |callS f own xs=>
     rw [hi] at g3
     obtain ⟨n0,d,h',k',h1,h2,ws,μ',σ',sd,p1,p2,p3,p4,p5⟩:=symLend_ok hcall hR.mem (xSs_ok hR.env xs) g3
     have hR':=hR.step p1 p2 p3 p4 i.dst
     obtain ⟨n1,s',q1,q2⟩:=symSeq_ok hcall is (ρ++ws) μ' _ _ kn' hR' (g2.ext ws) p5
     refine ⟨max n0 n1,s',fun n hn=>?_,q2.pre⟩
     simp only [evSeq,g1,hi,Option.bind_eq_bind,Option.bind_some,if_true,h1 n (by omega)]
     exact q1 n (by omega)
    |callV x xs=>
     rw [hi] at g3
     simp only at g3
     have hx:=xS_ok hR.env x
     split at g3
     case h_2=>cases g3
     rename_i f caps hxe
     rw [hxe] at hx
     obtain ⟨cs,hx1,hx2⟩:=hx
     have hcaps:∀{caps cs:List (Nat×Nat)},All2 (fun p q:Nat×Nat=>p.1 < (nm ρ μ σ).nx∧(nm ρ μ σ).μ p.1=some q.1∧q.2=p.2) caps cs→All2 (RD (nm ρ μ σ)) (caps.map fun p=>SD.loc p.1 p.2) (cs.map fun p=>D.loc p.1 p.2):=by
      intro caps
      induction caps with
      |nil=>intro cs h;cases cs with|nil=>trivial|cons _ _=>exact h.elim
      |cons p caps ih=>intro cs h;cases cs with
       |nil=>exact h.elim
       |cons q cs=>exact ⟨⟨h.1.1,q.1,h.1.2.1,by simp only;rw [h.1.2.2]⟩,ih h.2⟩
     obtain ⟨n0,d,h',k',h1,h2,ws,μ',σ',sd,p1,p2,p3,p4,p5⟩:=symLend_ok hcall hR.mem ((xSs_ok hR.env xs).append (hcaps hx2)) g3
     have hR':=hR.step p1 p2 p3 p4 i.dst
     obtain ⟨n1,s',q1,q2⟩:=symSeq_ok hcall is (ρ++ws) μ' _ _ kn' hR' (g2.ext ws) p5
     refine ⟨max n0 n1,s',fun n hn=>?_,q2.pre⟩
     simp only [evSeq,g1,hi,hx1,Option.bind_eq_bind,Option.bind_some,if_true,h1 n (by omega)]
     exact q1 n (by omega)
    |callL f xs=>rw [hi] at g3;simp [symIns,denT] at g3
    |mkm=>rw [hi] at g3;simp [symIns,denT] at g3
    |mget k n ag z ok x y=>rw [hi] at g3;simp [symIns,denT] at g3
    |mput k n x y z=>rw [hi] at g3;simp [symIns,denT] at g3
    |_=>rw [hi] at hp;exact absurd rfl hp
end
end Go.Ey
