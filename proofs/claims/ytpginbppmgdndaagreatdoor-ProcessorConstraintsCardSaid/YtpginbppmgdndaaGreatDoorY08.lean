/- A part of the proof. -/
import Derived.Test.YtpginbppmgdndaaGreatDoorY07
set_option linter.all false
namespace Go.Ey
section
variable {b:Bs} {N:Nm} {h:Heap} {k:Nat} {lens:List (Nat×Nat)}
theorem take_notin {l:List Nat} (hn:l.Nodup) {q j:Nat} (hq:l[q]?=some j):(l.take q).contains j=false:=by
 rw [List.contains_eq_mem,decide_eq_false_iff_not]
 intro hm
 obtain ⟨p,hp⟩:=List.getElem?_of_mem hm
 rw [List.getElem?_take] at hp
 split at hp
 ·rename_i hlt
  obtain ⟨a1,a2⟩:=List.getElem?_eq_some_iff.1 hq
  obtain ⟨b1,b2⟩:=List.getElem?_eq_some_iff.1 hp
  have:=(List.getElem_inj hn).1 (a2.trans b2.symm)
  omega
 ·cases hp
theorem take_next {l:List Nat} {q j:Nat} (hq:l[q]?=some j):l.take q++[j]=l.take (q+1):=by
 rw [List.take_add_one,hq];rfl
theorem lentArgs_of {bx lent:List Nat} (hn:lent.Nodup):∀{ps:List PS} {sds:List SD} {ds:List D} {N:Nm} {h:Heap} {q:Nat},Rm b N h k lens→LentN N bx lent→All2 (RD N) sds ds→refsUp q ps=some lent.length→q≤lent.length→∀{as:List TA} {us:List (Nat×SO)},argL lens N.hs bx ps sds=some (as,us)→
  ∃lv us',lentArgs h ds (lent.take q)=some (lv,lent,us')∧SEv N (N.upd us)∧Rm b (N.upd us) (updH h us') k lens∧Ids N (us'.map (·.1)) (sds.flatMap touchLS)∧Ids N (ds.flatMap touchL) (sds.flatMap touchLS)∧∃las,taDs N.ρ as=some las∧(shapeA ps las→All3 (ArgR (List.range lent.length)) ps las (lv.map LV.toD))
 |[],[],[],N,h,q,hm,_,_,hq,hle,as,us,hf=>by
  simp only [argL,Option.some.injEq,Prod.mk.injEq] at hf
  obtain ⟨rfl,rfl⟩:=hf
  simp only [refsUp,Option.some.injEq] at hq
  subst hq
  exact ⟨[],[],by simp [lentArgs],SEv.refl _,hm,Ids.nil,Ids.nil,[],rfl,fun _=>trivial⟩
 |[],_::_,_,_,_,_,_,_,_,_,_,_,_,hf=>by simp [argL] at hf
 |.one::_,[],_,_,_,_,_,_,_,_,_,_,_,hf=>by cases hf
 |.agg _::_,[],_,_,_,_,_,_,_,_,_,_,_,hf=>by cases hf
 |.ref _ _::_,[],_,_,_,_,_,_,_,_,_,_,_,hf=>by cases hf
 |.clo _ _::_,[],_,_,_,_,_,_,_,_,_,_,_,hf=>by cases hf
 |p::ps,sd::sds,[],_,_,_,_,_,hr,_,_,_,_,_=>hr.elim
 |[],[],_::_,_,_,_,_,_,hr,_,_,_,_,_=>hr.elim
 |p::ps,sd::sds,d::ds,N,h,q,hm,hl,hr,hq,hle,as,us,hf=>by
  have gen:(∀q o,p≠.ref q o)→(∀q o,p≠.clo q o)→refsUp q ps=some lent.length→(frzVS lens N.hs sd).bind (fun p=>(argL lens (updS N.hs p.2) bx ps sds).bind fun q=>some (TA.v p.1::q.1,p.2++q.2))=some (as,us)→
    ∃lv us',lentArgs h (d::ds) (lent.take q)=some (lv,lent,us')∧SEv N (N.upd us)∧Rm b (N.upd us) (updH h us') k lens∧Ids N (us'.map (·.1)) ((sd::sds).flatMap touchLS)∧Ids N ((d::ds).flatMap touchL) ((sd::sds).flatMap touchLS)∧∃las,taDs N.ρ as=some las∧(shapeA (p::ps) las→All3 (ArgR (List.range lent.length)) (p::ps) las (lv.map LV.toD)):=by
   intro hp hp' hq hf
   simp only [Option.bind_eq_some_iff,Option.some.injEq,Prod.mk.injEq,Prod.exists] at hf
   obtain ⟨tv,u1,h1,as',u2,h2,rfl,rfl⟩:=hf
   obtain ⟨v,us1,k1,k2,k3,k4,k5⟩:=frzVS_ok hm hr.1 h1
   obtain ⟨lv,us2,q1,q2,q3,q6,q7,las,q4,q5⟩:=lentArgs_of hn (N:=N.upd u1) (h:=updH h us1) k4 hl (hr.2.mono fun _ _=>k3.rd) hq hle h2
   have hds:touchLS sd=idsS sd:=by cases sd<;>first|rfl|(simp [frzVS,frzS] at h1)
   have hd:∀id off,d≠.loc id off:=by rintro id off rfl;simp [frzV,frz] at k1
   have hdl:touchL d=frzIds d:=by cases d<;>first|rfl|exact absurd rfl (hd _ _)
   have hla:lentArgs h (d::ds) (lent.take q)=(frzV h d).bind fun p=>(lentArgs (updH h p.2) ds (lent.take q)).bind fun r=>some (LV.v p.1::r.1,r.2.1,p.2++r.2.2):=by
    cases d<;>first|rfl|exact absurd rfl (hd _ _)
   refine ⟨.v v::lv,us1++us2,?_,?_,?_,?_,?_,.v v::las,?_,fun hs=>?_⟩
   ·rw [hla,k1];simp [q1]
   ·rw [Nm.upd_append];exact k3.trans q2
   ·rw [Nm.upd_append,updH_append'];exact q3
   ·rw [List.map_append,List.flatMap_cons,hds]
    exact Ids.append k5 q6
   ·rw [List.flatMap_cons,List.flatMap_cons,hds,hdl]
    exact Ids.append (ids_ok hr.1 (okS_frzVS h1)) q7
   ·have:taDs N.ρ as'=some las:=q4
    simp [taDs,taD,k2,this]
   ·cases p with
    |one=>cases v with
     |one c=>exact ⟨show CD c (.c c) from .inl rfl,q5 hs⟩
     |agg cs=>exact hs.elim
    |agg m=>cases v with
     |one c=>exact hs.elim
     |agg cs=>exact ⟨⟨hs.1,VD.refl _⟩,q5 hs.2⟩
    |ref q o=>exact absurd rfl (hp q o)
    |clo q o=>exact absurd rfl (hp' q o)
  cases p with
  |one=>exact gen (by simp) (by simp) (by simpa [refsUp] using hq) (by simpa [argL] using hf)
  |agg m=>exact gen (by simp) (by simp) (by simpa [refsUp] using hq) (by simpa [argL] using hf)
  |clo g cs=>simp [refsUp] at hq
  |ref q' off=>
   simp only [refsUp] at hq
   split at hq
   case isFalse=>cases hq
   rename_i hqq
   obtain ⟨rfl,rfl⟩:=hqq
   cases sd with
   |loc i o=>
    simp only [argL] at hf
    split at hf
    case isFalse=>cases hf
    rename_i hc
    obtain ⟨hc1,rfl⟩:=hc
    simp only [Option.bind_eq_some_iff,Option.some.injEq,Prod.mk.injEq,Prod.exists] at hf
    obtain ⟨as',u2,h2,rfl,rfl⟩:=hf
    obtain ⟨hi,j,g1,g2⟩:=hr.1
    obtain ⟨j',g3,_,g4⟩:=hl.get hc1
    rw [g1] at g4;injection g4 with g4;subst g4
    have hlt:=(List.getElem?_eq_some_iff.1 g3).1
    obtain ⟨lv,us2,q1,q2,q3,q6,q7,las,q4,q5⟩:=lentArgs_of hn (q:=q'+1) hm hl hr.2 hq hlt h2
    refine ⟨.ref q'::lv,us2,?_,q2,q3,?_,?_,.ref q' 0::las,?_,fun hs=>⟨⟨rfl,rfl,q',by simp [hlt],rfl⟩,q5 hs.2.2⟩⟩
    ·subst g2
     simp only [lentArgs]
     rw [if_pos ⟨trivial,take_notin hn g3⟩,take_next g3,q1]
     have:(lent.take q').length=q':=by rw [List.length_take];omega
     simp [this]
    ·intro j2 hj2
     obtain ⟨i2,a1,a2⟩:=q6 j2 hj2
     exact ⟨i2,by rw [List.flatMap_cons];exact List.mem_append_right _ a1,a2⟩
    ·subst g2
     rw [List.flatMap_cons,List.flatMap_cons]
     exact Ids.append (fun j2 hj2=>by simp only [touchL,List.mem_singleton] at hj2;subst hj2;exact ⟨i,by simp [touchLS],hi,g1⟩) q7
    ·simp [taDs,taD,q4]
   |_=>simp [argL] at hf
theorem plainL_CD:∀{cs:List C} {ds:List D},All2 CD cs ds→plainL ds=some cs∧∀hp:Heap,frzL hp ds=some (cs,[])
 |[],[],_=>⟨rfl,fun _=>rfl⟩
 |c::cs,d::ds,hr=>by
  obtain ⟨h1,h2⟩:=plainL_CD hr.2
  rcases hr.1 with rfl|⟨xs,n,rfl,rfl⟩
  ·exact ⟨by simp [plainL,h1],fun hp=>by simp [frzL,frz,updH,h2]⟩
  ·exact ⟨by simp [plainL,h1],fun hp=>by simp [frzL,frz,updH,h2]⟩
 |[],_::_,hr=>hr.elim
 |_::_,[],hr=>hr.elim
theorem plainBoxes_of:∀{ms:List Nat} {xss:List (List C)} {lent:List Nat},All3 (BoxR h) ms xss lent→plainBoxes h lent=some xss
 |[],[],[],_=>rfl
 |m::ms,xs::xss,j::lent,hb=>by
  obtain ⟨_,ds,h1,h2⟩:=hb.1
  simp [plainBoxes,h1,(plainL_CD h2).1,plainBoxes_of hb.2]
 |[],_::_,_,h1=>h1.elim
 |[],[],_::_,h1=>h1.elim
 |_::_,[],_,h1=>h1.elim
 |_::_,_::_,[],h1=>h1.elim
theorem boxH_at:∀(bs:List (List C)) (q j:Nat) (cs:List C),bs[j]?=some cs→getH (boxH q bs) (q+j)=.box (cs.map .c)
 |[],_,_,_,hj=>by simp at hj
 |b::bs,q,0,cs,hj=>by
  simp only [List.getElem?_cons_zero,Option.some.injEq] at hj
  subst hj
  simp [boxH,getH]
 |b::bs,q,j+1,cs,hj=>by
  simp only [List.getElem?_cons_succ] at hj
  have:=boxH_at bs (q+1) j cs hj
  simp only [boxH,getH]
  rw [if_neg (by omega),show q+(j+1)=q+1+j by omega]
  exact this
theorem cd_refls:∀cs:List C,All2 CD cs (cs.map .c)
 |[]=>trivial
 |_::cs=>⟨.inl rfl,cd_refls cs⟩
theorem boxR_of {hp:Heap}:∀{ms:List Nat} {xss:List (List C)} {q:Nat},All2 (fun m (xs:List C)=>xs.length=m) ms xss→(∀j cs,xss[j]?=some cs→getH hp (q+j)=.box (cs.map .c))→All3 (BoxR hp) ms xss ((List.range xss.length).map (q+·))
 |[],[],q,_,_=>trivial
 |m::ms,xs::xss,q,hs,hg=>by
  rw [List.length_cons,List.range_succ_eq_map,List.map_cons,List.map_map]
  refine ⟨⟨hs.1,_,hg 0 xs rfl,cd_refls xs⟩,?_⟩
  have:=boxR_of (q:=q+1) hs.2 fun j cs hj=>by
   have:=hg (j+1) cs (by simpa using hj)
   rw [show q+1+j=q+(j+1) by omega];exact this
  have e:((fun x=>q+x) ∘ Nat.succ)=fun x=>q+1+x:=by funext x;simp;omega
  rw [e];exact this
 |[],_::_,_,hs,_=>hs.elim
 |_::_,[],_,hs,_=>hs.elim
theorem boxesAt_of:∀{ms:List Nat} {xss:List (List C)} {q:Nat} {hp:Heap},All3 (BoxR hp) ms xss ((List.range xss.length).map (q+·))→boxesAt hp q xss.length=some (xss,[])
 |_,[],_,_,_=>rfl
 |m::ms,xs::xss,q,hp,hb=>by
  rw [List.length_cons,List.range_succ_eq_map,List.map_cons,List.map_map] at hb
  obtain ⟨⟨_,ds,h1,h2⟩,hb⟩:=hb
  have e:((fun x=>q+x) ∘ Nat.succ)=fun x=>q+1+x:=by funext x;simp;omega
  rw [e] at hb
  have:=boxesAt_of hb
  rw [List.length_cons]
  simp only [Nat.add_zero] at h1
  simp [boxesAt,h1,(plainL_CD h2).2,updH,this]
 |[],_::_,_,_,hb=>by
  rw [List.length_cons,List.range_succ_eq_map,List.map_cons] at hb
  exact hb.elim
theorem BoxR.upd {hp:Heap} {us:List (Nat×Obj)} {k0:Nat} (hu:∀p∈us,k0≤p.1) {m:Nat} {xs:List C} {j:Nat} (hj:j < k0) (hb:BoxR hp m xs j):BoxR (updH hp us) m xs j:=by
 obtain ⟨h1,ds,h2,h3⟩:=hb
 exact ⟨h1,ds,by rw [updH_other fun p hp he=>by have:=hu p hp;omega];exact h2,h3⟩
theorem All3.mem3 {α β γ:Type} {R R':α→β→γ→Prop}:∀{as:List α} {bs:List β} {cs:List γ},(∀a b c,c∈cs→R a b c→R' a b c)→All3 R as bs cs→All3 R' as bs cs
 |[],[],[],_,_=>trivial
 |_::_,_::_,_::_,h,h1=>⟨h _ _ _ (by simp) h1.1,All3.mem3 (fun a b c hc=>h a b c (by simp [hc])) h1.2⟩
 |[],_::_,_,_,h1=>h1.elim
 |[],[],_::_,_,h1=>h1.elim
 |_::_,[],_,_,h1=>h1.elim
 |_::_,_::_,[],_,h1=>h1.elim
theorem zip_boxes:∀{ms:List Nat} {xss:List (List C)} {lent:List Nat} (hp:Heap),All2 (fun m (xs:List C)=>xs.length=m) ms xss→lent.length=xss.length→lent.Nodup→
  All3 (BoxR (updH hp ((lent.zip xss).map fun p=>(p.1,Obj.box (p.2.map .c))))) ms xss lent∧∀j,j ∉ lent→getH (updH hp ((lent.zip xss).map fun p=>(p.1,Obj.box (p.2.map .c)))) j=getH hp j
 |[],[],[],hp,_,_,_=>⟨trivial,fun _ _=>rfl⟩
 |m::ms,xs::xss,j::lent,hp,hs,hl,hn=>by
  rw [List.nodup_cons] at hn
  obtain ⟨h1,h2⟩:=zip_boxes ((j,Obj.box (xs.map .c))::hp) hs.2 (by simpa using hl) hn.2
  simp only [List.zip_cons_cons,List.map_cons,updH]
  refine ⟨⟨⟨hs.1,xs.map .c,?_,cd_refls xs⟩,h1⟩,fun i hi=>?_⟩
  ·rw [h2 j hn.1];simp [getH]
  ·simp only [List.mem_cons,not_or] at hi
   rw [h2 i hi.2]
   simp [getH,Ne.symm hi.1]
 |[],[],_::_,_,_,hl,_=>by simp at hl
 |[],_::_,_,_,hs,_,_=>hs.elim
 |_::_,[],_,_,hs,_,_=>hs.elim
 |_::_,_::_,[],_,_,hl,_=>by simp at hl
theorem tupD_retD:∀rs:List V,tupD (rs.map V.toD)=retD rs
 |[]=>rfl
 |[_]=>rfl
 |_::_::_=>rfl
theorem refsUp_clo:∀{ps:List PS} {q m:Nat},refsUp q ps=some m→∀g cs,PS.clo g cs ∉ ps
 |[],_,_,_,_,_=>by simp
 |.one::ps,q,m,h,g,cs=>by
  have:=refsUp_clo (ps:=ps) (q:=q) (m:=m) (by simpa [refsUp] using h) g cs
  simpa using this
 |.agg _::ps,q,m,h,g,cs=>by
  have:=refsUp_clo (ps:=ps) (q:=q) (m:=m) (by simpa [refsUp] using h) g cs
  simpa using this
 |.ref _ _::ps,q,m,h,g,cs=>by
  simp only [refsUp] at h
  split at h
  ·have:=refsUp_clo h g cs
   simpa using this
  ·cases h
 |.clo _ _::_,_,_,h,_,_=>by simp [refsUp] at h
theorem findB_in:∀{ps:List PS} {sds:List SD} {q i:Nat},(∀g cs,PS.clo g cs ∉ ps)→findB ps sds q=some i→i∈sds.flatMap touchLS
 |[],_,q,i,_,h=>by simp [findB] at h
 |.one::_,[],q,i,_,h=>by cases h
 |.agg _::_,[],q,i,_,h=>by cases h
 |.ref _ _::_,[],q,i,_,h=>by cases h
 |.clo _ _::_,[],q,i,_,h=>by cases h
 |p::ps,sd::sds,q,i,hno,h=>by
  have rest:findB ps sds q=some i→i∈(sd::sds).flatMap touchLS:=fun h=>by rw [List.flatMap_cons];exact List.mem_append_right _ (findB_in (fun g cs hm=>hno g cs (List.mem_cons_of_mem _ hm)) h)
  cases p with
  |one=>exact rest (by simpa [findB] using h)
  |agg m=>exact rest (by simpa [findB] using h)
  |ref q' o=>
   cases sd with
   |loc i' o'=>
    simp only [findB] at h
    split at h
    ·simp only [Option.some.injEq] at h
     subst h
     simp [touchLS]
    ·exact rest h
   |_=>exact rest (by simpa [findB] using h)
  |clo g cs=>exact absurd (List.mem_cons_self ..) (hno g cs)
theorem findBs_in {ps:List PS} {sds:List SD} (hno:∀g cs,PS.clo g cs ∉ ps):∀{m q:Nat} {bx:List Nat},findBs ps sds q m=some bx→∀i∈bx,i∈sds.flatMap touchLS
 |0,_,bx,h=>by simp only [findBs,Option.some.injEq] at h;subst h;simp
 |m+1,q,bx,h=>by
  simp only [findBs,Option.bind_eq_some_iff,Option.some.injEq] at h
  obtain ⟨i,h1,is,h2,rfl⟩:=h
  intro j hj
  simp only [List.mem_cons] at hj
  rcases hj with rfl|hj
  ·exact findB_in hno h1
  ·exact findBs_in hno h2 j hj
end
section
variable {b:Bs} {ρ:List W} {μ:Nat→Option Nat} {σ:Sy} {h:Heap} {k:Nat} {call:FnT} {head:HdT} {r:R} {F:Tab} {sig:Nat→Option Sig}
theorem rsS_k {h:Heap} {k0 k1:Nat}:∀{ks:List RS} {vs:List V} {ds:List D},ks.all RS.isC=true→All3 (RsS h k0) ks vs ds→All3 (RsS h k1) ks vs ds:=by
 have many:∀{ks:List CK} {cs:List C} {ds:List D},ks.all CK.isC=true→All3 (CkS h k0) ks cs ds→All3 (CkS h k1) ks cs ds:=by
  intro ks
  induction ks with
  |nil=>intro cs ds _ hr;cases cs<;>cases ds<;>first|trivial|exact hr.elim
  |cons ck ks ih=>
   intro cs ds hk hr
   cases cs with
   |nil=>exact hr.elim
   |cons c cs=>cases ds with
    |nil=>exact hr.elim
    |cons d ds=>
     simp only [List.all_cons,Bool.and_eq_true] at hk
     cases ck with
     |c=>exact ⟨hr.1,ih hk.2 hr.2⟩
     |_=>cases hk.1
 intro ks
 induction ks with
 |nil=>intro vs ds _ hr;cases vs<;>cases ds<;>first|trivial|exact hr.elim
 |cons rs ks ih=>
  intro vs ds hk hr
  cases vs with
  |nil=>exact hr.elim
  |cons v vs=>cases ds with
   |nil=>exact hr.elim
   |cons d ds=>
    simp only [List.all_cons,Bool.and_eq_true] at hk
    refine ⟨?_,ih hk.2 hr.2⟩
    cases rs with
    |one k=>cases v with
     |one c=>cases k with
      |c=>exact hr.1
      |_=>cases hk.1
     |agg cs=>exact hr.1.elim
    |agg cks=>cases v with
     |one c=>exact hr.1.elim
     |agg cs=>obtain ⟨es,h1,h2⟩:=hr.1;exact ⟨es,h1,many hk.1 h2⟩
theorem symLent_ok {kt:SD→Sy→Nat→Tree} (hcall:CallsOK F sig call) (hm:Rm b (nm ρ μ σ) h k σ.lens) {f:Nat} {sds:List SD} {ds:List D} (hds:All2 (RD (nm ρ μ σ)) sds ds) (hd:denT call head (symLent sig σ ρ.length f sds kt) ρ=some r):
  ∃n0 d us,(∀n,n0≤n→lentD (evLent F n) h f ds=some (d,us))∧PostL b ρ μ σ call head kt r d (updH h us) k∧Ids (nm ρ μ σ) (ds.flatMap touchL) (sds.flatMap touchLS)∧Ids (nm ρ μ σ) (us.map (·.1)) (sds.flatMap touchLS):=by
 unfold symLent at hd
 split at hd
 case h_2=>cases hd
 rename_i s hs
 split at hd
 case isFalse=>cases hd
 rename_i hup
 unfold symLendK at hd
 rw [hs] at hd
 simp only at hd
 by_cases hsn':s.nat=true∨s.cd f≠f
 ·rw [if_pos hsn'] at hd;cases hd
 rw [if_neg hsn'] at hd
 have hsn:¬s.nat=true:=fun e=>hsn' (.inl e)
 have hcf:s.cd f=f:=Classical.byContradiction fun e=>hsn' (.inr e)
 simp only [Bool.false_eq_true,if_false] at hd
 split at hd
 case isFalse=>cases hd
 rename_i hkind
 split at hd
 case h_2=>cases hd
 rename_i bx hbx
 split at hd
 case isFalse=>cases hd
 rename_i hnd
 split at hd
 case h_2=>cases hd
 rename_i as us hargs
 split at hd
 case h_2=>cases hd
 rename_i bs hbs
 have hlb:=findBs_len hbx
 obtain ⟨lent,hl⟩:=findBs_ok hds hbx
 have hbn:=nodupB_iff hnd
 have hln:=LentN.nodup hm hl hbn
 have hll:lent.length=s.boxes.length:=by rw [←hlb];exact hl.len.symm
 obtain ⟨lv,us1,a1,a2,a3,a6,a7,las,a4,a5⟩:=lentArgs_of hln (q:=0) hm hl hds (by rw [hll];exact hup) (Nat.zero_le _) hargs
 obtain ⟨xss,c1,c2⟩:=boxesOf_ok (N:=(nm ρ μ σ).upd us) a3 hl hbs
 have hxl:xss.length=lent.length:=by have:=c2.len1;omega
 cases hr:resL (boxL (σ.upd us) bx s.boxes (ρ.length+(s.rs.map RS.shape).length)) s.rs ρ.length with
 |mk sres σ2=>
  simp only [hr,denT,Option.bind_eq_some_iff] at hd
  obtain ⟨las',h1,xss',h2,rr,h3,hd⟩:=hd
  have e1:las'=las:=by have:taDs ρ as=some las:=a4;rw [h1] at this;injection this
  have e2:xss'=xss:=by have:slDs ρ bs=some xss:=c1;rw [h2] at this;injection this
  subst e1 e2
  obtain ⟨s',g1,g2,g3,g4⟩:=hcall _ _ _ _ h3
  rw [hs] at g1;injection g1 with g1;subst g1
  have hrange:List.range lent.length=(List.range xss'.length).map (0+·):=by rw [hxl];simp
  have hbin:All3 (BoxR (boxH 0 xss')) s.boxes xss' (List.range lent.length):=by
   rw [hrange]
   exact boxR_of g3 fun j cs hj=>boxH_at xss' 0 j cs hj
  obtain ⟨n,rs,h',k',f1,f2,f3,f4,f5,f6,f7⟩:=(hcf▸(g4.1 (by simpa using hsn)).1) (boxH 0 xss') xss'.length (List.range lent.length) (lv.map LV.toD) (a5 g2) hbin List.nodup_range (fun j hj=>by rw [List.mem_range] at hj;omega)
  unfold sized at hd
  split at hd
  case isFalse=>cases hd
  rename_i hsz
  obtain ⟨ws,w1,w2⟩:=bindVs_some hd
  rw [List.drop_zero] at w1
  obtain ⟨yss,w3,w4,w5⟩:=bindBs_some w2
  have hyss:yss=rr.2:=by
   apply List.ext_getElem?
   intro q
   by_cases hq:q < s.boxes.length
   ·rw [←w4 q hq,Nat.zero_add]
   ·have q1:yss.length=s.boxes.length:=w3.len.symm
    rw [List.getElem?_eq_none (by omega),List.getElem?_eq_none (by rw [hsz.2];omega)]
  subst hyss
  obtain ⟨us2,d1,d2,_⟩:=frzVs_res (rsAll f5)
  have hrl:rr.2.length=lent.length:=by rw [hsz.2,hll]
  have f4':All3 (BoxR (updH h' us2)) s.boxes rr.2 (List.range lent.length):=f4.mem3 fun m xs j hj hb=>hb.upd d2 (by rw [List.mem_range] at hj;omega)
  have hba:boxesAt (updH h' us2) 0 xss'.length=some (rr.2,[]):=by
   have:=boxesAt_of (q:=0) (ms:=s.boxes) (xss:=rr.2) (hp:=updH h' us2) (by rw [hrl];simpa using f4')
   rw [hxl,←hrl];exact this
  have hev:∀m,n+1≤m→evLent F m f lv xss'=some (rr.1,rr.2):=fun m hmn=>by
   refine evLent_le hmn f lv xss' _ ?_
   simp [evLent,f1,d1,hba]
  have hlen2:All2 (fun m (xs:List C)=>xs.length=m) s.boxes rr.2:=by
   have aux:∀{ms:List Nat} {xss:List (List C)} {l:List Nat} {hp:Heap},All3 (BoxR hp) ms xss l→All2 (fun m (xs:List C)=>xs.length=m) ms xss:=by
    intro ms
    induction ms with
    |nil=>intro xss l hp h;cases xss with|nil=>trivial|cons _ _=>exact h.elim
    |cons m ms ih=>intro xss l hp h;cases xss with|nil=>exact h.elim|cons _ _=>cases l with|nil=>exact h.elim|cons _ _=>exact ⟨h.1.1,ih h.2⟩
   exact aux f4
  obtain ⟨z1,z2⟩:=zip_boxes (lent:=lent) (updH h us1) hlen2 hrl.symm hln
  obtain ⟨q1,q2⟩:=rsS_isC (h:=updH h (us1++(lent.zip rr.2).map fun p=>(p.1,Obj.box (p.2.map .c)))) hkind f5 (vd_refls rr.1)
  have hmu:Rm b (nm (ρ++(ws++rr.2.map .l)) μ (σ.upd us)) (updH h us1) k (σ.upd us).lens:=a3.ext (ws++rr.2.map W.l)
  have hwl:(ρ++ws).length=ρ.length+(s.rs.map RS.shape).length:=by rw [List.length_append,w1.len]
  obtain ⟨v1,v2⟩:=lent_after (σ:=σ.upd us) (ρ:=ρ++(ws++rr.2.map W.l)) (pre:=ρ++ws) (xss:=rr.2) hmu hbn hlb hl (boxesOf_box hbs) (Nat.le_refl k) (fun j _ hj=>z2 j hj) z1 (by rw [List.append_assoc])
  rw [hwl] at v1 v2
  rw [←updH_append'] at v2
  have q3:=rsS_k (k0:=xss'.length) (k1:=k) hkind q1
  obtain ⟨μ',p1,p2,p3,p4,_⟩:=resL_ok (ρ:=ρ++(ws++rr.2.map .l)) (k0:=k) (pre:=ρ) (post:=rr.2.map .l) hm.le v2 w1 (by rw [List.append_assoc]) q3 (by rw [q2];exact List.nodup_nil) (by rw [q2];simp) hr
  refine ⟨n+1,retD rr.1,us1++(lent.zip rr.2).map fun p=>(p.1,Obj.box (p.2.map .c)),fun m hmn=>?_,⟨ws++rr.2.map .l,μ',σ2,tupS sres,p4.trans boxL_env.1,((a2.trans (sev_ext _ (ws++rr.2.map W.l))).trans v1).trans p1,p2,?_,?_⟩,a7,?_⟩
  ·have:lentArgs h ds []=some (lv,lent,us1):=by simpa using a1
   simp [lentD,this,plainBoxes_of c2,hev m hmn,hrl]
  ·rw [←tupD_retD];exact tup_D p3
  ·rw [List.append_assoc] at w5
   rw [show (ρ++(ws++rr.2.map W.l)).length=ρ.length+(s.rs.map RS.shape).length+s.boxes.length by have q1:=w1.len;have q2:=hsz.2;simp only [List.length_append,List.length_map] at *;omega]
   exact w5
  ·rw [List.map_append]
   intro j hj
   rw [List.mem_append] at hj
   rcases hj with hj|hj
   ·exact a6 j hj
   ·have hj':j∈lent:=by
     rw [List.map_map,List.mem_map] at hj
     obtain ⟨p,hp,rfl⟩:=hj
     exact (List.of_mem_zip hp).1
    obtain ⟨i,m1,m2,m3⟩:=LentN.mem hl j hj'
    exact ⟨i,findBs_in (refsUp_clo hup) hbx i m1,m2,m3⟩
end
end Go.Ey

namespace Go.Ey
structure TrR (N:Nm) (a c:Trace):Prop where
 rdT:a.rdT=c.rdT
 wrT:a.wrT=c.wrT
 rdH:Ids N c.rdH a.rdH
 wrH:Ids N c.wrH a.wrH
theorem Ids.mono {N N':Nm} (hv:SEv N N') {js is:List Nat} (h:Ids N js is):Ids N' js is:=fun j hj=>by
 obtain ⟨i,h1,h2,h3⟩:=h j hj
 exact ⟨i,h1,Nat.lt_of_lt_of_le h2 hv.nx,by rw [hv.mu i h2];exact h3⟩
theorem TrR.mono {N N':Nm} (hv:SEv N N') {a c:Trace} (h:TrR N a c):TrR N' a c:=⟨h.rdT,h.wrT,h.rdH.mono hv,h.wrH.mono hv⟩
theorem meets_ids {N:Nm} (hinj:∀i i' j,i < N.nx→i' < N.nx→N.μ i=some j→N.μ i'=some j→i=i') {a c a' c':List Nat} (h1:Ids N a' a) (h2:Ids N c' c) (h:meets a c=false):meets a' c'=false:=by
 unfold meets at *
 rw [List.any_eq_false] at h ⊢
 intro j hj hc
 simp only [List.contains_eq_mem,decide_eq_true_eq] at hc
 obtain ⟨i,q1,q2,q3⟩:=h1 j hj
 obtain ⟨i',p1,p2,p3⟩:=h2 j hc
 have:=hinj i i' j q2 p2 q3 p3
 subst this
 exact h i q1 (by simpa using p1)
theorem Ids.app {N:Nm} {a c a' c':List Nat} (h1:Ids N a' a) (h2:Ids N c' c):Ids N (a'++c') (a++c):=h1.append h2
theorem clash_ids {N:Nm} (hinj:∀i i' j,i < N.nx→i' < N.nx→N.μ i=some j→N.μ i'=some j→i=i') {a c a' c':Trace} (h1:TrR N a a') (h2:TrR N c c') (h:clash a c=false):clash a' c'=false:=by
 unfold clash at *
 simp only [Bool.or_eq_false_iff] at h ⊢
 obtain ⟨⟨⟨q1,q2⟩,q3⟩,q4⟩:=h
 refine ⟨⟨⟨?_,?_⟩,?_⟩,?_⟩
 ·rw [←h1.wrT,←h2.rdT,←h2.wrT];exact q1
 ·rw [←h2.wrT,←h1.rdT];exact q2
 ·exact meets_ids hinj h1.wrH (h2.rdH.app h2.wrH) q3
 ·exact meets_ids hinj h2.wrH h1.rdH q4
theorem okRow_ids {N:Nm} (hinj:∀i i' j,i < N.nx→i' < N.nx→N.μ i=some j→N.μ i'=some j→i=i') {m:Nat} {c c':Trace} (hc:TrR N c c'):∀{l l':List Trace} {q:Nat},All2 (TrR N) l l'→okRow m c q l=true→okRow m c' q l'=true
 |[],[],_,_,_=>rfl
 |a::l,a'::l',q,hr,h=>by
  simp only [okRow,Bool.and_eq_true,Bool.or_eq_true] at h ⊢
  refine ⟨h.1.imp id fun h1=>?_,okRow_ids hinj hc hr.2 h.2⟩
  have:clash a c=false:=by simpa using h1
  simp [clash_ids hinj hr.1 hc this]
 |[],_::_,_,hr,_=>hr.elim
 |_::_,[],_,hr,_=>hr.elim
theorem drawFrom_ids {N:Nm} (hinj:∀i i' j,i < N.nx→i' < N.nx→N.μ i=some j→N.μ i'=some j→i=i'):∀{ts ts':List Trace} {ws:List Nat} {pre pre':List Trace},All2 (TrR N) pre pre'→All2 (TrR N) ts ts'→drawFrom pre ts ws=true→drawFrom pre' ts' ws=true
 |[],[],_,_,_,_,_,_=>by simp [drawFrom]
 |c::ts,c'::ts',[],_,_,_,_,h=>by simp [drawFrom] at h
 |c::ts,c'::ts',w::ws,pre,pre',hp,hr,h=>by
  simp only [drawFrom,Bool.and_eq_true] at h ⊢
  exact ⟨okRow_ids hinj hr.1 hp h.1,drawFrom_ids hinj (hp.append (show All2 (TrR N) [c] [c'] from ⟨hr.1,trivial⟩)) hr.2 h.2⟩
 |[],_::_,_,_,_,_,hr,_=>hr.elim
 |_::_,[],_,_,_,_,hr,_=>hr.elim
section
variable {b:Bs} {call:FnT} {head:HdT} {r:R} {F:Tab} {sig:Nat→Option Sig}
def PostD (b:Bs) (ρ:List W) (μ:Nat→Option Nat) (σ:Sy) (call:FnT) (head:HdT) (kt:Sy→Nat→Kn→List Trace→Tree) (r:R) (tsS:List Trace) (s':St) (ts:List Trace):Prop:=
 ∃(ws:List W) (μ':Nat→Option Nat) (σ':Sy) (kn':Kn) (tsS':List Trace),Rl b (ρ++ws) μ' σ' s'∧Kno kn' (ρ++ws)∧denT call head (kt σ' (ρ++ws).length kn' (tsS++tsS')) (ρ++ws)=some r∧SEv (nm ρ μ σ) (nm (ρ++ws) μ' σ')∧All2 (TrR (nm (ρ++ws) μ' σ')) tsS' ts
theorem PostD.pre {ρ:List W} {μ:Nat→Option Nat} {σ:Sy} {kt:Sy→Nat→Kn→List Trace→Tree} {tsS:List Trace} {s':St} {ts:List Trace} {ws:List W} {μ1:Nat→Option Nat} {σ1:Sy} {a c:Trace} {dst:Option Nat} {sd:SD} (hv:SEv (nm ρ μ σ) (nm (ρ++ws) μ1 σ1)) (ht:TrR (nm (ρ++ws) μ1 σ1) a c)
  (h:PostD b (ρ++ws) μ1 (σ1.put dst sd) call head kt r (tsS++[a]) s' ts):PostD b ρ μ σ call head kt r tsS s' (c::ts):=by
 obtain ⟨ws',μ',σ',kn',tsS',h1,h2,h3,h4,h5⟩:=h
 rw [nm_put] at h4
 rw [List.append_assoc] at h1 h2 h3 h4 h5
 rw [List.append_assoc tsS] at h3
 exact ⟨ws++ws',μ',σ',kn',a::tsS',h1,h2,h3,hv.trans h4,ht.mono h4,h5⟩
theorem symDraw_plain {kt:Sy→Nat→Kn→List Trace→Tree} {i:Inst} {is:List Inst} {σ:Sy} {n:Nat} {kn:Kn} {ts:List Trace} (hp:isPlain i.ins=true):
  symDraw sig kt (i::is) σ n kn ts=guardS σ kn i.guard fun w kn=>match w with
   |false=>symDraw sig kt is (σ.put i.dst (.tup [])) n kn (ts++[⟨(match i.guard with|some (t,_)=>[t]|none=>[]),i.dst.toList,[],[]⟩])
   |true=>symIns σ n (xS σ) (fun d σ' n=>symDraw sig kt is (σ'.put i.dst d) n kn (ts++[⟨(match i.guard with|some (t,_)=>[t]|none=>[])++tmpsX (opX i.ins),i.dst.toList,touchS (xS σ) i.ins,wroteS σ.nx σ'.nx (turnS (xS σ) i.ins)⟩])) i.ins:=by
 simp only [symDraw]
 congr 1
 funext w kn
 cases w with
 |false=>rfl
 |true=>cases hi:i.ins<;>first|rfl|(rw [hi] at hp;cases hp)
theorem symCall_okS {σ:Sy} {n f:Nat} {sds:List SD} {kt:SD→Sy→Nat→Tree} {ρ:List W} (hd:denT call head (symCall sig σ n f sds kt) ρ=some r):sds.all okS=true:=by
 unfold symCall at hd
 split at hd
 ·rename_i hf;exact okS_frzVSs hf
 ·cases hd
theorem step_ro {dx:X→D} {h:Heap} {k:Nat} {i:Ins} {d:D} {us:List (Nat×Obj)} (hr:readsOnly i=true) (h1:step dx h k i=some (d,us)):us=[]:=by
 cases i<;>first|(cases hr;done)|skip
 all_goals
  simp only [step,pureD,Option.map_eq_some_iff,Prod.mk.injEq] at h1
  obtain ⟨_,_,_,h2⟩:=h1
  exact h2.symm
theorem turn_ids {N:Nm} {sx:X→SD} {dx:X→D} {h:Heap} {k:Nat} {i:Ins} {d:D} {us:List (Nat×Obj)} {nx nx':Nat} (h1:step dx h k i=some (d,us)) (h2:∀j,j∈us.map (·.1)→∃q∈wroteS nx nx' (touchS sx i),q < N.nx∧N.μ q=some j):Ids N (us.map (·.1)) (wroteS nx nx' (turnS sx i)):=by
 unfold turnS
 by_cases hr:readsOnly i=true
 ·rw [step_ro hr h1];exact Ids.nil
 ·rw [if_neg hr];exact h2
theorem stepD_plain {cl:Callee} {ll:Lent} {dx:X→D} {h:Heap} {k:Nat} {i:Ins} (hp:isPlain i=true):stepD cl ll dx h k i=step dx h k i:=by
 cases i with
 |callL f xs=>cases hp
 |_=>exact stepS_plain (cl:=cl) hp
theorem symDraw_ok (hcall:CallsOK F sig call) {kt:Sy→Nat→Kn→List Trace→Tree} {nx:Nat}:∀(is:List Inst) (ρ:List W) (μ:Nat→Option Nat) (σ:Sy) (e:Env) (h:Heap) (k:Nat) (kn:Kn) (tsS:List Trace),Rl b ρ μ σ ⟨e,h,nx+k⟩→Kno kn ρ→denT call head (symDraw sig kt is σ ρ.length kn tsS) ρ=some r→
  ∃n0 e' h' ts,(∀n,n0≤n→evDraw (evFn F n) (evLent F n) nx k is e h=some (e',h',ts))∧PostD b ρ μ σ call head kt r tsS ⟨e',h',nx+(k+is.length)⟩ ts
 |[],ρ,μ,σ,e,h,k,kn,tsS,hR,hk,hd=>⟨0,e,h,[],fun _ _=>rfl,[],μ,σ,kn,[],by rw [List.append_nil];exact hR,by rw [List.append_nil];exact hk,by rw [List.append_nil,List.append_nil];exact hd,by rw [List.append_nil];exact SEv.refl _,trivial⟩
 |i::is,ρ,μ,σ,e,h,k,kn,tsS,hR,hk,hd=>by
  have hlen:nx+(k+(i::is).length)=nx+(k+1+is.length):=by simp;omega
  have skip:∀{kn':Kn},Kno kn' ρ→wanted e i.guard=some false→denT call head (symDraw sig kt is (σ.put i.dst (.tup [])) ρ.length kn' (tsS++[⟨(match i.guard with|some (t,_)=>[t]|none=>[]),i.dst.toList,[],[]⟩])) ρ=some r→
    ∃n0 e' h' ts,(∀n,n0≤n→evDraw (evFn F n) (evLent F n) nx k (i::is) e h=some (e',h',ts))∧PostD b ρ μ σ call head kt r tsS ⟨e',h',nx+(k+(i::is).length)⟩ ts:=by
   intro kn' hk' hw hd
   have hR':=hR.step rfl (SEv.refl _) (hR.mem.tick (show nx+k≤nx+(k+1) by omega)) undef_rd i.dst
   obtain ⟨n0,e',h',ts,h1,h2⟩:=symDraw_ok hcall is ρ μ _ _ _ (k+1) kn' _ hR' hk' hd
   refine ⟨n0,e',h',⟨(match i.guard with|some (t,_)=>[t]|none=>[]),i.dst.toList,[],[]⟩::ts,fun n hn=>?_,?_⟩
   ·simp only [evDraw,hw,Option.bind_eq_bind,Option.bind_some,h1 n hn]
    rfl
   ·rw [hlen]
    refine PostD.pre (ws:=[]) (μ1:=μ) (σ1:=σ) (a:=⟨(match i.guard with|some (t,_)=>[t]|none=>[]),i.dst.toList,[],[]⟩) (by rw [List.append_nil];exact SEv.refl _) ⟨rfl,rfl,Ids.nil,Ids.nil⟩ (by rw [List.append_nil];exact h2)
  by_cases hp:isPlain i.ins=true
  ·rw [symDraw_plain hp] at hd
   obtain ⟨w,kn',g1,g2,g3⟩:=guard_ok hR.env hk hd
   cases w with
   |false=>exact skip g2 g1 g3
   |true=>
    obtain ⟨d,us,h1,ws,μ',σ',sd,p1,p2,p3,p4,p5,p6⟩:=sym_ok hR.mem (xS_ok hR.env) i.ins g3
    have htch:=touch_ok (xS_ok hR.env) i.ins (fun f xs e=>by rw [e] at hp;cases hp) g3
    have hR':=hR.step p1 p2 p3 p4 i.dst
    obtain ⟨n0,e',h',ts,q1,q2⟩:=symDraw_ok hcall is (ρ++ws) μ' _ _ _ (k+1) kn' _ hR' (g2.ext ws) p5
    refine ⟨n0,e',h',⟨(match i.guard with|some (t,_)=>[t]|none=>[])++tmpsX (opX i.ins),i.dst.toList,touches (evX e) i.ins,us.map (·.1)⟩::ts,fun n hn=>?_,?_⟩
    ·simp only [evDraw,g1,Option.bind_eq_bind,Option.bind_some,if_true,stepD_plain hp]
     rw [show step (evX e) h (nx+k) i.ins=some (d,us) from h1]
     simp only [Option.bind_some,q1 n hn]
     rfl
    ·rw [hlen]
     exact PostD.pre (a:=⟨(match i.guard with|some (t,_)=>[t]|none=>[])++tmpsX (opX i.ins),i.dst.toList,touchS (xS σ) i.ins,wroteS σ.nx σ'.nx (turnS (xS σ) i.ins)⟩) p2 ⟨rfl,rfl,htch.mono p2,turn_ids h1 p6⟩ q2
  ·simp only [symDraw] at hd
   obtain ⟨w,kn',g1,g2,g3⟩:=guard_ok hR.env hk hd
   cases w with
   |false=>exact skip g2 g1 g3
   |true=>
    cases hi:i.ins with
    |pick c x y=>
     rw [hi] at g3
     obtain ⟨t,kn2,e1,e2,e3⟩:=withBool_ok rfl g2 (xS_ok hR.env c) g3
     have hR':=hR.step rfl (SEv.refl _) (hR.mem.tick (show nx+k≤nx+(k+1) by omega)) (xS_ok hR.env (if t then x else y)) i.dst
     obtain ⟨n0,e',h',ts,q1,q2⟩:=symDraw_ok hcall is ρ μ _ _ _ (k+1) kn2 _ hR' e2 e3
     refine ⟨n0,e',h',⟨(match i.guard with|some (t,_)=>[t]|none=>[])++tmpsX (opX i.ins),i.dst.toList,[],[]⟩::ts,fun n hn=>?_,?_⟩
     ·have e1':evX e c=.c (.lit (.bool t)):=e1
      simp only [evDraw,g1,Option.bind_eq_bind,Option.bind_some,if_true,hi,stepD,stepS,isMapI,Bool.false_eq_true,if_false,stepC,step,e1',asBool,pureD,Option.map_some,updH]
      have:=q1 n hn
      rw [show (if t=true then evX e x else evX e y)=evX e (if t=true then x else y) by cases t<;>rfl,this]
      rfl
     ·rw [hlen]
      refine PostD.pre (ws:=[]) (μ1:=μ) (σ1:=σ) (by rw [List.append_nil];exact SEv.refl _) ?_ (by rw [List.append_nil];exact q2)
      rw [hi]
      exact ⟨rfl,rfl,Ids.nil,Ids.nil⟩
    |call f xs=>
     rw [hi] at g3
     obtain ⟨n0,vs,us,rs,h1,h2,ws,μ',σ',sd,p1,p2,p3,p4,p5,p6⟩:=symCall_ok hcall hR.mem (xSs_ok hR.env xs) g3
     have hR':=hR.step p1 p2 p3 p4 i.dst
     obtain ⟨n1,e',h',ts,q1,q2⟩:=symDraw_ok hcall is (ρ++ws) μ' _ _ _ (k+1) kn' _ hR' (g2.ext ws) p5
     refine ⟨max n0 n1,e',h',⟨(match i.guard with|some (t,_)=>[t]|none=>[])++tmpsX (opX i.ins),i.dst.toList,touches (evX e) i.ins,us.map (·.1)⟩::ts,fun n hn=>?_,?_⟩
     ·have h1':frzVs h (xs.map (evX e))=some (vs,us):=h1
      simp only [evDraw,g1,Option.bind_eq_bind,Option.bind_some,if_true,hi,stepD,stepS,isMapI,Bool.false_eq_true,if_false,stepC,h1',h2 n (by omega)]
      have:=q1 n (by omega)
      simp only at this
      rw [this]
      rfl
     ·rw [hlen]
      refine PostD.pre p2 ?_ q2
      rw [hi]
      refine ⟨rfl,rfl,Ids.mono p2 ?_,?_⟩
      ·have hok:∀x∈xs,okS (xS σ x)=true:=by
        have:=symCall_okS (sds:=xs.map (xS σ)) g3
        rw [List.all_map,List.all_eq_true] at this
        exact this
       exact ids_flat (g:=id) (xS_ok hR.env) hok
      ·rw [List.flatMap_map] at p6
       exact p6
    |callS f own xs=>
     rw [hi] at g3
     simp [denT] at g3
    |callL f xs=>
     rw [hi] at g3
     obtain ⟨n0,d,us,h1,⟨ws,μ',σ',sd,p1,p2,p3,p4,p5⟩,t1,t2⟩:=symLent_ok hcall hR.mem (xSs_ok hR.env xs) g3
     have hR':=hR.step p1 p2 (p3.tick (show nx+k≤nx+(k+1) by omega)) p4 i.dst
     obtain ⟨n1,e',h',ts,q1,q2⟩:=symDraw_ok hcall is (ρ++ws) μ' _ _ _ (k+1) kn' _ hR' (g2.ext ws) p5
     refine ⟨max n0 n1,e',h',⟨(match i.guard with|some (t,_)=>[t]|none=>[])++tmpsX (opX i.ins),i.dst.toList,touches (evX e) i.ins,us.map (·.1)⟩::ts,fun n hn=>?_,?_⟩
     ·have h1':lentD (evLent F n) h f (xs.map (evX e))=some (d,us):=h1 n (by omega)
      simp only [evDraw,g1,Option.bind_eq_bind,Option.bind_some,if_true,hi,stepD,h1']
      have:=q1 n (by omega)
      simp only at this
      rw [this]
      rfl
     ·rw [hlen]
      refine PostD.pre p2 ?_ q2
      rw [hi]
      refine ⟨rfl,rfl,Ids.mono p2 ?_,?_⟩
      ·rw [List.flatMap_map,List.flatMap_map] at t1
       exact t1
      ·rw [List.flatMap_map] at t2
       exact fun j hj=>by
        obtain ⟨q,m1,m2⟩:=Ids.mono p2 t2 j hj
        exact ⟨q,List.mem_append_left _ m1,m2⟩
    |callV x xs=>
     rw [hi] at g3
     simp [denT] at g3
    |mkm=>rw [hi] at g3;simp [symIns,denT] at g3
    |mget k n ag z ok x y=>rw [hi] at g3;simp [symIns,denT] at g3
    |mput k n x y z=>rw [hi] at g3;simp [symIns,denT] at g3
    |_=>rw [hi] at hp;exact absurd rfl hp
end
end Go.Ey
