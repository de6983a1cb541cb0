/- A part. -/
import Derived.Test.YtpnjgiplhijhpaaGreatDoorRY15
import Derived.Test.YtpnjgiplhijhpaaGreatDoorRY16
set_option linter.all false
namespace Go.Ey
section
variable {b:Bs} {N:Nm} {h:Heap} {k:Nat} {lens:List (Nat×Nat)}
theorem JK {l:List Nat} (hn:l.Nodup) {q j:Nat} (hq:l[q]?=some j):(l.take q).contains j=false:=by
 rw [List.contains_eq_mem,decide_eq_false_iff_not];intro hm;obtain ⟨p,hp⟩:=List.getElem?_of_mem hm;rw [List.getElem?_take] at hp;split at hp
 ·rename_i hlt;obtain ⟨a1,a2⟩:=List.getElem?_eq_some_iff.1 hq;obtain ⟨b1,b2⟩:=List.getElem?_eq_some_iff.1 hp;have:=(List.getElem_inj hn).1 (a2.trans b2.symm)
  omega
 ·cases hp
theorem Nq {l:List Nat} {q j:Nat} (hq:l[q]?=some j):l.take q++[j]=l.take (q+1):=by rw [List.take_add_one,hq];rfl
theorem qC {bx ai:List Nat} (hn:ai.Nodup):∀{ps:List PS} {dN:List SD} {ds:List D} {N:Nm} {h:Heap} {q:Nat},Rm b N h k lens->fZ N bx ai->aj (RD N) dN ds->gV q ps=some ai.length->q<=ai.length->∀{ax:List TA} {us:List (Nat×SO)},lW lens N.hs bx ps dN=some (ax,us)->
  ∃lv us',aQ h ds (ai.take q)=some (lv,ai,us')/\fG N (N.upd us)/\Rm b (N.upd us) (ah h us') k lens/\gz N (us'.map (·.1)) (dN.flatMap gP)/\gz N (ds.flatMap jR) (dN.flatMap gP)/\∃ru,jY N.ρ ax=some ru/\(iO ps ru->bL (JM (List.range ai.length)) ps ru (lv.map LV.fM))
 |[],[],[],N,h,q,hm,_,_,hq,hle,ax,us,hf=>by simp only [lW,Option.some.injEq,Prod.mk.injEq] at hf;obtain ⟨rfl,rfl⟩:=hf;simp only [gV,Option.some.injEq] at hq;subst hq;exact ⟨[],[],by simp [aQ],fG.refl _,hm,gz.nil,gz.nil,[],rfl,fun _=>trivial⟩
 |[],_::_,_,_,_,_,_,_,_,_,_,_,_,hf=>by simp [lW] at hf
 |.one::_,[],_,_,_,_,_,_,_,_,_,_,_,hf=>by cases hf
 |.agg _::_,[],_,_,_,_,_,_,_,_,_,_,_,hf=>by cases hf
 |.ref _ _::_,[],_,_,_,_,_,_,_,_,_,_,_,hf=>by cases hf
 |.bJ _ _::_,[],_,_,_,_,_,_,_,_,_,_,_,hf=>by cases hf
 |p::ps,sd::dN,[],_,_,_,_,_,hr,_,_,_,_,_=>hr.elim
 |[],[],_::_,_,_,_,_,_,hr,_,_,_,_,_=>hr.elim
 |p::ps,sd::dN,d::ds,N,h,q,hm,hl,hr,hq,hle,ax,us,hf=>by
  have gen:(∀q o,p≠.ref q o)->(∀q o,p≠.bJ q o)->gV q ps=some ai.length->(si lens N.hs sd).bind (fun p=>(lW lens (sP N.hs p.2) bx ps dN).bind fun q=>some (TA.v p.1::q.1,p.2++q.2))=some (ax,us)->
    ∃lv us',aQ h (d::ds) (ai.take q)=some (lv,ai,us')/\fG N (N.upd us)/\Rm b (N.upd us) (ah h us') k lens/\gz N (us'.map (·.1)) ((sd::dN).flatMap gP)/\gz N ((d::ds).flatMap jR) ((sd::dN).flatMap gP)/\∃ru,jY N.ρ ax=some ru/\(iO (p::ps) ru->bL (JM (List.range ai.length)) (p::ps) ru (lv.map LV.fM)):=by
   intro hp hp' hq hf;simp only [Option.bind_eq_some_iff,Option.some.injEq,Prod.mk.injEq,Prod.exists] at hf;obtain ⟨tv,u1,h1,as',u2,h2,rfl,rfl⟩:=hf;obtain ⟨v,pE,k1,k2,k3,k4,k5⟩:=AL hm hr.1 h1;obtain ⟨lv,yZ,q1,q2,q3,q6,q7,ru,q4,q5⟩:=qC hn (N:=N.upd u1) (h:=ah h pE) k4 hl (hr.2.mono fun _ _=>k3.rd) hq hle h2
   have hds:gP sd=kH sd:=by cases sd<;>first|rfl|(simp [si,lg] at h1)
   have hd:∀id off,d≠.loc id off:=by rintro id off rfl;simp [eP,gM] at k1
   have hdl:jR d=aO d:=by cases d<;>first|rfl|exact absurd rfl (hd _ _)
   have hla:aQ h (d::ds) (ai.take q)=(eP h d).bind fun p=>(aQ (ah h p.2) ds (ai.take q)).bind fun r=>some (LV.v p.1::r.1,r.2.1,p.2++r.2.2):=by cases d<;>first|rfl|exact absurd rfl (hd _ _)
   refine ⟨.v v::lv,pE++yZ,?_,?_,?_,?_,?_,.v v::ru,?_,fun hs=>?_⟩
   ·rw [hla,k1];simp [q1]
   ·rw [Nm.gK];exact k3.trans q2
   ·rw [Nm.gK,dz];exact q3
   ·rw [List.map_append,List.flatMap_cons,hds];exact gz.append k5 q6
   ·rw [List.flatMap_cons,List.flatMap_cons,hds,hdl];exact gz.append (iQ hr.1 (Cq h1)) q7
   ·have:jY N.ρ as'=some ru:=q4
    simp [jY,NG,k2,this]
   ·cases p with
    |one=>cases v with
     |full _ _=>exact hs.elim
     |one c=>exact ⟨show CD c (.c c) from .inl rfl,q5 hs⟩
     |agg cs=>exact hs.elim
    |agg m=>cases v with
     |full _ _=>exact hs.elim
     |one c=>exact hs.elim
     |agg cs=>exact ⟨⟨hs.1,VD.refl _⟩,q5 hs.2⟩
    |ref q o=>exact absurd rfl (hp q o)
    |bJ q o=>exact absurd rfl (hp' q o)
  cases p with
  |one=>exact gen (by simp) (by simp) (by simpa [gV] using hq) (by simpa [lW] using hf)
  |agg m=>exact gen (by simp) (by simp) (by simpa [gV] using hq) (by simpa [lW] using hf)
  |bJ g cs=>simp [gV] at hq
  |ref q' off=>
   simp only [gV] at hq;split at hq
   case isFalse=>cases hq
   rename_i hqq;obtain ⟨rfl,rfl⟩:=hqq;cases sd with
   |loc i o=>
    simp only [lW] at hf;split at hf
    case isFalse=>cases hf
    rename_i hc;obtain ⟨hc1,rfl⟩:=hc;simp only [Option.bind_eq_some_iff,Option.some.injEq,Prod.mk.injEq,Prod.exists] at hf;obtain ⟨as',u2,h2,rfl,rfl⟩:=hf;obtain ⟨hi,j,g1,g2⟩:=hr.1;obtain ⟨j',g3,_,g4⟩:=hl.get hc1;rw [g1] at g4;injection g4 with g4;subst g4
    have hlt:=(List.getElem?_eq_some_iff.1 g3).1;obtain ⟨lv,yZ,q1,q2,q3,q6,q7,ru,q4,q5⟩:=qC hn (q:=q'+1) hm hl hr.2 hq hlt h2;refine ⟨.ref q'::lv,yZ,?_,q2,q3,?_,?_,.ref q' 0::ru,?_,fun hs=>⟨⟨rfl,rfl,q',by simp [hlt],rfl⟩,q5 hs.2.2⟩⟩
    ·subst g2;simp only [aQ];rw [if_pos ⟨trivial,JK hn g3⟩,Nq g3,q1];have:(ai.take q').length=q':=by rw [List.length_take];omega
     simp [this]
    ·intro j2 hj2;obtain ⟨i2,a1,a2⟩:=q6 j2 hj2;exact ⟨i2,by rw [List.flatMap_cons];exact List.mem_append_right _ a1,a2⟩
    ·subst g2;rw [List.flatMap_cons,List.flatMap_cons];exact gz.append (fun j2 hj2=>by simp only [jR,List.mem_singleton] at hj2;subst hj2;exact ⟨i,by simp [gP],hi,g1⟩) q7
    ·simp [jY,NG,q4]
   |_=>simp [lW] at hf
theorem xu:∀{cs:List C} {ds:List D},aj CD cs ds->dU ds=some cs/\∀hp:Heap,eD hp ds=some (cs,[])
 |[],[],_=>⟨rfl,fun _=>rfl⟩
 |c::cs,d::ds,hr=>by
  obtain ⟨h1,h2⟩:=xu hr.2;rcases hr.1 with rfl|⟨xs,n,rfl,rfl⟩
  ·exact ⟨by simp [dU,h1],fun hp=>by simp [eD,gM,ah,h2]⟩
  ·exact ⟨by simp [dU,h1],fun hp=>by simp [eD,gM,ah,h2]⟩
 |[],_::_,hr=>hr.elim
 |_::_,[],hr=>hr.elim
theorem rD:∀{ms:List Nat} {xss:List (List C)} {ai:List Nat},bL (sJ h) ms xss ai->bW h ai=some xss
 |[],[],[],_=>rfl
 |m::ms,xs::xss,j::ai,hb=>by obtain ⟨_,ds,h1,h2⟩:=hb.1;simp [bW,h1,(xu h2).1,rD hb.2]
 |[],_::_,_,h1=>h1.elim
 |[],[],_::_,h1=>h1.elim
 |_::_,[],_,h1=>h1.elim
 |_::_,_::_,[],h1=>h1.elim
theorem LH:∀(bs:List (List C)) (q j:Nat) (cs:List C),bs[j]?=some cs->af (uX q bs) (q+j)=.box (cs.map .c)
 |[],_,_,_,hj=>by simp at hj
 |b::bs,q,0,cs,hj=>by simp only [List.getElem?_cons_zero,Option.some.injEq] at hj;subst hj;simp [uX,af]
 |b::bs,q,j+1,cs,hj=>by
  simp only [List.getElem?_cons_succ] at hj;have:=LH bs (q+1) j cs hj
  simp only [uX,af];rw [if_neg (by omega),show q+(j+1)=q+1+j by omega]
  exact this
theorem Ap:∀cs:List C,aj CD cs (cs.map .c)
 |[]=>trivial
 |_::cs=>⟨.inl rfl,Ap cs⟩
theorem LZ {hp:Heap}:∀{ms:List Nat} {xss:List (List C)} {q:Nat},aj (fun m (xs:List C)=>xs.length=m) ms xss->(∀j cs,xss[j]?=some cs->af hp (q+j)=.box (cs.map .c))->bL (sJ hp) ms xss ((List.range xss.length).map (q+·))
 |[],[],q,_,_=>trivial
 |m::ms,xs::xss,q,hs,hg=>by
  rw [List.length_cons,List.range_succ_eq_map,List.map_cons,List.map_map];refine ⟨⟨hs.1,_,hg 0 xs rfl,Ap xs⟩,?_⟩;have:=LZ (q:=q+1) hs.2 fun j cs hj=>by
   have:=hg (j+1) cs (by simpa using hj)
   rw [show q+1+j=q+(j+1) by omega];exact this
  have e:((fun x=>q+x) ∘ Nat.succ)=fun x=>q+1+x:=by funext x;simp;omega
  rw [e];exact this
 |[],_::_,_,hs,_=>hs.elim
 |_::_,[],_,hs,_=>hs.elim
theorem Bd:∀{ms:List Nat} {xss:List (List C)} {q:Nat} {hp:Heap},bL (sJ hp) ms xss ((List.range xss.length).map (q+·))->iV hp q xss.length=some (xss,[])
 |_,[],_,_,_=>rfl
 |m::ms,xs::xss,q,hp,hb=>by
  rw [List.length_cons,List.range_succ_eq_map,List.map_cons,List.map_map] at hb;obtain ⟨⟨_,ds,h1,h2⟩,hb⟩:=hb;have e:((fun x=>q+x) ∘ Nat.succ)=fun x=>q+1+x:=by funext x;simp;omega
  rw [e] at hb;have:=Bd hb
  rw [List.length_cons];simp only [Nat.add_zero] at h1;simp [iV,h1,(xu h2).2,ah,this]
 |[],_::_,_,_,hb=>by rw [List.length_cons,List.range_succ_eq_map,List.map_cons] at hb;exact hb.elim
theorem sJ.upd {hp:Heap} {us:List (Nat×Obj)} {k0:Nat} (hu:∀p∈us,k0<=p.1) {m:Nat} {xs:List C} {j:Nat} (hj:j < k0) (hb:sJ hp m xs j):sJ (ah hp us) m xs j:=by obtain ⟨h1,ds,h2,h3⟩:=hb;exact ⟨h1,ds,by rw [Bc fun p hp he=>by have:=hu p hp;omega];exact h2,h3⟩
theorem bL.mem3 {α β γ:Type} {R R':α->β->γ->Prop}:∀{ax:List α} {bs:List β} {cs:List γ},(∀a b c,c∈cs->R a b c->R' a b c)->bL R ax bs cs->bL R' ax bs cs
 |[],[],[],_,_=>trivial
 |_::_,_::_,_::_,h,h1=>⟨h _ _ _ (by simp) h1.1,bL.mem3 (fun a b c hc=>h a b c (by simp [hc])) h1.2⟩
 |[],_::_,_,_,h1=>h1.elim
 |[],[],_::_,_,h1=>h1.elim
 |_::_,[],_,_,h1=>h1.elim
 |_::_,_::_,[],_,h1=>h1.elim
theorem Dc:∀{ms:List Nat} {xss:List (List C)} {ai:List Nat} (hp:Heap),aj (fun m (xs:List C)=>xs.length=m) ms xss->ai.length=xss.length->ai.Nodup->
  bL (sJ (ah hp ((ai.zip xss).map fun p=>(p.1,Obj.box (p.2.map .c))))) ms xss ai/\∀j,j ∉ ai->af (ah hp ((ai.zip xss).map fun p=>(p.1,Obj.box (p.2.map .c)))) j=af hp j
 |[],[],[],hp,_,_,_=>⟨trivial,fun _ _=>rfl⟩
 |m::ms,xs::xss,j::ai,hp,hs,hl,hn=>by
  rw [List.nodup_cons] at hn;obtain ⟨h1,h2⟩:=Dc ((j,Obj.box (xs.map .c))::hp) hs.2 (by simpa using hl) hn.2
  simp only [List.zip_cons_cons,List.map_cons,ah];refine ⟨⟨⟨hs.1,xs.map .c,?_,Ap xs⟩,h1⟩,fun i hi=>?_⟩
  ·rw [h2 j hn.1];simp [af]
  ·simp only [List.mem_cons,not_or] at hi;rw [h2 i hi.2];simp [af,Ne.symm hi.1]
 |[],[],_::_,_,_,hl,_=>by simp at hl
 |[],_::_,_,_,hs,_,_=>hs.elim
 |_::_,[],_,_,hs,_,_=>hs.elim
 |_::_,_::_,[],_,_,hl,_=>by simp at hl
theorem MW:∀rs:List V,ko (rs.map V.fM)=sU rs
 |[]=>rfl
 |[_]=>rfl
 |_::_::_=>rfl
theorem om:∀{ps:List PS} {q m:Nat},gV q ps=some m->∀g cs,PS.bJ g cs ∉ ps
 |[],_,_,_,_,_=>by simp
 |.one::ps,q,m,h,g,cs=>by
  have:=om (ps:=ps) (q:=q) (m:=m) (by simpa [gV] using h) g cs
  simpa using this
 |.agg _::ps,q,m,h,g,cs=>by
  have:=om (ps:=ps) (q:=q) (m:=m) (by simpa [gV] using h) g cs
  simpa using this
 |.ref _ _::ps,q,m,h,g,cs=>by
  simp only [gV] at h;split at h
  ·have:=om h g cs
   simpa using this
  ·cases h
 |.bJ _ _::_,_,_,h,_,_=>by simp [gV] at h
theorem FJ:∀{ps:List PS} {dN:List SD} {q i:Nat},(∀g cs,PS.bJ g cs ∉ ps)->iJ ps dN q=some i->i∈dN.flatMap gP
 |[],_,q,i,_,h=>by simp [iJ] at h
 |.one::_,[],q,i,_,h=>by cases h
 |.agg _::_,[],q,i,_,h=>by cases h
 |.ref _ _::_,[],q,i,_,h=>by cases h
 |.bJ _ _::_,[],q,i,_,h=>by cases h
 |p::ps,sd::dN,q,i,hno,h=>by
  have rest:iJ ps dN q=some i->i∈(sd::dN).flatMap gP:=fun h=>by rw [List.flatMap_cons];exact List.mem_append_right _ (FJ (fun g cs hm=>hno g cs (List.mem_cons_of_mem _ hm)) h)
  cases p with
  |one=>exact rest (by simpa [iJ] using h)
  |agg m=>exact rest (by simpa [iJ] using h)
  |ref q' o=>
   cases sd with
   |loc i' o'=>
    simp only [iJ] at h;split at h
    ·simp only [Option.some.injEq] at h;subst h;simp [gP]
    ·exact rest h
   |_=>exact rest (by simpa [iJ] using h)
  |bJ g cs=>exact absurd (List.mem_cons_self ..) (hno g cs)
theorem Cc {ps:List PS} {dN:List SD} (hno:∀g cs,PS.bJ g cs ∉ ps):∀{m q:Nat} {bx:List Nat},lH ps dN q m=some bx->∀i∈bx,i∈dN.flatMap gP
 |0,_,bx,h=>by simp only [lH,Option.some.injEq] at h;subst h;simp
 |m+1,q,bx,h=>by
  simp only [lH,Option.bind_eq_some_iff,Option.some.injEq] at h;obtain ⟨i,h1,is,h2,rfl⟩:=h;intro j hj;simp only [List.mem_cons] at hj;rcases hj with rfl|hj
  ·exact FJ hno h1
  ·exact Cc hno h2 j hj
end
section
variable {b:Bs} {ρ:List W} {μ:Nat->Option Nat} {σ:Sy} {h:Heap} {k:Nat} {call:uL} {head:wu} {r:R} {F:nD} {sig:Nat->Option aN}
theorem YU {h:Heap} {k0 k1:Nat}:∀{ks:List RS} {vs:List V} {ds:List D},ks.all RS.Ty=true->bL (YP h k0) ks vs ds->bL (YP h k1) ks vs ds:=by
 have many:∀{ks:List CK} {cs:List C} {ds:List D},ks.all CK.Ty=true->bL (Uj h k0) ks cs ds->bL (Uj h k1) ks cs ds:=by
  intro ks;induction ks with
  |nil=>intro cs ds _ hr;cases cs<;>cases ds<;>first|trivial|exact hr.elim
  |cons ck ks ih=>
   intro cs ds hk hr;cases cs with
   |nil=>exact hr.elim
   |cons c cs=>cases ds with
    |nil=>exact hr.elim
    |cons d ds=>
     simp only [List.all_cons,Bool.and_eq_true] at hk;cases ck with
     |c=>exact ⟨hr.1,ih hk.2 hr.2⟩
     |_=>cases hk.1
 intro ks;induction ks with
 |nil=>intro vs ds _ hr;cases vs<;>cases ds<;>first|trivial|exact hr.elim
 |cons rs ks ih=>
  intro vs ds hk hr;cases vs with
  |nil=>exact hr.elim
  |cons v vs=>cases ds with
   |nil=>exact hr.elim
   |cons d ds=>
    simp only [List.all_cons,Bool.and_eq_true] at hk;refine ⟨?_,ih hk.2 hr.2⟩;cases rs with
    |one k=>cases v with
     |full _ _=>exact hr.1.elim
     |one c=>cases k with
      |c=>exact hr.1
      |_=>cases hk.1
     |agg cs=>exact hr.1.elim
    |agg XY=>cases v with
     |full _ _=>exact hr.1.elim
     |one c=>exact hr.1.elim
     |agg cs=>obtain ⟨es,h1,h2⟩:=hr.1;exact ⟨es,h1,many hk.1 h2⟩
theorem IJ {kt:SD->Sy->Nat->Tree} (hcall:iT F sig call) (hm:Rm b (nm ρ μ σ) h k σ.lens) {f:Nat} {dN:List SD} {ds:List D} (hds:aj (RD (nm ρ μ σ)) dN ds) (hd:az call head (DV sig σ ρ.length f dN kt) ρ=some r):
  ∃n0 d us,(∀n,n0<=n->mD (cK F n) h f ds=some (d,us))/\KU b ρ μ σ call head kt r d (ah h us) k/\gz (nm ρ μ σ) (ds.flatMap jR) (dN.flatMap gP)/\gz (nm ρ μ σ) (us.map (·.1)) (dN.flatMap gP):=by
 unfold DV at hd;split at hd
 case h_2=>cases hd
 rename_i s hs;split at hd
 case isFalse=>cases hd
 rename_i hup;unfold qw at hd;rw [hs] at hd;simp only at hd;by_cases Dx:s.nat=true\/s.cd f≠f
 ·rw [if_pos Dx] at hd;cases hd
 rw [if_neg Dx] at hd;have hsn:¬s.nat=true:=fun e=>Dx (.inl e)
 have hcf:s.cd f=f:=Classical.byContradiction fun e=>Dx (.inr e)
 simp only [Bool.false_eq_true,if_false] at hd;split at hd
 case isFalse=>cases hd
 rename_i hkind;split at hd
 case h_2=>cases hd
 rename_i bx hbx;split at hd
 case isFalse=>cases hd
 rename_i hnd;split at hd
 case h_2=>cases hd
 rename_i ax us hargs;split at hd
 case h_2=>cases hd
 rename_i bs hbs;have hlb:=sG hbx;obtain ⟨ai,hl⟩:=wK hds hbx;have hbn:=kX hnd;have hln:=fZ.nodup hm hl hbn;have hll:ai.length=s.boxes.length:=by rw [<-hlb];exact hl.len.symm
 obtain ⟨lv,pE,a1,a2,a3,a6,a7,ru,a4,a5⟩:=qC hln (q:=0) hm hl hds (by rw [hll];exact hup) (Nat.zero_le _) hargs
 obtain ⟨xss,c1,c2⟩:=ou (N:=(nm ρ μ σ).upd us) a3 hl hbs;have hxl:xss.length=ai.length:=by have:=c2.AB;omega
 cases hr:zS (bg (σ.upd us) bx s.boxes (ρ.length+(s.rs.map RS.shape).length)) s.rs ρ.length with
 |mk QZ σ2=>
  simp only [hr,az,Option.bind_eq_some_iff] at hd;obtain ⟨Xh,h1,xss',h2,rr,h3,hd⟩:=hd;have e1:Xh=ru:=by have:jY ρ ax=some ru:=a4;rw [h1] at this;injection this
  have e2:xss'=xss:=by have:uz ρ bs=some xss:=c1;rw [h2] at this;injection this
  subst e1 e2;obtain ⟨s',g1,g2,g3,g4⟩:=hcall _ _ _ _ h3;rw [hs] at g1;injection g1 with g1;subst g1
  have hrange:List.range ai.length=(List.range xss'.length).map (0+·):=by rw [hxl];simp
  have aeS:bL (sJ (uX 0 xss')) s.boxes xss' (List.range ai.length):=by rw [hrange];exact LZ g3 fun j cs hj=>LH xss' 0 j cs hj
  obtain ⟨n,rs,h',k',f1,f2,f3,f4,f5,f6,f7⟩:=(hcf▸(g4.1 (by simpa using hsn)).1) (uX 0 xss') xss'.length (List.range ai.length) (lv.map LV.fM) (a5 g2) aeS List.nodup_range (fun j hj=>by rw [List.mem_range] at hj;omega)
  unfold sized at hd;split at hd
  case isFalse=>cases hd
  rename_i hsz;obtain ⟨ws,w1,w2⟩:=jL hd;rw [List.drop_zero] at w1;obtain ⟨yss,w3,w4,w5⟩:=qi w2;have Yi:yss=rr.2:=by
   apply List.ext_getElem?;intro q;by_cases hq:q < s.boxes.length
   ·rw [<-w4 q hq,Nat.zero_add]
   ·have q1:yss.length=s.boxes.length:=w3.len.symm;rw [List.getElem?_eq_none (by omega),List.getElem?_eq_none (by rw [hsz.2];omega)]
  subst Yi;obtain ⟨yZ,d1,d2,_⟩:=qN (Ky f5);have hrl:rr.2.length=ai.length:=by rw [hsz.2,hll]
  have f4':bL (sJ (ah h' yZ)) s.boxes rr.2 (List.range ai.length):=f4.mem3 fun m xs j hj hb=>hb.upd d2 (by rw [List.mem_range] at hj;omega)
  have hba:iV (ah h' yZ) 0 xss'.length=some (rr.2,[]):=by
   have:=Bd (q:=0) (ms:=s.boxes) (xss:=rr.2) (hp:=ah h' yZ) (by rw [hrl];simpa using f4')
   rw [hxl,<-hrl];exact this
  have hev:∀m,n+1<=m->cK F m f lv xss'=some (rr.1,rr.2):=fun m hmn=>by refine ND hmn f lv xss' _ ?_;simp [cK,f1,d1,hba]
  have KL:aj (fun m (xs:List C)=>xs.length=m) s.boxes rr.2:=by
   have aux:∀{ms:List Nat} {xss:List (List C)} {l:List Nat} {hp:Heap},bL (sJ hp) ms xss l->aj (fun m (xs:List C)=>xs.length=m) ms xss:=by
    intro ms;induction ms with
    |nil=>intro xss l hp h;cases xss with|nil=>trivial|cons _ _=>exact h.elim
    |cons m ms ih=>intro xss l hp h;cases xss with|nil=>exact h.elim|cons _ _=>cases l with|nil=>exact h.elim|cons _ _=>exact ⟨h.1.1,ih h.2⟩
   exact aux f4
  obtain ⟨z1,z2⟩:=Dc (ai:=ai) (ah h pE) KL hrl.symm hln;obtain ⟨q1,q2⟩:=K6 (h:=ah h (pE++(ai.zip rr.2).map fun p=>(p.1,Obj.box (p.2.map .c)))) hkind f5 (A8 rr.1)
  have hmu:Rm b (nm (ρ++(ws++rr.2.map .l)) μ (σ.upd us)) (ah h pE) k (σ.upd us).lens:=a3.ext (ws++rr.2.map W.l);have hwl:(ρ++ws).length=ρ.length+(s.rs.map RS.shape).length:=by rw [List.length_append,w1.len]
  obtain ⟨v1,v2⟩:=Be (σ:=σ.upd us) (ρ:=ρ++(ws++rr.2.map W.l)) (pre:=ρ++ws) (xss:=rr.2) hmu hbn hlb hl (lX hbs) (Nat.le_refl k) (fun j _ hj=>z2 j hj) z1 (by rw [List.append_assoc])
  rw [hwl] at v1 v2;rw [<-dz] at v2;have q3:=YU (k0:=xss'.length) (k1:=k) hkind q1;obtain ⟨μ',p1,p2,p3,p4,_⟩:=yX (ρ:=ρ++(ws++rr.2.map .l)) (k0:=k) (pre:=ρ) (post:=rr.2.map .l) hm.le v2 w1 (by rw [List.append_assoc]) q3 (by rw [q2];exact List.nodup_nil) (by rw [q2];simp) hr
  refine ⟨n+1,sU rr.1,pE++(ai.zip rr.2).map fun p=>(p.1,Obj.box (p.2.map .c)),fun m hmn=>?_,⟨ws++rr.2.map .l,μ',σ2,JA QZ,p4.trans nK.1,((a2.trans (gu _ (ws++rr.2.map W.l))).trans v1).trans p1,p2,?_,?_⟩,a7,?_⟩
  ·have:aQ h ds []=some (lv,ai,pE):=by simpa using a1
   simp [mD,this,rD c2,hev m hmn,hrl]
  ·rw [<-MW];exact U5 p3
  ·rw [List.append_assoc] at w5;rw [show (ρ++(ws++rr.2.map W.l)).length=ρ.length+(s.rs.map RS.shape).length+s.boxes.length by have q1:=w1.len;have q2:=hsz.2;simp only [List.length_append,List.length_map] at *;omega]
   exact w5
  ·rw [List.map_append];intro j hj;rw [List.mem_append] at hj;rcases hj with hj|hj
   ·exact a6 j hj
   ·have hj':j∈ai:=by
     rw [List.map_map,List.mem_map] at hj;obtain ⟨p,hp,rfl⟩:=hj;exact (List.of_mem_zip hp).1
    obtain ⟨i,m1,m2,m3⟩:=fZ.mem hl j hj';exact ⟨i,Cc (om hup) hbx i m1,m2,m3⟩
end
end Go.Ey
namespace Go.Ey
open Go.RowKit
variable [bz]
def vT (P:Program) (f:Nat) (ds:List D) (h:Heap) (k:Nat) (rs:List D) (h':Heap) (nx':Nat):Prop:=
 dY P f/\∀(B:Nat) (S:Nat->Nat->Prop) (m:M) (us:List Value),m.h=h->um m k->bF B S m->bz.Inv B m.w->aj (aX B S m) ds us->
  Calls P f us.toArray m.w fun e w'=>∃(v:Value) (m':M),e=.returned v/\m'.w=w'/\m'.h=h'/\um m' nx'/\bF B S m'/\ak B S m m'/\aX B S m' (ko rs) v/\Below B m.w m'.w/\∀d,d∈rs->∀ds,d≠.dB ds
structure Table (P:Program) (ji:Nat->Nat) (F:nD):Prop where
 nat:∀f vs rs,F.nat f vs=some rs->bR P f vs rs
 EX:∀f b,F.EX f=some b->∀ds h k rs h' nx',b ds h k=some (rs,h',nx')->vT P f ds h k rs h' nx'
 ok:∀f I,F.code f=some I->∃fn,P.funcs[f]?=some fn/\xh P ji fn=some I/\(fn.name== "runtime.NumGoroutine")=false
 mixed:P.follows .mixedOrders=true
def Nw:Ex->Exit
 |.normal=> .normal
 |.exit id=> .exit id
 |.ret=> .ret
section
variable {P:Program} {ji:Nat->Nat} {F:nD}
def L6 (B:Nat) (S:Nat->Nat->Prop) (w0:World) (nt:Nat) (m:M) (s:St) (x:Ex) (s':St) (e:Exit) (a':Act) (w':World):Prop:=
 ∃m':M,m'.w=w'/\e=Nw x/\m'.h=s'.heap/\um m' s'.nx/\Rel B S w0 nt m' s'.env a'/\ak B S m m'
structure Sound (P:Program) (ji:Nat->Nat) (F:nD) (n:Nat):Prop where
 code:∀(c:Code) (ic:bC) (nt:Nat),comp P ji nt c=some ic->∀(B:Nat) (S:Nat->Nat->Prop) (w0:World) (s:St) (x:Ex) (s':St) (m:M) (a:Act),
  m.h=s.heap->um m s.nx->Rel B S w0 nt m s.env a->aI F n ic s=some (x,s')->c.wp P (L6 B S w0 nt m s x s') a m.w
 loop:∀(cb:Code) (ib:bC) (nt:Nat),comp P ji nt cb=some ib->∀(B:Nat) (S:Nat->Nat->Prop) (w0:World) (s:St) (x:Ex) (s':St) (m:M) (a:Act),
  m.h=s.heap->um m s.nx->Rel B S w0 nt m s.env a->aI F n (.loop ib) s=some (x,s')->
   ∀(b:Frame) (k:List Item) (cs:List Frame),∃e a' w',L6 B S w0 nt m s x s' e a' w'/\Arrives P (lone (b.at a (.code cb:: .inLoop cb::k)) cs m.w) b k cs e a' w'
 body:∀(f:Nat) (ds:List D) (h:Heap) (k:Nat) (rs:List D) (h':Heap) (nx':Nat),bQ F n f ds h k=some (rs,h',nx')->
  dY P f/\∀(B:Nat) (S:Nat->Nat->Prop) (m:M) (us:List Value),m.h=h->um m k->bF B S m->bz.Inv B m.w->aj (aX B S m) ds us->
   Calls P f us.toArray m.w fun e w'=>∃(v:Value) (m':M),e=.returned v/\m'.w=w'/\m'.h=h'/\um m' nx'/\bF B S m'/\ak B S m m'/\aX B S m' (ko rs) v/\Below B m.w m'.w/\∀d,d∈rs->∀ds,d≠.dB ds
 fn:∀f vs rs,fQ F n f vs=some rs->bR P f vs rs
 ai:∀f ax bs rs bs',cK F n f ax bs=some (rs,bs')->qd P f ax bs rs bs'
theorem EA {fn:Func} {I:uP} (h:xh P ji fn=some I):
  ∃c ic,fn.body=some c/\comp P ji fn.ntmps c=some ic/\iR P fn.results.toList=some I.res/\I.body=ic/\I.nparams=fn.params.size+fn.nfree/\fn.params.size+fn.nfree<=fn.ntmps:=by
 unfold xh at h;simp only [Option.bind_eq_bind,Option.bind_eq_some_iff,Prod.exists] at h;obtain ⟨c,h1,ic,h2,rs,h3,h4⟩:=h;split at h4
 ·rename_i hc;simp only [Option.some.injEq] at h4;subst h4;exact ⟨c,ic,h1,h2,h3,rfl,rfl,hc⟩
 ·cases h4
theorem EI {B:Nat} {S:Nat->Nat->Prop} {w0:World} {nt:Nat} {m:M} {e:Env} {a:Act} (hr:Rel B S w0 nt m e a):∀{vars:List ResultVar} {rs:List RP} {ds:List D},iR P vars=some rs->oG e m.h rs=some ds->
  ∃us:List Value,(vars.mapM (fun v=>match v with|ResultVar.tmp t=>(pure (a.tmps.getD t undef):Sem Value)|ResultVar.cell x t=>do loadVar t (<-asAddr (a.tmps.getD x undef)))).run P m.w=.ok us m.w/\aj (fO B S m) ds us/\∀d,d∈ds->∀ds,d≠.dB ds
 |[],rs,ds,hc,hd=>by simp only [iR,Option.some.injEq] at hc;subst hc;simp only [oG,Option.some.injEq] at hd;subst hd;exact ⟨[],rfl,trivial,by simp⟩
 |.tmp t::vars,rs,ds,hc,hd=>by
  simp only [iR,Option.bind_eq_bind,Option.bind_eq_some_iff,Option.some.injEq] at hc;obtain ⟨rs',h1,rfl⟩:=hc;simp only [oG,Option.bind_eq_bind,Option.bind_eq_some_iff] at hd;obtain ⟨ds',h2,h3⟩:=hd;obtain ⟨us,h4,h5,h6⟩:=EI hr h1 h2;have J4:=hr.env t;have hA:∃d,ds=d::ds'/\fO B S m d (a.tmps.getD t undef)/\∀q,d≠.dB q:=by
   cases hg:bS e t with
   |dB q=>rw [hg] at h3;cases h3
   |_=>rw [hg] at h3 J4;simp only [Option.some.injEq] at h3;exact ⟨_,h3.symm,J4,fun q h=>by cases h⟩
  obtain ⟨d,rfl,hA1,hA2⟩:=hA;refine ⟨a.tmps.getD t undef::us,?_,⟨hA1,h5⟩,fun d' hd'=>?_⟩
  ·simp only [List.mapM_cons,Sem.run_bind,Sem.run_pure,Result.andThen_ok,h4]
  ·simp only [List.mem_cons] at hd';rcases hd' with rfl|hd'
   ·exact hA2
   ·exact h6 d' hd'
 |.cell x t::vars,rs,ds,hc,hd=>by
  simp only [iR,Option.bind_eq_bind,Option.bind_eq_some_iff,Option.some.injEq] at hc;obtain ⟨agg,g1,i,g2,rs',h1,rfl⟩:=hc;simp only [oG,Option.bind_eq_bind,Option.bind_eq_some_iff,Option.some.injEq] at hd;obtain ⟨d,h0,ds',h2,rfl⟩:=hd;obtain ⟨us,h4,h5,h6⟩:=EI hr h1 h2;obtain ⟨ad,v,e1,e2,e3⟩:=FY hr.hok g1 g2 (hr.env x) h0;refine ⟨v::us,?_,⟨e3,h5⟩,fun d' hd'=>?_⟩
  ·have hA:(asAddr (.pointer (some ad))).run P m.w=.ok ad m.w:=rfl;simp only [List.mapM_cons,Sem.run_bind,e1,hA,Sem.run_pure,Result.andThen_ok,e2,h4]
  ·simp only [List.mem_cons] at hd';rcases hd' with rfl|hd'
   ·intro q hq;subst hq;exact e3.elim
   ·exact h6 d' hd'
theorem zY {B:Nat} {S:Nat->Nat->Prop} {w0:World} {nt:Nat} {m:M} {e:Env} {a:Act} (hr:Rel B S w0 nt m e a) {fn:Func} {rs:List RP} {ds:List D} (hc:iR P fn.results.toList=some rs) (hd:oG e m.h rs=some ds):
  ∃v,(results fn a.tmps).run P m.w=.ok v m.w/\aX B S m (ko ds) v/\∀d,d∈ds->∀ds,d≠.dB ds:=by
 obtain ⟨us,h1,h2,h3⟩:=EI hr hc hd;have hrun:(fn.results.mapM (fun v=>match v with|ResultVar.tmp t=>(pure (a.tmps.getD t undef):Sem Value)|ResultVar.cell x t=>do loadVar t (<-asAddr (a.tmps.getD x undef)))).run P m.w=.ok us.toArray m.w:=by rw [Array.mapM_eq_mapM_toList,Sem.run_map,h1];rfl
 refine ⟨if h:us.toArray.size=1 then us.toArray[0] else .tuple us.toArray,?_,?_,h3⟩
 ·unfold results;simp only [Sem.run_bind,Sem.run_pure];exact congrArg (fun r:Result (Array Value)=>r.andThen fun a w'=>Result.ok (if h:a.size=1 then a[0] else Value.tuple a) w') hrun
 ·match ds,us,h2 with
  |[d],[u],h2=>exact h2.1.fM
  |[],[],h2=>exact ⟨[],rfl,trivial⟩
  |d::d'::ds,u::u'::us,h2=>exact ⟨u::u'::us,rfl,h2⟩
theorem uC:∀(ds:List D) (k t:Nat),bS (dZ k ds) t=if k<=t then (ds[t - k]?).getD .fK else .fK
 |[],k,t=>by simp [dZ,bS]
 |d::ds,k,t=>by
  simp only [dZ,bS];by_cases h:k=t
  ·subst h;simp
  ·rw [if_neg h,uC ds (k+1) t];by_cases h2:k+1<=t
   ·rw [if_pos h2,if_pos (by omega),show t - k=(t - (k+1))+1 by omega]
    simp
   ·rw [if_neg h2,if_neg (by omega)]
theorem Ju:Sound P ji F 0 where
 code:=by intro c ic nt _ B S w0 s x s' m a _ _ _ h;simp [aI] at h
 loop:=by intro cb ib nt _ B S w0 s x s' m a _ _ _ h;simp [aI] at h
 body:=by intro f ds h nx rs h' nx' hh;simp [bQ] at hh
 fn:=by intro f vs rs hh;simp [fQ] at hh
 ai:=by intro f ax bs rs bs' hh;simp [cK] at hh
theorem zw {n:Nat} (ih:Sound P ji F n):∀(cb:Code) (ib:bC) (nt:Nat),comp P ji nt cb=some ib->∀(B:Nat) (S:Nat->Nat->Prop) (w0:World) (s:St) (x:Ex) (s':St) (m:M) (a:Act),
  m.h=s.heap->um m s.nx->Rel B S w0 nt m s.env a->aI F (n+1) (.loop ib) s=some (x,s')->
   ∀(b:Frame) (k:List Item) (cs:List Frame),∃e a' w',L6 B S w0 nt m s x s' e a' w'/\Arrives P (lone (b.at a (.code cb:: .inLoop cb::k)) cs m.w) b k cs e a' w':=by
 intro cb ib nt h1 B S w0 s x s' m a hh hU hr hev b k cs;simp only [aI,Option.bind_eq_bind,Option.bind_eq_some_iff,Prod.exists] at hev;obtain ⟨x1,s1,h3,h4⟩:=hev;have hbody:=ih.code _ _ _ h1 B S w0 s x1 s1 m a hh hU hr h3;obtain ⟨e1,a1,w1,hq,harr⟩:=hbody b (.inLoop cb::k) cs;obtain ⟨m1,rfl,rfl,q1,q2,q3,q5⟩:=hq;cases x1 with
 |normal=>
  simp only at h4;obtain ⟨e2,a2,w2,hq2,Z7⟩:=ih.loop cb ib nt h1 B S w0 s1 x s' m1 a1 q1 q2 q3 h4 b k cs;obtain ⟨m2,rfl,rfl,r1,r2,r3,r5⟩:=hq2;refine ⟨Nw x,a2,m2.w,⟨m2,rfl,rfl,r1,r2,r3,q5.trans r5⟩,?_⟩;have hstart:Steps P (lone (b.at a (.code cb:: .inLoop cb::k)) cs m.w) (lone (b.at a1 (.inLoop cb::k)) cs m1.w):=harr;exact .of_steps (hstart.trans (.one step_inLoop)) Z7
 |exit id=>
  simp only [Option.some.injEq,Prod.mk.injEq] at h4;obtain ⟨rfl,rfl⟩:=h4;exact ⟨Nw (.exit id),a1,m1.w,⟨m1,rfl,rfl,q1,q2,q3,q5⟩,.pass (x:=.inLoop cb) rfl (fun _ _=> .inl (by simp [Nw])) harr⟩
 |ret=>
  simp only [Option.some.injEq,Prod.mk.injEq] at h4;obtain ⟨rfl,rfl⟩:=h4;exact ⟨Nw .ret,a1,m1.w,⟨m1,rfl,rfl,q1,q2,q3,q5⟩,.pass (x:=.inLoop cb) rfl (fun _ _=> .inl (by simp [Nw])) harr⟩
theorem I4 (hT:Table P ji F) {n:Nat} (ih:Sound P ji F n):∀(c:Code) (ic:bC) (nt:Nat),comp P ji nt c=some ic->
  ∀(B:Nat) (S:Nat->Nat->Prop) (w0:World) (s:St) (x:Ex) (s':St) (m:M) (a:Act),m.h=s.heap->um m s.nx->Rel B S w0 nt m s.env a->aI F (n+1) ic s=some (x,s')->c.wp P (L6 B S w0 nt m s x s') a m.w:=by
 intro c ic nt hc B S w0 s x s' m a hh hU hr hev;unfold comp at hc;split at hc
 ·simp only [Option.some.injEq] at hc;subst hc;simp only [aI,Option.some.injEq,Prod.mk.injEq] at hev;obtain ⟨rfl,rfl⟩:=hev;exact wp_skip ⟨m,rfl,rfl,hh,hU,hr,ak.refl m⟩
 ·simp only [Option.some.injEq] at hc;subst hc;simp only [aI,Option.some.injEq,Prod.mk.injEq] at hev;obtain ⟨rfl,rfl⟩:=hev;exact wp_ret ⟨m,rfl,rfl,hh,hU,hr,ak.refl m⟩
 ·simp only [Option.some.injEq] at hc;subst hc;simp only [aI,Option.some.injEq,Prod.mk.injEq] at hev;obtain ⟨rfl,rfl⟩:=hev;exact wp_exit ⟨m,rfl,rfl,hh,hU,hr,ak.refl m⟩
 ·rename_i id ops;simp only [Option.bind_eq_bind,Option.bind_eq_some_iff,Option.some.injEq] at hc;obtain ⟨is,h1,rfl⟩:=hc;simp only [aI,Option.bind_eq_bind,Option.bind_eq_some_iff,Option.some.injEq,Prod.mk.injEq] at hev;obtain ⟨s1,h3,rfl,rfl⟩:=hev;refine wp_region_list (seq_ok ih.fn ih.body ops.toList is h1 s s1 m a hh hU hr h3 fun a' m' q1 q2 q4 q5=>?_)
  exact ⟨m',rfl,rfl,q1,q2,q5,q4⟩
 ·rename_i id ops;simp only [Option.bind_eq_bind,Option.bind_eq_some_iff] at hc;obtain ⟨is,h1,h2⟩:=hc;split at h2
  case isFalse=>cases h2
  rename_i hdn;split at h2
  ·rename_i hns;simp only [Option.some.injEq] at h2;subst h2;simp only [aI,Option.bind_eq_bind,Option.bind_eq_some_iff,Prod.exists] at hev;obtain ⟨e1,h1',ts,h3,h4⟩:=hev;split at h4
   case isFalse=>cases h4
   rename_i hdr;simp only [Option.some.injEq,Prod.mk.injEq] at h4;obtain ⟨rfl,rfl⟩:=h4;refine Sg hT.mixed ih.fn ih.ai h1 hns hdn hh hU hr h3 hdr fun a' m' q1 q2 q3 q4=>?_
   exact ⟨m',rfl,rfl,q1,q2,q4,q3⟩
  ·split at h2
   case isFalse=>cases h2
   rename_i hmx;simp only [Option.some.injEq] at h2;subst h2;simp only [aI,Option.bind_eq_bind,Option.bind_eq_some_iff,Prod.exists] at hev;obtain ⟨e1,h1',n1,ts,h3,h4⟩:=hev;split at h4
   case isFalse=>cases h4
   rename_i hdr;simp only [Option.some.injEq,Prod.mk.injEq] at h4;obtain ⟨rfl,rfl⟩:=h4;refine XD hT.mixed ih.fn ih.ai ih.body h1 hmx hdn hh hU hr h3 hdr fun a' m' q1 q2 q3 q4=>?_
   exact ⟨m',rfl,rfl,q1,q2,q4,q3⟩
 ·rename_i ca cb;simp only [Option.bind_eq_bind,Option.bind_eq_some_iff,Option.some.injEq] at hc;obtain ⟨ia,h1,ib,h2,rfl⟩:=hc;simp only [aI,Option.bind_eq_bind,Option.bind_eq_some_iff,Prod.exists] at hev;obtain ⟨x1,s1,h3,h4⟩:=hev;refine wp_seq (wp_mono (ih.code _ _ _ h1 B S w0 s x1 s1 m a hh hU hr h3) fun e a1 w1 hp=>?_)
  obtain ⟨m1,rfl,rfl,q1,q2,q3,q5⟩:=hp;cases x1 with
  |normal=>
   simp only at h4;refine wp_mono (ih.code _ _ _ h2 B S w0 s1 x s' m1 a1 q1 q2 q3 h4) fun e a2 w2 hp2=>?_
   obtain ⟨m2,rfl,rfl,r1,r2,r3,r5⟩:=hp2;exact ⟨m2,rfl,rfl,r1,r2,r3,q5.trans r5⟩
  |exit id=>
   simp only [Option.some.injEq,Prod.mk.injEq] at h4;obtain ⟨rfl,rfl⟩:=h4;exact ⟨m1,rfl,rfl,q1,q2,q3,q5⟩
  |ret=>
   simp only [Option.some.injEq,Prod.mk.injEq] at h4;obtain ⟨rfl,rfl⟩:=h4;exact ⟨m1,rfl,rfl,q1,q2,q3,q5⟩
 ·rename_i cc ca cb;simp only [Option.bind_eq_bind,Option.bind_eq_some_iff,Option.some.injEq] at hc;obtain ⟨X',hx,ia,h1,ib,h2,rfl⟩:=hc;simp only [aI,Option.bind_eq_bind,Option.bind_eq_some_iff] at hev;obtain ⟨t,h3,h4⟩:=hev;have e1:=hr.opd cc X' hx;rw [xV h3] at e1;refine wp_cond e1.lit ?_;cases t with
  |true=>exact ih.code _ _ _ h1 B S w0 s x s' m a hh hU hr h4
  |false=>exact ih.code _ _ _ h2 B S w0 s x s' m a hh hU hr h4
 ·rename_i id cb;simp only [Option.bind_eq_bind,Option.bind_eq_some_iff,Option.some.injEq] at hc;obtain ⟨ib,h1,rfl⟩:=hc;simp only [aI,Option.bind_eq_bind,Option.bind_eq_some_iff,Prod.exists] at hev;obtain ⟨x1,s1,h3,h4⟩:=hev;refine wp_block (wp_mono (ih.code _ _ _ h1 B S w0 s x1 s1 m a hh hU hr h3) fun e a1 w1 hp=>?_)
  obtain ⟨m1,rfl,rfl,q1,q2,q3,q5⟩:=hp;cases x1 with
  |normal=>
   simp only [Option.some.injEq,Prod.mk.injEq] at h4;obtain ⟨rfl,rfl⟩:=h4;exact ⟨m1,rfl,rfl,q1,q2,q3,q5⟩
  |ret=>
   simp only [Option.some.injEq,Prod.mk.injEq] at h4;obtain ⟨rfl,rfl⟩:=h4;exact ⟨m1,rfl,rfl,q1,q2,q3,q5⟩
  |exit id'=>
   simp only at h4;show (if id'=id then _ else _)
   split at h4
   ·rename_i he;rw [if_pos he];simp only [Option.some.injEq,Prod.mk.injEq] at h4;obtain ⟨rfl,rfl⟩:=h4;exact ⟨m1,rfl,rfl,q1,q2,q3,q5⟩
   ·rename_i he;rw [if_neg he];simp only [Option.some.injEq,Prod.mk.injEq] at h4;obtain ⟨rfl,rfl⟩:=h4;exact ⟨m1,rfl,rfl,q1,q2,q3,q5⟩
 ·rename_i cb;simp only [Option.bind_eq_bind,Option.bind_eq_some_iff,Option.some.injEq] at hc;obtain ⟨ib,h1,rfl⟩:=hc;intro b k cs;obtain ⟨e1,a1,w1,hq,harr⟩:=zw ih cb ib nt h1 B S w0 s x s' m a hh hU hr hev b k cs;exact ⟨e1,a1,w1,hq,.of_steps (.one step_loop) harr⟩
 ·cases hc
theorem J2 (hT:Table P ji F) {n:Nat} (ih:Sound P ji F n):∀(f:Nat) (ds:List D) (h:Heap) (k:Nat) (rs:List D) (h':Heap) (nx':Nat),bQ F (n+1) f ds h k=some (rs,h',nx')->
  dY P f/\∀(B:Nat) (S:Nat->Nat->Prop) (m:M) (us:List Value),m.h=h->um m k->bF B S m->bz.Inv B m.w->aj (aX B S m) ds us->
   Calls P f us.toArray m.w fun e w'=>∃(v:Value) (m':M),e=.returned v/\m'.w=w'/\m'.h=h'/\um m' nx'/\bF B S m'/\ak B S m m'/\aX B S m' (ko rs) v/\Below B m.w m'.w/\∀d,d∈rs->∀ds,d≠.dB ds:=by
 intro f ds h k rs h' nx' hev;rw [bQ] at hev;split at hev
 ·rename_i b hb;exact hT.EX f b hb ds h k _ _ _ hev
 simp only [Option.bind_eq_bind,Option.bind_eq_some_iff] at hev;obtain ⟨I,hI,hev⟩:=hev;split at hev
 case isFalse=>cases hev
 rename_i hlen;simp only [Option.bind_eq_some_iff,Prod.exists] at hev;obtain ⟨x,s1,h1,h2⟩:=hev;obtain ⟨fn,g1,g2,g3⟩:=hT.ok f I hI;obtain ⟨c,ic,b1,b2,b3,b4,b5,b6⟩:=EA g2;refine ⟨⟨fn,g1,by rw [b1];rfl,g3⟩,fun B S m us hh hU hk hinv hall=>?_⟩
 have hus:us.length=fn.params.size+fn.nfree:=by rw [<-hall.len,hlen,b5]
 have hfin:∃Bw,oG s1.env s1.heap I.res=some Bw/\rs=Bw/\h'=s1.heap/\nx'=s1.nx/\x≠.exit 0/\(∀id,x≠.exit id):=by
  cases x with
  |exit id=>simp at h2
  |normal=>
   simp only [Option.bind_eq_some_iff,Option.some.injEq,Prod.mk.injEq] at h2;obtain ⟨Bw,h3,rfl,rfl,rfl⟩:=h2;exact ⟨Bw,h3,rfl,rfl,rfl,by simp,by simp⟩
  |ret=>
   simp only [Option.bind_eq_some_iff,Option.some.injEq,Prod.mk.injEq] at h2;obtain ⟨Bw,h3,rfl,rfl,rfl⟩:=h2;exact ⟨Bw,h3,rfl,rfl,rfl,by simp,by simp⟩
 obtain ⟨Bw,hres,rfl,rfl,rfl,_,hnx⟩:=hfin;refine calls_of_wp g1 b1 ?_;have hsz:us.toArray.size=fn.params.size+fn.nfree:=by simpa using hus
 have hrel:Rel B S m.w fn.ntmps m (dZ 0 ds) { tmps:=us.toArray++Array.replicate (fn.ntmps - us.toArray.size) undef,defers:=[]}:=by
  refine ⟨rfl,by simp;omega,fun t=>?_,hk,Below.refl _ _,hinv⟩
  rw [uC];simp only [Nat.zero_le,if_true,Nat.sub_zero];cases hd:ds[t]? with
  |none=>trivial
  |some d=>
   obtain ⟨u,hu,hR⟩:=hall.get t hd;have:(us.toArray++Array.replicate (fn.ntmps - us.toArray.size) undef).getD t undef=u:=by have hlt:t < us.length:=(List.getElem?_eq_some_iff.1 hu).1;simp [Array.getElem?_append,hlt];exact (List.getElem?_eq_some_iff.1 hu).2
   rw [this];exact hR
 rw [b4] at h1;have hwp:=ih.code c ic fn.ntmps b2 B S m.w ⟨dZ 0 ds,h,k⟩ x s1 m _ hh hU hrel h1;refine wp_mono hwp fun e a' w' hp=>?_
 obtain ⟨m',rfl,rfl,q1,q2,q3,q5⟩:=hp;obtain ⟨v,r1,r2,r3⟩:=zY q3 b3 (by rw [q1];exact hres)
 have hpost:a'.defers=[]/\∃v,(results fn a'.tmps).run P m'.w=.ok v m'.w/\(∃(v':Value) (m'':M),Ending.returned v=.returned v'/\m''.w=m'.w/\m''.h=s1.heap/\um m'' s1.nx/\bF B S m''/\ak B S m m''/\aX B S m'' (ko rs) v'/\Below B m.w m''.w/\∀d,d∈rs->∀ds,d≠.dB ds):=
  ⟨q3.defers,v,r1,v,m',rfl,rfl,q1,q2,q3.hok,q5,r2,q3.below,r3⟩
 cases x with
 |exit id=>exact absurd rfl (hnx id)
 |normal=>exact hpost
 |ret=>exact hpost
theorem bA.abU {B:Nat} {S:Nat->Nat->Prop} {m:M} (h0:∀id,af m.h id=.dead) {v:V} {u:Value} (h:bA m.w S v u):aX B S m v.fM u:=by
 have h1:bA m.w (Safe B S m) v u:=bA.weaken (fun b o hs _=>⟨hs,fun id=>by rw [h0];trivial⟩) h
 exact (bA.fM h1).fM
theorem PR (hT:Table P ji F) {n:Nat} (ih:Sound P ji F n):∀f vs rs,fQ F (n+1) f vs=some rs->bR P f vs rs:=by
 intro f vs rs hev;rw [fQ] at hev;split at hev
 ·rename_i rs' hn;simp only [Option.some.injEq] at hev;subst hev;exact hT.nat f vs _ hn
 simp only [Option.bind_eq_bind,Option.bind_eq_some_iff,Prod.exists,Option.some.injEq] at hev;obtain ⟨ds,h,nx,h1,rs',iB,h2,rfl⟩:=hev;obtain ⟨hc,hb⟩:=ih.body f _ _ _ ds h nx h1;refine ⟨hc,fun S w us hinv hall=>?_⟩
 have hk:bF w.heap.size (fun b o=>b < w.heap.size->S b o) ⟨w,[],fun _=>0,fun i=>i < 0⟩:=⟨fun id=>trivial,fun i j hi _ _=>absurd rfl hi,fun _ _=>rfl,Nat.le_refl _,fun b o hb h=>absurd h (Nat.not_lt.2 hb),fun id cs aa fz ety hg=>by cases hg⟩
 have aa1:aj (aX w.heap.size (fun b o=>b < w.heap.size->S b o) ⟨w,[],fun _=>0,fun i=>i < 0⟩) (vs.map V.fM) us:=hall.map_mono fun v u hv=>bA.abU (B:=w.heap.size) (S:=fun b o=>b < w.heap.size->S b o) (m:=⟨w,[],fun _=>0,fun i=>i < 0⟩) (fun _=>rfl) (bA.weaken (J8:=fun b o=>b < w.heap.size->S b o) (fun b o hs _ _=>hs) hv)
 refine (hb w.heap.size (fun b o=>b < w.heap.size->S b o) ⟨w,[],fun _=>0,fun i=>i < 0⟩ us rfl (fun _ hx=>hx) hk hinv aa1).mono fun e w' ⟨v,m',q1,q2,q3,q4,q5,_,q7,q8,q9⟩=>?_
 subst q1 q2;refine ⟨v,rfl,?_,q8⟩;have weak:∀{h'':Heap} {r:V} {u:Value},bA m'.w (Safe w.heap.size (fun b o=>b < w.heap.size->S b o) (m'.heap h'')) r u->bA m'.w (fun b o=>b < w.heap.size->S b o) r u:=fun hr=>bA.weaken (fun b o hs _=>hs.1) hr
 rw [<-q3] at h2
 match ds,q7,h2,q9 with
 |[d],q7,h2,q9=>
  simp only [bY,Option.bind_eq_bind,Option.bind_eq_some_iff,Prod.exists,Option.some.injEq,Prod.mk.injEq] at h2;obtain ⟨c,x,h3,cs',xs',⟨rfl,rfl⟩,rfl,rfl⟩:=h2;have hA:fO w.heap.size (fun b o=>b < w.heap.size->S b o) m' d v:=by
   cases d with
   |dB q=>exact absurd rfl (q9 (.dB q) (by simp) q)
   |_=>exact q7
  exact weak (qI q5 hA h3).2.2
 |[],q7,h2,q9=>
  simp only [bY,Option.some.injEq,Prod.mk.injEq] at h2;obtain ⟨rfl,rfl⟩:=h2;obtain ⟨vs',rfl,hv⟩:=q7;cases vs' with
  |nil=>exact ⟨[],rfl,trivial⟩
  |cons _ _=>exact hv.elim
 |d::d'::ds,q7,h2,q9=>
  obtain ⟨vs',rfl,hv⟩:=q7;have h3:=(Ad q5 hv h2).2.2;have hlen:=h3.len
  match rs',h3 with
  |[],h3=>cases vs' with|nil=>exact hv.elim|cons _ _=>exact h3.elim
  |[r],h3=>
   exfalso;have:=hv.len
   rw [<-hlen] at this;simp at this
  |r::r'::afg,h3=>exact ⟨vs',rfl,h3.mono fun _ _ h=>weak h⟩
theorem IX {n:Nat} (ih:Sound P ji F n):∀f ax bs rs bs',cK F (n+1) f ax bs=some (rs,bs')->qd P f ax bs rs bs':=by intro f ax bs rs bs' h;simp only [cK,Option.bind_eq_bind,Option.bind_eq_some_iff,Prod.exists,Option.some.injEq,Prod.mk.injEq] at h;obtain ⟨ds,h',n',h1,rs',us,h2,bs1,us',h3,rfl,rfl⟩:=h;exact ⟨ds,h',n',us,us',ih.body _ _ _ _ _ _ _ h1,h2,h3⟩
theorem sound (hT:Table P ji F):∀n,Sound P ji F n
 |0=>Ju
 |n+1=>⟨I4 hT (sound hT n),zw (sound hT n),J2 hT (sound hT n),PR hT (sound hT n),IX (sound hT n)⟩
theorem Ho (hT:Table P ji F) {n f:Nat} {vs rs:List V} (h:fQ F n f vs=some rs):bR P f vs rs:=(sound hT n).fn f vs rs h
end
end Go.Ey
