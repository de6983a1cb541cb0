/- A part. -/
import Derived.Test.YtpnjgiplhijhpaaGreatDoorRY05
set_option linter.all false
namespace Go.Ey
def CD (c:C) (d:D):Prop:=d=.c c\/∃cs n,c=.slice cs n/\d=.full cs n
theorem CD.lit {v:Value} {d:D} (h:CD (.lit v) d):d=.c (.lit v):=by
 rcases h with h|⟨cs,n,h,_⟩
 ·exact h
 ·cases h
theorem dz (h:Heap) (us vs:List (Nat×Obj)):ah h (us++vs)=ah (ah h us) vs:=by
 induction us generalizing h with
 |nil=>rfl
 |cons u us ih=>exact ih _
theorem xW (h:List (Nat×SO)) (us vs:List (Nat×SO)):sP h (us++vs)=sP (sP h us) vs:=by
 induction us generalizing h with
 |nil=>rfl
 |cons u us ih=>exact ih _
def Nm.upd (N:Nm) (us:List (Nat×SO)):Nm:={ N with hs:=sP N.hs us}
theorem Nm.gK (N:Nm) (us vs:List (Nat×SO)):N.upd (us++vs)=(N.upd us).upd vs:=by simp only [Nm.upd,xW]
section
variable {b:Bs} {N:Nm} {h:Heap} {k:Nat} {lens:List (Nat×Nat)}
def Wr (N:Nm) (us:List (Nat×Obj)) (ids:List Nat):Prop:=∀j,j∈us.map (·.1)->∃i∈ids,i < N.nx/\N.μ i=some j
theorem Wr.nil {N:Nm} {ids:List Nat}:Wr N [] ids:=fun j hj=>by simp at hj
theorem Wr.mono {N:Nm} {us:List (Nat×Obj)} {ids ids':List Nat} (h:Wr N us ids) (hs:∀i∈ids,i∈ids'):Wr N us ids':=fun j hj=>by obtain ⟨i,h1,h2⟩:=h j hj;exact ⟨i,hs i h1,h2⟩
theorem Wr.append {N:Nm} {us vs:List (Nat×Obj)} {ids:List Nat} (h:Wr N us ids) (h':Wr N vs ids):Wr N (us++vs) ids:=fun j hj=>by rw [List.map_append,List.mem_append] at hj;exact hj.elim (h j) (h' j)
theorem Rm.arr (hm:Rm b N h k lens) {i:Nat} {x:At} {aa ety:Nat} {fr al:Bool} (hg:aM N.hs i=.arr x aa ety fr al):
  ∃cs n,aV N.ρ x=some (.slice cs n)/\cs.length=n * aa/\
   ((∃j fz,N.μ i=some j/\af h j=.arr cs aa fz ety/\0 < aa/\fz<=cs.length/\(fr=false->fz=0))\/(N.μ i=none/\al=false/\(fr=false->cs=[]/\n=0))):=by
 have:=hm.obj i
 rw [hg] at this;exact this
theorem Rm.box (hm:Rm b N h k lens) {i:Nat} {ds:List SD} (hg:aM N.hs i=.box ds):∃j ds',N.μ i=some j/\af h j=.box ds'/\aj (jo N) ds ds':=by
 have:=hm.obj i
 rw [hg] at this;exact this
theorem Rm.mark (hm:Rm b N h k lens) {i:Nat} {x:At} {aa ety:Nat} {fr al:Bool} (hg:aM N.hs i=.arr x aa ety fr al) {h':Heap}
  (hh:h'=h\/∃j cs n fz gX,N.μ i=some j/\aV N.ρ x=some (.slice cs n)/\af h j=.arr cs aa fz ety/\gX<=cs.length/\h'=(j,.arr cs aa gX ety)::h):
  fG N (N.set i (.arr x aa ety true al))/\Rm b (N.set i (.arr x aa ety true al)) h' k lens:=by
 have hi:i < N.nx:=hm.Vb (by rw [hg];simp)
 refine hm.set hi (fun j hj=>?_) (fun y' e t fr' al' he=>?_) fun hv=>?_
 ·rcases hh with rfl|⟨j',cs,n,fz,gX,h1,_,_,_,rfl⟩
  ·rfl
  ·have:j'≠j:=fun e=>hj (e▸h1)
   simp [af,this]
 ·injection he with e1 e2 e3 e4 e5;subst e1 e2 e3 e4 e5;exact ⟨x,fr,al,hg,fun _=>rfl,fun cs n hc=>⟨cs,hc,fun _=>rfl⟩⟩
 ·obtain ⟨cs,n,h1,h2,h3⟩:=hm.arr hg;refine ⟨cs,n,h1,h2,?_⟩;rcases h3 with ⟨j,fz,h4,h5,h6,h7,h8⟩|⟨h4,h5,h6⟩
  ·rcases hh with rfl|⟨j',cs',n',fz0,gX,k1,k2,k3,k4,rfl⟩
   ·exact .inl ⟨j,fz,h4,h5,h6,h7,by simp⟩
   ·rw [h4] at k1;injection k1 with k1;subst k1
    rw [h1] at k2;injection k2 with k2;injection k2 with k2 k2';subst k2
    exact .inl ⟨j,gX,h4,by simp [af],h6,k4,by simp⟩
  ·exact .inr ⟨h4,h5,by simp⟩
theorem yP (hm:Rm b N h k lens) {sd:SD} {d:D} (hr:jo N sd d) {x:At} {us:List (Nat×SO)} (hf:lg N.hs sd=some (x,us)):
  ∃c us',gM h d=some (c,us')/\aV N.ρ x=some c/\fG N (N.upd us)/\Rm b (N.upd us) (ah h us') k lens/\Wr N us' (EF sd):=by
 cases sd with
 |a y=>
  simp only [lg,Option.some.injEq,Prod.mk.injEq] at hf;obtain ⟨rfl,rfl⟩:=hf;obtain ⟨c,h1,h2⟩:=hr;rcases h2 with rfl|⟨cs,n,rfl,rfl⟩
  ·exact ⟨c,[],rfl,h1,fG.refl _,hm,Wr.nil⟩
  ·exact ⟨_,[],rfl,h1,fG.refl _,hm,Wr.nil⟩
 |full y=>
  simp only [lg,Option.some.injEq,Prod.mk.injEq] at hf;obtain ⟨rfl,rfl⟩:=hf;obtain ⟨cs,n,h1,rfl⟩:=hr;exact ⟨_,[],rfl,h1,fG.refl _,hm,Wr.nil⟩
 |arr i=>
  simp only [lg] at hf;split at hf
  case h_2=>cases hf
  rename_i y e t fr al hg;simp only [Option.some.injEq,Prod.mk.injEq] at hf;obtain ⟨rfl,rfl⟩:=hf;obtain ⟨cs,n,g1,g2,g3⟩:=hm.arr hg;obtain ⟨hi,hr⟩:=hr;rcases hr with ⟨j,len,h1,rfl,h3⟩|⟨h1,cs',n',rfl,h3⟩
  ·obtain ⟨cs',h4⟩:=h3 _ _ _ _ _ hg;rw [g1] at h4;injection h4 with h4;injection h4 with h4 h5;subst h4 h5
   rcases g3 with ⟨j',fz,k1,k2,k3,k4,k5⟩|⟨k1,_⟩
   ·rw [h1] at k1;injection k1 with k1;subst k1
    have hcut:(cs.drop 0).take (n * e)=cs:=by rw [<-g2];simp
    by_cases hz:0+n * e<=fz
    ·obtain ⟨v1,v2⟩:=hm.mark hg (h':=h) (.inl rfl);exact ⟨.slice cs n,[],by simp only [gM,k2];rw [if_pos (by omega),if_pos hz,hcut],g1,v1,v2,Wr.nil⟩
    ·obtain ⟨v1,v2⟩:=hm.mark hg (h':=(j,.arr cs e (0+n * e) t)::h) (.inr ⟨j,cs,n,fz,_,h1,g1,k2,by omega,rfl⟩)
     refine ⟨.slice cs n,[(j,.arr cs e (0+n * e) t)],by simp only [gM,k2];rw [if_pos (by omega),if_neg hz,hcut],g1,v1,v2,?_⟩
     intro q hq;simp only [List.map_cons,List.map_nil,List.mem_singleton] at hq;subst hq;exact ⟨i,by simp [EF],hi,h1⟩
   ·rw [h1] at k1;cases k1
  ·have h4:=h3 _ _ _ _ _ hg;obtain ⟨v1,v2⟩:=hm.mark hg (h':=h) (.inl rfl);exact ⟨.slice cs' n',[],rfl,h4,v1,v2,Wr.nil⟩
 |view i y=>
  simp only [lg] at hf;split at hf
  case h_2=>cases hf
  rename_i z e t fr al hg;simp only [Option.some.injEq,Prod.mk.injEq] at hf;obtain ⟨rfl,rfl⟩:=hf;obtain ⟨hi,cs,len,h1,hr⟩:=hr;obtain ⟨ys,n,g1,g2,g3⟩:=hm.arr hg;rcases hr with rfl|⟨j,off,h2,rfl,h3⟩
  ·obtain ⟨v1,v2⟩:=hm.mark hg (h':=h) (.inl rfl);exact ⟨_,[],rfl,h1,v1,v2,Wr.nil⟩
  ·obtain ⟨_,ys',n',h4,h5,h6⟩:=h3 _ _ _ _ _ hg;rw [g1] at h4;injection h4 with h4;injection h4 with h4 h7;subst h4 h7
   rcases g3 with ⟨j',fz,k1,k2,k3,k4,k5⟩|⟨k1,_⟩
   ·rw [h2] at k1;injection k1 with k1;subst k1
    by_cases hz:off+len * e<=fz
    ·obtain ⟨v1,v2⟩:=hm.mark hg (h':=h) (.inl rfl);exact ⟨.slice cs len,[],by simp only [gM,k2];rw [if_pos h5,if_pos hz,h6],h1,v1,v2,Wr.nil⟩
    ·obtain ⟨v1,v2⟩:=hm.mark hg (h':=(j,.arr ys e (off+len * e) t)::h) (.inr ⟨j,ys,n,fz,_,h2,g1,k2,h5,rfl⟩);refine ⟨.slice cs len,[(j,.arr ys e (off+len * e) t)],by simp only [gM,k2];rw [if_pos h5,if_neg hz,h6],h1,v1,v2,?_⟩
     intro q hq;simp only [List.map_cons,List.map_nil,List.mem_singleton] at hq;subst hq;exact ⟨i,by simp [EF],hi,h2⟩
   ·rw [h2] at k1;cases k1
 |fK=>simp [lg] at hf
 |loc i o=>simp [lg] at hf
 |gU i x o=>simp [lg] at hf
 |ptr r o e=>simp [lg] at hf
 |bJ f c=>simp [lg] at hf
 |agg ds=>simp [lg] at hf
 |dB ds=>simp [lg] at hf
theorem vE:∀{ds:List SD} {ds':List D} {N:Nm} {h:Heap},Rm b N h k lens->aj (jo N) ds ds'->∀{ax:List At} {us:List (Nat×SO)},uA N.hs ds=some (ax,us)->
  ∃cs us',eD h ds'=some (cs,us')/\iM N.ρ ax=some cs/\fG N (N.upd us)/\Rm b (N.upd us) (ah h us') k lens/\Wr N us' (ds.flatMap EF)
 |[],[],N,h,hm,_,ax,us,hf=>by simp only [uA,Option.some.injEq,Prod.mk.injEq] at hf;obtain ⟨rfl,rfl⟩:=hf;exact ⟨[],[],rfl,rfl,fG.refl _,hm,Wr.nil⟩
 |sd::ds,d::ds',N,h,hm,hr,ax,us,hf=>by
  simp only [uA,Option.bind_eq_some_iff,Option.some.injEq,Prod.mk.injEq,Prod.exists] at hf;obtain ⟨x,u1,h1,ys,u2,h2,rfl,rfl⟩:=hf;obtain ⟨c,v1,k1,k2,k3,k4,k5⟩:=yP hm hr.1 h1;obtain ⟨cs,v2,l1,l2,l3,l4,l5⟩:=vE (N:=N.upd u1) k4 (hr.2.mono fun _ _=>k3.dc) h2
  refine ⟨c::cs,v1++v2,?_,?_,?_,?_,?_⟩
  ·simp [eD,k1,l1]
  ·have:iM N.ρ ys=some cs:=l2
   simp [iM,k2,this]
  ·rw [Nm.gK];exact k3.trans l3
  ·rw [Nm.gK,dz];exact l4
  ·exact (k5.mono fun i hi=>by simp [hi]).append (l5.mono fun i hi=>by rw [List.flatMap_cons,List.mem_append];exact .inr hi)
 |[],_::_,_,_,_,hr,_,_,_=>hr.elim
 |_::_,[],_,_,_,hr,_,_,_=>hr.elim
theorem zn {d:D} {c:C} {us:List (Nat×Obj)} (hf:gM h d=some (c,us)):eP h d=some (.one c,us):=by
 cases d with
 |agg ds=>cases hf
 |_=>simp [eP,hf]
theorem RD.c {N:Nm} {sd:SD} {d:D} (h:RD N sd d) (h1:∀ds,sd≠.agg ds) (h2:∀ds,sd≠.dB ds):jo N sd d:=by cases sd<;>first|exact h|exact absurd rfl (h1 _)|exact absurd rfl (h2 _)
theorem Ef {hs:List (Nat×SO)} {sd:SD} {p:At×List (Nat×SO)} (h:lg hs sd=some p):(∀ds,sd≠.agg ds)/\∀ds,sd≠.dB ds:=by constructor<;>(intro ds e;subst e;cases h)
theorem zA {sd:SD} (h1:∀ds,sd≠.agg ds):kH sd=EF sd:=by cases sd<;>first|rfl|exact absurd rfl (h1 _)
theorem Qt (hm:Rm b N h k lens) {sd:SD} {d:D} (hr:RD N sd d) {ax:List At} {us:List (Nat×SO)} (hf:GN N.hs sd=some (ax,us)):
  ∃v us',eP h d=some (v,us')/\iM N.ρ ax=some v.cells/\fG N (N.upd us)/\Rm b (N.upd us) (ah h us') k lens/\Wr N us' (kH sd):=by
 by_cases ha:∃ds,sd=.agg ds
 ·obtain ⟨ds,rfl⟩:=ha;obtain ⟨ds',rfl,hr⟩:=hr;simp only [GN] at hf;obtain ⟨cs,us',h1,h2,h3,h4,h5⟩:=vE hm hr hf;exact ⟨.agg cs,us',by simp [eP,h1],h2,h3,h4,h5⟩
 ·have hf':(lg N.hs sd).bind (fun p=>some ([p.1],p.2))=some (ax,us):=by
   cases sd<;>first|exact hf|exact absurd ⟨_,rfl⟩ ha
  simp only [Option.bind_eq_some_iff,Option.some.injEq,Prod.mk.injEq,Prod.exists] at hf';obtain ⟨x,pE,h1,rfl,rfl⟩:=hf';obtain ⟨n1,n2⟩:=Ef h1;obtain ⟨c,us',k1,k2,k3,k4,k5⟩:=yP hm (hr.c n1 n2) h1;exact ⟨.one c,us',zn k1,by simp [iM,k2,V.cells],k3,k4,by rw [zA n1];exact k5⟩
theorem AL (hm:Rm b N h k lens) {sd:SD} {d:D} (hr:RD N sd d) {tv:TV} {us:List (Nat×SO)} (hf:si lens N.hs sd=some (tv,us)):
  ∃v us',eP h d=some (v,us')/\Kl N.ρ tv=some v/\fG N (N.upd us)/\Rm b (N.upd us) (ah h us') k lens/\Wr N us' (kH sd):=by
 by_cases ha:∃ds,sd=.agg ds
 ·obtain ⟨ds,rfl⟩:=ha;obtain ⟨ds',rfl,hr⟩:=hr;simp only [si,Option.bind_eq_some_iff,Option.some.injEq,Prod.mk.injEq,Prod.exists] at hf;obtain ⟨ax,pE,h0,rfl,rfl⟩:=hf;obtain ⟨cs,us',h1,h2,h3,h4,h5⟩:=vE hm hr h0;exact ⟨.agg cs,us',by simp [eP,h1],by simp [Kl,qM hm,h2],h3,h4,h5⟩
 ·have hf':(lg N.hs sd).bind (fun p=>some (TV.one p.1,p.2))=some (tv,us):=by
   cases sd<;>first|exact hf|exact absurd ⟨_,rfl⟩ ha
  simp only [Option.bind_eq_some_iff,Option.some.injEq,Prod.mk.injEq,Prod.exists] at hf';obtain ⟨x,pE,h1,rfl,rfl⟩:=hf';obtain ⟨n1,n2⟩:=Ef h1;obtain ⟨c,us',k1,k2,k3,k4,k5⟩:=yP hm (hr.c n1 n2) h1;exact ⟨.one c,us',zn k1,by simp [Kl,k2],k3,k4,by rw [zA n1];exact k5⟩
theorem Ct:∀{ds:List SD} {ds':List D} {N:Nm} {h:Heap},Rm b N h k lens->aj (RD N) ds ds'->∀{vs:List TV} {us:List (Nat×SO)},tF lens N.hs ds=some (vs,us)->
  ∃xs us',bY h ds'=some (xs,us')/\tq N.ρ vs=some xs/\fG N (N.upd us)/\Rm b (N.upd us) (ah h us') k lens/\Wr N us' (ds.flatMap kH)
 |[],[],N,h,hm,_,ax,us,hf=>by simp only [tF,Option.some.injEq,Prod.mk.injEq] at hf;obtain ⟨rfl,rfl⟩:=hf;exact ⟨[],[],rfl,rfl,fG.refl _,hm,Wr.nil⟩
 |sd::ds,d::ds',N,h,hm,hr,ax,us,hf=>by
  simp only [tF,Option.bind_eq_some_iff,Option.some.injEq,Prod.mk.injEq,Prod.exists] at hf;obtain ⟨x,u1,h1,ys,u2,h2,rfl,rfl⟩:=hf;obtain ⟨c,v1,k1,k2,k3,k4,k5⟩:=AL hm hr.1 h1;obtain ⟨cs,v2,l1,l2,l3,l4,l5⟩:=Ct (N:=N.upd u1) k4 (hr.2.mono fun _ _=>k3.rd) h2
  refine ⟨c::cs,v1++v2,?_,?_,?_,?_,?_⟩
  ·simp [bY,k1,l1]
  ·have:tq N.ρ ys=some cs:=l2
   simp [tq,k2,this]
  ·rw [Nm.gK];exact k3.trans l3
  ·rw [Nm.gK,dz];exact l4
  ·exact (k5.mono fun i hi=>by simp [hi]).append (l5.mono fun i hi=>by rw [List.flatMap_cons,List.mem_append];exact .inr hi)
 |[],_::_,_,_,_,hr,_,_,_=>hr.elim
 |_::_,[],_,_,_,hr,_,_,_=>hr.elim
theorem AQ {hs:List (Nat×SO)} {aa:Nat} {sd:SD} {x:At} (h:fe hs aa sd=some x):(∀ds,sd≠.agg ds)/\∀ds,sd≠.dB ds:=by constructor<;>(intro ds e;subst e;cases h)
theorem TI {hs:List (Nat×SO)} {sd:SD} {x:At} (h:mE hs sd=some x):(∀ds,sd≠.agg ds)/\∀ds,sd≠.dB ds:=by constructor<;>(intro ds e;subst e;cases h)
theorem Xt {c:C} {d:D} (h0:CD c d) {aa:Nat} {p:List C×Nat} (hp:Bq aa c=some p):bM h aa d=some p:=by
 rcases h0 with rfl|⟨cs,n,rfl,rfl⟩
 ·cases c with
  |lit v=>cases v<;>first|exact hp|cases hp
  |slice cs n=>exact hp
 ·exact hp
theorem wS (hm:Rm b N h k lens) {sd:SD} {d:D} (hr:jo N sd d) {aa:Nat} {x:At} (hf:fe N.hs aa sd=some x):
  ∃c,aV N.ρ x=some c/\∀p,Bq aa c=some p->bM h aa d=some p:=by
 cases sd with
 |a y=>
  simp only [fe,Option.some.injEq] at hf;subst hf;obtain ⟨c,h1,h2⟩:=hr;exact ⟨c,h1,fun p hp=>Xt h2 hp⟩
 |full y=>
  simp only [fe,Option.some.injEq] at hf;subst hf;obtain ⟨cs,n,h1,rfl⟩:=hr;exact ⟨_,h1,fun p hp=>hp⟩
 |arr i=>
  simp only [fe] at hf;split at hf
  case h_2=>cases hf
  rename_i y e t fr al hg;split at hf
  case isFalse=>cases hf
  rename_i he;subst he;simp only [Option.some.injEq] at hf;subst hf;obtain ⟨cs,n,g1,g2,g3⟩:=hm.arr hg;refine ⟨_,g1,fun p hp=>?_⟩
  obtain ⟨_,hr⟩:=hr;rcases hr with ⟨j,len,h1,rfl,h3⟩|⟨h1,cs',n',rfl,h3⟩
  ·obtain ⟨cs',h4⟩:=h3 _ _ _ _ _ hg;rw [g1] at h4;injection h4 with h4;injection h4 with h4 h5;subst h4 h5
   rcases g3 with ⟨j',fz,k1,k2,k3,k4,k5⟩|⟨k1,_⟩
   ·rw [h1] at k1;injection k1 with k1;subst k1
    have hcut:(cs.drop 0).take (n * e)=cs:=by rw [<-g2];simp
    simp only [Bq,if_pos g2,Option.some.injEq] at hp;subst hp;simp only [bM,k2];rw [if_pos ⟨trivial,by omega⟩,hcut]
   ·rw [h1] at k1;cases k1
  ·have h4:=h3 _ _ _ _ _ hg;rw [g1] at h4;injection h4 with h4;injection h4 with h4 h5;subst h4 h5
   exact hp
 |view i y=>
  simp only [fe] at hf;split at hf
  case h_2=>cases hf
  rename_i z e t fr al hg;split at hf
  case isFalse=>cases hf
  rename_i he;subst he;simp only [Option.some.injEq] at hf;subst hf;obtain ⟨_,cs,len,h1,hr⟩:=hr;obtain ⟨ys,n,g1,g2,g3⟩:=hm.arr hg;refine ⟨_,h1,fun p hp=>?_⟩
  rcases hr with rfl|⟨j,off,h2,rfl,h3⟩
  ·exact hp
  ·obtain ⟨_,ys',n',h4,h5,h6⟩:=h3 _ _ _ _ _ hg;rw [g1] at h4;injection h4 with h4;injection h4 with h4 h7;subst h4 h7
   rcases g3 with ⟨j',fz,k1,k2,k3,k4,k5⟩|⟨k1,_⟩
   ·rw [h2] at k1;injection k1 with k1;subst k1
    simp only [Bq] at hp;split at hp
    case isFalse=>cases hp
    simp only [Option.some.injEq] at hp;subst hp;simp only [bM,k2];rw [if_pos ⟨trivial,h5⟩,h6]
   ·rw [h2] at k1;cases k1
 |fK=>simp [fe] at hf
 |loc i o=>simp [fe] at hf
 |gU i x o=>simp [fe] at hf
 |ptr r o e=>simp [fe] at hf
 |bJ f c=>simp [fe] at hf
 |agg ds=>simp [fe] at hf
 |dB ds=>simp [fe] at hf
theorem Q5 (hm:Rm b N h k lens) {sd:SD} {d:D} (hr:jo N sd d) {x:At} (hf:mE N.hs sd=some x):
  ∃c,aV N.ρ x=some c/\∀t v,oh t c=some v->BD t d=some (.c v):=by
 have key:∀{c:C} {d:D},CD c d->∀t v,oh t c=some v->BD t d=some (.c v):=by
  intro c d h0 t v hv;rcases h0 with rfl|⟨cs,n,rfl,rfl⟩
  ·cases c with
   |lit u=>cases u<;>first|(simp only [oh] at hv;cases hv;done)|(cases t<;>simp [oh,BD,AU,pM] at hv |-;exact hv)
   |slice cs n=>cases t<;>simp [oh,BD,AU,pM] at hv |-;exact hv
  ·cases t<;>simp [oh,BD,AU,pM] at hv |-;exact hv
 cases sd with
 |a y=>
  simp only [mE,Option.some.injEq] at hf;subst hf;obtain ⟨c,h1,h2⟩:=hr;exact ⟨c,h1,key h2⟩
 |full y=>
  simp only [mE,Option.some.injEq] at hf;subst hf;obtain ⟨cs,n,h1,rfl⟩:=hr;exact ⟨_,h1,key (.inr ⟨cs,n,rfl,rfl⟩)⟩
 |arr i=>
  simp only [mE] at hf;split at hf
  case h_2=>cases hf
  rename_i y e t fr al hg;simp only [Option.some.injEq] at hf;subst hf;obtain ⟨_,hr⟩:=hr;rcases hr with ⟨j,len,h1,rfl,h3⟩|⟨h1,cs',n',rfl,h3⟩
  ·obtain ⟨cs',h4⟩:=h3 _ _ _ _ _ hg;refine ⟨_,h4,fun t v hv=>?_⟩
   cases t<;>simp [oh,BD,AU,pM] at hv |-;exact hv
  ·exact ⟨_,h3 _ _ _ _ _ hg,key (.inr ⟨_,_,rfl,rfl⟩)⟩
 |view i y=>
  simp only [mE] at hf;split at hf
  case h_2=>cases hf
  simp only [Option.some.injEq] at hf;subst hf;obtain ⟨_,cs,len,h1,hr⟩:=hr;refine ⟨_,h1,?_⟩;rcases hr with rfl|⟨j,off,h2,rfl,h3⟩
  ·exact key (.inl rfl)
  ·intro t v hv;cases t<;>simp [oh,BD,AU,pM] at hv |-;exact hv
 |fK=>simp [mE] at hf
 |loc i o=>simp [mE] at hf
 |gU i x o=>simp [mE] at hf
 |ptr r o e=>simp [mE] at hf
 |bJ f c=>simp [mE] at hf
 |agg ds=>simp [mE] at hf
 |dB ds=>simp [mE] at hf
theorem Cw {sd:SD} {d:D} (hr:jo N sd d) (hs:mh sd=true):lD d=true:=by
 cases sd with
 |fK=>cases hs
 |a x=>obtain ⟨c,_,rfl|⟨cs,n,_,rfl⟩⟩:=hr<;>rfl
 |full x=>obtain ⟨cs,n,_,rfl⟩:=hr;rfl
 |loc i o=>obtain ⟨_,j,_,rfl⟩:=hr;rfl
 |arr i=>obtain ⟨_,⟨j,len,_,rfl,_⟩|⟨_,cs,n,rfl,_⟩⟩:=hr<;>rfl
 |view i x=>obtain ⟨_,cs,len,_,rfl|⟨j,off,_,rfl,_⟩⟩:=hr<;>rfl
 |gU i x o=>obtain ⟨_,kd,q,_,_,⟨j,o',_,rfl,_⟩|⟨_,cs,rfl,_⟩⟩:=hr<;>rfl
 |ptr r o e=>obtain ⟨xs,rest,_,_,rfl⟩:=hr;rfl
 |bJ f c=>obtain ⟨c',rfl,_⟩:=hr;rfl
 |agg ds=>cases hs
 |dB ds=>cases hs
theorem Bl:∀{ds:List SD} {ds':List D},aj (jo N) ds ds'->ds.all mh=true->ds'.all lD=true
 |[],[],_,_=>rfl
 |sd::ds,d::ds',hr,hs=>by simp only [List.all_cons,Bool.and_eq_true] at hs |-;exact ⟨Cw hr.1 hs.1,Bl hr.2 hs.2⟩
 |[],_::_,hr,_=>hr.elim
 |_::_,[],hr,_=>hr.elim
theorem IZ {d:D} (h:lD d=true):cellsD d=some [d]:=by cases d<;>first|rfl|cases h
theorem xx {sd:SD} {d:D} (hr:RD N sd d) {xs:List SD} (hs:cellsS sd=some xs):∃ds,cellsD d=some ds/\aj (jo N) xs ds:=by
 by_cases ha:∃ds,sd=.agg ds
 ·obtain ⟨ds,rfl⟩:=ha;obtain ⟨ds',rfl,hr⟩:=hr;simp only [cellsS] at hs;split at hs
  ·rename_i hc;simp only [Option.some.injEq] at hs;subst hs;exact ⟨ds',by simp only [cellsD];rw [if_pos (Bl hr hc)],hr⟩
  ·cases hs
 ·have hs':(if mh sd then some [sd] else none)=some xs:=by cases sd<;>first|exact hs|exact absurd ⟨_,rfl⟩ ha
  split at hs'
  ·rename_i hc;simp only [Option.some.injEq] at hs';subst hs';have hr':jo N sd d:=hr.c (fun ds e=>ha ⟨ds,e⟩) (fun ds e=>by subst e;cases hc)
   exact ⟨[d],IZ (Cw hr' hc),hr',trivial⟩
  ·cases hs'
theorem yg {xs ds:List SD} {xs' ds':List D} {off:Nat} (h1:aj (jo N) ds ds') (h2:aj (jo N) xs xs'):aj (jo N) (splice ds off xs) (splice ds' off xs'):=by unfold splice;rw [h2.len];exact ((h1.take off).append h2).append (h1.drop _)
theorem Aq {sx:X->SD} {dx:X->D} (hx:∀x,RD N (sx x) (dx x)):∀{parts:List (Nat×Nat×X)} {ds:List SD} {ds':List D} {out:List SD},aj (jo N) ds ds'->o9 sx ds parts=some out->
  ∃out',gp dx ds' parts=some out'/\aj (jo N) out out'
 |[],ds,ds',out,hr,hf=>by simp only [o9,Option.some.injEq] at hf;subst hf;exact ⟨ds',rfl,hr⟩
 |(off,size,x)::parts,ds,ds',out,hr,hf=>by
  simp only [o9,Option.bind_eq_some_iff] at hf;obtain ⟨xs,h1,h2⟩:=hf;split at h2
  case isFalse=>cases h2
  rename_i hc;obtain ⟨xs',h3,h4⟩:=xx (hx x) h1;obtain ⟨out',h5,h6⟩:=Aq hx (yg hr h4 (off:=off)) h2;refine ⟨out',?_,h6⟩;simp only [gp,Option.bind_eq_bind,h3,Option.bind_some];rw [if_pos ⟨by rw [<-h4.len];exact hc.1,by rw [<-hr.len];exact hc.2⟩]
  exact h5
theorem SE (v:Value):jo N (MP v) (qE v):=by
 by_cases hv:v=.slice none 0 0
 ·subst hv;exact ⟨[],0,rfl,rfl⟩
 ·have h1:MP v=.a (.k v):=by unfold MP;split;exact absurd rfl hv;rfl
  have h2:qE v=.c (.lit v):=by unfold qE;split;exact absurd rfl hv;rfl
  rw [h1,h2];exact ⟨.lit v,rfl,.inl rfl⟩
theorem TJ (v:Value):jo N (.a (NY v)) (.c (lG v)):=by
 by_cases hv:v=.slice none 0 0
 ·subst hv;exact ⟨.slice [] 0,rfl,.inl rfl⟩
 ·have h1:NY v=.k v:=by unfold NY;split;exact absurd rfl hv;rfl
  have h2:lG v=.lit v:=by unfold lG;split;exact absurd rfl hv;rfl
  rw [h1,h2];exact ⟨.lit v,rfl,.inl rfl⟩
theorem zW:∀zero:List Value,aj (jo N) (zero.map MP) (zero.map qE)
 |[]=>trivial
 |v::r=>⟨SE v,zW r⟩
theorem Iu:∀zero:List Value,aj (jo N) (zero.map fun v=> .a (NY v)) ((zero.map lG).map .c)
 |[]=>trivial
 |v::r=>⟨TJ v,Iu r⟩
theorem Ck (zero:List Value):∀n,aj (jo N) (tV zero n) ((zeros zero n).map .c)
 |0=>trivial
 |n+1=>by simp only [tV,zeros,List.map_append];exact (Iu zero).append (Ck zero n)
theorem Dk (zero:List Value):∀n,(zeros zero n).length=n * zero.length
 |0=>by simp [zeros]
 |n+1=>by simp [zeros,Dk zero n,Nat.succ_mul,Nat.add_comm]
theorem G5 {sx:X->SD} {dx:X->D} (hx:∀x,RD N (sx x) (dx x)):∀{xs:List X} {caps:List (Nat×Nat)},Fp sx xs=some caps->
  ∃dA,ni dx xs=some dA/\aj (fun p q:Nat×Nat=>p.1 < N.nx/\N.μ p.1=some q.1/\q.2=p.2) caps dA
 |[],caps,h=>by simp only [Fp,Option.some.injEq] at h;subst h;exact ⟨[],rfl,trivial⟩
 |x::xs,caps,h=>by
  simp only [Fp] at h;split at h
  case h_2=>cases h
  rename_i i off hsx;simp only [Option.bind_eq_some_iff,Option.some.injEq] at h;obtain ⟨r,h1,rfl⟩:=h;obtain ⟨r',h2,h3⟩:=G5 hx h1;have h4:=hx x;rw [hsx] at h4;obtain ⟨hi,j,h5,h6⟩:jo N (.loc i off) (dx x):=h4;exact ⟨(j,off)::r',by simp [ni,h6,h2],⟨hi,h5,rfl⟩,h3⟩
theorem y7 {i:Nat} {xs:List C} (hw:eu N.ρ i=some (.l xs)):∀(m off:Nat),off+m<=xs.length->aj (jo N) ((nk i off m).map .a) (((xs.drop off).take m).map .c)
 |0,off,_=>by simp [nk,aj]
 |m+1,off,hl=>by
  have hlt:off < xs.length:=by omega
  rw [List.drop_eq_getElem_cons hlt];simp only [nk,List.map_cons,List.take_succ_cons];exact ⟨⟨xs[off],by simp [aV,hw,kM xs off hlt],.inl rfl⟩,y7 hw m (off+1) (by omega)⟩
end
end Go.Ey
namespace Go.Ey
def nm (ρ:List W) (μ:Nat->Option Nat) (σ:Sy):Nm:=⟨ρ,μ,σ.heap,σ.nx⟩
def rz (b:Bs) (ρ:List W) (μ:Nat->Option Nat) (σ:Sy) (h:Heap) (k:Nat) (call:uL) (head:wu) (kt:SD->Sy->Nat->Tree) (r:R) (LJ:List Nat) (d:D) (us:List (Nat×Obj)):Prop:=
 ∃(ws:List W) (μ':Nat->Option Nat) (σ':Sy) (sd:SD),σ'.env=σ.env/\fG (nm ρ μ σ) (nm (ρ++ws) μ' σ')/\Rm b (nm (ρ++ws) μ' σ') (ah h us) (k+1) σ'.lens/\RD (nm (ρ++ws) μ' σ') sd d/\
  az call head (kt sd σ' (ρ++ws).length) (ρ++ws)=some r/\∀j,j∈us.map (·.1)->∃i∈qB σ.nx σ'.nx LJ,i < σ'.nx/\μ' i=some j
section
variable {b:Bs} {ρ:List W} {μ:Nat->Option Nat} {σ:Sy} {h:Heap} {k:Nat} {call:uL} {head:wu} {kt:SD->Sy->Nat->Tree} {r:R} {sx:X->SD} {dx:X->D} {LJ:List Nat}
theorem qV {nx nx':Nat} {ts:List Nat} {i:Nat} (h:i∈ts\/(nx<=i/\i < nx')):i∈qB nx nx' ts:=by
 unfold qB;rw [List.mem_append];rcases h with h|⟨h1,h2⟩
 ·exact .inl h
 ·refine .inr (List.mem_map.2 ⟨i - nx,List.mem_range.2 (by omega),by omega⟩)
theorem bq (hm:Rm b (nm ρ μ σ) h k σ.lens) {sd:SD} {d:D} (hr:RD (nm ρ μ σ) sd d) (hd:az call head (kt sd σ ρ.length) ρ=some r):rz b ρ μ σ h k call head kt r LJ d []:=
 ⟨[],μ,σ,sd,rfl,by rw [List.append_nil];exact fG.refl _,by rw [List.append_nil];exact hm.tick (Nat.le_succ k),by rw [List.append_nil];exact hr,by rw [List.append_nil];exact hd,fun j hj=>by simp at hj⟩
theorem fJ (hm:Rm b (nm ρ μ σ) h k σ.lens) {c:C} (hd:az call head (kt (.a (.v ρ.length)) σ (ρ.length+1)) (ρ++[.c c])=some r):rz b ρ μ σ h k call head kt r LJ (.c c) []:=
 ⟨[.c c],μ,σ,.a (.v ρ.length),rfl,gu (nm ρ μ σ) [.c c],(hm.ext [.c c]).tick (Nat.le_succ k),⟨c,by simp [nm,aV,gD],.inl rfl⟩,by simpa using hd,fun j hj=>by simp at hj⟩
theorem at_new (ρ:List W) (c:C) (ws:List W):aV (ρ++.c c::ws) (.v ρ.length)=some c:=by simp [aV,gD]
theorem kW (hm:Rm b (nm ρ μ σ) h k σ.lens) {xs:List C} {m:Nat} (hl:xs.length=m) {sd:SD} {d:D} (hr:RD (nm (ρ++[.l xs]) μ σ) sd d) (hd:az call head (kt sd (σ.len ρ.length m) (ρ.length+1)) (ρ++[.l xs])=some r):
  rz b ρ μ σ h k call head kt r LJ d []:=by
 refine ⟨[.l xs],μ,σ.len ρ.length m,sd,rfl,gu (nm ρ μ σ) [.l xs],?_,hr,by simpa using hd,fun j hj=>by simp at hj⟩
 refine Rm.lens' ((hm.ext [.l xs]).tick (Nat.le_succ k)) fun i q hi=>?_
 simp only [Sy.len,List.mem_cons,Prod.mk.injEq] at hi;rcases hi with ⟨rfl,rfl⟩|hi
 ·exact ⟨xs,gD ρ _ [],hl⟩
 ·obtain ⟨ys,h1,h2⟩:=(hm.ext [.l xs]).lens i q hi;exact ⟨ys,h1,h2⟩
theorem M4 {sd:SD} {x:At} (h:mU sd=some x):sd=.a x:=by
 cases sd<;>simp [mU] at h
 exact congrArg _ h
theorem fq {N:Nm} {sd:SD} {d:D} (hr:RD N sd d) {x:At} (h:mU sd=some x):∃c,aV N.ρ x=some c/\CD c d:=by
 have:=M4 h
 subst this;exact hr
theorem pO {N:Nm} {sx:X->SD} {dx:X->D} (hx:∀x,RD N (sx x) (dx x)) {o:Option X} {l:Option At} (h:vG (o.map sx)=some l):∃c,BJ N.ρ l=some c/\
  ((o=none/\l=none/\c=none)\/∃x y c0,o=some x/\l=some y/\c=some c0/\CD c0 (dx x)):=by
 cases o with
 |none=>
  simp only [Option.map_none,vG,Option.some.injEq] at h;subst h;exact ⟨none,rfl,.inl ⟨rfl,rfl,rfl⟩⟩
 |some x=>
  have hx:=hx x;simp only [Option.map_some] at h;cases hs:sx x with
  |a y=>
   rw [hs] at h hx;simp only [vG,Option.some.injEq] at h;subst h;obtain ⟨c,h1,h2⟩:=hx;exact ⟨some c,by simp [BJ,h1],.inr ⟨x,y,c,rfl,rfl,rfl,h2⟩⟩
  |_=>rw [hs] at h;simp [vG] at h
theorem II {o:Option X} {c:Option C} {l:Option At} (h:(o=none/\l=none/\c=none)\/∃x y c0,o=some x/\l=some y/\c=some c0/\CD c0 (dx x)) {n:Nat} (hl:VA c=some n):xw (o.map dx)=some n:=by
 rcases h with ⟨rfl,_,rfl⟩|⟨x,y,c0,rfl,_,rfl,h1⟩
 ·exact hl
 ·cases c0 with
  |slice cs n=>simp [VA] at hl
  |lit v=>
   cases v<;>simp only [VA] at hl<;>try (cases hl;done)
   simp only [Option.map_some,xw,Option.bind_eq_bind,h1.lit,asInt,Option.bind_some];exact hl
theorem RI {o:Option X} {c:Option C} {l:Option At} {len:Nat} (h:(o=none/\l=none/\c=none)\/∃x y c0,o=some x/\l=some y/\c=some c0/\CD c0 (dx x)) {n:Nat} (hl:RV len c=some n):qA len (o.map dx)=some n:=by
 rcases h with ⟨rfl,_,rfl⟩|⟨x,y,c0,rfl,_,rfl,h1⟩
 ·exact hl
 ·cases c0 with
  |slice cs n=>simp [RV] at hl
  |lit v=>
   cases v<;>simp only [RV] at hl<;>try (cases hl;done)
   simp only [Option.map_some,qA,Option.bind_eq_bind,h1.lit,asInt,Option.bind_some];exact hl
theorem Lt:∀{ks:List Nat} {xs ys:List C} {ds es:List D} {t:Bool},aj CD xs ds->aj CD ys es->yw ks xs ys=some t->Ae ks ds es=some t
 |[],[],[],[],[],t,_,_,h=>h
 |q::ks,x::xs,y::ys,d::ds,e::es,t,h1,h2,h=>by
  simp only [yw,Option.bind_eq_some_iff,Option.some.injEq] at h;obtain ⟨u,h3,v,h4,rfl⟩:=h;have hx:∃a,x=.lit a:=by
   cases x with
   |lit a=>exact ⟨a,rfl⟩
   |slice cs n=>unfold Mv at h3;split at h3<;>first|(rename_i e1 _;cases e1;done)|(rename_i e1;cases e1;done)|cases h3
  have hy:∃a,y=.lit a:=by
   cases y with
   |lit a=>exact ⟨a,rfl⟩
   |slice cs n=>unfold Mv at h3;split at h3<;>first|(rename_i _ e1;cases e1;done)|(rename_i e1;cases e1;done)|cases h3
  obtain ⟨a,rfl⟩:=hx;obtain ⟨c,rfl⟩:=hy;rw [h1.1.lit,h2.1.lit];simp [Ae,h3,Lt h1.2 h2.2 h4]
 |[],_::_,_,_,_,_,_,_,h=>by simp [yw] at h
 |[],[],_::_,_,_,_,_,_,h=>by simp [yw] at h
 |_::_,[],_,_,_,_,_,_,h=>by simp [yw] at h
 |_::_,_::_,[],_,_,_,_,_,h=>by simp [yw] at h
 |_,_::_,_,[],_,_,h1,_,_=>h1.elim
 |_,[],_,_::_,_,_,h1,_,_=>h1.elim
 |_,_,_::_,_,[],_,_,h2,_=>h2.elim
 |_,_,[],_,_::_,_,_,h2,_=>h2.elim
variable (hm:Rm b (nm ρ μ σ) h k σ.lens) (hx:∀x,RD (nm ρ μ σ) (sx x) (dx x))
include hm hx
def Goal (b:Bs) (ρ:List W) (μ:Nat->Option Nat) (σ:Sy) (h:Heap) (k:Nat) (call:uL) (head:wu) (kt:SD->Sy->Nat->Tree) (r:R) (sx:X->SD) (dx:X->D) (i:Ins):Prop:=
 ∃d us,step dx h k i=some (d,us)/\rz b ρ μ σ h k call head kt r (dM sx i) d us
theorem aa2 {x:X} (hd:az call head (ay σ ρ.length sx kt (.Mq x)) ρ=some r):Goal b ρ μ σ h k call head kt r sx dx (.Mq x):=
 ⟨dx x,[],rfl,bq hm (hx x) hd⟩
theorem Sj {zero:List Value} {parts:List (Nat×Nat×X)} (hd:az call head (ay σ ρ.length sx kt (.build zero parts)) ρ=some r):Goal b ρ μ σ h k call head kt r sx dx (.build zero parts):=by
 simp only [ay] at hd;split at hd
 case h_2=>cases hd
 rename_i ds hf;obtain ⟨out,h1,h2⟩:=Aq hx (zW zero) hf;exact ⟨.agg out,[],by simp [step,aH,h1],bq hm (sd:=.agg ds) ⟨out,rfl,h2⟩ hd⟩
theorem aaK {op:BinOp} {oC:Bool} {x y:X} (hd:az call head (ay σ ρ.length sx kt (.bin op oC x y)) ρ=some r):Goal b ρ μ σ h k call head kt r sx dx (.bin op oC x y):=by
 simp only [ay] at hd;split at hd
 case h_2=>cases hd
 rename_i a c h1 h2;simp only [az,bB,Option.bind_eq_some_iff] at hd;obtain ⟨v,⟨u1,h3,u2,h4,h5⟩,hd⟩:=hd;obtain ⟨c1,h6,h7⟩:=fq (hx x) h1;obtain ⟨c2,h8,h9⟩:=fq (hx y) h2;have e1:u1=c1:=by have:aV ρ a=some c1:=h6;rw [h3] at this;injection this
 have e2:u2=c2:=by have:aV ρ c=some c2:=h8;rw [h4] at this;injection this
 subst e1 e2;cases u1 with
 |slice _ _=>simp [eG] at h5
 |lit w1=>cases u2 with
  |slice _ _=>simp [eG] at h5
  |lit w2=>
   simp only [eG,Option.bind_eq_some_iff,Option.some.injEq] at h5;obtain ⟨v',h5,rfl⟩:=h5;exact ⟨.c (.lit v'),[],by simp only [step,aH,h7.lit,h9.lit,jO,Option.bind_eq_bind,Option.bind_some,h5];rfl,fJ hm hd⟩
theorem Y7 {isMax:Bool} {x y:X} (hd:az call head (ay σ ρ.length sx kt (if isMax then .mx x y else .mn x y)) ρ=some r):Goal b ρ μ σ h k call head kt r sx dx (if isMax then .mx x y else .mn x y):=by
 have hd':az call head (match mU (sx x),mU (sx y) with
  |some a,some b=> .aY (.mm isMax a b) (kt (.a (.v ρ.length)) σ (ρ.length+1))
  |_,_=> .fail) ρ=some r:=by cases isMax<;>exact hd
 clear hd;split at hd'
 case h_2=>cases hd'
 rename_i a c h1 h2;simp only [az,bB,Option.bind_eq_some_iff] at hd';obtain ⟨v,⟨u1,h3,u2,h4,h5⟩,hd⟩:=hd';obtain ⟨c1,h6,h7⟩:=fq (hx x) h1;obtain ⟨c2,h8,h9⟩:=fq (hx y) h2;have e1:u1=c1:=by have:aV ρ a=some c1:=h6;rw [h3] at this;injection this
 have e2:u2=c2:=by have:aV ρ c=some c2:=h8;rw [h4] at this;injection this
 subst e1 e2;cases u1 with
 |slice _ _=>simp [YE] at h5
 |lit w1=>cases u2 with
  |slice _ _=>simp [YE] at h5
  |lit w2=>
   simp only [YE,Option.bind_eq_some_iff,Option.some.injEq] at h5;obtain ⟨v',h5,rfl⟩:=h5;refine ⟨.c (.lit v'),[],?_,fJ hm hd⟩;cases isMax<;>simp only [step,aH,h7.lit,h9.lit,jO,Option.bind_eq_bind,Option.bind_some,h5,if_true,if_false,Bool.false_eq_true]<;>rfl
theorem acZ {op:UnOp} {x:X} (hd:az call head (ay σ ρ.length sx kt (.un op x)) ρ=some r):Goal b ρ μ σ h k call head kt r sx dx (.un op x):=by
 simp only [ay] at hd;split at hd
 ·rename_i t h1;have h2:=fq (hx x) h1;obtain ⟨c,h3,h4⟩:=h2;simp only [aV,Option.some.injEq] at h3;subst h3;exact ⟨.c (.lit (.bool !t)),[],by simp [step,aH,h4.lit,jO,O7],bq hm (sd:=.a (.k (.bool !t))) ⟨_,rfl,.inl rfl⟩ hd⟩
 ·rename_i a _ h1;simp only [az,bB,Option.bind_eq_some_iff] at hd;obtain ⟨v,⟨u1,h3,h5⟩,hd⟩:=hd;obtain ⟨c1,h6,h7⟩:=fq (hx x) h1;have e1:u1=c1:=by have:aV ρ a=some c1:=h6;rw [h3] at this;injection this
  subst e1;cases u1 with
  |slice _ _=>simp [YL] at h5
  |lit w1=>
   simp only [YL,Option.bind_eq_some_iff,Option.some.injEq] at h5;obtain ⟨v',h5,rfl⟩:=h5;exact ⟨.c (.lit v'),[],by simp only [step,aH,h7.lit,jO,Option.bind_eq_bind,Option.bind_some,h5];rfl,fJ hm hd⟩
 ·cases hd
theorem WT {kd:IntKind} {x:X} (hd:az call head (ay σ ρ.length sx kt (.conv kd x)) ρ=some r):Goal b ρ μ σ h k call head kt r sx dx (.conv kd x):=by
 simp only [ay] at hd;split at hd
 case h_2=>cases hd
 rename_i a h1;simp only [az,bB,Option.bind_eq_some_iff] at hd;obtain ⟨v,⟨u1,h3,h5⟩,hd⟩:=hd;obtain ⟨c1,h6,h7⟩:=fq (hx x) h1;have e1:u1=c1:=by have:aV ρ a=some c1:=h6;rw [h3] at this;injection this
 subst e1;unfold Qy at h5;split at h5
 ·simp only [Option.some.injEq] at h5;subst h5;exact ⟨_,[],by simp only [step,aH,h7.lit,asInt,Option.bind_eq_bind,Option.bind_some];rfl,fJ hm hd⟩
 ·cases h5
theorem abl {ks:List Nat} {neg:Bool} {x y:X} (hd:az call head (ay σ ρ.length sx kt (.eqs ks neg x y)) ρ=some r):Goal b ρ μ σ h k call head kt r sx dx (.eqs ks neg x y):=by
 simp only [ay] at hd;split at hd
 case h_2=>cases hd
 rename_i ax bs h1 h2;split at hd
 case h_2=>cases hd
 rename_i xs ys h3 h4;simp only [az,bB,Option.bind_eq_some_iff] at hd;obtain ⟨v,⟨l1,h5,l2,h6,h7⟩,hd⟩:=hd;have g1:=hx x;have g2:=hx y;rw [h1] at g1;rw [h2] at g2;obtain ⟨ds,e1,g1⟩:=g1;obtain ⟨es,e2,g2⟩:=g2;obtain ⟨ms,k1,k2⟩:=qb g1 h3;obtain ⟨ns,k3,k4⟩:=qb g2 h4;have f1:Dn ρ (vg σ.lens xs)=_:=qM hm xs;have f2:Dn ρ (vg σ.lens ys)=_:=qM hm ys;rw [f1,show (nm ρ μ σ).ρ=ρ from rfl,show iM ρ xs=some ms from k1] at h5
 rw [f2,show (nm ρ μ σ).ρ=ρ from rfl,show iM ρ ys=some ns from k3] at h6
 injection h5 with h5;injection h6 with h6;subst h5 h6;simp only [Nb,Option.bind_eq_some_iff,Option.some.injEq] at h7;obtain ⟨t,h7,rfl⟩:=h7;have h8:=Lt k2 k4 h7;exact ⟨_,[],by simp only [step,aH,e1,e2,Qf,h8];rfl,fJ hm hd⟩
theorem Y8 {t:Bool} {x:X} (hd:az call head (ay σ ρ.length sx kt (.len t x)) ρ=some r):Goal b ρ μ σ h k call head kt r sx dx (.len t x):=by
 simp only [ay] at hd;split at hd
 case h_2=>cases hd
 rename_i a h1;simp only [az,bB,Option.bind_eq_some_iff] at hd;obtain ⟨v,⟨u1,h3,h5⟩,hd⟩:=hd;obtain ⟨n1,n2⟩:=TI h1;obtain ⟨c1,h6,h7⟩:=Q5 hm ((hx x).c n1 n2) h1;have e1:u1=c1:=by have:aV ρ a=some c1:=h6;rw [h3] at this;injection this
 subst e1;exact ⟨.c v,[],by simp [step,aH,h7 _ _ h5],fJ hm hd⟩
theorem Uk {x:X} (hd:az call head (ay σ ρ.length sx kt (.toStr x)) ρ=some r):Goal b ρ μ σ h k call head kt r sx dx (.toStr x):=by
 simp only [ay] at hd;split at hd
 case h_2=>cases hd
 rename_i a h1;simp only [az,bB,Option.bind_eq_some_iff] at hd;obtain ⟨v,⟨u1,h3,h5⟩,hd⟩:=hd;have h1':fe σ.heap 1 (sx x)=some a:=h1;obtain ⟨n1,n2⟩:=AQ h1';obtain ⟨c1,h6,h7⟩:=wS hm ((hx x).c n1 n2) h1';have e1:u1=c1:=by have:aV ρ a=some c1:=h6;rw [h3] at this;injection this
 subst e1;cases u1 with
 |lit _=>simp [D7] at h5
 |slice cs n=>
  simp only [D7,Option.bind_eq_some_iff] at h5;obtain ⟨bs,h8,h9⟩:=h5;split at h9
  case isFalse=>cases h9
  rename_i hl;simp only [Option.some.injEq] at h9;subst h9;have h10:=h7 (cs,n) (by simp [Bq,hl])
  have h11:EJ h (dx x)=some (cs,n):=by
   unfold EJ;split
   ·rename_i s e;exfalso;have hr:=(hx x).c n1 n2;rw [e] at hr;have:∃c,aV ρ a=some c/\c=.lit (.string s):=by
     revert h1';cases hs:sx x<;>intro h1'<;>rw [hs] at hr<;>simp only [fe] at h1'<;>try (cases h1';done)
     ·obtain ⟨c,q1,q2⟩:=hr;injection h1' with h1';subst h1';rcases q2 with q2|⟨_,_,_,q2⟩
      ·injection q2 with q2;exact ⟨c,q1,q2.symm⟩
      ·cases q2
     ·obtain ⟨_,_,_,q2⟩:=hr;cases q2
     ·obtain ⟨_,⟨_,_,_,q2,_⟩|⟨_,_,_,q2,_⟩⟩:=hr<;>cases q2
     ·obtain ⟨_,_,_,_,q2|⟨_,_,_,q2,_⟩⟩:=hr<;>cases q2
    obtain ⟨c,q1,q2⟩:=this;rw [h3] at q1;injection q1 with q1;rw [q2] at q1;cases q1
   ·exact h10
  exact ⟨_,[],by simp only [step,aH,h11,h8,Option.bind_eq_bind,Option.bind_some];rw [if_pos hl];rfl,fJ hm hd⟩
theorem abq {x:X} {lo hi:Option X} (hd:az call head (ay σ ρ.length sx kt (.Q8 x lo hi)) ρ=some r):Goal b ρ μ σ h k call head kt r sx dx (.Q8 x lo hi):=by
 simp only [ay] at hd;split at hd
 case h_2=>cases hd
 rename_i l u s h1 h2 h3;simp only [az,bB,Option.bind_eq_some_iff] at hd;obtain ⟨v,⟨u1,q1,u2,q2,u3,q3,h5⟩,hd⟩:=hd;obtain ⟨c1,k1,k2⟩:=fq (hx x) h3;obtain ⟨c2,k3,k4⟩:=pO hx h1;obtain ⟨c3,k5,k6⟩:=pO hx h2;have e1:u1=c1:=by have:aV ρ s=some c1:=k1;rw [q1] at this;injection this
 have e2:u2=c2:=by have:BJ ρ l=some c2:=k3;rw [q2] at this;injection this
 have e3:u3=c3:=by have:BJ ρ u=some c3:=k5;rw [q3] at this;injection this
 subst e1 e2 e3;unfold Qj at h5;split at h5
 case h_2=>cases h5
 simp only [Option.bind_eq_some_iff] at h5;obtain ⟨a,h6,c,h7,h8⟩:=h5;split at h8
 case isFalse=>cases h8
 rename_i hc;simp only [Option.some.injEq] at h8;subst h8;exact ⟨_,[],by simp only [step,aH,k2.lit,OO,II k4 h6,RI k6 h7,Option.bind_eq_bind,Option.bind_some];rw [if_pos hc];rfl,fJ hm hd⟩
theorem XV {x i:X} (hd:az call head (ay σ ρ.length sx kt (.nM x i)) ρ=some r):Goal b ρ μ σ h k call head kt r sx dx (.nM x i):=by
 simp only [ay] at hd;split at hd
 case h_2=>cases hd
 rename_i a c h1 h2;simp only [az,bB,Option.bind_eq_some_iff] at hd;obtain ⟨v,⟨u1,h3,u2,h4,h5⟩,hd⟩:=hd;obtain ⟨c1,h6,h7⟩:=fq (hx x) h1;obtain ⟨c2,h8,h9⟩:=fq (hx i) h2;have e1:u1=c1:=by have:aV ρ a=some c1:=h6;rw [h3] at this;injection this
 have e2:u2=c2:=by have:aV ρ c=some c2:=h8;rw [h4] at this;injection this
 subst e1 e2;unfold Ow at h5;split at h5
 case h_2=>cases h5
 split at h5
 case isFalse=>cases h5
 rename_i hc;simp only [Option.bind_eq_some_iff,Option.some.injEq] at h5;obtain ⟨q,h5,rfl⟩:=h5;exact ⟨_,[],by simp only [step,aH,h7.lit,h9.lit,asInt,Option.bind_eq_bind,Option.bind_some];rw [if_pos hc,h5];rfl,fJ hm hd⟩
theorem UD {x:X} (hd:az call head (ay σ ρ.length sx kt (.pg x)) ρ=some r):Goal b ρ μ σ h k call head kt r sx dx (.pg x):=by
 simp only [ay] at hd;have hr:=hx x;split at hd
 ·rename_i i off hs;rw [hs] at hr;obtain ⟨hi,j,h1,h2⟩:=hr;exact ⟨.loc j off,[],by simp [step,h2],bq hm (sd:=.loc i off) ⟨hi,j,h1,rfl⟩ hd⟩
 ·rename_i q off aa hs;rw [hs] at hr;obtain ⟨xs,rest,h1,h2,h3⟩:=hr;exact ⟨_,[],by simp only [step,h3],bq hm (sd:=.ptr q off aa) ⟨xs,rest,h1,h2,rfl⟩ hd⟩
 ·rename_i i y off hs;rw [hs] at hr;have hr':jo (nm ρ μ σ) (.gU i y off) (dx x):=hr;obtain ⟨hi,kd,q,h1,h2,h3⟩:=hr;rcases h3 with ⟨j,o,h4,h5,h6⟩|⟨h4,cs,h5,h6⟩
  ·rw [h5] at hr';exact ⟨_,[],by simp only [step,h5],bq hm (sd:=.gU i y off) hr'.fM hd⟩
  ·rw [h5] at hr';exact ⟨_,[],by simp only [step,h5],bq hm (sd:=.gU i y off) hr'.fM hd⟩
 ·cases hd
theorem VR {off:Nat} {x:X} (hd:az call head (ay σ ρ.length sx kt (.yC off x)) ρ=some r):Goal b ρ μ σ h k call head kt r sx dx (.yC off x):=by
 simp only [ay] at hd;have hr:=hx x;split at hd
 ·rename_i i o hs;rw [hs] at hr;obtain ⟨hi,j,h1,h2⟩:=hr;exact ⟨.loc j (o+off),[],by simp [step,h2],bq hm (sd:=.loc i (o+off)) ⟨hi,j,h1,rfl⟩ hd⟩
 ·rename_i q o aa hs;rw [hs] at hr;obtain ⟨xs,rest,h1,h2,h3⟩:=hr;exact ⟨.ptr (((xs++rest).drop o).drop off),[],by simp only [step,h3],bq hm (sd:=.ptr q (o+off) aa) ⟨xs,rest,h1,h2,by rw [List.drop_drop]⟩ hd⟩
 ·rename_i i y o hs;rw [hs] at hr;obtain ⟨hi,kd,q,h1,h2,h3⟩:=hr;rcases h3 with ⟨j,o',h4,h5,h6⟩|⟨h4,cs,h5,h6⟩
  ·refine ⟨.loc j (o'+off),[],by simp only [step,h5],bq hm (sd:=.gU i y (o+off)) ?_ hd⟩
   exact ⟨hi,kd,q,h1,h2,.inl ⟨j,o'+off,h4,rfl,fun z e t f a hg=>by rw [h6 z e t f a hg];omega⟩⟩
  ·refine ⟨.ptr (cs.drop off),[],by simp only [step,h5],bq hm (sd:=.gU i y (o+off)) ?_ hd⟩
   refine ⟨hi,kd,q,h1,h2,.inr ⟨h4,cs.drop off,rfl,fun z e t f a hg=>?_⟩⟩
   obtain ⟨ys,n,h7,h8⟩:=h6 z e t f a hg;exact ⟨ys,n,h7,by rw [h8,List.drop_drop];congr 1;omega⟩
 ·cases hd
theorem Zv {off:Nat} {agg:Bool} {size:Nat} {x:X} (hd:az call head (ay σ ρ.length sx kt (.NL off agg size x)) ρ=some r):Goal b ρ μ σ h k call head kt r sx dx (.NL off agg size x):=by
 simp only [ay] at hd;have hr:=hx x;split at hd
 case h_2=>cases hd
 rename_i ds hs;rw [hs] at hr;obtain ⟨ds',h1,h2⟩:=hr;split at hd
 ·split at hd
  case isFalse=>cases hd
  rename_i hc;exact ⟨_,[],by simp only [step,h1,if_true];rw [if_pos (by rw [<-h2.len];exact hc)],bq hm (sd:=.agg ((ds.drop off).take size)) ⟨_,rfl,(h2.drop off).take size⟩ hd⟩
 ·split at hd
  case h_2=>cases hd
  rename_i d hg;obtain ⟨d',h3,h4⟩:=h2.get off hg;exact ⟨d',[],by simp [step,h1,aH,h3],bq hm h4.fM hd⟩
theorem ZN {x:X} {i:Nat} (hd:az call head (ay σ ρ.length sx kt (.ext x i)) ρ=some r):Goal b ρ μ σ h k call head kt r sx dx (.ext x i):=by
 simp only [ay] at hd;have hr:=hx x;split at hd
 case h_2=>cases hd
 rename_i ds hs;rw [hs] at hr;obtain ⟨ds',h1,h2⟩:=hr;split at hd
 case h_2=>cases hd
 rename_i d hg;obtain ⟨d',h3,h4⟩:=h2.get i hg;exact ⟨d',[],by simp [step,h1,aH,h3],bq hm h4.fM hd⟩
theorem aaP {f:Nat} {xs:List X} (hd:az call head (ay σ ρ.length sx kt (.R3 f xs)) ρ=some r):Goal b ρ μ σ h k call head kt r sx dx (.R3 f xs):=by
 simp only [ay] at hd;split at hd
 case h_2=>cases hd
 rename_i caps hc;obtain ⟨dA,h1,h2⟩:=G5 hx hc;exact ⟨.bJ f dA,[],by simp [step,aH,h1],bq hm (sd:=.bJ f caps) ⟨dA,rfl,h2⟩ hd⟩
end
end Go.Ey
