/- A part of the proof. -/
import Derived.Test.YtpginbppmgdndaaGreatDoorY03
set_option linter.all false
namespace Go.Ey
def CD (c:C) (d:D):Prop:=d=.c c∨∃cs n,c=.slice cs n∧d=.full cs n
theorem CD.lit {v:Value} {d:D} (h:CD (.lit v) d):d=.c (.lit v):=by
 rcases h with h|⟨cs,n,h,_⟩
 ·exact h
 ·cases h
theorem updH_append' (h:Heap) (us vs:List (Nat×Obj)):updH h (us++vs)=updH (updH h us) vs:=by
 induction us generalizing h with
 |nil=>rfl
 |cons u us ih=>exact ih _
theorem updS_append (h:List (Nat×SO)) (us vs:List (Nat×SO)):updS h (us++vs)=updS (updS h us) vs:=by
 induction us generalizing h with
 |nil=>rfl
 |cons u us ih=>exact ih _
def Nm.upd (N:Nm) (us:List (Nat×SO)):Nm:={ N with hs:=updS N.hs us}
theorem Nm.upd_append (N:Nm) (us vs:List (Nat×SO)):N.upd (us++vs)=(N.upd us).upd vs:=by
 simp only [Nm.upd,updS_append]
section
variable {b:Bs} {N:Nm} {h:Heap} {k:Nat} {lens:List (Nat×Nat)}
def Wr (N:Nm) (us:List (Nat×Obj)) (ids:List Nat):Prop:=∀j,j∈us.map (·.1)→∃i∈ids,i < N.nx∧N.μ i=some j
theorem Wr.nil {N:Nm} {ids:List Nat}:Wr N [] ids:=fun j hj=>by simp at hj
theorem Wr.mono {N:Nm} {us:List (Nat×Obj)} {ids ids':List Nat} (h:Wr N us ids) (hs:∀i∈ids,i∈ids'):Wr N us ids':=fun j hj=>by
 obtain ⟨i,h1,h2⟩:=h j hj
 exact ⟨i,hs i h1,h2⟩
theorem Wr.append {N:Nm} {us vs:List (Nat×Obj)} {ids:List Nat} (h:Wr N us ids) (h':Wr N vs ids):Wr N (us++vs) ids:=fun j hj=>by
 rw [List.map_append,List.mem_append] at hj
 exact hj.elim (h j) (h' j)
theorem Rm.arr (hm:Rm b N h k lens) {i:Nat} {x:At} {esz ety:Nat} {fr al:Bool} (hg:getO N.hs i=.arr x esz ety fr al):
  ∃cs n,atC N.ρ x=some (.slice cs n)∧cs.length=n * esz∧
   ((∃j fz,N.μ i=some j∧getH h j=.arr cs esz fz ety∧0 < esz∧fz≤cs.length∧(fr=false→fz=0))∨(N.μ i=none∧al=false∧(fr=false→cs=[]∧n=0))):=by
 have:=hm.obj i
 rw [hg] at this
 exact this
theorem Rm.box (hm:Rm b N h k lens) {i:Nat} {ds:List SD} (hg:getO N.hs i=.box ds):∃j ds',N.μ i=some j∧getH h j=.box ds'∧All2 (RDc N) ds ds':=by
 have:=hm.obj i
 rw [hg] at this
 exact this
theorem Rm.mark (hm:Rm b N h k lens) {i:Nat} {x:At} {esz ety:Nat} {fr al:Bool} (hg:getO N.hs i=.arr x esz ety fr al) {h':Heap}
  (hh:h'=h∨∃j cs n fz fz',N.μ i=some j∧atC N.ρ x=some (.slice cs n)∧getH h j=.arr cs esz fz ety∧fz'≤cs.length∧h'=(j,.arr cs esz fz' ety)::h):
  SEv N (N.set i (.arr x esz ety true al))∧Rm b (N.set i (.arr x esz ety true al)) h' k lens:=by
 have hi:i < N.nx:=hm.lt_of (by rw [hg];simp)
 refine hm.set hi (fun j hj=>?_) (fun y' e t fr' al' he=>?_) fun hv=>?_
 ·rcases hh with rfl|⟨j',cs,n,fz,fz',h1,_,_,_,rfl⟩
  ·rfl
  ·have:j'≠j:=fun e=>hj (e▸h1)
   simp [getH,this]
 ·injection he with e1 e2 e3 e4 e5
  subst e1 e2 e3 e4 e5
  exact ⟨x,fr,al,hg,fun _=>rfl,fun cs n hc=>⟨cs,hc,fun _=>rfl⟩⟩
 ·obtain ⟨cs,n,h1,h2,h3⟩:=hm.arr hg
  refine ⟨cs,n,h1,h2,?_⟩
  rcases h3 with ⟨j,fz,h4,h5,h6,h7,h8⟩|⟨h4,h5,h6⟩
  ·rcases hh with rfl|⟨j',cs',n',fz0,fz',k1,k2,k3,k4,rfl⟩
   ·exact .inl ⟨j,fz,h4,h5,h6,h7,by simp⟩
   ·rw [h4] at k1;injection k1 with k1;subst k1
    rw [h1] at k2;injection k2 with k2;injection k2 with k2 k2';subst k2
    exact .inl ⟨j,fz',h4,by simp [getH],h6,k4,by simp⟩
  ·exact .inr ⟨h4,h5,by simp⟩
theorem frzS_ok (hm:Rm b N h k lens) {sd:SD} {d:D} (hr:RDc N sd d) {x:At} {us:List (Nat×SO)} (hf:frzS N.hs sd=some (x,us)):
  ∃c us',frz h d=some (c,us')∧atC N.ρ x=some c∧SEv N (N.upd us)∧Rm b (N.upd us) (updH h us') k lens∧Wr N us' (idS sd):=by
 cases sd with
 |a y=>
  simp only [frzS,Option.some.injEq,Prod.mk.injEq] at hf
  obtain ⟨rfl,rfl⟩:=hf
  obtain ⟨c,h1,h2⟩:=hr
  rcases h2 with rfl|⟨cs,n,rfl,rfl⟩
  ·exact ⟨c,[],rfl,h1,SEv.refl _,hm,Wr.nil⟩
  ·exact ⟨_,[],rfl,h1,SEv.refl _,hm,Wr.nil⟩
 |full y=>
  simp only [frzS,Option.some.injEq,Prod.mk.injEq] at hf
  obtain ⟨rfl,rfl⟩:=hf
  obtain ⟨cs,n,h1,rfl⟩:=hr
  exact ⟨_,[],rfl,h1,SEv.refl _,hm,Wr.nil⟩
 |arr i=>
  simp only [frzS] at hf
  split at hf
  case h_2=>cases hf
  rename_i y e t fr al hg
  simp only [Option.some.injEq,Prod.mk.injEq] at hf
  obtain ⟨rfl,rfl⟩:=hf
  obtain ⟨cs,n,g1,g2,g3⟩:=hm.arr hg
  obtain ⟨hi,hr⟩:=hr
  rcases hr with ⟨j,len,h1,rfl,h3⟩|⟨h1,cs',n',rfl,h3⟩
  ·obtain ⟨cs',h4⟩:=h3 _ _ _ _ _ hg
   rw [g1] at h4;injection h4 with h4;injection h4 with h4 h5;subst h4 h5
   rcases g3 with ⟨j',fz,k1,k2,k3,k4,k5⟩|⟨k1,_⟩
   ·rw [h1] at k1;injection k1 with k1;subst k1
    have hcut:(cs.drop 0).take (n * e)=cs:=by rw [←g2];simp
    by_cases hz:0+n * e≤fz
    ·obtain ⟨v1,v2⟩:=hm.mark hg (h':=h) (.inl rfl)
     exact ⟨.slice cs n,[],by simp only [frz,k2];rw [if_pos (by omega),if_pos hz,hcut],g1,v1,v2,Wr.nil⟩
    ·obtain ⟨v1,v2⟩:=hm.mark hg (h':=(j,.arr cs e (0+n * e) t)::h) (.inr ⟨j,cs,n,fz,_,h1,g1,k2,by omega,rfl⟩)
     refine ⟨.slice cs n,[(j,.arr cs e (0+n * e) t)],by simp only [frz,k2];rw [if_pos (by omega),if_neg hz,hcut],g1,v1,v2,?_⟩
     intro q hq
     simp only [List.map_cons,List.map_nil,List.mem_singleton] at hq
     subst hq
     exact ⟨i,by simp [idS],hi,h1⟩
   ·rw [h1] at k1;cases k1
  ·have h4:=h3 _ _ _ _ _ hg
   obtain ⟨v1,v2⟩:=hm.mark hg (h':=h) (.inl rfl)
   exact ⟨.slice cs' n',[],rfl,h4,v1,v2,Wr.nil⟩
 |view i y=>
  simp only [frzS] at hf
  split at hf
  case h_2=>cases hf
  rename_i z e t fr al hg
  simp only [Option.some.injEq,Prod.mk.injEq] at hf
  obtain ⟨rfl,rfl⟩:=hf
  obtain ⟨hi,cs,len,h1,hr⟩:=hr
  obtain ⟨ys,n,g1,g2,g3⟩:=hm.arr hg
  rcases hr with rfl|⟨j,off,h2,rfl,h3⟩
  ·obtain ⟨v1,v2⟩:=hm.mark hg (h':=h) (.inl rfl)
   exact ⟨_,[],rfl,h1,v1,v2,Wr.nil⟩
  ·obtain ⟨_,ys',n',h4,h5,h6⟩:=h3 _ _ _ _ _ hg
   rw [g1] at h4;injection h4 with h4;injection h4 with h4 h7;subst h4 h7
   rcases g3 with ⟨j',fz,k1,k2,k3,k4,k5⟩|⟨k1,_⟩
   ·rw [h2] at k1;injection k1 with k1;subst k1
    by_cases hz:off+len * e≤fz
    ·obtain ⟨v1,v2⟩:=hm.mark hg (h':=h) (.inl rfl)
     exact ⟨.slice cs len,[],by simp only [frz,k2];rw [if_pos h5,if_pos hz,h6],h1,v1,v2,Wr.nil⟩
    ·obtain ⟨v1,v2⟩:=hm.mark hg (h':=(j,.arr ys e (off+len * e) t)::h) (.inr ⟨j,ys,n,fz,_,h2,g1,k2,h5,rfl⟩)
     refine ⟨.slice cs len,[(j,.arr ys e (off+len * e) t)],by simp only [frz,k2];rw [if_pos h5,if_neg hz,h6],h1,v1,v2,?_⟩
     intro q hq
     simp only [List.map_cons,List.map_nil,List.mem_singleton] at hq
     subst hq
     exact ⟨i,by simp [idS],hi,h2⟩
   ·rw [h2] at k1;cases k1
 |unk=>simp [frzS] at hf
 |loc i o=>simp [frzS] at hf
 |eloc i x o=>simp [frzS] at hf
 |ptr r o e=>simp [frzS] at hf
 |clo f c=>simp [frzS] at hf
 |agg ds=>simp [frzS] at hf
 |tup ds=>simp [frzS] at hf
theorem frzLS_ok:∀{ds:List SD} {ds':List D} {N:Nm} {h:Heap},Rm b N h k lens→All2 (RDc N) ds ds'→∀{as:List At} {us:List (Nat×SO)},frzLS N.hs ds=some (as,us)→
  ∃cs us',frzL h ds'=some (cs,us')∧atCs N.ρ as=some cs∧SEv N (N.upd us)∧Rm b (N.upd us) (updH h us') k lens∧Wr N us' (ds.flatMap idS)
 |[],[],N,h,hm,_,as,us,hf=>by
  simp only [frzLS,Option.some.injEq,Prod.mk.injEq] at hf
  obtain ⟨rfl,rfl⟩:=hf
  exact ⟨[],[],rfl,rfl,SEv.refl _,hm,Wr.nil⟩
 |sd::ds,d::ds',N,h,hm,hr,as,us,hf=>by
  simp only [frzLS,Option.bind_eq_some_iff,Option.some.injEq,Prod.mk.injEq,Prod.exists] at hf
  obtain ⟨x,u1,h1,ys,u2,h2,rfl,rfl⟩:=hf
  obtain ⟨c,v1,k1,k2,k3,k4,k5⟩:=frzS_ok hm hr.1 h1
  obtain ⟨cs,v2,l1,l2,l3,l4,l5⟩:=frzLS_ok (N:=N.upd u1) k4 (hr.2.mono fun _ _=>k3.dc) h2
  refine ⟨c::cs,v1++v2,?_,?_,?_,?_,?_⟩
  ·simp [frzL,k1,l1]
  ·have:atCs N.ρ ys=some cs:=l2
   simp [atCs,k2,this]
  ·rw [Nm.upd_append];exact k3.trans l3
  ·rw [Nm.upd_append,updH_append'];exact l4
  ·exact (k5.mono fun i hi=>by simp [hi]).append (l5.mono fun i hi=>by rw [List.flatMap_cons,List.mem_append];exact .inr hi)
 |[],_::_,_,_,_,hr,_,_,_=>hr.elim
 |_::_,[],_,_,_,hr,_,_,_=>hr.elim
theorem frzV_one {d:D} {c:C} {us:List (Nat×Obj)} (hf:frz h d=some (c,us)):frzV h d=some (.one c,us):=by
 cases d with
 |agg ds=>cases hf
 |_=>simp [frzV,hf]
theorem RD.c {N:Nm} {sd:SD} {d:D} (h:RD N sd d) (h1:∀ds,sd≠.agg ds) (h2:∀ds,sd≠.tup ds):RDc N sd d:=by
 cases sd<;>first|exact h|exact absurd rfl (h1 _)|exact absurd rfl (h2 _)
theorem frzS_c {hs:List (Nat×SO)} {sd:SD} {p:At×List (Nat×SO)} (h:frzS hs sd=some p):(∀ds,sd≠.agg ds)∧∀ds,sd≠.tup ds:=by
 constructor<;>(intro ds e;subst e;cases h)
theorem idsS_c {sd:SD} (h1:∀ds,sd≠.agg ds):idsS sd=idS sd:=by
 cases sd<;>first|rfl|exact absurd rfl (h1 _)
theorem frzCS_ok (hm:Rm b N h k lens) {sd:SD} {d:D} (hr:RD N sd d) {as:List At} {us:List (Nat×SO)} (hf:frzCS N.hs sd=some (as,us)):
  ∃v us',frzV h d=some (v,us')∧atCs N.ρ as=some v.cells∧SEv N (N.upd us)∧Rm b (N.upd us) (updH h us') k lens∧Wr N us' (idsS sd):=by
 by_cases ha:∃ds,sd=.agg ds
 ·obtain ⟨ds,rfl⟩:=ha
  obtain ⟨ds',rfl,hr⟩:=hr
  simp only [frzCS] at hf
  obtain ⟨cs,us',h1,h2,h3,h4,h5⟩:=frzLS_ok hm hr hf
  exact ⟨.agg cs,us',by simp [frzV,h1],h2,h3,h4,h5⟩
 ·have hf':(frzS N.hs sd).bind (fun p=>some ([p.1],p.2))=some (as,us):=by
   cases sd<;>first|exact hf|exact absurd ⟨_,rfl⟩ ha
  simp only [Option.bind_eq_some_iff,Option.some.injEq,Prod.mk.injEq,Prod.exists] at hf'
  obtain ⟨x,us1,h1,rfl,rfl⟩:=hf'
  obtain ⟨n1,n2⟩:=frzS_c h1
  obtain ⟨c,us',k1,k2,k3,k4,k5⟩:=frzS_ok hm (hr.c n1 n2) h1
  exact ⟨.one c,us',frzV_one k1,by simp [atCs,k2,V.cells],k3,k4,by rw [idsS_c n1];exact k5⟩
theorem frzVS_ok (hm:Rm b N h k lens) {sd:SD} {d:D} (hr:RD N sd d) {tv:TV} {us:List (Nat×SO)} (hf:frzVS lens N.hs sd=some (tv,us)):
  ∃v us',frzV h d=some (v,us')∧tvD N.ρ tv=some v∧SEv N (N.upd us)∧Rm b (N.upd us) (updH h us') k lens∧Wr N us' (idsS sd):=by
 by_cases ha:∃ds,sd=.agg ds
 ·obtain ⟨ds,rfl⟩:=ha
  obtain ⟨ds',rfl,hr⟩:=hr
  simp only [frzVS,Option.bind_eq_some_iff,Option.some.injEq,Prod.mk.injEq,Prod.exists] at hf
  obtain ⟨as,us1,h0,rfl,rfl⟩:=hf
  obtain ⟨cs,us',h1,h2,h3,h4,h5⟩:=frzLS_ok hm hr h0
  exact ⟨.agg cs,us',by simp [frzV,h1],by simp [tvD,mkSL_at hm,h2],h3,h4,h5⟩
 ·have hf':(frzS N.hs sd).bind (fun p=>some (TV.one p.1,p.2))=some (tv,us):=by
   cases sd<;>first|exact hf|exact absurd ⟨_,rfl⟩ ha
  simp only [Option.bind_eq_some_iff,Option.some.injEq,Prod.mk.injEq,Prod.exists] at hf'
  obtain ⟨x,us1,h1,rfl,rfl⟩:=hf'
  obtain ⟨n1,n2⟩:=frzS_c h1
  obtain ⟨c,us',k1,k2,k3,k4,k5⟩:=frzS_ok hm (hr.c n1 n2) h1
  exact ⟨.one c,us',frzV_one k1,by simp [tvD,k2],k3,k4,by rw [idsS_c n1];exact k5⟩
theorem frzVSs_ok:∀{ds:List SD} {ds':List D} {N:Nm} {h:Heap},Rm b N h k lens→All2 (RD N) ds ds'→∀{vs:List TV} {us:List (Nat×SO)},frzVSs lens N.hs ds=some (vs,us)→
  ∃xs us',frzVs h ds'=some (xs,us')∧tvDs N.ρ vs=some xs∧SEv N (N.upd us)∧Rm b (N.upd us) (updH h us') k lens∧Wr N us' (ds.flatMap idsS)
 |[],[],N,h,hm,_,as,us,hf=>by
  simp only [frzVSs,Option.some.injEq,Prod.mk.injEq] at hf
  obtain ⟨rfl,rfl⟩:=hf
  exact ⟨[],[],rfl,rfl,SEv.refl _,hm,Wr.nil⟩
 |sd::ds,d::ds',N,h,hm,hr,as,us,hf=>by
  simp only [frzVSs,Option.bind_eq_some_iff,Option.some.injEq,Prod.mk.injEq,Prod.exists] at hf
  obtain ⟨x,u1,h1,ys,u2,h2,rfl,rfl⟩:=hf
  obtain ⟨c,v1,k1,k2,k3,k4,k5⟩:=frzVS_ok hm hr.1 h1
  obtain ⟨cs,v2,l1,l2,l3,l4,l5⟩:=frzVSs_ok (N:=N.upd u1) k4 (hr.2.mono fun _ _=>k3.rd) h2
  refine ⟨c::cs,v1++v2,?_,?_,?_,?_,?_⟩
  ·simp [frzVs,k1,l1]
  ·have:tvDs N.ρ ys=some cs:=l2
   simp [tvDs,k2,this]
  ·rw [Nm.upd_append];exact k3.trans l3
  ·rw [Nm.upd_append,updH_append'];exact l4
  ·exact (k5.mono fun i hi=>by simp [hi]).append (l5.mono fun i hi=>by rw [List.flatMap_cons,List.mem_append];exact .inr hi)
 |[],_::_,_,_,_,hr,_,_,_=>hr.elim
 |_::_,[],_,_,_,hr,_,_,_=>hr.elim
theorem srcAtE_c {hs:List (Nat×SO)} {esz:Nat} {sd:SD} {x:At} (h:srcAtE hs esz sd=some x):(∀ds,sd≠.agg ds)∧∀ds,sd≠.tup ds:=by
 constructor<;>(intro ds e;subst e;cases h)
theorem srcAt_c {hs:List (Nat×SO)} {sd:SD} {x:At} (h:srcAt hs sd=some x):(∀ds,sd≠.agg ds)∧∀ds,sd≠.tup ds:=by
 constructor<;>(intro ds e;subst e;cases h)
theorem src_CD {c:C} {d:D} (h0:CD c d) {esz:Nat} {p:List C×Nat} (hp:srcC esz c=some p):srcOf h esz d=some p:=by
 rcases h0 with rfl|⟨cs,n,rfl,rfl⟩
 ·cases c with
  |lit v=>cases v<;>first|exact hp|cases hp
  |slice cs n=>exact hp
 ·exact hp
theorem srcAtE_ok (hm:Rm b N h k lens) {sd:SD} {d:D} (hr:RDc N sd d) {esz:Nat} {x:At} (hf:srcAtE N.hs esz sd=some x):
  ∃c,atC N.ρ x=some c∧∀p,srcC esz c=some p→srcOf h esz d=some p:=by
 cases sd with
 |a y=>
  simp only [srcAtE,Option.some.injEq] at hf
  subst hf
  obtain ⟨c,h1,h2⟩:=hr
  exact ⟨c,h1,fun p hp=>src_CD h2 hp⟩
 |full y=>
  simp only [srcAtE,Option.some.injEq] at hf
  subst hf
  obtain ⟨cs,n,h1,rfl⟩:=hr
  exact ⟨_,h1,fun p hp=>hp⟩
 |arr i=>
  simp only [srcAtE] at hf
  split at hf
  case h_2=>cases hf
  rename_i y e t fr al hg
  split at hf
  case isFalse=>cases hf
  rename_i he
  subst he
  simp only [Option.some.injEq] at hf
  subst hf
  obtain ⟨cs,n,g1,g2,g3⟩:=hm.arr hg
  refine ⟨_,g1,fun p hp=>?_⟩
  obtain ⟨_,hr⟩:=hr
  rcases hr with ⟨j,len,h1,rfl,h3⟩|⟨h1,cs',n',rfl,h3⟩
  ·obtain ⟨cs',h4⟩:=h3 _ _ _ _ _ hg
   rw [g1] at h4;injection h4 with h4;injection h4 with h4 h5;subst h4 h5
   rcases g3 with ⟨j',fz,k1,k2,k3,k4,k5⟩|⟨k1,_⟩
   ·rw [h1] at k1;injection k1 with k1;subst k1
    have hcut:(cs.drop 0).take (n * e)=cs:=by rw [←g2];simp
    simp only [srcC,if_pos g2,Option.some.injEq] at hp
    subst hp
    simp only [srcOf,k2]
    rw [if_pos ⟨trivial,by omega⟩,hcut]
   ·rw [h1] at k1;cases k1
  ·have h4:=h3 _ _ _ _ _ hg
   rw [g1] at h4;injection h4 with h4;injection h4 with h4 h5;subst h4 h5
   exact hp
 |view i y=>
  simp only [srcAtE] at hf
  split at hf
  case h_2=>cases hf
  rename_i z e t fr al hg
  split at hf
  case isFalse=>cases hf
  rename_i he
  subst he
  simp only [Option.some.injEq] at hf
  subst hf
  obtain ⟨_,cs,len,h1,hr⟩:=hr
  obtain ⟨ys,n,g1,g2,g3⟩:=hm.arr hg
  refine ⟨_,h1,fun p hp=>?_⟩
  rcases hr with rfl|⟨j,off,h2,rfl,h3⟩
  ·exact hp
  ·obtain ⟨_,ys',n',h4,h5,h6⟩:=h3 _ _ _ _ _ hg
   rw [g1] at h4;injection h4 with h4;injection h4 with h4 h7;subst h4 h7
   rcases g3 with ⟨j',fz,k1,k2,k3,k4,k5⟩|⟨k1,_⟩
   ·rw [h2] at k1;injection k1 with k1;subst k1
    simp only [srcC] at hp
    split at hp
    case isFalse=>cases hp
    simp only [Option.some.injEq] at hp
    subst hp
    simp only [srcOf,k2]
    rw [if_pos ⟨trivial,h5⟩,h6]
   ·rw [h2] at k1;cases k1
 |unk=>simp [srcAtE] at hf
 |loc i o=>simp [srcAtE] at hf
 |eloc i x o=>simp [srcAtE] at hf
 |ptr r o e=>simp [srcAtE] at hf
 |clo f c=>simp [srcAtE] at hf
 |agg ds=>simp [srcAtE] at hf
 |tup ds=>simp [srcAtE] at hf
theorem srcAt_ok (hm:Rm b N h k lens) {sd:SD} {d:D} (hr:RDc N sd d) {x:At} (hf:srcAt N.hs sd=some x):
  ∃c,atC N.ρ x=some c∧∀t v,lenC t c=some v→lenD t d=some (.c v):=by
 have key:∀{c:C} {d:D},CD c d→∀t v,lenC t c=some v→lenD t d=some (.c v):=by
  intro c d h0 t v hv
  rcases h0 with rfl|⟨cs,n,rfl,rfl⟩
  ·cases c with
   |lit u=>cases u<;>first|(simp only [lenC] at hv;cases hv;done)|(cases t<;>simp [lenC,lenD,dInt,intC] at hv ⊢;exact hv)
   |slice cs n=>cases t<;>simp [lenC,lenD,dInt,intC] at hv ⊢;exact hv
  ·cases t<;>simp [lenC,lenD,dInt,intC] at hv ⊢;exact hv
 cases sd with
 |a y=>
  simp only [srcAt,Option.some.injEq] at hf
  subst hf
  obtain ⟨c,h1,h2⟩:=hr
  exact ⟨c,h1,key h2⟩
 |full y=>
  simp only [srcAt,Option.some.injEq] at hf
  subst hf
  obtain ⟨cs,n,h1,rfl⟩:=hr
  exact ⟨_,h1,key (.inr ⟨cs,n,rfl,rfl⟩)⟩
 |arr i=>
  simp only [srcAt] at hf
  split at hf
  case h_2=>cases hf
  rename_i y e t fr al hg
  simp only [Option.some.injEq] at hf
  subst hf
  obtain ⟨_,hr⟩:=hr
  rcases hr with ⟨j,len,h1,rfl,h3⟩|⟨h1,cs',n',rfl,h3⟩
  ·obtain ⟨cs',h4⟩:=h3 _ _ _ _ _ hg
   refine ⟨_,h4,fun t v hv=>?_⟩
   cases t<;>simp [lenC,lenD,dInt,intC] at hv ⊢;exact hv
  ·exact ⟨_,h3 _ _ _ _ _ hg,key (.inr ⟨_,_,rfl,rfl⟩)⟩
 |view i y=>
  simp only [srcAt] at hf
  split at hf
  case h_2=>cases hf
  simp only [Option.some.injEq] at hf
  subst hf
  obtain ⟨_,cs,len,h1,hr⟩:=hr
  refine ⟨_,h1,?_⟩
  rcases hr with rfl|⟨j,off,h2,rfl,h3⟩
  ·exact key (.inl rfl)
  ·intro t v hv
   cases t<;>simp [lenC,lenD,dInt,intC] at hv ⊢;exact hv
 |unk=>simp [srcAt] at hf
 |loc i o=>simp [srcAt] at hf
 |eloc i x o=>simp [srcAt] at hf
 |ptr r o e=>simp [srcAt] at hf
 |clo f c=>simp [srcAt] at hf
 |agg ds=>simp [srcAt] at hf
 |tup ds=>simp [srcAt] at hf
theorem isCell_ok {sd:SD} {d:D} (hr:RDc N sd d) (hs:isCellS sd=true):isCell d=true:=by
 cases sd with
 |unk=>cases hs
 |a x=>obtain ⟨c,_,rfl|⟨cs,n,_,rfl⟩⟩:=hr<;>rfl
 |full x=>obtain ⟨cs,n,_,rfl⟩:=hr;rfl
 |loc i o=>obtain ⟨_,j,_,rfl⟩:=hr;rfl
 |arr i=>obtain ⟨_,⟨j,len,_,rfl,_⟩|⟨_,cs,n,rfl,_⟩⟩:=hr<;>rfl
 |view i x=>obtain ⟨_,cs,len,_,rfl|⟨j,off,_,rfl,_⟩⟩:=hr<;>rfl
 |eloc i x o=>obtain ⟨_,kd,q,_,_,⟨j,o',_,rfl,_⟩|⟨_,cs,rfl,_⟩⟩:=hr<;>rfl
 |ptr r o e=>obtain ⟨xs,rest,_,_,rfl⟩:=hr;rfl
 |clo f c=>obtain ⟨c',rfl,_⟩:=hr;rfl
 |agg ds=>cases hs
 |tup ds=>cases hs
theorem isCells_ok:∀{ds:List SD} {ds':List D},All2 (RDc N) ds ds'→ds.all isCellS=true→ds'.all isCell=true
 |[],[],_,_=>rfl
 |sd::ds,d::ds',hr,hs=>by
  simp only [List.all_cons,Bool.and_eq_true] at hs ⊢
  exact ⟨isCell_ok hr.1 hs.1,isCells_ok hr.2 hs.2⟩
 |[],_::_,hr,_=>hr.elim
 |_::_,[],hr,_=>hr.elim
theorem cellsD_one {d:D} (h:isCell d=true):cellsD d=some [d]:=by
 cases d<;>first|rfl|cases h
theorem cellsS_ok {sd:SD} {d:D} (hr:RD N sd d) {xs:List SD} (hs:cellsS sd=some xs):∃ds,cellsD d=some ds∧All2 (RDc N) xs ds:=by
 by_cases ha:∃ds,sd=.agg ds
 ·obtain ⟨ds,rfl⟩:=ha
  obtain ⟨ds',rfl,hr⟩:=hr
  simp only [cellsS] at hs
  split at hs
  ·rename_i hc
   simp only [Option.some.injEq] at hs
   subst hs
   exact ⟨ds',by simp only [cellsD];rw [if_pos (isCells_ok hr hc)],hr⟩
  ·cases hs
 ·have hs':(if isCellS sd then some [sd] else none)=some xs:=by cases sd<;>first|exact hs|exact absurd ⟨_,rfl⟩ ha
  split at hs'
  ·rename_i hc
   simp only [Option.some.injEq] at hs'
   subst hs'
   have hr':RDc N sd d:=hr.c (fun ds e=>ha ⟨ds,e⟩) (fun ds e=>by subst e;cases hc)
   exact ⟨[d],cellsD_one (isCell_ok hr' hc),hr',trivial⟩
  ·cases hs'
theorem all2_splice {xs ds:List SD} {xs' ds':List D} {off:Nat} (h1:All2 (RDc N) ds ds') (h2:All2 (RDc N) xs xs'):All2 (RDc N) (splice ds off xs) (splice ds' off xs'):=by
 unfold splice
 rw [h2.len]
 exact ((h1.take off).append h2).append (h1.drop _)
theorem fillS_ok {sx:X→SD} {dx:X→D} (hx:∀x,RD N (sx x) (dx x)):∀{parts:List (Nat×Nat×X)} {ds:List SD} {ds':List D} {out:List SD},All2 (RDc N) ds ds'→fillS sx ds parts=some out→
  ∃out',fillP dx ds' parts=some out'∧All2 (RDc N) out out'
 |[],ds,ds',out,hr,hf=>by
  simp only [fillS,Option.some.injEq] at hf
  subst hf
  exact ⟨ds',rfl,hr⟩
 |(off,size,x)::parts,ds,ds',out,hr,hf=>by
  simp only [fillS,Option.bind_eq_some_iff] at hf
  obtain ⟨xs,h1,h2⟩:=hf
  split at h2
  case isFalse=>cases h2
  rename_i hc
  obtain ⟨xs',h3,h4⟩:=cellsS_ok (hx x) h1
  obtain ⟨out',h5,h6⟩:=fillS_ok hx (all2_splice hr h4 (off:=off)) h2
  refine ⟨out',?_,h6⟩
  simp only [fillP,Option.bind_eq_bind,h3,Option.bind_some]
  rw [if_pos ⟨by rw [←h4.len];exact hc.1,by rw [←hr.len];exact hc.2⟩]
  exact h5
theorem litS_ok (v:Value):RDc N (litS v) (litD v):=by
 by_cases hv:v=.slice none 0 0
 ·subst hv;exact ⟨[],0,rfl,rfl⟩
 ·have h1:litS v=.a (.k v):=by unfold litS;split;exact absurd rfl hv;rfl
  have h2:litD v=.c (.lit v):=by unfold litD;split;exact absurd rfl hv;rfl
  rw [h1,h2]
  exact ⟨.lit v,rfl,.inl rfl⟩
theorem litA_ok (v:Value):RDc N (.a (litA v)) (.c (litC v)):=by
 by_cases hv:v=.slice none 0 0
 ·subst hv;exact ⟨.slice [] 0,rfl,.inl rfl⟩
 ·have h1:litA v=.k v:=by unfold litA;split;exact absurd rfl hv;rfl
  have h2:litC v=.lit v:=by unfold litC;split;exact absurd rfl hv;rfl
  rw [h1,h2]
  exact ⟨.lit v,rfl,.inl rfl⟩
theorem litSs_ok:∀zero:List Value,All2 (RDc N) (zero.map litS) (zero.map litD)
 |[]=>trivial
 |v::r=>⟨litS_ok v,litSs_ok r⟩
theorem litAs_ok:∀zero:List Value,All2 (RDc N) (zero.map fun v=> .a (litA v)) ((zero.map litC).map .c)
 |[]=>trivial
 |v::r=>⟨litA_ok v,litAs_ok r⟩
theorem zerosS_ok (zero:List Value):∀n,All2 (RDc N) (zerosS zero n) ((zeros zero n).map .c)
 |0=>trivial
 |n+1=>by
  simp only [zerosS,zeros,List.map_append]
  exact (litAs_ok zero).append (zerosS_ok zero n)
theorem zeros_len (zero:List Value):∀n,(zeros zero n).length=n * zero.length
 |0=>by simp [zeros]
 |n+1=>by simp [zeros,zeros_len zero n,Nat.succ_mul,Nat.add_comm]
theorem capsS_ok {sx:X→SD} {dx:X→D} (hx:∀x,RD N (sx x) (dx x)):∀{xs:List X} {caps:List (Nat×Nat)},capsS sx xs=some caps→
  ∃caps',capsOf dx xs=some caps'∧All2 (fun p q:Nat×Nat=>p.1 < N.nx∧N.μ p.1=some q.1∧q.2=p.2) caps caps'
 |[],caps,h=>by
  simp only [capsS,Option.some.injEq] at h
  subst h
  exact ⟨[],rfl,trivial⟩
 |x::xs,caps,h=>by
  simp only [capsS] at h
  split at h
  case h_2=>cases h
  rename_i i off hsx
  simp only [Option.bind_eq_some_iff,Option.some.injEq] at h
  obtain ⟨r,h1,rfl⟩:=h
  obtain ⟨r',h2,h3⟩:=capsS_ok hx h1
  have h4:=hx x
  rw [hsx] at h4
  obtain ⟨hi,j,h5,h6⟩:RDc N (.loc i off) (dx x):=h4
  exact ⟨(j,off)::r',by simp [capsOf,h6,h2],⟨hi,h5,rfl⟩,h3⟩
theorem nths_ok {i:Nat} {xs:List C} (hw:getW N.ρ i=some (.l xs)):∀(m off:Nat),off+m≤xs.length→All2 (RDc N) ((nths i off m).map .a) (((xs.drop off).take m).map .c)
 |0,off,_=>by simp [nths,All2]
 |m+1,off,hl=>by
  have hlt:off < xs.length:=by omega
  rw [List.drop_eq_getElem_cons hlt]
  simp only [nths,List.map_cons,List.take_succ_cons]
  exact ⟨⟨xs[off],by simp [atC,hw,nthC_drop xs off hlt],.inl rfl⟩,nths_ok hw m (off+1) (by omega)⟩
end
end Go.Ey

namespace Go.Ey
def nm (ρ:List W) (μ:Nat→Option Nat) (σ:Sy):Nm:=⟨ρ,μ,σ.heap,σ.nx⟩
def PostI (b:Bs) (ρ:List W) (μ:Nat→Option Nat) (σ:Sy) (h:Heap) (k:Nat) (call:FnT) (head:HdT) (kt:SD→Sy→Nat→Tree) (r:R) (tch:List Nat) (d:D) (us:List (Nat×Obj)):Prop:=
 ∃(ws:List W) (μ':Nat→Option Nat) (σ':Sy) (sd:SD),σ'.env=σ.env∧SEv (nm ρ μ σ) (nm (ρ++ws) μ' σ')∧Rm b (nm (ρ++ws) μ' σ') (updH h us) (k+1) σ'.lens∧RD (nm (ρ++ws) μ' σ') sd d∧
  denT call head (kt sd σ' (ρ++ws).length) (ρ++ws)=some r∧∀j,j∈us.map (·.1)→∃i∈wroteS σ.nx σ'.nx tch,i < σ'.nx∧μ' i=some j
section
variable {b:Bs} {ρ:List W} {μ:Nat→Option Nat} {σ:Sy} {h:Heap} {k:Nat} {call:FnT} {head:HdT} {kt:SD→Sy→Nat→Tree} {r:R} {sx:X→SD} {dx:X→D} {tch:List Nat}
theorem wrote_mem {nx nx':Nat} {ts:List Nat} {i:Nat} (h:i∈ts∨(nx≤i∧i < nx')):i∈wroteS nx nx' ts:=by
 unfold wroteS
 rw [List.mem_append]
 rcases h with h|⟨h1,h2⟩
 ·exact .inl h
 ·refine .inr (List.mem_map.2 ⟨i - nx,List.mem_range.2 (by omega),by omega⟩)
theorem post_same (hm:Rm b (nm ρ μ σ) h k σ.lens) {sd:SD} {d:D} (hr:RD (nm ρ μ σ) sd d) (hd:denT call head (kt sd σ ρ.length) ρ=some r):PostI b ρ μ σ h k call head kt r tch d []:=
 ⟨[],μ,σ,sd,rfl,by rw [List.append_nil];exact SEv.refl _,by rw [List.append_nil];exact hm.tick (Nat.le_succ k),by rw [List.append_nil];exact hr,by rw [List.append_nil];exact hd,fun j hj=>by simp at hj⟩
theorem post_cell (hm:Rm b (nm ρ μ σ) h k σ.lens) {c:C} (hd:denT call head (kt (.a (.v ρ.length)) σ (ρ.length+1)) (ρ++[.c c])=some r):PostI b ρ μ σ h k call head kt r tch (.c c) []:=
 ⟨[.c c],μ,σ,.a (.v ρ.length),rfl,sev_ext (nm ρ μ σ) [.c c],(hm.ext [.c c]).tick (Nat.le_succ k),⟨c,by simp [nm,atC,getW_len],.inl rfl⟩,by simpa using hd,fun j hj=>by simp at hj⟩
theorem at_new (ρ:List W) (c:C) (ws:List W):atC (ρ++.c c::ws) (.v ρ.length)=some c:=by simp [atC,getW_len]
theorem post_row (hm:Rm b (nm ρ μ σ) h k σ.lens) {xs:List C} {m:Nat} (hl:xs.length=m) {sd:SD} {d:D} (hr:RD (nm (ρ++[.l xs]) μ σ) sd d) (hd:denT call head (kt sd (σ.len ρ.length m) (ρ.length+1)) (ρ++[.l xs])=some r):
  PostI b ρ μ σ h k call head kt r tch d []:=by
 refine ⟨[.l xs],μ,σ.len ρ.length m,sd,rfl,sev_ext (nm ρ μ σ) [.l xs],?_,hr,by simpa using hd,fun j hj=>by simp at hj⟩
 refine Rm.lens' ((hm.ext [.l xs]).tick (Nat.le_succ k)) fun i q hi=>?_
 simp only [Sy.len,List.mem_cons,Prod.mk.injEq] at hi
 rcases hi with ⟨rfl,rfl⟩|hi
 ·exact ⟨xs,getW_len ρ _ [],hl⟩
 ·obtain ⟨ys,h1,h2⟩:=(hm.ext [.l xs]).lens i q hi
  exact ⟨ys,h1,h2⟩
theorem asAt_some {sd:SD} {x:At} (h:asAt sd=some x):sd=.a x:=by
 cases sd<;>simp [asAt] at h
 exact congrArg _ h
theorem asAt_ok {N:Nm} {sd:SD} {d:D} (hr:RD N sd d) {x:At} (h:asAt sd=some x):∃c,atC N.ρ x=some c∧CD c d:=by
 have:=asAt_some h
 subst this
 exact hr
theorem asAtO_ok {N:Nm} {sx:X→SD} {dx:X→D} (hx:∀x,RD N (sx x) (dx x)) {o:Option X} {l:Option At} (h:asAtO (o.map sx)=some l):∃c,atO N.ρ l=some c∧
  ((o=none∧l=none∧c=none)∨∃x y c0,o=some x∧l=some y∧c=some c0∧CD c0 (dx x)):=by
 cases o with
 |none=>
  simp only [Option.map_none,asAtO,Option.some.injEq] at h
  subst h
  exact ⟨none,rfl,.inl ⟨rfl,rfl,rfl⟩⟩
 |some x=>
  have hx:=hx x
  simp only [Option.map_some] at h
  cases hs:sx x with
  |a y=>
   rw [hs] at h hx
   simp only [asAtO,Option.some.injEq] at h
   subst h
   obtain ⟨c,h1,h2⟩:=hx
   exact ⟨some c,by simp [atO,h1],.inr ⟨x,y,c,rfl,rfl,rfl,h2⟩⟩
  |_=>rw [hs] at h;simp [asAtO] at h
theorem loC_ok {o:Option X} {c:Option C} {l:Option At} (h:(o=none∧l=none∧c=none)∨∃x y c0,o=some x∧l=some y∧c=some c0∧CD c0 (dx x)) {n:Nat} (hl:loC c=some n):loOf (o.map dx)=some n:=by
 rcases h with ⟨rfl,_,rfl⟩|⟨x,y,c0,rfl,_,rfl,h1⟩
 ·exact hl
 ·cases c0 with
  |slice cs n=>simp [loC] at hl
  |lit v=>
   cases v<;>simp only [loC] at hl<;>try (cases hl;done)
   simp only [Option.map_some,loOf,Option.bind_eq_bind,h1.lit,asInt,Option.bind_some]
   exact hl
theorem hiC_ok {o:Option X} {c:Option C} {l:Option At} {len:Nat} (h:(o=none∧l=none∧c=none)∨∃x y c0,o=some x∧l=some y∧c=some c0∧CD c0 (dx x)) {n:Nat} (hl:hiC len c=some n):hiOf len (o.map dx)=some n:=by
 rcases h with ⟨rfl,_,rfl⟩|⟨x,y,c0,rfl,_,rfl,h1⟩
 ·exact hl
 ·cases c0 with
  |slice cs n=>simp [hiC] at hl
  |lit v=>
   cases v<;>simp only [hiC] at hl<;>try (cases hl;done)
   simp only [Option.map_some,hiOf,Option.bind_eq_bind,h1.lit,asInt,Option.bind_some]
   exact hl
theorem eqCs_ok:∀{ks:List Nat} {xs ys:List C} {ds es:List D} {t:Bool},All2 CD xs ds→All2 CD ys es→eqCs ks xs ys=some t→eqDs ks ds es=some t
 |[],[],[],[],[],t,_,_,h=>h
 |q::ks,x::xs,y::ys,d::ds,e::es,t,h1,h2,h=>by
  simp only [eqCs,Option.bind_eq_some_iff,Option.some.injEq] at h
  obtain ⟨u,h3,v,h4,rfl⟩:=h
  have hx:∃a,x=.lit a:=by
   cases x with
   |lit a=>exact ⟨a,rfl⟩
   |slice cs n=>unfold eqC at h3;split at h3<;>first|(rename_i e1 _;cases e1;done)|(rename_i e1;cases e1;done)|cases h3
  have hy:∃a,y=.lit a:=by
   cases y with
   |lit a=>exact ⟨a,rfl⟩
   |slice cs n=>unfold eqC at h3;split at h3<;>first|(rename_i _ e1;cases e1;done)|(rename_i e1;cases e1;done)|cases h3
  obtain ⟨a,rfl⟩:=hx
  obtain ⟨c,rfl⟩:=hy
  rw [h1.1.lit,h2.1.lit]
  simp [eqDs,h3,eqCs_ok h1.2 h2.2 h4]
 |[],_::_,_,_,_,_,_,_,h=>by simp [eqCs] at h
 |[],[],_::_,_,_,_,_,_,h=>by simp [eqCs] at h
 |_::_,[],_,_,_,_,_,_,h=>by simp [eqCs] at h
 |_::_,_::_,[],_,_,_,_,_,h=>by simp [eqCs] at h
 |_,_::_,_,[],_,_,h1,_,_=>h1.elim
 |_,[],_,_::_,_,_,h1,_,_=>h1.elim
 |_,_,_::_,_,[],_,_,h2,_=>h2.elim
 |_,_,[],_,_::_,_,_,h2,_=>h2.elim
variable (hm:Rm b (nm ρ μ σ) h k σ.lens) (hx:∀x,RD (nm ρ μ σ) (sx x) (dx x))
include hm hx
def Goal (b:Bs) (ρ:List W) (μ:Nat→Option Nat) (σ:Sy) (h:Heap) (k:Nat) (call:FnT) (head:HdT) (kt:SD→Sy→Nat→Tree) (r:R) (sx:X→SD) (dx:X→D) (i:Ins):Prop:=
 ∃d us,step dx h k i=some (d,us)∧PostI b ρ μ σ h k call head kt r (touchS sx i) d us
theorem s_mov {x:X} (hd:denT call head (symIns σ ρ.length sx kt (.mov x)) ρ=some r):Goal b ρ μ σ h k call head kt r sx dx (.mov x):=
 ⟨dx x,[],rfl,post_same hm (hx x) hd⟩
theorem s_build {zero:List Value} {parts:List (Nat×Nat×X)} (hd:denT call head (symIns σ ρ.length sx kt (.build zero parts)) ρ=some r):Goal b ρ μ σ h k call head kt r sx dx (.build zero parts):=by
 simp only [symIns] at hd
 split at hd
 case h_2=>cases hd
 rename_i ds hf
 obtain ⟨out,h1,h2⟩:=fillS_ok hx (litSs_ok zero) hf
 exact ⟨.agg out,[],by simp [step,pureD,h1],post_same hm (sd:=.agg ds) ⟨out,rfl,h2⟩ hd⟩
theorem s_bin {op:BinOp} {isB:Bool} {x y:X} (hd:denT call head (symIns σ ρ.length sx kt (.bin op isB x y)) ρ=some r):Goal b ρ μ σ h k call head kt r sx dx (.bin op isB x y):=by
 simp only [symIns] at hd
 split at hd
 case h_2=>cases hd
 rename_i a c h1 h2
 simp only [denT,opcD,Option.bind_eq_some_iff] at hd
 obtain ⟨v,⟨u1,h3,u2,h4,h5⟩,hd⟩:=hd
 obtain ⟨c1,h6,h7⟩:=asAt_ok (hx x) h1
 obtain ⟨c2,h8,h9⟩:=asAt_ok (hx y) h2
 have e1:u1=c1:=by have:atC ρ a=some c1:=h6;rw [h3] at this;injection this
 have e2:u2=c2:=by have:atC ρ c=some c2:=h8;rw [h4] at this;injection this
 subst e1 e2
 cases u1 with
 |slice _ _=>simp [binC] at h5
 |lit w1=>cases u2 with
  |slice _ _=>simp [binC] at h5
  |lit w2=>
   simp only [binC,Option.bind_eq_some_iff,Option.some.injEq] at h5
   obtain ⟨v',h5,rfl⟩:=h5
   exact ⟨.c (.lit v'),[],by simp only [step,pureD,h7.lit,h9.lit,asLit,Option.bind_eq_bind,Option.bind_some,h5];rfl,post_cell hm hd⟩
theorem s_mm {isMax:Bool} {x y:X} (hd:denT call head (symIns σ ρ.length sx kt (if isMax then .mx x y else .mn x y)) ρ=some r):Goal b ρ μ σ h k call head kt r sx dx (if isMax then .mx x y else .mn x y):=by
 have hd':denT call head (match asAt (sx x),asAt (sx y) with
  |some a,some b=> .opc (.mm isMax a b) (kt (.a (.v ρ.length)) σ (ρ.length+1))
  |_,_=> .fail) ρ=some r:=by cases isMax<;>exact hd
 clear hd
 split at hd'
 case h_2=>cases hd'
 rename_i a c h1 h2
 simp only [denT,opcD,Option.bind_eq_some_iff] at hd'
 obtain ⟨v,⟨u1,h3,u2,h4,h5⟩,hd⟩:=hd'
 obtain ⟨c1,h6,h7⟩:=asAt_ok (hx x) h1
 obtain ⟨c2,h8,h9⟩:=asAt_ok (hx y) h2
 have e1:u1=c1:=by have:atC ρ a=some c1:=h6;rw [h3] at this;injection this
 have e2:u2=c2:=by have:atC ρ c=some c2:=h8;rw [h4] at this;injection this
 subst e1 e2
 cases u1 with
 |slice _ _=>simp [mmC] at h5
 |lit w1=>cases u2 with
  |slice _ _=>simp [mmC] at h5
  |lit w2=>
   simp only [mmC,Option.bind_eq_some_iff,Option.some.injEq] at h5
   obtain ⟨v',h5,rfl⟩:=h5
   refine ⟨.c (.lit v'),[],?_,post_cell hm hd⟩
   cases isMax<;>simp only [step,pureD,h7.lit,h9.lit,asLit,Option.bind_eq_bind,Option.bind_some,h5,if_true,if_false,Bool.false_eq_true]<;>rfl
theorem s_un {op:UnOp} {x:X} (hd:denT call head (symIns σ ρ.length sx kt (.un op x)) ρ=some r):Goal b ρ μ σ h k call head kt r sx dx (.un op x):=by
 simp only [symIns] at hd
 split at hd
 ·rename_i t h1
  have h2:=asAt_ok (hx x) h1
  obtain ⟨c,h3,h4⟩:=h2
  simp only [atC,Option.some.injEq] at h3
  subst h3
  exact ⟨.c (.lit (.bool !t)),[],by simp [step,pureD,h4.lit,asLit,unV],post_same hm (sd:=.a (.k (.bool !t))) ⟨_,rfl,.inl rfl⟩ hd⟩
 ·rename_i a _ h1
  simp only [denT,opcD,Option.bind_eq_some_iff] at hd
  obtain ⟨v,⟨u1,h3,h5⟩,hd⟩:=hd
  obtain ⟨c1,h6,h7⟩:=asAt_ok (hx x) h1
  have e1:u1=c1:=by have:atC ρ a=some c1:=h6;rw [h3] at this;injection this
  subst e1
  cases u1 with
  |slice _ _=>simp [unC] at h5
  |lit w1=>
   simp only [unC,Option.bind_eq_some_iff,Option.some.injEq] at h5
   obtain ⟨v',h5,rfl⟩:=h5
   exact ⟨.c (.lit v'),[],by simp only [step,pureD,h7.lit,asLit,Option.bind_eq_bind,Option.bind_some,h5];rfl,post_cell hm hd⟩
 ·cases hd
theorem s_conv {kd:IntKind} {x:X} (hd:denT call head (symIns σ ρ.length sx kt (.conv kd x)) ρ=some r):Goal b ρ μ σ h k call head kt r sx dx (.conv kd x):=by
 simp only [symIns] at hd
 split at hd
 case h_2=>cases hd
 rename_i a h1
 simp only [denT,opcD,Option.bind_eq_some_iff] at hd
 obtain ⟨v,⟨u1,h3,h5⟩,hd⟩:=hd
 obtain ⟨c1,h6,h7⟩:=asAt_ok (hx x) h1
 have e1:u1=c1:=by have:atC ρ a=some c1:=h6;rw [h3] at this;injection this
 subst e1
 unfold convC at h5
 split at h5
 ·simp only [Option.some.injEq] at h5
  subst h5
  exact ⟨_,[],by simp only [step,pureD,h7.lit,asInt,Option.bind_eq_bind,Option.bind_some];rfl,post_cell hm hd⟩
 ·cases h5
theorem s_eqs {ks:List Nat} {neg:Bool} {x y:X} (hd:denT call head (symIns σ ρ.length sx kt (.eqs ks neg x y)) ρ=some r):Goal b ρ μ σ h k call head kt r sx dx (.eqs ks neg x y):=by
 simp only [symIns] at hd
 split at hd
 case h_2=>cases hd
 rename_i as bs h1 h2
 split at hd
 case h_2=>cases hd
 rename_i xs ys h3 h4
 simp only [denT,opcD,Option.bind_eq_some_iff] at hd
 obtain ⟨v,⟨l1,h5,l2,h6,h7⟩,hd⟩:=hd
 have g1:=hx x
 have g2:=hx y
 rw [h1] at g1
 rw [h2] at g2
 obtain ⟨ds,e1,g1⟩:=g1
 obtain ⟨es,e2,g2⟩:=g2
 obtain ⟨ms,k1,k2⟩:=asAts_ok g1 h3
 obtain ⟨ns,k3,k4⟩:=asAts_ok g2 h4
 have f1:slD ρ (mkSL σ.lens xs)=_:=mkSL_at hm xs
 have f2:slD ρ (mkSL σ.lens ys)=_:=mkSL_at hm ys
 rw [f1,show (nm ρ μ σ).ρ=ρ from rfl,show atCs ρ xs=some ms from k1] at h5
 rw [f2,show (nm ρ μ σ).ρ=ρ from rfl,show atCs ρ ys=some ns from k3] at h6
 injection h5 with h5
 injection h6 with h6
 subst h5 h6
 simp only [eqsC,Option.bind_eq_some_iff,Option.some.injEq] at h7
 obtain ⟨t,h7,rfl⟩:=h7
 have h8:=eqCs_ok k2 k4 h7
 exact ⟨_,[],by simp only [step,pureD,e1,e2,eqsD,h8];rfl,post_cell hm hd⟩
theorem s_len {t:Bool} {x:X} (hd:denT call head (symIns σ ρ.length sx kt (.len t x)) ρ=some r):Goal b ρ μ σ h k call head kt r sx dx (.len t x):=by
 simp only [symIns] at hd
 split at hd
 case h_2=>cases hd
 rename_i a h1
 simp only [denT,opcD,Option.bind_eq_some_iff] at hd
 obtain ⟨v,⟨u1,h3,h5⟩,hd⟩:=hd
 obtain ⟨n1,n2⟩:=srcAt_c h1
 obtain ⟨c1,h6,h7⟩:=srcAt_ok hm ((hx x).c n1 n2) h1
 have e1:u1=c1:=by have:atC ρ a=some c1:=h6;rw [h3] at this;injection this
 subst e1
 exact ⟨.c v,[],by simp [step,pureD,h7 _ _ h5],post_cell hm hd⟩
theorem s_toStr {x:X} (hd:denT call head (symIns σ ρ.length sx kt (.toStr x)) ρ=some r):Goal b ρ μ σ h k call head kt r sx dx (.toStr x):=by
 simp only [symIns] at hd
 split at hd
 case h_2=>cases hd
 rename_i a h1
 simp only [denT,opcD,Option.bind_eq_some_iff] at hd
 obtain ⟨v,⟨u1,h3,h5⟩,hd⟩:=hd
 have h1':srcAtE σ.heap 1 (sx x)=some a:=h1
 obtain ⟨n1,n2⟩:=srcAtE_c h1'
 obtain ⟨c1,h6,h7⟩:=srcAtE_ok hm ((hx x).c n1 n2) h1'
 have e1:u1=c1:=by have:atC ρ a=some c1:=h6;rw [h3] at this;injection this
 subst e1
 cases u1 with
 |lit _=>simp [toStrC] at h5
 |slice cs n=>
  simp only [toStrC,Option.bind_eq_some_iff] at h5
  obtain ⟨bs,h8,h9⟩:=h5
  split at h9
  case isFalse=>cases h9
  rename_i hl
  simp only [Option.some.injEq] at h9
  subst h9
  have h10:=h7 (cs,n) (by simp [srcC,hl])
  have h11:srcB h (dx x)=some (cs,n):=by
   unfold srcB
   split
   ·rename_i s e
    exfalso
    have hr:=(hx x).c n1 n2
    rw [e] at hr
    have:∃c,atC ρ a=some c∧c=.lit (.string s):=by
     revert h1'
     cases hs:sx x<;>intro h1'<;>rw [hs] at hr<;>simp only [srcAtE] at h1'<;>try (cases h1';done)
     ·obtain ⟨c,q1,q2⟩:=hr
      injection h1' with h1';subst h1'
      rcases q2 with q2|⟨_,_,_,q2⟩
      ·injection q2 with q2;exact ⟨c,q1,q2.symm⟩
      ·cases q2
     ·obtain ⟨_,_,_,q2⟩:=hr;cases q2
     ·obtain ⟨_,⟨_,_,_,q2,_⟩|⟨_,_,_,q2,_⟩⟩:=hr<;>cases q2
     ·obtain ⟨_,_,_,_,q2|⟨_,_,_,q2,_⟩⟩:=hr<;>cases q2
    obtain ⟨c,q1,q2⟩:=this
    rw [h3] at q1
    injection q1 with q1
    rw [q2] at q1
    cases q1
   ·exact h10
  exact ⟨_,[],by simp only [step,pureD,h11,h8,Option.bind_eq_bind,Option.bind_some];rw [if_pos hl];rfl,post_cell hm hd⟩
theorem s_sls {x:X} {lo hi:Option X} (hd:denT call head (symIns σ ρ.length sx kt (.sls x lo hi)) ρ=some r):Goal b ρ μ σ h k call head kt r sx dx (.sls x lo hi):=by
 simp only [symIns] at hd
 split at hd
 case h_2=>cases hd
 rename_i l u s h1 h2 h3
 simp only [denT,opcD,Option.bind_eq_some_iff] at hd
 obtain ⟨v,⟨u1,q1,u2,q2,u3,q3,h5⟩,hd⟩:=hd
 obtain ⟨c1,k1,k2⟩:=asAt_ok (hx x) h3
 obtain ⟨c2,k3,k4⟩:=asAtO_ok hx h1
 obtain ⟨c3,k5,k6⟩:=asAtO_ok hx h2
 have e1:u1=c1:=by have:atC ρ s=some c1:=k1;rw [q1] at this;injection this
 have e2:u2=c2:=by have:atO ρ l=some c2:=k3;rw [q2] at this;injection this
 have e3:u3=c3:=by have:atO ρ u=some c3:=k5;rw [q3] at this;injection this
 subst e1 e2 e3
 unfold sstrC at h5
 split at h5
 case h_2=>cases h5
 simp only [Option.bind_eq_some_iff] at h5
 obtain ⟨a,h6,c,h7,h8⟩:=h5
 split at h8
 case isFalse=>cases h8
 rename_i hc
 simp only [Option.some.injEq] at h8
 subst h8
 exact ⟨_,[],by simp only [step,pureD,k2.lit,slsD,loC_ok k4 h6,hiC_ok k6 h7,Option.bind_eq_bind,Option.bind_some];rw [if_pos hc];rfl,post_cell hm hd⟩
theorem s_sidx {x i:X} (hd:denT call head (symIns σ ρ.length sx kt (.sidx x i)) ρ=some r):Goal b ρ μ σ h k call head kt r sx dx (.sidx x i):=by
 simp only [symIns] at hd
 split at hd
 case h_2=>cases hd
 rename_i a c h1 h2
 simp only [denT,opcD,Option.bind_eq_some_iff] at hd
 obtain ⟨v,⟨u1,h3,u2,h4,h5⟩,hd⟩:=hd
 obtain ⟨c1,h6,h7⟩:=asAt_ok (hx x) h1
 obtain ⟨c2,h8,h9⟩:=asAt_ok (hx i) h2
 have e1:u1=c1:=by have:atC ρ a=some c1:=h6;rw [h3] at this;injection this
 have e2:u2=c2:=by have:atC ρ c=some c2:=h8;rw [h4] at this;injection this
 subst e1 e2
 unfold sidxC at h5
 split at h5
 case h_2=>cases h5
 split at h5
 case isFalse=>cases h5
 rename_i hc
 simp only [Option.bind_eq_some_iff,Option.some.injEq] at h5
 obtain ⟨q,h5,rfl⟩:=h5
 exact ⟨_,[],by simp only [step,pureD,h7.lit,h9.lit,asInt,Option.bind_eq_bind,Option.bind_some];rw [if_pos hc,h5];rfl,post_cell hm hd⟩
theorem s_nilck {x:X} (hd:denT call head (symIns σ ρ.length sx kt (.nilck x)) ρ=some r):Goal b ρ μ σ h k call head kt r sx dx (.nilck x):=by
 simp only [symIns] at hd
 have hr:=hx x
 split at hd
 ·rename_i i off hs
  rw [hs] at hr
  obtain ⟨hi,j,h1,h2⟩:=hr
  exact ⟨.loc j off,[],by simp [step,h2],post_same hm (sd:=.loc i off) ⟨hi,j,h1,rfl⟩ hd⟩
 ·rename_i q off esz hs
  rw [hs] at hr
  obtain ⟨xs,rest,h1,h2,h3⟩:=hr
  exact ⟨_,[],by simp only [step,h3],post_same hm (sd:=.ptr q off esz) ⟨xs,rest,h1,h2,rfl⟩ hd⟩
 ·rename_i i y off hs
  rw [hs] at hr
  have hr':RDc (nm ρ μ σ) (.eloc i y off) (dx x):=hr
  obtain ⟨hi,kd,q,h1,h2,h3⟩:=hr
  rcases h3 with ⟨j,o,h4,h5,h6⟩|⟨h4,cs,h5,h6⟩
  ·rw [h5] at hr'
   exact ⟨_,[],by simp only [step,h5],post_same hm (sd:=.eloc i y off) hr'.toD hd⟩
  ·rw [h5] at hr'
   exact ⟨_,[],by simp only [step,h5],post_same hm (sd:=.eloc i y off) hr'.toD hd⟩
 ·cases hd
theorem s_fadr {off:Nat} {x:X} (hd:denT call head (symIns σ ρ.length sx kt (.fadr off x)) ρ=some r):Goal b ρ μ σ h k call head kt r sx dx (.fadr off x):=by
 simp only [symIns] at hd
 have hr:=hx x
 split at hd
 ·rename_i i o hs
  rw [hs] at hr
  obtain ⟨hi,j,h1,h2⟩:=hr
  exact ⟨.loc j (o+off),[],by simp [step,h2],post_same hm (sd:=.loc i (o+off)) ⟨hi,j,h1,rfl⟩ hd⟩
 ·rename_i q o esz hs
  rw [hs] at hr
  obtain ⟨xs,rest,h1,h2,h3⟩:=hr
  exact ⟨.ptr (((xs++rest).drop o).drop off),[],by simp only [step,h3],post_same hm (sd:=.ptr q (o+off) esz) ⟨xs,rest,h1,h2,by rw [List.drop_drop]⟩ hd⟩
 ·rename_i i y o hs
  rw [hs] at hr
  obtain ⟨hi,kd,q,h1,h2,h3⟩:=hr
  rcases h3 with ⟨j,o',h4,h5,h6⟩|⟨h4,cs,h5,h6⟩
  ·refine ⟨.loc j (o'+off),[],by simp only [step,h5],post_same hm (sd:=.eloc i y (o+off)) ?_ hd⟩
   exact ⟨hi,kd,q,h1,h2,.inl ⟨j,o'+off,h4,rfl,fun z e t f a hg=>by rw [h6 z e t f a hg];omega⟩⟩
  ·refine ⟨.ptr (cs.drop off),[],by simp only [step,h5],post_same hm (sd:=.eloc i y (o+off)) ?_ hd⟩
   refine ⟨hi,kd,q,h1,h2,.inr ⟨h4,cs.drop off,rfl,fun z e t f a hg=>?_⟩⟩
   obtain ⟨ys,n,h7,h8⟩:=h6 z e t f a hg
   exact ⟨ys,n,h7,by rw [h8,List.drop_drop];congr 1;omega⟩
 ·cases hd
theorem s_fld {off:Nat} {agg:Bool} {size:Nat} {x:X} (hd:denT call head (symIns σ ρ.length sx kt (.fld off agg size x)) ρ=some r):Goal b ρ μ σ h k call head kt r sx dx (.fld off agg size x):=by
 simp only [symIns] at hd
 have hr:=hx x
 split at hd
 case h_2=>cases hd
 rename_i ds hs
 rw [hs] at hr
 obtain ⟨ds',h1,h2⟩:=hr
 split at hd
 ·split at hd
  case isFalse=>cases hd
  rename_i hc
  exact ⟨_,[],by simp only [step,h1,if_true];rw [if_pos (by rw [←h2.len];exact hc)],post_same hm (sd:=.agg ((ds.drop off).take size)) ⟨_,rfl,(h2.drop off).take size⟩ hd⟩
 ·split at hd
  case h_2=>cases hd
  rename_i d hg
  obtain ⟨d',h3,h4⟩:=h2.get off hg
  exact ⟨d',[],by simp [step,h1,pureD,h3],post_same hm h4.toD hd⟩
theorem s_ext {x:X} {i:Nat} (hd:denT call head (symIns σ ρ.length sx kt (.ext x i)) ρ=some r):Goal b ρ μ σ h k call head kt r sx dx (.ext x i):=by
 simp only [symIns] at hd
 have hr:=hx x
 split at hd
 case h_2=>cases hd
 rename_i ds hs
 rw [hs] at hr
 obtain ⟨ds',h1,h2⟩:=hr
 split at hd
 case h_2=>cases hd
 rename_i d hg
 obtain ⟨d',h3,h4⟩:=h2.get i hg
 exact ⟨d',[],by simp [step,h1,pureD,h3],post_same hm h4.toD hd⟩
theorem s_mkf {f:Nat} {xs:List X} (hd:denT call head (symIns σ ρ.length sx kt (.mkf f xs)) ρ=some r):Goal b ρ μ σ h k call head kt r sx dx (.mkf f xs):=by
 simp only [symIns] at hd
 split at hd
 case h_2=>cases hd
 rename_i caps hc
 obtain ⟨caps',h1,h2⟩:=capsS_ok hx hc
 exact ⟨.clo f caps',[],by simp [step,pureD,h1],post_same hm (sd:=.clo f caps) ⟨caps',rfl,h2⟩ hd⟩
end
end Go.Ey
