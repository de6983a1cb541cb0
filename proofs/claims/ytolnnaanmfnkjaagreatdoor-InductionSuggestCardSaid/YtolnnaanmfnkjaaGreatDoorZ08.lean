/- A part. -/
import Derived.Test.YtolnnaanmfnkjaaGreatDoorZ05
set_option linter.all false
namespace Go.Ey
def CD (c:C) (d:D):Prop:=d=.c c\/∃cs n,c=.slice cs n/\d=.full cs n
theorem CD.lit {v:Value} {d:D} (h:CD (.lit v) d):d=.c (.lit v):=by
 rcases h with h|⟨cs,n,h,_⟩
 ·exact h
 ·cases h
theorem gP (h:Heap) (us vs:List (Nat×Obj)):ay h (us++vs)=ay (ay h us) vs:=by
 induction us generalizing h with
 |nil=>rfl
 |cons u us ih=>exact ih _
theorem K5 (h:List (Nat×SO)) (us vs:List (Nat×SO)):FW h (us++vs)=FW (FW h us) vs:=by
 induction us generalizing h with
 |nil=>rfl
 |cons u us ih=>exact ih _
def Nm.upd (N:Nm) (us:List (Nat×SO)):Nm:={ N with hs:=FW N.hs us}
theorem Nm.lJ (N:Nm) (us vs:List (Nat×SO)):N.upd (us++vs)=(N.upd us).upd vs:=by simp only [Nm.upd,K5]
section
variable {b:Bs} {N:Nm} {h:Heap} {k:Nat} {lens:List (Nat×Nat)}
def Wr (N:Nm) (us:List (Nat×Obj)) (ids:List Nat):Prop:=∀j,j∈us.map (·.1)->∃i∈ids,i < N.nx/\N.μ i=some j
theorem Wr.nil {N:Nm} {ids:List Nat}:Wr N [] ids:=fun j hj=>by simp at hj
theorem Wr.mono {N:Nm} {us:List (Nat×Obj)} {ids ids':List Nat} (h:Wr N us ids) (hs:∀i∈ids,i∈ids'):Wr N us ids':=fun j hj=>by obtain ⟨i,h1,h2⟩:=h j hj;exact ⟨i,hs i h1,h2⟩
theorem Wr.append {N:Nm} {us vs:List (Nat×Obj)} {ids:List Nat} (h:Wr N us ids) (h':Wr N vs ids):Wr N (us++vs) ids:=fun j hj=>by rw [Is,B0] at hj;exact hj.elim (h j) (h' j)
theorem Rm.arr (hm:Rm b N h k lens) {i:Nat} {x:At} {aj ety:Nat} {fr al:Bool} (hg:bX N.hs i=.arr x aj ety fr al):
  ∃cs n,dH N.ρ x=some (.slice cs n)/\cs.length=n * aj/\
   ((∃j fz,N.μ i=some j/\ax h j=.arr cs aj fz ety/\0 < aj/\fz<=cs.length/\(fr=false->fz=0))\/(N.μ i=none/\al=false/\(fr=false->cs=[]/\n=0))):=by
 have:=hm.obj i
 rw [hg] at this;exact this
theorem Rm.box (hm:Rm b N h k lens) {i:Nat} {ds:List SD} (hg:bX N.hs i=.box ds):∃j ds',N.μ i=some j/\ax h j=.box ds'/\av (rJ N) ds ds':=by
 have:=hm.obj i
 rw [hg] at this;exact this
theorem Rm.mark (hm:Rm b N h k lens) {i:Nat} {x:At} {aj ety:Nat} {fr al:Bool} (hg:bX N.hs i=.arr x aj ety fr al) {h':Heap}
  (hh:h'=h\/∃j cs n fz nG,N.μ i=some j/\dH N.ρ x=some (.slice cs n)/\ax h j=.arr cs aj fz ety/\nG<=cs.length/\h'=(j,.arr cs aj nG ety)::h):
  j4 N (N.set i (.arr x aj ety true al))/\Rm b (N.set i (.arr x aj ety true al)) h' k lens:=by
 have hi:i < N.nx:=hm.ajx (by rw [hg];simp)
 refine hm.set hi (fun j hj=>?_) (fun y' e t fr' al' he=>?_) fun hv=>?_
 ·rcases hh with rfl|⟨j',cs,n,fz,nG,h1,_,_,_,rfl⟩
  ·rfl
  ·have:j'≠j:=fun e=>hj (e▸h1)
   simp [ax,this]
 ·injection he with e1 e2 e3 e4 e5;subst e1 e2 e3 e4 e5;exact ⟨x,fr,al,hg,fun _=>rfl,fun cs n hc=>⟨cs,hc,fun _=>rfl⟩⟩
 ·obtain ⟨cs,n,h1,h2,h3⟩:=hm.arr hg;refine ⟨cs,n,h1,h2,?_⟩;rcases h3 with ⟨j,fz,h4,h5,h6,h7,h8⟩|⟨h4,h5,h6⟩
  ·rcases hh with rfl|⟨j',cs',n',fz0,nG,k1,k2,k3,k4,rfl⟩
   ·exact .inl ⟨j,fz,h4,h5,h6,h7,by simp⟩
   ·rw [h4] at k1;injection k1 with k1;subst k1
    rw [h1] at k2;injection k2 with k2;injection k2 with k2 k2';subst k2
    exact .inl ⟨j,nG,h4,by simp [ax],h6,k4,by simp⟩
  ·exact .inr ⟨h4,h5,by simp⟩
theorem L9 (hm:Rm b N h k lens) {sd:SD} {d:D} (hr:rJ N sd d) {x:At} {us:List (Nat×SO)} (hf:ze N.hs sd=some (x,us)):
  ∃c us',nP h d=some (c,us')/\dH N.ρ x=some c/\j4 N (N.upd us)/\Rm b (N.upd us) (ay h us') k lens/\Wr N us' (Td sd):=by
 cases sd with
 |a y=>
  simp only [ze,A0,A3] at hf;obtain ⟨rfl,rfl⟩:=hf;obtain ⟨c,h1,h2⟩:=hr;rcases h2 with rfl|⟨cs,n,rfl,rfl⟩
  ·exact ⟨c,[],rfl,h1,j4.refl _,hm,Wr.nil⟩
  ·exact ⟨_,[],rfl,h1,j4.refl _,hm,Wr.nil⟩
 |full y=>
  simp only [ze,A0,A3] at hf;obtain ⟨rfl,rfl⟩:=hf;obtain ⟨cs,n,h1,rfl⟩:=hr;exact ⟨_,[],rfl,h1,j4.refl _,hm,Wr.nil⟩
 |arr i=>
  simp only [ze] at hf;split at hf
  case h_2=>cases hf
  rename_i y e t fr al hg;simp only [A0,A3] at hf;obtain ⟨rfl,rfl⟩:=hf;obtain ⟨cs,n,g1,g2,g3⟩:=hm.arr hg;obtain ⟨hi,hr⟩:=hr;rcases hr with ⟨j,len,h1,rfl,h3⟩|⟨h1,cs',n',rfl,h3⟩
  ·obtain ⟨cs',h4⟩:=h3 _ _ _ _ _ hg;rw [g1] at h4;injection h4 with h4;injection h4 with h4 h5;subst h4 h5
   rcases g3 with ⟨j',fz,k1,k2,k3,k4,k5⟩|⟨k1,_⟩
   ·rw [h1] at k1;injection k1 with k1;subst k1
    have hcut:(cs.drop 0).take (n * e)=cs:=by rw [<-g2];simp
    by_cases hz:0+n * e<=fz
    ·obtain ⟨v1,v2⟩:=hm.mark hg (h':=h) (.inl rfl);exact ⟨.slice cs n,[],by simp only [nP,k2];rw [C6 (by omega),C6 hz,hcut],g1,v1,v2,Wr.nil⟩
    ·obtain ⟨v1,v2⟩:=hm.mark hg (h':=(j,.arr cs e (0+n * e) t)::h) (.inr ⟨j,cs,n,fz,_,h1,g1,k2,by omega,rfl⟩)
     refine ⟨.slice cs n,[(j,.arr cs e (0+n * e) t)],by simp only [nP,k2];rw [C6 (by omega),E0 hz,hcut],g1,v1,v2,?_⟩
     intro q hq;simp only [D4,Kx,B8] at hq;subst hq;exact ⟨i,by simp [Td],hi,h1⟩
   ·rw [h1] at k1;cases k1
  ·have h4:=h3 _ _ _ _ _ hg;obtain ⟨v1,v2⟩:=hm.mark hg (h':=h) (.inl rfl);exact ⟨.slice cs' n',[],rfl,h4,v1,v2,Wr.nil⟩
 |view i y=>
  simp only [ze] at hf;split at hf
  case h_2=>cases hf
  rename_i z e t fr al hg;simp only [A0,A3] at hf;obtain ⟨rfl,rfl⟩:=hf;obtain ⟨hi,cs,len,h1,hr⟩:=hr;obtain ⟨ys,n,g1,g2,g3⟩:=hm.arr hg;rcases hr with rfl|⟨j,off,h2,rfl,h3⟩
  ·obtain ⟨v1,v2⟩:=hm.mark hg (h':=h) (.inl rfl);exact ⟨_,[],rfl,h1,v1,v2,Wr.nil⟩
  ·obtain ⟨_,ys',n',h4,h5,h6⟩:=h3 _ _ _ _ _ hg;rw [g1] at h4;injection h4 with h4;injection h4 with h4 h7;subst h4 h7
   rcases g3 with ⟨j',fz,k1,k2,k3,k4,k5⟩|⟨k1,_⟩
   ·rw [h2] at k1;injection k1 with k1;subst k1
    by_cases hz:off+len * e<=fz
    ·obtain ⟨v1,v2⟩:=hm.mark hg (h':=h) (.inl rfl);exact ⟨.slice cs len,[],by simp only [nP,k2];rw [C6 h5,C6 hz,h6],h1,v1,v2,Wr.nil⟩
    ·obtain ⟨v1,v2⟩:=hm.mark hg (h':=(j,.arr ys e (off+len * e) t)::h) (.inr ⟨j,ys,n,fz,_,h2,g1,k2,h5,rfl⟩);refine ⟨.slice cs len,[(j,.arr ys e (off+len * e) t)],by simp only [nP,k2];rw [C6 h5,E0 hz,h6],h1,v1,v2,?_⟩
     intro q hq;simp only [D4,Kx,B8] at hq;subst hq;exact ⟨i,by simp [Td],hi,h2⟩
   ·rw [h2] at k1;cases k1
 |rq=>simp [ze] at hf
 |loc i o=>simp [ze] at hf
 |nK i x o=>simp [ze] at hf
 |ptr r o e=>simp [ze] at hf
 |fq f c=>simp [ze] at hf
 |agg ds=>simp [ze] at hf
 |jG ds=>simp [ze] at hf
theorem Ht:∀{ds:List SD} {ds':List D} {N:Nm} {h:Heap},Rm b N h k lens->av (rJ N) ds ds'->∀{aJ:List At} {us:List (Nat×SO)},Ib N.hs ds=some (aJ,us)->
  ∃cs us',jZ h ds'=some (cs,us')/\nA N.ρ aJ=some cs/\j4 N (N.upd us)/\Rm b (N.upd us) (ay h us') k lens/\Wr N us' (ds.flatMap Td)
 |[],[],N,h,hm,_,aJ,us,hf=>by simp only [Ib,A0,A3] at hf;obtain ⟨rfl,rfl⟩:=hf;exact ⟨[],[],rfl,rfl,j4.refl _,hm,Wr.nil⟩
 |sd::ds,d::ds',N,h,hm,hr,aJ,us,hf=>by
  simp only [Ib,A1,A0,A3,C1] at hf;obtain ⟨x,u1,h1,ys,u2,h2,rfl,rfl⟩:=hf;obtain ⟨c,v1,k1,k2,k3,k4,k5⟩:=L9 hm hr.1 h1;obtain ⟨cs,v2,l1,l2,l3,l4,l5⟩:=Ht (N:=N.upd u1) k4 (hr.2.mono fun _ _=>k3.dc) h2
  refine ⟨c::cs,v1++v2,?_,?_,?_,?_,?_⟩
  ·simp [jZ,k1,l1]
  ·have:nA N.ρ ys=some cs:=l2
   simp [nA,k2,this]
  ·rw [Nm.lJ];exact k3.trans l3
  ·rw [Nm.lJ,gP];exact l4
  ·exact (k5.mono fun i hi=>by simp [hi]).append (l5.mono fun i hi=>by rw [D3,B0];exact .inr hi)
 |[],_::_,_,_,_,hr,_,_,_=>hr.elim
 |_::_,[],_,_,_,hr,_,_,_=>hr.elim
theorem Ny {d:D} {c:C} {us:List (Nat×Obj)} (hf:nP h d=some (c,us)):nN h d=some (.one c,us):=by
 cases d with
 |agg ds=>cases hf
 |_=>simp [nN,hf]
theorem RD.c {N:Nm} {sd:SD} {d:D} (h:RD N sd d) (h1:∀ds,sd≠.agg ds) (h2:∀ds,sd≠.jG ds):rJ N sd d:=by cases sd<;>first|exact h|exact absurd rfl (h1 _)|exact absurd rfl (h2 _)
theorem Tc {hs:List (Nat×SO)} {sd:SD} {p:At×List (Nat×SO)} (h:ze hs sd=some p):(∀ds,sd≠.agg ds)/\∀ds,sd≠.jG ds:=by constructor<;>(intro ds e;subst e;cases h)
theorem MI {sd:SD} (h1:∀ds,sd≠.agg ds):yg sd=Td sd:=by cases sd<;>first|rfl|exact absurd rfl (h1 _)
theorem afH (hm:Rm b N h k lens) {sd:SD} {d:D} (hr:RD N sd d) {aJ:List At} {us:List (Nat×SO)} (hf:UA N.hs sd=some (aJ,us)):
  ∃v us',nN h d=some (v,us')/\nA N.ρ aJ=some v.cells/\j4 N (N.upd us)/\Rm b (N.upd us) (ay h us') k lens/\Wr N us' (yg sd):=by
 by_cases ha:∃ds,sd=.agg ds
 ·obtain ⟨ds,rfl⟩:=ha;obtain ⟨ds',rfl,hr⟩:=hr;simp only [UA] at hf;obtain ⟨cs,us',h1,h2,h3,h4,h5⟩:=Ht hm hr hf;exact ⟨.agg cs,us',by simp [nN,h1],h2,h3,h4,h5⟩
 ·have hf':(ze N.hs sd).bind (fun p=>some ([p.1],p.2))=some (aJ,us):=by
   cases sd<;>first|exact hf|exact absurd ⟨_,rfl⟩ ha
  simp only [A1,A0,A3,C1] at hf';obtain ⟨x,Df,h1,rfl,rfl⟩:=hf';obtain ⟨n1,n2⟩:=Tc h1;obtain ⟨c,us',k1,k2,k3,k4,k5⟩:=L9 hm (hr.c n1 n2) h1;exact ⟨.one c,us',Ny k1,by simp [nA,k2,V.cells],k3,k4,by rw [MI n1];exact k5⟩
theorem Mv (hm:Rm b N h k lens) {sd:SD} {d:D} (hr:RD N sd d) {tv:TV} {us:List (Nat×SO)} (hf:FP lens N.hs sd=some (tv,us)):
  ∃v us',nN h d=some (v,us')/\Ua N.ρ tv=some v/\j4 N (N.upd us)/\Rm b (N.upd us) (ay h us') k lens/\Wr N us' (yg sd):=by
 by_cases ha:∃ds,sd=.agg ds
 ·obtain ⟨ds,rfl⟩:=ha;obtain ⟨ds',rfl,hr⟩:=hr;simp only [FP,A1,A0,A3,C1] at hf;obtain ⟨aJ,Df,h0,rfl,rfl⟩:=hf;obtain ⟨cs,us',h1,h2,h3,h4,h5⟩:=Ht hm hr h0;exact ⟨.agg cs,us',by simp [nN,h1],by simp [Ua,ER hm,h2],h3,h4,h5⟩
 ·have hf':(ze N.hs sd).bind (fun p=>some (TV.one p.1,p.2))=some (tv,us):=by
   cases sd<;>first|exact hf|exact absurd ⟨_,rfl⟩ ha
  simp only [A1,A0,A3,C1] at hf';obtain ⟨x,Df,h1,rfl,rfl⟩:=hf';obtain ⟨n1,n2⟩:=Tc h1;obtain ⟨c,us',k1,k2,k3,k4,k5⟩:=L9 hm (hr.c n1 n2) h1;exact ⟨.one c,us',Ny k1,by simp [Ua,k2],k3,k4,by rw [MI n1];exact k5⟩
theorem QN:∀{ds:List SD} {ds':List D} {N:Nm} {h:Heap},Rm b N h k lens->av (RD N) ds ds'->∀{vs:List TV} {us:List (Nat×SO)},FZ lens N.hs ds=some (vs,us)->
  ∃xs us',iX h ds'=some (xs,us')/\Dl N.ρ vs=some xs/\j4 N (N.upd us)/\Rm b (N.upd us) (ay h us') k lens/\Wr N us' (ds.flatMap yg)
 |[],[],N,h,hm,_,aJ,us,hf=>by simp only [FZ,A0,A3] at hf;obtain ⟨rfl,rfl⟩:=hf;exact ⟨[],[],rfl,rfl,j4.refl _,hm,Wr.nil⟩
 |sd::ds,d::ds',N,h,hm,hr,aJ,us,hf=>by
  simp only [FZ,A1,A0,A3,C1] at hf;obtain ⟨x,u1,h1,ys,u2,h2,rfl,rfl⟩:=hf;obtain ⟨c,v1,k1,k2,k3,k4,k5⟩:=Mv hm hr.1 h1;obtain ⟨cs,v2,l1,l2,l3,l4,l5⟩:=QN (N:=N.upd u1) k4 (hr.2.mono fun _ _=>k3.rd) h2
  refine ⟨c::cs,v1++v2,?_,?_,?_,?_,?_⟩
  ·simp [iX,k1,l1]
  ·have:Dl N.ρ ys=some cs:=l2
   simp [Dl,k2,this]
  ·rw [Nm.lJ];exact k3.trans l3
  ·rw [Nm.lJ,gP];exact l4
  ·exact (k5.mono fun i hi=>by simp [hi]).append (l5.mono fun i hi=>by rw [D3,B0];exact .inr hi)
 |[],_::_,_,_,_,hr,_,_,_=>hr.elim
 |_::_,[],_,_,_,hr,_,_,_=>hr.elim
theorem NR {hs:List (Nat×SO)} {aj:Nat} {sd:SD} {x:At} (h:jS hs aj sd=some x):(∀ds,sd≠.agg ds)/\∀ds,sd≠.jG ds:=by constructor<;>(intro ds e;subst e;cases h)
theorem agK {hs:List (Nat×SO)} {sd:SD} {x:At} (h:AJ hs sd=some x):(∀ds,sd≠.agg ds)/\∀ds,sd≠.jG ds:=by constructor<;>(intro ds e;subst e;cases h)
theorem alU {c:C} {d:D} (h0:CD c d) {aj:Nat} {p:List C×Nat} (hp:LB aj c=some p):iY h aj d=some p:=by
 rcases h0 with rfl|⟨cs,n,rfl,rfl⟩
 ·cases c with
  |lit v=>cases v<;>first|exact hp|cases hp
  |slice cs n=>exact hp
 ·exact hp
theorem Ki (hm:Rm b N h k lens) {sd:SD} {d:D} (hr:rJ N sd d) {aj:Nat} {x:At} (hf:jS N.hs aj sd=some x):
  ∃c,dH N.ρ x=some c/\∀p,LB aj c=some p->iY h aj d=some p:=by
 cases sd with
 |a y=>
  simp only [jS,A0] at hf;subst hf;obtain ⟨c,h1,h2⟩:=hr;exact ⟨c,h1,fun p hp=>alU h2 hp⟩
 |full y=>
  simp only [jS,A0] at hf;subst hf;obtain ⟨cs,n,h1,rfl⟩:=hr;exact ⟨_,h1,fun p hp=>hp⟩
 |arr i=>
  simp only [jS] at hf;split at hf
  case h_2=>cases hf
  rename_i y e t fr al hg;split at hf
  case isFalse=>cases hf
  rename_i he;subst he;simp only [A0] at hf;subst hf;obtain ⟨cs,n,g1,g2,g3⟩:=hm.arr hg;refine ⟨_,g1,fun p hp=>?_⟩
  obtain ⟨_,hr⟩:=hr;rcases hr with ⟨j,len,h1,rfl,h3⟩|⟨h1,cs',n',rfl,h3⟩
  ·obtain ⟨cs',h4⟩:=h3 _ _ _ _ _ hg;rw [g1] at h4;injection h4 with h4;injection h4 with h4 h5;subst h4 h5
   rcases g3 with ⟨j',fz,k1,k2,k3,k4,k5⟩|⟨k1,_⟩
   ·rw [h1] at k1;injection k1 with k1;subst k1
    have hcut:(cs.drop 0).take (n * e)=cs:=by rw [<-g2];simp
    simp only [LB,C6 g2,A0] at hp;subst hp;simp only [iY,k2];rw [C6 ⟨trivial,by omega⟩,hcut]
   ·rw [h1] at k1;cases k1
  ·have h4:=h3 _ _ _ _ _ hg;rw [g1] at h4;injection h4 with h4;injection h4 with h4 h5;subst h4 h5
   exact hp
 |view i y=>
  simp only [jS] at hf;split at hf
  case h_2=>cases hf
  rename_i z e t fr al hg;split at hf
  case isFalse=>cases hf
  rename_i he;subst he;simp only [A0] at hf;subst hf;obtain ⟨_,cs,len,h1,hr⟩:=hr;obtain ⟨ys,n,g1,g2,g3⟩:=hm.arr hg;refine ⟨_,h1,fun p hp=>?_⟩
  rcases hr with rfl|⟨j,off,h2,rfl,h3⟩
  ·exact hp
  ·obtain ⟨_,ys',n',h4,h5,h6⟩:=h3 _ _ _ _ _ hg;rw [g1] at h4;injection h4 with h4;injection h4 with h4 h7;subst h4 h7
   rcases g3 with ⟨j',fz,k1,k2,k3,k4,k5⟩|⟨k1,_⟩
   ·rw [h2] at k1;injection k1 with k1;subst k1
    simp only [LB] at hp;split at hp
    case isFalse=>cases hp
    simp only [A0] at hp;subst hp;simp only [iY,k2];rw [C6 ⟨trivial,h5⟩,h6]
   ·rw [h2] at k1;cases k1
 |rq=>simp [jS] at hf
 |loc i o=>simp [jS] at hf
 |nK i x o=>simp [jS] at hf
 |ptr r o e=>simp [jS] at hf
 |fq f c=>simp [jS] at hf
 |agg ds=>simp [jS] at hf
 |jG ds=>simp [jS] at hf
theorem ac9 (hm:Rm b N h k lens) {sd:SD} {d:D} (hr:rJ N sd d) {x:At} (hf:AJ N.hs sd=some x):
  ∃c,dH N.ρ x=some c/\∀t v,jk t c=some v->Nn t d=some (.c v):=by
 have key:∀{c:C} {d:D},CD c d->∀t v,jk t c=some v->Nn t d=some (.c v):=by
  intro c d h0 t v hv;rcases h0 with rfl|⟨cs,n,rfl,rfl⟩
  ·cases c with
   |lit u=>cases u<;>first|(simp only [jk] at hv;cases hv;done)|(cases t<;>simp [jk,Nn,JQ,Ec] at hv |-;exact hv)
   |slice cs n=>cases t<;>simp [jk,Nn,JQ,Ec] at hv |-;exact hv
  ·cases t<;>simp [jk,Nn,JQ,Ec] at hv |-;exact hv
 cases sd with
 |a y=>
  simp only [AJ,A0] at hf;subst hf;obtain ⟨c,h1,h2⟩:=hr;exact ⟨c,h1,key h2⟩
 |full y=>
  simp only [AJ,A0] at hf;subst hf;obtain ⟨cs,n,h1,rfl⟩:=hr;exact ⟨_,h1,key (.inr ⟨cs,n,rfl,rfl⟩)⟩
 |arr i=>
  simp only [AJ] at hf;split at hf
  case h_2=>cases hf
  rename_i y e t fr al hg;simp only [A0] at hf;subst hf;obtain ⟨_,hr⟩:=hr;rcases hr with ⟨j,len,h1,rfl,h3⟩|⟨h1,cs',n',rfl,h3⟩
  ·obtain ⟨cs',h4⟩:=h3 _ _ _ _ _ hg;refine ⟨_,h4,fun t v hv=>?_⟩
   cases t<;>simp [jk,Nn,JQ,Ec] at hv |-;exact hv
  ·exact ⟨_,h3 _ _ _ _ _ hg,key (.inr ⟨_,_,rfl,rfl⟩)⟩
 |view i y=>
  simp only [AJ] at hf;split at hf
  case h_2=>cases hf
  simp only [A0] at hf;subst hf;obtain ⟨_,cs,len,h1,hr⟩:=hr;refine ⟨_,h1,?_⟩;rcases hr with rfl|⟨j,off,h2,rfl,h3⟩
  ·exact key (.inl rfl)
  ·intro t v hv;cases t<;>simp [jk,Nn,JQ,Ec] at hv |-;exact hv
 |rq=>simp [AJ] at hf
 |loc i o=>simp [AJ] at hf
 |nK i x o=>simp [AJ] at hf
 |ptr r o e=>simp [AJ] at hf
 |fq f c=>simp [AJ] at hf
 |agg ds=>simp [AJ] at hf
 |jG ds=>simp [AJ] at hf
theorem QB {sd:SD} {d:D} (hr:rJ N sd d) (hs:Ar sd=true):Gu d=true:=by
 cases sd with
 |rq=>cases hs
 |a x=>obtain ⟨c,_,rfl|⟨cs,n,_,rfl⟩⟩:=hr<;>rfl
 |full x=>obtain ⟨cs,n,_,rfl⟩:=hr;rfl
 |loc i o=>obtain ⟨_,j,_,rfl⟩:=hr;rfl
 |arr i=>obtain ⟨_,⟨j,len,_,rfl,_⟩|⟨_,cs,n,rfl,_⟩⟩:=hr<;>rfl
 |view i x=>obtain ⟨_,cs,len,_,rfl|⟨j,off,_,rfl,_⟩⟩:=hr<;>rfl
 |nK i x o=>obtain ⟨_,kd,q,_,_,⟨j,o',_,rfl,_⟩|⟨_,cs,rfl,_⟩⟩:=hr<;>rfl
 |ptr r o e=>obtain ⟨xs,rest,_,_,rfl⟩:=hr;rfl
 |fq f c=>obtain ⟨c',rfl,_⟩:=hr;rfl
 |agg ds=>cases hs
 |jG ds=>cases hs
theorem NA:∀{ds:List SD} {ds':List D},av (rJ N) ds ds'->ds.all Ar=true->ds'.all Gu=true
 |[],[],_,_=>rfl
 |sd::ds,d::ds',hr,hs=>by simp only [I3,A5] at hs |-;exact ⟨QB hr.1 hs.1,NA hr.2 hs.2⟩
 |[],_::_,hr,_=>hr.elim
 |_::_,[],hr,_=>hr.elim
theorem Xg {d:D} (h:Gu d=true):cellsD d=some [d]:=by cases d<;>first|rfl|cases h
theorem Kb {sd:SD} {d:D} (hr:RD N sd d) {xs:List SD} (hs:cellsS sd=some xs):∃ds,cellsD d=some ds/\av (rJ N) xs ds:=by
 by_cases ha:∃ds,sd=.agg ds
 ·obtain ⟨ds,rfl⟩:=ha;obtain ⟨ds',rfl,hr⟩:=hr;simp only [cellsS] at hs;split at hs
  ·rename_i hc;simp only [A0] at hs;subst hs;exact ⟨ds',by simp only [cellsD];rw [C6 (NA hr hc)],hr⟩
  ·cases hs
 ·have hs':(if Ar sd then some [sd] else none)=some xs:=by cases sd<;>first|exact hs|exact absurd ⟨_,rfl⟩ ha
  split at hs'
  ·rename_i hc;simp only [A0] at hs';subst hs';have hr':rJ N sd d:=hr.c (fun ds e=>ha ⟨ds,e⟩) (fun ds e=>by subst e;cases hc)
   exact ⟨[d],Xg (QB hr' hc),hr',trivial⟩
  ·cases hs'
theorem Lg {xs ds:List SD} {xs' ds':List D} {off:Nat} (h1:av (rJ N) ds ds') (h2:av (rJ N) xs xs'):av (rJ N) (splice ds off xs) (splice ds' off xs'):=by unfold splice;rw [h2.len];exact ((h1.take off).append h2).append (h1.drop _)
theorem NY {sx:X->SD} {dx:X->D} (hx:∀x,RD N (sx x) (dx x)):∀{parts:List (Nat×Nat×X)} {ds:List SD} {ds':List D} {out:List SD},av (rJ N) ds ds'->CL sx ds parts=some out->
  ∃out',qy dx ds' parts=some out'/\av (rJ N) out out'
 |[],ds,ds',out,hr,hf=>by simp only [CL,A0] at hf;subst hf;exact ⟨ds',rfl,hr⟩
 |(off,size,x)::parts,ds,ds',out,hr,hf=>by
  simp only [CL,A1] at hf;obtain ⟨xs,h1,h2⟩:=hf;split at h2
  case isFalse=>cases h2
  rename_i hc;obtain ⟨xs',h3,h4⟩:=Kb (hx x) h1;obtain ⟨out',h5,h6⟩:=NY hx (Lg hr h4 (off:=off)) h2;refine ⟨out',?_,h6⟩;simp only [qy,A2,h3,A4];rw [C6 ⟨by rw [<-h4.len];exact hc.1,by rw [<-hr.len];exact hc.2⟩]
  exact h5
theorem ah4 (v:Value):rJ N (aa5 v) (O5 v):=by
 by_cases hv:v=.slice none 0 0
 ·subst hv;exact ⟨[],0,rfl,rfl⟩
 ·have h1:aa5 v=.a (.k v):=by unfold aa5;split;exact absurd rfl hv;rfl
  have h2:O5 v=.c (.lit v):=by unfold O5;split;exact absurd rfl hv;rfl
  rw [h1,h2];exact ⟨.lit v,rfl,.inl rfl⟩
theorem aiH (v:Value):rJ N (.a (ad6 v)) (.c (Fz v)):=by
 by_cases hv:v=.slice none 0 0
 ·subst hv;exact ⟨.slice [] 0,rfl,.inl rfl⟩
 ·have h1:ad6 v=.k v:=by unfold ad6;split;exact absurd rfl hv;rfl
  have h2:Fz v=.lit v:=by unfold Fz;split;exact absurd rfl hv;rfl
  rw [h1,h2];exact ⟨.lit v,rfl,.inl rfl⟩
theorem Np:∀zero:List Value,av (rJ N) (zero.map aa5) (zero.map O5)
 |[]=>trivial
 |v::r=>⟨ah4 v,Np r⟩
theorem Un:∀zero:List Value,av (rJ N) (zero.map fun v=> .a (ad6 v)) ((zero.map Fz).map .c)
 |[]=>trivial
 |v::r=>⟨aiH v,Un r⟩
theorem Qr (zero:List Value):∀n,av (rJ N) (Gw zero n) ((zeros zero n).map .c)
 |0=>trivial
 |n+1=>by simp only [Gw,zeros,Is];exact (Un zero).append (Qr zero n)
theorem QI (zero:List Value):∀n,(zeros zero n).length=n * zero.length
 |0=>by simp [zeros]
 |n+1=>by simp [zeros,QI zero n,G1,Nat.add_comm]
theorem Us {sx:X->SD} {dx:X->D} (hx:∀x,RD N (sx x) (dx x)):∀{xs:List X} {caps:List (Nat×Nat)},WS sx xs=some caps->
  ∃gT,A9 dx xs=some gT/\av (fun p q:Nat×Nat=>p.1 < N.nx/\N.μ p.1=some q.1/\q.2=p.2) caps gT
 |[],caps,h=>by simp only [WS,A0] at h;subst h;exact ⟨[],rfl,trivial⟩
 |x::xs,caps,h=>by
  simp only [WS] at h;split at h
  case h_2=>cases h
  rename_i i off hsx;simp only [A1,A0] at h;obtain ⟨r,h1,rfl⟩:=h;obtain ⟨r',h2,h3⟩:=Us hx h1;have h4:=hx x;rw [hsx] at h4;obtain ⟨hi,j,h5,h6⟩:rJ N (.loc i off) (dx x):=h4;exact ⟨(j,off)::r',by simp [A9,h6,h2],⟨hi,h5,rfl⟩,h3⟩
theorem LX {i:Nat} {xs:List C} (hw:gG N.ρ i=some (.l xs)):∀(m off:Nat),off+m<=xs.length->av (rJ N) ((Ba i off m).map .a) (((xs.drop off).take m).map .c)
 |0,off,_=>by simp [Ba,av]
 |m+1,off,hl=>by
  have hlt:off < xs.length:=by omega
  rw [Hh hlt];simp only [Ba,D4,L3];exact ⟨⟨xs[off],by simp [dH,hw,yw xs off hlt],.inl rfl⟩,LX hw m (off+1) (by omega)⟩
end
end Go.Ey
namespace Go.Ey
def nm (ρ:List W) (μ:Nat->Option Nat) (σ:Sy):Nm:=⟨ρ,μ,σ.heap,σ.nx⟩
def FQ (b:Bs) (ρ:List W) (μ:Nat->Option Nat) (σ:Sy) (h:Heap) (k:Nat) (call:qp) (head:qZ) (kt:SD->Sy->Nat->Tree) (r:R) (ZV:List Nat) (d:D) (us:List (Nat×Obj)):Prop:=
 ∃(ws:List W) (μ':Nat->Option Nat) (σ':Sy) (sd:SD),σ'.env=σ.env/\j4 (nm ρ μ σ) (nm (ρ++ws) μ' σ')/\Rm b (nm (ρ++ws) μ' σ') (ay h us) (k+1) σ'.lens/\RD (nm (ρ++ws) μ' σ') sd d/\
  aA call head (kt sd σ' (ρ++ws).length) (ρ++ws)=some r/\∀j,j∈us.map (·.1)->∃i∈Eu σ.nx σ'.nx ZV,i < σ'.nx/\μ' i=some j
section
variable {b:Bs} {ρ:List W} {μ:Nat->Option Nat} {σ:Sy} {h:Heap} {k:Nat} {call:qp} {head:qZ} {kt:SD->Sy->Nat->Tree} {r:R} {sx:X->SD} {dx:X->D} {ZV:List Nat}
theorem Fa {nx nx':Nat} {ts:List Nat} {i:Nat} (h:i∈ts\/(nx<=i/\i < nx')):i∈Eu nx nx' ts:=by
 unfold Eu;rw [B0];rcases h with h|⟨h1,h2⟩
 ·exact .inl h
 ·refine .inr (J0.2 ⟨i - nx,K2.2 (by omega),by omega⟩)
theorem dU (hm:Rm b (nm ρ μ σ) h k σ.lens) {sd:SD} {d:D} (hr:RD (nm ρ μ σ) sd d) (hd:aA call head (kt sd σ ρ.length) ρ=some r):FQ b ρ μ σ h k call head kt r ZV d []:=
 ⟨[],μ,σ,sd,rfl,by rw [Cl];exact j4.refl _,by rw [Cl];exact hm.tick (Mb k),by rw [Cl];exact hr,by rw [Cl];exact hd,fun j hj=>by simp at hj⟩
theorem j6 (hm:Rm b (nm ρ μ σ) h k σ.lens) {c:C} (hd:aA call head (kt (.a (.v ρ.length)) σ (ρ.length+1)) (ρ++[.c c])=some r):FQ b ρ μ σ h k call head kt r ZV (.c c) []:=
 ⟨[.c c],μ,σ,.a (.v ρ.length),rfl,lC (nm ρ μ σ) [.c c],(hm.ext [.c c]).tick (Mb k),⟨c,by simp [nm,dH,mJ],.inl rfl⟩,by simpa using hd,fun j hj=>by simp at hj⟩
theorem at_new (ρ:List W) (c:C) (ws:List W):dH (ρ++.c c::ws) (.v ρ.length)=some c:=by simp [dH,mJ]
theorem Ah (hm:Rm b (nm ρ μ σ) h k σ.lens) {xs:List C} {m:Nat} (hl:xs.length=m) {sd:SD} {d:D} (hr:RD (nm (ρ++[.l xs]) μ σ) sd d) (hd:aA call head (kt sd (σ.len ρ.length m) (ρ.length+1)) (ρ++[.l xs])=some r):
  FQ b ρ μ σ h k call head kt r ZV d []:=by
 refine ⟨[.l xs],μ,σ.len ρ.length m,sd,rfl,lC (nm ρ μ σ) [.l xs],?_,hr,by simpa using hd,fun j hj=>by simp at hj⟩
 refine Rm.lens' ((hm.ext [.l xs]).tick (Mb k)) fun i q hi=>?_
 simp only [Sy.len,D2,A3] at hi;rcases hi with ⟨rfl,rfl⟩|hi
 ·exact ⟨xs,mJ ρ _ [],hl⟩
 ·obtain ⟨ys,h1,h2⟩:=(hm.ext [.l xs]).lens i q hi;exact ⟨ys,h1,h2⟩
theorem abN {sd:SD} {x:At} (h:AV sd=some x):sd=.a x:=by
 cases sd<;>simp [AV] at h
 exact E6 _ h
theorem jW {N:Nm} {sd:SD} {d:D} (hr:RD N sd d) {x:At} (h:AV sd=some x):∃c,dH N.ρ x=some c/\CD c d:=by
 have:=abN h
 subst this;exact hr
theorem EK {N:Nm} {sx:X->SD} {dx:X->D} (hx:∀x,RD N (sx x) (dx x)) {o:Option X} {l:Option At} (h:G7 (o.map sx)=some l):∃c,LU N.ρ l=some c/\
  ((o=none/\l=none/\c=none)\/∃x y c0,o=some x/\l=some y/\c=some c0/\CD c0 (dx x)):=by
 cases o with
 |none=>
  simp only [Option.map_none,G7,A0] at h;subst h;exact ⟨none,rfl,.inl ⟨rfl,rfl,rfl⟩⟩
 |some x=>
  have hx:=hx x;simp only [Hj] at h;cases hs:sx x with
  |a y=>
   rw [hs] at h hx;simp only [G7,A0] at h;subst h;obtain ⟨c,h1,h2⟩:=hx;exact ⟨some c,by simp [LU,h1],.inr ⟨x,y,c,rfl,rfl,rfl,h2⟩⟩
  |_=>rw [hs] at h;simp [G7] at h
theorem Y8 {o:Option X} {c:Option C} {l:Option At} (h:(o=none/\l=none/\c=none)\/∃x y c0,o=some x/\l=some y/\c=some c0/\CD c0 (dx x)) {n:Nat} (hl:loC c=some n):OQ (o.map dx)=some n:=by
 rcases h with ⟨rfl,_,rfl⟩|⟨x,y,c0,rfl,_,rfl,h1⟩
 ·exact hl
 ·cases c0 with
  |slice cs n=>simp [loC] at hl
  |lit v=>
   cases v<;>simp only [loC] at hl<;>try (cases hl;done)
   simp only [Hj,OQ,A2,h1.lit,asInt,A4];exact hl
theorem acW {o:Option X} {c:Option C} {l:Option At} {len:Nat} (h:(o=none/\l=none/\c=none)\/∃x y c0,o=some x/\l=some y/\c=some c0/\CD c0 (dx x)) {n:Nat} (hl:hiC len c=some n):I4 len (o.map dx)=some n:=by
 rcases h with ⟨rfl,_,rfl⟩|⟨x,y,c0,rfl,_,rfl,h1⟩
 ·exact hl
 ·cases c0 with
  |slice cs n=>simp [hiC] at hl
  |lit v=>
   cases v<;>simp only [hiC] at hl<;>try (cases hl;done)
   simp only [Hj,I4,A2,h1.lit,asInt,A4];exact hl
theorem aaw:∀{ks:List Nat} {xs ys:List C} {ds es:List D} {t:Bool},av CD xs ds->av CD ys es->Cj ks xs ys=some t->YW ks ds es=some t
 |[],[],[],[],[],t,_,_,h=>h
 |q::ks,x::xs,y::ys,d::ds,e::es,t,h1,h2,h=>by
  simp only [Cj,A1,A0] at h;obtain ⟨u,h3,v,h4,rfl⟩:=h;have hx:∃a,x=.lit a:=by
   cases x with
   |lit a=>exact ⟨a,rfl⟩
   |slice cs n=>unfold Jd at h3;split at h3<;>first|(rename_i e1 _;cases e1;done)|(rename_i e1;cases e1;done)|cases h3
  have hy:∃a,y=.lit a:=by
   cases y with
   |lit a=>exact ⟨a,rfl⟩
   |slice cs n=>unfold Jd at h3;split at h3<;>first|(rename_i _ e1;cases e1;done)|(rename_i e1;cases e1;done)|cases h3
  obtain ⟨a,rfl⟩:=hx;obtain ⟨c,rfl⟩:=hy;rw [h1.1.lit,h2.1.lit];simp [YW,h3,aaw h1.2 h2.2 h4]
 |[],_::_,_,_,_,_,_,_,h=>by simp [Cj] at h
 |[],[],_::_,_,_,_,_,_,h=>by simp [Cj] at h
 |_::_,[],_,_,_,_,_,_,h=>by simp [Cj] at h
 |_::_,_::_,[],_,_,_,_,_,h=>by simp [Cj] at h
 |_,_::_,_,[],_,_,h1,_,_=>h1.elim
 |_,[],_,_::_,_,_,h1,_,_=>h1.elim
 |_,_,_::_,_,[],_,_,h2,_=>h2.elim
 |_,_,[],_,_::_,_,_,h2,_=>h2.elim
variable (hm:Rm b (nm ρ μ σ) h k σ.lens) (hx:∀x,RD (nm ρ μ σ) (sx x) (dx x))
include hm hx
def Goal (b:Bs) (ρ:List W) (μ:Nat->Option Nat) (σ:Sy) (h:Heap) (k:Nat) (call:qp) (head:qZ) (kt:SD->Sy->Nat->Tree) (r:R) (sx:X->SD) (dx:X->D) (i:Ins):Prop:=
 ∃d us,step dx h k i=some (d,us)/\FQ b ρ μ σ h k call head kt r (iL sx i) d us
theorem aod {x:X} (hd:aA call head (aX σ ρ.length sx kt (.YY x)) ρ=some r):Goal b ρ μ σ h k call head kt r sx dx (.YY x):=
 ⟨dx x,[],rfl,dU hm (hx x) hd⟩
theorem agy {zero:List Value} {parts:List (Nat×Nat×X)} (hd:aA call head (aX σ ρ.length sx kt (.build zero parts)) ρ=some r):Goal b ρ μ σ h k call head kt r sx dx (.build zero parts):=by
 simp only [aX] at hd;split at hd
 case h_2=>cases hd
 rename_i ds hf;obtain ⟨out,h1,h2⟩:=NY hx (Np zero) hf;exact ⟨.agg out,[],by simp [step,dF,h1],dU hm (sd:=.agg ds) ⟨out,rfl,h2⟩ hd⟩
theorem aqr {op:BinOp} {Kg:Bool} {x y:X} (hd:aA call head (aX σ ρ.length sx kt (.bin op Kg x y)) ρ=some r):Goal b ρ μ σ h k call head kt r sx dx (.bin op Kg x y):=by
 simp only [aX] at hd;split at hd
 case h_2=>cases hd
 rename_i a c h1 h2;simp only [aA,dP,A1] at hd;obtain ⟨v,⟨u1,h3,u2,h4,h5⟩,hd⟩:=hd;obtain ⟨c1,h6,h7⟩:=jW (hx x) h1;obtain ⟨c2,h8,h9⟩:=jW (hx y) h2;have e1:u1=c1:=by have:dH ρ a=some c1:=h6;rw [h3] at this;injection this
 have e2:u2=c2:=by have:dH ρ c=some c2:=h8;rw [h4] at this;injection this
 subst e1 e2;cases u1 with
 |slice _ _=>simp [bW] at h5
 |lit w1=>cases u2 with
  |slice _ _=>simp [bW] at h5
  |lit w2=>
   simp only [bW,A1,A0] at h5;obtain ⟨v',h5,rfl⟩:=h5;exact ⟨.c (.lit v'),[],by simp only [step,dF,h7.lit,h9.lit,Bz,A2,A4,h5];rfl,j6 hm hd⟩
theorem ant {isMax:Bool} {x y:X} (hd:aA call head (aX σ ρ.length sx kt (if isMax then .mx x y else .mn x y)) ρ=some r):Goal b ρ μ σ h k call head kt r sx dx (if isMax then .mx x y else .mn x y):=by
 have hd':aA call head (match AV (sx x),AV (sx y) with
  |some a,some b=> .dG (.mm isMax a b) (kt (.a (.v ρ.length)) σ (ρ.length+1))
  |_,_=> .fail) ρ=some r:=by cases isMax<;>exact hd
 clear hd;split at hd'
 case h_2=>cases hd'
 rename_i a c h1 h2;simp only [aA,dP,A1] at hd';obtain ⟨v,⟨u1,h3,u2,h4,h5⟩,hd⟩:=hd';obtain ⟨c1,h6,h7⟩:=jW (hx x) h1;obtain ⟨c2,h8,h9⟩:=jW (hx y) h2;have e1:u1=c1:=by have:dH ρ a=some c1:=h6;rw [h3] at this;injection this
 have e2:u2=c2:=by have:dH ρ c=some c2:=h8;rw [h4] at this;injection this
 subst e1 e2;cases u1 with
 |slice _ _=>simp [mmC] at h5
 |lit w1=>cases u2 with
  |slice _ _=>simp [mmC] at h5
  |lit w2=>
   simp only [mmC,A1,A0] at h5;obtain ⟨v',h5,rfl⟩:=h5;refine ⟨.c (.lit v'),[],?_,j6 hm hd⟩;cases isMax<;>simp only [step,dF,h7.lit,h9.lit,Bz,A2,A4,h5,E7,C7,C2]<;>rfl
theorem atE {op:UnOp} {x:X} (hd:aA call head (aX σ ρ.length sx kt (.un op x)) ρ=some r):Goal b ρ μ σ h k call head kt r sx dx (.un op x):=by
 simp only [aX] at hd;split at hd
 ·rename_i t h1;have h2:=jW (hx x) h1;obtain ⟨c,h3,h4⟩:=h2;simp only [dH,A0] at h3;subst h3;exact ⟨.c (.lit (.bool !t)),[],by simp [step,dF,h4.lit,Bz,unV],dU hm (sd:=.a (.k (.bool !t))) ⟨_,rfl,.inl rfl⟩ hd⟩
 ·rename_i a _ h1;simp only [aA,dP,A1] at hd;obtain ⟨v,⟨u1,h3,h5⟩,hd⟩:=hd;obtain ⟨c1,h6,h7⟩:=jW (hx x) h1;have e1:u1=c1:=by have:dH ρ a=some c1:=h6;rw [h3] at this;injection this
  subst e1;cases u1 with
  |slice _ _=>simp [unC] at h5
  |lit w1=>
   simp only [unC,A1,A0] at h5;obtain ⟨v',h5,rfl⟩:=h5;exact ⟨.c (.lit v'),[],by simp only [step,dF,h7.lit,Bz,A2,A4,h5];rfl,j6 hm hd⟩
 ·cases hd
theorem akJ {kd:IntKind} {x:X} (hd:aA call head (aX σ ρ.length sx kt (.conv kd x)) ρ=some r):Goal b ρ μ σ h k call head kt r sx dx (.conv kd x):=by
 simp only [aX] at hd;split at hd
 case h_2=>cases hd
 rename_i a h1;simp only [aA,dP,A1] at hd;obtain ⟨v,⟨u1,h3,h5⟩,hd⟩:=hd;obtain ⟨c1,h6,h7⟩:=jW (hx x) h1;have e1:u1=c1:=by have:dH ρ a=some c1:=h6;rw [h3] at this;injection this
 subst e1;unfold VM at h5;split at h5
 ·simp only [A0] at h5;subst h5;exact ⟨_,[],by simp only [step,dF,h7.lit,asInt,A2,A4];rfl,j6 hm hd⟩
 ·cases h5
theorem aqE {ks:List Nat} {neg:Bool} {x y:X} (hd:aA call head (aX σ ρ.length sx kt (.eqs ks neg x y)) ρ=some r):Goal b ρ μ σ h k call head kt r sx dx (.eqs ks neg x y):=by
 simp only [aX] at hd;split at hd
 case h_2=>cases hd
 rename_i aJ bs h1 h2;split at hd
 case h_2=>cases hd
 rename_i xs ys h3 h4;simp only [aA,dP,A1] at hd;obtain ⟨v,⟨l1,h5,l2,h6,h7⟩,hd⟩:=hd;have g1:=hx x;have g2:=hx y;rw [h1] at g1;rw [h2] at g2;obtain ⟨ds,e1,g1⟩:=g1;obtain ⟨es,e2,g2⟩:=g2;obtain ⟨ms,k1,k2⟩:=EI g1 h3;obtain ⟨ns,k3,k4⟩:=EI g2 h4;have f1:Tt ρ (IB σ.lens xs)=_:=ER hm xs;have f2:Tt ρ (IB σ.lens ys)=_:=ER hm ys;rw [f1,show (nm ρ μ σ).ρ=ρ from rfl,show nA ρ xs=some ms from k1] at h5
 rw [f2,show (nm ρ μ σ).ρ=ρ from rfl,show nA ρ ys=some ns from k3] at h6
 injection h5 with h5;injection h6 with h6;subst h5 h6;simp only [Ea,A1,A0] at h7;obtain ⟨t,h7,rfl⟩:=h7;have h8:=aaw k2 k4 h7;exact ⟨_,[],by simp only [step,dF,e1,e2,aht,h8];rfl,j6 hm hd⟩
theorem anB {t:Bool} {x:X} (hd:aA call head (aX σ ρ.length sx kt (.len t x)) ρ=some r):Goal b ρ μ σ h k call head kt r sx dx (.len t x):=by
 simp only [aX] at hd;split at hd
 case h_2=>cases hd
 rename_i a h1;simp only [aA,dP,A1] at hd;obtain ⟨v,⟨u1,h3,h5⟩,hd⟩:=hd;obtain ⟨n1,n2⟩:=agK h1;obtain ⟨c1,h6,h7⟩:=ac9 hm ((hx x).c n1 n2) h1;have e1:u1=c1:=by have:dH ρ a=some c1:=h6;rw [h3] at this;injection this
 subst e1;exact ⟨.c v,[],by simp [step,dF,h7 _ _ h5],j6 hm hd⟩
theorem ahV {x:X} (hd:aA call head (aX σ ρ.length sx kt (.toStr x)) ρ=some r):Goal b ρ μ σ h k call head kt r sx dx (.toStr x):=by
 simp only [aX] at hd;split at hd
 case h_2=>cases hd
 rename_i a h1;simp only [aA,dP,A1] at hd;obtain ⟨v,⟨u1,h3,h5⟩,hd⟩:=hd;have h1':jS σ.heap 1 (sx x)=some a:=h1;obtain ⟨n1,n2⟩:=NR h1';obtain ⟨c1,h6,h7⟩:=Ki hm ((hx x).c n1 n2) h1';have e1:u1=c1:=by have:dH ρ a=some c1:=h6;rw [h3] at this;injection this
 subst e1;cases u1 with
 |lit _=>simp [Tp] at h5
 |slice cs n=>
  simp only [Tp,A1] at h5;obtain ⟨bs,h8,h9⟩:=h5;split at h9
  case isFalse=>cases h9
  rename_i hl;simp only [A0] at h9;subst h9;have h10:=h7 (cs,n) (by simp [LB,hl])
  have h11:Rp h (dx x)=some (cs,n):=by
   unfold Rp;split
   ·rename_i s e;exfalso;have hr:=(hx x).c n1 n2;rw [e] at hr;have:∃c,dH ρ a=some c/\c=.lit (.string s):=by
     revert h1';cases hs:sx x<;>intro h1'<;>rw [hs] at hr<;>simp only [jS] at h1'<;>try (cases h1';done)
     ·obtain ⟨c,q1,q2⟩:=hr;injection h1' with h1';subst h1';rcases q2 with q2|⟨_,_,_,q2⟩
      ·injection q2 with q2;exact ⟨c,q1,q2.symm⟩
      ·cases q2
     ·obtain ⟨_,_,_,q2⟩:=hr;cases q2
     ·obtain ⟨_,⟨_,_,_,q2,_⟩|⟨_,_,_,q2,_⟩⟩:=hr<;>cases q2
     ·obtain ⟨_,_,_,_,q2|⟨_,_,_,q2,_⟩⟩:=hr<;>cases q2
    obtain ⟨c,q1,q2⟩:=this;rw [h3] at q1;injection q1 with q1;rw [q2] at q1;cases q1
   ·exact h10
  exact ⟨_,[],by simp only [step,dF,h11,h8,A2,A4];rw [C6 hl];rfl,j6 hm hd⟩
theorem aow {x:X} {lo hi:Option X} (hd:aA call head (aX σ ρ.length sx kt (.sls x lo hi)) ρ=some r):Goal b ρ μ σ h k call head kt r sx dx (.sls x lo hi):=by
 simp only [aX] at hd;split at hd
 case h_2=>cases hd
 rename_i l u s h1 h2 h3;simp only [aA,dP,A1] at hd;obtain ⟨v,⟨u1,q1,u2,q2,u3,q3,h5⟩,hd⟩:=hd;obtain ⟨c1,k1,k2⟩:=jW (hx x) h3;obtain ⟨c2,k3,k4⟩:=EK hx h1;obtain ⟨c3,k5,k6⟩:=EK hx h2;have e1:u1=c1:=by have:dH ρ s=some c1:=k1;rw [q1] at this;injection this
 have e2:u2=c2:=by have:LU ρ l=some c2:=k3;rw [q2] at this;injection this
 have e3:u3=c3:=by have:LU ρ u=some c3:=k5;rw [q3] at this;injection this
 subst e1 e2 e3;unfold KU at h5;split at h5
 case h_2=>cases h5
 simp only [A1] at h5;obtain ⟨a,h6,c,h7,h8⟩:=h5;split at h8
 case isFalse=>cases h8
 rename_i hc;simp only [A0] at h8;subst h8;exact ⟨_,[],by simp only [step,dF,k2.lit,amW,Y8 k4 h6,acW k6 h7,A2,A4];rw [C6 hc];rfl,j6 hm hd⟩
theorem akY {x i:X} (hd:aA call head (aX σ ρ.length sx kt (.BV x i)) ρ=some r):Goal b ρ μ σ h k call head kt r sx dx (.BV x i):=by
 simp only [aX] at hd;split at hd
 case h_2=>cases hd
 rename_i a c h1 h2;simp only [aA,dP,A1] at hd;obtain ⟨v,⟨u1,h3,u2,h4,h5⟩,hd⟩:=hd;obtain ⟨c1,h6,h7⟩:=jW (hx x) h1;obtain ⟨c2,h8,h9⟩:=jW (hx i) h2;have e1:u1=c1:=by have:dH ρ a=some c1:=h6;rw [h3] at this;injection this
 have e2:u2=c2:=by have:dH ρ c=some c2:=h8;rw [h4] at this;injection this
 subst e1 e2;unfold af2 at h5;split at h5
 case h_2=>cases h5
 split at h5
 case isFalse=>cases h5
 rename_i hc;simp only [A1,A0] at h5;obtain ⟨q,h5,rfl⟩:=h5;exact ⟨_,[],by simp only [step,dF,h7.lit,h9.lit,asInt,A2,A4];rw [C6 hc,h5];rfl,j6 hm hd⟩
theorem ahR {x:X} (hd:aA call head (aX σ ρ.length sx kt (.FE x)) ρ=some r):Goal b ρ μ σ h k call head kt r sx dx (.FE x):=by
 simp only [aX] at hd;have hr:=hx x;split at hd
 ·rename_i i off hs;rw [hs] at hr;obtain ⟨hi,j,h1,h2⟩:=hr;exact ⟨.loc j off,[],by simp [step,h2],dU hm (sd:=.loc i off) ⟨hi,j,h1,rfl⟩ hd⟩
 ·rename_i q off aj hs;rw [hs] at hr;obtain ⟨xs,rest,h1,h2,h3⟩:=hr;exact ⟨_,[],by simp only [step,h3],dU hm (sd:=.ptr q off aj) ⟨xs,rest,h1,h2,rfl⟩ hd⟩
 ·rename_i i y off hs;rw [hs] at hr;have hr':rJ (nm ρ μ σ) (.nK i y off) (dx x):=hr;obtain ⟨hi,kd,q,h1,h2,h3⟩:=hr;rcases h3 with ⟨j,o,h4,h5,h6⟩|⟨h4,cs,h5,h6⟩
  ·rw [h5] at hr';exact ⟨_,[],by simp only [step,h5],dU hm (sd:=.nK i y off) hr'.mY hd⟩
  ·rw [h5] at hr';exact ⟨_,[],by simp only [step,h5],dU hm (sd:=.nK i y off) hr'.mY hd⟩
 ·cases hd
theorem alj {off:Nat} {x:X} (hd:aA call head (aX σ ρ.length sx kt (.O4 off x)) ρ=some r):Goal b ρ μ σ h k call head kt r sx dx (.O4 off x):=by
 simp only [aX] at hd;have hr:=hx x;split at hd
 ·rename_i i o hs;rw [hs] at hr;obtain ⟨hi,j,h1,h2⟩:=hr;exact ⟨.loc j (o+off),[],by simp [step,h2],dU hm (sd:=.loc i (o+off)) ⟨hi,j,h1,rfl⟩ hd⟩
 ·rename_i q o aj hs;rw [hs] at hr;obtain ⟨xs,rest,h1,h2,h3⟩:=hr;exact ⟨.ptr (((xs++rest).drop o).drop off),[],by simp only [step,h3],dU hm (sd:=.ptr q (o+off) aj) ⟨xs,rest,h1,h2,by rw [List.drop_drop]⟩ hd⟩
 ·rename_i i y o hs;rw [hs] at hr;obtain ⟨hi,kd,q,h1,h2,h3⟩:=hr;rcases h3 with ⟨j,o',h4,h5,h6⟩|⟨h4,cs,h5,h6⟩
  ·refine ⟨.loc j (o'+off),[],by simp only [step,h5],dU hm (sd:=.nK i y (o+off)) ?_ hd⟩
   exact ⟨hi,kd,q,h1,h2,.inl ⟨j,o'+off,h4,rfl,fun z e t f a hg=>by rw [h6 z e t f a hg];omega⟩⟩
  ·refine ⟨.ptr (cs.drop off),[],by simp only [step,h5],dU hm (sd:=.nK i y (o+off)) ?_ hd⟩
   refine ⟨hi,kd,q,h1,h2,.inr ⟨h4,cs.drop off,rfl,fun z e t f a hg=>?_⟩⟩
   obtain ⟨ys,n,h7,h8⟩:=h6 z e t f a hg;exact ⟨ys,n,h7,by rw [h8,List.drop_drop];congr 1;omega⟩
 ·cases hd
theorem aqg {off:Nat} {agg:Bool} {size:Nat} {x:X} (hd:aA call head (aX σ ρ.length sx kt (.fld off agg size x)) ρ=some r):Goal b ρ μ σ h k call head kt r sx dx (.fld off agg size x):=by
 simp only [aX] at hd;have hr:=hx x;split at hd
 case h_2=>cases hd
 rename_i ds hs;rw [hs] at hr;obtain ⟨ds',h1,h2⟩:=hr;split at hd
 ·split at hd
  case isFalse=>cases hd
  rename_i hc;exact ⟨_,[],by simp only [step,h1,E7];rw [C6 (by rw [<-h2.len];exact hc)],dU hm (sd:=.agg ((ds.drop off).take size)) ⟨_,rfl,(h2.drop off).take size⟩ hd⟩
 ·split at hd
  case h_2=>cases hd
  rename_i d hg;obtain ⟨d',h3,h4⟩:=h2.get off hg;exact ⟨d',[],by simp [step,h1,dF,h3],dU hm h4.mY hd⟩
theorem anZ {x:X} {i:Nat} (hd:aA call head (aX σ ρ.length sx kt (.ext x i)) ρ=some r):Goal b ρ μ σ h k call head kt r sx dx (.ext x i):=by
 simp only [aX] at hd;have hr:=hx x;split at hd
 case h_2=>cases hd
 rename_i ds hs;rw [hs] at hr;obtain ⟨ds',h1,h2⟩:=hr;split at hd
 case h_2=>cases hd
 rename_i d hg;obtain ⟨d',h3,h4⟩:=h2.get i hg;exact ⟨d',[],by simp [step,h1,dF,h3],dU hm h4.mY hd⟩
theorem anG {f:Nat} {xs:List X} (hd:aA call head (aX σ ρ.length sx kt (.mkf f xs)) ρ=some r):Goal b ρ μ σ h k call head kt r sx dx (.mkf f xs):=by
 simp only [aX] at hd;split at hd
 case h_2=>cases hd
 rename_i caps hc;obtain ⟨gT,h1,h2⟩:=Us hx hc;exact ⟨.fq f gT,[],by simp [step,dF,h1],dU hm (sd:=.fq f caps) ⟨gT,rfl,h2⟩ hd⟩
end
end Go.Ey
