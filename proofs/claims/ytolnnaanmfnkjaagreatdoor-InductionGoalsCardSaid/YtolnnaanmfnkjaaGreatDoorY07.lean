/- A part. -/
import Derived.Test.YtolnnaanmfnkjaaGreatDoorY05
set_option linter.all false
namespace Go.Ey
def CD (c:C) (d:D):Prop:=d=.c c\/∃cs n,c=.slice cs n/\d=.full cs n
theorem CD.lit {v:Value} {d:D} (h:CD (.lit v) d):d=.c (.lit v):=by
 rcases h with h|⟨cs,n,h,_⟩
 ·exact h
 ·cases h
theorem jy (h:Heap) (us vs:List (Nat×Obj)):aK h (us++vs)=aK (aK h us) vs:=by
 induction us generalizing h with
 |nil=>rfl
 |cons u us ih=>exact ih _
theorem L6 (h:List (Nat×SO)) (us vs:List (Nat×SO)):H9 h (us++vs)=H9 (H9 h us) vs:=by
 induction us generalizing h with
 |nil=>rfl
 |cons u us ih=>exact ih _
def Nm.upd (N:Nm) (us:List (Nat×SO)):Nm:={ N with hs:=H9 N.hs us}
theorem Nm.mZ (N:Nm) (us vs:List (Nat×SO)):N.upd (us++vs)=(N.upd us).upd vs:=by simp only [Nm.upd,L6]
section
variable {b:Bs} {N:Nm} {h:Heap} {k:Nat} {lens:List (Nat×Nat)}
def Wr (N:Nm) (us:List (Nat×Obj)) (ids:List Nat):Prop:=∀j,j∈us.map (·.1)->∃i∈ids,i < N.nx/\N.μ i=some j
theorem Wr.nil {N:Nm} {ids:List Nat}:Wr N [] ids:=fun j hj=>by simp at hj
theorem Wr.mono {N:Nm} {us:List (Nat×Obj)} {ids ids':List Nat} (h:Wr N us ids) (hs:∀i∈ids,i∈ids'):Wr N us ids':=fun j hj=>by obtain ⟨i,h1,h2⟩:=h j hj;exact ⟨i,hs i h1,h2⟩
theorem Wr.append {N:Nm} {us vs:List (Nat×Obj)} {ids:List Nat} (h:Wr N us ids) (h':Wr N vs ids):Wr N (us++vs) ids:=fun j hj=>by rw [K1,Bx] at hj;exact hj.elim (h j) (h' j)
theorem Rm.arr (hm:Rm b N h k lens) {i:Nat} {x:At} {ay ety:Nat} {fr al:Bool} (hg:dm N.hs i=.arr x ay ety fr al):
  ∃cs n,dW N.ρ x=some (.slice cs n)/\cs.length=n * ay/\
   ((∃j fz,N.μ i=some j/\aH h j=.arr cs ay fz ety/\0 < ay/\fz<=cs.length/\(fr=false->fz=0))\/(N.μ i=none/\al=false/\(fr=false->cs=[]/\n=0))):=by
 have:=hm.obj i
 rw [hg] at this;exact this
theorem Rm.box (hm:Rm b N h k lens) {i:Nat} {ds:List SD} (hg:dm N.hs i=.box ds):∃j ds',N.μ i=some j/\aH h j=.box ds'/\aF (uq N) ds ds':=by
 have:=hm.obj i
 rw [hg] at this;exact this
theorem Rm.mark (hm:Rm b N h k lens) {i:Nat} {x:At} {ay ety:Nat} {fr al:Bool} (hg:dm N.hs i=.arr x ay ety fr al) {h':Heap}
  (hh:h'=h\/∃j cs n fz nW,N.μ i=some j/\dW N.ρ x=some (.slice cs n)/\aH h j=.arr cs ay fz ety/\nW<=cs.length/\h'=(j,.arr cs ay nW ety)::h):
  l9 N (N.set i (.arr x ay ety true al))/\Rm b (N.set i (.arr x ay ety true al)) h' k lens:=by
 have hi:i < N.nx:=hm.ajN (by rw [hg];simp)
 refine hm.set hi (fun j hj=>?_) (fun y' e t fr' al' he=>?_) fun hv=>?_
 ·rcases hh with rfl|⟨j',cs,n,fz,nW,h1,_,_,_,rfl⟩
  ·rfl
  ·have:j'≠j:=fun e=>hj (e▸h1)
   simp [aH,this]
 ·injection he with e1 e2 e3 e4 e5;subst e1 e2 e3 e4 e5;exact ⟨x,fr,al,hg,fun _=>rfl,fun cs n hc=>⟨cs,hc,fun _=>rfl⟩⟩
 ·obtain ⟨cs,n,h1,h2,h3⟩:=hm.arr hg;refine ⟨cs,n,h1,h2,?_⟩;rcases h3 with ⟨j,fz,h4,h5,h6,h7,h8⟩|⟨h4,h5,h6⟩
  ·rcases hh with rfl|⟨j',cs',n',fz0,nW,k1,k2,k3,k4,rfl⟩
   ·exact .inl ⟨j,fz,h4,h5,h6,h7,by simp⟩
   ·rw [h4] at k1;injection k1 with k1;subst k1
    rw [h1] at k2;injection k2 with k2;injection k2 with k2 k2';subst k2
    exact .inl ⟨j,nW,h4,by simp [aH],h6,k4,by simp⟩
  ·exact .inr ⟨h4,h5,by simp⟩
theorem MI (hm:Rm b N h k lens) {sd:SD} {d:D} (hr:uq N sd d) {x:At} {us:List (Nat×SO)} (hf:A7 N.hs sd=some (x,us)):
  ∃c us',oo h d=some (c,us')/\dW N.ρ x=some c/\l9 N (N.upd us)/\Rm b (N.upd us) (aK h us') k lens/\Wr N us' (Un sd):=by
 cases sd with
 |a y=>
  simp only [A7,A0,A3] at hf;obtain ⟨rfl,rfl⟩:=hf;obtain ⟨c,h1,h2⟩:=hr;rcases h2 with rfl|⟨cs,n,rfl,rfl⟩
  ·exact ⟨c,[],rfl,h1,l9.refl _,hm,Wr.nil⟩
  ·exact ⟨_,[],rfl,h1,l9.refl _,hm,Wr.nil⟩
 |full y=>
  simp only [A7,A0,A3] at hf;obtain ⟨rfl,rfl⟩:=hf;obtain ⟨cs,n,h1,rfl⟩:=hr;exact ⟨_,[],rfl,h1,l9.refl _,hm,Wr.nil⟩
 |arr i=>
  simp only [A7] at hf;split at hf
  case h_2=>cases hf
  rename_i y e t fr al hg;simp only [A0,A3] at hf;obtain ⟨rfl,rfl⟩:=hf;obtain ⟨cs,n,g1,g2,g3⟩:=hm.arr hg;obtain ⟨hi,hr⟩:=hr;rcases hr with ⟨j,len,h1,rfl,h3⟩|⟨h1,cs',n',rfl,h3⟩
  ·obtain ⟨cs',h4⟩:=h3 _ _ _ _ _ hg;rw [g1] at h4;injection h4 with h4;injection h4 with h4 h5;subst h4 h5
   rcases g3 with ⟨j',fz,k1,k2,k3,k4,k5⟩|⟨k1,_⟩
   ·rw [h1] at k1;injection k1 with k1;subst k1
    have hcut:(cs.drop 0).take (n * e)=cs:=by rw [<-g2];simp
    by_cases hz:0+n * e<=fz
    ·obtain ⟨v1,v2⟩:=hm.mark hg (h':=h) (.inl rfl);exact ⟨.slice cs n,[],by simp only [oo,k2];rw [C4 (by omega),C4 hz,hcut],g1,v1,v2,Wr.nil⟩
    ·obtain ⟨v1,v2⟩:=hm.mark hg (h':=(j,.arr cs e (0+n * e) t)::h) (.inr ⟨j,cs,n,fz,_,h1,g1,k2,by omega,rfl⟩)
     refine ⟨.slice cs n,[(j,.arr cs e (0+n * e) t)],by simp only [oo,k2];rw [C4 (by omega),Dd hz,hcut],g1,v1,v2,?_⟩
     intro q hq;simp only [Cp,Ln,By] at hq;subst hq;exact ⟨i,by simp [Un],hi,h1⟩
   ·rw [h1] at k1;cases k1
  ·have h4:=h3 _ _ _ _ _ hg;obtain ⟨v1,v2⟩:=hm.mark hg (h':=h) (.inl rfl);exact ⟨.slice cs' n',[],rfl,h4,v1,v2,Wr.nil⟩
 |view i y=>
  simp only [A7] at hf;split at hf
  case h_2=>cases hf
  rename_i z e t fr al hg;simp only [A0,A3] at hf;obtain ⟨rfl,rfl⟩:=hf;obtain ⟨hi,cs,len,h1,hr⟩:=hr;obtain ⟨ys,n,g1,g2,g3⟩:=hm.arr hg;rcases hr with rfl|⟨j,off,h2,rfl,h3⟩
  ·obtain ⟨v1,v2⟩:=hm.mark hg (h':=h) (.inl rfl);exact ⟨_,[],rfl,h1,v1,v2,Wr.nil⟩
  ·obtain ⟨_,ys',n',h4,h5,h6⟩:=h3 _ _ _ _ _ hg;rw [g1] at h4;injection h4 with h4;injection h4 with h4 h7;subst h4 h7
   rcases g3 with ⟨j',fz,k1,k2,k3,k4,k5⟩|⟨k1,_⟩
   ·rw [h2] at k1;injection k1 with k1;subst k1
    by_cases hz:off+len * e<=fz
    ·obtain ⟨v1,v2⟩:=hm.mark hg (h':=h) (.inl rfl);exact ⟨.slice cs len,[],by simp only [oo,k2];rw [C4 h5,C4 hz,h6],h1,v1,v2,Wr.nil⟩
    ·obtain ⟨v1,v2⟩:=hm.mark hg (h':=(j,.arr ys e (off+len * e) t)::h) (.inr ⟨j,ys,n,fz,_,h2,g1,k2,h5,rfl⟩);refine ⟨.slice cs len,[(j,.arr ys e (off+len * e) t)],by simp only [oo,k2];rw [C4 h5,Dd hz,h6],h1,v1,v2,?_⟩
     intro q hq;simp only [Cp,Ln,By] at hq;subst hq;exact ⟨i,by simp [Un],hi,h2⟩
   ·rw [h2] at k1;cases k1
 |uf=>simp [A7] at hf
 |loc i o=>simp [A7] at hf
 |nY i x o=>simp [A7] at hf
 |ptr r o e=>simp [A7] at hf
 |fD f c=>simp [A7] at hf
 |agg ds=>simp [A7] at hf
 |lC ds=>simp [A7] at hf
theorem JJ:∀{ds:List SD} {ds':List D} {N:Nm} {h:Heap},Rm b N h k lens->aF (uq N) ds ds'->∀{aY:List At} {us:List (Nat×SO)},JD N.hs ds=some (aY,us)->
  ∃cs us',lZ h ds'=some (cs,us')/\nI N.ρ aY=some cs/\l9 N (N.upd us)/\Rm b (N.upd us) (aK h us') k lens/\Wr N us' (ds.flatMap Un)
 |[],[],N,h,hm,_,aY,us,hf=>by simp only [JD,A0,A3] at hf;obtain ⟨rfl,rfl⟩:=hf;exact ⟨[],[],rfl,rfl,l9.refl _,hm,Wr.nil⟩
 |sd::ds,d::ds',N,h,hm,hr,aY,us,hf=>by
  simp only [JD,A1,A0,A3,C0] at hf;obtain ⟨x,u1,h1,ys,u2,h2,rfl,rfl⟩:=hf;obtain ⟨c,v1,k1,k2,k3,k4,k5⟩:=MI hm hr.1 h1;obtain ⟨cs,v2,l1,l2,l3,l4,l5⟩:=JJ (N:=N.upd u1) k4 (hr.2.mono fun _ _=>k3.dc) h2
  refine ⟨c::cs,v1++v2,?_,?_,?_,?_,?_⟩
  ·simp [lZ,k1,l1]
  ·have:nI N.ρ ys=some cs:=l2
   simp [nI,k2,this]
  ·rw [Nm.mZ];exact k3.trans l3
  ·rw [Nm.mZ,jy];exact l4
  ·exact (k5.mono fun i hi=>by simp [hi]).append (l5.mono fun i hi=>by rw [D3,Bx];exact .inr hi)
 |[],_::_,_,_,_,hr,_,_,_=>hr.elim
 |_::_,[],_,_,_,hr,_,_,_=>hr.elim
theorem Ph {d:D} {c:C} {us:List (Nat×Obj)} (hf:oo h d=some (c,us)):nP h d=some (.one c,us):=by
 cases d with
 |agg ds=>cases hf
 |_=>simp [nP,hf]
theorem RD.c {N:Nm} {sd:SD} {d:D} (h:RD N sd d) (h1:∀ds,sd≠.agg ds) (h2:∀ds,sd≠.lC ds):uq N sd d:=by cases sd<;>first|exact h|exact absurd rfl (h1 _)|exact absurd rfl (h2 _)
theorem Ue {hs:List (Nat×SO)} {sd:SD} {p:At×List (Nat×SO)} (h:A7 hs sd=some p):(∀ds,sd≠.agg ds)/\∀ds,sd≠.lC ds:=by constructor<;>(intro ds e;subst e;cases h)
theorem Pm {sd:SD} (h1:∀ds,sd≠.agg ds):zO sd=Un sd:=by cases sd<;>first|rfl|exact absurd rfl (h1 _)
theorem adS (hm:Rm b N h k lens) {sd:SD} {d:D} (hr:RD N sd d) {aY:List At} {us:List (Nat×SO)} (hf:VK N.hs sd=some (aY,us)):
  ∃v us',nP h d=some (v,us')/\nI N.ρ aY=some v.cells/\l9 N (N.upd us)/\Rm b (N.upd us) (aK h us') k lens/\Wr N us' (zO sd):=by
 by_cases ha:∃ds,sd=.agg ds
 ·obtain ⟨ds,rfl⟩:=ha;obtain ⟨ds',rfl,hr⟩:=hr;simp only [VK] at hf;obtain ⟨cs,us',h1,h2,h3,h4,h5⟩:=JJ hm hr hf;exact ⟨.agg cs,us',by simp [nP,h1],h2,h3,h4,h5⟩
 ·have hf':(A7 N.hs sd).bind (fun p=>some ([p.1],p.2))=some (aY,us):=by
   cases sd<;>first|exact hf|exact absurd ⟨_,rfl⟩ ha
  simp only [A1,A0,A3,C0] at hf';obtain ⟨x,Et,h1,rfl,rfl⟩:=hf';obtain ⟨n1,n2⟩:=Ue h1;obtain ⟨c,us',k1,k2,k3,k4,k5⟩:=MI hm (hr.c n1 n2) h1;exact ⟨.one c,us',Ph k1,by simp [nI,k2,V.cells],k3,k4,by rw [Pm n1];exact k5⟩
theorem PN (hm:Rm b N h k lens) {sd:SD} {d:D} (hr:RD N sd d) {tv:TV} {us:List (Nat×SO)} (hf:GX lens N.hs sd=some (tv,us)):
  ∃v us',nP h d=some (v,us')/\Wn N.ρ tv=some v/\l9 N (N.upd us)/\Rm b (N.upd us) (aK h us') k lens/\Wr N us' (zO sd):=by
 by_cases ha:∃ds,sd=.agg ds
 ·obtain ⟨ds,rfl⟩:=ha;obtain ⟨ds',rfl,hr⟩:=hr;simp only [GX,A1,A0,A3,C0] at hf;obtain ⟨aY,Et,h0,rfl,rfl⟩:=hf;obtain ⟨cs,us',h1,h2,h3,h4,h5⟩:=JJ hm hr h0;exact ⟨.agg cs,us',by simp [nP,h1],by simp [Wn,Gb hm,h2],h3,h4,h5⟩
 ·have hf':(A7 N.hs sd).bind (fun p=>some (TV.one p.1,p.2))=some (tv,us):=by
   cases sd<;>first|exact hf|exact absurd ⟨_,rfl⟩ ha
  simp only [A1,A0,A3,C0] at hf';obtain ⟨x,Et,h1,rfl,rfl⟩:=hf';obtain ⟨n1,n2⟩:=Ue h1;obtain ⟨c,us',k1,k2,k3,k4,k5⟩:=MI hm (hr.c n1 n2) h1;exact ⟨.one c,us',Ph k1,by simp [Wn,k2],k3,k4,by rw [Pm n1];exact k5⟩
theorem Rw:∀{ds:List SD} {ds':List D} {N:Nm} {h:Heap},Rm b N h k lens->aF (RD N) ds ds'->∀{vs:List TV} {us:List (Nat×SO)},Ia lens N.hs ds=some (vs,us)->
  ∃xs us',jV h ds'=some (xs,us')/\Es N.ρ vs=some xs/\l9 N (N.upd us)/\Rm b (N.upd us) (aK h us') k lens/\Wr N us' (ds.flatMap zO)
 |[],[],N,h,hm,_,aY,us,hf=>by simp only [Ia,A0,A3] at hf;obtain ⟨rfl,rfl⟩:=hf;exact ⟨[],[],rfl,rfl,l9.refl _,hm,Wr.nil⟩
 |sd::ds,d::ds',N,h,hm,hr,aY,us,hf=>by
  simp only [Ia,A1,A0,A3,C0] at hf;obtain ⟨x,u1,h1,ys,u2,h2,rfl,rfl⟩:=hf;obtain ⟨c,v1,k1,k2,k3,k4,k5⟩:=PN hm hr.1 h1;obtain ⟨cs,v2,l1,l2,l3,l4,l5⟩:=Rw (N:=N.upd u1) k4 (hr.2.mono fun _ _=>k3.rd) h2
  refine ⟨c::cs,v1++v2,?_,?_,?_,?_,?_⟩
  ·simp [jV,k1,l1]
  ·have:Es N.ρ ys=some cs:=l2
   simp [Es,k2,this]
  ·rw [Nm.mZ];exact k3.trans l3
  ·rw [Nm.mZ,jy];exact l4
  ·exact (k5.mono fun i hi=>by simp [hi]).append (l5.mono fun i hi=>by rw [D3,Bx];exact .inr hi)
 |[],_::_,_,_,_,hr,_,_,_=>hr.elim
 |_::_,[],_,_,_,hr,_,_,_=>hr.elim
theorem N9 {hs:List (Nat×SO)} {ay:Nat} {sd:SD} {x:At} (h:lM hs ay sd=some x):(∀ds,sd≠.agg ds)/\∀ds,sd≠.lC ds:=by constructor<;>(intro ds e;subst e;cases h)
theorem ah3 {hs:List (Nat×SO)} {sd:SD} {x:At} (h:BQ hs sd=some x):(∀ds,sd≠.agg ds)/\∀ds,sd≠.lC ds:=by constructor<;>(intro ds e;subst e;cases h)
theorem amj {c:C} {d:D} (h0:CD c d) {ay:Nat} {p:List C×Nat} (hp:Lb ay c=some p):jU h ay d=some p:=by
 rcases h0 with rfl|⟨cs,n,rfl,rfl⟩
 ·cases c with
  |lit v=>cases v<;>first|exact hp|cases hp
  |slice cs n=>exact hp
 ·exact hp
theorem Kz (hm:Rm b N h k lens) {sd:SD} {d:D} (hr:uq N sd d) {ay:Nat} {x:At} (hf:lM N.hs ay sd=some x):
  ∃c,dW N.ρ x=some c/\∀p,Lb ay c=some p->jU h ay d=some p:=by
 cases sd with
 |a y=>
  simp only [lM,A0] at hf;subst hf;obtain ⟨c,h1,h2⟩:=hr;exact ⟨c,h1,fun p hp=>amj h2 hp⟩
 |full y=>
  simp only [lM,A0] at hf;subst hf;obtain ⟨cs,n,h1,rfl⟩:=hr;exact ⟨_,h1,fun p hp=>hp⟩
 |arr i=>
  simp only [lM] at hf;split at hf
  case h_2=>cases hf
  rename_i y e t fr al hg;split at hf
  case isFalse=>cases hf
  rename_i he;subst he;simp only [A0] at hf;subst hf;obtain ⟨cs,n,g1,g2,g3⟩:=hm.arr hg;refine ⟨_,g1,fun p hp=>?_⟩
  obtain ⟨_,hr⟩:=hr;rcases hr with ⟨j,len,h1,rfl,h3⟩|⟨h1,cs',n',rfl,h3⟩
  ·obtain ⟨cs',h4⟩:=h3 _ _ _ _ _ hg;rw [g1] at h4;injection h4 with h4;injection h4 with h4 h5;subst h4 h5
   rcases g3 with ⟨j',fz,k1,k2,k3,k4,k5⟩|⟨k1,_⟩
   ·rw [h1] at k1;injection k1 with k1;subst k1
    have hcut:(cs.drop 0).take (n * e)=cs:=by rw [<-g2];simp
    simp only [Lb,C4 g2,A0] at hp;subst hp;simp only [jU,k2];rw [C4 ⟨trivial,by omega⟩,hcut]
   ·rw [h1] at k1;cases k1
  ·have h4:=h3 _ _ _ _ _ hg;rw [g1] at h4;injection h4 with h4;injection h4 with h4 h5;subst h4 h5
   exact hp
 |view i y=>
  simp only [lM] at hf;split at hf
  case h_2=>cases hf
  rename_i z e t fr al hg;split at hf
  case isFalse=>cases hf
  rename_i he;subst he;simp only [A0] at hf;subst hf;obtain ⟨_,cs,len,h1,hr⟩:=hr;obtain ⟨ys,n,g1,g2,g3⟩:=hm.arr hg;refine ⟨_,h1,fun p hp=>?_⟩
  rcases hr with rfl|⟨j,off,h2,rfl,h3⟩
  ·exact hp
  ·obtain ⟨_,ys',n',h4,h5,h6⟩:=h3 _ _ _ _ _ hg;rw [g1] at h4;injection h4 with h4;injection h4 with h4 h7;subst h4 h7
   rcases g3 with ⟨j',fz,k1,k2,k3,k4,k5⟩|⟨k1,_⟩
   ·rw [h2] at k1;injection k1 with k1;subst k1
    simp only [Lb] at hp;split at hp
    case isFalse=>cases hp
    simp only [A0] at hp;subst hp;simp only [jU,k2];rw [C4 ⟨trivial,h5⟩,h6]
   ·rw [h2] at k1;cases k1
 |uf=>simp [lM] at hf
 |loc i o=>simp [lM] at hf
 |nY i x o=>simp [lM] at hf
 |ptr r o e=>simp [lM] at hf
 |fD f c=>simp [lM] at hf
 |agg ds=>simp [lM] at hf
 |lC ds=>simp [lM] at hf
theorem ac8 (hm:Rm b N h k lens) {sd:SD} {d:D} (hr:uq N sd d) {x:At} (hf:BQ N.hs sd=some x):
  ∃c,dW N.ρ x=some c/\∀t v,lN t c=some v->O1 t d=some (.c v):=by
 have key:∀{c:C} {d:D},CD c d->∀t v,lN t c=some v->O1 t d=some (.c v):=by
  intro c d h0 t v hv;rcases h0 with rfl|⟨cs,n,rfl,rfl⟩
  ·cases c with
   |lit u=>cases u<;>first|(simp only [lN] at hv;cases hv;done)|(cases t<;>simp [lN,O1,K9,E8] at hv |-;exact hv)
   |slice cs n=>cases t<;>simp [lN,O1,K9,E8] at hv |-;exact hv
  ·cases t<;>simp [lN,O1,K9,E8] at hv |-;exact hv
 cases sd with
 |a y=>
  simp only [BQ,A0] at hf;subst hf;obtain ⟨c,h1,h2⟩:=hr;exact ⟨c,h1,key h2⟩
 |full y=>
  simp only [BQ,A0] at hf;subst hf;obtain ⟨cs,n,h1,rfl⟩:=hr;exact ⟨_,h1,key (.inr ⟨cs,n,rfl,rfl⟩)⟩
 |arr i=>
  simp only [BQ] at hf;split at hf
  case h_2=>cases hf
  rename_i y e t fr al hg;simp only [A0] at hf;subst hf;obtain ⟨_,hr⟩:=hr;rcases hr with ⟨j,len,h1,rfl,h3⟩|⟨h1,cs',n',rfl,h3⟩
  ·obtain ⟨cs',h4⟩:=h3 _ _ _ _ _ hg;refine ⟨_,h4,fun t v hv=>?_⟩
   cases t<;>simp [lN,O1,K9,E8] at hv |-;exact hv
  ·exact ⟨_,h3 _ _ _ _ _ hg,key (.inr ⟨_,_,rfl,rfl⟩)⟩
 |view i y=>
  simp only [BQ] at hf;split at hf
  case h_2=>cases hf
  simp only [A0] at hf;subst hf;obtain ⟨_,cs,len,h1,hr⟩:=hr;refine ⟨_,h1,?_⟩;rcases hr with rfl|⟨j,off,h2,rfl,h3⟩
  ·exact key (.inl rfl)
  ·intro t v hv;cases t<;>simp [lN,O1,K9,E8] at hv |-;exact hv
 |uf=>simp [BQ] at hf
 |loc i o=>simp [BQ] at hf
 |nY i x o=>simp [BQ] at hf
 |ptr r o e=>simp [BQ] at hf
 |fD f c=>simp [BQ] at hf
 |agg ds=>simp [BQ] at hf
 |lC ds=>simp [BQ] at hf
theorem QX {sd:SD} {d:D} (hr:uq N sd d) (hs:BB sd=true):HZ d=true:=by
 cases sd with
 |uf=>cases hs
 |a x=>obtain ⟨c,_,rfl|⟨cs,n,_,rfl⟩⟩:=hr<;>rfl
 |full x=>obtain ⟨cs,n,_,rfl⟩:=hr;rfl
 |loc i o=>obtain ⟨_,j,_,rfl⟩:=hr;rfl
 |arr i=>obtain ⟨_,⟨j,len,_,rfl,_⟩|⟨_,cs,n,rfl,_⟩⟩:=hr<;>rfl
 |view i x=>obtain ⟨_,cs,len,_,rfl|⟨j,off,_,rfl,_⟩⟩:=hr<;>rfl
 |nY i x o=>obtain ⟨_,kd,q,_,_,⟨j,o',_,rfl,_⟩|⟨_,cs,rfl,_⟩⟩:=hr<;>rfl
 |ptr r o e=>obtain ⟨xs,rest,_,_,rfl⟩:=hr;rfl
 |fD f c=>obtain ⟨c',rfl,_⟩:=hr;rfl
 |agg ds=>cases hs
 |lC ds=>cases hs
theorem Nw:∀{ds:List SD} {ds':List D},aF (uq N) ds ds'->ds.all BB=true->ds'.all HZ=true
 |[],[],_,_=>rfl
 |sd::ds,d::ds',hr,hs=>by simp only [Iv,As] at hs |-;exact ⟨QX hr.1 hs.1,Nw hr.2 hs.2⟩
 |[],_::_,hr,_=>hr.elim
 |_::_,[],hr,_=>hr.elim
theorem Yl {d:D} (h:HZ d=true):cellsD d=some [d]:=by cases d<;>first|rfl|cases h
theorem Ku {sd:SD} {d:D} (hr:RD N sd d) {xs:List SD} (hs:cellsS sd=some xs):∃ds,cellsD d=some ds/\aF (uq N) xs ds:=by
 by_cases ha:∃ds,sd=.agg ds
 ·obtain ⟨ds,rfl⟩:=ha;obtain ⟨ds',rfl,hr⟩:=hr;simp only [cellsS] at hs;split at hs
  ·rename_i hc;simp only [A0] at hs;subst hs;exact ⟨ds',by simp only [cellsD];rw [C4 (Nw hr hc)],hr⟩
  ·cases hs
 ·have hs':(if BB sd then some [sd] else none)=some xs:=by cases sd<;>first|exact hs|exact absurd ⟨_,rfl⟩ ha
  split at hs'
  ·rename_i hc;simp only [A0] at hs';subst hs';have hr':uq N sd d:=hr.c (fun ds e=>ha ⟨ds,e⟩) (fun ds e=>by subst e;cases hc)
   exact ⟨[d],Yl (QX hr' hc),hr',trivial⟩
  ·cases hs'
theorem LJ {xs ds:List SD} {xs' ds':List D} {off:Nat} (h1:aF (uq N) ds ds') (h2:aF (uq N) xs xs'):aF (uq N) (splice ds off xs) (splice ds' off xs'):=by unfold splice;rw [h2.len];exact ((h1.take off).append h2).append (h1.drop _)
theorem Oe {sx:X->SD} {dx:X->D} (hx:∀x,RD N (sx x) (dx x)):∀{parts:List (Nat×Nat×X)} {ds:List SD} {ds':List D} {out:List SD},aF (uq N) ds ds'->Ei sx ds parts=some out->
  ∃out',r9 dx ds' parts=some out'/\aF (uq N) out out'
 |[],ds,ds',out,hr,hf=>by simp only [Ei,A0] at hf;subst hf;exact ⟨ds',rfl,hr⟩
 |(off,size,x)::parts,ds,ds',out,hr,hf=>by
  simp only [Ei,A1] at hf;obtain ⟨xs,h1,h2⟩:=hf;split at h2
  case isFalse=>cases h2
  rename_i hc;obtain ⟨xs',h3,h4⟩:=Ku (hx x) h1;obtain ⟨out',h5,h6⟩:=Oe hx (LJ hr h4 (off:=off)) h2;refine ⟨out',?_,h6⟩;simp only [r9,A2,h3,A4];rw [C4 ⟨by rw [<-h4.len];exact hc.1,by rw [<-hr.len];exact hc.2⟩]
  exact h5
theorem ag1 (v:Value):uq N (abp v) (PZ v):=by
 by_cases hv:v=.slice none 0 0
 ·subst hv;exact ⟨[],0,rfl,rfl⟩
 ·have h1:abp v=.a (.k v):=by unfold abp;split;exact absurd rfl hv;rfl
  have h2:PZ v=.c (.lit v):=by unfold PZ;split;exact absurd rfl hv;rfl
  rw [h1,h2];exact ⟨.lit v,rfl,.inl rfl⟩
theorem ahy (v:Value):uq N (.a (aeG v)) (.c (GJ v)):=by
 by_cases hv:v=.slice none 0 0
 ·subst hv;exact ⟨.slice [] 0,rfl,.inl rfl⟩
 ·have h1:aeG v=.k v:=by unfold aeG;split;exact absurd rfl hv;rfl
  have h2:GJ v=.lit v:=by unfold GJ;split;exact absurd rfl hv;rfl
  rw [h1,h2];exact ⟨.lit v,rfl,.inl rfl⟩
theorem Pk:∀zero:List Value,aF (uq N) (zero.map abp) (zero.map PZ)
 |[]=>trivial
 |v::r=>⟨ag1 v,Pk r⟩
theorem WV:∀zero:List Value,aF (uq N) (zero.map fun v=> .a (aeG v)) ((zero.map GJ).map .c)
 |[]=>trivial
 |v::r=>⟨ahy v,WV r⟩
theorem QJ (zero:List Value):∀n,aF (uq N) (Ib zero n) ((zeros zero n).map .c)
 |0=>trivial
 |n+1=>by simp only [Ib,zeros,K1];exact (WV zero).append (QJ zero n)
theorem Qt (zero:List Value):∀n,(zeros zero n).length=n * zero.length
 |0=>by simp [zeros]
 |n+1=>by simp [zeros,Qt zero n,G2,Nat.add_comm]
theorem Xf {sx:X->SD} {dx:X->D} (hx:∀x,RD N (sx x) (dx x)):∀{xs:List X} {caps:List (Nat×Nat)},VG sx xs=some caps->
  ∃jC,Cj dx xs=some jC/\aF (fun p q:Nat×Nat=>p.1 < N.nx/\N.μ p.1=some q.1/\q.2=p.2) caps jC
 |[],caps,h=>by simp only [VG,A0] at h;subst h;exact ⟨[],rfl,trivial⟩
 |x::xs,caps,h=>by
  simp only [VG] at h;split at h
  case h_2=>cases h
  rename_i i off hsx;simp only [A1,A0] at h;obtain ⟨r,h1,rfl⟩:=h;obtain ⟨r',h2,h3⟩:=Xf hx h1;have h4:=hx x;rw [hsx] at h4;obtain ⟨hi,j,h5,h6⟩:uq N (.loc i off) (dx x):=h4;exact ⟨(j,off)::r',by simp [Cj,h6,h2],⟨hi,h5,rfl⟩,h3⟩
theorem MN {i:Nat} {xs:List C} (hw:jm N.ρ i=some (.l xs)):∀(m off:Nat),off+m<=xs.length->aF (uq N) ((Cq i off m).map .a) (((xs.drop off).take m).map .c)
 |0,off,_=>by simp [Cq,aF]
 |m+1,off,hl=>by
  have hlt:off < xs.length:=by omega
  rw [Gk hlt];simp only [Cq,Cp,Ly];exact ⟨⟨xs[off],by simp [dW,hw,Ai xs off hlt],.inl rfl⟩,MN hw m (off+1) (by omega)⟩
end
end Go.Ey
namespace Go.Ey
def nm (ρ:List W) (μ:Nat->Option Nat) (σ:Sy):Nm:=⟨ρ,μ,σ.heap,σ.nx⟩
def GZ (b:Bs) (ρ:List W) (μ:Nat->Option Nat) (σ:Sy) (h:Heap) (k:Nat) (call:qM) (head:ug) (kt:SD->Sy->Nat->Tree) (r:R) (tch:List Nat) (d:D) (us:List (Nat×Obj)):Prop:=
 ∃(ws:List W) (μ':Nat->Option Nat) (σ':Sy) (sd:SD),σ'.env=σ.env/\l9 (nm ρ μ σ) (nm (ρ++ws) μ' σ')/\Rm b (nm (ρ++ws) μ' σ') (aK h us) (k+1) σ'.lens/\RD (nm (ρ++ws) μ' σ') sd d/\
  aR call head (kt sd σ' (ρ++ws).length) (ρ++ws)=some r/\∀j,j∈us.map (·.1)->∃i∈FZ σ.nx σ'.nx tch,i < σ'.nx/\μ' i=some j
section
variable {b:Bs} {ρ:List W} {μ:Nat->Option Nat} {σ:Sy} {h:Heap} {k:Nat} {call:qM} {head:ug} {kt:SD->Sy->Nat->Tree} {r:R} {sx:X->SD} {dx:X->D} {tch:List Nat}
theorem Gt {nx nx':Nat} {ts:List Nat} {i:Nat} (h:i∈ts\/(nx<=i/\i < nx')):i∈FZ nx nx' ts:=by
 unfold FZ;rw [Bx];rcases h with h|⟨h1,h2⟩
 ·exact .inl h
 ·refine .inr (Kf.2 ⟨i - nx,Ks.2 (by omega),by omega⟩)
theorem eP (hm:Rm b (nm ρ μ σ) h k σ.lens) {sd:SD} {d:D} (hr:RD (nm ρ μ σ) sd d) (hd:aR call head (kt sd σ ρ.length) ρ=some r):GZ b ρ μ σ h k call head kt r tch d []:=
 ⟨[],μ,σ,sd,rfl,by rw [D0];exact l9.refl _,by rw [D0];exact hm.tick (N4 k),by rw [D0];exact hr,by rw [D0];exact hd,fun j hj=>by simp at hj⟩
theorem mD (hm:Rm b (nm ρ μ σ) h k σ.lens) {c:C} (hd:aR call head (kt (.a (.v ρ.length)) σ (ρ.length+1)) (ρ++[.c c])=some r):GZ b ρ μ σ h k call head kt r tch (.c c) []:=
 ⟨[.c c],μ,σ,.a (.v ρ.length),rfl,mK (nm ρ μ σ) [.c c],(hm.ext [.c c]).tick (N4 k),⟨c,by simp [nm,dW,mR],.inl rfl⟩,by simpa using hd,fun j hj=>by simp at hj⟩
theorem at_new (ρ:List W) (c:C) (ws:List W):dW (ρ++.c c::ws) (.v ρ.length)=some c:=by simp [dW,mR]
theorem Ao (hm:Rm b (nm ρ μ σ) h k σ.lens) {xs:List C} {m:Nat} (hl:xs.length=m) {sd:SD} {d:D} (hr:RD (nm (ρ++[.l xs]) μ σ) sd d) (hd:aR call head (kt sd (σ.len ρ.length m) (ρ.length+1)) (ρ++[.l xs])=some r):
  GZ b ρ μ σ h k call head kt r tch d []:=by
 refine ⟨[.l xs],μ,σ.len ρ.length m,sd,rfl,mK (nm ρ μ σ) [.l xs],?_,hr,by simpa using hd,fun j hj=>by simp at hj⟩
 refine Rm.lens' ((hm.ext [.l xs]).tick (N4 k)) fun i q hi=>?_
 simp only [Sy.len,D1,A3] at hi;rcases hi with ⟨rfl,rfl⟩|hi
 ·exact ⟨xs,mR ρ _ [],hl⟩
 ·obtain ⟨ys,h1,h2⟩:=(hm.ext [.l xs]).lens i q hi;exact ⟨ys,h1,h2⟩
theorem ach {sd:SD} {x:At} (h:Cc sd=some x):sd=.a x:=by
 cases sd<;>simp [Cc] at h
 exact F0 _ h
theorem lK {N:Nm} {sd:SD} {d:D} (hr:RD N sd d) {x:At} (h:Cc sd=some x):∃c,dW N.ρ x=some c/\CD c d:=by
 have:=ach h
 subst this;exact hr
theorem FR {N:Nm} {sx:X->SD} {dx:X->D} (hx:∀x,RD N (sx x) (dx x)) {o:Option X} {l:Option At} (h:I4 (o.map sx)=some l):∃c,MS N.ρ l=some c/\
  ((o=none/\l=none/\c=none)\/∃x y c0,o=some x/\l=some y/\c=some c0/\CD c0 (dx x)):=by
 cases o with
 |none=>
  simp only [Option.map_none,I4,A0] at h;subst h;exact ⟨none,rfl,.inl ⟨rfl,rfl,rfl⟩⟩
 |some x=>
  have hx:=hx x;simp only [G3] at h;cases hs:sx x with
  |a y=>
   rw [hs] at h hx;simp only [I4,A0] at h;subst h;obtain ⟨c,h1,h2⟩:=hx;exact ⟨some c,by simp [MS,h1],.inr ⟨x,y,c,rfl,rfl,rfl,h2⟩⟩
  |_=>rw [hs] at h;simp [I4] at h
theorem Zm {o:Option X} {c:Option C} {l:Option At} (h:(o=none/\l=none/\c=none)\/∃x y c0,o=some x/\l=some y/\c=some c0/\CD c0 (dx x)) {n:Nat} (hl:loC c=some n):P7 (o.map dx)=some n:=by
 rcases h with ⟨rfl,_,rfl⟩|⟨x,y,c0,rfl,_,rfl,h1⟩
 ·exact hl
 ·cases c0 with
  |slice cs n=>simp [loC] at hl
  |lit v=>
   cases v<;>simp only [loC] at hl<;>try (cases hl;done)
   simp only [G3,P7,A2,h1.lit,asInt,A4];exact hl
theorem adL {o:Option X} {c:Option C} {l:Option At} {len:Nat} (h:(o=none/\l=none/\c=none)\/∃x y c0,o=some x/\l=some y/\c=some c0/\CD c0 (dx x)) {n:Nat} (hl:hiC len c=some n):Ju len (o.map dx)=some n:=by
 rcases h with ⟨rfl,_,rfl⟩|⟨x,y,c0,rfl,_,rfl,h1⟩
 ·exact hl
 ·cases c0 with
  |slice cs n=>simp [hiC] at hl
  |lit v=>
   cases v<;>simp only [hiC] at hl<;>try (cases hl;done)
   simp only [G3,Ju,A2,h1.lit,asInt,A4];exact hl
theorem aaF:∀{ks:List Nat} {xs ys:List C} {ds es:List D} {t:Bool},aF CD xs ds->aF CD ys es->DD ks xs ys=some t->Zr ks ds es=some t
 |[],[],[],[],[],t,_,_,h=>h
 |q::ks,x::xs,y::ys,d::ds,e::es,t,h1,h2,h=>by
  simp only [DD,A1,A0] at h;obtain ⟨u,h3,v,h4,rfl⟩:=h;have hx:∃a,x=.lit a:=by
   cases x with
   |lit a=>exact ⟨a,rfl⟩
   |slice cs n=>unfold Kt at h3;split at h3<;>first|(rename_i e1 _;cases e1;done)|(rename_i e1;cases e1;done)|cases h3
  have hy:∃a,y=.lit a:=by
   cases y with
   |lit a=>exact ⟨a,rfl⟩
   |slice cs n=>unfold Kt at h3;split at h3<;>first|(rename_i _ e1;cases e1;done)|(rename_i e1;cases e1;done)|cases h3
  obtain ⟨a,rfl⟩:=hx;obtain ⟨c,rfl⟩:=hy;rw [h1.1.lit,h2.1.lit];simp [Zr,h3,aaF h1.2 h2.2 h4]
 |[],_::_,_,_,_,_,_,_,h=>by simp [DD] at h
 |[],[],_::_,_,_,_,_,_,h=>by simp [DD] at h
 |_::_,[],_,_,_,_,_,_,h=>by simp [DD] at h
 |_::_,_::_,[],_,_,_,_,_,h=>by simp [DD] at h
 |_,_::_,_,[],_,_,h1,_,_=>h1.elim
 |_,[],_,_::_,_,_,h1,_,_=>h1.elim
 |_,_,_::_,_,[],_,_,h2,_=>h2.elim
 |_,_,[],_,_::_,_,_,h2,_=>h2.elim
variable (hm:Rm b (nm ρ μ σ) h k σ.lens) (hx:∀x,RD (nm ρ μ σ) (sx x) (dx x))
include hm hx
def Goal (b:Bs) (ρ:List W) (μ:Nat->Option Nat) (σ:Sy) (h:Heap) (k:Nat) (call:qM) (head:ug) (kt:SD->Sy->Nat->Tree) (r:R) (sx:X->SD) (dx:X->D) (i:Ins):Prop:=
 ∃d us,step dx h k i=some (d,us)/\GZ b ρ μ σ h k call head kt r (jF sx i) d us
theorem anx {x:X} (hd:aR call head (bD σ ρ.length sx kt (.ZN x)) ρ=some r):Goal b ρ μ σ h k call head kt r sx dx (.ZN x):=
 ⟨dx x,[],rfl,eP hm (hx x) hd⟩
theorem agN {zero:List Value} {parts:List (Nat×Nat×X)} (hd:aR call head (bD σ ρ.length sx kt (.build zero parts)) ρ=some r):Goal b ρ μ σ h k call head kt r sx dx (.build zero parts):=by
 simp only [bD] at hd;split at hd
 case h_2=>cases hd
 rename_i ds hf;obtain ⟨out,h1,h2⟩:=Oe hx (Pk zero) hf;exact ⟨.agg out,[],by simp [step,dS,h1],eP hm (sd:=.agg ds) ⟨out,rfl,h2⟩ hd⟩
theorem apU {op:BinOp} {K4:Bool} {x y:X} (hd:aR call head (bD σ ρ.length sx kt (.bin op K4 x y)) ρ=some r):Goal b ρ μ σ h k call head kt r sx dx (.bin op K4 x y):=by
 simp only [bD] at hd;split at hd
 case h_2=>cases hd
 rename_i a c h1 h2;simp only [aR,eF,A1] at hd;obtain ⟨v,⟨u1,h3,u2,h4,h5⟩,hd⟩:=hd;obtain ⟨c1,h6,h7⟩:=lK (hx x) h1;obtain ⟨c2,h8,h9⟩:=lK (hx y) h2;have e1:u1=c1:=by have:dW ρ a=some c1:=h6;rw [h3] at this;injection this
 have e2:u2=c2:=by have:dW ρ c=some c2:=h8;rw [h4] at this;injection this
 subst e1 e2;cases u1 with
 |slice _ _=>simp [cZ] at h5
 |lit w1=>cases u2 with
  |slice _ _=>simp [cZ] at h5
  |lit w2=>
   simp only [cZ,A1,A0] at h5;obtain ⟨v',h5,rfl⟩:=h5;exact ⟨.c (.lit v'),[],by simp only [step,dS,h7.lit,h9.lit,CF,A2,A4,h5];rfl,mD hm hd⟩
theorem am5 {isMax:Bool} {x y:X} (hd:aR call head (bD σ ρ.length sx kt (if isMax then .mx x y else .mn x y)) ρ=some r):Goal b ρ μ σ h k call head kt r sx dx (if isMax then .mx x y else .mn x y):=by
 have hd':aR call head (match Cc (sx x),Cc (sx y) with
  |some a,some b=> .fG (.mm isMax a b) (kt (.a (.v ρ.length)) σ (ρ.length+1))
  |_,_=> .fail) ρ=some r:=by cases isMax<;>exact hd
 clear hd;split at hd'
 case h_2=>cases hd'
 rename_i a c h1 h2;simp only [aR,eF,A1] at hd';obtain ⟨v,⟨u1,h3,u2,h4,h5⟩,hd⟩:=hd';obtain ⟨c1,h6,h7⟩:=lK (hx x) h1;obtain ⟨c2,h8,h9⟩:=lK (hx y) h2;have e1:u1=c1:=by have:dW ρ a=some c1:=h6;rw [h3] at this;injection this
 have e2:u2=c2:=by have:dW ρ c=some c2:=h8;rw [h4] at this;injection this
 subst e1 e2;cases u1 with
 |slice _ _=>simp [mmC] at h5
 |lit w1=>cases u2 with
  |slice _ _=>simp [mmC] at h5
  |lit w2=>
   simp only [mmC,A1,A0] at h5;obtain ⟨v',h5,rfl⟩:=h5;refine ⟨.c (.lit v'),[],?_,mD hm hd⟩;cases isMax<;>simp only [step,dS,h7.lit,h9.lit,CF,A2,A4,h5,Ek,Cd,C2]<;>rfl
theorem asU {op:UnOp} {x:X} (hd:aR call head (bD σ ρ.length sx kt (.un op x)) ρ=some r):Goal b ρ μ σ h k call head kt r sx dx (.un op x):=by
 simp only [bD] at hd;split at hd
 ·rename_i t h1;have h2:=lK (hx x) h1;obtain ⟨c,h3,h4⟩:=h2;simp only [dW,A0] at h3;subst h3;exact ⟨.c (.lit (.bool !t)),[],by simp [step,dS,h4.lit,CF,unV],eP hm (sd:=.a (.k (.bool !t))) ⟨_,rfl,.inl rfl⟩ hd⟩
 ·rename_i a _ h1;simp only [aR,eF,A1] at hd;obtain ⟨v,⟨u1,h3,h5⟩,hd⟩:=hd;obtain ⟨c1,h6,h7⟩:=lK (hx x) h1;have e1:u1=c1:=by have:dW ρ a=some c1:=h6;rw [h3] at this;injection this
  subst e1;cases u1 with
  |slice _ _=>simp [unC] at h5
  |lit w1=>
   simp only [unC,A1,A0] at h5;obtain ⟨v',h5,rfl⟩:=h5;exact ⟨.c (.lit v'),[],by simp only [step,dS,h7.lit,CF,A2,A4,h5];rfl,mD hm hd⟩
 ·cases hd
theorem aj8 {kd:IntKind} {x:X} (hd:aR call head (bD σ ρ.length sx kt (.conv kd x)) ρ=some r):Goal b ρ μ σ h k call head kt r sx dx (.conv kd x):=by
 simp only [bD] at hd;split at hd
 case h_2=>cases hd
 rename_i a h1;simp only [aR,eF,A1] at hd;obtain ⟨v,⟨u1,h3,h5⟩,hd⟩:=hd;obtain ⟨c1,h6,h7⟩:=lK (hx x) h1;have e1:u1=c1:=by have:dW ρ a=some c1:=h6;rw [h3] at this;injection this
 subst e1;unfold WH at h5;split at h5
 ·simp only [A0] at h5;subst h5;exact ⟨_,[],by simp only [step,dS,h7.lit,asInt,A2,A4];rfl,mD hm hd⟩
 ·cases h5
theorem ao6 {ks:List Nat} {neg:Bool} {x y:X} (hd:aR call head (bD σ ρ.length sx kt (.eqs ks neg x y)) ρ=some r):Goal b ρ μ σ h k call head kt r sx dx (.eqs ks neg x y):=by
 simp only [bD] at hd;split at hd
 case h_2=>cases hd
 rename_i aY bs h1 h2;split at hd
 case h_2=>cases hd
 rename_i xs ys h3 h4;simp only [aR,eF,A1] at hd;obtain ⟨v,⟨l1,h5,l2,h6,h7⟩,hd⟩:=hd;have g1:=hx x;have g2:=hx y;rw [h1] at g1;rw [h2] at g2;obtain ⟨ds,e1,g1⟩:=g1;obtain ⟨es,e2,g2⟩:=g2;obtain ⟨ms,k1,k2⟩:=EW g1 h3;obtain ⟨ns,k3,k4⟩:=EW g2 h4;have f1:TF ρ (JZ σ.lens xs)=_:=Gb hm xs;have f2:TF ρ (JZ σ.lens ys)=_:=Gb hm ys;rw [f1,show (nm ρ μ σ).ρ=ρ from rfl,show nI ρ xs=some ms from k1] at h5
 rw [f2,show (nm ρ μ σ).ρ=ρ from rfl,show nI ρ ys=some ns from k3] at h6
 injection h5 with h5;injection h6 with h6;subst h5 h6;simp only [wh,A1,A0] at h7;obtain ⟨t,h7,rfl⟩:=h7;have h8:=aaF k2 k4 h7;exact ⟨_,[],by simp only [step,dS,e1,e2,ai8,h8];rfl,mD hm hd⟩
theorem apw {t:Bool} {x:X} (hd:aR call head (bD σ ρ.length sx kt (.len t x)) ρ=some r):Goal b ρ μ σ h k call head kt r sx dx (.len t x):=by
 simp only [bD] at hd;split at hd
 case h_2=>cases hd
 rename_i a h1;simp only [aR,eF,A1] at hd;obtain ⟨v,⟨u1,h3,h5⟩,hd⟩:=hd;obtain ⟨n1,n2⟩:=ah3 h1;obtain ⟨c1,h6,h7⟩:=ac8 hm ((hx x).c n1 n2) h1;have e1:u1=c1:=by have:dW ρ a=some c1:=h6;rw [h3] at this;injection this
 subst e1;exact ⟨.c v,[],by simp [step,dS,h7 _ _ h5],mD hm hd⟩
theorem ag8 {x:X} (hd:aR call head (bD σ ρ.length sx kt (.toStr x)) ρ=some r):Goal b ρ μ σ h k call head kt r sx dx (.toStr x):=by
 simp only [bD] at hd;split at hd
 case h_2=>cases hd
 rename_i a h1;simp only [aR,eF,A1] at hd;obtain ⟨v,⟨u1,h3,h5⟩,hd⟩:=hd;have h1':lM σ.heap 1 (sx x)=some a:=h1;obtain ⟨n1,n2⟩:=N9 h1';obtain ⟨c1,h6,h7⟩:=Kz hm ((hx x).c n1 n2) h1';have e1:u1=c1:=by have:dW ρ a=some c1:=h6;rw [h3] at this;injection this
 subst e1;cases u1 with
 |lit _=>simp [TC] at h5
 |slice cs n=>
  simp only [TC,A1] at h5;obtain ⟨bs,h8,h9⟩:=h5;split at h9
  case isFalse=>cases h9
  rename_i hl;simp only [A0] at h9;subst h9;have h10:=h7 (cs,n) (by simp [Lb,hl])
  have h11:Ug h (dx x)=some (cs,n):=by
   unfold Ug;split
   ·rename_i s e;exfalso;have hr:=(hx x).c n1 n2;rw [e] at hr;have:∃c,dW ρ a=some c/\c=.lit (.string s):=by
     revert h1';cases hs:sx x<;>intro h1'<;>rw [hs] at hr<;>simp only [lM] at h1'<;>try (cases h1';done)
     ·obtain ⟨c,q1,q2⟩:=hr;injection h1' with h1';subst h1';rcases q2 with q2|⟨_,_,_,q2⟩
      ·injection q2 with q2;exact ⟨c,q1,q2.symm⟩
      ·cases q2
     ·obtain ⟨_,_,_,q2⟩:=hr;cases q2
     ·obtain ⟨_,⟨_,_,_,q2,_⟩|⟨_,_,_,q2,_⟩⟩:=hr<;>cases q2
     ·obtain ⟨_,_,_,_,q2|⟨_,_,_,q2,_⟩⟩:=hr<;>cases q2
    obtain ⟨c,q1,q2⟩:=this;rw [h3] at q1;injection q1 with q1;rw [q2] at q1;cases q1
   ·exact h10
  exact ⟨_,[],by simp only [step,dS,h11,h8,A2,A4];rw [C4 hl];rfl,mD hm hd⟩
theorem ane {x:X} {lo hi:Option X} (hd:aR call head (bD σ ρ.length sx kt (.sls x lo hi)) ρ=some r):Goal b ρ μ σ h k call head kt r sx dx (.sls x lo hi):=by
 simp only [bD] at hd;split at hd
 case h_2=>cases hd
 rename_i l u s h1 h2 h3;simp only [aR,eF,A1] at hd;obtain ⟨v,⟨u1,q1,u2,q2,u3,q3,h5⟩,hd⟩:=hd;obtain ⟨c1,k1,k2⟩:=lK (hx x) h3;obtain ⟨c2,k3,k4⟩:=FR hx h1;obtain ⟨c3,k5,k6⟩:=FR hx h2;have e1:u1=c1:=by have:dW ρ s=some c1:=k1;rw [q1] at this;injection this
 have e2:u2=c2:=by have:MS ρ l=some c2:=k3;rw [q2] at this;injection this
 have e3:u3=c3:=by have:MS ρ u=some c3:=k5;rw [q3] at this;injection this
 subst e1 e2 e3;unfold LU at h5;split at h5
 case h_2=>cases h5
 simp only [A1] at h5;obtain ⟨a,h6,c,h7,h8⟩:=h5;split at h8
 case isFalse=>cases h8
 rename_i hc;simp only [A0] at h8;subst h8;exact ⟨_,[],by simp only [step,dS,k2.lit,amo,Zm k4 h6,adL k6 h7,A2,A4];rw [C4 hc];rfl,mD hm hd⟩
theorem amP {x i:X} (hd:aR call head (bD σ ρ.length sx kt (.Ct x i)) ρ=some r):Goal b ρ μ σ h k call head kt r sx dx (.Ct x i):=by
 simp only [bD] at hd;split at hd
 case h_2=>cases hd
 rename_i a c h1 h2;simp only [aR,eF,A1] at hd;obtain ⟨v,⟨u1,h3,u2,h4,h5⟩,hd⟩:=hd;obtain ⟨c1,h6,h7⟩:=lK (hx x) h1;obtain ⟨c2,h8,h9⟩:=lK (hx i) h2;have e1:u1=c1:=by have:dW ρ a=some c1:=h6;rw [h3] at this;injection this
 have e2:u2=c2:=by have:dW ρ c=some c2:=h8;rw [h4] at this;injection this
 subst e1 e2;unfold aeK at h5;split at h5
 case h_2=>cases h5
 split at h5
 case isFalse=>cases h5
 rename_i hc;simp only [A1,A0] at h5;obtain ⟨q,h5,rfl⟩:=h5;exact ⟨_,[],by simp only [step,dS,h7.lit,h9.lit,asInt,A2,A4];rw [C4 hc,h5];rfl,mD hm hd⟩
theorem aiG {x:X} (hd:aR call head (bD σ ρ.length sx kt (.GY x)) ρ=some r):Goal b ρ μ σ h k call head kt r sx dx (.GY x):=by
 simp only [bD] at hd;have hr:=hx x;split at hd
 ·rename_i i off hs;rw [hs] at hr;obtain ⟨hi,j,h1,h2⟩:=hr;exact ⟨.loc j off,[],by simp [step,h2],eP hm (sd:=.loc i off) ⟨hi,j,h1,rfl⟩ hd⟩
 ·rename_i q off ay hs;rw [hs] at hr;obtain ⟨xs,rest,h1,h2,h3⟩:=hr;exact ⟨_,[],by simp only [step,h3],eP hm (sd:=.ptr q off ay) ⟨xs,rest,h1,h2,rfl⟩ hd⟩
 ·rename_i i y off hs;rw [hs] at hr;have hr':uq (nm ρ μ σ) (.nY i y off) (dx x):=hr;obtain ⟨hi,kd,q,h1,h2,h3⟩:=hr;rcases h3 with ⟨j,o,h4,h5,h6⟩|⟨h4,cs,h5,h6⟩
  ·rw [h5] at hr';exact ⟨_,[],by simp only [step,h5],eP hm (sd:=.nY i y off) hr'.nE hd⟩
  ·rw [h5] at hr';exact ⟨_,[],by simp only [step,h5],eP hm (sd:=.nY i y off) hr'.nE hd⟩
 ·cases hd
theorem alh {off:Nat} {x:X} (hd:aR call head (bD σ ρ.length sx kt (.Qa off x)) ρ=some r):Goal b ρ μ σ h k call head kt r sx dx (.Qa off x):=by
 simp only [bD] at hd;have hr:=hx x;split at hd
 ·rename_i i o hs;rw [hs] at hr;obtain ⟨hi,j,h1,h2⟩:=hr;exact ⟨.loc j (o+off),[],by simp [step,h2],eP hm (sd:=.loc i (o+off)) ⟨hi,j,h1,rfl⟩ hd⟩
 ·rename_i q o ay hs;rw [hs] at hr;obtain ⟨xs,rest,h1,h2,h3⟩:=hr;exact ⟨.ptr (((xs++rest).drop o).drop off),[],by simp only [step,h3],eP hm (sd:=.ptr q (o+off) ay) ⟨xs,rest,h1,h2,by rw [List.drop_drop]⟩ hd⟩
 ·rename_i i y o hs;rw [hs] at hr;obtain ⟨hi,kd,q,h1,h2,h3⟩:=hr;rcases h3 with ⟨j,o',h4,h5,h6⟩|⟨h4,cs,h5,h6⟩
  ·refine ⟨.loc j (o'+off),[],by simp only [step,h5],eP hm (sd:=.nY i y (o+off)) ?_ hd⟩
   exact ⟨hi,kd,q,h1,h2,.inl ⟨j,o'+off,h4,rfl,fun z e t f a hg=>by rw [h6 z e t f a hg];omega⟩⟩
  ·refine ⟨.ptr (cs.drop off),[],by simp only [step,h5],eP hm (sd:=.nY i y (o+off)) ?_ hd⟩
   refine ⟨hi,kd,q,h1,h2,.inr ⟨h4,cs.drop off,rfl,fun z e t f a hg=>?_⟩⟩
   obtain ⟨ys,n,h7,h8⟩:=h6 z e t f a hg;exact ⟨ys,n,h7,by rw [h8,List.drop_drop];congr 1;omega⟩
 ·cases hd
theorem aoS {off:Nat} {agg:Bool} {size:Nat} {x:X} (hd:aR call head (bD σ ρ.length sx kt (.fld off agg size x)) ρ=some r):Goal b ρ μ σ h k call head kt r sx dx (.fld off agg size x):=by
 simp only [bD] at hd;have hr:=hx x;split at hd
 case h_2=>cases hd
 rename_i ds hs;rw [hs] at hr;obtain ⟨ds',h1,h2⟩:=hr;split at hd
 ·split at hd
  case isFalse=>cases hd
  rename_i hc;exact ⟨_,[],by simp only [step,h1,Ek];rw [C4 (by rw [<-h2.len];exact hc)],eP hm (sd:=.agg ((ds.drop off).take size)) ⟨_,rfl,(h2.drop off).take size⟩ hd⟩
 ·split at hd
  case h_2=>cases hd
  rename_i d hg;obtain ⟨d',h3,h4⟩:=h2.get off hg;exact ⟨d',[],by simp [step,h1,dS,h3],eP hm h4.nE hd⟩
theorem ani {x:X} {i:Nat} (hd:aR call head (bD σ ρ.length sx kt (.ext x i)) ρ=some r):Goal b ρ μ σ h k call head kt r sx dx (.ext x i):=by
 simp only [bD] at hd;have hr:=hx x;split at hd
 case h_2=>cases hd
 rename_i ds hs;rw [hs] at hr;obtain ⟨ds',h1,h2⟩:=hr;split at hd
 case h_2=>cases hd
 rename_i d hg;obtain ⟨d',h3,h4⟩:=h2.get i hg;exact ⟨d',[],by simp [step,h1,dS,h3],eP hm h4.nE hd⟩
theorem anZ {f:Nat} {xs:List X} (hd:aR call head (bD σ ρ.length sx kt (.mkf f xs)) ρ=some r):Goal b ρ μ σ h k call head kt r sx dx (.mkf f xs):=by
 simp only [bD] at hd;split at hd
 case h_2=>cases hd
 rename_i caps hc;obtain ⟨jC,h1,h2⟩:=Xf hx hc;exact ⟨.fD f jC,[],by simp [step,dS,h1],eP hm (sd:=.fD f caps) ⟨jC,rfl,h2⟩ hd⟩
end
end Go.Ey
