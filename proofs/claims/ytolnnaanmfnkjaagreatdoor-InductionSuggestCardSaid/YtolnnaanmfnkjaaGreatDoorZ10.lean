/- A part. -/
import Derived.Test.YtolnnaanmfnkjaaGreatDoorZ08
set_option linter.all false
namespace Go.Ey
section
variable {b:Bs} {ρ:List W} {μ:Nat->Option Nat} {σ:Sy} {h:Heap} {k:Nat} {call:qp} {head:qZ} {kt:SD->Sy->Nat->Tree} {r:R} {sx:X->SD} {dx:X->D} {ZV:List Nat}
theorem acE {cs:List C} {q aj off m:Nat} (hl:off+m<=aj):(cs.drop (q * aj+off)).take m=(((cs.drop (q * aj)).take aj).drop off).take m:=by rw [List.drop_take,List.take_take,List.drop_drop];congr 1;omega
theorem JG {aj:Nat} {c x:C} {xs:List C} (h:fI aj c x=some xs):∃cs n kd q,c=.slice cs n/\x=.lit (.int kd q)/\0<=q/\q < n/\(q.toNat+1) * aj<=cs.length/\xs=(cs.drop (q.toNat * aj)).take aj/\xs.length=aj:=by
 unfold fI at h;split at h
 ·rename_i cs n kd q;split at h
  ·rename_i hc;simp only [A0] at h;refine ⟨cs,n,kd,q,rfl,rfl,hc.1,hc.2.1,hc.2.2,h.symm,?_⟩;rw [<-h,Fo,Ft];have:=hc.2.2
   rw [G1] at this;omega
  ·cases h
 ·cases h
theorem WH {cs:List C} {q aj off:Nat} (hl:off < aj) (hc:(q+1) * aj<=cs.length):cs[q * aj+off]?=some (ak ((cs.drop (q * aj)).take aj) off):=by
 have h1:q * aj+off < cs.length:=by rw [G1] at hc;omega
 have h2:off < ((cs.drop (q * aj)).take aj).length:=by rw [Fo,Ft,G1] at *;omega
 rw [yw _ _ h2,A6 h1];simp
variable (hm:Rm b (nm ρ μ σ) h k σ.lens) (hx:∀x,RD (nm ρ μ σ) (sx x) (dx x))
include hm hx
theorem am0 {agg:Bool} {size:Nat} {x:X} (hd:aA call head (aX σ ρ.length sx kt (.load agg size x)) ρ=some r):Goal b ρ μ σ h k call head kt r sx dx (.load agg size x):=by
 simp only [aX] at hd;have hr:=hx x;split at hd
 ·rename_i i off hs;rw [hs] at hr;obtain ⟨hi,j,h1,h2⟩:=hr;split at hd
  case h_2=>cases hd
  rename_i ds hg;obtain ⟨j',ds',g1,g2,g3⟩:=hm.box (N:=nm ρ μ σ) hg;rw [h1] at g1;injection g1 with g1;subst g1
  split at hd
  ·split at hd
   case isFalse=>cases hd
   rename_i hc;exact ⟨_,[],by simp only [step,h2,ji,g2,E7];rw [C6 (by rw [<-g3.len];exact hc)];rfl,dU hm (sd:=.agg ((ds.drop off).take size)) ⟨_,rfl,(g3.drop off).take size⟩ hd⟩
  ·split at hd
   case h_2=>cases hd
   rename_i d hd';obtain ⟨d',k1,k2⟩:=g3.get off hd';exact ⟨d',[],by simp [step,h2,ji,g2,dF,k1],dU hm k2.mY hd⟩
 ·rename_i q off aj hs;rw [hs] at hr;obtain ⟨xs,rest,h1,h2,h3⟩:=hr;subst h2;split at hd
  ·split at hd
   case isFalse=>cases hd
   rename_i hc;refine ⟨.agg ((((xs++rest).drop off).take size).map .c),[],?_,dU hm (sd:=.agg ((Ba q off size).map .a)) ?_ hd⟩
   ·simp only [step,h3,ji,E7];rw [C6 (by rw [Ft,Ax];omega)];rfl
   ·refine ⟨_,rfl,?_⟩;have h4:((xs++rest).drop off).take size=(xs.drop off).take size:=by
     rw [My (by omega),L5 (by rw [Ft];omega)]
    rw [h4];exact LX h1 size off hc
  ·split at hd
   case isFalse=>cases hd
   rename_i hc;refine ⟨.c xs[off],[],?_,dU hm (sd:=.a (.n q off)) ⟨_,by simp only [dH,show gG (nm ρ μ σ).ρ q=_ from h1,yw xs off hc],.inl rfl⟩ hd⟩
   simp only [step,h3,ji,dF,C2,C7,M1,Hx];rw [Gk hc,A6 hc];rfl
 ·rename_i i y off hs;rw [hs] at hr;obtain ⟨hi,kd,q,h1,h2,h3⟩:=hr;split at hd
  case h_2=>cases hd
  rename_i s aj ety fr al hg;obtain ⟨cs,n,g1,g2,g3⟩:=hm.arr (N:=nm ρ μ σ) hg;have main:∀{t:Tree},(∀xs,aA call head (.row aj s y t) ρ=some r->xs=(cs.drop (q.toNat * aj)).take aj->(q.toNat+1) * aj<=cs.length->xs.length=aj->aA call head t (ρ++[.l xs])=some r->Goal b ρ μ σ h k call head kt r sx dx (.load agg size x))->aA call head (.row aj s y t) ρ=some r->Goal b ρ μ σ h k call head kt r sx dx (.load agg size x):=by
   intro t ht hd;have hd0:=hd;simp only [aA,A1] at hd;obtain ⟨xs,⟨c1,q1,c2,q2,q3⟩,hd⟩:=hd;rw [show dH ρ s=_ from g1] at q1
   rw [show dH ρ y=_ from h1] at q2
   injection q1 with q1;injection q2 with q2;subst q1 q2;obtain ⟨cs',n',kd',q',e1,e2,e3,e4,e5,e6,e7⟩:=JG q3;injection e1 with e1 Mi;injection e2 with e2;injection e2 with e2 e2';subst e1 Mi e2 e2';exact ht xs hd0 e6 e5 e7 hd
  split at hd
  ·split at hd
   case isFalse=>cases hd
   rename_i hc;refine main (fun xs _ e5 e6 e7 hd=>?_) hd
   have hw:gG (nm (ρ++[.l xs]) μ σ).ρ ρ.length=some (.l xs):=by simp [nm,mJ]
   have hn:=LX hw size off (by omega)
   have hrow:(cs.drop (q.toNat * aj+off)).take size=(xs.drop off).take size:=by rw [acE hc,e5]
   have hlen:q.toNat * aj+off+size<=cs.length:=by rw [G1] at e6;omega
   rcases h3 with ⟨j,o,k1,k2,k3⟩|⟨k1,zs,k2,k3⟩
   ·rcases g3 with ⟨j',fz,l1,l2,_⟩|⟨l1,_⟩
    ·rw [k1] at l1;injection l1 with l1;subst l1
     have ho:=k3 _ _ _ _ _ hg;subst ho;refine ⟨.agg (((cs.drop (q.toNat * aj+off)).take size).map .c),[],?_,Ah hm e7 (sd:=.agg ((Ba ρ.length off size).map .a)) ⟨_,rfl,by rw [hrow];exact hn⟩ hd⟩
     simp only [step,k2,ji,l2,E7];rw [C6 hlen];rfl
    ·rw [k1] at l1;cases l1
   ·obtain ⟨ys,n',l1,l2⟩:=k3 _ _ _ _ _ hg;rw [g1] at l1;injection l1 with l1;injection l1 with l1 l1';subst l1 l1'
    subst l2;refine ⟨.agg (((cs.drop (q.toNat * aj+off)).take size).map .c),[],?_,Ah hm e7 (sd:=.agg ((Ba ρ.length off size).map .a)) ⟨_,rfl,by rw [hrow];exact hn⟩ hd⟩
    simp only [step,k2,ji,E7];rw [C6 (by rw [Ft];omega)];rfl
  ·split at hd
   case isFalse=>cases hd
   rename_i hc;refine main (fun xs _ e5 e6 e7 hd=>?_) hd
   have hw:gG (nm (ρ++[.l xs]) μ σ).ρ ρ.length=some (.l xs):=by simp [nm,mJ]
   have hget:=WH hc e6;rw [<-e5] at hget;have hra:rJ (nm (ρ++[.l xs]) μ σ) (.a (.n ρ.length off)) (.c (ak xs off)):=⟨_,by simp only [dH,hw],.inl rfl⟩
   rcases h3 with ⟨j,o,k1,k2,k3⟩|⟨k1,zs,k2,k3⟩
   ·rcases g3 with ⟨j',fz,l1,l2,_⟩|⟨l1,_⟩
    ·rw [k1] at l1;injection l1 with l1;subst l1
     have ho:=k3 _ _ _ _ _ hg;subst ho;refine ⟨.c (ak xs off),[],?_,Ah hm e7 hra.mY hd⟩;simp only [step,k2,ji,l2,C2,C7,hget,dF];rfl
    ·rw [k1] at l1;cases l1
   ·obtain ⟨ys,n',l1,l2⟩:=k3 _ _ _ _ _ hg;rw [g1] at l1;injection l1 with l1;injection l1 with l1 l1';subst l1 l1'
    subst l2;refine ⟨.c (ak xs off),[],?_,Ah hm e7 hra.mY hd⟩;simp only [step,k2,ji,C2,C7,M1,Hx,hget,dF];rfl
 ·cases hd
omit hx in
theorem BA {ws:List W} {us:List (Nat×Obj)} {N1:Nm} (hN:N1.nx=σ.nx/\N1.μ=μ/\N1.ρ=ρ++ws) (hm1:Rm b N1 (ay h us) k σ.lens) (hv1:j4 (nm ρ μ σ) N1) (hw:Wr (nm ρ μ σ) us ZV)
  {sd:SD} {d:D} (hr:RD N1 sd d) (hd:aA call head (kt sd ⟨σ.env,N1.hs,σ.nx,σ.lens⟩ (ρ++ws).length) (ρ++ws)=some r):FQ b ρ μ σ h k call head kt r ZV d us:=by
 obtain ⟨n1,n2,n3⟩:=hN;have e:N1=nm (ρ++ws) μ ⟨σ.env,N1.hs,σ.nx,σ.lens⟩:=by cases N1;simp only [nm] at *;simp [n1,n2,n3]
 refine ⟨ws,μ,⟨σ.env,N1.hs,σ.nx,σ.lens⟩,sd,rfl,?_,?_,?_,hd,fun q hq=>?_⟩
 ·rw [<-e];exact hv1
 ·rw [<-e];exact hm1.tick (Mb k)
 ·rw [<-e];exact hr
 ·obtain ⟨i,h1,hlt,h2⟩:=hw q hq;exact ⟨i,Fa (.inl h1),hlt,h2⟩
omit hx in
theorem Io {ws:List W} {us:List (Nat×Obj)} {N1:Nm} (hN:N1.nx=σ.nx/\N1.μ=μ/\N1.ρ=ρ++ws) (hm1:Rm b N1 (ay h us) k σ.lens) (hv1:j4 (nm ρ μ σ) N1) (hw:Wr (nm ρ μ σ) us ZV)
  {j:Option Nat} {o:SO} {vs:List (Nat×Obj)} (hj:(j=none/\vs=[])\/∃O,j=some k/\vs=[(k,O)]) (wC:j4 N1 (N1.new j o)->Sr (N1.new j o) (ay (ay h us) vs) σ.nx o)
  {sd:SD} {d:D} (hr:RD (N1.new j o) sd d) (hd:aA call head (kt sd ⟨σ.env,(σ.nx,o)::N1.hs,σ.nx+1,σ.lens⟩ (ρ++ws).length) (ρ++ws)=some r):
  FQ b ρ μ σ h k call head kt r ZV d (us++vs):=by
 obtain ⟨n1,n2,n3⟩:=hN;have hoth:∀q,q≠k->ax (ay (ay h us) vs) q=ax (ay h us) q:=by
  intro q hq;rcases hj with ⟨_,rfl⟩|⟨O,_,rfl⟩
  ·rfl
  ·simp [ay,ax,Ne.symm hq]
 obtain ⟨v1,v2⟩:=hm1.new (j:=j) (o:=o) (h':=ay (ay h us) vs) (by rcases hj with ⟨h,_⟩|⟨O,h,_⟩<;>simp [h]) hoth (by rw [n1];exact wC)
 have e:N1.new j o=nm (ρ++ws) (N1.new j o).μ ⟨σ.env,(σ.nx,o)::N1.hs,σ.nx+1,σ.lens⟩:=by simp only [Nm.new,nm,n1,n3]
 refine ⟨ws,(N1.new j o).μ,⟨σ.env,(σ.nx,o)::N1.hs,σ.nx+1,σ.lens⟩,sd,rfl,?_,?_,?_,hd,?_⟩
 ·rw [<-e];exact hv1.trans v1
 ·rw [<-e,gP];exact v2
 ·rw [<-e];exact hr
 ·intro q hq;rw [Is,B0] at hq;rcases hq with hq|hq
  ·obtain ⟨i,h1,hlt,h2⟩:=hw q hq;have hlt':i < σ.nx:=hlt;refine ⟨i,Fa (.inl h1),Nat.lt_succ_of_lt hlt',?_⟩;show (if i=N1.nx then j else N1.μ i)=some q
   rw [n1,E0 (by omega),n2];exact h2
  ·rcases hj with ⟨_,rfl⟩|⟨O,hj,rfl⟩
   ·simp at hq
   ·simp only [D4,Kx,B8] at hq;subst hq;refine ⟨σ.nx,Fa (.inr ⟨An _,K0 _⟩),K0 _,?_⟩;show (if σ.nx=N1.nx then j else N1.μ σ.nx)=some q
    rw [C6 n1.symm];exact hj
omit hm hx in
theorem wD (N:Nm) (j:Option Nat) (o:SO):(N.new j o).μ N.nx=j:=by simp [Nm.new]
omit hm hx in
theorem RG (N:Nm) (j:Option Nat) (o:SO):bX (N.new j o).hs N.nx=o:=by simp [Nm.new,bX]
omit hx in
theorem WO {ds:List SD} {ds':List D} (hr:av (rJ (nm ρ μ σ)) ds ds') (hd:aA call head (kt (.loc σ.nx 0) (σ.new (.box ds)) ρ.length) ρ=some r):FQ b ρ μ σ h k call head kt r ZV (.loc k 0) [(k,.box ds')]:=by
 have hN:(nm ρ μ σ).nx=σ.nx/\(nm ρ μ σ).μ=μ/\(nm ρ μ σ).ρ=ρ++[]:=⟨rfl,rfl,by simp [nm]⟩
 refine Io (ws:=[]) (us:=[]) hm hN hm (j4.refl _) Wr.nil (j:=some k) (o:=.box ds) (vs:=[(k,.box ds')]) (.inr ⟨_,rfl,rfl⟩) (fun hv=>?_) (sd:=.loc σ.nx 0) ⟨K0 _,k,wD _ _ _,rfl⟩ (by rw [Cl];exact hd)
 exact ⟨k,ds',wD (nm ρ μ σ) _ _,by simp [ay,ax],hr.mono fun _ _=>hv.dc⟩
theorem agP {zero:List Value} (hd:aA call head (aX σ ρ.length sx kt (.alloc zero)) ρ=some r):Goal b ρ μ σ h k call head kt r sx dx (.alloc zero):=
 ⟨_,_,rfl,WO hm (Np zero) hd⟩
theorem anH {x:X} (hd:aA call head (aX σ ρ.length sx kt (.box x)) ρ=some r):Goal b ρ μ σ h k call head kt r sx dx (.box x):=by
 simp only [aX] at hd;split at hd
 case h_2=>cases hd
 rename_i ds hc;obtain ⟨ds',h1,h2⟩:=Kb (hx x) hc;exact ⟨_,_,by simp only [step,h1,A2,A4],WO hm h2 hd⟩
omit hx in
theorem Ic {cs:List C} {n aj ety:Nat} {us:List (Nat×Obj)} {ss:List (Nat×SO)} (hm1:Rm b ((nm ρ μ σ).upd ss) (ay h us) k σ.lens) (hv1:j4 (nm ρ μ σ) ((nm ρ μ σ).upd ss)) (hw:Wr (nm ρ μ σ) us ZV) (hl:cs.length=n * aj) (he:0 < aj) {fr al:Bool}
  (hd:aA call head (kt (.arr σ.nx) ((σ.upd ss).new (.arr (.v ρ.length) aj ety fr al)) (ρ.length+1)) (ρ++[.c (.slice cs n)])=some r):
  FQ b ρ μ σ h k call head kt r ZV (.arr k 0 n) (us++[(k,.arr cs aj 0 ety)]):=by
 have hN:(((nm ρ μ σ).upd ss).ext [.c (.slice cs n)]).nx=σ.nx/\(((nm ρ μ σ).upd ss).ext [.c (.slice cs n)]).μ=μ/\(((nm ρ μ σ).upd ss).ext [.c (.slice cs n)]).ρ=ρ++[.c (.slice cs n)]:=⟨rfl,rfl,rfl⟩;have hat:dH (ρ++[.c (.slice cs n)]) (.v ρ.length)=some (.slice cs n):=at_new ρ _ [];refine Io hm hN (hm1.ext _) (hv1.trans (lC _ _)) hw (j:=some k) (o:=.arr (.v ρ.length) aj ety fr al) (.inr ⟨_,rfl,rfl⟩) (fun hv=>?_) (sd:=.arr σ.nx) ?_ (by rw [Ax];exact hd)
 ·exact ⟨cs,n,hat,hl,.inl ⟨k,0,wD _ _ _,by simp [ay,ax],he,Fl _,fun _=>rfl⟩⟩
 ·refine ⟨K0 _,.inl ⟨k,n,wD _ _ _,rfl,fun x e t f a hg=>?_⟩⟩
  have:bX ((((nm ρ μ σ).upd ss).ext [.c (.slice cs n)]).new (some k) (.arr (.v ρ.length) aj ety fr al)).hs σ.nx=_:=RG _ _ _
  rw [this] at hg;injection hg with hg;subst hg;exact ⟨cs,hat⟩
omit hm hx in
theorem Nr (zero:List Value):∀n,(Gw zero n).flatMap Td=[]
 |0=>rfl
 |n+1=>by
  simp only [Gw,List.flatMap_append,Nr zero n,Cl];induction zero with
  |nil=>rfl
  |cons v r ih=>simpa [Td] using ih
omit hm hx in
theorem Zc {sd:SD} {xs:List SD} (h:cellsS sd=some xs):xs.flatMap Td=yg sd:=by
 by_cases ha:∃ds,sd=.agg ds
 ·obtain ⟨ds,rfl⟩:=ha;simp only [cellsS] at h;split at h
  ·simp only [A0] at h;subst h;rfl
  ·cases h
 ·have h':(if Ar sd then some [sd] else none)=some xs:=by cases sd<;>first|exact h|exact absurd ⟨_,rfl⟩ ha
  split at h'
  ·simp only [A0] at h';subst h';rw [MI fun ds e=>ha ⟨ds,e⟩]
   simp
  ·cases h'
omit hm hx in
theorem NH:∀{parts:List (Nat×Nat×X)} {ds out:List SD},CL sx ds parts=some out->∀i∈out.flatMap Td,i∈ds.flatMap Td\/i∈parts.flatMap fun p=>yg (sx p.2.2)
 |[],ds,out,h,i,hi=>by simp only [CL,A0] at h;subst h;exact .inl hi
 |(off,size,x)::parts,ds,out,h,i,hi=>by
  simp only [CL,A1] at h;obtain ⟨xs,h1,h2⟩:=h;split at h2
  case isFalse=>cases h2
  rcases NH h2 i hi with h3|h3
  ·unfold splice at h3;simp only [List.flatMap_append,B0] at h3;rcases h3 with (h3|h3)|h3
   ·left;rw [List.mem_flatMap] at h3 |-;obtain ⟨a,h4,h5⟩:=h3;exact ⟨a,Hs h4,h5⟩
   ·right;rw [Zc h1] at h3;rw [D3,B0];exact .inl h3
   ·left;rw [List.mem_flatMap] at h3 |-;obtain ⟨a,h4,h5⟩:=h3;exact ⟨a,List.mem_of_mem_drop h4,h5⟩
  ·right;rw [D3,B0];exact .inr h3
omit hm hx in
theorem abg {zero:List Value} {aj ety len:Nat} {parts:List (Nat×Nat×X)} {out:List SD} (h:CL sx (Gw zero len) parts=some out):∀i∈out.flatMap Td,i∈iL sx (.lits aj ety len zero parts):=by
 intro i hi;rcases NH h i hi with h1|h1
 ·rw [Nr] at h1;cases h1
 ·exact h1
theorem ana {aj ety len:Nat} {zero:List Value} {parts:List (Nat×Nat×X)} (hd:aA call head (aX σ ρ.length sx kt (.lits aj ety len zero parts)) ρ=some r):Goal b ρ μ σ h k call head kt r sx dx (.lits aj ety len zero parts):=by
 simp only [aX] at hd;split at hd
 case h_2=>cases hd
 rename_i aJ ss hf;simp only [A1] at hf;obtain ⟨ds,h1,h2⟩:=hf;obtain ⟨out,h3,h4⟩:=NY hx (Qr zero len) h1;obtain ⟨cs,us,h5,h6,h7,h8,h9⟩:=Ht hm h4 h2;simp only [aA,dP,A1] at hd;obtain ⟨c,⟨ys,q1,q2⟩,hd⟩:=hd;have e1:ys=cs:=by have:nA ρ aJ=some cs:=h6;rw [q1] at this;injection this
 subst e1;unfold fK at q2;split at q2
 case isFalse=>cases q2
 rename_i hc;simp only [A0] at q2;subst q2;refine ⟨_,_,by simp only [step,h3,h5,A2,A4];rw [C6 ⟨hc.1,hc.2.1⟩],Ic hm h8 h7 (h9.mono fun i hi=>abg h1 i hi) hc.1 hc.2.2 hd⟩
theorem ar9 {aj ety bytes:Nat} {zero:List Value} {l c:X} (hd:aA call head (aX σ ρ.length sx kt (.mk aj ety bytes zero l c)) ρ=some r):Goal b ρ μ σ h k call head kt r sx dx (.mk aj ety bytes zero l c):=by
 simp only [aX] at hd;split at hd
 case h_2=>cases hd
 rename_i a c' h1 h2;simp only [aA,dP,A1] at hd;obtain ⟨v,⟨u1,h3,u2,h4,h5⟩,hd⟩:=hd;obtain ⟨c1,h6,h7⟩:=jW (hx l) h1;obtain ⟨c2,h8,h9⟩:=jW (hx c) h2;have e1:u1=c1:=by have:dH ρ a=some c1:=h6;rw [h3] at this;injection this
 have e2:u2=c2:=by have:dH ρ c'=some c2:=h8;rw [h4] at this;injection this
 subst e1 e2;unfold mkC at h5;split at h5
 case h_2=>cases h5
 rename_i n m;split at h5
 case isFalse=>cases h5
 rename_i hc;simp only [A0] at h5;subst h5;obtain ⟨k1,k2,k3,k4,k5,k6⟩:=hc;refine ⟨_,_,by simp only [step,h7.lit,h9.lit,asInt,A2,A4];rw [C6 ⟨k1,k2,k3,k4,k5⟩],?_⟩
 exact Ic (us:=[]) (ss:=[]) hm hm (j4.refl _) Wr.nil (by rw [QI,k5]) k6 hd
theorem ag5 {size:Nat} {a v:X} (hd:aA call head (aX σ ρ.length sx kt (.store size a v)) ρ=some r):Goal b ρ μ σ h k call head kt r sx dx (.store size a v):=by
 simp only [aX] at hd;have hr:=hx a;split at hd
 ·rename_i i off hs;rw [hs] at hr;obtain ⟨hi,j,h1,h2⟩:=hr;split at hd
  case h_2=>cases hd
  rename_i ds xs hg hc;split at hd
  case isFalse=>cases hd
  rename_i hl;obtain ⟨j',ds',g1,g2,g3⟩:=hm.box (N:=nm ρ μ σ) hg;rw [h1] at g1;injection g1 with g1;subst g1
  obtain ⟨xs',h3,h4⟩:=Kb (hx v) hc;obtain ⟨v1,v2⟩:=hm.set (i:=i) hi (o':=.box (splice ds off xs)) (h':=(j,.box (splice ds' off xs'))::h)
   (fun q hq=>by have:j≠q:=fun e=>hq (e▸h1);simp [ax,this]) (fun _ _ _ _ _ e=>by cases e)
   (fun hv=>⟨j,_,h1,by simp [ax],Lg (g3.mono fun _ _=>hv.dc) (h4.mono fun _ _=>hv.dc)⟩)
  refine ⟨.rq,[(j,.box (splice ds' off xs'))],?_,BA (ws:=[]) hm ⟨rfl,rfl,by simp [nm,Nm.set]⟩ v2 v1 ?_ (sd:=.rq) trivial (by rw [Cl];exact hd)⟩
  ·simp only [step,h2,AZ,g2,h3,A2,A4];rw [C6 ⟨by rw [<-h4.len];exact hl.1,by rw [<-g3.len];exact hl.2⟩]
  ·intro q hq;simp only [D4,Kx,B8] at hq;subst hq;exact ⟨i,by simp [iL,hs],hi,h1⟩
 ·rename_i i y off hs;rw [hs] at hr;have hr0:rJ (nm ρ μ σ) (.nK i y off) (dx a):=hr;split at hd
  case h_2=>cases hd
  rename_i aJ ss hf;obtain ⟨vv,us,k1,k2,k3,k4,k5⟩:=afH hm (hx v) hf;split at hd
  case h_2=>cases hd
  rename_i s aj ety al hg;split at hd
  case isFalse=>cases hd
  rename_i hl;simp only [aA,dP,A1] at hd;obtain ⟨c,⟨u1,q1,u2,q2,zs,q3,q4⟩,hd⟩:=hd;have e3:zs=vv.cells:=by have:nA ρ aJ=some vv.cells:=k2;rw [q3] at this;injection this
  subst e3;obtain ⟨cs,n,g1,g2,g3⟩:=k4.arr hg;obtain ⟨hi,kd,q,h1,h2,h3⟩:=k3.dc hr0;rw [show dH ρ s=_ from g1] at q1
  rw [show dH ρ y=_ from h1] at q2
  injection q1 with q1;injection q2 with q2;subst q1 q2;simp only [Yz] at q4;split at q4
  case isFalse=>cases q4
  rename_i hc;simp only [A0] at q4;subst q4;obtain ⟨c1,c2,c3,c4⟩:=hc;have hlen:vv.cells.length=aJ.length:=IQ q3;have g3':∃j fz,((nm ρ μ σ).upd ss).μ i=some j/\ax (ay h us) j=.arr cs aj fz ety/\0 < aj/\fz<=cs.length/\(false=false->fz=0):=by
   rcases g3 with g3|⟨_,_,l1⟩
   ·exact g3
   ·obtain ⟨_,rfl⟩:=l1 rfl;omega
  obtain ⟨j,fz,l1,l2,l3,l4,l5⟩:=g3';have hz:=l5 rfl;subst hz;have h3':∃j o,((nm ρ μ σ).upd ss).μ i=some j/\dx a=.loc j o/\∀y aj ety fr al,bX ((nm ρ μ σ).upd ss).hs i=.arr y aj ety fr al->o=q.toNat * aj+off:=by
   rcases h3 with h3|⟨m1,_⟩
   ·exact h3
   ·rw [m1] at l1;cases l1
  obtain ⟨j',o,m1,m2,m3⟩:=h3';rw [m1] at l1;injection l1 with l1;subst l1
  have ho:=m3 _ _ _ _ _ hg;subst ho;have hin:q.toNat * aj+off+vv.cells.length<=cs.length:=by
   rw [c4];have:(q.toNat+1) * aj<=n * aj:=Cd _ (by omega)
   rw [G1] at this;omega
  have atN:(splice cs (q.toNat * aj+off) vv.cells).length=n * aj:=by unfold splice;simp only [Ax,Fo,Ft];omega
  have hat:dH (ρ++[.c (.slice (splice cs (q.toNat * aj+off) vv.cells) n)]) (.v ρ.length)=some (.slice (splice cs (q.toNat * aj+off) vv.cells) n):=at_new ρ _ [];obtain ⟨v1,v2⟩:=(k4.ext [.c (.slice (splice cs (q.toNat * aj+off) vv.cells) n)]).set (i:=i) hi (o':=.arr (.v ρ.length) aj ety false al) (h':=(j',.arr (splice cs (q.toNat * aj+off) vv.cells) aj 0 ety)::ay h us)
   (fun p hp=>by have:j'≠p:=fun e=>hp (e▸m1);simp [ax,this])
   (fun y' e t fr' al' he=>by
    injection he with e1 e2 e3 e4 e5;subst e1 e2 e3 e4 e5;refine ⟨s,false,al,hg,fun h=>h,fun cs' n' hc'=>⟨splice cs (q.toNat * aj+off) vv.cells,?_,fun hor=>?_⟩⟩
    ·have:dH (ρ++[.c (.slice (splice cs (q.toNat * aj+off) vv.cells) n)]) s=some (.slice cs n):=iF g1
     have hc'':dH (ρ++[.c (.slice (splice cs (q.toNat * aj+off) vv.cells) n)]) s=some (.slice cs' n'):=hc';rw [hc''] at this;injection this with this;injection this with _ this;subst this;exact hat
    ·rcases hor with hor|hor
     ·cases hor
     ·have afi:((nm ρ μ σ).upd ss).μ i=none:=hor;rw [m1] at afi;cases afi)
   (fun hv=>⟨_,n,hat,atN,.inl ⟨j',0,m1,by simp [ax],l3,Fl _,fun _=>rfl⟩⟩)
  refine ⟨.rq,us++[(j',.arr (splice cs (q.toNat * aj+off) vv.cells) aj 0 ety)],?_,BA (ws:=[.c (.slice (splice cs (q.toNat * aj+off) vv.cells) n)]) hm ⟨rfl,rfl,rfl⟩ (by rw [gP];exact v2) ((k3.trans (lC _ _)).trans v1) ?_ (sd:=.rq) trivial ?_⟩
  ·have Wn:∃cs0 e0 f0 t0,ax h j'=.arr cs0 e0 f0 t0:=by
    obtain ⟨y0,f0,a0,w1,_,_⟩:=k3.arr i _ _ _ _ _ hi hg;obtain ⟨cs0,n0,_,_,w2⟩:=hm.arr (N:=nm ρ μ σ) w1;rcases w2 with ⟨j0,z0,w3,w4,_⟩|⟨w3,_⟩
    ·rw [show (nm ρ μ σ).μ i=some j' from m1] at w3;injection w3 with w3;subst w3
     exact ⟨_,_,_,_,w4⟩
    ·rw [show (nm ρ μ σ).μ i=some j' from m1] at w3;cases w3
   obtain ⟨cs0,e0,f0,t0,Wn⟩:=Wn;simp only [step,m2,AZ,Wn,k1,A2,A4,l2];rw [C6 ⟨by rw [hlen];exact hl.1,by rw [<-hl.1,<-hlen];exact hin,Fl _⟩]
  ·refine Wr.append (k5.mono fun p hp=>by simp only [iL,B0];exact .inr hp) ?_
   intro p hp;simp only [D4,Kx,B8] at hp;subst hp;exact ⟨i,by simp [iL,hs],hi,m1⟩
  ·have e:(σ.upd (ss++[(i,.arr (.v ρ.length) aj ety false al)]))=⟨σ.env,(i,.arr (.v ρ.length) aj ety false al)::FW σ.heap ss,σ.nx,σ.lens⟩:=by
    simp only [Sy.upd,K5,FW]
   rw [e] at hd;rw [Ax];exact hd
 ·cases hd
theorem aaA {aj:Nat} {cs:List C} {n:Nat} {lo hi:Option X} {l u:Option C} {la ua:Option At}
  (k4:(lo=none/\la=none/\l=none)\/∃x y c0,lo=some x/\la=some y/\l=some c0/\CD c0 (dx x)) (k6:(hi=none/\ua=none/\u=none)\/∃x y c0,hi=some x/\ua=some y/\u=some c0/\CD c0 (dx x))
  {v:C} (h5:OV aj l u (.slice cs n)=some v):∃a c,OQ (lo.map dx)=some a/\I4 n (hi.map dx)=some c/\a<=c/\c<=n/\v=.slice ((cs.drop (a * aj)).take ((c - a) * aj)) (c - a):=by
 simp only [OV,A1] at h5;obtain ⟨a,h6,c,h7,h8⟩:=h5;split at h8
 case isFalse=>cases h8
 rename_i hc;simp only [A0] at h8;exact ⟨a,c,Y8 k4 h6,acW k6 h7,hc.1,hc.2,h8.symm⟩
theorem apJ {aj:Nat} {x:X} {lo hi:Option X} (hd:aA call head (aX σ ρ.length sx kt (.slc aj x lo hi)) ρ=some r):Goal b ρ μ σ h k call head kt r sx dx (.slc aj x lo hi):=by
 simp only [aX] at hd;split at hd
 case h_2=>cases hd
 rename_i l u h1 h2;obtain ⟨c2,k3,k4⟩:=EK hx h1;obtain ⟨c3,k5,k6⟩:=EK hx h2;have hr:=hx x;have imm:∀{s:At} {c:C},dH ρ s=some c->CD c (dx x)->aA call head (.dG (.sub aj s l u) (kt (.a (.v ρ.length)) σ (ρ.length+1))) ρ=some r->Goal b ρ μ σ h k call head kt r sx dx (.slc aj x lo hi):=by
  intro s c g1 g2 hd;simp only [aA,dP,A1] at hd;obtain ⟨v,⟨u1,q1,u2,q2,u3,q3,h5⟩,hd⟩:=hd;rw [g1] at q1;rw [show LU ρ l=_ from k3] at q2
  rw [show LU ρ u=_ from k5] at q3
  injection q1 with q1;injection q2 with q2;injection q3 with q3;subst q1 q2 q3;cases c with
  |lit _=>simp [OV] at h5
  |slice cs n=>
   obtain ⟨a,e,e1,e2,e3,e4,rfl⟩:=aaA hm hx k4 k6 h5;refine ⟨_,[],?_,j6 hm hd⟩;rcases g2 with g2|⟨cs',n',g2,g3⟩
   ·simp only [step,dF,g2,Lt,Lr,e1,e2,A2,A4];rw [C6 ⟨e3,e4⟩];rfl
   ·injection g2 with g2 g2';subst g2 g2';simp only [step,dF,g3,Lt,Lr,e1,e2,A2,A4];rw [C6 ⟨e3,e4⟩];rfl
 split at hd
 ·rename_i s hs;rw [hs] at hr;obtain ⟨c,g1,g2⟩:=hr;exact imm g1 g2 hd
 ·rename_i s hs;rw [hs] at hr;obtain ⟨cs,n,g1,g2⟩:=hr;exact imm g1 (.inr ⟨cs,n,rfl,g2⟩) hd
 ·rename_i i hs;rw [hs] at hr;split at hd
  case h_2=>cases hd
  rename_i s e t fr al hg;split at hd
  case isFalse=>cases hd
  rename_i he;subst he;obtain ⟨cs,n,g1,g2,g3⟩:=hm.arr (N:=nm ρ μ σ) hg;simp only [aA,dP,A1] at hd;obtain ⟨v,⟨u1,q1,u2,q2,u3,q3,h5⟩,hd⟩:=hd;rw [show dH ρ s=_ from g1] at q1
  rw [show LU ρ l=_ from k3] at q2
  rw [show LU ρ u=_ from k5] at q3
  injection q1 with q1;injection q2 with q2;injection q3 with q3;subst q1 q2 q3;obtain ⟨a,c,e1,e2,e3,e4,rfl⟩:=aaA hm hx k4 k6 h5;obtain ⟨v1,v2⟩:=(hm.ext [.c (.slice ((cs.drop (a * e)).take ((c - a) * e)) (c - a))]).mark (i:=i) (x:=s) (aj:=e) (ety:=t) (fr:=fr) (al:=al) hg (h':=h) (.inl rfl);have hat:=at_new ρ (.slice ((cs.drop (a * e)).take ((c - a) * e)) (c - a)) [];have hlast:bX (((nm ρ μ σ).ext [.c (.slice ((cs.drop (a * e)).take ((c - a) * e)) (c - a))]).set i (.arr s e t true al)).hs i=.arr s e t true al:=by simp [Nm.set,bX]
  obtain ⟨hi',hr⟩:=hr;rcases hr with ⟨j,len,h3,h4,h6⟩|⟨h3,cs',n',h4,h6⟩
  ·obtain ⟨cs',h7⟩:=h6 _ _ _ _ _ hg;rw [g1] at h7;injection h7 with h7;injection h7 with h7 h8;subst h7 h8
   rcases g3 with ⟨j',fz,l1,l2,_⟩|⟨l1,_⟩
   ·rw [h3] at l1;injection l1 with l1;subst l1
    refine ⟨.arr j (0+a * e) (c - a),[],?_,BA (us:=[]) (ws:=[.c (.slice ((cs.drop (a * e)).take ((c - a) * e)) (c - a))]) hm ⟨rfl,rfl,rfl⟩ v2 ((lC _ _).trans v1) Wr.nil (sd:=.view i (.v ρ.length)) ?_ ?_⟩
    ·simp only [step,dF,h4,Lt,l2,e1,e2,A2,A4];rw [C6 ⟨trivial,e3,e4⟩];rfl
    ·refine ⟨hi',_,c - a,hat,.inr ⟨j,_,h3,rfl,fun y e' t' fr' al' hg'=>?_⟩⟩
     rw [hlast] at hg';injection hg' with x1 x2 x3 x4 x5;subst x1 x2 x3 x4 x5;refine ⟨rfl,cs,n,iF g1,?_,by rw [E4]⟩
     have:a * e+(c - a) * e=c * e:=by rw [<-Nat.add_mul];congr 1;omega
     rw [E4,this,g2];exact Cd _ e4
    ·rw [Ax];exact hd
   ·rw [h3] at l1;cases l1
  ·have h7:=h6 _ _ _ _ _ hg;rw [g1] at h7;injection h7 with h7;injection h7 with h7 h8;subst h7 h8
   refine ⟨.c (.slice ((cs.drop (a * e)).take ((c - a) * e)) (c - a)),[],?_,BA (us:=[]) (ws:=[.c (.slice ((cs.drop (a * e)).take ((c - a) * e)) (c - a))]) hm ⟨rfl,rfl,rfl⟩ v2 ((lC _ _).trans v1) Wr.nil (sd:=.view i (.v ρ.length)) ?_ ?_⟩
   ·simp only [step,dF,h4,Lt,Lr,e1,e2,A2,A4];rw [C6 ⟨e3,e4⟩];rfl
   ·exact ⟨hi',_,c - a,hat,.inl rfl⟩
   ·rw [Ax];exact hd
 ·cases hd
theorem alQ {aj:Nat} {x:X} {lo:Option X} {hi mx:X} (hd:aA call head (aX σ ρ.length sx kt (.clip aj x lo hi mx)) ρ=some r):Goal b ρ μ σ h k call head kt r sx dx (.clip aj x lo hi mx):=by
 simp only [aX] at hd;split at hd
 case h_2=>cases hd
 rename_i s ss l u m h1 h2 h3 h4;obtain ⟨n1,n2⟩:=Tc h1;obtain ⟨c0,us,k1,k2,k3,k4,k5⟩:=L9 hm ((hx x).c n1 n2) h1;obtain ⟨c1,k6,k7⟩:=EK hx h2;obtain ⟨c2,k8,k9⟩:=jW (hx hi) h3;obtain ⟨c3,l1,l2⟩:=jW (hx mx) h4;simp only [aA,dP,A1] at hd;obtain ⟨v,⟨u0,q0,u1,q1,u2,q2,u3,q3,h5⟩,hd⟩:=hd;rw [show dH ρ s=_ from k2] at q0
 rw [show LU ρ l=_ from k6] at q1
 rw [show dH ρ u=_ from k8] at q2
 rw [show dH ρ m=_ from l1] at q3
 injection q0 with q0;injection q1 with q1;injection q2 with q2;injection q3 with q3;subst q0 q1 q2 q3;unfold adn at h5;split at h5
 case h_2=>cases h5
 rename_i ka a kb c;split at h5
 case isFalse=>cases h5
 rename_i hac;subst hac;cases c0 with
 |lit _=>simp [OV] at h5
 |slice cs n=>
  simp only [OV,A1] at h5;obtain ⟨p,h6,q,h7,h8⟩:=h5;split at h8
  case isFalse=>cases h8
  rename_i hc;simp only [A0] at h8;subst h8;have e1:=Y8 (dx:=dx) k7 h6;have e2:I4 n (some (dx hi))=some q:=by simp only [I4,k9.lit,asInt,A2,A4];exact h7
  refine ⟨.full ((cs.drop (p * aj)).take ((q - p) * aj)) (q - p),us,?_,BA (ws:=[.c (.slice ((cs.drop (p * aj)).take ((q - p) * aj)) (q - p))]) hm ⟨rfl,rfl,rfl⟩ (k4.ext _) (k3.trans (lC _ _)) ?_ (sd:=.full (.v ρ.length)) ⟨_,_,at_new ρ _ [],rfl⟩ ?_⟩
  ·simp only [step,Qy,k9.lit,l2.lit,asInt,k1,Lr,e1,A2,A4];rw [show I4 n (some (D.c (.lit (.int ka a))))=some q by rw [<-k9.lit];exact e2]
   simp only [A4];rw [C6 hc];simp
  ·refine k5.mono fun i hi=>?_
   simp only [iL];rw [MI n1];exact hi
  ·rw [Ax];exact hd
theorem am9 {aj:Nat} {x i:X} (hd:aA call head (aX σ ρ.length sx kt (.Gt aj x i)) ρ=some r):Goal b ρ μ σ h k call head kt r sx dx (.Gt aj x i):=by
 simp only [aX] at hd;split at hd
 case h_2=>cases hd
 rename_i a h1;obtain ⟨c1,k1,k2⟩:=jW (hx i) h1;have hr:=hx x;have imm:∀{s:At} {c:C},dH ρ s=some c->CD c (dx x)->aA call head (.row aj s a (kt (.ptr ρ.length 0 aj) (σ.len ρ.length aj) (ρ.length+1))) ρ=some r->Goal b ρ μ σ h k call head kt r sx dx (.Gt aj x i):=by
  intro s c g1 g2 hd;simp only [aA,A1] at hd;obtain ⟨xs,⟨u1,q1,u2,q2,h5⟩,hd⟩:=hd;rw [g1] at q1;rw [show dH ρ a=_ from k1] at q2
  injection q1 with q1;injection q2 with q2;subst q1 q2;obtain ⟨cs,n,kd,q,rfl,rfl,e3,e4,e5,e6,e7⟩:=JG h5;refine ⟨.ptr (cs.drop (q.toNat * aj)),[],?_,Ah hm e7 (sd:=.ptr ρ.length 0 aj) ⟨xs,(cs.drop (q.toNat * aj)).drop aj,mJ ρ _ [],e7,?_⟩ hd⟩
  ·rcases g2 with g2|⟨cs',n',g2,g3⟩
   ·simp only [step,dF,g2,CP,k2.lit,asInt,A2,A4];rw [C6 ⟨e3,e4⟩];rfl
   ·injection g2 with g2 g2';subst g2 g2';simp only [step,dF,g3,CP,k2.lit,asInt,A2,A4];rw [C6 ⟨e3,e4⟩];rfl
  ·rw [e6,Iv];rfl
 split at hd
 ·rename_i s hs;rw [hs] at hr;obtain ⟨c,g1,g2⟩:=hr;exact imm g1 g2 hd
 ·rename_i s hs;rw [hs] at hr;obtain ⟨cs,n,g1,g2⟩:=hr;exact imm g1 (.inr ⟨cs,n,rfl,g2⟩) hd
 ·rename_i p hs;rw [hs] at hr;split at hd
  case h_2=>cases hd
  rename_i s e t fr al hg;split at hd
  case isFalse=>cases hd
  rename_i he;subst he;obtain ⟨cs,n,g1,g2,g3⟩:=hm.arr (N:=nm ρ μ σ) hg;simp only [aA,A1] at hd;obtain ⟨xs,⟨u1,q1,u2,q2,h5⟩,hd⟩:=hd;rw [show dH ρ s=_ from g1] at q1
  rw [show dH ρ a=_ from k1] at q2
  injection q1 with q1;injection q2 with q2;subst q1 q2;obtain ⟨cs',n',kd,q,e1,rfl,e3,e4,e5,e6,e7⟩:=JG h5;injection e1 with e1 Mi;subst e1 Mi;obtain ⟨hi',hr⟩:=hr;rcases hr with ⟨j,len,h3,h4,h6⟩|⟨h3,cs',n',h4,h6⟩
  ·obtain ⟨cs',h7⟩:=h6 _ _ _ _ _ hg;rw [g1] at h7;injection h7 with h7;injection h7 with h7 h8;subst h7 h8
   rcases g3 with ⟨j',fz,l1,l2,_⟩|⟨l1,_⟩
   ·rw [h3] at l1;injection l1 with l1;subst l1
    refine ⟨.loc j (0+q.toNat * e),[],?_,Ah hm e7 (sd:=.nK p a 0) ⟨hi',kd,q,iF k1,e3,.inl ⟨j,_,h3,rfl,fun y e' t' fr' al' hg'=>?_⟩⟩ hd⟩
    ·simp only [step,dF,h4,CP,l2,k2.lit,asInt,A2,A4];rw [C6 ⟨e3,e4⟩];rfl
    ·rw [show bX (nm (ρ++[.l xs]) μ σ).hs p=_ from hg] at hg'
     injection hg' with _ x2;subst x2;omega
   ·rw [h3] at l1;cases l1
  ·have h7:=h6 _ _ _ _ _ hg;rw [g1] at h7;injection h7 with h7;injection h7 with h7 h8;subst h7 h8
   refine ⟨.ptr (cs.drop (q.toNat * e)),[],?_,Ah hm e7 (sd:=.nK p a 0) ⟨hi',kd,q,iF k1,e3,.inr ⟨h3,_,rfl,fun y e' t' fr' al' hg'=>?_⟩⟩ hd⟩
   ·simp only [step,dF,h4,CP,k2.lit,asInt,A2,A4];rw [C6 ⟨e3,e4⟩];rfl
   ·rw [show bX (nm (ρ++[.l xs]) μ σ).hs p=_ from hg] at hg'
    injection hg' with x1 x2;subst x1 x2;exact ⟨cs,n,iF g1,rfl⟩
 ·cases hd
omit hx in
theorem Pt {cs:List C} {n aj ety:Nat} {ss:List (Nat×SO)} (hm1:Rm b ((nm ρ μ σ).upd ss) h k σ.lens) (hv1:j4 (nm ρ μ σ) ((nm ρ μ σ).upd ss)) (hl:cs.length=n * aj) {fr:Bool} (hf:fr=false->cs=[]/\n=0)
  (hd:aA call head (kt (.arr σ.nx) ((σ.upd ss).new (.arr (.v ρ.length) aj ety fr false)) (ρ.length+1)) (ρ++[.c (.slice cs n)])=some r):
  FQ b ρ μ σ h k call head kt r ZV (.full cs n) []:=by
 have hN:(((nm ρ μ σ).upd ss).ext [.c (.slice cs n)]).nx=σ.nx/\(((nm ρ μ σ).upd ss).ext [.c (.slice cs n)]).μ=μ/\(((nm ρ μ σ).upd ss).ext [.c (.slice cs n)]).ρ=ρ++[.c (.slice cs n)]:=⟨rfl,rfl,rfl⟩;have hat:dH (ρ++[.c (.slice cs n)]) (.v ρ.length)=some (.slice cs n):=at_new ρ _ [];refine Io (us:=[]) hm hN (hm1.ext _) (hv1.trans (lC _ _)) Wr.nil (j:=none) (o:=.arr (.v ρ.length) aj ety fr false) (vs:=[]) (.inl ⟨rfl,rfl⟩) (fun hv=>?_) (sd:=.arr σ.nx) ?_ (by rw [Ax];exact hd)
 ·exact ⟨cs,n,hat,hl,.inr ⟨wD _ _ _,rfl,hf⟩⟩
 ·refine ⟨K0 _,.inr ⟨wD _ _ _,cs,n,rfl,fun x e t f a hg=>?_⟩⟩
  have:bX ((((nm ρ μ σ).upd ss).ext [.c (.slice cs n)]).new none (.arr (.v ρ.length) aj ety fr false)).hs σ.nx=_:=RG _ _ _
  rw [this] at hg;injection hg with hg;subst hg;exact hat
theorem ap3 {aj ety bytes:Nat} {x y:X} (hd:aA call head (aX σ ρ.length sx kt (.app aj ety bytes x y)) ρ=some r):Goal b ρ μ σ h k call head kt r sx dx (.app aj ety bytes x y):=by
 simp only [aX] at hd;split at hd
 case h_2=>cases hd
 rename_i t h1;obtain ⟨n1,n2⟩:=NR h1;obtain ⟨c1,k1,k2⟩:=Ki hm ((hx y).c n1 n2) h1;have hr:=hx x;split at hd
 ·rename_i s hs;rw [hs] at hr;obtain ⟨cs,n,g1,g2⟩:=hr;simp only [aA,dP,A1] at hd;obtain ⟨v,⟨u1,q1,u2,q2,h5⟩,hd⟩:=hd;rw [show dH ρ s=_ from g1] at q1
  rw [show dH ρ t=_ from k1] at q2
  injection q1 with q1;injection q2 with q2;subst q1 q2;simp only [Fq,A1] at h5;obtain ⟨⟨zs,m⟩,h6,h7⟩:=h5;split at h7
  case isFalse=>cases h7
  rename_i hc;simp only [A0] at h7;subst h7;have e1:=k2 _ h6;simp only at hc;have hlen:(cs++zs).length=(n+m) * aj:=by rw [Ax,hc.1,hc.2.1,Mu];
  by_cases hz:m=0
  ·subst hz;have hzs:zs=[]:=Cp (by rw [hc.1];omega)
   subst hzs;rw [Cl,Hx] at hd hlen;refine ⟨.full cs n,[],?_,Pt (ss:=[]) hm hm (j4.refl _) hlen (fun hf=>?_) hd⟩
   ·simp only [step,g2,Kw,e1,A2,A4];rw [C6 hc];simp
   ·cases s with
    |z=>simp only [dH,A0,C.slice.injEq] at g1;exact ⟨g1.1.symm,g1.2.symm⟩
    |_=>simp [isZ] at hf
  ·refine ⟨.arr k 0 (n+m),[(k,.arr (cs++zs) aj 0 ety)],?_,Ic (us:=[]) (ss:=[]) hm hm (j4.refl _) Wr.nil hlen hc.2.2.2.1 hd⟩;simp only [step,g2,Kw,e1,A2,A4];rw [C6 hc,E0 hz]
 ·rename_i i hs;rw [hs] at hr;split at hd
  case h_2=>cases hd
  rename_i s e t' fr al hg;split at hd
  case isFalse=>cases hd
  rename_i he;obtain ⟨rfl,rfl⟩:=he;obtain ⟨cs,n,g1,g2,g3⟩:=hm.arr (N:=nm ρ μ σ) hg;simp only [aA,dP,A1] at hd;obtain ⟨v,⟨u1,q1,u2,q2,h5⟩,hd⟩:=hd;rw [show dH ρ s=_ from g1] at q1
  rw [show dH ρ t=_ from k1] at q2
  injection q1 with q1;injection q2 with q2;subst q1 q2;simp only [Fq,A1] at h5;obtain ⟨⟨zs,m⟩,h6,h7⟩:=h5;split at h7
  case isFalse=>cases h7
  rename_i hc;simp only [A0] at h7;subst h7;have e1:=k2 _ h6;simp only at hc;have hlen:(cs++zs).length=(n+m) * e:=by rw [Ax,hc.1,hc.2.1,Mu]
  obtain ⟨hi',hr⟩:=hr;rcases hr with ⟨j,len,h3,h4,h8⟩|⟨h3,cs',n',h4,h8⟩
  ·obtain ⟨cs',h9⟩:=h8 _ _ _ _ _ hg;rw [g1] at h9;injection h9 with h9;injection h9 with h9 h10;subst h9 h10
   rcases g3 with ⟨j',fz,l1,l2,l3,l4,l5⟩|⟨l1,_⟩
   ·rw [h3] at l1;injection l1 with l1;subst l1
    have hat:dH (ρ++[.c (.slice (cs++zs) (n+m))]) (.v ρ.length)=some (.slice (cs++zs) (n+m)):=at_new ρ _ [];obtain ⟨v1,v2⟩:=(hm.ext [.c (.slice (cs++zs) (n+m))]).set (i:=i) hi' (o':=.dead) (h':=(j,.dead)::h)
     (fun p hp=>by have:j≠p:=fun e=>hp (e▸h3);simp [ax,this]) (fun _ _ _ _ _ e=>by cases e) (fun _=>trivial)
    have hN:((((nm ρ μ σ).ext [.c (.slice (cs++zs) (n+m))]).set i .dead)).nx=σ.nx/\((((nm ρ μ σ).ext [.c (.slice (cs++zs) (n+m))]).set i .dead)).μ=μ/\((((nm ρ μ σ).ext [.c (.slice (cs++zs) (n+m))]).set i .dead)).ρ=ρ++[.c (.slice (cs++zs) (n+m))]:=⟨rfl,rfl,rfl⟩;refine ⟨.arr k 0 (n+m),[(j,.dead)]++[(k,.arr (cs.take (n * e)++zs) e fz t')],?_,Io (us:=[(j,.dead)]) hm hN v2 ((lC _ _).trans v1) ?_ (j:=some k) (o:=.arr (.v ρ.length) e t' fr al) (.inr ⟨_,rfl,rfl⟩) (fun hv=>?_) (sd:=.arr σ.nx) ?_ ?_⟩
    ·simp only [step,h4,Kw,l2,e1,A2,A4];rw [C6 ⟨hc.1,hc.2.2.1,hc.2.2.2.1,hc.2.2.2.2,trivial,trivial,trivial,by omega,by omega⟩];rfl
    ·intro p hp;simp only [D4,Kx,B8] at hp;subst hp;exact ⟨i,by simp [iL,hs,yg,Td],hi',h3⟩
    ·have htk:cs.take (n * e)=cs:=by rw [<-g2];simp
     refine ⟨cs++zs,n+m,hat,hlen,.inl ⟨k,fz,wD _ _ _,by simp [ay,ax,htk],l3,by rw [Ax];omega,l5⟩⟩
    ·refine ⟨K0 _,.inl ⟨k,n+m,wD _ _ _,rfl,fun x e' t f a hg'=>?_⟩⟩
     have:bX ((((nm ρ μ σ).ext [.c (.slice (cs++zs) (n+m))]).set i .dead).new (some k) (.arr (.v ρ.length) e t' fr al)).hs σ.nx=_:=RG _ _ _
     rw [this] at hg';injection hg' with hg';subst hg';exact ⟨_,hat⟩
    ·rw [Ax];exact hd
   ·rw [h3] at l1;cases l1
  ·have h9:=h8 _ _ _ _ _ hg;rw [g1] at h9;injection h9 with h9;injection h9 with h9 h10;subst h9 h10
   rcases g3 with ⟨j',fz,l1,_⟩|⟨l1,l2,l3⟩
   ·rw [h3] at l1;cases l1
   ·subst l2;obtain ⟨v1,v2⟩:=hm.set (i:=i) hi' (o':=.dead) (h':=h) (fun p hp=>rfl) (fun _ _ _ _ _ e=>by cases e) (fun _=>trivial)
    by_cases hz:m=0
    ·subst hz;have hzs:zs=[]:=Cp (by rw [hc.1];omega)
     subst hzs;rw [Cl,Hx] at hd hlen;refine ⟨.full cs n,[],?_,Pt (ss:=[(i,.dead)]) hm v2 v1 hlen l3 hd⟩;simp only [step,h4,Kw,e1,A2,A4];rw [C6 hc];simp
    ·refine ⟨.arr k 0 (n+m),[(k,.arr (cs++zs) e 0 t')],?_,Ic (us:=[]) (ss:=[(i,.dead)]) hm v2 v1 Wr.nil hlen hc.2.2.2.1 hd⟩;simp only [step,h4,Kw,e1,A2,A4];rw [C6 hc,E0 hz]
 ·cases hd
theorem aps {aj:Nat} {x y:X} (hd:aA call head (aX σ ρ.length sx kt (.Tf aj x y)) ρ=some r):Goal b ρ μ σ h k call head kt r sx dx (.Tf aj x y):=by
 simp only [aX] at hd;split at hd
 case h_2=>cases hd
 rename_i t i h1 hs;obtain ⟨n1,n2⟩:=NR h1;obtain ⟨c1,k1,k2⟩:=Ki hm ((hx y).c n1 n2) h1;have hr:=hx x;rw [hs] at hr;split at hd
 case h_2=>cases hd
 rename_i s e ety hg;split at hd
 case isFalse=>cases hd
 rename_i he;subst he;obtain ⟨cs,n,g1,g2,g3⟩:=hm.arr (N:=nm ρ μ σ) hg;simp only [aA,dP,A1] at hd;obtain ⟨v,⟨u1,q1,u2,q2,h5⟩,w,⟨u3,q3,u4,q4,h6⟩,hd⟩:=hd;rw [show dH ρ s=_ from g1] at q1
 rw [show dH ρ t=_ from k1] at q2
 rw [show dH (ρ++[.c v]) s=_ from iF g1] at q3
 rw [show dH (ρ++[.c v]) t=_ from iF k1] at q4
 injection q1 with q1;injection q2 with q2;injection q3 with q3;injection q4 with q4;subst q1 q2 q3 q4;simp only [aqs,A1] at h5;obtain ⟨⟨zs,m⟩,h7,h8⟩:=h5;split at h8
 case isFalse=>cases h8
 rename_i hc;simp only [A0] at h8;simp only [an3,h7,A4,A0] at h6;subst h6;have e1:=k2 _ h7;simp only at hc h8;obtain ⟨hi',hr⟩:=hr;have g3':∃j fz,μ i=some j/\ax h j=.arr cs e fz ety/\0 < e/\fz<=cs.length/\(false=false->fz=0):=by
  rcases g3 with g3|⟨_,l2,_⟩
  ·exact g3
  ·cases l2
 obtain ⟨j,fz,l1,l2,l3,l4,l5⟩:=g3';have hz:=l5 rfl;subst hz;have hr':∃len,dx x=.arr j 0 len/\len=n:=by
  rcases hr with ⟨j',len,h3,h4,h9⟩|⟨h3,_⟩
  ·obtain ⟨cs',h10⟩:=h9 _ _ _ _ _ hg;rw [g1] at h10;injection h10 with h10;injection h10 with h10 h11
   rw [show μ i=_ from h3] at l1;injection l1 with l1;subst l1
   exact ⟨len,h4,h11.symm⟩
  ·rw [show μ i=_ from h3] at l1;cases l1
 obtain ⟨_,h4,rfl⟩:=hr';rename_i len;have ahs:(splice cs 0 (zs.take (min m len * e))).length=len * e:=by
  unfold splice;have:min m len * e<=len * e:=Cd _ (by omega)
  simp only [Ax,Fo,Ft];omega
 subst h8;have hat:dH (ρ++[.c (.slice (splice cs 0 (zs.take (min m len * e))) len)]) (.v ρ.length)=some (.slice (splice cs 0 (zs.take (min m len * e))) len):=at_new ρ _ [];have apo:dH (ρ++[.c (.slice (splice cs 0 (zs.take (min m len * e))) len),.c (Ec ((min m len:Nat):Int))]) (.v ρ.length)=some (.slice (splice cs 0 (zs.take (min m len * e))) len):=at_new ρ _ _;obtain ⟨v1,v2⟩:=(hm.ext [.c (.slice (splice cs 0 (zs.take (min m len * e))) len),.c (Ec ((min m len:Nat):Int))]).set (i:=i) hi' (o':=.arr (.v ρ.length) e ety false true) (h':=(j,.arr (splice cs 0 (zs.take (min m len * e))) e 0 ety)::h)
  (fun p hp=>by have:j≠p:=fun e=>hp (e▸l1);simp [ax,this])
  (fun y' e' t' fr' al' he=>by
   injection he with x1 x2 x3 x4 x5;subst x1 x2 x3 x4 x5;refine ⟨s,false,true,hg,fun h=>h,fun cs' n' hc'=>⟨splice cs 0 (zs.take (min m len * e)),?_,fun hor=>?_⟩⟩
   ·have h9:dH (ρ++[.c (.slice (splice cs 0 (zs.take (min m len * e))) len),.c (Ec ((min m len:Nat):Int))]) s=some (.slice cs len):=iF g1;have h10:dH (ρ++[.c (.slice (splice cs 0 (zs.take (min m len * e))) len),.c (Ec ((min m len:Nat):Int))]) s=some (.slice cs' n'):=hc';rw [h9] at h10;injection h10 with h10;injection h10 with _ h10;subst h10;exact apo
   ·rcases hor with hor|hor
    ·cases hor
    ·have afi:μ i=none:=hor;rw [l1] at afi;cases afi)
  (fun hv=>⟨_,len,apo,ahs,.inl ⟨j,0,l1,by simp [ax],l3,Fl _,fun _=>rfl⟩⟩)
 refine ⟨JQ (min m len:Nat),[(j,.arr (splice cs 0 (zs.take (min m len * e))) e 0 ety)],?_,BA (ws:=[.c (.slice (splice cs 0 (zs.take (min m len * e))) len),.c (Ec ((min m len:Nat):Int))]) hm ⟨rfl,rfl,rfl⟩ v2 ((lC _ _).trans v1) ?_ (sd:=.a (.v (ρ.length+1))) ?_ ?_⟩
 ·simp only [step,h4,Vw,l2,e1,A2,A4];rw [C6 ⟨hc.1,trivial,An _,by rw [g2,E4];exact An _⟩]
 ·intro p hp;simp only [D4,Kx,B8] at hp;subst hp;exact ⟨i,by simp [iL,hs,yg,Td],hi',l1⟩
 ·refine ⟨Ec ((min m len:Nat):Int),?_,.inl rfl⟩;have:=at_new (ρ++[.c (.slice (splice cs 0 (zs.take (min m len * e))) len)]) (Ec ((min m len:Nat):Int)) []
  rw [Ax,B9] at this;exact this
 ·rw [B9] at hd;rw [Ax];exact hd
end
end Go.Ey
