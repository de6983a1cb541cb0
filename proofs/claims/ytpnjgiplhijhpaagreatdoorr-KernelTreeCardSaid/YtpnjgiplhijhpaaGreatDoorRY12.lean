/- A part. -/
import Derived.Test.YtpnjgiplhijhpaaGreatDoorRY08
set_option linter.all false
namespace Go.Ey
section
variable {b:Bs} {ρ:List W} {μ:Nat->Option Nat} {σ:Sy} {h:Heap} {k:Nat} {call:uL} {head:wu} {kt:SD->Sy->Nat->Tree} {r:R} {sx:X->SD} {dx:X->D} {LJ:List Nat}
theorem QI {cs:List C} {q aa off m:Nat} (hl:off+m<=aa):(cs.drop (q * aa+off)).take m=(((cs.drop (q * aa)).take aa).drop off).take m:=by rw [List.drop_take,List.take_take,List.drop_drop];congr 1;omega
theorem wX {aa:Nat} {c x:C} {xs:List C} (h:tO aa c x=some xs):∃cs n kd q,c=.slice cs n/\x=.lit (.int kd q)/\0<=q/\q < n/\(q.toNat+1) * aa<=cs.length/\xs=(cs.drop (q.toNat * aa)).take aa/\xs.length=aa:=by
 unfold tO at h;split at h
 ·rename_i cs n kd q;split at h
  ·rename_i hc;simp only [Option.some.injEq] at h;refine ⟨cs,n,kd,q,rfl,rfl,hc.1,hc.2.1,hc.2.2,h.symm,?_⟩;rw [<-h,List.length_take,List.length_drop];have:=hc.2.2
   rw [Nat.succ_mul] at this;omega
  ·cases h
 ·cases h
theorem Gt {cs:List C} {q aa off:Nat} (hl:off < aa) (hc:(q+1) * aa<=cs.length):cs[q * aa+off]?=some (bG ((cs.drop (q * aa)).take aa) off):=by
 have h1:q * aa+off < cs.length:=by rw [Nat.succ_mul] at hc;omega
 have h2:off < ((cs.drop (q * aa)).take aa).length:=by rw [List.length_take,List.length_drop,Nat.succ_mul] at *;omega
 rw [kM _ _ h2,List.getElem?_eq_getElem h1];simp
variable (hm:Rm b (nm ρ μ σ) h k σ.lens) (hx:∀x,RD (nm ρ μ σ) (sx x) (dx x))
include hm hx
theorem Wv {agg:Bool} {size:Nat} {x:X} (hd:az call head (ay σ ρ.length sx kt (.load agg size x)) ρ=some r):Goal b ρ μ σ h k call head kt r sx dx (.load agg size x):=by
 simp only [ay] at hd;have hr:=hx x;split at hd
 ·rename_i i off hs;rw [hs] at hr;obtain ⟨hi,j,h1,h2⟩:=hr;split at hd
  case h_2=>cases hd
  rename_i ds hg;obtain ⟨j',ds',g1,g2,g3⟩:=hm.box (N:=nm ρ μ σ) hg;rw [h1] at g1;injection g1 with g1;subst g1
  split at hd
  ·split at hd
   case isFalse=>cases hd
   rename_i hc;exact ⟨_,[],by simp only [step,h2,dG,g2,if_true];rw [if_pos (by rw [<-g3.len];exact hc)];rfl,bq hm (sd:=.agg ((ds.drop off).take size)) ⟨_,rfl,(g3.drop off).take size⟩ hd⟩
  ·split at hd
   case h_2=>cases hd
   rename_i d hd';obtain ⟨d',k1,k2⟩:=g3.get off hd';exact ⟨d',[],by simp [step,h2,dG,g2,aH,k1],bq hm k2.fM hd⟩
 ·rename_i q off aa hs;rw [hs] at hr;obtain ⟨xs,rest,h1,h2,h3⟩:=hr;subst h2;split at hd
  ·split at hd
   case isFalse=>cases hd
   rename_i hc;refine ⟨.agg ((((xs++rest).drop off).take size).map .c),[],?_,bq hm (sd:=.agg ((nk q off size).map .a)) ?_ hd⟩
   ·simp only [step,h3,dG,if_true];rw [if_pos (by rw [List.length_drop,List.length_append];omega)];rfl
   ·refine ⟨_,rfl,?_⟩;have h4:((xs++rest).drop off).take size=(xs.drop off).take size:=by
     rw [List.drop_append_of_le_length (by omega),List.take_append_of_le_length (by rw [List.length_drop];omega)]
    rw [h4];exact y7 h1 size off hc
  ·split at hd
   case isFalse=>cases hd
   rename_i hc;refine ⟨.c xs[off],[],?_,bq hm (sd:=.a (.n q off)) ⟨_,by simp only [aV,show eu (nm ρ μ σ).ρ q=_ from h1,kM xs off hc],.inl rfl⟩ hd⟩
   simp only [step,h3,dG,aH,Bool.false_eq_true,if_false,List.getElem?_drop,Nat.add_zero];rw [List.getElem?_append_left hc,List.getElem?_eq_getElem hc];rfl
 ·rename_i i y off hs;rw [hs] at hr;obtain ⟨hi,kd,q,h1,h2,h3⟩:=hr;split at hd
  case h_2=>cases hd
  rename_i s aa ety fr al hg;obtain ⟨cs,n,g1,g2,g3⟩:=hm.arr (N:=nm ρ μ σ) hg;have main:∀{t:Tree},(∀xs,az call head (.row aa s y t) ρ=some r->xs=(cs.drop (q.toNat * aa)).take aa->(q.toNat+1) * aa<=cs.length->xs.length=aa->az call head t (ρ++[.l xs])=some r->Goal b ρ μ σ h k call head kt r sx dx (.load agg size x))->az call head (.row aa s y t) ρ=some r->Goal b ρ μ σ h k call head kt r sx dx (.load agg size x):=by
   intro t ht hd;have hd0:=hd;simp only [az,Option.bind_eq_some_iff] at hd;obtain ⟨xs,⟨c1,q1,c2,q2,q3⟩,hd⟩:=hd;rw [show aV ρ s=_ from g1] at q1
   rw [show aV ρ y=_ from h1] at q2
   injection q1 with q1;injection q2 with q2;subst q1 q2;obtain ⟨cs',n',kd',q',e1,e2,e3,e4,e5,e6,e7⟩:=wX q3;injection e1 with e1 yY;injection e2 with e2;injection e2 with e2 e2';subst e1 yY e2 e2';exact ht xs hd0 e6 e5 e7 hd
  split at hd
  ·split at hd
   case isFalse=>cases hd
   rename_i hc;refine main (fun xs _ e5 e6 e7 hd=>?_) hd
   have hw:eu (nm (ρ++[.l xs]) μ σ).ρ ρ.length=some (.l xs):=by simp [nm,gD]
   have hn:=y7 hw size off (by omega)
   have hrow:(cs.drop (q.toNat * aa+off)).take size=(xs.drop off).take size:=by rw [QI hc,e5]
   have hlen:q.toNat * aa+off+size<=cs.length:=by rw [Nat.succ_mul] at e6;omega
   rcases h3 with ⟨j,o,k1,k2,k3⟩|⟨k1,zs,k2,k3⟩
   ·rcases g3 with ⟨j',fz,l1,l2,_⟩|⟨l1,_⟩
    ·rw [k1] at l1;injection l1 with l1;subst l1
     have ho:=k3 _ _ _ _ _ hg;subst ho;refine ⟨.agg (((cs.drop (q.toNat * aa+off)).take size).map .c),[],?_,kW hm e7 (sd:=.agg ((nk ρ.length off size).map .a)) ⟨_,rfl,by rw [hrow];exact hn⟩ hd⟩
     simp only [step,k2,dG,l2,if_true];rw [if_pos hlen];rfl
    ·rw [k1] at l1;cases l1
   ·obtain ⟨ys,n',l1,l2⟩:=k3 _ _ _ _ _ hg;rw [g1] at l1;injection l1 with l1;injection l1 with l1 l1';subst l1 l1'
    subst l2;refine ⟨.agg (((cs.drop (q.toNat * aa+off)).take size).map .c),[],?_,kW hm e7 (sd:=.agg ((nk ρ.length off size).map .a)) ⟨_,rfl,by rw [hrow];exact hn⟩ hd⟩
    simp only [step,k2,dG,if_true];rw [if_pos (by rw [List.length_drop];omega)];rfl
  ·split at hd
   case isFalse=>cases hd
   rename_i hc;refine main (fun xs _ e5 e6 e7 hd=>?_) hd
   have hw:eu (nm (ρ++[.l xs]) μ σ).ρ ρ.length=some (.l xs):=by simp [nm,gD]
   have hget:=Gt hc e6;rw [<-e5] at hget;have hra:jo (nm (ρ++[.l xs]) μ σ) (.a (.n ρ.length off)) (.c (bG xs off)):=⟨_,by simp only [aV,hw],.inl rfl⟩
   rcases h3 with ⟨j,o,k1,k2,k3⟩|⟨k1,zs,k2,k3⟩
   ·rcases g3 with ⟨j',fz,l1,l2,_⟩|⟨l1,_⟩
    ·rw [k1] at l1;injection l1 with l1;subst l1
     have ho:=k3 _ _ _ _ _ hg;subst ho;refine ⟨.c (bG xs off),[],?_,kW hm e7 hra.fM hd⟩;simp only [step,k2,dG,l2,Bool.false_eq_true,if_false,hget,aH];rfl
    ·rw [k1] at l1;cases l1
   ·obtain ⟨ys,n',l1,l2⟩:=k3 _ _ _ _ _ hg;rw [g1] at l1;injection l1 with l1;injection l1 with l1 l1';subst l1 l1'
    subst l2;refine ⟨.c (bG xs off),[],?_,kW hm e7 hra.fM hd⟩;simp only [step,k2,dG,Bool.false_eq_true,if_false,List.getElem?_drop,Nat.add_zero,hget,aH];rfl
 ·cases hd
omit hx in
theorem nE {ws:List W} {us:List (Nat×Obj)} {N1:Nm} (hN:N1.nx=σ.nx/\N1.μ=μ/\N1.ρ=ρ++ws) (hm1:Rm b N1 (ah h us) k σ.lens) (hv1:fG (nm ρ μ σ) N1) (hw:Wr (nm ρ μ σ) us LJ)
  {sd:SD} {d:D} (hr:RD N1 sd d) (hd:az call head (kt sd ⟨σ.env,N1.hs,σ.nx,σ.lens⟩ (ρ++ws).length) (ρ++ws)=some r):rz b ρ μ σ h k call head kt r LJ d us:=by
 obtain ⟨n1,n2,n3⟩:=hN;have e:N1=nm (ρ++ws) μ ⟨σ.env,N1.hs,σ.nx,σ.lens⟩:=by cases N1;simp only [nm] at *;simp [n1,n2,n3]
 refine ⟨ws,μ,⟨σ.env,N1.hs,σ.nx,σ.lens⟩,sd,rfl,?_,?_,?_,hd,fun q hq=>?_⟩
 ·rw [<-e];exact hv1
 ·rw [<-e];exact hm1.tick (Nat.le_succ k)
 ·rw [<-e];exact hr
 ·obtain ⟨i,h1,hlt,h2⟩:=hw q hq;exact ⟨i,qV (.inl h1),hlt,h2⟩
omit hx in
theorem vV {ws:List W} {us:List (Nat×Obj)} {N1:Nm} (hN:N1.nx=σ.nx/\N1.μ=μ/\N1.ρ=ρ++ws) (hm1:Rm b N1 (ah h us) k σ.lens) (hv1:fG (nm ρ μ σ) N1) (hw:Wr (nm ρ μ σ) us LJ)
  {j:Option Nat} {o:SO} {vs:List (Nat×Obj)} (hj:(j=none/\vs=[])\/∃O,j=some k/\vs=[(k,O)]) (jh:fG N1 (N1.new j o)->Du (N1.new j o) (ah (ah h us) vs) σ.nx o)
  {sd:SD} {d:D} (hr:RD (N1.new j o) sd d) (hd:az call head (kt sd ⟨σ.env,(σ.nx,o)::N1.hs,σ.nx+1,σ.lens⟩ (ρ++ws).length) (ρ++ws)=some r):
  rz b ρ μ σ h k call head kt r LJ d (us++vs):=by
 obtain ⟨n1,n2,n3⟩:=hN;have hoth:∀q,q≠k->af (ah (ah h us) vs) q=af (ah h us) q:=by
  intro q hq;rcases hj with ⟨_,rfl⟩|⟨O,_,rfl⟩
  ·rfl
  ·simp [ah,af,Ne.symm hq]
 obtain ⟨v1,v2⟩:=hm1.new (j:=j) (o:=o) (h':=ah (ah h us) vs) (by rcases hj with ⟨h,_⟩|⟨O,h,_⟩<;>simp [h]) hoth (by rw [n1];exact jh)
 have e:N1.new j o=nm (ρ++ws) (N1.new j o).μ ⟨σ.env,(σ.nx,o)::N1.hs,σ.nx+1,σ.lens⟩:=by simp only [Nm.new,nm,n1,n3]
 refine ⟨ws,(N1.new j o).μ,⟨σ.env,(σ.nx,o)::N1.hs,σ.nx+1,σ.lens⟩,sd,rfl,?_,?_,?_,hd,?_⟩
 ·rw [<-e];exact hv1.trans v1
 ·rw [<-e,dz];exact v2
 ·rw [<-e];exact hr
 ·intro q hq;rw [List.map_append,List.mem_append] at hq;rcases hq with hq|hq
  ·obtain ⟨i,h1,hlt,h2⟩:=hw q hq;have hlt':i < σ.nx:=hlt;refine ⟨i,qV (.inl h1),Nat.lt_succ_of_lt hlt',?_⟩;show (if i=N1.nx then j else N1.μ i)=some q
   rw [n1,if_neg (by omega),n2];exact h2
  ·rcases hj with ⟨_,rfl⟩|⟨O,hj,rfl⟩
   ·simp at hq
   ·simp only [List.map_cons,List.map_nil,List.mem_singleton] at hq;subst hq;refine ⟨σ.nx,qV (.inr ⟨Nat.le_refl _,Nat.lt_succ_self _⟩),Nat.lt_succ_self _,?_⟩;show (if σ.nx=N1.nx then j else N1.μ σ.nx)=some q
    rw [if_pos n1.symm];exact hj
omit hm hx in
theorem jW (N:Nm) (j:Option Nat) (o:SO):(N.new j o).μ N.nx=j:=by simp [Nm.new]
omit hm hx in
theorem Eh (N:Nm) (j:Option Nat) (o:SO):aM (N.new j o).hs N.nx=o:=by simp [Nm.new,aM]
omit hx in
theorem F9 {ds:List SD} {ds':List D} (hr:aj (jo (nm ρ μ σ)) ds ds') (hd:az call head (kt (.loc σ.nx 0) (σ.new (.box ds)) ρ.length) ρ=some r):rz b ρ μ σ h k call head kt r LJ (.loc k 0) [(k,.box ds')]:=by
 have hN:(nm ρ μ σ).nx=σ.nx/\(nm ρ μ σ).μ=μ/\(nm ρ μ σ).ρ=ρ++[]:=⟨rfl,rfl,by simp [nm]⟩
 refine vV (ws:=[]) (us:=[]) hm hN hm (fG.refl _) Wr.nil (j:=some k) (o:=.box ds) (vs:=[(k,.box ds')]) (.inr ⟨_,rfl,rfl⟩) (fun hv=>?_) (sd:=.loc σ.nx 0) ⟨Nat.lt_succ_self _,k,jW _ _ _,rfl⟩ (by rw [List.append_nil];exact hd)
 exact ⟨k,ds',jW (nm ρ μ σ) _ _,by simp [ah,af],hr.mono fun _ _=>hv.dc⟩
theorem UQ {zero:List Value} (hd:az call head (ay σ ρ.length sx kt (.alloc zero)) ρ=some r):Goal b ρ μ σ h k call head kt r sx dx (.alloc zero):=
 ⟨_,_,rfl,F9 hm (zW zero) hd⟩
theorem aap {x:X} (hd:az call head (ay σ ρ.length sx kt (.box x)) ρ=some r):Goal b ρ μ σ h k call head kt r sx dx (.box x):=by
 simp only [ay] at hd;split at hd
 case h_2=>cases hd
 rename_i ds hc;obtain ⟨ds',h1,h2⟩:=xx (hx x) hc;exact ⟨_,_,by simp only [step,h1,Option.bind_eq_bind,Option.bind_some],F9 hm h2 hd⟩
omit hx in
theorem vZ {cs:List C} {n aa ety:Nat} {us:List (Nat×Obj)} {ss:List (Nat×SO)} (hm1:Rm b ((nm ρ μ σ).upd ss) (ah h us) k σ.lens) (hv1:fG (nm ρ μ σ) ((nm ρ μ σ).upd ss)) (hw:Wr (nm ρ μ σ) us LJ) (hl:cs.length=n * aa) (he:0 < aa) {fr al:Bool}
  (hd:az call head (kt (.arr σ.nx) ((σ.upd ss).new (.arr (.v ρ.length) aa ety fr al)) (ρ.length+1)) (ρ++[.c (.slice cs n)])=some r):
  rz b ρ μ σ h k call head kt r LJ (.arr k 0 n) (us++[(k,.arr cs aa 0 ety)]):=by
 have hN:(((nm ρ μ σ).upd ss).ext [.c (.slice cs n)]).nx=σ.nx/\(((nm ρ μ σ).upd ss).ext [.c (.slice cs n)]).μ=μ/\(((nm ρ μ σ).upd ss).ext [.c (.slice cs n)]).ρ=ρ++[.c (.slice cs n)]:=⟨rfl,rfl,rfl⟩;have hat:aV (ρ++[.c (.slice cs n)]) (.v ρ.length)=some (.slice cs n):=at_new ρ _ [];refine vV hm hN (hm1.ext _) (hv1.trans (gu _ _)) hw (j:=some k) (o:=.arr (.v ρ.length) aa ety fr al) (.inr ⟨_,rfl,rfl⟩) (fun hv=>?_) (sd:=.arr σ.nx) ?_ (by rw [List.length_append];exact hd)
 ·exact ⟨cs,n,hat,hl,.inl ⟨k,0,jW _ _ _,by simp [ah,af],he,Nat.zero_le _,fun _=>rfl⟩⟩
 ·refine ⟨Nat.lt_succ_self _,.inl ⟨k,n,jW _ _ _,rfl,fun x e t f a hg=>?_⟩⟩
  have:aM ((((nm ρ μ σ).upd ss).ext [.c (.slice cs n)]).new (some k) (.arr (.v ρ.length) aa ety fr al)).hs σ.nx=_:=Eh _ _ _
  rw [this] at hg;injection hg with hg;subst hg;exact ⟨cs,hat⟩
omit hm hx in
theorem zl (zero:List Value):∀n,(tV zero n).flatMap EF=[]
 |0=>rfl
 |n+1=>by
  simp only [tV,List.flatMap_append,zl zero n,List.append_nil];induction zero with
  |nil=>rfl
  |cons v r ih=>simpa [EF] using ih
omit hm hx in
theorem I5 {sd:SD} {xs:List SD} (h:cellsS sd=some xs):xs.flatMap EF=kH sd:=by
 by_cases ha:∃ds,sd=.agg ds
 ·obtain ⟨ds,rfl⟩:=ha;simp only [cellsS] at h;split at h
  ·simp only [Option.some.injEq] at h;subst h;rfl
  ·cases h
 ·have h':(if mh sd then some [sd] else none)=some xs:=by cases sd<;>first|exact h|exact absurd ⟨_,rfl⟩ ha
  split at h'
  ·simp only [Option.some.injEq] at h';subst h';rw [zA fun ds e=>ha ⟨ds,e⟩]
   simp
  ·cases h'
omit hm hx in
theorem Ao:∀{parts:List (Nat×Nat×X)} {ds out:List SD},o9 sx ds parts=some out->∀i∈out.flatMap EF,i∈ds.flatMap EF\/i∈parts.flatMap fun p=>kH (sx p.2.2)
 |[],ds,out,h,i,hi=>by simp only [o9,Option.some.injEq] at h;subst h;exact .inl hi
 |(off,size,x)::parts,ds,out,h,i,hi=>by
  simp only [o9,Option.bind_eq_some_iff] at h;obtain ⟨xs,h1,h2⟩:=h;split at h2
  case isFalse=>cases h2
  rcases Ao h2 i hi with h3|h3
  ·unfold splice at h3;simp only [List.flatMap_append,List.mem_append] at h3;rcases h3 with (h3|h3)|h3
   ·left;rw [List.mem_flatMap] at h3 |-;obtain ⟨a,h4,h5⟩:=h3;exact ⟨a,List.mem_of_mem_take h4,h5⟩
   ·right;rw [I5 h1] at h3;rw [List.flatMap_cons,List.mem_append];exact .inl h3
   ·left;rw [List.mem_flatMap] at h3 |-;obtain ⟨a,h4,h5⟩:=h3;exact ⟨a,List.mem_of_mem_drop h4,h5⟩
  ·right;rw [List.flatMap_cons,List.mem_append];exact .inr h3
omit hm hx in
theorem Ms {zero:List Value} {aa ety len:Nat} {parts:List (Nat×Nat×X)} {out:List SD} (h:o9 sx (tV zero len) parts=some out):∀i∈out.flatMap EF,i∈dM sx (.lits aa ety len zero parts):=by
 intro i hi;rcases Ao h i hi with h1|h1
 ·rw [zl] at h1;cases h1
 ·exact h1
theorem Yb {aa ety len:Nat} {zero:List Value} {parts:List (Nat×Nat×X)} (hd:az call head (ay σ ρ.length sx kt (.lits aa ety len zero parts)) ρ=some r):Goal b ρ μ σ h k call head kt r sx dx (.lits aa ety len zero parts):=by
 simp only [ay] at hd;split at hd
 case h_2=>cases hd
 rename_i ax ss hf;simp only [Option.bind_eq_some_iff] at hf;obtain ⟨ds,h1,h2⟩:=hf;obtain ⟨out,h3,h4⟩:=Aq hx (Ck zero len) h1;obtain ⟨cs,us,h5,h6,h7,h8,h9⟩:=vE hm h4 h2;simp only [az,bB,Option.bind_eq_some_iff] at hd;obtain ⟨c,⟨ys,q1,q2⟩,hd⟩:=hd;have e1:ys=cs:=by have:iM ρ ax=some cs:=h6;rw [q1] at this;injection this
 subst e1;unfold qg at q2;split at q2
 case isFalse=>cases q2
 rename_i hc;simp only [Option.some.injEq] at q2;subst q2;refine ⟨_,_,by simp only [step,h3,h5,Option.bind_eq_bind,Option.bind_some];rw [if_pos ⟨hc.1,hc.2.1⟩],vZ hm h8 h7 (h9.mono fun i hi=>Ms h1 i hi) hc.1 hc.2.2 hd⟩
theorem adL {aa ety bytes:Nat} {zero:List Value} {l c:X} (hd:az call head (ay σ ρ.length sx kt (.mk aa ety bytes zero l c)) ρ=some r):Goal b ρ μ σ h k call head kt r sx dx (.mk aa ety bytes zero l c):=by
 simp only [ay] at hd;split at hd
 case h_2=>cases hd
 rename_i a c' h1 h2;simp only [az,bB,Option.bind_eq_some_iff] at hd;obtain ⟨v,⟨u1,h3,u2,h4,h5⟩,hd⟩:=hd;obtain ⟨c1,h6,h7⟩:=fq (hx l) h1;obtain ⟨c2,h8,h9⟩:=fq (hx c) h2;have e1:u1=c1:=by have:aV ρ a=some c1:=h6;rw [h3] at this;injection this
 have e2:u2=c2:=by have:aV ρ c'=some c2:=h8;rw [h4] at this;injection this
 subst e1 e2;unfold mkC at h5;split at h5
 case h_2=>cases h5
 rename_i n m;split at h5
 case isFalse=>cases h5
 rename_i hc;simp only [Option.some.injEq] at h5;subst h5;obtain ⟨k1,k2,k3,k4,k5,k6⟩:=hc;refine ⟨_,_,by simp only [step,h7.lit,h9.lit,asInt,Option.bind_eq_bind,Option.bind_some];rw [if_pos ⟨k1,k2,k3,k4,k5⟩],?_⟩
 exact vZ (us:=[]) (ss:=[]) hm hm (fG.refl _) Wr.nil (by rw [Dk,k5]) k6 hd
theorem TB {size:Nat} {a v:X} (hd:az call head (ay σ ρ.length sx kt (.store size a v)) ρ=some r):Goal b ρ μ σ h k call head kt r sx dx (.store size a v):=by
 simp only [ay] at hd;have hr:=hx a;split at hd
 ·rename_i i off hs;rw [hs] at hr;obtain ⟨hi,j,h1,h2⟩:=hr;split at hd
  case h_2=>cases hd
  rename_i ds xs hg hc;split at hd
  case isFalse=>cases hd
  rename_i hl;obtain ⟨j',ds',g1,g2,g3⟩:=hm.box (N:=nm ρ μ σ) hg;rw [h1] at g1;injection g1 with g1;subst g1
  obtain ⟨xs',h3,h4⟩:=xx (hx v) hc;obtain ⟨v1,v2⟩:=hm.set (i:=i) hi (o':=.box (splice ds off xs)) (h':=(j,.box (splice ds' off xs'))::h)
   (fun q hq=>by have:j≠q:=fun e=>hq (e▸h1);simp [af,this]) (fun _ _ _ _ _ e=>by cases e)
   (fun hv=>⟨j,_,h1,by simp [af],yg (g3.mono fun _ _=>hv.dc) (h4.mono fun _ _=>hv.dc)⟩)
  refine ⟨.fK,[(j,.box (splice ds' off xs'))],?_,nE (ws:=[]) hm ⟨rfl,rfl,by simp [nm,Nm.set]⟩ v2 v1 ?_ (sd:=.fK) trivial (by rw [List.append_nil];exact hd)⟩
  ·simp only [step,h2,iF,g2,h3,Option.bind_eq_bind,Option.bind_some];rw [if_pos ⟨by rw [<-h4.len];exact hl.1,by rw [<-g3.len];exact hl.2⟩]
  ·intro q hq;simp only [List.map_cons,List.map_nil,List.mem_singleton] at hq;subst hq;exact ⟨i,by simp [dM,hs],hi,h1⟩
 ·rename_i i y off hs;rw [hs] at hr;have hr0:jo (nm ρ μ σ) (.gU i y off) (dx a):=hr;split at hd
  case h_2=>cases hd
  rename_i ax ss hf;obtain ⟨vv,us,k1,k2,k3,k4,k5⟩:=Qt hm (hx v) hf;split at hd
  case h_2=>cases hd
  rename_i s aa ety al hg;split at hd
  case isFalse=>cases hd
  rename_i hl;simp only [az,bB,Option.bind_eq_some_iff] at hd;obtain ⟨c,⟨u1,q1,u2,q2,zs,q3,q4⟩,hd⟩:=hd;have e3:zs=vv.cells:=by have:iM ρ ax=some vv.cells:=k2;rw [q3] at this;injection this
  subst e3;obtain ⟨cs,n,g1,g2,g3⟩:=k4.arr hg;obtain ⟨hi,kd,q,h1,h2,h3⟩:=k3.dc hr0;rw [show aV ρ s=_ from g1] at q1
  rw [show aV ρ y=_ from h1] at q2
  injection q1 with q1;injection q2 with q2;subst q1 q2;simp only [Yk] at q4;split at q4
  case isFalse=>cases q4
  rename_i hc;simp only [Option.some.injEq] at q4;subst q4;obtain ⟨c1,c2,c3,c4⟩:=hc;have hlen:vv.cells.length=ax.length:=uG q3;have g3':∃j fz,((nm ρ μ σ).upd ss).μ i=some j/\af (ah h us) j=.arr cs aa fz ety/\0 < aa/\fz<=cs.length/\(false=false->fz=0):=by
   rcases g3 with g3|⟨_,_,l1⟩
   ·exact g3
   ·obtain ⟨_,rfl⟩:=l1 rfl;omega
  obtain ⟨j,fz,l1,l2,l3,l4,l5⟩:=g3';have hz:=l5 rfl;subst hz;have h3':∃j o,((nm ρ μ σ).upd ss).μ i=some j/\dx a=.loc j o/\∀y aa ety fr al,aM ((nm ρ μ σ).upd ss).hs i=.arr y aa ety fr al->o=q.toNat * aa+off:=by
   rcases h3 with h3|⟨m1,_⟩
   ·exact h3
   ·rw [m1] at l1;cases l1
  obtain ⟨j',o,m1,m2,m3⟩:=h3';rw [m1] at l1;injection l1 with l1;subst l1
  have ho:=m3 _ _ _ _ _ hg;subst ho;have hin:q.toNat * aa+off+vv.cells.length<=cs.length:=by
   rw [c4];have:(q.toNat+1) * aa<=n * aa:=Nat.mul_le_mul_right _ (by omega)
   rw [Nat.succ_mul] at this;omega
  have ac5:(splice cs (q.toNat * aa+off) vv.cells).length=n * aa:=by unfold splice;simp only [List.length_append,List.length_take,List.length_drop];omega
  have hat:aV (ρ++[.c (.slice (splice cs (q.toNat * aa+off) vv.cells) n)]) (.v ρ.length)=some (.slice (splice cs (q.toNat * aa+off) vv.cells) n):=at_new ρ _ [];obtain ⟨v1,v2⟩:=(k4.ext [.c (.slice (splice cs (q.toNat * aa+off) vv.cells) n)]).set (i:=i) hi (o':=.arr (.v ρ.length) aa ety false al) (h':=(j',.arr (splice cs (q.toNat * aa+off) vv.cells) aa 0 ety)::ah h us)
   (fun p hp=>by have:j'≠p:=fun e=>hp (e▸m1);simp [af,this])
   (fun y' e t fr' al' he=>by
    injection he with e1 e2 e3 e4 e5;subst e1 e2 e3 e4 e5;refine ⟨s,false,al,hg,fun h=>h,fun cs' n' hc'=>⟨splice cs (q.toNat * aa+off) vv.cells,?_,fun hor=>?_⟩⟩
    ·have:aV (ρ++[.c (.slice (splice cs (q.toNat * aa+off) vv.cells) n)]) s=some (.slice cs n):=dF g1
     have hc'':aV (ρ++[.c (.slice (splice cs (q.toNat * aa+off) vv.cells) n)]) s=some (.slice cs' n'):=hc';rw [hc''] at this;injection this with this;injection this with _ this;subst this;exact hat
    ·rcases hor with hor|hor
     ·cases hor
     ·have Qh:((nm ρ μ σ).upd ss).μ i=none:=hor;rw [m1] at Qh;cases Qh)
   (fun hv=>⟨_,n,hat,ac5,.inl ⟨j',0,m1,by simp [af],l3,Nat.zero_le _,fun _=>rfl⟩⟩)
  refine ⟨.fK,us++[(j',.arr (splice cs (q.toNat * aa+off) vv.cells) aa 0 ety)],?_,nE (ws:=[.c (.slice (splice cs (q.toNat * aa+off) vv.cells) n)]) hm ⟨rfl,rfl,rfl⟩ (by rw [dz];exact v2) ((k3.trans (gu _ _)).trans v1) ?_ (sd:=.fK) trivial ?_⟩
  ·have FR:∃cs0 e0 f0 t0,af h j'=.arr cs0 e0 f0 t0:=by
    obtain ⟨y0,f0,a0,w1,_,_⟩:=k3.arr i _ _ _ _ _ hi hg;obtain ⟨cs0,n0,_,_,w2⟩:=hm.arr (N:=nm ρ μ σ) w1;rcases w2 with ⟨j0,z0,w3,w4,_⟩|⟨w3,_⟩
    ·rw [show (nm ρ μ σ).μ i=some j' from m1] at w3;injection w3 with w3;subst w3
     exact ⟨_,_,_,_,w4⟩
    ·rw [show (nm ρ μ σ).μ i=some j' from m1] at w3;cases w3
   obtain ⟨cs0,e0,f0,t0,FR⟩:=FR;simp only [step,m2,iF,FR,k1,Option.bind_eq_bind,Option.bind_some,l2];rw [if_pos ⟨by rw [hlen];exact hl.1,by rw [<-hl.1,<-hlen];exact hin,Nat.zero_le _⟩]
  ·refine Wr.append (k5.mono fun p hp=>by simp only [dM,List.mem_append];exact .inr hp) ?_
   intro p hp;simp only [List.map_cons,List.map_nil,List.mem_singleton] at hp;subst hp;exact ⟨i,by simp [dM,hs],hi,m1⟩
  ·have e:(σ.upd (ss++[(i,.arr (.v ρ.length) aa ety false al)]))=⟨σ.env,(i,.arr (.v ρ.length) aa ety false al)::sP σ.heap ss,σ.nx,σ.lens⟩:=by
    simp only [Sy.upd,xW,sP]
   rw [e] at hd;rw [List.length_append];exact hd
 ·cases hd
theorem KC {aa:Nat} {cs:List C} {n:Nat} {lo hi:Option X} {l u:Option C} {la ua:Option At}
  (k4:(lo=none/\la=none/\l=none)\/∃x y c0,lo=some x/\la=some y/\l=some c0/\CD c0 (dx x)) (k6:(hi=none/\ua=none/\u=none)\/∃x y c0,hi=some x/\ua=some y/\u=some c0/\CD c0 (dx x))
  {v:C} (h5:yz aa l u (.slice cs n)=some v):∃a c,xw (lo.map dx)=some a/\qA n (hi.map dx)=some c/\a<=c/\c<=n/\v=.slice ((cs.drop (a * aa)).take ((c - a) * aa)) (c - a):=by
 simp only [yz,Option.bind_eq_some_iff] at h5;obtain ⟨a,h6,c,h7,h8⟩:=h5;split at h8
 case isFalse=>cases h8
 rename_i hc;simp only [Option.some.injEq] at h8;exact ⟨a,c,II k4 h6,RI k6 h7,hc.1,hc.2,h8.symm⟩
theorem abt {aa:Nat} {x:X} {lo hi:Option X} (hd:az call head (ay σ ρ.length sx kt (.slc aa x lo hi)) ρ=some r):Goal b ρ μ σ h k call head kt r sx dx (.slc aa x lo hi):=by
 simp only [ay] at hd;split at hd
 case h_2=>cases hd
 rename_i l u h1 h2;obtain ⟨c2,k3,k4⟩:=pO hx h1;obtain ⟨c3,k5,k6⟩:=pO hx h2;have hr:=hx x;have U2:∀{s:At} {c:C},aV ρ s=some c->CD c (dx x)->az call head (.aY (.sub aa s l u) (kt (.a (.v ρ.length)) σ (ρ.length+1))) ρ=some r->Goal b ρ μ σ h k call head kt r sx dx (.slc aa x lo hi):=by
  intro s c g1 g2 hd;simp only [az,bB,Option.bind_eq_some_iff] at hd;obtain ⟨v,⟨u1,q1,u2,q2,u3,q3,h5⟩,hd⟩:=hd;rw [g1] at q1;rw [show BJ ρ l=_ from k3] at q2
  rw [show BJ ρ u=_ from k5] at q3
  injection q1 with q1;injection q2 with q2;injection q3 with q3;subst q1 q2 q3;cases c with
  |lit _=>simp [yz] at h5
  |slice cs n=>
   obtain ⟨a,e,e1,e2,e3,e4,rfl⟩:=KC hm hx k4 k6 h5;refine ⟨_,[],?_,fJ hm hd⟩;rcases g2 with g2|⟨cs',n',g2,g3⟩
   ·simp only [step,aH,g2,uW,yx,e1,e2,Option.bind_eq_bind,Option.bind_some];rw [if_pos ⟨e3,e4⟩];rfl
   ·injection g2 with g2 g2';subst g2 g2';simp only [step,aH,g3,uW,yx,e1,e2,Option.bind_eq_bind,Option.bind_some];rw [if_pos ⟨e3,e4⟩];rfl
 split at hd
 ·rename_i s hs;rw [hs] at hr;obtain ⟨c,g1,g2⟩:=hr;exact U2 g1 g2 hd
 ·rename_i s hs;rw [hs] at hr;obtain ⟨cs,n,g1,g2⟩:=hr;exact U2 g1 (.inr ⟨cs,n,rfl,g2⟩) hd
 ·rename_i i hs;rw [hs] at hr;split at hd
  case h_2=>cases hd
  rename_i s e t fr al hg;split at hd
  case isFalse=>cases hd
  rename_i he;subst he;obtain ⟨cs,n,g1,g2,g3⟩:=hm.arr (N:=nm ρ μ σ) hg;simp only [az,bB,Option.bind_eq_some_iff] at hd;obtain ⟨v,⟨u1,q1,u2,q2,u3,q3,h5⟩,hd⟩:=hd;rw [show aV ρ s=_ from g1] at q1
  rw [show BJ ρ l=_ from k3] at q2
  rw [show BJ ρ u=_ from k5] at q3
  injection q1 with q1;injection q2 with q2;injection q3 with q3;subst q1 q2 q3;obtain ⟨a,c,e1,e2,e3,e4,rfl⟩:=KC hm hx k4 k6 h5;obtain ⟨v1,v2⟩:=(hm.ext [.c (.slice ((cs.drop (a * e)).take ((c - a) * e)) (c - a))]).mark (i:=i) (x:=s) (aa:=e) (ety:=t) (fr:=fr) (al:=al) hg (h':=h) (.inl rfl);have hat:=at_new ρ (.slice ((cs.drop (a * e)).take ((c - a) * e)) (c - a)) [];have hlast:aM (((nm ρ μ σ).ext [.c (.slice ((cs.drop (a * e)).take ((c - a) * e)) (c - a))]).set i (.arr s e t true al)).hs i=.arr s e t true al:=by simp [Nm.set,aM]
  obtain ⟨hi',hr⟩:=hr;rcases hr with ⟨j,len,h3,h4,h6⟩|⟨h3,cs',n',h4,h6⟩
  ·obtain ⟨cs',h7⟩:=h6 _ _ _ _ _ hg;rw [g1] at h7;injection h7 with h7;injection h7 with h7 h8;subst h7 h8
   rcases g3 with ⟨j',fz,l1,l2,_⟩|⟨l1,_⟩
   ·rw [h3] at l1;injection l1 with l1;subst l1
    refine ⟨.arr j (0+a * e) (c - a),[],?_,nE (us:=[]) (ws:=[.c (.slice ((cs.drop (a * e)).take ((c - a) * e)) (c - a))]) hm ⟨rfl,rfl,rfl⟩ v2 ((gu _ _).trans v1) Wr.nil (sd:=.view i (.v ρ.length)) ?_ ?_⟩
    ·simp only [step,aH,h4,uW,l2,e1,e2,Option.bind_eq_bind,Option.bind_some];rw [if_pos ⟨trivial,e3,e4⟩];rfl
    ·refine ⟨hi',_,c - a,hat,.inr ⟨j,_,h3,rfl,fun y e' t' fr' al' hg'=>?_⟩⟩
     rw [hlast] at hg';injection hg' with x1 x2 x3 x4 x5;subst x1 x2 x3 x4 x5;refine ⟨rfl,cs,n,dF g1,?_,by rw [Nat.zero_add]⟩
     have:a * e+(c - a) * e=c * e:=by rw [<-Nat.add_mul];congr 1;omega
     rw [Nat.zero_add,this,g2];exact Nat.mul_le_mul_right _ e4
    ·rw [List.length_append];exact hd
   ·rw [h3] at l1;cases l1
  ·have h7:=h6 _ _ _ _ _ hg;rw [g1] at h7;injection h7 with h7;injection h7 with h7 h8;subst h7 h8
   refine ⟨.c (.slice ((cs.drop (a * e)).take ((c - a) * e)) (c - a)),[],?_,nE (us:=[]) (ws:=[.c (.slice ((cs.drop (a * e)).take ((c - a) * e)) (c - a))]) hm ⟨rfl,rfl,rfl⟩ v2 ((gu _ _).trans v1) Wr.nil (sd:=.view i (.v ρ.length)) ?_ ?_⟩
   ·simp only [step,aH,h4,uW,yx,e1,e2,Option.bind_eq_bind,Option.bind_some];rw [if_pos ⟨e3,e4⟩];rfl
   ·exact ⟨hi',_,c - a,hat,.inl rfl⟩
   ·rw [List.length_append];exact hd
 ·cases hd
theorem VQ {aa:Nat} {x:X} {lo:Option X} {hi mx:X} (hd:az call head (ay σ ρ.length sx kt (.clip aa x lo hi mx)) ρ=some r):Goal b ρ μ σ h k call head kt r sx dx (.clip aa x lo hi mx):=by
 simp only [ay] at hd;split at hd
 case h_2=>cases hd
 rename_i s ss l u m h1 h2 h3 h4;obtain ⟨n1,n2⟩:=Ef h1;obtain ⟨c0,us,k1,k2,k3,k4,k5⟩:=yP hm ((hx x).c n1 n2) h1;obtain ⟨c1,k6,k7⟩:=pO hx h2;obtain ⟨c2,k8,k9⟩:=fq (hx hi) h3;obtain ⟨c3,l1,l2⟩:=fq (hx mx) h4;simp only [az,bB,Option.bind_eq_some_iff] at hd;obtain ⟨v,⟨u0,q0,u1,q1,u2,q2,u3,q3,h5⟩,hd⟩:=hd;rw [show aV ρ s=_ from k2] at q0
 rw [show BJ ρ l=_ from k6] at q1
 rw [show aV ρ u=_ from k8] at q2
 rw [show aV ρ m=_ from l1] at q3
 injection q0 with q0;injection q1 with q1;injection q2 with q2;injection q3 with q3;subst q0 q1 q2 q3;unfold QU at h5;split at h5
 case h_2=>cases h5
 rename_i ka a kb c;split at h5
 case isFalse=>cases h5
 rename_i hac;subst hac;cases c0 with
 |lit _=>simp [yz] at h5
 |slice cs n=>
  simp only [yz,Option.bind_eq_some_iff] at h5;obtain ⟨p,h6,q,h7,h8⟩:=h5;split at h8
  case isFalse=>cases h8
  rename_i hc;simp only [Option.some.injEq] at h8;subst h8;have e1:=II (dx:=dx) k7 h6;have e2:qA n (some (dx hi))=some q:=by simp only [qA,k9.lit,asInt,Option.bind_eq_bind,Option.bind_some];exact h7
  refine ⟨.full ((cs.drop (p * aa)).take ((q - p) * aa)) (q - p),us,?_,nE (ws:=[.c (.slice ((cs.drop (p * aa)).take ((q - p) * aa)) (q - p))]) hm ⟨rfl,rfl,rfl⟩ (k4.ext _) (k3.trans (gu _ _)) ?_ (sd:=.full (.v ρ.length)) ⟨_,_,at_new ρ _ [],rfl⟩ ?_⟩
  ·simp only [step,Lu,k9.lit,l2.lit,asInt,k1,yx,e1,Option.bind_eq_bind,Option.bind_some];rw [show qA n (some (D.c (.lit (.int ka a))))=some q by rw [<-k9.lit];exact e2]
   simp only [Option.bind_some];rw [if_pos hc];simp
  ·refine k5.mono fun i hi=>?_
   simp only [dM];rw [zA n1];exact hi
  ·rw [List.length_append];exact hd
theorem Xk {aa:Nat} {x i:X} (hd:az call head (ay σ ρ.length sx kt (.pY aa x i)) ρ=some r):Goal b ρ μ σ h k call head kt r sx dx (.pY aa x i):=by
 simp only [ay] at hd;split at hd
 case h_2=>cases hd
 rename_i a h1;obtain ⟨c1,k1,k2⟩:=fq (hx i) h1;have hr:=hx x;have U2:∀{s:At} {c:C},aV ρ s=some c->CD c (dx x)->az call head (.row aa s a (kt (.ptr ρ.length 0 aa) (σ.len ρ.length aa) (ρ.length+1))) ρ=some r->Goal b ρ μ σ h k call head kt r sx dx (.pY aa x i):=by
  intro s c g1 g2 hd;simp only [az,Option.bind_eq_some_iff] at hd;obtain ⟨xs,⟨u1,q1,u2,q2,h5⟩,hd⟩:=hd;rw [g1] at q1;rw [show aV ρ a=_ from k1] at q2
  injection q1 with q1;injection q2 with q2;subst q1 q2;obtain ⟨cs,n,kd,q,rfl,rfl,e3,e4,e5,e6,e7⟩:=wX h5;refine ⟨.ptr (cs.drop (q.toNat * aa)),[],?_,kW hm e7 (sd:=.ptr ρ.length 0 aa) ⟨xs,(cs.drop (q.toNat * aa)).drop aa,gD ρ _ [],e7,?_⟩ hd⟩
  ·rcases g2 with g2|⟨cs',n',g2,g3⟩
   ·simp only [step,aH,g2,mM,k2.lit,asInt,Option.bind_eq_bind,Option.bind_some];rw [if_pos ⟨e3,e4⟩];rfl
   ·injection g2 with g2 g2';subst g2 g2';simp only [step,aH,g3,mM,k2.lit,asInt,Option.bind_eq_bind,Option.bind_some];rw [if_pos ⟨e3,e4⟩];rfl
  ·rw [e6,List.take_append_drop];rfl
 split at hd
 ·rename_i s hs;rw [hs] at hr;obtain ⟨c,g1,g2⟩:=hr;exact U2 g1 g2 hd
 ·rename_i s hs;rw [hs] at hr;obtain ⟨cs,n,g1,g2⟩:=hr;exact U2 g1 (.inr ⟨cs,n,rfl,g2⟩) hd
 ·rename_i p hs;rw [hs] at hr;split at hd
  case h_2=>cases hd
  rename_i s e t fr al hg;split at hd
  case isFalse=>cases hd
  rename_i he;subst he;obtain ⟨cs,n,g1,g2,g3⟩:=hm.arr (N:=nm ρ μ σ) hg;simp only [az,Option.bind_eq_some_iff] at hd;obtain ⟨xs,⟨u1,q1,u2,q2,h5⟩,hd⟩:=hd;rw [show aV ρ s=_ from g1] at q1
  rw [show aV ρ a=_ from k1] at q2
  injection q1 with q1;injection q2 with q2;subst q1 q2;obtain ⟨cs',n',kd,q,e1,rfl,e3,e4,e5,e6,e7⟩:=wX h5;injection e1 with e1 yY;subst e1 yY;obtain ⟨hi',hr⟩:=hr;rcases hr with ⟨j,len,h3,h4,h6⟩|⟨h3,cs',n',h4,h6⟩
  ·obtain ⟨cs',h7⟩:=h6 _ _ _ _ _ hg;rw [g1] at h7;injection h7 with h7;injection h7 with h7 h8;subst h7 h8
   rcases g3 with ⟨j',fz,l1,l2,_⟩|⟨l1,_⟩
   ·rw [h3] at l1;injection l1 with l1;subst l1
    refine ⟨.loc j (0+q.toNat * e),[],?_,kW hm e7 (sd:=.gU p a 0) ⟨hi',kd,q,dF k1,e3,.inl ⟨j,_,h3,rfl,fun y e' t' fr' al' hg'=>?_⟩⟩ hd⟩
    ·simp only [step,aH,h4,mM,l2,k2.lit,asInt,Option.bind_eq_bind,Option.bind_some];rw [if_pos ⟨e3,e4⟩];rfl
    ·rw [show aM (nm (ρ++[.l xs]) μ σ).hs p=_ from hg] at hg'
     injection hg' with _ x2;subst x2;omega
   ·rw [h3] at l1;cases l1
  ·have h7:=h6 _ _ _ _ _ hg;rw [g1] at h7;injection h7 with h7;injection h7 with h7 h8;subst h7 h8
   refine ⟨.ptr (cs.drop (q.toNat * e)),[],?_,kW hm e7 (sd:=.gU p a 0) ⟨hi',kd,q,dF k1,e3,.inr ⟨h3,_,rfl,fun y e' t' fr' al' hg'=>?_⟩⟩ hd⟩
   ·simp only [step,aH,h4,mM,k2.lit,asInt,Option.bind_eq_bind,Option.bind_some];rw [if_pos ⟨e3,e4⟩];rfl
   ·rw [show aM (nm (ρ++[.l xs]) μ σ).hs p=_ from hg] at hg'
    injection hg' with x1 x2;subst x1 x2;exact ⟨cs,n,dF g1,rfl⟩
 ·cases hd
omit hx in
theorem Cb {cs:List C} {n aa ety:Nat} {ss:List (Nat×SO)} (hm1:Rm b ((nm ρ μ σ).upd ss) h k σ.lens) (hv1:fG (nm ρ μ σ) ((nm ρ μ σ).upd ss)) (hl:cs.length=n * aa) {fr:Bool} (hf:fr=false->cs=[]/\n=0)
  (hd:az call head (kt (.arr σ.nx) ((σ.upd ss).new (.arr (.v ρ.length) aa ety fr false)) (ρ.length+1)) (ρ++[.c (.slice cs n)])=some r):
  rz b ρ μ σ h k call head kt r LJ (.full cs n) []:=by
 have hN:(((nm ρ μ σ).upd ss).ext [.c (.slice cs n)]).nx=σ.nx/\(((nm ρ μ σ).upd ss).ext [.c (.slice cs n)]).μ=μ/\(((nm ρ μ σ).upd ss).ext [.c (.slice cs n)]).ρ=ρ++[.c (.slice cs n)]:=⟨rfl,rfl,rfl⟩;have hat:aV (ρ++[.c (.slice cs n)]) (.v ρ.length)=some (.slice cs n):=at_new ρ _ [];refine vV (us:=[]) hm hN (hm1.ext _) (hv1.trans (gu _ _)) Wr.nil (j:=none) (o:=.arr (.v ρ.length) aa ety fr false) (vs:=[]) (.inl ⟨rfl,rfl⟩) (fun hv=>?_) (sd:=.arr σ.nx) ?_ (by rw [List.length_append];exact hd)
 ·exact ⟨cs,n,hat,hl,.inr ⟨jW _ _ _,rfl,hf⟩⟩
 ·refine ⟨Nat.lt_succ_self _,.inr ⟨jW _ _ _,cs,n,rfl,fun x e t f a hg=>?_⟩⟩
  have:aM ((((nm ρ μ σ).upd ss).ext [.c (.slice cs n)]).new none (.arr (.v ρ.length) aa ety fr false)).hs σ.nx=_:=Eh _ _ _
  rw [this] at hg;injection hg with hg;subst hg;exact hat
theorem aaB {aa ety bytes:Nat} {x y:X} (hd:az call head (ay σ ρ.length sx kt (.app aa ety bytes x y)) ρ=some r):Goal b ρ μ σ h k call head kt r sx dx (.app aa ety bytes x y):=by
 simp only [ay] at hd;split at hd
 case h_2=>cases hd
 rename_i t h1;obtain ⟨n1,n2⟩:=AQ h1;obtain ⟨c1,k1,k2⟩:=wS hm ((hx y).c n1 n2) h1;have hr:=hx x;split at hd
 ·rename_i s hs;rw [hs] at hr;obtain ⟨cs,n,g1,g2⟩:=hr;simp only [az,bB,Option.bind_eq_some_iff] at hd;obtain ⟨v,⟨u1,q1,u2,q2,h5⟩,hd⟩:=hd;rw [show aV ρ s=_ from g1] at q1
  rw [show aV ρ t=_ from k1] at q2
  injection q1 with q1;injection q2 with q2;subst q1 q2;simp only [BK,Option.bind_eq_some_iff] at h5;obtain ⟨⟨zs,m⟩,h6,h7⟩:=h5;split at h7
  case isFalse=>cases h7
  rename_i hc;simp only [Option.some.injEq] at h7;subst h7;have e1:=k2 _ h6;simp only at hc;have hlen:(cs++zs).length=(n+m) * aa:=by rw [List.length_append,hc.1,hc.2.1,Nat.add_mul];
  by_cases hz:m=0
  ·subst hz;have hzs:zs=[]:=List.eq_nil_of_length_eq_zero (by rw [hc.1];omega)
   subst hzs;rw [List.append_nil,Nat.add_zero] at hd hlen;refine ⟨.full cs n,[],?_,Cb (ss:=[]) hm hm (fG.refl _) hlen (fun hf=>?_) hd⟩
   ·simp only [step,g2,vK,e1,Option.bind_eq_bind,Option.bind_some];rw [if_pos hc];simp
   ·cases s with
    |z=>simp only [aV,Option.some.injEq,C.slice.injEq] at g1;exact ⟨g1.1.symm,g1.2.symm⟩
    |_=>simp [isZ] at hf
  ·refine ⟨.arr k 0 (n+m),[(k,.arr (cs++zs) aa 0 ety)],?_,vZ (us:=[]) (ss:=[]) hm hm (fG.refl _) Wr.nil hlen hc.2.2.2.1 hd⟩;simp only [step,g2,vK,e1,Option.bind_eq_bind,Option.bind_some];rw [if_pos hc,if_neg hz]
 ·rename_i i hs;rw [hs] at hr;split at hd
  case h_2=>cases hd
  rename_i s e t' fr al hg;split at hd
  case isFalse=>cases hd
  rename_i he;obtain ⟨rfl,rfl⟩:=he;obtain ⟨cs,n,g1,g2,g3⟩:=hm.arr (N:=nm ρ μ σ) hg;simp only [az,bB,Option.bind_eq_some_iff] at hd;obtain ⟨v,⟨u1,q1,u2,q2,h5⟩,hd⟩:=hd;rw [show aV ρ s=_ from g1] at q1
  rw [show aV ρ t=_ from k1] at q2
  injection q1 with q1;injection q2 with q2;subst q1 q2;simp only [BK,Option.bind_eq_some_iff] at h5;obtain ⟨⟨zs,m⟩,h6,h7⟩:=h5;split at h7
  case isFalse=>cases h7
  rename_i hc;simp only [Option.some.injEq] at h7;subst h7;have e1:=k2 _ h6;simp only at hc;have hlen:(cs++zs).length=(n+m) * e:=by rw [List.length_append,hc.1,hc.2.1,Nat.add_mul]
  obtain ⟨hi',hr⟩:=hr;rcases hr with ⟨j,len,h3,h4,h8⟩|⟨h3,cs',n',h4,h8⟩
  ·obtain ⟨cs',h9⟩:=h8 _ _ _ _ _ hg;rw [g1] at h9;injection h9 with h9;injection h9 with h9 h10;subst h9 h10
   rcases g3 with ⟨j',fz,l1,l2,l3,l4,l5⟩|⟨l1,_⟩
   ·rw [h3] at l1;injection l1 with l1;subst l1
    have hat:aV (ρ++[.c (.slice (cs++zs) (n+m))]) (.v ρ.length)=some (.slice (cs++zs) (n+m)):=at_new ρ _ [];obtain ⟨v1,v2⟩:=(hm.ext [.c (.slice (cs++zs) (n+m))]).set (i:=i) hi' (o':=.dead) (h':=(j,.dead)::h)
     (fun p hp=>by have:j≠p:=fun e=>hp (e▸h3);simp [af,this]) (fun _ _ _ _ _ e=>by cases e) (fun _=>trivial)
    have hN:((((nm ρ μ σ).ext [.c (.slice (cs++zs) (n+m))]).set i .dead)).nx=σ.nx/\((((nm ρ μ σ).ext [.c (.slice (cs++zs) (n+m))]).set i .dead)).μ=μ/\((((nm ρ μ σ).ext [.c (.slice (cs++zs) (n+m))]).set i .dead)).ρ=ρ++[.c (.slice (cs++zs) (n+m))]:=⟨rfl,rfl,rfl⟩;refine ⟨.arr k 0 (n+m),[(j,.dead)]++[(k,.arr (cs.take (n * e)++zs) e fz t')],?_,vV (us:=[(j,.dead)]) hm hN v2 ((gu _ _).trans v1) ?_ (j:=some k) (o:=.arr (.v ρ.length) e t' fr al) (.inr ⟨_,rfl,rfl⟩) (fun hv=>?_) (sd:=.arr σ.nx) ?_ ?_⟩
    ·simp only [step,h4,vK,l2,e1,Option.bind_eq_bind,Option.bind_some];rw [if_pos ⟨hc.1,hc.2.2.1,hc.2.2.2.1,hc.2.2.2.2,trivial,trivial,trivial,by omega,by omega⟩];rfl
    ·intro p hp;simp only [List.map_cons,List.map_nil,List.mem_singleton] at hp;subst hp;exact ⟨i,by simp [dM,hs,kH,EF],hi',h3⟩
    ·have htk:cs.take (n * e)=cs:=by rw [<-g2];simp
     refine ⟨cs++zs,n+m,hat,hlen,.inl ⟨k,fz,jW _ _ _,by simp [ah,af,htk],l3,by rw [List.length_append];omega,l5⟩⟩
    ·refine ⟨Nat.lt_succ_self _,.inl ⟨k,n+m,jW _ _ _,rfl,fun x e' t f a hg'=>?_⟩⟩
     have:aM ((((nm ρ μ σ).ext [.c (.slice (cs++zs) (n+m))]).set i .dead).new (some k) (.arr (.v ρ.length) e t' fr al)).hs σ.nx=_:=Eh _ _ _
     rw [this] at hg';injection hg' with hg';subst hg';exact ⟨_,hat⟩
    ·rw [List.length_append];exact hd
   ·rw [h3] at l1;cases l1
  ·have h9:=h8 _ _ _ _ _ hg;rw [g1] at h9;injection h9 with h9;injection h9 with h9 h10;subst h9 h10
   rcases g3 with ⟨j',fz,l1,_⟩|⟨l1,l2,l3⟩
   ·rw [h3] at l1;cases l1
   ·subst l2;obtain ⟨v1,v2⟩:=hm.set (i:=i) hi' (o':=.dead) (h':=h) (fun p hp=>rfl) (fun _ _ _ _ _ e=>by cases e) (fun _=>trivial)
    by_cases hz:m=0
    ·subst hz;have hzs:zs=[]:=List.eq_nil_of_length_eq_zero (by rw [hc.1];omega)
     subst hzs;rw [List.append_nil,Nat.add_zero] at hd hlen;refine ⟨.full cs n,[],?_,Cb (ss:=[(i,.dead)]) hm v2 v1 hlen l3 hd⟩;simp only [step,h4,vK,e1,Option.bind_eq_bind,Option.bind_some];rw [if_pos hc];simp
    ·refine ⟨.arr k 0 (n+m),[(k,.arr (cs++zs) e 0 t')],?_,vZ (us:=[]) (ss:=[(i,.dead)]) hm v2 v1 Wr.nil hlen hc.2.2.2.1 hd⟩;simp only [step,h4,vK,e1,Option.bind_eq_bind,Option.bind_some];rw [if_pos hc,if_neg hz]
 ·cases hd
theorem aay {aa:Nat} {x y:X} (hd:az call head (ay σ ρ.length sx kt (.EZ aa x y)) ρ=some r):Goal b ρ μ σ h k call head kt r sx dx (.EZ aa x y):=by
 simp only [ay] at hd;split at hd
 case h_2=>cases hd
 rename_i t i h1 hs;obtain ⟨n1,n2⟩:=AQ h1;obtain ⟨c1,k1,k2⟩:=wS hm ((hx y).c n1 n2) h1;have hr:=hx x;rw [hs] at hr;split at hd
 case h_2=>cases hd
 rename_i s e ety hg;split at hd
 case isFalse=>cases hd
 rename_i he;subst he;obtain ⟨cs,n,g1,g2,g3⟩:=hm.arr (N:=nm ρ μ σ) hg;simp only [az,bB,Option.bind_eq_some_iff] at hd;obtain ⟨v,⟨u1,q1,u2,q2,h5⟩,w,⟨u3,q3,u4,q4,h6⟩,hd⟩:=hd;rw [show aV ρ s=_ from g1] at q1
 rw [show aV ρ t=_ from k1] at q2
 rw [show aV (ρ++[.c v]) s=_ from dF g1] at q3
 rw [show aV (ρ++[.c v]) t=_ from dF k1] at q4
 injection q1 with q1;injection q2 with q2;injection q3 with q3;injection q4 with q4;subst q1 q2 q3 q4;simp only [Zj,Option.bind_eq_some_iff] at h5;obtain ⟨⟨zs,m⟩,h7,h8⟩:=h5;split at h8
 case isFalse=>cases h8
 rename_i hc;simp only [Option.some.injEq] at h8;simp only [aaq,h7,Option.bind_some,Option.some.injEq] at h6;subst h6;have e1:=k2 _ h7;simp only at hc h8;obtain ⟨hi',hr⟩:=hr;have g3':∃j fz,μ i=some j/\af h j=.arr cs e fz ety/\0 < e/\fz<=cs.length/\(false=false->fz=0):=by
  rcases g3 with g3|⟨_,l2,_⟩
  ·exact g3
  ·cases l2
 obtain ⟨j,fz,l1,l2,l3,l4,l5⟩:=g3';have hz:=l5 rfl;subst hz;have hr':∃len,dx x=.arr j 0 len/\len=n:=by
  rcases hr with ⟨j',len,h3,h4,h9⟩|⟨h3,_⟩
  ·obtain ⟨cs',h10⟩:=h9 _ _ _ _ _ hg;rw [g1] at h10;injection h10 with h10;injection h10 with h10 h11
   rw [show μ i=_ from h3] at l1;injection l1 with l1;subst l1
   exact ⟨len,h4,h11.symm⟩
  ·rw [show μ i=_ from h3] at l1;cases l1
 obtain ⟨_,h4,rfl⟩:=hr';rename_i len;have Sm:(splice cs 0 (zs.take (min m len * e))).length=len * e:=by
  unfold splice;have:min m len * e<=len * e:=Nat.mul_le_mul_right _ (by omega)
  simp only [List.length_append,List.length_take,List.length_drop];omega
 subst h8;have hat:aV (ρ++[.c (.slice (splice cs 0 (zs.take (min m len * e))) len)]) (.v ρ.length)=some (.slice (splice cs 0 (zs.take (min m len * e))) len):=at_new ρ _ [];have aal:aV (ρ++[.c (.slice (splice cs 0 (zs.take (min m len * e))) len),.c (pM ((min m len:Nat):Int))]) (.v ρ.length)=some (.slice (splice cs 0 (zs.take (min m len * e))) len):=at_new ρ _ _;obtain ⟨v1,v2⟩:=(hm.ext [.c (.slice (splice cs 0 (zs.take (min m len * e))) len),.c (pM ((min m len:Nat):Int))]).set (i:=i) hi' (o':=.arr (.v ρ.length) e ety false true) (h':=(j,.arr (splice cs 0 (zs.take (min m len * e))) e 0 ety)::h)
  (fun p hp=>by have:j≠p:=fun e=>hp (e▸l1);simp [af,this])
  (fun y' e' t' fr' al' he=>by
   injection he with x1 x2 x3 x4 x5;subst x1 x2 x3 x4 x5;refine ⟨s,false,true,hg,fun h=>h,fun cs' n' hc'=>⟨splice cs 0 (zs.take (min m len * e)),?_,fun hor=>?_⟩⟩
   ·have h9:aV (ρ++[.c (.slice (splice cs 0 (zs.take (min m len * e))) len),.c (pM ((min m len:Nat):Int))]) s=some (.slice cs len):=dF g1;have h10:aV (ρ++[.c (.slice (splice cs 0 (zs.take (min m len * e))) len),.c (pM ((min m len:Nat):Int))]) s=some (.slice cs' n'):=hc';rw [h9] at h10;injection h10 with h10;injection h10 with _ h10;subst h10;exact aal
   ·rcases hor with hor|hor
    ·cases hor
    ·have Qh:μ i=none:=hor;rw [l1] at Qh;cases Qh)
  (fun hv=>⟨_,len,aal,Sm,.inl ⟨j,0,l1,by simp [af],l3,Nat.zero_le _,fun _=>rfl⟩⟩)
 refine ⟨AU (min m len:Nat),[(j,.arr (splice cs 0 (zs.take (min m len * e))) e 0 ety)],?_,nE (ws:=[.c (.slice (splice cs 0 (zs.take (min m len * e))) len),.c (pM ((min m len:Nat):Int))]) hm ⟨rfl,rfl,rfl⟩ v2 ((gu _ _).trans v1) ?_ (sd:=.a (.v (ρ.length+1))) ?_ ?_⟩
 ·simp only [step,h4,Gj,l2,e1,Option.bind_eq_bind,Option.bind_some];rw [if_pos ⟨hc.1,trivial,Nat.le_refl _,by rw [g2,Nat.zero_add];exact Nat.le_refl _⟩]
 ·intro p hp;simp only [List.map_cons,List.map_nil,List.mem_singleton] at hp;subst hp;exact ⟨i,by simp [dM,hs,kH,EF],hi',l1⟩
 ·refine ⟨pM ((min m len:Nat):Int),?_,.inl rfl⟩;have:=at_new (ρ++[.c (.slice (splice cs 0 (zs.take (min m len * e))) len)]) (pM ((min m len:Nat):Int)) []
  rw [List.length_append,List.append_assoc] at this;exact this
 ·rw [List.append_assoc] at hd;rw [List.length_append];exact hd
end
end Go.Ey
