/- A part of the proof. -/
import Derived.Test.YtpginbppmgdndaaGreatDoorY04
set_option linter.all false
namespace Go.Ey
section
variable {b:Bs} {ρ:List W} {μ:Nat→Option Nat} {σ:Sy} {h:Heap} {k:Nat} {call:FnT} {head:HdT} {kt:SD→Sy→Nat→Tree} {r:R} {sx:X→SD} {dx:X→D} {tch:List Nat}
theorem drop_row {cs:List C} {q esz off m:Nat} (hl:off+m≤esz):(cs.drop (q * esz+off)).take m=(((cs.drop (q * esz)).take esz).drop off).take m:=by
 rw [List.drop_take,List.take_take,List.drop_drop]
 congr 1
 omega
theorem rowC_some {esz:Nat} {c x:C} {xs:List C} (h:rowC esz c x=some xs):∃cs n kd q,c=.slice cs n∧x=.lit (.int kd q)∧0≤q∧q < n∧(q.toNat+1) * esz≤cs.length∧xs=(cs.drop (q.toNat * esz)).take esz∧xs.length=esz:=by
 unfold rowC at h
 split at h
 ·rename_i cs n kd q
  split at h
  ·rename_i hc
   simp only [Option.some.injEq] at h
   refine ⟨cs,n,kd,q,rfl,rfl,hc.1,hc.2.1,hc.2.2,h.symm,?_⟩
   rw [←h,List.length_take,List.length_drop]
   have:=hc.2.2
   rw [Nat.succ_mul] at this
   omega
  ·cases h
 ·cases h
theorem getElem_row {cs:List C} {q esz off:Nat} (hl:off < esz) (hc:(q+1) * esz≤cs.length):cs[q * esz+off]?=some (nthC ((cs.drop (q * esz)).take esz) off):=by
 have h1:q * esz+off < cs.length:=by rw [Nat.succ_mul] at hc;omega
 have h2:off < ((cs.drop (q * esz)).take esz).length:=by rw [List.length_take,List.length_drop,Nat.succ_mul] at *;omega
 rw [nthC_drop _ _ h2,List.getElem?_eq_getElem h1]
 simp
variable (hm:Rm b (nm ρ μ σ) h k σ.lens) (hx:∀x,RD (nm ρ μ σ) (sx x) (dx x))
include hm hx
theorem s_load {agg:Bool} {size:Nat} {x:X} (hd:denT call head (symIns σ ρ.length sx kt (.load agg size x)) ρ=some r):Goal b ρ μ σ h k call head kt r sx dx (.load agg size x):=by
 simp only [symIns] at hd
 have hr:=hx x
 split at hd
 ·rename_i i off hs
  rw [hs] at hr
  obtain ⟨hi,j,h1,h2⟩:=hr
  split at hd
  case h_2=>cases hd
  rename_i ds hg
  obtain ⟨j',ds',g1,g2,g3⟩:=hm.box (N:=nm ρ μ σ) hg
  rw [h1] at g1;injection g1 with g1;subst g1
  split at hd
  ·split at hd
   case isFalse=>cases hd
   rename_i hc
   exact ⟨_,[],by simp only [step,h2,loadD,g2,if_true];rw [if_pos (by rw [←g3.len];exact hc)];rfl,post_same hm (sd:=.agg ((ds.drop off).take size)) ⟨_,rfl,(g3.drop off).take size⟩ hd⟩
  ·split at hd
   case h_2=>cases hd
   rename_i d hd'
   obtain ⟨d',k1,k2⟩:=g3.get off hd'
   exact ⟨d',[],by simp [step,h2,loadD,g2,pureD,k1],post_same hm k2.toD hd⟩
 ·rename_i q off esz hs
  rw [hs] at hr
  obtain ⟨xs,rest,h1,h2,h3⟩:=hr
  subst h2
  split at hd
  ·split at hd
   case isFalse=>cases hd
   rename_i hc
   refine ⟨.agg ((((xs++rest).drop off).take size).map .c),[],?_,post_same hm (sd:=.agg ((nths q off size).map .a)) ?_ hd⟩
   ·simp only [step,h3,loadD,if_true];rw [if_pos (by rw [List.length_drop,List.length_append];omega)];rfl
   ·refine ⟨_,rfl,?_⟩
    have h4:((xs++rest).drop off).take size=(xs.drop off).take size:=by
     rw [List.drop_append_of_le_length (by omega),List.take_append_of_le_length (by rw [List.length_drop];omega)]
    rw [h4]
    exact nths_ok h1 size off hc
  ·split at hd
   case isFalse=>cases hd
   rename_i hc
   refine ⟨.c xs[off],[],?_,post_same hm (sd:=.a (.n q off)) ⟨_,by simp only [atC,show getW (nm ρ μ σ).ρ q=_ from h1,nthC_drop xs off hc],.inl rfl⟩ hd⟩
   simp only [step,h3,loadD,pureD,Bool.false_eq_true,if_false,List.getElem?_drop,Nat.add_zero]
   rw [List.getElem?_append_left hc,List.getElem?_eq_getElem hc];rfl
 ·rename_i i y off hs
  rw [hs] at hr
  obtain ⟨hi,kd,q,h1,h2,h3⟩:=hr
  split at hd
  case h_2=>cases hd
  rename_i s esz ety fr al hg
  obtain ⟨cs,n,g1,g2,g3⟩:=hm.arr (N:=nm ρ μ σ) hg
  have main:∀{t:Tree},(∀xs,denT call head (.row esz s y t) ρ=some r→xs=(cs.drop (q.toNat * esz)).take esz→(q.toNat+1) * esz≤cs.length→xs.length=esz→denT call head t (ρ++[.l xs])=some r→Goal b ρ μ σ h k call head kt r sx dx (.load agg size x))→denT call head (.row esz s y t) ρ=some r→Goal b ρ μ σ h k call head kt r sx dx (.load agg size x):=by
   intro t ht hd
   have hd0:=hd
   simp only [denT,Option.bind_eq_some_iff] at hd
   obtain ⟨xs,⟨c1,q1,c2,q2,q3⟩,hd⟩:=hd
   rw [show atC ρ s=_ from g1] at q1
   rw [show atC ρ y=_ from h1] at q2
   injection q1 with q1;injection q2 with q2
   subst q1 q2
   obtain ⟨cs',n',kd',q',e1,e2,e3,e4,e5,e6,e7⟩:=rowC_some q3
   injection e1 with e1 e1';injection e2 with e2;injection e2 with e2 e2'
   subst e1 e1' e2 e2'
   exact ht xs hd0 e6 e5 e7 hd
  split at hd
  ·split at hd
   case isFalse=>cases hd
   rename_i hc
   refine main (fun xs _ e5 e6 e7 hd=>?_) hd
   have hw:getW (nm (ρ++[.l xs]) μ σ).ρ ρ.length=some (.l xs):=by simp [nm,getW_len]
   have hn:=nths_ok hw size off (by omega)
   have hrow:(cs.drop (q.toNat * esz+off)).take size=(xs.drop off).take size:=by rw [drop_row hc,e5]
   have hlen:q.toNat * esz+off+size≤cs.length:=by rw [Nat.succ_mul] at e6;omega
   rcases h3 with ⟨j,o,k1,k2,k3⟩|⟨k1,zs,k2,k3⟩
   ·rcases g3 with ⟨j',fz,l1,l2,_⟩|⟨l1,_⟩
    ·rw [k1] at l1;injection l1 with l1;subst l1
     have ho:=k3 _ _ _ _ _ hg
     subst ho
     refine ⟨.agg (((cs.drop (q.toNat * esz+off)).take size).map .c),[],?_,post_row hm e7 (sd:=.agg ((nths ρ.length off size).map .a)) ⟨_,rfl,by rw [hrow];exact hn⟩ hd⟩
     simp only [step,k2,loadD,l2,if_true]
     rw [if_pos hlen];rfl
    ·rw [k1] at l1;cases l1
   ·obtain ⟨ys,n',l1,l2⟩:=k3 _ _ _ _ _ hg
    rw [g1] at l1;injection l1 with l1;injection l1 with l1 l1';subst l1 l1'
    subst l2
    refine ⟨.agg (((cs.drop (q.toNat * esz+off)).take size).map .c),[],?_,post_row hm e7 (sd:=.agg ((nths ρ.length off size).map .a)) ⟨_,rfl,by rw [hrow];exact hn⟩ hd⟩
    simp only [step,k2,loadD,if_true]
    rw [if_pos (by rw [List.length_drop];omega)];rfl
  ·split at hd
   case isFalse=>cases hd
   rename_i hc
   refine main (fun xs _ e5 e6 e7 hd=>?_) hd
   have hw:getW (nm (ρ++[.l xs]) μ σ).ρ ρ.length=some (.l xs):=by simp [nm,getW_len]
   have hget:=getElem_row hc e6
   rw [←e5] at hget
   have hra:RDc (nm (ρ++[.l xs]) μ σ) (.a (.n ρ.length off)) (.c (nthC xs off)):=⟨_,by simp only [atC,hw],.inl rfl⟩
   rcases h3 with ⟨j,o,k1,k2,k3⟩|⟨k1,zs,k2,k3⟩
   ·rcases g3 with ⟨j',fz,l1,l2,_⟩|⟨l1,_⟩
    ·rw [k1] at l1;injection l1 with l1;subst l1
     have ho:=k3 _ _ _ _ _ hg
     subst ho
     refine ⟨.c (nthC xs off),[],?_,post_row hm e7 hra.toD hd⟩
     simp only [step,k2,loadD,l2,Bool.false_eq_true,if_false,hget,pureD];rfl
    ·rw [k1] at l1;cases l1
   ·obtain ⟨ys,n',l1,l2⟩:=k3 _ _ _ _ _ hg
    rw [g1] at l1;injection l1 with l1;injection l1 with l1 l1';subst l1 l1'
    subst l2
    refine ⟨.c (nthC xs off),[],?_,post_row hm e7 hra.toD hd⟩
    simp only [step,k2,loadD,Bool.false_eq_true,if_false,List.getElem?_drop,Nat.add_zero,hget,pureD];rfl
 ·cases hd
omit hx in
theorem post_upd {ws:List W} {us:List (Nat×Obj)} {N1:Nm} (hN:N1.nx=σ.nx∧N1.μ=μ∧N1.ρ=ρ++ws) (hm1:Rm b N1 (updH h us) k σ.lens) (hv1:SEv (nm ρ μ σ) N1) (hw:Wr (nm ρ μ σ) us tch)
  {sd:SD} {d:D} (hr:RD N1 sd d) (hd:denT call head (kt sd ⟨σ.env,N1.hs,σ.nx,σ.lens⟩ (ρ++ws).length) (ρ++ws)=some r):PostI b ρ μ σ h k call head kt r tch d us:=by
 obtain ⟨n1,n2,n3⟩:=hN
 have e:N1=nm (ρ++ws) μ ⟨σ.env,N1.hs,σ.nx,σ.lens⟩:=by cases N1;simp only [nm] at *;simp [n1,n2,n3]
 refine ⟨ws,μ,⟨σ.env,N1.hs,σ.nx,σ.lens⟩,sd,rfl,?_,?_,?_,hd,fun q hq=>?_⟩
 ·rw [←e];exact hv1
 ·rw [←e];exact hm1.tick (Nat.le_succ k)
 ·rw [←e];exact hr
 ·obtain ⟨i,h1,hlt,h2⟩:=hw q hq
  exact ⟨i,wrote_mem (.inl h1),hlt,h2⟩
omit hx in
theorem post_new {ws:List W} {us:List (Nat×Obj)} {N1:Nm} (hN:N1.nx=σ.nx∧N1.μ=μ∧N1.ρ=ρ++ws) (hm1:Rm b N1 (updH h us) k σ.lens) (hv1:SEv (nm ρ μ σ) N1) (hw:Wr (nm ρ μ σ) us tch)
  {j:Option Nat} {o:SO} {vs:List (Nat×Obj)} (hj:(j=none∧vs=[])∨∃O,j=some k∧vs=[(k,O)]) (hob:SEv N1 (N1.new j o)→ROb (N1.new j o) (updH (updH h us) vs) σ.nx o)
  {sd:SD} {d:D} (hr:RD (N1.new j o) sd d) (hd:denT call head (kt sd ⟨σ.env,(σ.nx,o)::N1.hs,σ.nx+1,σ.lens⟩ (ρ++ws).length) (ρ++ws)=some r):
  PostI b ρ μ σ h k call head kt r tch d (us++vs):=by
 obtain ⟨n1,n2,n3⟩:=hN
 have hoth:∀q,q≠k→getH (updH (updH h us) vs) q=getH (updH h us) q:=by
  intro q hq
  rcases hj with ⟨_,rfl⟩|⟨O,_,rfl⟩
  ·rfl
  ·simp [updH,getH,Ne.symm hq]
 obtain ⟨v1,v2⟩:=hm1.new (j:=j) (o:=o) (h':=updH (updH h us) vs) (by rcases hj with ⟨h,_⟩|⟨O,h,_⟩<;>simp [h]) hoth (by rw [n1];exact hob)
 have e:N1.new j o=nm (ρ++ws) (N1.new j o).μ ⟨σ.env,(σ.nx,o)::N1.hs,σ.nx+1,σ.lens⟩:=by
  simp only [Nm.new,nm,n1,n3]
 refine ⟨ws,(N1.new j o).μ,⟨σ.env,(σ.nx,o)::N1.hs,σ.nx+1,σ.lens⟩,sd,rfl,?_,?_,?_,hd,?_⟩
 ·rw [←e];exact hv1.trans v1
 ·rw [←e,updH_append'];exact v2
 ·rw [←e];exact hr
 ·intro q hq
  rw [List.map_append,List.mem_append] at hq
  rcases hq with hq|hq
  ·obtain ⟨i,h1,hlt,h2⟩:=hw q hq
   have hlt':i < σ.nx:=hlt
   refine ⟨i,wrote_mem (.inl h1),Nat.lt_succ_of_lt hlt',?_⟩
   show (if i=N1.nx then j else N1.μ i)=some q
   rw [n1,if_neg (by omega),n2];exact h2
  ·rcases hj with ⟨_,rfl⟩|⟨O,hj,rfl⟩
   ·simp at hq
   ·simp only [List.map_cons,List.map_nil,List.mem_singleton] at hq
    subst hq
    refine ⟨σ.nx,wrote_mem (.inr ⟨Nat.le_refl _,Nat.lt_succ_self _⟩),Nat.lt_succ_self _,?_⟩
    show (if σ.nx=N1.nx then j else N1.μ σ.nx)=some q
    rw [if_pos n1.symm];exact hj
omit hm hx in
theorem new_mu (N:Nm) (j:Option Nat) (o:SO):(N.new j o).μ N.nx=j:=by simp [Nm.new]
omit hm hx in
theorem new_get (N:Nm) (j:Option Nat) (o:SO):getO (N.new j o).hs N.nx=o:=by simp [Nm.new,getO]
omit hx in
theorem post_box {ds:List SD} {ds':List D} (hr:All2 (RDc (nm ρ μ σ)) ds ds') (hd:denT call head (kt (.loc σ.nx 0) (σ.new (.box ds)) ρ.length) ρ=some r):PostI b ρ μ σ h k call head kt r tch (.loc k 0) [(k,.box ds')]:=by
 have hN:(nm ρ μ σ).nx=σ.nx∧(nm ρ μ σ).μ=μ∧(nm ρ μ σ).ρ=ρ++[]:=⟨rfl,rfl,by simp [nm]⟩
 refine post_new (ws:=[]) (us:=[]) hm hN hm (SEv.refl _) Wr.nil (j:=some k) (o:=.box ds) (vs:=[(k,.box ds')]) (.inr ⟨_,rfl,rfl⟩) (fun hv=>?_) (sd:=.loc σ.nx 0) ⟨Nat.lt_succ_self _,k,new_mu _ _ _,rfl⟩ (by rw [List.append_nil];exact hd)
 exact ⟨k,ds',new_mu (nm ρ μ σ) _ _,by simp [updH,getH],hr.mono fun _ _=>hv.dc⟩
theorem s_alloc {zero:List Value} (hd:denT call head (symIns σ ρ.length sx kt (.alloc zero)) ρ=some r):Goal b ρ μ σ h k call head kt r sx dx (.alloc zero):=
 ⟨_,_,rfl,post_box hm (litSs_ok zero) hd⟩
theorem s_box {x:X} (hd:denT call head (symIns σ ρ.length sx kt (.box x)) ρ=some r):Goal b ρ μ σ h k call head kt r sx dx (.box x):=by
 simp only [symIns] at hd
 split at hd
 case h_2=>cases hd
 rename_i ds hc
 obtain ⟨ds',h1,h2⟩:=cellsS_ok (hx x) hc
 exact ⟨_,_,by simp only [step,h1,Option.bind_eq_bind,Option.bind_some],post_box hm h2 hd⟩
omit hx in
theorem post_arr {cs:List C} {n esz ety:Nat} {us:List (Nat×Obj)} {ss:List (Nat×SO)} (hm1:Rm b ((nm ρ μ σ).upd ss) (updH h us) k σ.lens) (hv1:SEv (nm ρ μ σ) ((nm ρ μ σ).upd ss)) (hw:Wr (nm ρ μ σ) us tch) (hl:cs.length=n * esz) (he:0 < esz) {fr al:Bool}
  (hd:denT call head (kt (.arr σ.nx) ((σ.upd ss).new (.arr (.v ρ.length) esz ety fr al)) (ρ.length+1)) (ρ++[.c (.slice cs n)])=some r):
  PostI b ρ μ σ h k call head kt r tch (.arr k 0 n) (us++[(k,.arr cs esz 0 ety)]):=by
 have hN:(((nm ρ μ σ).upd ss).ext [.c (.slice cs n)]).nx=σ.nx∧(((nm ρ μ σ).upd ss).ext [.c (.slice cs n)]).μ=μ∧(((nm ρ μ σ).upd ss).ext [.c (.slice cs n)]).ρ=ρ++[.c (.slice cs n)]:=⟨rfl,rfl,rfl⟩
 have hat:atC (ρ++[.c (.slice cs n)]) (.v ρ.length)=some (.slice cs n):=at_new ρ _ []
 refine post_new hm hN (hm1.ext _) (hv1.trans (sev_ext _ _)) hw (j:=some k) (o:=.arr (.v ρ.length) esz ety fr al) (.inr ⟨_,rfl,rfl⟩) (fun hv=>?_) (sd:=.arr σ.nx) ?_ (by rw [List.length_append];exact hd)
 ·exact ⟨cs,n,hat,hl,.inl ⟨k,0,new_mu _ _ _,by simp [updH,getH],he,Nat.zero_le _,fun _=>rfl⟩⟩
 ·refine ⟨Nat.lt_succ_self _,.inl ⟨k,n,new_mu _ _ _,rfl,fun x e t f a hg=>?_⟩⟩
  have:getO ((((nm ρ μ σ).upd ss).ext [.c (.slice cs n)]).new (some k) (.arr (.v ρ.length) esz ety fr al)).hs σ.nx=_:=new_get _ _ _
  rw [this] at hg
  injection hg with hg
  subst hg
  exact ⟨cs,hat⟩
omit hm hx in
theorem zerosS_ids (zero:List Value):∀n,(zerosS zero n).flatMap idS=[]
 |0=>rfl
 |n+1=>by
  simp only [zerosS,List.flatMap_append,zerosS_ids zero n,List.append_nil]
  induction zero with
  |nil=>rfl
  |cons v r ih=>simpa [idS] using ih
omit hm hx in
theorem cellsS_ids {sd:SD} {xs:List SD} (h:cellsS sd=some xs):xs.flatMap idS=idsS sd:=by
 by_cases ha:∃ds,sd=.agg ds
 ·obtain ⟨ds,rfl⟩:=ha
  simp only [cellsS] at h
  split at h
  ·simp only [Option.some.injEq] at h;subst h;rfl
  ·cases h
 ·have h':(if isCellS sd then some [sd] else none)=some xs:=by cases sd<;>first|exact h|exact absurd ⟨_,rfl⟩ ha
  split at h'
  ·simp only [Option.some.injEq] at h'
   subst h'
   rw [idsS_c fun ds e=>ha ⟨ds,e⟩]
   simp
  ·cases h'
omit hm hx in
theorem fillS_ids':∀{parts:List (Nat×Nat×X)} {ds out:List SD},fillS sx ds parts=some out→∀i∈out.flatMap idS,i∈ds.flatMap idS∨i∈parts.flatMap fun p=>idsS (sx p.2.2)
 |[],ds,out,h,i,hi=>by
  simp only [fillS,Option.some.injEq] at h
  subst h
  exact .inl hi
 |(off,size,x)::parts,ds,out,h,i,hi=>by
  simp only [fillS,Option.bind_eq_some_iff] at h
  obtain ⟨xs,h1,h2⟩:=h
  split at h2
  case isFalse=>cases h2
  rcases fillS_ids' h2 i hi with h3|h3
  ·unfold splice at h3
   simp only [List.flatMap_append,List.mem_append] at h3
   rcases h3 with (h3|h3)|h3
   ·left
    rw [List.mem_flatMap] at h3 ⊢
    obtain ⟨a,h4,h5⟩:=h3
    exact ⟨a,List.mem_of_mem_take h4,h5⟩
   ·right
    rw [cellsS_ids h1] at h3
    rw [List.flatMap_cons,List.mem_append]
    exact .inl h3
   ·left
    rw [List.mem_flatMap] at h3 ⊢
    obtain ⟨a,h4,h5⟩:=h3
    exact ⟨a,List.mem_of_mem_drop h4,h5⟩
  ·right
   rw [List.flatMap_cons,List.mem_append]
   exact .inr h3
omit hm hx in
theorem fillS_ids {zero:List Value} {esz ety len:Nat} {parts:List (Nat×Nat×X)} {out:List SD} (h:fillS sx (zerosS zero len) parts=some out):∀i∈out.flatMap idS,i∈touchS sx (.lits esz ety len zero parts):=by
 intro i hi
 rcases fillS_ids' h i hi with h1|h1
 ·rw [zerosS_ids] at h1;cases h1
 ·exact h1
theorem s_lits {esz ety len:Nat} {zero:List Value} {parts:List (Nat×Nat×X)} (hd:denT call head (symIns σ ρ.length sx kt (.lits esz ety len zero parts)) ρ=some r):Goal b ρ μ σ h k call head kt r sx dx (.lits esz ety len zero parts):=by
 simp only [symIns] at hd
 split at hd
 case h_2=>cases hd
 rename_i as ss hf
 simp only [Option.bind_eq_some_iff] at hf
 obtain ⟨ds,h1,h2⟩:=hf
 obtain ⟨out,h3,h4⟩:=fillS_ok hx (zerosS_ok zero len) h1
 obtain ⟨cs,us,h5,h6,h7,h8,h9⟩:=frzLS_ok hm h4 h2
 simp only [denT,opcD,Option.bind_eq_some_iff] at hd
 obtain ⟨c,⟨ys,q1,q2⟩,hd⟩:=hd
 have e1:ys=cs:=by have:atCs ρ as=some cs:=h6;rw [q1] at this;injection this
 subst e1
 unfold litsC at q2
 split at q2
 case isFalse=>cases q2
 rename_i hc
 simp only [Option.some.injEq] at q2
 subst q2
 refine ⟨_,_,by simp only [step,h3,h5,Option.bind_eq_bind,Option.bind_some];rw [if_pos ⟨hc.1,hc.2.1⟩],post_arr hm h8 h7 (h9.mono fun i hi=>fillS_ids h1 i hi) hc.1 hc.2.2 hd⟩
theorem s_mk {esz ety bytes:Nat} {zero:List Value} {l c:X} (hd:denT call head (symIns σ ρ.length sx kt (.mk esz ety bytes zero l c)) ρ=some r):Goal b ρ μ σ h k call head kt r sx dx (.mk esz ety bytes zero l c):=by
 simp only [symIns] at hd
 split at hd
 case h_2=>cases hd
 rename_i a c' h1 h2
 simp only [denT,opcD,Option.bind_eq_some_iff] at hd
 obtain ⟨v,⟨u1,h3,u2,h4,h5⟩,hd⟩:=hd
 obtain ⟨c1,h6,h7⟩:=asAt_ok (hx l) h1
 obtain ⟨c2,h8,h9⟩:=asAt_ok (hx c) h2
 have e1:u1=c1:=by have:atC ρ a=some c1:=h6;rw [h3] at this;injection this
 have e2:u2=c2:=by have:atC ρ c'=some c2:=h8;rw [h4] at this;injection this
 subst e1 e2
 unfold mkC at h5
 split at h5
 case h_2=>cases h5
 rename_i n m
 split at h5
 case isFalse=>cases h5
 rename_i hc
 simp only [Option.some.injEq] at h5
 subst h5
 obtain ⟨k1,k2,k3,k4,k5,k6⟩:=hc
 refine ⟨_,_,by simp only [step,h7.lit,h9.lit,asInt,Option.bind_eq_bind,Option.bind_some];rw [if_pos ⟨k1,k2,k3,k4,k5⟩],?_⟩
 exact post_arr (us:=[]) (ss:=[]) hm hm (SEv.refl _) Wr.nil (by rw [zeros_len,k5]) k6 hd
theorem s_store {size:Nat} {a v:X} (hd:denT call head (symIns σ ρ.length sx kt (.store size a v)) ρ=some r):Goal b ρ μ σ h k call head kt r sx dx (.store size a v):=by
 simp only [symIns] at hd
 have hr:=hx a
 split at hd
 ·rename_i i off hs
  rw [hs] at hr
  obtain ⟨hi,j,h1,h2⟩:=hr
  split at hd
  case h_2=>cases hd
  rename_i ds xs hg hc
  split at hd
  case isFalse=>cases hd
  rename_i hl
  obtain ⟨j',ds',g1,g2,g3⟩:=hm.box (N:=nm ρ μ σ) hg
  rw [h1] at g1;injection g1 with g1;subst g1
  obtain ⟨xs',h3,h4⟩:=cellsS_ok (hx v) hc
  obtain ⟨v1,v2⟩:=hm.set (i:=i) hi (o':=.box (splice ds off xs)) (h':=(j,.box (splice ds' off xs'))::h)
   (fun q hq=>by have:j≠q:=fun e=>hq (e▸h1);simp [getH,this]) (fun _ _ _ _ _ e=>by cases e)
   (fun hv=>⟨j,_,h1,by simp [getH],all2_splice (g3.mono fun _ _=>hv.dc) (h4.mono fun _ _=>hv.dc)⟩)
  refine ⟨.unk,[(j,.box (splice ds' off xs'))],?_,post_upd (ws:=[]) hm ⟨rfl,rfl,by simp [nm,Nm.set]⟩ v2 v1 ?_ (sd:=.unk) trivial (by rw [List.append_nil];exact hd)⟩
  ·simp only [step,h2,storeD,g2,h3,Option.bind_eq_bind,Option.bind_some]
   rw [if_pos ⟨by rw [←h4.len];exact hl.1,by rw [←g3.len];exact hl.2⟩]
  ·intro q hq
   simp only [List.map_cons,List.map_nil,List.mem_singleton] at hq
   subst hq
   exact ⟨i,by simp [touchS,hs],hi,h1⟩
 ·rename_i i y off hs
  rw [hs] at hr
  have hr0:RDc (nm ρ μ σ) (.eloc i y off) (dx a):=hr
  split at hd
  case h_2=>cases hd
  rename_i as ss hf
  obtain ⟨vv,us,k1,k2,k3,k4,k5⟩:=frzCS_ok hm (hx v) hf
  split at hd
  case h_2=>cases hd
  rename_i s esz ety al hg
  split at hd
  case isFalse=>cases hd
  rename_i hl
  simp only [denT,opcD,Option.bind_eq_some_iff] at hd
  obtain ⟨c,⟨u1,q1,u2,q2,zs,q3,q4⟩,hd⟩:=hd
  have e3:zs=vv.cells:=by have:atCs ρ as=some vv.cells:=k2;rw [q3] at this;injection this
  subst e3
  obtain ⟨cs,n,g1,g2,g3⟩:=k4.arr hg
  obtain ⟨hi,kd,q,h1,h2,h3⟩:=k3.dc hr0
  rw [show atC ρ s=_ from g1] at q1
  rw [show atC ρ y=_ from h1] at q2
  injection q1 with q1;injection q2 with q2
  subst q1 q2
  simp only [setC] at q4
  split at q4
  case isFalse=>cases q4
  rename_i hc
  simp only [Option.some.injEq] at q4
  subst q4
  obtain ⟨c1,c2,c3,c4⟩:=hc
  have hlen:vv.cells.length=as.length:=atCs_len q3
  have g3':∃j fz,((nm ρ μ σ).upd ss).μ i=some j∧getH (updH h us) j=.arr cs esz fz ety∧0 < esz∧fz≤cs.length∧(false=false→fz=0):=by
   rcases g3 with g3|⟨_,_,l1⟩
   ·exact g3
   ·obtain ⟨_,rfl⟩:=l1 rfl;omega
  obtain ⟨j,fz,l1,l2,l3,l4,l5⟩:=g3'
  have hz:=l5 rfl
  subst hz
  have h3':∃j o,((nm ρ μ σ).upd ss).μ i=some j∧dx a=.loc j o∧∀y esz ety fr al,getO ((nm ρ μ σ).upd ss).hs i=.arr y esz ety fr al→o=q.toNat * esz+off:=by
   rcases h3 with h3|⟨m1,_⟩
   ·exact h3
   ·rw [m1] at l1;cases l1
  obtain ⟨j',o,m1,m2,m3⟩:=h3'
  rw [m1] at l1;injection l1 with l1;subst l1
  have ho:=m3 _ _ _ _ _ hg
  subst ho
  have hin:q.toNat * esz+off+vv.cells.length≤cs.length:=by
   rw [c4]
   have:(q.toNat+1) * esz≤n * esz:=Nat.mul_le_mul_right _ (by omega)
   rw [Nat.succ_mul] at this
   omega
  have hspl:(splice cs (q.toNat * esz+off) vv.cells).length=n * esz:=by
   unfold splice
   simp only [List.length_append,List.length_take,List.length_drop]
   omega
  have hat:atC (ρ++[.c (.slice (splice cs (q.toNat * esz+off) vv.cells) n)]) (.v ρ.length)=some (.slice (splice cs (q.toNat * esz+off) vv.cells) n):=at_new ρ _ []
  obtain ⟨v1,v2⟩:=(k4.ext [.c (.slice (splice cs (q.toNat * esz+off) vv.cells) n)]).set (i:=i) hi (o':=.arr (.v ρ.length) esz ety false al) (h':=(j',.arr (splice cs (q.toNat * esz+off) vv.cells) esz 0 ety)::updH h us)
   (fun p hp=>by have:j'≠p:=fun e=>hp (e▸m1);simp [getH,this])
   (fun y' e t fr' al' he=>by
    injection he with e1 e2 e3 e4 e5
    subst e1 e2 e3 e4 e5
    refine ⟨s,false,al,hg,fun h=>h,fun cs' n' hc'=>⟨splice cs (q.toNat * esz+off) vv.cells,?_,fun hor=>?_⟩⟩
    ·have:atC (ρ++[.c (.slice (splice cs (q.toNat * esz+off) vv.cells) n)]) s=some (.slice cs n):=atC_append g1
     have hc'':atC (ρ++[.c (.slice (splice cs (q.toNat * esz+off) vv.cells) n)]) s=some (.slice cs' n'):=hc'
     rw [hc''] at this
     injection this with this;injection this with _ this;subst this
     exact hat
    ·rcases hor with hor|hor
     ·cases hor
     ·have hor':((nm ρ μ σ).upd ss).μ i=none:=hor
      rw [m1] at hor';cases hor')
   (fun hv=>⟨_,n,hat,hspl,.inl ⟨j',0,m1,by simp [getH],l3,Nat.zero_le _,fun _=>rfl⟩⟩)
  refine ⟨.unk,us++[(j',.arr (splice cs (q.toNat * esz+off) vv.cells) esz 0 ety)],?_,post_upd (ws:=[.c (.slice (splice cs (q.toNat * esz+off) vv.cells) n)]) hm ⟨rfl,rfl,rfl⟩ (by rw [updH_append'];exact v2) ((k3.trans (sev_ext _ _)).trans v1) ?_ (sd:=.unk) trivial ?_⟩
  ·have hobj:∃cs0 e0 f0 t0,getH h j'=.arr cs0 e0 f0 t0:=by
    obtain ⟨y0,f0,a0,w1,_,_⟩:=k3.arr i _ _ _ _ _ hi hg
    obtain ⟨cs0,n0,_,_,w2⟩:=hm.arr (N:=nm ρ μ σ) w1
    rcases w2 with ⟨j0,z0,w3,w4,_⟩|⟨w3,_⟩
    ·rw [show (nm ρ μ σ).μ i=some j' from m1] at w3;injection w3 with w3;subst w3
     exact ⟨_,_,_,_,w4⟩
    ·rw [show (nm ρ μ σ).μ i=some j' from m1] at w3;cases w3
   obtain ⟨cs0,e0,f0,t0,hobj⟩:=hobj
   simp only [step,m2,storeD,hobj,k1,Option.bind_eq_bind,Option.bind_some,l2]
   rw [if_pos ⟨by rw [hlen];exact hl.1,by rw [←hl.1,←hlen];exact hin,Nat.zero_le _⟩]
  ·refine Wr.append (k5.mono fun p hp=>by simp only [touchS,List.mem_append];exact .inr hp) ?_
   intro p hp
   simp only [List.map_cons,List.map_nil,List.mem_singleton] at hp
   subst hp
   exact ⟨i,by simp [touchS,hs],hi,m1⟩
  ·have e:(σ.upd (ss++[(i,.arr (.v ρ.length) esz ety false al)]))=⟨σ.env,(i,.arr (.v ρ.length) esz ety false al)::updS σ.heap ss,σ.nx,σ.lens⟩:=by
    simp only [Sy.upd,updS_append,updS]
   rw [e] at hd
   rw [List.length_append];exact hd
 ·cases hd
theorem sub_cut {esz:Nat} {cs:List C} {n:Nat} {lo hi:Option X} {l u:Option C} {la ua:Option At}
  (k4:(lo=none∧la=none∧l=none)∨∃x y c0,lo=some x∧la=some y∧l=some c0∧CD c0 (dx x)) (k6:(hi=none∧ua=none∧u=none)∨∃x y c0,hi=some x∧ua=some y∧u=some c0∧CD c0 (dx x))
  {v:C} (h5:subC esz l u (.slice cs n)=some v):∃a c,loOf (lo.map dx)=some a∧hiOf n (hi.map dx)=some c∧a≤c∧c≤n∧v=.slice ((cs.drop (a * esz)).take ((c - a) * esz)) (c - a):=by
 simp only [subC,Option.bind_eq_some_iff] at h5
 obtain ⟨a,h6,c,h7,h8⟩:=h5
 split at h8
 case isFalse=>cases h8
 rename_i hc
 simp only [Option.some.injEq] at h8
 exact ⟨a,c,loC_ok k4 h6,hiC_ok k6 h7,hc.1,hc.2,h8.symm⟩
theorem s_slc {esz:Nat} {x:X} {lo hi:Option X} (hd:denT call head (symIns σ ρ.length sx kt (.slc esz x lo hi)) ρ=some r):Goal b ρ μ σ h k call head kt r sx dx (.slc esz x lo hi):=by
 simp only [symIns] at hd
 split at hd
 case h_2=>cases hd
 rename_i l u h1 h2
 obtain ⟨c2,k3,k4⟩:=asAtO_ok hx h1
 obtain ⟨c3,k5,k6⟩:=asAtO_ok hx h2
 have hr:=hx x
 have imm:∀{s:At} {c:C},atC ρ s=some c→CD c (dx x)→denT call head (.opc (.sub esz s l u) (kt (.a (.v ρ.length)) σ (ρ.length+1))) ρ=some r→Goal b ρ μ σ h k call head kt r sx dx (.slc esz x lo hi):=by
  intro s c g1 g2 hd
  simp only [denT,opcD,Option.bind_eq_some_iff] at hd
  obtain ⟨v,⟨u1,q1,u2,q2,u3,q3,h5⟩,hd⟩:=hd
  rw [g1] at q1
  rw [show atO ρ l=_ from k3] at q2
  rw [show atO ρ u=_ from k5] at q3
  injection q1 with q1;injection q2 with q2;injection q3 with q3
  subst q1 q2 q3
  cases c with
  |lit _=>simp [subC] at h5
  |slice cs n=>
   obtain ⟨a,e,e1,e2,e3,e4,rfl⟩:=sub_cut hm hx k4 k6 h5
   refine ⟨_,[],?_,post_cell hm hd⟩
   rcases g2 with g2|⟨cs',n',g2,g3⟩
   ·simp only [step,pureD,g2,slcD,cutC,e1,e2,Option.bind_eq_bind,Option.bind_some];rw [if_pos ⟨e3,e4⟩];rfl
   ·injection g2 with g2 g2';subst g2 g2'
    simp only [step,pureD,g3,slcD,cutC,e1,e2,Option.bind_eq_bind,Option.bind_some];rw [if_pos ⟨e3,e4⟩];rfl
 split at hd
 ·rename_i s hs
  rw [hs] at hr
  obtain ⟨c,g1,g2⟩:=hr
  exact imm g1 g2 hd
 ·rename_i s hs
  rw [hs] at hr
  obtain ⟨cs,n,g1,g2⟩:=hr
  exact imm g1 (.inr ⟨cs,n,rfl,g2⟩) hd
 ·rename_i i hs
  rw [hs] at hr
  split at hd
  case h_2=>cases hd
  rename_i s e t fr al hg
  split at hd
  case isFalse=>cases hd
  rename_i he
  subst he
  obtain ⟨cs,n,g1,g2,g3⟩:=hm.arr (N:=nm ρ μ σ) hg
  simp only [denT,opcD,Option.bind_eq_some_iff] at hd
  obtain ⟨v,⟨u1,q1,u2,q2,u3,q3,h5⟩,hd⟩:=hd
  rw [show atC ρ s=_ from g1] at q1
  rw [show atO ρ l=_ from k3] at q2
  rw [show atO ρ u=_ from k5] at q3
  injection q1 with q1;injection q2 with q2;injection q3 with q3
  subst q1 q2 q3
  obtain ⟨a,c,e1,e2,e3,e4,rfl⟩:=sub_cut hm hx k4 k6 h5
  obtain ⟨v1,v2⟩:=(hm.ext [.c (.slice ((cs.drop (a * e)).take ((c - a) * e)) (c - a))]).mark (i:=i) (x:=s) (esz:=e) (ety:=t) (fr:=fr) (al:=al) hg (h':=h) (.inl rfl)
  have hat:=at_new ρ (.slice ((cs.drop (a * e)).take ((c - a) * e)) (c - a)) []
  have hlast:getO (((nm ρ μ σ).ext [.c (.slice ((cs.drop (a * e)).take ((c - a) * e)) (c - a))]).set i (.arr s e t true al)).hs i=.arr s e t true al:=by simp [Nm.set,getO]
  obtain ⟨hi',hr⟩:=hr
  rcases hr with ⟨j,len,h3,h4,h6⟩|⟨h3,cs',n',h4,h6⟩
  ·obtain ⟨cs',h7⟩:=h6 _ _ _ _ _ hg
   rw [g1] at h7;injection h7 with h7;injection h7 with h7 h8;subst h7 h8
   rcases g3 with ⟨j',fz,l1,l2,_⟩|⟨l1,_⟩
   ·rw [h3] at l1;injection l1 with l1;subst l1
    refine ⟨.arr j (0+a * e) (c - a),[],?_,post_upd (us:=[]) (ws:=[.c (.slice ((cs.drop (a * e)).take ((c - a) * e)) (c - a))]) hm ⟨rfl,rfl,rfl⟩ v2 ((sev_ext _ _).trans v1) Wr.nil (sd:=.view i (.v ρ.length)) ?_ ?_⟩
    ·simp only [step,pureD,h4,slcD,l2,e1,e2,Option.bind_eq_bind,Option.bind_some]
     rw [if_pos ⟨trivial,e3,e4⟩];rfl
    ·refine ⟨hi',_,c - a,hat,.inr ⟨j,_,h3,rfl,fun y e' t' fr' al' hg'=>?_⟩⟩
     rw [hlast] at hg'
     injection hg' with x1 x2 x3 x4 x5
     subst x1 x2 x3 x4 x5
     refine ⟨rfl,cs,n,atC_append g1,?_,by rw [Nat.zero_add]⟩
     have:a * e+(c - a) * e=c * e:=by rw [←Nat.add_mul];congr 1;omega
     rw [Nat.zero_add,this,g2]
     exact Nat.mul_le_mul_right _ e4
    ·rw [List.length_append];exact hd
   ·rw [h3] at l1;cases l1
  ·have h7:=h6 _ _ _ _ _ hg
   rw [g1] at h7;injection h7 with h7;injection h7 with h7 h8;subst h7 h8
   refine ⟨.c (.slice ((cs.drop (a * e)).take ((c - a) * e)) (c - a)),[],?_,post_upd (us:=[]) (ws:=[.c (.slice ((cs.drop (a * e)).take ((c - a) * e)) (c - a))]) hm ⟨rfl,rfl,rfl⟩ v2 ((sev_ext _ _).trans v1) Wr.nil (sd:=.view i (.v ρ.length)) ?_ ?_⟩
   ·simp only [step,pureD,h4,slcD,cutC,e1,e2,Option.bind_eq_bind,Option.bind_some]
    rw [if_pos ⟨e3,e4⟩];rfl
   ·exact ⟨hi',_,c - a,hat,.inl rfl⟩
   ·rw [List.length_append];exact hd
 ·cases hd
theorem s_clip {esz:Nat} {x:X} {lo:Option X} {hi mx:X} (hd:denT call head (symIns σ ρ.length sx kt (.clip esz x lo hi mx)) ρ=some r):Goal b ρ μ σ h k call head kt r sx dx (.clip esz x lo hi mx):=by
 simp only [symIns] at hd
 split at hd
 case h_2=>cases hd
 rename_i s ss l u m h1 h2 h3 h4
 obtain ⟨n1,n2⟩:=frzS_c h1
 obtain ⟨c0,us,k1,k2,k3,k4,k5⟩:=frzS_ok hm ((hx x).c n1 n2) h1
 obtain ⟨c1,k6,k7⟩:=asAtO_ok hx h2
 obtain ⟨c2,k8,k9⟩:=asAt_ok (hx hi) h3
 obtain ⟨c3,l1,l2⟩:=asAt_ok (hx mx) h4
 simp only [denT,opcD,Option.bind_eq_some_iff] at hd
 obtain ⟨v,⟨u0,q0,u1,q1,u2,q2,u3,q3,h5⟩,hd⟩:=hd
 rw [show atC ρ s=_ from k2] at q0
 rw [show atO ρ l=_ from k6] at q1
 rw [show atC ρ u=_ from k8] at q2
 rw [show atC ρ m=_ from l1] at q3
 injection q0 with q0;injection q1 with q1;injection q2 with q2;injection q3 with q3
 subst q0 q1 q2 q3
 unfold clipC at h5
 split at h5
 case h_2=>cases h5
 rename_i ka a kb c
 split at h5
 case isFalse=>cases h5
 rename_i hac
 subst hac
 cases c0 with
 |lit _=>simp [subC] at h5
 |slice cs n=>
  simp only [subC,Option.bind_eq_some_iff] at h5
  obtain ⟨p,h6,q,h7,h8⟩:=h5
  split at h8
  case isFalse=>cases h8
  rename_i hc
  simp only [Option.some.injEq] at h8
  subst h8
  have e1:=loC_ok (dx:=dx) k7 h6
  have e2:hiOf n (some (dx hi))=some q:=by
   simp only [hiOf,k9.lit,asInt,Option.bind_eq_bind,Option.bind_some]
   exact h7
  refine ⟨.full ((cs.drop (p * esz)).take ((q - p) * esz)) (q - p),us,?_,post_upd (ws:=[.c (.slice ((cs.drop (p * esz)).take ((q - p) * esz)) (q - p))]) hm ⟨rfl,rfl,rfl⟩ (k4.ext _) (k3.trans (sev_ext _ _)) ?_ (sd:=.full (.v ρ.length)) ⟨_,_,at_new ρ _ [],rfl⟩ ?_⟩
  ·simp only [step,clipD,k9.lit,l2.lit,asInt,k1,cutC,e1,Option.bind_eq_bind,Option.bind_some]
   rw [show hiOf n (some (D.c (.lit (.int ka a))))=some q by rw [←k9.lit];exact e2]
   simp only [Option.bind_some]
   rw [if_pos hc]
   simp
  ·refine k5.mono fun i hi=>?_
   simp only [touchS]
   rw [idsS_c n1];exact hi
  ·rw [List.length_append];exact hd
theorem s_iadr {esz:Nat} {x i:X} (hd:denT call head (symIns σ ρ.length sx kt (.iadr esz x i)) ρ=some r):Goal b ρ μ σ h k call head kt r sx dx (.iadr esz x i):=by
 simp only [symIns] at hd
 split at hd
 case h_2=>cases hd
 rename_i a h1
 obtain ⟨c1,k1,k2⟩:=asAt_ok (hx i) h1
 have hr:=hx x
 have imm:∀{s:At} {c:C},atC ρ s=some c→CD c (dx x)→denT call head (.row esz s a (kt (.ptr ρ.length 0 esz) (σ.len ρ.length esz) (ρ.length+1))) ρ=some r→Goal b ρ μ σ h k call head kt r sx dx (.iadr esz x i):=by
  intro s c g1 g2 hd
  simp only [denT,Option.bind_eq_some_iff] at hd
  obtain ⟨xs,⟨u1,q1,u2,q2,h5⟩,hd⟩:=hd
  rw [g1] at q1
  rw [show atC ρ a=_ from k1] at q2
  injection q1 with q1;injection q2 with q2
  subst q1 q2
  obtain ⟨cs,n,kd,q,rfl,rfl,e3,e4,e5,e6,e7⟩:=rowC_some h5
  refine ⟨.ptr (cs.drop (q.toNat * esz)),[],?_,post_row hm e7 (sd:=.ptr ρ.length 0 esz) ⟨xs,(cs.drop (q.toNat * esz)).drop esz,getW_len ρ _ [],e7,?_⟩ hd⟩
  ·rcases g2 with g2|⟨cs',n',g2,g3⟩
   ·simp only [step,pureD,g2,iadrD,k2.lit,asInt,Option.bind_eq_bind,Option.bind_some];rw [if_pos ⟨e3,e4⟩];rfl
   ·injection g2 with g2 g2';subst g2 g2'
    simp only [step,pureD,g3,iadrD,k2.lit,asInt,Option.bind_eq_bind,Option.bind_some];rw [if_pos ⟨e3,e4⟩];rfl
  ·rw [e6,List.take_append_drop];rfl
 split at hd
 ·rename_i s hs
  rw [hs] at hr
  obtain ⟨c,g1,g2⟩:=hr
  exact imm g1 g2 hd
 ·rename_i s hs
  rw [hs] at hr
  obtain ⟨cs,n,g1,g2⟩:=hr
  exact imm g1 (.inr ⟨cs,n,rfl,g2⟩) hd
 ·rename_i p hs
  rw [hs] at hr
  split at hd
  case h_2=>cases hd
  rename_i s e t fr al hg
  split at hd
  case isFalse=>cases hd
  rename_i he
  subst he
  obtain ⟨cs,n,g1,g2,g3⟩:=hm.arr (N:=nm ρ μ σ) hg
  simp only [denT,Option.bind_eq_some_iff] at hd
  obtain ⟨xs,⟨u1,q1,u2,q2,h5⟩,hd⟩:=hd
  rw [show atC ρ s=_ from g1] at q1
  rw [show atC ρ a=_ from k1] at q2
  injection q1 with q1;injection q2 with q2
  subst q1 q2
  obtain ⟨cs',n',kd,q,e1,rfl,e3,e4,e5,e6,e7⟩:=rowC_some h5
  injection e1 with e1 e1';subst e1 e1'
  obtain ⟨hi',hr⟩:=hr
  rcases hr with ⟨j,len,h3,h4,h6⟩|⟨h3,cs',n',h4,h6⟩
  ·obtain ⟨cs',h7⟩:=h6 _ _ _ _ _ hg
   rw [g1] at h7;injection h7 with h7;injection h7 with h7 h8;subst h7 h8
   rcases g3 with ⟨j',fz,l1,l2,_⟩|⟨l1,_⟩
   ·rw [h3] at l1;injection l1 with l1;subst l1
    refine ⟨.loc j (0+q.toNat * e),[],?_,post_row hm e7 (sd:=.eloc p a 0) ⟨hi',kd,q,atC_append k1,e3,.inl ⟨j,_,h3,rfl,fun y e' t' fr' al' hg'=>?_⟩⟩ hd⟩
    ·simp only [step,pureD,h4,iadrD,l2,k2.lit,asInt,Option.bind_eq_bind,Option.bind_some];rw [if_pos ⟨e3,e4⟩];rfl
    ·rw [show getO (nm (ρ++[.l xs]) μ σ).hs p=_ from hg] at hg'
     injection hg' with _ x2
     subst x2
     omega
   ·rw [h3] at l1;cases l1
  ·have h7:=h6 _ _ _ _ _ hg
   rw [g1] at h7;injection h7 with h7;injection h7 with h7 h8;subst h7 h8
   refine ⟨.ptr (cs.drop (q.toNat * e)),[],?_,post_row hm e7 (sd:=.eloc p a 0) ⟨hi',kd,q,atC_append k1,e3,.inr ⟨h3,_,rfl,fun y e' t' fr' al' hg'=>?_⟩⟩ hd⟩
   ·simp only [step,pureD,h4,iadrD,k2.lit,asInt,Option.bind_eq_bind,Option.bind_some];rw [if_pos ⟨e3,e4⟩];rfl
   ·rw [show getO (nm (ρ++[.l xs]) μ σ).hs p=_ from hg] at hg'
    injection hg' with x1 x2
    subst x1 x2
    exact ⟨cs,n,atC_append g1,rfl⟩
 ·cases hd
omit hx in
theorem post_none {cs:List C} {n esz ety:Nat} {ss:List (Nat×SO)} (hm1:Rm b ((nm ρ μ σ).upd ss) h k σ.lens) (hv1:SEv (nm ρ μ σ) ((nm ρ μ σ).upd ss)) (hl:cs.length=n * esz) {fr:Bool} (hf:fr=false→cs=[]∧n=0)
  (hd:denT call head (kt (.arr σ.nx) ((σ.upd ss).new (.arr (.v ρ.length) esz ety fr false)) (ρ.length+1)) (ρ++[.c (.slice cs n)])=some r):
  PostI b ρ μ σ h k call head kt r tch (.full cs n) []:=by
 have hN:(((nm ρ μ σ).upd ss).ext [.c (.slice cs n)]).nx=σ.nx∧(((nm ρ μ σ).upd ss).ext [.c (.slice cs n)]).μ=μ∧(((nm ρ μ σ).upd ss).ext [.c (.slice cs n)]).ρ=ρ++[.c (.slice cs n)]:=⟨rfl,rfl,rfl⟩
 have hat:atC (ρ++[.c (.slice cs n)]) (.v ρ.length)=some (.slice cs n):=at_new ρ _ []
 refine post_new (us:=[]) hm hN (hm1.ext _) (hv1.trans (sev_ext _ _)) Wr.nil (j:=none) (o:=.arr (.v ρ.length) esz ety fr false) (vs:=[]) (.inl ⟨rfl,rfl⟩) (fun hv=>?_) (sd:=.arr σ.nx) ?_ (by rw [List.length_append];exact hd)
 ·exact ⟨cs,n,hat,hl,.inr ⟨new_mu _ _ _,rfl,hf⟩⟩
 ·refine ⟨Nat.lt_succ_self _,.inr ⟨new_mu _ _ _,cs,n,rfl,fun x e t f a hg=>?_⟩⟩
  have:getO ((((nm ρ μ σ).upd ss).ext [.c (.slice cs n)]).new none (.arr (.v ρ.length) esz ety fr false)).hs σ.nx=_:=new_get _ _ _
  rw [this] at hg
  injection hg with hg
  subst hg
  exact hat
theorem s_app {esz ety bytes:Nat} {x y:X} (hd:denT call head (symIns σ ρ.length sx kt (.app esz ety bytes x y)) ρ=some r):Goal b ρ μ σ h k call head kt r sx dx (.app esz ety bytes x y):=by
 simp only [symIns] at hd
 split at hd
 case h_2=>cases hd
 rename_i t h1
 obtain ⟨n1,n2⟩:=srcAtE_c h1
 obtain ⟨c1,k1,k2⟩:=srcAtE_ok hm ((hx y).c n1 n2) h1
 have hr:=hx x
 split at hd
 ·rename_i s hs
  rw [hs] at hr
  obtain ⟨cs,n,g1,g2⟩:=hr
  simp only [denT,opcD,Option.bind_eq_some_iff] at hd
  obtain ⟨v,⟨u1,q1,u2,q2,h5⟩,hd⟩:=hd
  rw [show atC ρ s=_ from g1] at q1
  rw [show atC ρ t=_ from k1] at q2
  injection q1 with q1;injection q2 with q2
  subst q1 q2
  simp only [appC,Option.bind_eq_some_iff] at h5
  obtain ⟨⟨zs,m⟩,h6,h7⟩:=h5
  split at h7
  case isFalse=>cases h7
  rename_i hc
  simp only [Option.some.injEq] at h7
  subst h7
  have e1:=k2 _ h6
  simp only at hc
  have hlen:(cs++zs).length=(n+m) * esz:=by rw [List.length_append,hc.1,hc.2.1,Nat.add_mul];
  by_cases hz:m=0
  ·subst hz
   have hzs:zs=[]:=List.eq_nil_of_length_eq_zero (by rw [hc.1];omega)
   subst hzs
   rw [List.append_nil,Nat.add_zero] at hd hlen
   refine ⟨.full cs n,[],?_,post_none (ss:=[]) hm hm (SEv.refl _) hlen (fun hf=>?_) hd⟩
   ·simp only [step,g2,appD,e1,Option.bind_eq_bind,Option.bind_some]
    rw [if_pos hc];simp
   ·cases s with
    |z=>simp only [atC,Option.some.injEq,C.slice.injEq] at g1;exact ⟨g1.1.symm,g1.2.symm⟩
    |_=>simp [isZ] at hf
  ·refine ⟨.arr k 0 (n+m),[(k,.arr (cs++zs) esz 0 ety)],?_,post_arr (us:=[]) (ss:=[]) hm hm (SEv.refl _) Wr.nil hlen hc.2.2.2.1 hd⟩
   simp only [step,g2,appD,e1,Option.bind_eq_bind,Option.bind_some]
   rw [if_pos hc,if_neg hz]
 ·rename_i i hs
  rw [hs] at hr
  split at hd
  case h_2=>cases hd
  rename_i s e t' fr al hg
  split at hd
  case isFalse=>cases hd
  rename_i he
  obtain ⟨rfl,rfl⟩:=he
  obtain ⟨cs,n,g1,g2,g3⟩:=hm.arr (N:=nm ρ μ σ) hg
  simp only [denT,opcD,Option.bind_eq_some_iff] at hd
  obtain ⟨v,⟨u1,q1,u2,q2,h5⟩,hd⟩:=hd
  rw [show atC ρ s=_ from g1] at q1
  rw [show atC ρ t=_ from k1] at q2
  injection q1 with q1;injection q2 with q2
  subst q1 q2
  simp only [appC,Option.bind_eq_some_iff] at h5
  obtain ⟨⟨zs,m⟩,h6,h7⟩:=h5
  split at h7
  case isFalse=>cases h7
  rename_i hc
  simp only [Option.some.injEq] at h7
  subst h7
  have e1:=k2 _ h6
  simp only at hc
  have hlen:(cs++zs).length=(n+m) * e:=by rw [List.length_append,hc.1,hc.2.1,Nat.add_mul]
  obtain ⟨hi',hr⟩:=hr
  rcases hr with ⟨j,len,h3,h4,h8⟩|⟨h3,cs',n',h4,h8⟩
  ·obtain ⟨cs',h9⟩:=h8 _ _ _ _ _ hg
   rw [g1] at h9;injection h9 with h9;injection h9 with h9 h10;subst h9 h10
   rcases g3 with ⟨j',fz,l1,l2,l3,l4,l5⟩|⟨l1,_⟩
   ·rw [h3] at l1;injection l1 with l1;subst l1
    have hat:atC (ρ++[.c (.slice (cs++zs) (n+m))]) (.v ρ.length)=some (.slice (cs++zs) (n+m)):=at_new ρ _ []
    obtain ⟨v1,v2⟩:=(hm.ext [.c (.slice (cs++zs) (n+m))]).set (i:=i) hi' (o':=.dead) (h':=(j,.dead)::h)
     (fun p hp=>by have:j≠p:=fun e=>hp (e▸h3);simp [getH,this]) (fun _ _ _ _ _ e=>by cases e) (fun _=>trivial)
    have hN:((((nm ρ μ σ).ext [.c (.slice (cs++zs) (n+m))]).set i .dead)).nx=σ.nx∧((((nm ρ μ σ).ext [.c (.slice (cs++zs) (n+m))]).set i .dead)).μ=μ∧((((nm ρ μ σ).ext [.c (.slice (cs++zs) (n+m))]).set i .dead)).ρ=ρ++[.c (.slice (cs++zs) (n+m))]:=⟨rfl,rfl,rfl⟩
    refine ⟨.arr k 0 (n+m),[(j,.dead)]++[(k,.arr (cs.take (n * e)++zs) e fz t')],?_,post_new (us:=[(j,.dead)]) hm hN v2 ((sev_ext _ _).trans v1) ?_ (j:=some k) (o:=.arr (.v ρ.length) e t' fr al) (.inr ⟨_,rfl,rfl⟩) (fun hv=>?_) (sd:=.arr σ.nx) ?_ ?_⟩
    ·simp only [step,h4,appD,l2,e1,Option.bind_eq_bind,Option.bind_some]
     rw [if_pos ⟨hc.1,hc.2.2.1,hc.2.2.2.1,hc.2.2.2.2,trivial,trivial,trivial,by omega,by omega⟩];rfl
    ·intro p hp
     simp only [List.map_cons,List.map_nil,List.mem_singleton] at hp
     subst hp
     exact ⟨i,by simp [touchS,hs,idsS,idS],hi',h3⟩
    ·have htk:cs.take (n * e)=cs:=by rw [←g2];simp
     refine ⟨cs++zs,n+m,hat,hlen,.inl ⟨k,fz,new_mu _ _ _,by simp [updH,getH,htk],l3,by rw [List.length_append];omega,l5⟩⟩
    ·refine ⟨Nat.lt_succ_self _,.inl ⟨k,n+m,new_mu _ _ _,rfl,fun x e' t f a hg'=>?_⟩⟩
     have:getO ((((nm ρ μ σ).ext [.c (.slice (cs++zs) (n+m))]).set i .dead).new (some k) (.arr (.v ρ.length) e t' fr al)).hs σ.nx=_:=new_get _ _ _
     rw [this] at hg'
     injection hg' with hg'
     subst hg'
     exact ⟨_,hat⟩
    ·rw [List.length_append];exact hd
   ·rw [h3] at l1;cases l1
  ·have h9:=h8 _ _ _ _ _ hg
   rw [g1] at h9;injection h9 with h9;injection h9 with h9 h10;subst h9 h10
   rcases g3 with ⟨j',fz,l1,_⟩|⟨l1,l2,l3⟩
   ·rw [h3] at l1;cases l1
   ·subst l2
    obtain ⟨v1,v2⟩:=hm.set (i:=i) hi' (o':=.dead) (h':=h) (fun p hp=>rfl) (fun _ _ _ _ _ e=>by cases e) (fun _=>trivial)
    by_cases hz:m=0
    ·subst hz
     have hzs:zs=[]:=List.eq_nil_of_length_eq_zero (by rw [hc.1];omega)
     subst hzs
     rw [List.append_nil,Nat.add_zero] at hd hlen
     refine ⟨.full cs n,[],?_,post_none (ss:=[(i,.dead)]) hm v2 v1 hlen l3 hd⟩
     simp only [step,h4,appD,e1,Option.bind_eq_bind,Option.bind_some]
     rw [if_pos hc];simp
    ·refine ⟨.arr k 0 (n+m),[(k,.arr (cs++zs) e 0 t')],?_,post_arr (us:=[]) (ss:=[(i,.dead)]) hm v2 v1 Wr.nil hlen hc.2.2.2.1 hd⟩
     simp only [step,h4,appD,e1,Option.bind_eq_bind,Option.bind_some]
     rw [if_pos hc,if_neg hz]
 ·cases hd
theorem s_cpy {esz:Nat} {x y:X} (hd:denT call head (symIns σ ρ.length sx kt (.cpy esz x y)) ρ=some r):Goal b ρ μ σ h k call head kt r sx dx (.cpy esz x y):=by
 simp only [symIns] at hd
 split at hd
 case h_2=>cases hd
 rename_i t i h1 hs
 obtain ⟨n1,n2⟩:=srcAtE_c h1
 obtain ⟨c1,k1,k2⟩:=srcAtE_ok hm ((hx y).c n1 n2) h1
 have hr:=hx x
 rw [hs] at hr
 split at hd
 case h_2=>cases hd
 rename_i s e ety hg
 split at hd
 case isFalse=>cases hd
 rename_i he
 subst he
 obtain ⟨cs,n,g1,g2,g3⟩:=hm.arr (N:=nm ρ μ σ) hg
 simp only [denT,opcD,Option.bind_eq_some_iff] at hd
 obtain ⟨v,⟨u1,q1,u2,q2,h5⟩,w,⟨u3,q3,u4,q4,h6⟩,hd⟩:=hd
 rw [show atC ρ s=_ from g1] at q1
 rw [show atC ρ t=_ from k1] at q2
 rw [show atC (ρ++[.c v]) s=_ from atC_append g1] at q3
 rw [show atC (ρ++[.c v]) t=_ from atC_append k1] at q4
 injection q1 with q1;injection q2 with q2;injection q3 with q3;injection q4 with q4
 subst q1 q2 q3 q4
 simp only [cpyC,Option.bind_eq_some_iff] at h5
 obtain ⟨⟨zs,m⟩,h7,h8⟩:=h5
 split at h8
 case isFalse=>cases h8
 rename_i hc
 simp only [Option.some.injEq] at h8
 simp only [cntC,h7,Option.bind_some,Option.some.injEq] at h6
 subst h6
 have e1:=k2 _ h7
 simp only at hc h8
 obtain ⟨hi',hr⟩:=hr
 have g3':∃j fz,μ i=some j∧getH h j=.arr cs e fz ety∧0 < e∧fz≤cs.length∧(false=false→fz=0):=by
  rcases g3 with g3|⟨_,l2,_⟩
  ·exact g3
  ·cases l2
 obtain ⟨j,fz,l1,l2,l3,l4,l5⟩:=g3'
 have hz:=l5 rfl
 subst hz
 have hr':∃len,dx x=.arr j 0 len∧len=n:=by
  rcases hr with ⟨j',len,h3,h4,h9⟩|⟨h3,_⟩
  ·obtain ⟨cs',h10⟩:=h9 _ _ _ _ _ hg
   rw [g1] at h10;injection h10 with h10;injection h10 with h10 h11
   rw [show μ i=_ from h3] at l1;injection l1 with l1;subst l1
   exact ⟨len,h4,h11.symm⟩
  ·rw [show μ i=_ from h3] at l1;cases l1
 obtain ⟨_,h4,rfl⟩:=hr'
 rename_i len
 have hsplice:(splice cs 0 (zs.take (min m len * e))).length=len * e:=by
  unfold splice
  have:min m len * e≤len * e:=Nat.mul_le_mul_right _ (by omega)
  simp only [List.length_append,List.length_take,List.length_drop]
  omega
 subst h8
 have hat:atC (ρ++[.c (.slice (splice cs 0 (zs.take (min m len * e))) len)]) (.v ρ.length)=some (.slice (splice cs 0 (zs.take (min m len * e))) len):=at_new ρ _ []
 have hat2:atC (ρ++[.c (.slice (splice cs 0 (zs.take (min m len * e))) len),.c (intC ((min m len:Nat):Int))]) (.v ρ.length)=some (.slice (splice cs 0 (zs.take (min m len * e))) len):=at_new ρ _ _
 obtain ⟨v1,v2⟩:=(hm.ext [.c (.slice (splice cs 0 (zs.take (min m len * e))) len),.c (intC ((min m len:Nat):Int))]).set (i:=i) hi' (o':=.arr (.v ρ.length) e ety false true) (h':=(j,.arr (splice cs 0 (zs.take (min m len * e))) e 0 ety)::h)
  (fun p hp=>by have:j≠p:=fun e=>hp (e▸l1);simp [getH,this])
  (fun y' e' t' fr' al' he=>by
   injection he with x1 x2 x3 x4 x5
   subst x1 x2 x3 x4 x5
   refine ⟨s,false,true,hg,fun h=>h,fun cs' n' hc'=>⟨splice cs 0 (zs.take (min m len * e)),?_,fun hor=>?_⟩⟩
   ·have h9:atC (ρ++[.c (.slice (splice cs 0 (zs.take (min m len * e))) len),.c (intC ((min m len:Nat):Int))]) s=some (.slice cs len):=atC_append g1
    have h10:atC (ρ++[.c (.slice (splice cs 0 (zs.take (min m len * e))) len),.c (intC ((min m len:Nat):Int))]) s=some (.slice cs' n'):=hc'
    rw [h9] at h10
    injection h10 with h10;injection h10 with _ h10;subst h10
    exact hat2
   ·rcases hor with hor|hor
    ·cases hor
    ·have hor':μ i=none:=hor
     rw [l1] at hor';cases hor')
  (fun hv=>⟨_,len,hat2,hsplice,.inl ⟨j,0,l1,by simp [getH],l3,Nat.zero_le _,fun _=>rfl⟩⟩)
 refine ⟨dInt (min m len:Nat),[(j,.arr (splice cs 0 (zs.take (min m len * e))) e 0 ety)],?_,post_upd (ws:=[.c (.slice (splice cs 0 (zs.take (min m len * e))) len),.c (intC ((min m len:Nat):Int))]) hm ⟨rfl,rfl,rfl⟩ v2 ((sev_ext _ _).trans v1) ?_ (sd:=.a (.v (ρ.length+1))) ?_ ?_⟩
 ·simp only [step,h4,cpyD,l2,e1,Option.bind_eq_bind,Option.bind_some]
  rw [if_pos ⟨hc.1,trivial,Nat.le_refl _,by rw [g2,Nat.zero_add];exact Nat.le_refl _⟩]
 ·intro p hp
  simp only [List.map_cons,List.map_nil,List.mem_singleton] at hp
  subst hp
  exact ⟨i,by simp [touchS,hs,idsS,idS],hi',l1⟩
 ·refine ⟨intC ((min m len:Nat):Int),?_,.inl rfl⟩
  have:=at_new (ρ++[.c (.slice (splice cs 0 (zs.take (min m len * e))) len)]) (intC ((min m len:Nat):Int)) []
  rw [List.length_append,List.append_assoc] at this
  exact this
 ·rw [List.append_assoc] at hd
  rw [List.length_append]
  exact hd
end
end Go.Ey
