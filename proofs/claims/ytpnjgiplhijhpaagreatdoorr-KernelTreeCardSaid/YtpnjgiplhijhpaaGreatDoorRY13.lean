/- A part. -/
import Derived.Test.YtpnjgiplhijhpaaGreatDoorRY11
set_option linter.all false
namespace Go.Ey
def Agree (L:List Nat) (h h':Heap):Prop:=∀id,id∈L->af h id=af h' id
theorem Agree.mono {L L':List Nat} {h h':Heap} (hh:Agree L h h') (hs:∀id,id∈L'->id∈L):Agree L' h h':=fun id hi=>hh id (hs id hi)
theorem Agree.upd {L:List Nat}:∀(us:List (Nat×Obj)) {h h':Heap},Agree L h h'->Agree L (ah h us) (ah h' us)
 |[],_,_,hh=>hh
 |u::us,h,h',hh=>by
  refine Agree.upd us (h:=u::h) (h':=u::h') fun id hi=>?_
  obtain ⟨i,o⟩:=u;simp only [af];rw [hh id hi]
variable {h h':Heap}
theorem F8 {agg:Bool} {size:Nat} {d:D} (hh:Agree (match d with|.loc id _=>[id]|_=>[]) h h'):dG h agg size d=dG h' agg size d:=by
 cases d with
 |loc id off=>simp only [dG,hh id (by simp)]
 |_=>rfl
theorem xq {d:D} (hh:Agree (aO d) h h'):gM h d=gM h' d:=by
 cases d with
 |arr id off len=>simp only [gM,hh id (by simp [aO])]
 |_=>rfl
def gI:List D->List Nat
 |[]=>[]
 |.arr id _ _::ds=>id::gI ds
 |_::ds=>gI ds
theorem xU (ds:List D):gI ds=ds.flatMap fun|.arr id _ _=>[id]|_=>[]:=by
 induction ds with
 |nil=>rfl
 |cons d ds ih=>cases d<;>simp [gI,ih]
theorem oD {ds:List D} {id:Nat}:id∈gI ds↔∃off len,D.arr id off len∈ds:=by
 induction ds with
 |nil=>simp [gI]
 |cons d ds ih=>
  cases d with
  |arr i o l=>
   simp only [gI,List.mem_cons,ih];constructor
   ·rintro (rfl|⟨off,len,h⟩)
    ·exact ⟨o,l,.inl rfl⟩
    ·exact ⟨off,len,.inr h⟩
   ·rintro ⟨off,len,h|h⟩
    ·injection h with h1 _ _;exact .inl h1
    ·exact .inr ⟨off,len,h⟩
  |_=>simp [gI,ih]
theorem sQ:∀{ds:List D} {h h':Heap},Agree (gI ds) h h'->eD h ds=eD h' ds
 |[],_,_,_=>rfl
 |d::ds,h,h',hh=>by
  have h1:gM h d=gM h' d:=by
   cases d with
   |arr id off len=>exact xq fun i hi=>hh i (by simp only [aO,List.mem_singleton] at hi;simp [gI,hi])
   |_=>rfl
  simp only [eD,h1];cases hf:gM h' d with
  |none=>rfl
  |some p=>
   obtain ⟨c,u⟩:=p;have h2:eD (ah h u) ds=eD (ah h' u) ds:=sQ (Agree.upd u (hh.mono fun id hi=>by cases d<;>simp [gI]<;>first|exact hi|exact .inr hi))
   simp only [Option.bind_eq_bind,Option.bind_some,h2]
theorem oI {d:D} (hh:Agree (aO d) h h'):eP h d=eP h' d:=by
 cases d with
 |agg ds=>
  have:eD h ds=eD h' ds:=sQ (hh.mono fun id hi=>by rw [xU] at hi;exact hi)
  simp only [eP,this]
 |_=>simp only [eP,xq hh]
theorem xM:∀{ds:List D} {h h':Heap},Agree (ds.flatMap aO) h h'->bY h ds=bY h' ds
 |[],_,_,_=>rfl
 |d::ds,h,h',hh=>by
  have h1:eP h d=eP h' d:=oI (hh.mono fun id hi=>by simp [hi])
  simp only [bY,h1];cases hf:eP h' d with
  |none=>rfl
  |some p=>
   obtain ⟨c,u⟩:=p;have h2:bY (ah h u) ds=bY (ah h' u) ds:=xM (Agree.upd u (hh.mono fun id hi=>by rw [List.flatMap_cons];exact List.mem_append_right _ hi))
   simp only [Option.bind_eq_bind,Option.bind_some,h2]
theorem pQ {aa:Nat} {d:D} (hh:Agree (aO d) h h'):bM h aa d=bM h' aa d:=by
 cases d with
 |arr id off len=>simp only [bM,hh id (by simp [aO])]
 |c x=>unfold bM;split<;>simp_all
 |_=>rfl
theorem JJ {d:D} (hh:Agree (aO d) h h'):EJ h d=EJ h' d:=by
 unfold EJ;split
 ·rfl
 ·exact pQ hh
theorem Jg {aa:Nat} {lo hi:Option D} {d:D} (hh:Agree (aO d) h h'):uW h aa lo hi d=uW h' aa lo hi d:=by
 cases d with
 |arr id off len=>simp only [uW,hh id (by simp [aO])]
 |c x=>unfold uW;split<;>simp_all
 |_=>rfl
theorem Fz {aa:Nat} {i:D} {d:D} (hh:Agree (aO d) h h'):mM h aa i d=mM h' aa i d:=by
 cases d with
 |arr id off len=>simp only [mM,hh id (by simp [aO])]
 |c x=>unfold mM;split<;>simp_all
 |_=>rfl
theorem JP {slot aa ety bytes:Nat} {y d:D} (hh:Agree (aO d++aO y) h h'):vK h slot aa ety bytes y d=vK h' slot aa ety bytes y d:=by
 have hs:bM h aa y=bM h' aa y:=pQ (hh.mono fun id hi=>by simp [hi])
 cases d with
 |arr id off len=>simp only [vK,hh id (by simp [aO]),hs]
 |full ds k=>simp only [vK,hs]
 |_=>rfl
theorem I9 {aa:Nat} {y d:D} (hh:Agree (aO d++aO y) h h'):Gj h aa y d=Gj h' aa y d:=by
 have hs:bM h aa y=bM h' aa y:=pQ (hh.mono fun id hi=>by simp [hi])
 cases d with
 |arr id off len=>simp only [Gj,hh id (by simp [aO]),hs]
 |_=>rfl
theorem Ec {size:Nat} {v d:D} (hh:Agree ((match d with|.loc id _=>[id]|_=>[])++aO v) h h'):iF h size v d=iF h' size v d:=by
 have hs:eP h v=eP h' v:=oI (hh.mono fun id hi=>by simp [hi])
 cases d with
 |loc id off=>
  have h1:=hh id (by simp)
  simp only [iF,h1,hs];cases af h' id with
  |arr cs aa fz ety=>
   cases hf:eP h' v with
   |none=>rfl
   |some p=>
    obtain ⟨x,us⟩:=p;simp only [Option.bind_eq_bind,Option.bind_some];rw [Agree.upd us hh id (by simp)]
  |_=>rfl
 |_=>rfl
theorem qf {ρ ρ':X->D}:∀{ps:List (Nat×Nat×X)} {cs:List D},(∀p,p∈ps->ρ p.2.2=ρ' p.2.2)->gp ρ cs ps=gp ρ' cs ps
 |[],_,_=>rfl
 |(off,size,x)::ps,cs,hp=>by
  have h1:ρ x=ρ' x:=hp (off,size,x) (by simp)
  simp only [gp,h1];cases cellsD (ρ' x) with
  |none=>rfl
  |some ds=>
   simp only [Option.bind_eq_bind,Option.bind_some];rw [qf (fun p h=>hp p (by simp [h]))]
theorem I7 {d:D} {ds:List D} (h:cellsD d=some ds):∀id,id∈gI ds->id∈aO d:=by
 intro id hi;unfold cellsD at h;split at h
 ·rename_i ds';split at h
  ·simp only [Option.some.injEq] at h;subst h;rw [xU] at hi;exact hi
  ·cases h
 ·split at h
  ·simp only [Option.some.injEq] at h;subst h;cases d<;>simp [gI] at hi
   simp [aO,hi]
  ·cases h
theorem Cg {ρ:X->D}:∀{ps:List (Nat×Nat×X)} {cs ds:List D},gp ρ cs ps=some ds->∀id,id∈gI ds->id∈gI cs\/id∈ps.flatMap fun p=>aO (ρ p.2.2)
 |[],cs,ds,h,id,hi=>by simp only [gp,Option.some.injEq] at h;subst h;exact .inl hi
 |(off,size,x)::ps,cs,ds,h,id,hi=>by
  simp only [gp,Option.bind_eq_bind,Option.bind_eq_some_iff] at h;obtain ⟨xs,h1,h2⟩:=h;split at h2
  case isFalse=>cases h2
  rcases Cg h2 id hi with h3|h3
  ·rw [oD] at h3;obtain ⟨o,l,h4⟩:=h3;unfold splice at h4;simp only [List.mem_append] at h4;rcases h4 with (h4|h4)|h4
   ·exact .inl (oD.2 ⟨o,l,List.mem_of_mem_take h4⟩)
   ·refine .inr ?_;rw [List.flatMap_cons];exact List.mem_append_left _ (I7 h1 id (oD.2 ⟨o,l,h4⟩))
   ·exact .inl (oD.2 ⟨o,l,List.mem_of_mem_drop h4⟩)
  ·refine .inr ?_;rw [List.flatMap_cons];exact List.mem_append_right _ h3
theorem Oc (cs:List C):gI (cs.map D.c)=[]:=by
 induction cs with
 |nil=>rfl
 |cons c cs ih=>simpa [gI] using ih
theorem Fx {call:Callee} {ρ ρ':X->D} {slot:Nat} {ins:Ins} (hx:∀x,x∈eY ins->ρ x=ρ' x) (hh:Agree (touches ρ ins) h h'):bD call ρ h slot ins=bD call ρ' h' slot ins:=by
 cases ins with
 |Mq x=>simp only [bD,step,hx x (by simp [eY])]
 |pick c a b=>simp only [bD,step,hx c (by simp [eY]),hx a (by simp [eY]),hx b (by simp [eY])]
 |alloc z=>rfl
 |box x=>simp only [bD,step,hx x (by simp [eY])]
 |build z ps=>
  have:∀cs,gp ρ cs ps=gp ρ' cs ps:=fun cs=>qf fun p hp=>hx _ (by simp only [eY];exact List.mem_map.2 ⟨p,hp,rfl⟩)
  simp only [bD,step,this]
 |lits a b c z ps=>
  have h1:∀cs,gp ρ cs ps=gp ρ' cs ps:=fun cs=>qf fun p hp=>hx _ (by simp only [eY];exact List.mem_map.2 ⟨p,hp,rfl⟩)
  simp only [bD,step,<-h1];cases hf:gp ρ ((zeros z c).map .c) ps with
  |none=>rfl
  |some ds=>
   have h2:eD h ds=eD h' ds:=sQ (hh.mono fun id hi=>by
    rcases Cg hf id hi with h3|h3
    ·rw [Oc] at h3;cases h3
    ·exact h3)
   simp only [Option.bind_eq_bind,Option.bind_some,h2]
 |load agg size x=>
  have h1:=hx x (by simp [eY])
  have:dG h agg size (ρ x)=dG h' agg size (ρ x):=F8 hh
  rw [h1] at this;simp only [bD,step,this,h1]
 |store size x y=>
  have h1:=hx x (by simp [eY])
  have h2:=hx y (by simp [eY])
  have:iF h size (ρ y) (ρ x)=iF h' size (ρ y) (ρ x):=Ec hh
  rw [h1,h2] at this;simp only [bD,step,this,h1,h2]
 |pg x=>simp only [bD,step,hx x (by simp [eY])]
 |bin op b x y=>simp only [bD,step,hx x (by simp [eY]),hx y (by simp [eY])]
 |eqs ks b x y=>simp only [bD,step,hx x (by simp [eY]),hx y (by simp [eY])]
 |clip aa x lo hi mx=>
  have h1:=hx x (by simp [eY])
  have h2:=hx hi (by simp [eY])
  have h3:=hx mx (by simp [eY])
  have hl:lo.map ρ=lo.map ρ':=by cases lo with|none=>rfl|some y=>simp [hx y (by simp [eY])]
  have:gM h (ρ x)=gM h' (ρ x):=xq hh
  rw [h1] at this;simp only [bD,step,Lu,this,h1,h2,h3,hl]
 |R3 f xs=>
  have:ni ρ xs=ni ρ' xs:=by
   have hx':∀x,x∈xs->ρ x=ρ' x:=fun x Z5=>hx x (by simpa [eY] using Z5)
   clear hx hh;induction xs with
   |nil=>rfl
   |cons x xs ih=>
    simp only [ni,hx' x (by simp),ih fun y hy=>hx' y (by simp [hy])]
  simp only [bD,step,this]
 |dQ x xs=>rfl
 |un op x=>simp only [bD,step,hx x (by simp [eY])]
 |conv k x=>simp only [bD,step,hx x (by simp [eY])]
 |toStr x=>
  have h1:=hx x (by simp [eY])
  have:EJ h (ρ x)=EJ h' (ρ x):=JJ hh
  rw [h1] at this;simp only [bD,step,this,h1]
 |mk a b c z l m=>simp only [bD,step,hx l (by simp [eY]),hx m (by simp [eY])]
 |slc aa x lo hi=>
  have h1:=hx x (by simp [eY])
  have hl:lo.map ρ=lo.map ρ':=by cases lo with|none=>rfl|some y=>simp [hx y (by simp [eY])]
  have hr:hi.map ρ=hi.map ρ':=by cases hi with|none=>rfl|some y=>simp [hx y (by simp [eY])]
  have:uW h aa (lo.map ρ) (hi.map ρ) (ρ x)=uW h' aa (lo.map ρ) (hi.map ρ) (ρ x):=Jg hh
  rw [h1,hl,hr] at this;simp only [bD,step,this,h1,hl,hr]
 |Q8 x lo hi=>
  have h1:=hx x (by simp [eY])
  have hl:lo.map ρ=lo.map ρ':=by cases lo with|none=>rfl|some y=>simp [hx y (by simp [eY])]
  have hr:hi.map ρ=hi.map ρ':=by cases hi with|none=>rfl|some y=>simp [hx y (by simp [eY])]
  simp only [bD,step,h1,hl,hr]
 |yC o x=>simp only [bD,step,hx x (by simp [eY])]
 |NL o a s x=>simp only [bD,step,hx x (by simp [eY])]
 |pY aa x i=>
  have h1:=hx x (by simp [eY])
  have h2:=hx i (by simp [eY])
  have:mM h aa (ρ i) (ρ x)=mM h' aa (ρ i) (ρ x):=Fz hh
  rw [h1,h2] at this;simp only [bD,step,this,h1,h2]
 |nM x i=>simp only [bD,step,hx x (by simp [eY]),hx i (by simp [eY])]
 |ext x i=>simp only [bD,step,hx x (by simp [eY])]
 |len b x=>simp only [bD,step,hx x (by simp [eY])]
 |app a b c x y=>
  have h1:=hx x (by simp [eY])
  have h2:=hx y (by simp [eY])
  have:vK h slot a b c (ρ y) (ρ x)=vK h' slot a b c (ρ y) (ρ x):=JP hh
  rw [h1,h2] at this;simp only [bD,step,this,h1,h2]
 |EZ aa x y=>
  have h1:=hx x (by simp [eY])
  have h2:=hx y (by simp [eY])
  have:Gj h aa (ρ y) (ρ x)=Gj h' aa (ρ y) (ρ x):=I9 hh
  rw [h1,h2] at this;simp only [bD,step,this,h1,h2]
 |mx x y=>simp only [bD,step,hx x (by simp [eY]),hx y (by simp [eY])]
 |mn x y=>simp only [bD,step,hx x (by simp [eY]),hx y (by simp [eY])]
 |call f xs=>
  have h1:xs.map ρ=xs.map ρ':=List.map_congr_left fun x Z5=>hx x (by simpa [eY] using Z5)
  have h2:bY h (xs.map ρ)=bY h' (xs.map ρ):=xM (hh.mono fun id hi=>by simpa [touches,List.flatMap_map] using hi)
  rw [h1] at h2;simp only [bD,h2,h1]
 |cu f ow xs=>rfl
 |eZ f xs=>rfl
 |Qq=>rfl
 |tK k n ag z ok x y=>rfl
 |tY k n x y z=>rfl
theorem FC {ρ ρ':X->D} {slot:Nat} {ins:Ins} (hx:∀x,x∈eY ins->ρ x=ρ' x) (hh:Agree (touches ρ ins) h h'):l8 ρ h slot ins=l8 ρ' h' slot ins:=by
 cases ins with
 |tK kind n agg z ok x k=>
  have h1:=hx x (by simp [eY])
  have h2:=hx k (by simp [eY])
  simp only [l8,<-h1,<-h2];split
  ·rename_i id he;rw [hh id (by simp [touches,he])]
  ·rfl
 |tY kind n x k v=>
  have h1:=hx x (by simp [eY])
  have h2:=hx k (by simp [eY])
  have h3:=hx v (by simp [eY])
  simp only [l8,<-h1,<-h2,<-h3];split
  ·rename_i id he;have hf:eP h (ρ v)=eP h' (ρ v):=oI (hh.mono fun i hi=>by simp [touches,hi])
   rw [hf];cases JU kind n (ρ k) with
   |none=>rfl
   |some kv=>
    simp only [Option.bind_some];cases eP h' (ρ v) with
    |none=>rfl
    |some p=>
     simp only [Option.bind_some];rw [Agree.upd p.2 hh id (by simp [touches,he])]
  ·rfl
 |_=>rfl
theorem G6 {call:Callee} {ρ ρ':X->D} {slot:Nat} {ins:Ins} (hx:∀x,x∈eY ins->ρ x=ρ' x) (hh:Agree (touches ρ ins) h h'):gm call ρ h slot ins=gm call ρ' h' slot ins:=by
 unfold gm;split
 ·exact FC hx hh
 ·exact Fx hx hh
end Go.Ey
namespace Go.Ey
open Go.RowKit
theorem lI:∀{ds:List D} {h h':Heap} {ids:List Nat},Agree (ds.flatMap jR) h h'->aQ h ds ids=aQ h' ds ids
 |[],_,_,_,_=>rfl
 |d::ds,h,h',ids,hh=>by
  have hd:Agree (jR d) h h':=hh.mono fun id hi=>by simp [hi]
  have hr:Agree (ds.flatMap jR) h h':=hh.mono fun id hi=>by simp only [List.flatMap_cons,List.mem_append];exact .inr hi
  have gen:∀d:D,(∀id off,d≠.loc id off)->Agree (aO d) h h'->
    (do let (x,u) <-eP h d;let (ax,ids',us) <-aQ (ah h u) ds ids;some (LV.v x::ax,ids',u++us))=(do let (x,u) <-eP h' d;let (ax,ids',us) <-aQ (ah h' u) ds ids;some (LV.v x::ax,ids',u++us):Option (List LV×List Nat×List (Nat×Obj))):=by
   intro d _ ha;rw [oI ha];cases eP h' d with
   |none=>rfl
   |some p=>
    simp only [Option.bind_eq_bind,Option.bind_some];rw [lI (hr.upd p.2)]
  cases d with
  |loc id off=>
   simp only [aQ];split
   ·rw [lI hr]
   ·rfl
  |fK=>exact gen _ (by simp) hd
  |c x=>exact gen _ (by simp) hd
  |arr i o l=>exact gen _ (by simp) hd
  |ptr cs=>exact gen _ (by simp) hd
  |full cs n=>exact gen _ (by simp) hd
  |bJ f cs=>exact gen _ (by simp) hd
  |mp id=>exact gen _ (by simp) hd
  |agg ds=>exact gen _ (by simp) hd
  |dB ds=>exact gen _ (by simp) hd
theorem nZ:∀{ds:List D} {h:Heap} {ids:List Nat} {ax:List LV} {ids':List Nat} {us:List (Nat×Obj)},aQ h ds ids=some (ax,ids',us)->∀id∈ids',id∈ids\/id∈ds.flatMap jR
 |[],h,ids,ax,ids',us,he,id,hi=>by simp only [aQ,Option.some.injEq,Prod.mk.injEq] at he;obtain ⟨rfl,rfl,rfl⟩:=he;exact .inl hi
 |d::ds,h,ids,ax,ids',us,he,id,hi=>by
  simp only [aQ] at he;split at he
  ·rename_i i off;split at he
   ·simp only [Option.bind_eq_bind,Option.bind_eq_some_iff,Prod.exists,Option.some.injEq,Prod.mk.injEq] at he;obtain ⟨as1,XJ,pE,h1,rfl,rfl,rfl⟩:=he;rcases nZ h1 id hi with h2|h2
    ·simp only [List.mem_append,List.mem_singleton] at h2;rcases h2 with h2|rfl
     ·exact .inl h2
     ·exact .inr (by simp [jR])
    ·exact .inr (by simp only [List.flatMap_cons,List.mem_append];exact .inr h2)
   ·cases he
  ·simp only [Option.bind_eq_bind,Option.bind_eq_some_iff,Prod.exists,Option.some.injEq,Prod.mk.injEq] at he;obtain ⟨x,u,h0,as1,XJ,pE,h1,rfl,rfl,rfl⟩:=he;rcases nZ h1 id hi with h2|h2
   ·exact .inl h2
   ·exact .inr (by simp only [List.flatMap_cons,List.mem_append];exact .inr h2)
theorem nN:∀{ids:List Nat} {h h':Heap},Agree ids h h'->bW h ids=bW h' ids
 |[],_,_,_=>rfl
 |id::ids,h,h',hh=>by simp only [bW];rw [hh id (by simp),nN (ids:=ids) fun i hi=>hh i (by simp [hi])]
theorem HY {ai:fo} {f:Nat} {ds:List D} {h h':Heap} (hh:Agree (ds.flatMap jR) h h'):mD ai h f ds=mD ai h' f ds:=by
 unfold mD;rw [lI hh];cases he:aQ h' ds [] with
 |none=>rfl
 |some p=>
  obtain ⟨ax,ids,us⟩:=p;simp only [Option.bind_eq_bind,Option.bind_some];rw [nN (ids:=ids) ((hh.upd us).mono fun id hi=>by
   rcases nZ he id hi with h1|h1
   ·cases h1
   ·exact h1)]
theorem xR {call:Callee} {ai:fo} {ρ ρ':X->D} {slot:Nat} {ins:Ins} {h h':Heap} (hx:∀x,x∈eY ins->ρ x=ρ' x) (hh:Agree (touches ρ ins) h h'):dP call ai ρ h slot ins=dP call ai ρ' h' slot ins:=by
 cases ins with
 |eZ f xs=>
  have h1:xs.map ρ=xs.map ρ':=List.map_congr_left fun x Z5=>hx x (by simpa [eY] using Z5)
  simp only [dP,<-h1];refine HY (hh.mono fun id hi=>?_)
  simp only [List.flatMap_map] at hi;exact hi
 |_=>exact G6 (call:=call) (slot:=slot) hx hh
theorem Dz {P:Program} {ji:Nat->Nat} {o:Oper} {f:Nat} {xs:List X} (h:jg P ji o.op=some (.eZ f xs)):∃args ts,o.op=.call { callee:=.value (.func f),args,argTypes:=ts}/\dK args.toList=some xs:=by
 unfold jg at h;split at h<;>try (cases h;done)
 all_goals simp only [Option.bind_eq_bind,Option.bind_eq_some_iff,Option.some.injEq] at h
 case h_23 f' args ts hop=>
  obtain ⟨ys,h1,h2⟩:=h;split at h2<;>first|(cases h2;done)|(simp only [Ins.eZ.injEq] at h2;obtain ⟨rfl,rfl⟩:=h2;exact ⟨args,ts,hop,h1⟩)
 all_goals (exfalso;revert h)
 case h_25 b args ts hop=>
  rintro ⟨ys,h1,h2⟩;split at h2<;>try (cases h2;done)
  ·split at h2<;>simp at h2
  ·simp only [Option.bind_eq_some_iff] at h2;obtain ⟨_,_,_,_,_,_,h2⟩:=h2;split at h2
   ·split at h2<;>simp at h2
   ·split at h2<;>simp at h2
   ·simp at h2
  ·simp only [Option.bind_eq_some_iff] at h2;obtain ⟨_,_,_,_,h2⟩:=h2;split at h2<;>simp at h2
 case h_11=>rintro ⟨_,_,_,_,h⟩;split at h<;>first|(simp at h;done)|(simp only [Option.bind_eq_some_iff] at h;obtain ⟨_,_,h⟩:=h;split at h<;>first|(simp only [z8] at h;split at h<;>simp at h;done)|(cases h))
 case h_13=>rintro ⟨_,_,h⟩;split at h<;>first|(simp at h;done)|(split at h<;>simp at h)
 case h_15=>rintro ⟨_,_,_,_,_,_,h⟩;split at h<;>first|(simp at h;done)|(simp only [Option.bind_eq_some_iff] at h;obtain ⟨_,_,h⟩:=h;simp at h)
 case h_16=>rintro ⟨_,_,_,_,_,_,_,_,h⟩;split at h<;>first|(simp only [Option.bind_eq_some_iff] at h;obtain ⟨_,_,h⟩:=h;simp at h;done)|(simp at h)
 case h_17=>rintro ⟨_,_,h⟩;split at h<;>simp at h
 case h_21=>rintro ⟨_,_,_,_,h⟩;split at h<;>simp at h
 all_goals (intro h;simp at h)
variable [bz]
def qd (P:Program) (f:Nat) (ax:List LV) (bs:List (List C)) (rs:List V) (bs':List (List C)):Prop:=
 ∃ds h' n' us us',xE P f (ax.map LV.fM) (uX 0 bs) bs.length ds h' n'/\bY h' ds=some (rs,us)/\iV (ah h' us) 0 bs.length=some (bs',us')
section
variable {B:Nat} {S:Nat->Nat->Prop} {P:Program}
def aeg (B:Nat) (S:Nat->Nat->Prop) (m:M) (ids:List Nat) (a:LV) (u:Value):Prop:=
 match a with
 |.v x=>bA m.w (Safe B S m) x u
 |.ref b=>∃id,ids[b]?=some id/\m.U id/\u=.pointer (some ⟨m.β id,0,none⟩)
theorem pX:∀{ds:List D} {us:List Value} {m:M} {ids:List Nat},bF B S m->aj (aX B S m) ds us->ids.Nodup->∀{ax:List LV} {ids':List Nat} {xs:List (Nat×Obj)},aQ m.h ds ids=some (ax,ids',xs)->
  bF B S (m.heap (ah m.h xs))/\ak B S m (m.heap (ah m.h xs))/\(∃new,ids'=ids++new)/\ids'.Nodup/\aj (aeg B S (m.heap (ah m.h xs)) ids') ax us
 |[],[],m,ids,hk,_,hn,ax,ids',xs,hf=>by simp only [aQ,Option.some.injEq,Prod.mk.injEq] at hf;obtain ⟨rfl,rfl,rfl⟩:=hf;exact ⟨hk,ak.refl m,⟨[],by simp⟩,hn,trivial⟩
 |d::ds,u::us,m,ids,hk,hr,hn,ax,ids',xs,hf=>by
  simp only [aQ] at hf;split at hf
  ·rename_i id off;split at hf
   ·rename_i hoff;obtain ⟨rfl,hnc⟩:=hoff;simp only [Option.bind_eq_bind,Option.bind_eq_some_iff,Prod.exists,Option.some.injEq,Prod.mk.injEq] at hf;obtain ⟨as1,XJ,pE,h1,rfl,rfl,rfl⟩:=hf;have hni:id ∉ ids:=by simpa using hnc
    have hn2:(ids++[id]).Nodup:=by rw [List.nodup_append];exact ⟨hn,by simp,fun a ha b hb=>by simp only [List.mem_singleton] at hb;subst hb;exact fun e=>hni (e▸ha)⟩
    obtain ⟨k1,k2,⟨new,k3⟩,k4,k5⟩:=pX hk hr.2 hn2 h1;have hd:m.U id/\u=.pointer (some ⟨m.β id,0,none⟩):=hr.1;refine ⟨k1,k2,⟨id::new,by rw [k3];simp⟩,k4,⟨id,?_,hd.1,hd.2⟩,k5⟩
    rw [k3];simp
   ·cases hf
  ·rename_i hnl;simp only [Option.bind_eq_bind,Option.bind_eq_some_iff,Prod.exists,Option.some.injEq,Prod.mk.injEq] at hf;obtain ⟨x,y,h1,as1,XJ,pE,h2,rfl,rfl,rfl⟩:=hf;have hr1:fO B S m d u:=by
    cases d with
    |dB ds=>simp [eP,gM] at h1
    |_=>exact hr.1
   obtain ⟨k1,k2,k3⟩:=qI hk hr1 h1;have hr2:aj (aX B S (m.heap (ah m.h y))) ds us:=hr.2.mono fun _ _ h=>k2.GI h
   obtain ⟨k4,k5,k6,k7,k8⟩:=pX (m:=m.heap (ah m.h y)) k1 hr2 hn h2;rw [aU];exact ⟨k4,k2.trans k5,k6,k7,bA.mono k5.cell k3,k8⟩
 |[],_::_,_,_,_,hr,_,_,_,_,_=>hr.elim
 |_::_,[],_,_,_,hr,_,_,_,_,_=>hr.elim
theorem sS:∀{ds:List D} {cs:List C} (h:Heap),dU ds=some cs->eD h ds=some (cs,[])
 |[],cs,h,hp=>by simp only [dU,Option.some.injEq] at hp;subst hp;rfl
 |.c x::ds,cs,h,hp=>by simp only [dU,Option.bind_eq_bind,Option.bind_eq_some_iff,Option.some.injEq] at hp;obtain ⟨r,h1,rfl⟩:=hp;simp [eD,gM,ah,sS h h1]
 |.full xs n::ds,cs,h,hp=>by simp only [dU,Option.bind_eq_bind,Option.bind_eq_some_iff,Option.some.injEq] at hp;obtain ⟨r,h1,rfl⟩:=hp;simp [eD,gM,ah,sS h h1]
 |.fK::_,_,_,hp=>by simp [dU] at hp
 |.loc _ _::_,_,_,hp=>by simp [dU] at hp
 |.arr _ _ _::_,_,_,hp=>by simp [dU] at hp
 |.ptr _::_,_,_,hp=>by simp [dU] at hp
 |.bJ _ _::_,_,_,hp=>by simp [dU] at hp
 |.agg _::_,_,_,hp=>by simp [dU] at hp
 |.dB _::_,_,_,hp=>by simp [dU] at hp
theorem Jr {m:M} (hk:bF B S m) {ds:List D} {us:List Value} {cs:List C} (hr:aj (bu B S m) ds us) (hp:dU ds=some cs):aj (aJ m.w (Safe B S m)) cs us:=
 (uU hk hr (sS m.h hp)).2.2
theorem qo:∀{ids:List Nat} {h:Heap} {bs:List (List C)},bW h ids=some bs->bs.length=ids.length/\∀(q id:Nat),ids[q]?=some id->∃(ds:List D) (cs:List C),af h id=.box ds/\dU ds=some cs/\bs[q]?=some cs
 |[],h,bs,hp=>by simp only [bW,Option.some.injEq] at hp;subst hp;exact ⟨rfl,fun q id hq=>by simp at hq⟩
 |i::ids,h,bs,hp=>by
  simp only [bW] at hp;split at hp
  ·rename_i ds ho;simp only [Option.bind_eq_bind,Option.bind_eq_some_iff,Option.some.injEq] at hp;obtain ⟨cs,h1,r,h2,rfl⟩:=hp;obtain ⟨h3,h4⟩:=qo h2;refine ⟨by simp [h3],fun q id hq=>?_⟩
   cases q with
   |zero=>simp only [List.getElem?_cons_zero,Option.some.injEq] at hq;subst hq;exact ⟨ds,cs,ho,h1,rfl⟩
   |succ q=>simp only [List.getElem?_cons_succ] at hq |-;exact h4 q id hq
  ·cases hp
theorem vw:∀(bs:List (List C)) (k q:Nat),(∀cs,k<=q->bs[q - k]?=some cs->af (uX k bs) q=.box (cs.map .c))/\((q < k\/k+bs.length<=q)->af (uX k bs) q=.dead)
 |[],k,q=>⟨fun cs _ h=>by simp at h,fun _=>rfl⟩
 |b::bs,k,q=>by
  obtain ⟨h1,h2⟩:=vw bs (k+1) q;refine ⟨fun cs hk h=>?_,fun h=>?_⟩
  ·simp only [uX,af];by_cases he:k=q
   ·subst he;simp at h;subst h;simp
   ·rw [if_neg he];refine h1 cs (by omega) ?_
    rw [show q - k=(q - (k+1))+1 by omega,List.getElem?_cons_succ] at h
    exact h
  ·simp only [uX,af];simp only [List.length_cons] at h;rw [if_neg (by omega)]
   exact h2 (by omega)
theorem SI {h:Heap} {d:D} {c:C} {us:List (Nat×Obj)} (hf:gM h d=some (c,us)) {id:Nat} {ds:List D} (hb:af h id=.box ds):af (ah h us) id=.box ds:=by
 cases d with
 |arr i off len=>
  simp only [gM] at hf;cases ho:af h i with
  |arr cs aa fz ety=>
   rw [ho] at hf;simp only at hf;split at hf
   ·simp only [Option.some.injEq,Prod.mk.injEq] at hf;obtain ⟨_,rfl⟩:=hf;split
    ·exact hb
    ·have:i≠id:=fun e=>by subst e;rw [ho] at hb;cases hb
     simp [ah,af,this,hb]
   ·cases hf
  |dead=>rw [ho] at hf;cases hf
  |box _=>rw [ho] at hf;cases hf
  |map _=>rw [ho] at hf;cases hf
 |c x=>simp only [gM,Option.some.injEq,Prod.mk.injEq] at hf;obtain ⟨_,rfl⟩:=hf;exact hb
 |full xs n=>simp only [gM,Option.some.injEq,Prod.mk.injEq] at hf;obtain ⟨_,rfl⟩:=hf;exact hb
 |fK=>simp [gM] at hf
 |loc _ _=>simp [gM] at hf
 |bJ _ _=>simp [gM] at hf
 |mp id=>simp [gM] at hf
 |ptr _=>simp [gM] at hf
 |agg _=>simp [gM] at hf
 |dB _=>simp [gM] at hf
theorem FE:∀{ds:List D} {h:Heap} {cs:List C} {us:List (Nat×Obj)},eD h ds=some (cs,us)->∀{id:Nat} {es:List D},af h id=.box es->af (ah h us) id=.box es
 |[],h,cs,us,hf,id,es,hb=>by simp only [eD,Option.some.injEq,Prod.mk.injEq] at hf;obtain ⟨_,rfl⟩:=hf;exact hb
 |d::ds,h,cs,us,hf,id,es,hb=>by simp only [eD,Option.bind_eq_bind,Option.bind_eq_some_iff,Prod.exists,Option.some.injEq,Prod.mk.injEq] at hf;obtain ⟨c,u,h1,r,us',h2,_,rfl⟩:=hf;rw [aU];exact FE h2 (SI h1 hb)
theorem Ah:∀{k q:Nat} {m:M},bF B S m->∀{bs:List (List C)} {us:List (Nat×Obj)},iV m.h q k=some (bs,us)->
  bF B S (m.heap (ah m.h us))/\ak B S m (m.heap (ah m.h us))/\bs.length=k/\(∀id es,af m.h id=.box es->af (ah m.h us) id=.box es)/\
  ∀i cs,bs[i]?=some cs->(∃es,af m.h (q+i)=.box es)/\B<=m.β (q+i)/\∃(vs:List Value) (e:TypeId),m.w.heap[m.β (q+i)]?=some (.cells vs.toArray e (0,0))/\aj (aJ m.w (Safe B S (m.heap (ah m.h us)))) cs vs
 |0,q,m,hk,bs,us,hb=>by simp only [iV,Option.some.injEq,Prod.mk.injEq] at hb;obtain ⟨rfl,rfl⟩:=hb;exact ⟨hk,ak.refl m,rfl,fun _ _ h=>h,fun i cs h=>by simp at h⟩
 |k+1,q,m,hk,bs,us,hb=>by
  simp only [iV] at hb;split at hb
  ·rename_i ds ho;simp only [Option.bind_eq_bind,Option.bind_eq_some_iff,Prod.exists,Option.some.injEq,Prod.mk.injEq] at hb;obtain ⟨cs,u1,h1,r,u2,h2,rfl,rfl⟩:=hb;obtain ⟨hB,vs,e,hw,hall⟩:=hk.box ho;obtain ⟨k1,k2,k3⟩:=uU hk hall h1;obtain ⟨k4,k5,k6,k7,k8⟩:=Ah (m:=m.heap (ah m.h u1)) k1 h2;rw [aU];refine ⟨k4,k2.trans k5,by simp [k6],fun id es h=>k7 id es (FE h1 h),fun i cs' hi=>?_⟩
   cases i with
   |zero=>
    simp only [List.getElem?_cons_zero,Option.some.injEq] at hi;subst hi;exact ⟨⟨ds,ho⟩,hB,vs,e,hw,k3.mono fun x v h=>aJ.mono k5.cell x v h⟩
   |succ i=>
    simp only [List.getElem?_cons_succ] at hi;obtain ⟨⟨es,j0⟩,j1,j2⟩:=k8 i cs' hi;rw [show q+(i+1)=q+1+i by omega]
    refine ⟨?_,j1,j2⟩;obtain ⟨c0,hc0⟩:∃o,af m.h (q+1+i)=o:=⟨_,rfl⟩;cases c0 with
    |box es'=>exact ⟨es',hc0⟩
    |map es'=>
     exfalso;have key:∀{ds:List D} {h:Heap} {cs:List C} {us:List (Nat×Obj)},eD h ds=some (cs,us)->∀p∈us,∃x y z t,p.2=Obj.arr x y z t:=by
      intro ds;induction ds with
      |nil=>intro h cs us hf p hp;simp only [eD,Option.some.injEq,Prod.mk.injEq] at hf;obtain ⟨_,rfl⟩:=hf;cases hp
      |cons d ds ih=>
       intro h cs us hf p hp;simp only [eD,Option.bind_eq_bind,Option.bind_eq_some_iff,Prod.exists,Option.some.injEq,Prod.mk.injEq] at hf;obtain ⟨c,u,g1,r,us',g2,_,rfl⟩:=hf;rcases List.mem_append.1 hp with hp|hp
       ·cases d<;>simp only [gM] at g1
        case arr i2 off len=>
         split at g1
         ·split at g1
          ·simp only [Option.some.injEq,Prod.mk.injEq] at g1;obtain ⟨_,rfl⟩:=g1;split at hp
           ·cases hp
           ·simp only [List.mem_singleton] at hp;subst hp;exact ⟨_,_,_,_,rfl⟩
          ·cases g1
         ·cases g1
        all_goals (first|(cases g1;done)|(simp only [Option.some.injEq,Prod.mk.injEq] at g1;obtain ⟨_,rfl⟩:=g1;cases hp))
       ·exact ih g2 p hp
     have upd:∀(us:List (Nat×Obj)) (h:Heap) (id:Nat),(∀p∈us,∃x y z t,p.2=Obj.arr x y z t)->(∃es,af h id=.map es)\/(∃x y z t,af h id=.arr x y z t)->(∃es,af (ah h us) id=.map es)\/∃x y z t,af (ah h us) id=.arr x y z t:=by
      intro us;induction us with
      |nil=>intro h id _ ha;exact ha
      |cons p us ih=>
       intro h id hp ha;refine ih _ _ (fun q hq=>hp q (by simp [hq])) ?_
       by_cases he:p.1=id
       ·obtain ⟨x,y,z,t,e⟩:=hp p (by simp)
        exact .inr ⟨x,y,z,t,by obtain ⟨p1,p2⟩:=p;simp only at he e;subst he e;simp [af]⟩
       ·rcases ha with ⟨es,ha⟩|⟨x,y,z,t,ha⟩
        ·exact .inl ⟨es,by obtain ⟨p1,p2⟩:=p;simp only at he;simp [af,he,ha]⟩
        ·exact .inr ⟨x,y,z,t,by obtain ⟨p1,p2⟩:=p;simp only at he;simp [af,he,ha]⟩
     have ZO:af (ah m.h u1) (q+1+i)=.box es:=j0;rcases upd u1 m.h (q+1+i) (key h1) (.inl ⟨es',hc0⟩) with ⟨es2,e⟩|⟨x,y,z,t,e⟩<;>rw [e] at ZO<;>cases ZO
    |dead=>
     by_cases hu:m.U (q+1+i)
     ·have:=k2.dead _ hu hc0
      exact absurd (this.symm.trans j0) (by simp)
     ·have:=k1.dom _ hu
      exact absurd (this.symm.trans j0) (by simp)
    |arr c1 c2 c3 c4=>
     exfalso;have key:∀{ds:List D} {h:Heap} {cs:List C} {us:List (Nat×Obj)},eD h ds=some (cs,us)->∀p∈us,∃x y z t,p.2=Obj.arr x y z t:=by
      intro ds;induction ds with
      |nil=>intro h cs us hf p hp;simp only [eD,Option.some.injEq,Prod.mk.injEq] at hf;obtain ⟨_,rfl⟩:=hf;cases hp
      |cons d ds ih=>
       intro h cs us hf p hp;simp only [eD,Option.bind_eq_bind,Option.bind_eq_some_iff,Prod.exists,Option.some.injEq,Prod.mk.injEq] at hf;obtain ⟨c,u,g1,r,us',g2,_,rfl⟩:=hf;rcases List.mem_append.1 hp with hp|hp
       ·cases d<;>simp only [gM] at g1
        case arr i2 off len=>
         split at g1
         ·split at g1
          ·simp only [Option.some.injEq,Prod.mk.injEq] at g1;obtain ⟨_,rfl⟩:=g1;split at hp
           ·cases hp
           ·simp only [List.mem_singleton] at hp;subst hp;exact ⟨_,_,_,_,rfl⟩
          ·cases g1
         ·cases g1
        all_goals (first|(cases g1;done)|(simp only [Option.some.injEq,Prod.mk.injEq] at g1;obtain ⟨_,rfl⟩:=g1;cases hp))
       ·exact ih g2 p hp
     have upd:∀(us:List (Nat×Obj)) (h:Heap) (id:Nat),(∀p∈us,∃x y z t,p.2=Obj.arr x y z t)->(∃x y z t,af h id=.arr x y z t)->∃x y z t,af (ah h us) id=.arr x y z t:=by
      intro us;induction us with
      |nil=>intro h id _ hh;exact hh
      |cons p us ih=>
       intro h id hp hh;refine ih (p::h) id (fun p' hp'=>hp p' (by simp [hp'])) ?_
       obtain ⟨i0,o0⟩:=p;obtain ⟨x,y,z,t,hq⟩:=hp (i0,o0) (by simp)
       simp only at hq;simp only [af];split
       ·exact ⟨x,y,z,t,hq⟩
       ·exact hh
     obtain ⟨x,y,z,t,hq⟩:=upd u1 m.h (q+1+i) (key h1) ⟨_,_,_,_,hc0⟩;have ZO:af (ah m.h u1) (q+1+i)=.box es:=j0;rw [hq] at ZO;cases ZO
  ·cases hb
theorem Bj:∀(ids:List Nat) (bs:List (List C)) (h:Heap) (id:Nat),ids.Nodup->bs.length=ids.length->
  (id ∉ ids->af (ah h ((ids.zip bs).map fun p=>(p.1,Obj.box (p.2.map .c)))) id=af h id)/\
  (∀q:Nat,ids[q]?=some id->∃cs:List C,(bs[q]?:Option (List C))=some cs/\af (ah h ((ids.zip bs).map fun p=>(p.1,Obj.box (p.2.map .c)))) id=.box (cs.map .c))
 |[],bs,h,id,_,hl=>⟨fun _=>by simp [ah],fun q hq=>by simp at hq⟩
 |i::ids,[],h,id,_,hl=>by simp at hl
 |i::ids,b::bs,h,id,hn,hl=>by
  rw [List.nodup_cons] at hn;obtain ⟨h1,h2⟩:=Bj ids bs ((i,.box (b.map .c))::h) id hn.2 (by simpa using hl)
  simp only [List.zip_cons_cons,List.map_cons,ah];refine ⟨fun hni=>?_,fun q hq=>?_⟩
  ·simp only [List.mem_cons,not_or] at hni;rw [h1 hni.2];simp [af,Ne.symm hni.1]
  ·cases q with
   |zero=>
    simp only [List.getElem?_cons_zero,Option.some.injEq] at hq;subst hq;refine ⟨b,rfl,?_⟩;rw [h1 hn.1];simp [af]
   |succ q=>
    simp only [List.getElem?_cons_succ] at hq;obtain ⟨cs,h3,h4⟩:=h2 q hq;exact ⟨cs,h3,h4⟩
theorem Rk:∀rs:List V,ko (rs.map V.fM)=sU rs
 |[]=>rfl
 |[_]=>rfl
 |_::_::_=>rfl
theorem MV {B:Nat} {S:Nat->Nat->Prop} {m:M} {rs:List D} {v:Value} (h:aX B S m (ko rs) v) (hn:∀d,d∈rs->∀q,d≠.dB q):
  ∃us:List Value,aj (fO B S m) rs us/\∀(S2:Nat->Nat->Prop) (m':M) (rs':List D),rs'.length=rs.length->aj (fO B S2 m') rs' us->aX B S2 m' (ko rs') v:=by
 match rs,h,hn with
 |[],h,_=>
  obtain ⟨us,rfl,h2⟩:=h;refine ⟨us,h2,fun S2 m' rs' hl h3=>?_⟩
  match rs',hl with
  |[],_=>exact ⟨us,rfl,h3⟩
 |[d],h,hn=>
  have hA:fO B S m d v:=by
   cases d with
   |dB q=>exact absurd rfl (hn (.dB q) (by simp) q)
   |_=>exact h
  refine ⟨[v],⟨hA,trivial⟩,fun S2 m' rs' hl h3=>?_⟩
  match rs',hl with
  |[d'],_=>exact h3.1.fM
 |d::d'::ds,h,_=>
  obtain ⟨us,rfl,h2⟩:=h;refine ⟨us,h2,fun S2 m' rs' hl h3=>?_⟩
  match rs',hl with
  |_::_::_,_=>exact ⟨us,rfl,h3⟩
theorem Sl {m:M} {o:Oper} {a:Act} {slot:Nat} (hk:bF B S m) (hinv:bz.Inv B m.w) {f:Nat} {args:Array Operand} {ts:Array TypeId} (hop:o.op=.call { callee:=.value (.func f),args,argTypes:=ts}) {ds:List D} (hd:aj (aX B S m) ds (args.map a.eval).toList)
  {ai:fo} (hl:∀f ax bs rs bs',ai f ax bs=some (rs,bs')->qd P f ax bs rs bs') {d:D} {us:List (Nat×Obj)} (hf:mD ai m.h f ds=some (d,us)) {K:Act->World->Prop} {Q:Exit->Act->World->Prop}
  (hK:∀v w',Post B S m slot us d v w'->K (a.put o.dst v) w'):o.wp P a m.w K Q:=by
 simp only [mD,Option.bind_eq_bind,Option.bind_eq_some_iff,Prod.exists] at hf;obtain ⟨ax,ids,iB,h1,bs,h2,rs,bs',h3,hf⟩:=hf;split at hf
 case isFalse=>cases hf
 rename_i hlen;simp only [Option.some.injEq,Prod.mk.injEq] at hf;obtain ⟨rfl,rfl⟩:=hf;obtain ⟨k1,k2,_,k4,k5⟩:=pX hk hd List.nodup_nil h1;obtain ⟨p1,p2⟩:=qo h2;obtain ⟨ds',h',n',pE,yZ,⟨hc,hL⟩,hfr,hbx⟩:=hl _ _ _ _ _ h3
 let S':Nat->Nat->Prop:=fun b o=>S b o/\∀id,id ∉ ids->match af (ah m.h iB) id with|.dead=>True|.box _=>m.β id≠b|.map _=>m.β id≠b|.arr _ _ fz _=>m.β id=b->o < fz
 let mi:M:=⟨m.w,uX 0 bs,fun q=>m.β (ids.getD q 0),fun i=>i < bs.length⟩
 have Et:∀q id,ids[q]?=some id->∃(es:List D) (cs:List C),af (ah m.h iB) id=.box es/\dU es=some cs/\bs[q]?=some cs/\af mi.h q=.box (cs.map .c)/\mi.β q=m.β id:=fun q id hq=>by
  obtain ⟨es,cs,g1,g2,g3⟩:=p2 q id hq;refine ⟨es,cs,g1,g2,g3,?_,?_⟩
  ·exact (vw bs 0 q).1 cs (Nat.zero_le _) (by simpa using g3)
  ·show m.β (ids.getD q 0)=_
   rw [List.getD_eq_getElem?_getD,hq];rfl
 have live:∀q,af mi.h q≠.dead->∃id,ids[q]?=some id:=fun q hq=>by
  by_cases hlt:q < bs.length
  ·exact ⟨ids[q]'(by omega),List.getElem?_eq_getElem (by omega)⟩
  ·exact absurd ((vw bs 0 q).2 (.inr (by omega))) hq
 have Ew:∀b q,Safe B S (m.heap (ah m.h iB)) b q->Safe B S' mi b q:=fun b q hs=>by
  refine ⟨⟨hs.1,fun id _=>hs.2 id⟩,fun j=>?_⟩
  show match af mi.h j with|.dead=>True|.box _=>mi.β j≠b|.map _=>mi.β j≠b|.arr _ _ fz _=>mi.β j=b->q < fz
  by_cases hj:af mi.h j=.dead
  ·rw [hj];trivial
  ·obtain ⟨id,hid⟩:=live j hj;obtain ⟨es,cs,g1,g2,g3,g4,g5⟩:=Et j id hid;rw [g4,g5];have:=hs.2 id
   rw [show af (m.heap (ah m.h iB)).h id=.box es from g1] at this
   exact this
 have hkI:bF B S' mi:=by
  refine ⟨fun q=>?_,fun i j hi hj he=>?_,fun q hq=>?_,k1.base,fun b q hb=>⟨k1.fresh b q hb,fun id _=>?_⟩,fun q cs aa fz ety hq=>?_⟩
  ·unfold tT;by_cases hj:af mi.h q=.dead
   ·rw [hj];trivial
   ·obtain ⟨id,hid⟩:=live q hj;obtain ⟨es,cs,g1,g2,g3,g4,g5⟩:=Et q id hid;obtain ⟨hB,vs,e,hw,hall⟩:=k1.box g1;rw [g4,g5];refine ⟨hB,vs,e,hw,aj.gJ ?_⟩;exact (Jr k1 hall g2).mono fun x v hx=>aJ.mono (fun b q u c1 c2=>⟨c1,Ew b q c2⟩) x v hx
  ·obtain ⟨i1,hi1⟩:=live i hi;obtain ⟨j1,hj1⟩:=live j hj;obtain ⟨es,_,g1,_,_,_,g5⟩:=Et i i1 hi1;obtain ⟨es',_,g1',_,_,_,g5'⟩:=Et j j1 hj1;rw [g5,g5'] at he;have:i1=j1:=k1.inj i1 j1 (by show af (ah m.h iB) i1≠_;rw [g1];simp) (by show af (ah m.h iB) j1≠_;rw [g1'];simp) he
   subst this;have hi2:=(List.getElem?_eq_some_iff.1 hi1);have hj2:=(List.getElem?_eq_some_iff.1 hj1);obtain ⟨a1,a2⟩:=hi2;obtain ⟨b1,b2⟩:=hj2;exact (List.getElem_inj k4).1 (a2.trans b2.symm)
  ·exact (vw bs 0 q).2 (.inr (by have:¬q < bs.length:=hq;omega))
  ·cases ho:af (ah m.h iB) id with
   |dead=>trivial
   |box es=>
    have h9:m.β id < m.w.heap.size:=k1.lt (id:=id) (by show af (ah m.h iB) id≠_;rw [ho];simp)
    have h10:m.w.heap.size<=b:=hb;show m.β id≠b
    omega
   |map es=>
    have h9:m.β id < m.w.heap.size:=k1.lt (id:=id) (by show af (ah m.h iB) id≠_;rw [ho];simp)
    have h10:m.w.heap.size<=b:=hb;show m.β id≠b
    omega
   |arr c1 c2 c3 c4=>
    have h9:m.β id < m.w.heap.size:=k1.lt (id:=id) (by show af (ah m.h iB) id≠_;rw [ho];simp)
    have h10:m.w.heap.size<=b:=hb;show m.β id=b->q < c3
    omega
  ·have hj:af mi.h q≠.dead:=by rw [hq];simp
   obtain ⟨id,hid⟩:=live q hj;obtain ⟨_,_,_,_,_,g4,_⟩:=Et q id hid;rw [g4] at hq;cases hq
 have hargs:aj (aX B S' mi) (ax.map LV.fM) (args.map a.eval).toList:=by
  refine aj.gJ (k5.mono fun x v hx=>?_)
  cases x with
  |v x=>
   have h9:bA m.w (Safe B S (m.heap (ah m.h iB))) x v:=hx;exact (bA.fM (m:=mi) (bA.mono (fun b q u c1 c2=>⟨c1,Ew b q c2⟩) h9)).fM
  |ref b=>
   obtain ⟨id,g1,g2,rfl⟩:=hx;obtain ⟨_,_,_,_,g3,_,g5⟩:=Et b id g1;refine ⟨(List.getElem?_eq_some_iff.1 g3).1,?_⟩;rw [g5];rfl
 unfold Oper.wp;rw [uH hc hop];show Calls P f (args.map a.eval) m.w _
 have he:(args.map a.eval).toList.toArray=args.map a.eval:=Array.toArray_toList;have hcall:=hL B S' mi (args.map a.eval).toList rfl (fun _ hx=>hx) hkI hinv hargs
 rw [he] at hcall;refine hcall.mono fun e w' ⟨v,m',q0,q1,q2,q3,q4,q5,q6,q7,q8⟩=>?_
 subst q0 q1;refine hK v m'.w ?_;obtain ⟨vs,t1,t2⟩:=MV q6 q8;rw [<-q2] at hfr hbx;obtain ⟨r1,r2,r3⟩:=Ad q4 t1 hfr;obtain ⟨x1,x2,x3,x4,x5⟩:=Ah (m:=m'.heap (ah m'.h pE)) r1 hbx;have hev:=(q5.trans r2).trans x2
 let m2:M:=(m'.heap (ah m'.h pE)).heap (ah (ah m'.h pE) yZ)
 let mo:M:=⟨m'.w,ah m.h (iB++(ids.zip bs').map fun p=>(p.1,.box (p.2.map .c))),m.β,fun i=>m.U i\/i=slot⟩
 have hH:mo.h=ah (ah m.h iB) ((ids.zip bs').map fun p=>(p.1,.box (p.2.map .c))):=aU _ _ _
 have hout:∀id,id ∉ ids->af mo.h id=af (ah m.h iB) id:=fun id hni=>by rw [hH];exact (Bj ids bs' _ id k4 hlen).1 hni
 have hin:∀q id,ids[q]?=some id->∃cs:List C,bs'[q]?=some cs/\af mo.h id=.box (cs.map .c):=fun q id hq=>by rw [hH];exact (Bj ids bs' _ id k4 hlen).2 q hq
 have idx:∀id,id∈ids->∃q,ids[q]?=some id:=fun id hi=>List.getElem?_of_mem hi
 have atq:∀q id,ids[q]?=some id->m'.β q=m.β id:=fun q id hq=>by obtain ⟨_,_,_,_,g3,_,g5⟩:=Et q id hq;rw [<-g5];exact q5.at_ q (List.getElem?_eq_some_iff.1 g3).1
 have Gh:∀b q,Safe B S' m2 b q->Safe B S mo b q:=fun b q hs=>by
  refine ⟨hs.1.1,fun id=>?_⟩
  show match af mo.h id with|.dead=>True|.box _=>m.β id≠b|.map _=>m.β id≠b|.arr _ _ fz _=>m.β id=b->q < fz
  by_cases hi:id∈ids
  ·obtain ⟨j,hj⟩:=idx id hi;obtain ⟨cs,g1,g2⟩:=hin j id hj;rw [g2];obtain ⟨⟨es,g3⟩,_⟩:=x5 j cs g1;rw [Nat.zero_add] at g3;have:=hs.2 j
   rw [show af m2.h j=.box es from x4 j es g3] at this
   rw [<-atq j id hj];exact this
  ·rw [hout id hi];exact hs.1.2 id hi
 have Dl:∀id,id∈ids->∃es,af (ah m.h iB) id=.box es:=fun id hi=>by obtain ⟨j,hj⟩:=idx id hi;obtain ⟨es,_,g1,_⟩:=Et j id hj;exact ⟨es,g1⟩
 have hrest:∀b,B<=b->b < m.w.heap.size->(∀q id,ids[q]?=some id->m.β id≠b)->m'.w.heap[b]?=m.w.heap[b]?:=fun b hB hb hn=>by
  refine (q5.rest b hB hb fun q hq=>?_).1
  obtain ⟨id,hid⟩:=live q hq;obtain ⟨_,_,_,_,_,_,g5⟩:=Et q id hid;rw [g5];exact hn q id hid
 have O1:∀id,af mo.h id≠.dead->af (ah m.h iB) id≠.dead:=fun id hid=>by
  by_cases hi:id∈ids
  ·obtain ⟨es,g1⟩:=Dl id hi;rw [g1];simp
  ·rw [<-hout id hi];exact hid
 have other:∀id,id ∉ ids->af (ah m.h iB) id≠.dead->m'.w.heap[m.β id]?=m.w.heap[m.β id]?:=fun id hni hd=>by
  refine hrest _ (k1.ge (id:=id) hd) (k1.lt (id:=id) hd) fun q id' hq he=>?_
  obtain ⟨es,g1⟩:=Dl id' (List.mem_of_getElem? hq);have:id'=id:=k1.inj id' id (by show af (ah m.h iB) id'≠_;rw [g1];simp) hd he
  exact hni (this▸List.mem_of_getElem? hq)
 have ev1:ak B S (m.heap (ah m.h iB)) mo:=by
  refine ⟨fun b q u c1 c2=>?_,fun id hu=> .inl hu,fun id hu hd=>?_,fun id _=>rfl,fun id cs' bU gX dW hu hg=>?_,fun b hB hb hn=>?_⟩
  ·obtain ⟨c3,_⟩:=hev.cell b q u c1 (Ew b q c2);refine ⟨c3,c2.1,fun id=>?_⟩
   show match af mo.h id with|.dead=>True|.box _=>m.β id≠b|.map _=>m.β id≠b|.arr _ _ fz _=>m.β id=b->q < fz
   by_cases hi:id∈ids
   ·obtain ⟨j,hj⟩:=idx id hi;obtain ⟨cs,_,g2⟩:=hin j id hj;rw [g2];obtain ⟨es,g1⟩:=Dl id hi;have:=c2.2 id
    rw [show af (m.heap (ah m.h iB)).h id=.box es from g1] at this
    exact this
   ·rw [hout id hi];exact c2.2 id
  ·by_cases hi:id∈ids
   ·obtain ⟨es,g1⟩:=Dl id hi;have hd':af (ah m.h iB) id=.dead:=hd;rw [g1] at hd';cases hd'
   ·rw [hout id hi];exact hd
  ·by_cases hi:id∈ids
   ·obtain ⟨j,hj⟩:=idx id hi;obtain ⟨cs,_,g2⟩:=hin j id hj;rw [g2] at hg;cases hg
   ·rw [hout id hi] at hg;refine ⟨cs',gX,hg,?_⟩;have:=other id hi (by rw [hg];simp)
    show m'.w.shape? (m.β id)=m.w.shape? (m.β id)
    simp only [World.shape?,this]
  ·refine ⟨hrest b hB hb fun q id hq=>?_,fun id hd=>hn id (O1 id hd)⟩
   obtain ⟨es,g1⟩:=Dl id (List.mem_of_getElem? hq);exact hn id (by show af (ah m.h iB) id≠_;rw [g1];simp)
 have hko:bF B S mo:=by
  refine ⟨fun id=>?_,fun i j hi hj he=>k1.inj i j (O1 i hi) (O1 j hj) he,fun id hu=>?_,q4.base,fun b q hb=>(q4.fresh b q hb).1,fun id cs aa fz ety hg q=>?_⟩
  ·unfold tT;by_cases hi:id∈ids
   ·obtain ⟨j,hj⟩:=idx id hi;obtain ⟨cs,g1,g2⟩:=hin j id hj;rw [g2];obtain ⟨_,g4,vs',e',g5,g6⟩:=x5 j cs g1;rw [Nat.zero_add] at g4 g5;have hβ:(m'.heap (ah m'.h pE)).β j=m.β id:=atq j id hj;rw [hβ] at g4 g5;refine ⟨g4,vs',e',g5,aj.gJ ?_⟩;exact g6.mono fun x u hx=>aJ.mono (fun b q u c1 c2=>⟨c1,Gh b q c2⟩) x u hx
   ·rw [hout id hi];by_cases hd:af (ah m.h iB) id=.dead
    ·rw [hd];trivial
    ·exact ev1.xZ (other id hi hd) (k1.obj id)
  ·have hu':¬m.U id:=fun h=>hu (.inl h)
   by_cases hi:id∈ids
   ·obtain ⟨es,g1⟩:=Dl id hi;have:=k1.dom id hu'
    rw [show af (m.heap (ah m.h iB)).h id=.box es from g1] at this
    cases this
   ·rw [hout id hi];exact k1.dom id hu'
  ·by_cases hi:id∈ids
   ·obtain ⟨j,hj⟩:=idx id hi;obtain ⟨cs',_,g2⟩:=hin j id hj;rw [g2] at hg;cases hg
   ·rw [hout id hi] at hg;exact k1.Bz id cs aa fz ety hg q
 refine ⟨m.β,hko,k2.trans ev1,?_,q7⟩;have r4:aj (fO B S mo) (rs.map V.fM) vs:=by
  refine aj.gJ (r3.mono fun x u hx=>?_)
  have h9:bA m'.w (Safe B S' m2) x u:=bA.mono x2.cell hx;exact bA.fM (m:=mo) (bA.mono (fun b q u c1 c2=>⟨c1,Gh b q c2⟩) h9)
 have r5:aX B S mo (ko (rs.map V.fM)) v:=t2 S mo _ (by rw [List.length_map,r3.len,<-t1.len]) r4
 rw [Rk] at r5;exact r5
theorem N9 {ji:Nat->Nat} {nt:Nat} {w0:World} {e:Env} {m:M} {o:Oper} {a:Act} {slot:Nat} {d:D} {us:List (Nat×Obj)} {ops:Array Oper} {i:aW} (h:lU P ji nt ops o=some i) (hns:∀f ow xs,i.ins≠.cu f ow xs) (hnv:∀x xs,i.ins≠.dQ x xs) (hr:Rel B S w0 nt m e a) (hs:¬m.U slot) {call:Callee} (hcall:∀f vs rs,call f vs=some rs->bR P f vs rs)
  {ai:fo} (hl:∀f ax bs rs bs',ai f ax bs=some (rs,bs')->qd P f ax bs rs bs')
  (hst:dP call ai (iI e) m.h slot i.ins=some (d,us)) {K:Act->World->Prop} {Q:Exit->Act->World->Prop}
  (hK:∀(a':Act) (m':M),m'.h=ah m.h us->m'.U=(fun i=>m.U i\/i=slot)->ak B S m m'->Rel B S w0 nt m' (dO e i.dst d) a'->K a' m'.w):o.wp P a m.w K Q:=by
 have other:(∀f xs,i.ins≠.eZ f xs)->gm call (iI e) m.h slot i.ins=some (d,us):=fun hne=>by
  rw [<-hst];cases hins:i.ins with
  |eZ f xs=>exact absurd hins (hne f xs)
  |_=>rfl
 by_cases hne:∃f xs,i.ins=.eZ f xs
 ·obtain ⟨f,xs,hins⟩:=hne;obtain ⟨h1,h2,h3,_⟩:=dJ h;rw [hins] at hst h1;simp only [dP] at hst;obtain ⟨args,ts,hop,h7⟩:=Dz (nR h1 rfl);have hall:=jA hr h7;refine Sl (slot:=slot) hr.hok hr.inv hop (by simpa using hall) hl hst ?_
  rintro v w' ⟨β',p1,p2,p3,p4⟩;have:=(hr.mO p2 p1 p4).put h3 p3
  rw [h2] at hK;exact hK _ _ rfl rfl p2 this
 ·have h4:=other fun f xs e=>hne ⟨f,xs,e⟩
  unfold gm at h4;split at h4
  ·rename_i hm;obtain ⟨p1,p2,p3,_⟩:=dJ h;have hcm:mJ P o.op=some i.ins:=by
    rcases ny p1 with ⟨_,h3⟩|⟨h3,_⟩
    ·exact h3
    ·rw [hm] at h3;cases h3
   obtain ⟨n,v,w',h5,h6,h7⟩:=Gp hcm hr.hok hr.opd (slot:=slot) hs h4;have fin:∀v w',Post B S m slot us d v w'->K (a.put o.dst v) w':=by
    rintro v w' ⟨β',q1,q2,q3,q4⟩;have:=(hr.mO q2 q1 q4).put p3 q3
    rw [p2] at hK;exact hK _ _ rfl rfl q2 this
   unfold Oper.wp;rw [h5];rcases h6 with rfl|⟨rfl,rfl⟩
   ·exact fin v w' h7
   ·exact fin undef w' h7
  ·exact Ku h hns hnv hr hs hcall h4 hK
end
end Go.Ey
