/- A part. -/
import Derived.Test.YtolnnaanmfnkjaaGreatDoorY13
set_option linter.all false
namespace Go.Ey
def Agree (L:List Nat) (h h':Heap):Prop:=∀id,id∈L->aH h id=aH h' id
theorem Agree.mono {L L':List Nat} {h h':Heap} (hh:Agree L h h') (hs:∀id,id∈L'->id∈L):Agree L' h h':=fun id hi=>hh id (hs id hi)
theorem Agree.upd {L:List Nat}:∀(us:List (Nat×Obj)) {h h':Heap},Agree L h h'->Agree L (aK h us) (aK h' us)
 |[],_,_,hh=>hh
 |u::us,h,h',hh=>by
  refine Agree.upd us (h:=u::h) (h':=u::h') fun id hi=>?_
  obtain ⟨i,o⟩:=u;simp only [aH];rw [hh id hi]
variable {h h':Heap}
theorem UK {agg:Bool} {size:Nat} {d:D} (hh:Agree (match d with|.loc id _=>[id]|_=>[]) h h'):kG h agg size d=kG h' agg size d:=by
 cases d with
 |loc id off=>simp only [kG,hh id (by simp)]
 |_=>rfl
theorem Ls {d:D} (hh:Agree (dI d) h h'):oo h d=oo h' d:=by
 cases d with
 |arr id off len=>simp only [oo,hh id (by simp [dI])]
 |_=>rfl
def mQ:List D->List Nat
 |[]=>[]
 |.arr id _ _::ds=>id::mQ ds
 |_::ds=>mQ ds
theorem LM (ds:List D):mQ ds=ds.flatMap fun|.arr id _ _=>[id]|_=>[]:=by
 induction ds with
 |nil=>rfl
 |cons d ds ih=>cases d<;>simp [mQ,ih]
theorem D5 {ds:List D} {id:Nat}:id∈mQ ds↔∃off len,D.arr id off len∈ds:=by
 induction ds with
 |nil=>simp [mQ]
 |cons d ds ih=>
  cases d with
  |arr i o l=>
   simp only [mQ,D1,ih];constructor
   ·rintro (rfl|⟨off,len,h⟩)
    ·exact ⟨o,l,.inl rfl⟩
    ·exact ⟨off,len,.inr h⟩
   ·rintro ⟨off,len,h|h⟩
    ·injection h with h1 _ _;exact .inl h1
    ·exact .inr ⟨off,len,h⟩
  |_=>simp [mQ,ih]
theorem Hq:∀{ds:List D} {h h':Heap},Agree (mQ ds) h h'->lZ h ds=lZ h' ds
 |[],_,_,_=>rfl
 |d::ds,h,h',hh=>by
  have h1:oo h d=oo h' d:=by
   cases d with
   |arr id off len=>exact Ls fun i hi=>hh i (by simp only [dI,By] at hi;simp [mQ,hi])
   |_=>rfl
  simp only [lZ,h1];cases hf:oo h' d with
  |none=>rfl
  |some p=>
   obtain ⟨c,u⟩:=p;have h2:lZ (aK h u) ds=lZ (aK h' u) ds:=Hq (Agree.upd u (hh.mono fun id hi=>by cases d<;>simp [mQ]<;>first|exact hi|exact .inr hi))
   simp only [A2,A4,h2]
theorem Hl {d:D} (hh:Agree (dI d) h h'):nP h d=nP h' d:=by
 cases d with
 |agg ds=>
  have:lZ h ds=lZ h' ds:=Hq (hh.mono fun id hi=>by rw [LM] at hi;exact hi)
  simp only [nP,this]
 |_=>simp only [nP,Ls hh]
theorem LH:∀{ds:List D} {h h':Heap},Agree (ds.flatMap dI) h h'->jV h ds=jV h' ds
 |[],_,_,_=>rfl
 |d::ds,h,h',hh=>by
  have h1:nP h d=nP h' d:=Hl (hh.mono fun id hi=>by simp [hi])
  simp only [jV,h1];cases hf:nP h' d with
  |none=>rfl
  |some p=>
   obtain ⟨c,u⟩:=p;have h2:jV (aK h u) ds=jV (aK h' u) ds:=LH (Agree.upd u (hh.mono fun id hi=>by rw [D3];exact Kx _ hi))
   simp only [A2,A4,h2]
theorem EY {ay:Nat} {d:D} (hh:Agree (dI d) h h'):jU h ay d=jU h' ay d:=by
 cases d with
 |arr id off len=>simp only [jU,hh id (by simp [dI])]
 |c x=>unfold jU;split<;>simp_all
 |_=>rfl
theorem Ym {d:D} (hh:Agree (dI d) h h'):Ug h d=Ug h' d:=by
 unfold Ug;split
 ·rfl
 ·exact EY hh
theorem X4 {ay:Nat} {lo hi:Option D} {d:D} (hh:Agree (dI d) h h'):ME h ay lo hi d=ME h' ay lo hi d:=by
 cases d with
 |arr id off len=>simp only [ME,hh id (by simp [dI])]
 |c x=>unfold ME;split<;>simp_all
 |_=>rfl
theorem Xy {ay:Nat} {i:D} {d:D} (hh:Agree (dI d) h h'):Ej h ay i d=Ej h' ay i d:=by
 cases d with
 |arr id off len=>simp only [Ej,hh id (by simp [dI])]
 |c x=>unfold Ej;split<;>simp_all
 |_=>rfl
theorem YZ {slot ay ety bytes:Nat} {y d:D} (hh:Agree (dI d++dI y) h h'):Lt h slot ay ety bytes y d=Lt h' slot ay ety bytes y d:=by
 have hs:jU h ay y=jU h' ay y:=EY (hh.mono fun id hi=>by simp [hi])
 cases d with
 |arr id off len=>simp only [Lt,hh id (by simp [dI]),hs]
 |full ds k=>simp only [Lt,hs]
 |_=>rfl
theorem ZJ {ay:Nat} {y d:D} (hh:Agree (dI d++dI y) h h'):Vx h ay y d=Vx h' ay y d:=by
 have hs:jU h ay y=jU h' ay y:=EY (hh.mono fun id hi=>by simp [hi])
 cases d with
 |arr id off len=>simp only [Vx,hh id (by simp [dI]),hs]
 |_=>rfl
theorem Ut {size:Nat} {v d:D} (hh:Agree ((match d with|.loc id _=>[id]|_=>[])++dI v) h h'):Ch h size v d=Ch h' size v d:=by
 have hs:nP h v=nP h' v:=Hl (hh.mono fun id hi=>by simp [hi])
 cases d with
 |loc id off=>
  have h1:=hh id (by simp)
  simp only [Ch,h1,hs];cases aH h' id with
  |arr cs ay fz ety=>
   cases hf:nP h' v with
   |none=>rfl
   |some p=>
    obtain ⟨x,us⟩:=p;simp only [A2,A4];rw [Agree.upd us hh id (by simp)]
  |_=>rfl
 |_=>rfl
theorem FW {ρ ρ':X->D}:∀{ps:List (Nat×Nat×X)} {cs:List D},(∀p,p∈ps->ρ p.2.2=ρ' p.2.2)->r9 ρ cs ps=r9 ρ' cs ps
 |[],_,_=>rfl
 |(off,size,x)::ps,cs,hp=>by
  have h1:ρ x=ρ' x:=hp (off,size,x) (by simp)
  simp only [r9,h1];cases cellsD (ρ' x) with
  |none=>rfl
  |some ds=>
   simp only [A2,A4];rw [FW (fun p h=>hp p (by simp [h]))]
theorem Zg {d:D} {ds:List D} (h:cellsD d=some ds):∀id,id∈mQ ds->id∈dI d:=by
 intro id hi;unfold cellsD at h;split at h
 ·rename_i ds';split at h
  ·simp only [A0] at h;subst h;rw [LM] at hi;exact hi
  ·cases h
 ·split at h
  ·simp only [A0] at h;subst h;cases d<;>simp [mQ] at hi
   simp [dI,hi]
  ·cases h
theorem QG {ρ:X->D}:∀{ps:List (Nat×Nat×X)} {cs ds:List D},r9 ρ cs ps=some ds->∀id,id∈mQ ds->id∈mQ cs\/id∈ps.flatMap fun p=>dI (ρ p.2.2)
 |[],cs,ds,h,id,hi=>by simp only [r9,A0] at h;subst h;exact .inl hi
 |(off,size,x)::ps,cs,ds,h,id,hi=>by
  simp only [r9,A2,A1] at h;obtain ⟨xs,h1,h2⟩:=h;split at h2
  case isFalse=>cases h2
  rcases QG h2 id hi with h3|h3
  ·rw [D5] at h3;obtain ⟨o,l,h4⟩:=h3;unfold splice at h4;simp only [Bx] at h4;rcases h4 with (h4|h4)|h4
   ·exact .inl (D5.2 ⟨o,l,I2 h4⟩)
   ·refine .inr ?_;rw [D3];exact J0 _ (Zg h1 id (D5.2 ⟨o,l,h4⟩))
   ·exact .inl (D5.2 ⟨o,l,List.mem_of_mem_drop h4⟩)
  ·refine .inr ?_;rw [D3];exact Kx _ h3
theorem ac2 (cs:List C):mQ (cs.map D.c)=[]:=by
 induction cs with
 |nil=>rfl
 |cons c cs ih=>simpa [mQ] using ih
theorem Wq {call:Callee} {ρ ρ':X->D} {slot:Nat} {ins:Ins} (hx:∀x,x∈nM ins->ρ x=ρ' x) (hh:Agree (touches ρ ins) h h'):eU call ρ h slot ins=eU call ρ' h' slot ins:=by
 cases ins with
 |ZN x=>simp only [eU,step,hx x (by simp [nM])]
 |pick c a b=>simp only [eU,step,hx c (by simp [nM]),hx a (by simp [nM]),hx b (by simp [nM])]
 |alloc z=>rfl
 |box x=>simp only [eU,step,hx x (by simp [nM])]
 |build z ps=>
  have:∀cs,r9 ρ cs ps=r9 ρ' cs ps:=fun cs=>FW fun p hp=>hx _ (by simp only [nM];exact Kf.2 ⟨p,hp,rfl⟩)
  simp only [eU,step,this]
 |lits a b c z ps=>
  have h1:∀cs,r9 ρ cs ps=r9 ρ' cs ps:=fun cs=>FW fun p hp=>hx _ (by simp only [nM];exact Kf.2 ⟨p,hp,rfl⟩)
  simp only [eU,step,<-h1];cases hf:r9 ρ ((zeros z c).map .c) ps with
  |none=>rfl
  |some ds=>
   have h2:lZ h ds=lZ h' ds:=Hq (hh.mono fun id hi=>by
    rcases QG hf id hi with h3|h3
    ·rw [ac2] at h3;cases h3
    ·exact h3)
   simp only [A2,A4,h2]
 |load agg size x=>
  have h1:=hx x (by simp [nM])
  have:kG h agg size (ρ x)=kG h' agg size (ρ x):=UK hh
  rw [h1] at this;simp only [eU,step,this,h1]
 |store size x y=>
  have h1:=hx x (by simp [nM])
  have h2:=hx y (by simp [nM])
  have:Ch h size (ρ y) (ρ x)=Ch h' size (ρ y) (ρ x):=Ut hh
  rw [h1,h2] at this;simp only [eU,step,this,h1,h2]
 |GY x=>simp only [eU,step,hx x (by simp [nM])]
 |bin op b x y=>simp only [eU,step,hx x (by simp [nM]),hx y (by simp [nM])]
 |eqs ks b x y=>simp only [eU,step,hx x (by simp [nM]),hx y (by simp [nM])]
 |clip ay x lo hi mx=>
  have h1:=hx x (by simp [nM])
  have h2:=hx hi (by simp [nM])
  have h3:=hx mx (by simp [nM])
  have hl:lo.map ρ=lo.map ρ':=by cases lo with|none=>rfl|some y=>simp [hx y (by simp [nM])]
  have:oo h (ρ x)=oo h' (ρ x):=Ls hh
  rw [h1] at this;simp only [eU,step,Qx,this,h1,h2,h3,hl]
 |mkf f xs=>
  have:Cj ρ xs=Cj ρ' xs:=by
   have hx':∀x,x∈xs->ρ x=ρ' x:=fun x hxx=>hx x (by simpa [nM] using hxx)
   clear hx hh;induction xs with
   |nil=>rfl
   |cons x xs ih=>
    simp only [Cj,hx' x (by simp),ih fun y hy=>hx' y (by simp [hy])]
  simp only [eU,step,this]
 |kX x xs=>rfl
 |un op x=>simp only [eU,step,hx x (by simp [nM])]
 |conv k x=>simp only [eU,step,hx x (by simp [nM])]
 |toStr x=>
  have h1:=hx x (by simp [nM])
  have:Ug h (ρ x)=Ug h' (ρ x):=Ym hh
  rw [h1] at this;simp only [eU,step,this,h1]
 |mk a b c z l m=>simp only [eU,step,hx l (by simp [nM]),hx m (by simp [nM])]
 |slc ay x lo hi=>
  have h1:=hx x (by simp [nM])
  have hl:lo.map ρ=lo.map ρ':=by cases lo with|none=>rfl|some y=>simp [hx y (by simp [nM])]
  have hr:hi.map ρ=hi.map ρ':=by cases hi with|none=>rfl|some y=>simp [hx y (by simp [nM])]
  have:ME h ay (lo.map ρ) (hi.map ρ) (ρ x)=ME h' ay (lo.map ρ) (hi.map ρ) (ρ x):=X4 hh
  rw [h1,hl,hr] at this;simp only [eU,step,this,h1,hl,hr]
 |sls x lo hi=>
  have h1:=hx x (by simp [nM])
  have hl:lo.map ρ=lo.map ρ':=by cases lo with|none=>rfl|some y=>simp [hx y (by simp [nM])]
  have hr:hi.map ρ=hi.map ρ':=by cases hi with|none=>rfl|some y=>simp [hx y (by simp [nM])]
  simp only [eU,step,h1,hl,hr]
 |Qa o x=>simp only [eU,step,hx x (by simp [nM])]
 |fld o a s x=>simp only [eU,step,hx x (by simp [nM])]
 |Iq ay x i=>
  have h1:=hx x (by simp [nM])
  have h2:=hx i (by simp [nM])
  have:Ej h ay (ρ i) (ρ x)=Ej h' ay (ρ i) (ρ x):=Xy hh
  rw [h1,h2] at this;simp only [eU,step,this,h1,h2]
 |Ct x i=>simp only [eU,step,hx x (by simp [nM]),hx i (by simp [nM])]
 |ext x i=>simp only [eU,step,hx x (by simp [nM])]
 |len b x=>simp only [eU,step,hx x (by simp [nM])]
 |app a b c x y=>
  have h1:=hx x (by simp [nM])
  have h2:=hx y (by simp [nM])
  have:Lt h slot a b c (ρ y) (ρ x)=Lt h' slot a b c (ρ y) (ρ x):=YZ hh
  rw [h1,h2] at this;simp only [eU,step,this,h1,h2]
 |R6 ay x y=>
  have h1:=hx x (by simp [nM])
  have h2:=hx y (by simp [nM])
  have:Vx h ay (ρ y) (ρ x)=Vx h' ay (ρ y) (ρ x):=ZJ hh
  rw [h1,h2] at this;simp only [eU,step,this,h1,h2]
 |mx x y=>simp only [eU,step,hx x (by simp [nM]),hx y (by simp [nM])]
 |mn x y=>simp only [eU,step,hx x (by simp [nM]),hx y (by simp [nM])]
 |call f xs=>
  have h1:xs.map ρ=xs.map ρ':=List.map_congr_left fun x hxx=>hx x (by simpa [nM] using hxx)
  have h2:jV h (xs.map ρ)=jV h' (xs.map ρ):=LH (hh.mono fun id hi=>by simpa [touches,Mz] using hi)
  rw [h1] at h2;simp only [eU,h2,h1]
 |jB f ow xs=>rfl
 |mV f xs=>rfl
 |mkm=>rfl
 |PY k n ag z ok x y=>rfl
 |PX k n x y z=>rfl
theorem Xh {ρ ρ':X->D} {slot:Nat} {ins:Ins} (hx:∀x,x∈nM ins->ρ x=ρ' x) (hh:Agree (touches ρ ins) h h'):aax ρ h slot ins=aax ρ' h' slot ins:=rfl
theorem Vg {call:Callee} {ρ ρ':X->D} {slot:Nat} {ins:Ins} (hx:∀x,x∈nM ins->ρ x=ρ' x) (hh:Agree (touches ρ ins) h h'):oK call ρ h slot ins=oK call ρ' h' slot ins:=by
 unfold oK;split
 ·exact Xh hx hh
 ·exact Wq hx hh
end Go.Ey
namespace Go.Ey
open Go.RowKit
theorem Az:∀{ds:List D} {h h':Heap} {ids:List Nat},Agree (ds.flatMap zu) h h'->eT h ds ids=eT h' ds ids
 |[],_,_,_,_=>rfl
 |d::ds,h,h',ids,hh=>by
  have hd:Agree (zu d) h h':=hh.mono fun id hi=>by simp [hi]
  have hr:Agree (ds.flatMap zu) h h':=hh.mono fun id hi=>by simp only [D3,Bx];exact .inr hi
  have gen:∀d:D,(∀id off,d≠.loc id off)->Agree (dI d) h h'->
    (do let (x,u) <-nP h d;let (aY,ids',us) <-eT (aK h u) ds ids;some (LV.v x::aY,ids',u++us))=(do let (x,u) <-nP h' d;let (aY,ids',us) <-eT (aK h' u) ds ids;some (LV.v x::aY,ids',u++us):Option (List LV×List Nat×List (Nat×Obj))):=by
   intro d _ ha;rw [Hl ha];cases nP h' d with
   |none=>rfl
   |some p=>
    simp only [A2,A4];rw [Az (hr.upd p.2)]
  cases d with
  |loc id off=>
   simp only [eT];split
   ·rw [Az hr]
   ·rfl
  |uf=>exact gen _ (by simp) hd
  |c x=>exact gen _ (by simp) hd
  |arr i o l=>exact gen _ (by simp) hd
  |ptr cs=>exact gen _ (by simp) hd
  |full cs n=>exact gen _ (by simp) hd
  |fD f cs=>exact gen _ (by simp) hd
  |mp id=>exact gen _ (by simp) hd
  |agg ds=>exact gen _ (by simp) hd
  |lC ds=>exact gen _ (by simp) hd
theorem D7:∀{ds:List D} {h:Heap} {ids:List Nat} {aY:List LV} {ids':List Nat} {us:List (Nat×Obj)},eT h ds ids=some (aY,ids',us)->∀id∈ids',id∈ids\/id∈ds.flatMap zu
 |[],h,ids,aY,ids',us,he,id,hi=>by simp only [eT,A0,A3] at he;obtain ⟨rfl,rfl,rfl⟩:=he;exact .inl hi
 |d::ds,h,ids,aY,ids',us,he,id,hi=>by
  simp only [eT] at he;split at he
  ·rename_i i off;split at he
   ·simp only [A2,A1,C0,A0,A3] at he;obtain ⟨as1,akF,Et,h1,rfl,rfl,rfl⟩:=he;rcases D7 h1 id hi with h2|h2
    ·simp only [Bx,By] at h2;rcases h2 with h2|rfl
     ·exact .inl h2
     ·exact .inr (by simp [zu])
    ·exact .inr (by simp only [D3,Bx];exact .inr h2)
   ·cases he
  ·simp only [A2,A1,C0,A0,A3] at he;obtain ⟨x,u,h0,as1,akF,Et,h1,rfl,rfl,rfl⟩:=he;rcases D7 h1 id hi with h2|h2
   ·exact .inl h2
   ·exact .inr (by simp only [D3,Bx];exact .inr h2)
theorem CB:∀{ids:List Nat} {h h':Heap},Agree ids h h'->ku h ids=ku h' ids
 |[],_,_,_=>rfl
 |id::ids,h,h',hh=>by simp only [ku];rw [hh id (by simp),CB (ids:=ids) fun i hi=>hh i (by simp [hi])]
theorem UZ {bg:Cv} {f:Nat} {ds:List D} {h h':Heap} (hh:Agree (ds.flatMap zu) h h'):Eg bg h f ds=Eg bg h' f ds:=by
 unfold Eg;rw [Az hh];cases he:eT h' ds [] with
 |none=>rfl
 |some p=>
  obtain ⟨aY,ids,us⟩:=p;simp only [A2,A4];rw [CB (ids:=ids) ((hh.upd us).mono fun id hi=>by
   rcases D7 he id hi with h1|h1
   ·cases h1
   ·exact h1)]
theorem L8 {call:Callee} {bg:Cv} {ρ ρ':X->D} {slot:Nat} {ins:Ins} {h h':Heap} (hx:∀x,x∈nM ins->ρ x=ρ' x) (hh:Agree (touches ρ ins) h h'):lW call bg ρ h slot ins=lW call bg ρ' h' slot ins:=by
 cases ins with
 |mV f xs=>
  have h1:xs.map ρ=xs.map ρ':=List.map_congr_left fun x hxx=>hx x (by simpa [nM] using hxx)
  simp only [lW,<-h1];refine UZ (hh.mono fun id hi=>?_)
  simp only [Mz] at hi;exact hi
 |_=>exact Vg (call:=call) (slot:=slot) hx hh
theorem Ti {P:Program} {zf:Nat->Nat} {o:Oper} {f:Nat} {xs:List X} (h:sw P zf o.op=some (.mV f xs)):∃args ts,o.op=.call { callee:=.value (.func f),args,argTypes:=ts}/\jM args.toList=some xs:=by
 unfold sw at h;split at h<;>try (cases h;done)
 all_goals simp only [A2,A1,A0] at h
 case h_23 f' args ts hop=>
  obtain ⟨ys,h1,h2⟩:=h;split at h2<;>first|(cases h2;done)|(simp only [Ins.mV.injEq] at h2;obtain ⟨rfl,rfl⟩:=h2;exact ⟨args,ts,hop,h1⟩)
 all_goals (exfalso;revert h)
 case h_25 b args ts hop=>
  rintro ⟨ys,h1,h2⟩;split at h2<;>try (cases h2;done)
  ·split at h2<;>simp at h2
  ·simp only [A1] at h2;obtain ⟨_,_,_,_,_,_,h2⟩:=h2;split at h2
   ·split at h2<;>simp at h2
   ·split at h2<;>simp at h2
   ·simp at h2
  ·simp only [A1] at h2;obtain ⟨_,_,_,_,h2⟩:=h2;split at h2<;>simp at h2
 case h_11=>rintro ⟨_,_,_,_,h⟩;split at h<;>first|(simp at h;done)|(simp only [A1] at h;obtain ⟨_,_,h⟩:=h;split at h<;>first|(simp only [Oj] at h;split at h<;>simp at h;done)|(cases h))
 case h_13=>rintro ⟨_,_,h⟩;split at h<;>first|(simp at h;done)|(split at h<;>simp at h)
 case h_15=>rintro ⟨_,_,_,_,_,_,h⟩;split at h<;>first|(simp at h;done)|(simp only [A1] at h;obtain ⟨_,_,h⟩:=h;simp at h)
 case h_16=>rintro ⟨_,_,_,_,_,_,_,_,h⟩;split at h<;>first|(simp only [A1] at h;obtain ⟨_,_,h⟩:=h;simp at h;done)|(simp at h)
 case h_17=>rintro ⟨_,_,h⟩;split at h<;>simp at h
 case h_21=>rintro ⟨_,_,_,_,h⟩;split at h<;>simp at h
 all_goals (intro h;simp at h)
variable [lV]
def Fw (P:Program) (f:Nat) (aY:List LV) (bs:List (List C)) (rs:List V) (bs':List (List C)):Prop:=
 ∃ds h' n' us us',Ko P f (aY.map LV.nE) (J9 0 bs) bs.length ds h' n'/\jV h' ds=some (rs,us)/\zP (aK h' us) 0 bs.length=some (bs',us')
section
variable {B:Nat} {S:Nat->Nat->Prop} {P:Program}
def asb (B:Nat) (S:Nat->Nat->Prop) (m:M) (ids:List Nat) (a:LV) (u:Value):Prop:=
 match a with
 |.v x=>gQ m.w (Safe B S m) x u
 |.ref b=>∃id,ids[b]?=some id/\m.U id/\u=.pointer (some ⟨m.β id,0,none⟩)
theorem Fh:∀{ds:List D} {us:List Value} {m:M} {ids:List Nat},gq B S m->aF (eX B S m) ds us->ids.Nodup->∀{aY:List LV} {ids':List Nat} {xs:List (Nat×Obj)},eT m.h ds ids=some (aY,ids',xs)->
  gq B S (m.heap (aK m.h xs))/\aS B S m (m.heap (aK m.h xs))/\(∃new,ids'=ids++new)/\ids'.Nodup/\aF (asb B S (m.heap (aK m.h xs)) ids') aY us
 |[],[],m,ids,hk,_,hn,aY,ids',xs,hf=>by simp only [eT,A0,A3] at hf;obtain ⟨rfl,rfl,rfl⟩:=hf;exact ⟨hk,aS.refl m,⟨[],by simp⟩,hn,trivial⟩
 |d::ds,u::us,m,ids,hk,hr,hn,aY,ids',xs,hf=>by
  simp only [eT] at hf;split at hf
  ·rename_i id off;split at hf
   ·rename_i hoff;obtain ⟨rfl,hnc⟩:=hoff;simp only [A2,A1,C0,A0,A3] at hf;obtain ⟨as1,akF,Et,h1,rfl,rfl,rfl⟩:=hf;have hni:id ∉ ids:=by simpa using hnc
    have hn2:(ids++[id]).Nodup:=by rw [Hs];exact ⟨hn,by simp,fun a ha b hb=>by simp only [By] at hb;subst hb;exact fun e=>hni (e▸ha)⟩
    obtain ⟨k1,k2,⟨new,k3⟩,k4,k5⟩:=Fh hk hr.2 hn2 h1;have hd:m.U id/\u=.pointer (some ⟨m.β id,0,none⟩):=hr.1;refine ⟨k1,k2,⟨id::new,by rw [k3];simp⟩,k4,⟨id,?_,hd.1,hd.2⟩,k5⟩
    rw [k3];simp
   ·cases hf
  ·rename_i hnl;simp only [A2,A1,C0,A0,A3] at hf;obtain ⟨x,y,h1,as1,akF,Et,h2,rfl,rfl,rfl⟩:=hf;have hr1:nH B S m d u:=by
    cases d with
    |lC ds=>simp [nP,oo] at h1
    |_=>exact hr.1
   obtain ⟨k1,k2,k3⟩:=II hk hr1 h1;have hr2:aF (eX B S (m.heap (aK m.h y))) ds us:=hr.2.mono fun _ _ h=>k2.XP h
   obtain ⟨k4,k5,k6,k7,k8⟩:=Fh (m:=m.heap (aK m.h y)) k1 hr2 hn h2;rw [eY];exact ⟨k4,k2.trans k5,k6,k7,gQ.mono k5.cell k3,k8⟩
 |[],_::_,_,_,_,hr,_,_,_,_,_=>hr.elim
 |_::_,[],_,_,_,hr,_,_,_,_,_=>hr.elim
theorem Ir:∀{ds:List D} {cs:List C} (h:Heap),lq ds=some cs->lZ h ds=some (cs,[])
 |[],cs,h,hp=>by simp only [lq,A0] at hp;subst hp;rfl
 |.c x::ds,cs,h,hp=>by simp only [lq,A2,A1,A0] at hp;obtain ⟨r,h1,rfl⟩:=hp;simp [lZ,oo,aK,Ir h h1]
 |.full xs n::ds,cs,h,hp=>by simp only [lq,A2,A1,A0] at hp;obtain ⟨r,h1,rfl⟩:=hp;simp [lZ,oo,aK,Ir h h1]
 |.uf::_,_,_,hp=>by simp [lq] at hp
 |.loc _ _::_,_,_,hp=>by simp [lq] at hp
 |.arr _ _ _::_,_,_,hp=>by simp [lq] at hp
 |.ptr _::_,_,_,hp=>by simp [lq] at hp
 |.fD _ _::_,_,_,hp=>by simp [lq] at hp
 |.agg _::_,_,_,hp=>by simp [lq] at hp
 |.lC _::_,_,_,hp=>by simp [lq] at hp
theorem Yk {m:M} (hk:gq B S m) {ds:List D} {us:List Value} {cs:List C} (hr:aF (gu B S m) ds us) (hp:lq ds=some cs):aF (cK m.w (Safe B S m)) cs us:=
 (Jh hk hr (Ir m.h hp)).2.2
theorem EX:∀{ids:List Nat} {h:Heap} {bs:List (List C)},ku h ids=some bs->bs.length=ids.length/\∀(q id:Nat),ids[q]?=some id->∃(ds:List D) (cs:List C),aH h id=.box ds/\lq ds=some cs/\bs[q]?=some cs
 |[],h,bs,hp=>by simp only [ku,A0] at hp;subst hp;exact ⟨rfl,fun q id hq=>by simp at hq⟩
 |i::ids,h,bs,hp=>by
  simp only [ku] at hp;split at hp
  ·rename_i ds ho;simp only [A2,A1,A0] at hp;obtain ⟨cs,h1,r,h2,rfl⟩:=hp;obtain ⟨h3,h4⟩:=EX h2;refine ⟨by simp [h3],fun q id hq=>?_⟩
   cases q with
   |zero=>simp only [D2,A0] at hq;subst hq;exact ⟨ds,cs,ho,h1,rfl⟩
   |succ q=>simp only [C6] at hq |-;exact h4 q id hq
  ·cases hp
theorem IM:∀(bs:List (List C)) (k q:Nat),(∀cs,k<=q->bs[q - k]?=some cs->aH (J9 k bs) q=.box (cs.map .c))/\((q < k\/k+bs.length<=q)->aH (J9 k bs) q=.dead)
 |[],k,q=>⟨fun cs _ h=>by simp at h,fun _=>rfl⟩
 |b::bs,k,q=>by
  obtain ⟨h1,h2⟩:=IM bs (k+1) q;refine ⟨fun cs hk h=>?_,fun h=>?_⟩
  ·simp only [J9,aH];by_cases he:k=q
   ·subst he;simp at h;subst h;simp
   ·rw [Dd he];refine h1 cs (by omega) ?_
    rw [show q - k=(q - (k+1))+1 by omega,C6] at h
    exact h
  ·simp only [J9,aH];simp only [Bm] at h;rw [Dd (by omega)]
   exact h2 (by omega)
theorem ai5 {h:Heap} {d:D} {c:C} {us:List (Nat×Obj)} (hf:oo h d=some (c,us)) {id:Nat} {ds:List D} (hb:aH h id=.box ds):aH (aK h us) id=.box ds:=by
 cases d with
 |arr i off len=>
  simp only [oo] at hf;cases ho:aH h i with
  |arr cs ay fz ety=>
   rw [ho] at hf;simp only at hf;split at hf
   ·simp only [A0,A3] at hf;obtain ⟨_,rfl⟩:=hf;split
    ·exact hb
    ·have:i≠id:=fun e=>by subst e;rw [ho] at hb;cases hb
     simp [aK,aH,this,hb]
   ·cases hf
  |dead=>rw [ho] at hf;cases hf
  |box _=>rw [ho] at hf;cases hf
  |map _=>rw [ho] at hf;cases hf
 |c x=>simp only [oo,A0,A3] at hf;obtain ⟨_,rfl⟩:=hf;exact hb
 |full xs n=>simp only [oo,A0,A3] at hf;obtain ⟨_,rfl⟩:=hf;exact hb
 |uf=>simp [oo] at hf
 |loc _ _=>simp [oo] at hf
 |fD _ _=>simp [oo] at hf
 |mp id=>simp [oo] at hf
 |ptr _=>simp [oo] at hf
 |agg _=>simp [oo] at hf
 |lC _=>simp [oo] at hf
theorem V5:∀{ds:List D} {h:Heap} {cs:List C} {us:List (Nat×Obj)},lZ h ds=some (cs,us)->∀{id:Nat} {es:List D},aH h id=.box es->aH (aK h us) id=.box es
 |[],h,cs,us,hf,id,es,hb=>by simp only [lZ,A0,A3] at hf;obtain ⟨_,rfl⟩:=hf;exact hb
 |d::ds,h,cs,us,hf,id,es,hb=>by simp only [lZ,A2,A1,C0,A0,A3] at hf;obtain ⟨c,u,h1,r,us',h2,_,rfl⟩:=hf;rw [eY];exact V5 h2 (ai5 h1 hb)
theorem Pp:∀{k q:Nat} {m:M},gq B S m->∀{bs:List (List C)} {us:List (Nat×Obj)},zP m.h q k=some (bs,us)->
  gq B S (m.heap (aK m.h us))/\aS B S m (m.heap (aK m.h us))/\bs.length=k/\(∀id es,aH m.h id=.box es->aH (aK m.h us) id=.box es)/\
  ∀i cs,bs[i]?=some cs->(∃es,aH m.h (q+i)=.box es)/\B<=m.β (q+i)/\∃(vs:List Value) (e:TypeId),m.w.heap[m.β (q+i)]?=some (.cells vs.toArray e (0,0))/\aF (cK m.w (Safe B S (m.heap (aK m.h us)))) cs vs
 |0,q,m,hk,bs,us,hb=>by simp only [zP,A0,A3] at hb;obtain ⟨rfl,rfl⟩:=hb;exact ⟨hk,aS.refl m,rfl,fun _ _ h=>h,fun i cs h=>by simp at h⟩
 |k+1,q,m,hk,bs,us,hb=>by
  simp only [zP] at hb;split at hb
  ·rename_i ds ho;simp only [A2,A1,C0,A0,A3] at hb;obtain ⟨cs,u1,h1,r,u2,h2,rfl,rfl⟩:=hb;obtain ⟨hB,vs,e,hw,hall⟩:=hk.box ho;obtain ⟨k1,k2,k3⟩:=Jh hk hall h1;obtain ⟨k4,k5,k6,k7,k8⟩:=Pp (m:=m.heap (aK m.h u1)) k1 h2;rw [eY];refine ⟨k4,k2.trans k5,by simp [k6],fun id es h=>k7 id es (V5 h1 h),fun i cs' hi=>?_⟩
   cases i with
   |zero=>
    simp only [D2,A0] at hi;subst hi;exact ⟨⟨ds,ho⟩,hB,vs,e,hw,k3.mono fun x v h=>cK.mono k5.cell x v h⟩
   |succ i=>
    simp only [C6] at hi;obtain ⟨⟨es,j0⟩,j1,j2⟩:=k8 i cs' hi;rw [show q+(i+1)=q+1+i by omega]
    refine ⟨?_,j1,j2⟩;obtain ⟨c0,hc0⟩:∃o,aH m.h (q+1+i)=o:=⟨_,rfl⟩;cases c0 with
    |box es'=>exact ⟨es',hc0⟩
    |map es'=>
     exfalso;have key:∀{ds:List D} {h:Heap} {cs:List C} {us:List (Nat×Obj)},lZ h ds=some (cs,us)->∀p∈us,∃x y z t,p.2=Obj.arr x y z t:=by
      intro ds;induction ds with
      |nil=>intro h cs us hf p hp;simp only [lZ,A0,A3] at hf;obtain ⟨_,rfl⟩:=hf;cases hp
      |cons d ds ih=>
       intro h cs us hf p hp;simp only [lZ,A2,A1,C0,A0,A3] at hf;obtain ⟨c,u,g1,r,us',g2,_,rfl⟩:=hf;rcases Bx.1 hp with hp|hp
       ·cases d<;>simp only [oo] at g1
        case arr i2 off len=>
         split at g1
         ·split at g1
          ·simp only [A0,A3] at g1;obtain ⟨_,rfl⟩:=g1;split at hp
           ·cases hp
           ·simp only [By] at hp;subst hp;exact ⟨_,_,_,_,rfl⟩
          ·cases g1
         ·cases g1
        all_goals (first|(cases g1;done)|(simp only [A0,A3] at g1;obtain ⟨_,rfl⟩:=g1;cases hp))
       ·exact ih g2 p hp
     have upd:∀(us:List (Nat×Obj)) (h:Heap) (id:Nat),(∀p∈us,∃x y z t,p.2=Obj.arr x y z t)->(∃es,aH h id=.map es)\/(∃x y z t,aH h id=.arr x y z t)->(∃es,aH (aK h us) id=.map es)\/∃x y z t,aH (aK h us) id=.arr x y z t:=by
      intro us;induction us with
      |nil=>intro h id _ ha;exact ha
      |cons p us ih=>
       intro h id hp ha;refine ih _ _ (fun q hq=>hp q (by simp [hq])) ?_
       by_cases he:p.1=id
       ·obtain ⟨x,y,z,t,e⟩:=hp p (by simp)
        exact .inr ⟨x,y,z,t,by obtain ⟨p1,p2⟩:=p;simp only at he e;subst he e;simp [aH]⟩
       ·rcases ha with ⟨es,ha⟩|⟨x,y,z,t,ha⟩
        ·exact .inl ⟨es,by obtain ⟨p1,p2⟩:=p;simp only at he;simp [aH,he,ha]⟩
        ·exact .inr ⟨x,y,z,t,by obtain ⟨p1,p2⟩:=p;simp only at he;simp [aH,he,ha]⟩
     have j0':aH (aK m.h u1) (q+1+i)=.box es:=j0;rcases upd u1 m.h (q+1+i) (key h1) (.inl ⟨es',hc0⟩) with ⟨es2,e⟩|⟨x,y,z,t,e⟩<;>rw [e] at j0'<;>cases j0'
    |dead=>
     by_cases hu:m.U (q+1+i)
     ·have:=k2.dead _ hu hc0
      exact absurd (this.symm.trans j0) (by simp)
     ·have:=k1.dom _ hu
      exact absurd (this.symm.trans j0) (by simp)
    |arr c1 c2 c3 c4=>
     exfalso;have key:∀{ds:List D} {h:Heap} {cs:List C} {us:List (Nat×Obj)},lZ h ds=some (cs,us)->∀p∈us,∃x y z t,p.2=Obj.arr x y z t:=by
      intro ds;induction ds with
      |nil=>intro h cs us hf p hp;simp only [lZ,A0,A3] at hf;obtain ⟨_,rfl⟩:=hf;cases hp
      |cons d ds ih=>
       intro h cs us hf p hp;simp only [lZ,A2,A1,C0,A0,A3] at hf;obtain ⟨c,u,g1,r,us',g2,_,rfl⟩:=hf;rcases Bx.1 hp with hp|hp
       ·cases d<;>simp only [oo] at g1
        case arr i2 off len=>
         split at g1
         ·split at g1
          ·simp only [A0,A3] at g1;obtain ⟨_,rfl⟩:=g1;split at hp
           ·cases hp
           ·simp only [By] at hp;subst hp;exact ⟨_,_,_,_,rfl⟩
          ·cases g1
         ·cases g1
        all_goals (first|(cases g1;done)|(simp only [A0,A3] at g1;obtain ⟨_,rfl⟩:=g1;cases hp))
       ·exact ih g2 p hp
     have upd:∀(us:List (Nat×Obj)) (h:Heap) (id:Nat),(∀p∈us,∃x y z t,p.2=Obj.arr x y z t)->(∃x y z t,aH h id=.arr x y z t)->∃x y z t,aH (aK h us) id=.arr x y z t:=by
      intro us;induction us with
      |nil=>intro h id _ hh;exact hh
      |cons p us ih=>
       intro h id hp hh;refine ih (p::h) id (fun p' hp'=>hp p' (by simp [hp'])) ?_
       obtain ⟨i0,o0⟩:=p;obtain ⟨x,y,z,t,hq⟩:=hp (i0,o0) (by simp)
       simp only at hq;simp only [aH];split
       ·exact ⟨x,y,z,t,hq⟩
       ·exact hh
     obtain ⟨x,y,z,t,hq⟩:=upd u1 m.h (q+1+i) (key h1) ⟨_,_,_,_,hc0⟩;have j0':aH (aK m.h u1) (q+1+i)=.box es:=j0;rw [hq] at j0';cases j0'
  ·cases hb
theorem O4:∀(ids:List Nat) (bs:List (List C)) (h:Heap) (id:Nat),ids.Nodup->bs.length=ids.length->
  (id ∉ ids->aH (aK h ((ids.zip bs).map fun p=>(p.1,Obj.box (p.2.map .c)))) id=aH h id)/\
  (∀q:Nat,ids[q]?=some id->∃cs:List C,(bs[q]?:Option (List C))=some cs/\aH (aK h ((ids.zip bs).map fun p=>(p.1,Obj.box (p.2.map .c)))) id=.box (cs.map .c))
 |[],bs,h,id,_,hl=>⟨fun _=>by simp [aK],fun q hq=>by simp at hq⟩
 |i::ids,[],h,id,_,hl=>by simp at hl
 |i::ids,b::bs,h,id,hn,hl=>by
  rw [K0] at hn;obtain ⟨h1,h2⟩:=O4 ids bs ((i,.box (b.map .c))::h) id hn.2 (by simpa using hl)
  simp only [List.zip_cons_cons,Cp,aK];refine ⟨fun hni=>?_,fun q hq=>?_⟩
  ·simp only [D1,not_or] at hni;rw [h1 hni.2];simp [aH,Ne.symm hni.1]
  ·cases q with
   |zero=>
    simp only [D2,A0] at hq;subst hq;refine ⟨b,rfl,?_⟩;rw [h1 hn.1];simp [aH]
   |succ q=>
    simp only [C6] at hq;obtain ⟨cs,h3,h4⟩:=h2 q hq;exact ⟨cs,h3,h4⟩
theorem afu:∀rs:List V,Eu (rs.map V.nE)=Sr rs
 |[]=>rfl
 |[_]=>rfl
 |_::_::_=>rfl
theorem ab1 {B:Nat} {S:Nat->Nat->Prop} {m:M} {rs:List D} {v:Value} (h:eX B S m (Eu rs) v) (hn:∀d,d∈rs->∀q,d≠.lC q):
  ∃us:List Value,aF (nH B S m) rs us/\∀(S2:Nat->Nat->Prop) (m':M) (rs':List D),rs'.length=rs.length->aF (nH B S2 m') rs' us->eX B S2 m' (Eu rs') v:=by
 match rs,h,hn with
 |[],h,_=>
  obtain ⟨us,rfl,h2⟩:=h;refine ⟨us,h2,fun S2 m' rs' hl h3=>?_⟩
  match rs',hl with
  |[],_=>exact ⟨us,rfl,h3⟩
 |[d],h,hn=>
  have hA:nH B S m d v:=by
   cases d with
   |lC q=>exact absurd rfl (hn (.lC q) (by simp) q)
   |_=>exact h
  refine ⟨[v],⟨hA,trivial⟩,fun S2 m' rs' hl h3=>?_⟩
  match rs',hl with
  |[d'],_=>exact h3.1.nE
 |d::d'::ds,h,_=>
  obtain ⟨us,rfl,h2⟩:=h;refine ⟨us,h2,fun S2 m' rs' hl h3=>?_⟩
  match rs',hl with
  |_::_::_,_=>exact ⟨us,rfl,h3⟩
theorem ahP {m:M} {o:Oper} {a:Act} {slot:Nat} (hk:gq B S m) (hinv:lV.Inv B m.w) {f:Nat} {args:Array Operand} {ts:Array TypeId} (hop:o.op=.call { callee:=.value (.func f),args,argTypes:=ts}) {ds:List D} (hd:aF (eX B S m) ds (args.map a.eval).toList)
  {bg:Cv} (hl:∀f aY bs rs bs',bg f aY bs=some (rs,bs')->Fw P f aY bs rs bs') {d:D} {us:List (Nat×Obj)} (hf:Eg bg m.h f ds=some (d,us)) {K:Act->World->Prop} {Q:Exit->Act->World->Prop}
  (hK:∀v w',Post B S m slot us d v w'->K (a.put o.dst v) w'):o.wp P a m.w K Q:=by
 simp only [Eg,A2,A1,C0] at hf;obtain ⟨aY,ids,xy,h1,bs,h2,rs,bs',h3,hf⟩:=hf;split at hf
 case isFalse=>cases hf
 rename_i hlen;simp only [A0,A3] at hf;obtain ⟨rfl,rfl⟩:=hf;obtain ⟨k1,k2,_,k4,k5⟩:=Fh hk hd Ix h1;obtain ⟨p1,p2⟩:=EX h2;obtain ⟨ds',h',n',Et,HV,⟨hc,hL⟩,hfr,hbx⟩:=hl _ _ _ _ _ h3
 let S':Nat->Nat->Prop:=fun b o=>S b o/\∀id,id ∉ ids->match aH (aK m.h xy) id with|.dead=>True|.box _=>m.β id≠b|.map _=>m.β id≠b|.arr _ _ fz _=>m.β id=b->o < fz
 let mi:M:=⟨m.w,J9 0 bs,fun q=>m.β (ids.getD q 0),fun i=>i < bs.length⟩
 have Uj:∀q id,ids[q]?=some id->∃(es:List D) (cs:List C),aH (aK m.h xy) id=.box es/\lq es=some cs/\bs[q]?=some cs/\aH mi.h q=.box (cs.map .c)/\mi.β q=m.β id:=fun q id hq=>by
  obtain ⟨es,cs,g1,g2,g3⟩:=p2 q id hq;refine ⟨es,cs,g1,g2,g3,?_,?_⟩
  ·exact (IM bs 0 q).1 cs (Ft _) (by simpa using g3)
  ·show m.β (ids.getD q 0)=_
   rw [List.getD_eq_getElem?_getD,hq];rfl
 have live:∀q,aH mi.h q≠.dead->∃id,ids[q]?=some id:=fun q hq=>by
  by_cases hlt:q < bs.length
  ·exact ⟨ids[q]'(by omega),Ax (by omega)⟩
  ·exact absurd ((IM bs 0 q).2 (.inr (by omega))) hq
 have Ur:∀b q,Safe B S (m.heap (aK m.h xy)) b q->Safe B S' mi b q:=fun b q hs=>by
  refine ⟨⟨hs.1,fun id _=>hs.2 id⟩,fun j=>?_⟩
  show match aH mi.h j with|.dead=>True|.box _=>mi.β j≠b|.map _=>mi.β j≠b|.arr _ _ fz _=>mi.β j=b->q < fz
  by_cases hj:aH mi.h j=.dead
  ·rw [hj];trivial
  ·obtain ⟨id,hid⟩:=live j hj;obtain ⟨es,cs,g1,g2,g3,g4,g5⟩:=Uj j id hid;rw [g4,g5];have:=hs.2 id
   rw [show aH (m.heap (aK m.h xy)).h id=.box es from g1] at this
   exact this
 have hkI:gq B S' mi:=by
  refine ⟨fun q=>?_,fun i j hi hj he=>?_,fun q hq=>?_,k1.base,fun b q hb=>⟨k1.fresh b q hb,fun id _=>?_⟩,fun q cs ay fz ety hq=>?_⟩
  ·unfold K7;by_cases hj:aH mi.h q=.dead
   ·rw [hj];trivial
   ·obtain ⟨id,hid⟩:=live q hj;obtain ⟨es,cs,g1,g2,g3,g4,g5⟩:=Uj q id hid;obtain ⟨hB,vs,e,hw,hall⟩:=k1.box g1;rw [g4,g5];refine ⟨hB,vs,e,hw,aF.nA ?_⟩;exact (Yk k1 hall g2).mono fun x v hx=>cK.mono (fun b q u c1 c2=>⟨c1,Ur b q c2⟩) x v hx
  ·obtain ⟨i1,hi1⟩:=live i hi;obtain ⟨j1,hj1⟩:=live j hj;obtain ⟨es,_,g1,_,_,_,g5⟩:=Uj i i1 hi1;obtain ⟨es',_,g1',_,_,_,g5'⟩:=Uj j j1 hj1;rw [g5,g5'] at he;have:i1=j1:=k1.inj i1 j1 (by show aH (aK m.h xy) i1≠_;rw [g1];simp) (by show aH (aK m.h xy) j1≠_;rw [g1'];simp) he
   subst this;have hi2:=(B0.1 hi1);have hj2:=(B0.1 hj1);obtain ⟨a1,a2⟩:=hi2;obtain ⟨b1,b2⟩:=hj2;exact (List.getElem_inj k4).1 (a2.trans b2.symm)
  ·exact (IM bs 0 q).2 (.inr (by have:¬q < bs.length:=hq;omega))
  ·cases ho:aH (aK m.h xy) id with
   |dead=>trivial
   |box es=>
    have h9:m.β id < m.w.heap.size:=k1.lt (id:=id) (by show aH (aK m.h xy) id≠_;rw [ho];simp)
    have h10:m.w.heap.size<=b:=hb;show m.β id≠b
    omega
   |map es=>
    have h9:m.β id < m.w.heap.size:=k1.lt (id:=id) (by show aH (aK m.h xy) id≠_;rw [ho];simp)
    have h10:m.w.heap.size<=b:=hb;show m.β id≠b
    omega
   |arr c1 c2 c3 c4=>
    have h9:m.β id < m.w.heap.size:=k1.lt (id:=id) (by show aH (aK m.h xy) id≠_;rw [ho];simp)
    have h10:m.w.heap.size<=b:=hb;show m.β id=b->q < c3
    omega
  ·have hj:aH mi.h q≠.dead:=by rw [hq];simp
   obtain ⟨id,hid⟩:=live q hj;obtain ⟨_,_,_,_,_,g4,_⟩:=Uj q id hid;rw [g4] at hq;cases hq
 have hargs:aF (eX B S' mi) (aY.map LV.nE) (args.map a.eval).toList:=by
  refine aF.nA (k5.mono fun x v hx=>?_)
  cases x with
  |v x=>
   have h9:gQ m.w (Safe B S (m.heap (aK m.h xy))) x v:=hx;exact (gQ.nE (m:=mi) (gQ.mono (fun b q u c1 c2=>⟨c1,Ur b q c2⟩) h9)).nE
  |ref b=>
   obtain ⟨id,g1,g2,rfl⟩:=hx;obtain ⟨_,_,_,_,g3,_,g5⟩:=Uj b id g1;refine ⟨(B0.1 g3).1,?_⟩;rw [g5];rfl
 unfold Oper.wp;rw [Jw hc hop];show Calls P f (args.map a.eval) m.w _
 have he:(args.map a.eval).toList.toArray=args.map a.eval:=Array.toArray_toList;have hcall:=hL B S' mi (args.map a.eval).toList rfl (fun _ hx=>hx) hkI hinv hargs
 rw [he] at hcall;refine hcall.mono fun e w' ⟨v,m',q0,q1,q2,q3,q4,q5,q6,q7,q8⟩=>?_
 subst q0 q1;refine hK v m'.w ?_;obtain ⟨vs,t1,t2⟩:=ab1 q6 q8;rw [<-q2] at hfr hbx;obtain ⟨r1,r2,r3⟩:=Ni q4 t1 hfr;obtain ⟨x1,x2,x3,x4,x5⟩:=Pp (m:=m'.heap (aK m'.h Et)) r1 hbx;have hev:=(q5.trans r2).trans x2
 let m2:M:=(m'.heap (aK m'.h Et)).heap (aK (aK m'.h Et) HV)
 let mo:M:=⟨m'.w,aK m.h (xy++(ids.zip bs').map fun p=>(p.1,.box (p.2.map .c))),m.β,fun i=>m.U i\/i=slot⟩
 have hH:mo.h=aK (aK m.h xy) ((ids.zip bs').map fun p=>(p.1,.box (p.2.map .c))):=eY _ _ _
 have hout:∀id,id ∉ ids->aH mo.h id=aH (aK m.h xy) id:=fun id hni=>by rw [hH];exact (O4 ids bs' _ id k4 hlen).1 hni
 have hin:∀q id,ids[q]?=some id->∃cs:List C,bs'[q]?=some cs/\aH mo.h id=.box (cs.map .c):=fun q id hq=>by rw [hH];exact (O4 ids bs' _ id k4 hlen).2 q hq
 have idx:∀id,id∈ids->∃q,ids[q]?=some id:=fun id hi=>List.getElem?_of_mem hi
 have atq:∀q id,ids[q]?=some id->m'.β q=m.β id:=fun q id hq=>by obtain ⟨_,_,_,_,g3,_,g5⟩:=Uj q id hq;rw [<-g5];exact q5.at_ q (B0.1 g3).1
 have Ve:∀b q,Safe B S' m2 b q->Safe B S mo b q:=fun b q hs=>by
  refine ⟨hs.1.1,fun id=>?_⟩
  show match aH mo.h id with|.dead=>True|.box _=>m.β id≠b|.map _=>m.β id≠b|.arr _ _ fz _=>m.β id=b->q < fz
  by_cases hi:id∈ids
  ·obtain ⟨j,hj⟩:=idx id hi;obtain ⟨cs,g1,g2⟩:=hin j id hj;rw [g2];obtain ⟨⟨es,g3⟩,_⟩:=x5 j cs g1;rw [E1] at g3;have:=hs.2 j
   rw [show aH m2.h j=.box es from x4 j es g3] at this
   rw [<-atq j id hj];exact this
  ·rw [hout id hi];exact hs.1.2 id hi
 have RP:∀id,id∈ids->∃es,aH (aK m.h xy) id=.box es:=fun id hi=>by obtain ⟨j,hj⟩:=idx id hi;obtain ⟨es,_,g1,_⟩:=Uj j id hj;exact ⟨es,g1⟩
 have hrest:∀b,B<=b->b < m.w.heap.size->(∀q id,ids[q]?=some id->m.β id≠b)->m'.w.heap[b]?=m.w.heap[b]?:=fun b hB hb hn=>by
  refine (q5.rest b hB hb fun q hq=>?_).1
  obtain ⟨id,hid⟩:=live q hq;obtain ⟨_,_,_,_,_,_,g5⟩:=Uj q id hid;rw [g5];exact hn q id hid
 have agk:∀id,aH mo.h id≠.dead->aH (aK m.h xy) id≠.dead:=fun id hid=>by
  by_cases hi:id∈ids
  ·obtain ⟨es,g1⟩:=RP id hi;rw [g1];simp
  ·rw [<-hout id hi];exact hid
 have other:∀id,id ∉ ids->aH (aK m.h xy) id≠.dead->m'.w.heap[m.β id]?=m.w.heap[m.β id]?:=fun id hni hd=>by
  refine hrest _ (k1.ge (id:=id) hd) (k1.lt (id:=id) hd) fun q id' hq he=>?_
  obtain ⟨es,g1⟩:=RP id' (C7 hq);have:id'=id:=k1.inj id' id (by show aH (aK m.h xy) id'≠_;rw [g1];simp) hd he
  exact hni (this▸C7 hq)
 have ev1:aS B S (m.heap (aK m.h xy)) mo:=by
  refine ⟨fun b q u c1 c2=>?_,fun id hu=> .inl hu,fun id hu hd=>?_,fun id _=>rfl,fun id cs' jW nW mh hu hg=>?_,fun b hB hb hn=>?_⟩
  ·obtain ⟨c3,_⟩:=hev.cell b q u c1 (Ur b q c2);refine ⟨c3,c2.1,fun id=>?_⟩
   show match aH mo.h id with|.dead=>True|.box _=>m.β id≠b|.map _=>m.β id≠b|.arr _ _ fz _=>m.β id=b->q < fz
   by_cases hi:id∈ids
   ·obtain ⟨j,hj⟩:=idx id hi;obtain ⟨cs,_,g2⟩:=hin j id hj;rw [g2];obtain ⟨es,g1⟩:=RP id hi;have:=c2.2 id
    rw [show aH (m.heap (aK m.h xy)).h id=.box es from g1] at this
    exact this
   ·rw [hout id hi];exact c2.2 id
  ·by_cases hi:id∈ids
   ·obtain ⟨es,g1⟩:=RP id hi;have hd':aH (aK m.h xy) id=.dead:=hd;rw [g1] at hd';cases hd'
   ·rw [hout id hi];exact hd
  ·by_cases hi:id∈ids
   ·obtain ⟨j,hj⟩:=idx id hi;obtain ⟨cs,_,g2⟩:=hin j id hj;rw [g2] at hg;cases hg
   ·rw [hout id hi] at hg;refine ⟨cs',nW,hg,?_⟩;have:=other id hi (by rw [hg];simp)
    show m'.w.shape? (m.β id)=m.w.shape? (m.β id)
    simp only [World.shape?,this]
  ·refine ⟨hrest b hB hb fun q id hq=>?_,fun id hd=>hn id (agk id hd)⟩
   obtain ⟨es,g1⟩:=RP id (C7 hq);exact hn id (by show aH (aK m.h xy) id≠_;rw [g1];simp)
 have hko:gq B S mo:=by
  refine ⟨fun id=>?_,fun i j hi hj he=>k1.inj i j (agk i hi) (agk j hj) he,fun id hu=>?_,q4.base,fun b q hb=>(q4.fresh b q hb).1,fun id cs ay fz ety hg q=>?_⟩
  ·unfold K7;by_cases hi:id∈ids
   ·obtain ⟨j,hj⟩:=idx id hi;obtain ⟨cs,g1,g2⟩:=hin j id hj;rw [g2];obtain ⟨_,g4,vs',e',g5,g6⟩:=x5 j cs g1;rw [E1] at g4 g5;have hβ:(m'.heap (aK m'.h Et)).β j=m.β id:=atq j id hj;rw [hβ] at g4 g5;refine ⟨g4,vs',e',g5,aF.nA ?_⟩;exact g6.mono fun x u hx=>cK.mono (fun b q u c1 c2=>⟨c1,Ve b q c2⟩) x u hx
   ·rw [hout id hi];by_cases hd:aH (aK m.h xy) id=.dead
    ·rw [hd];trivial
    ·exact ev1.Md (other id hi hd) (k1.obj id)
  ·have hu':¬m.U id:=fun h=>hu (.inl h)
   by_cases hi:id∈ids
   ·obtain ⟨es,g1⟩:=RP id hi;have:=k1.dom id hu'
    rw [show aH (m.heap (aK m.h xy)).h id=.box es from g1] at this
    cases this
   ·rw [hout id hi];exact k1.dom id hu'
  ·by_cases hi:id∈ids
   ·obtain ⟨j,hj⟩:=idx id hi;obtain ⟨cs',_,g2⟩:=hin j id hj;rw [g2] at hg;cases hg
   ·rw [hout id hi] at hg;exact k1.Qb id cs ay fz ety hg q
 refine ⟨m.β,hko,k2.trans ev1,?_,q7⟩;have r4:aF (nH B S mo) (rs.map V.nE) vs:=by
  refine aF.nA (r3.mono fun x u hx=>?_)
  have h9:gQ m'.w (Safe B S' m2) x u:=gQ.mono x2.cell hx;exact gQ.nE (m:=mo) (gQ.mono (fun b q u c1 c2=>⟨c1,Ve b q c2⟩) h9)
 have r5:eX B S mo (Eu (rs.map V.nE)) v:=t2 S mo _ (by rw [Mn,r3.len,<-t1.len]) r4
 rw [afu] at r5;exact r5
theorem afP {zf:Nat->Nat} {nt:Nat} {w0:World} {e:Env} {m:M} {o:Oper} {a:Act} {slot:Nat} {d:D} {us:List (Nat×Obj)} {ops:Array Oper} {i:jl} (h:AR P zf nt ops o=some i) (hns:∀f ow xs,i.ins≠.jB f ow xs) (MU:∀x xs,i.ins≠.kX x xs) (hr:Rel B S w0 nt m e a) (hs:¬m.U slot) {call:Callee} (hcall:∀f vs rs,call f vs=some rs->oq P f vs rs)
  {bg:Cv} (hl:∀f aY bs rs bs',bg f aY bs=some (rs,bs')->Fw P f aY bs rs bs')
  (hst:lW call bg (zT e) m.h slot i.ins=some (d,us)) {K:Act->World->Prop} {Q:Exit->Act->World->Prop}
  (hK:∀(a':Act) (m':M),m'.h=aK m.h us->m'.U=(fun i=>m.U i\/i=slot)->aS B S m m'->Rel B S w0 nt m' (l8 e i.dst d) a'->K a' m'.w):o.wp P a m.w K Q:=by
 have other:(∀f xs,i.ins≠.mV f xs)->oK call (zT e) m.h slot i.ins=some (d,us):=fun hne=>by
  rw [<-hst];cases hins:i.ins with
  |mV f xs=>exact absurd hins (hne f xs)
  |_=>rfl
 by_cases hne:∃f xs,i.ins=.mV f xs
 ·obtain ⟨f,xs,hins⟩:=hne;obtain ⟨h1,h2,h3,_⟩:=jH h;rw [hins] at hst h1;simp only [lW] at hst;obtain ⟨args,ts,hop,h7⟩:=Ti (CL h1 rfl);have hall:=xh hr h7;refine ahP (slot:=slot) hr.hok hr.inv hop (by simpa using hall) hl hst ?_
  rintro v w' ⟨β',p1,p2,p3,p4⟩;have:=(hr.Cg p2 p1 p4).put h3 p3
  rw [h2] at hK;exact hK _ _ rfl rfl p2 this
 ·have h4:=other fun f xs e=>hne ⟨f,xs,e⟩
  unfold oK at h4;split at h4
  ·rename_i hm;obtain ⟨p1,p2,p3,_⟩:=jH h;have hcm:Gl P o.op=some i.ins:=by
    rcases Ce p1 with ⟨_,h3⟩|⟨h3,_⟩
    ·exact h3
    ·rw [hm] at h3;cases h3
   obtain ⟨n,v,w',h5,h6,h7⟩:=U5 hcm hr.hok hr.opd (slot:=slot) hs h4;have fin:∀v w',Post B S m slot us d v w'->K (a.put o.dst v) w':=by
    rintro v w' ⟨β',q1,q2,q3,q4⟩;have:=(hr.Cg q2 q1 q4).put p3 q3
    rw [p2] at hK;exact hK _ _ rfl rfl q2 this
   unfold Oper.wp;rw [h5];rcases h6 with rfl|⟨rfl,rfl⟩
   ·exact fin v w' h7
   ·exact fin undef w' h7
  ·exact ZR h hns MU hr hs hcall h4 hK
end
end Go.Ey
