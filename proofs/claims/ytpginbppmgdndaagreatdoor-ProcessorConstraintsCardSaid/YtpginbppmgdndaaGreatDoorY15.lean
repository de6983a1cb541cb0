/- A part of the proof. -/
import Derived.Test.YtpginbppmgdndaaGreatDoorY14
set_option linter.all false
namespace Go.Ey
open Go.RowKit
theorem lentArgs_congr:∀{ds:List D} {h h':Heap} {ids:List Nat},Agree (ds.flatMap touchL) h h'→lentArgs h ds ids=lentArgs h' ds ids
 |[],_,_,_,_=>rfl
 |d::ds,h,h',ids,hh=>by
  have hd:Agree (touchL d) h h':=hh.mono fun id hi=>by simp [hi]
  have hr:Agree (ds.flatMap touchL) h h':=hh.mono fun id hi=>by simp only [List.flatMap_cons,List.mem_append];exact .inr hi
  have gen:∀d:D,(∀id off,d≠.loc id off)→Agree (frzIds d) h h'→
    (do let (x,u) ←frzV h d;let (as,ids',us) ←lentArgs (updH h u) ds ids;some (LV.v x::as,ids',u++us))=(do let (x,u) ←frzV h' d;let (as,ids',us) ←lentArgs (updH h' u) ds ids;some (LV.v x::as,ids',u++us):Option (List LV×List Nat×List (Nat×Obj))):=by
   intro d _ ha
   rw [frzV_congr ha]
   cases frzV h' d with
   |none=>rfl
   |some p=>
    simp only [Option.bind_eq_bind,Option.bind_some]
    rw [lentArgs_congr (hr.upd p.2)]
  cases d with
  |loc id off=>
   simp only [lentArgs]
   split
   ·rw [lentArgs_congr hr]
   ·rfl
  |unk=>exact gen _ (by simp) hd
  |c x=>exact gen _ (by simp) hd
  |arr i o l=>exact gen _ (by simp) hd
  |ptr cs=>exact gen _ (by simp) hd
  |full cs n=>exact gen _ (by simp) hd
  |clo f cs=>exact gen _ (by simp) hd
  |mp id=>exact gen _ (by simp) hd
  |agg ds=>exact gen _ (by simp) hd
  |tup ds=>exact gen _ (by simp) hd
theorem lentArgs_ids:∀{ds:List D} {h:Heap} {ids:List Nat} {as:List LV} {ids':List Nat} {us:List (Nat×Obj)},lentArgs h ds ids=some (as,ids',us)→∀id∈ids',id∈ids∨id∈ds.flatMap touchL
 |[],h,ids,as,ids',us,he,id,hi=>by
  simp only [lentArgs,Option.some.injEq,Prod.mk.injEq] at he
  obtain ⟨rfl,rfl,rfl⟩:=he
  exact .inl hi
 |d::ds,h,ids,as,ids',us,he,id,hi=>by
  simp only [lentArgs] at he
  split at he
  ·rename_i i off
   split at he
   ·simp only [Option.bind_eq_bind,Option.bind_eq_some_iff,Prod.exists,Option.some.injEq,Prod.mk.injEq] at he
    obtain ⟨as1,ids1,us1,h1,rfl,rfl,rfl⟩:=he
    rcases lentArgs_ids h1 id hi with h2|h2
    ·simp only [List.mem_append,List.mem_singleton] at h2
     rcases h2 with h2|rfl
     ·exact .inl h2
     ·exact .inr (by simp [touchL])
    ·exact .inr (by simp only [List.flatMap_cons,List.mem_append];exact .inr h2)
   ·cases he
  ·simp only [Option.bind_eq_bind,Option.bind_eq_some_iff,Prod.exists,Option.some.injEq,Prod.mk.injEq] at he
   obtain ⟨x,u,h0,as1,ids1,us1,h1,rfl,rfl,rfl⟩:=he
   rcases lentArgs_ids h1 id hi with h2|h2
   ·exact .inl h2
   ·exact .inr (by simp only [List.flatMap_cons,List.mem_append];exact .inr h2)
theorem plainBoxes_congr:∀{ids:List Nat} {h h':Heap},Agree ids h h'→plainBoxes h ids=plainBoxes h' ids
 |[],_,_,_=>rfl
 |id::ids,h,h',hh=>by
  simp only [plainBoxes]
  rw [hh id (by simp),plainBoxes_congr (ids:=ids) fun i hi=>hh i (by simp [hi])]
theorem lentD_congr {lent:Lent} {f:Nat} {ds:List D} {h h':Heap} (hh:Agree (ds.flatMap touchL) h h'):lentD lent h f ds=lentD lent h' f ds:=by
 unfold lentD
 rw [lentArgs_congr hh]
 cases he:lentArgs h' ds [] with
 |none=>rfl
 |some p=>
  obtain ⟨as,ids,us⟩:=p
  simp only [Option.bind_eq_bind,Option.bind_some]
  rw [plainBoxes_congr (ids:=ids) ((hh.upd us).mono fun id hi=>by
   rcases lentArgs_ids he id hi with h1|h1
   ·cases h1
   ·exact h1)]
theorem stepD_congr {call:Callee} {lent:Lent} {ρ ρ':X→D} {slot:Nat} {ins:Ins} {h h':Heap} (hx:∀x,x∈opX ins→ρ x=ρ' x) (hh:Agree (touches ρ ins) h h'):stepD call lent ρ h slot ins=stepD call lent ρ' h' slot ins:=by
 cases ins with
 |callL f xs=>
  have h1:xs.map ρ=xs.map ρ':=List.map_congr_left fun x hxx=>hx x (by simpa [opX] using hxx)
  simp only [stepD,←h1]
  refine lentD_congr (hh.mono fun id hi=>?_)
  simp only [List.flatMap_map] at hi
  exact hi
 |_=>exact stepS_congr (call:=call) (slot:=slot) hx hh
theorem compOp_callL {P:Program} {shF:Nat→Nat} {o:Oper} {f:Nat} {xs:List X} (h:compOp P shF o.op=some (.callL f xs)):∃args ts,o.op=.call { callee:=.value (.func f),args,argTypes:=ts}∧compXs args.toList=some xs:=by
 unfold compOp at h
 split at h<;>try (cases h;done)
 all_goals simp only [Option.bind_eq_bind,Option.bind_eq_some_iff,Option.some.injEq] at h
 case h_23 f' args ts hop=>
  obtain ⟨ys,h1,h2⟩:=h
  split at h2
  ·cases h2
  ·cases h2
  ·simp only [Ins.callL.injEq] at h2
   obtain ⟨rfl,rfl⟩:=h2
   exact ⟨args,ts,hop,h1⟩
  ·cases h2
 all_goals (exfalso;revert h)
 case h_25 b args ts hop=>
  rintro ⟨ys,h1,h2⟩
  split at h2<;>try (cases h2;done)
  ·split at h2<;>simp at h2
  ·simp only [Option.bind_eq_some_iff] at h2
   obtain ⟨_,_,_,_,_,_,h2⟩:=h2
   split at h2
   ·split at h2<;>simp at h2
   ·split at h2<;>simp at h2
   ·simp at h2
  ·simp only [Option.bind_eq_some_iff] at h2
   obtain ⟨_,_,_,_,h2⟩:=h2
   split at h2<;>simp at h2
 case h_11=>rintro ⟨_,_,_,_,h⟩;split at h<;>first|(simp at h;done)|(simp only [Option.bind_eq_some_iff] at h;obtain ⟨_,_,h⟩:=h;split at h<;>first|(simp only [eqIns] at h;split at h<;>simp at h;done)|(cases h))
 case h_13=>rintro ⟨_,_,h⟩;split at h<;>first|(simp at h;done)|(split at h<;>simp at h)
 case h_15=>rintro ⟨_,_,_,_,_,_,h⟩;split at h<;>first|(simp at h;done)|(simp only [Option.bind_eq_some_iff] at h;obtain ⟨_,_,h⟩:=h;simp at h)
 case h_16=>rintro ⟨_,_,_,_,_,_,_,_,h⟩;split at h<;>first|(simp only [Option.bind_eq_some_iff] at h;obtain ⟨_,_,h⟩:=h;simp at h;done)|(simp at h)
 case h_17=>rintro ⟨_,_,h⟩;split at h<;>simp at h
 case h_21=>rintro ⟨_,_,_,_,h⟩;split at h<;>simp at h
 all_goals (intro h;simp at h)
variable [Keeps]
def LentOK (P:Program) (f:Nat) (as:List LV) (bs:List (List C)) (rs:List V) (bs':List (List C)):Prop:=
 ∃ds h' n' us us',LendOK P f (as.map LV.toD) (boxH 0 bs) bs.length ds h' n'∧frzVs h' ds=some (rs,us)∧boxesAt (updH h' us) 0 bs.length=some (bs',us')
section
variable {B:Nat} {S:Nat→Nat→Prop} {P:Program}
def ArgL (B:Nat) (S:Nat→Nat→Prop) (m:M) (ids:List Nat) (a:LV) (u:Value):Prop:=
 match a with
 |.v x=>RepV m.w (Safe B S m) x u
 |.ref b=>∃id,ids[b]?=some id∧m.U id∧u=.pointer (some ⟨m.β id,0,none⟩)
theorem lentArgs_ok:∀{ds:List D} {us:List Value} {m:M} {ids:List Nat},HOK B S m→All2 (RepD B S m) ds us→ids.Nodup→∀{as:List LV} {ids':List Nat} {xs:List (Nat×Obj)},lentArgs m.h ds ids=some (as,ids',xs)→
  HOK B S (m.heap (updH m.h xs))∧Evolves B S m (m.heap (updH m.h xs))∧(∃new,ids'=ids++new)∧ids'.Nodup∧All2 (ArgL B S (m.heap (updH m.h xs)) ids') as us
 |[],[],m,ids,hk,_,hn,as,ids',xs,hf=>by
  simp only [lentArgs,Option.some.injEq,Prod.mk.injEq] at hf
  obtain ⟨rfl,rfl,rfl⟩:=hf
  exact ⟨hk,Evolves.refl m,⟨[],by simp⟩,hn,trivial⟩
 |d::ds,u::us,m,ids,hk,hr,hn,as,ids',xs,hf=>by
  simp only [lentArgs] at hf
  split at hf
  ·rename_i id off
   split at hf
   ·rename_i hoff
    obtain ⟨rfl,hnc⟩:=hoff
    simp only [Option.bind_eq_bind,Option.bind_eq_some_iff,Prod.exists,Option.some.injEq,Prod.mk.injEq] at hf
    obtain ⟨as1,ids1,us1,h1,rfl,rfl,rfl⟩:=hf
    have hni:id ∉ ids:=by simpa using hnc
    have hn2:(ids++[id]).Nodup:=by
     rw [List.nodup_append]
     exact ⟨hn,by simp,fun a ha b hb=>by simp only [List.mem_singleton] at hb;subst hb;exact fun e=>hni (e▸ha)⟩
    obtain ⟨k1,k2,⟨new,k3⟩,k4,k5⟩:=lentArgs_ok hk hr.2 hn2 h1
    have hd:m.U id∧u=.pointer (some ⟨m.β id,0,none⟩):=hr.1
    refine ⟨k1,k2,⟨id::new,by rw [k3];simp⟩,k4,⟨id,?_,hd.1,hd.2⟩,k5⟩
    rw [k3]
    simp
   ·cases hf
  ·rename_i hnl
   simp only [Option.bind_eq_bind,Option.bind_eq_some_iff,Prod.exists,Option.some.injEq,Prod.mk.injEq] at hf
   obtain ⟨x,y,h1,as1,ids1,us1,h2,rfl,rfl,rfl⟩:=hf
   have hr1:RepA B S m d u:=by
    cases d with
    |tup ds=>simp [frzV,frz] at h1
    |_=>exact hr.1
   obtain ⟨k1,k2,k3⟩:=frzV_ok hk hr1 h1
   have hr2:All2 (RepD B S (m.heap (updH m.h y))) ds us:=hr.2.mono fun _ _ h=>k2.repD h
   obtain ⟨k4,k5,k6,k7,k8⟩:=lentArgs_ok (m:=m.heap (updH m.h y)) k1 hr2 hn h2
   rw [updH_append]
   exact ⟨k4,k2.trans k5,k6,k7,RepV.mono k5.cell k3,k8⟩
 |[],_::_,_,_,_,hr,_,_,_,_,_=>hr.elim
 |_::_,[],_,_,_,hr,_,_,_,_,_=>hr.elim
theorem plainL_frz:∀{ds:List D} {cs:List C} (h:Heap),plainL ds=some cs→frzL h ds=some (cs,[])
 |[],cs,h,hp=>by simp only [plainL,Option.some.injEq] at hp;subst hp;rfl
 |.c x::ds,cs,h,hp=>by
  simp only [plainL,Option.bind_eq_bind,Option.bind_eq_some_iff,Option.some.injEq] at hp
  obtain ⟨r,h1,rfl⟩:=hp
  simp [frzL,frz,updH,plainL_frz h h1]
 |.full xs n::ds,cs,h,hp=>by
  simp only [plainL,Option.bind_eq_bind,Option.bind_eq_some_iff,Option.some.injEq] at hp
  obtain ⟨r,h1,rfl⟩:=hp
  simp [frzL,frz,updH,plainL_frz h h1]
 |.unk::_,_,_,hp=>by simp [plainL] at hp
 |.loc _ _::_,_,_,hp=>by simp [plainL] at hp
 |.arr _ _ _::_,_,_,hp=>by simp [plainL] at hp
 |.ptr _::_,_,_,hp=>by simp [plainL] at hp
 |.clo _ _::_,_,_,hp=>by simp [plainL] at hp
 |.agg _::_,_,_,hp=>by simp [plainL] at hp
 |.tup _::_,_,_,hp=>by simp [plainL] at hp
theorem plainL_rep {m:M} (hk:HOK B S m) {ds:List D} {us:List Value} {cs:List C} (hr:All2 (RepDc B S m) ds us) (hp:plainL ds=some cs):All2 (RepC m.w (Safe B S m)) cs us:=
 (frzL_ok hk hr (plainL_frz m.h hp)).2.2
theorem plainBoxes_get:∀{ids:List Nat} {h:Heap} {bs:List (List C)},plainBoxes h ids=some bs→bs.length=ids.length∧∀(q id:Nat),ids[q]?=some id→∃(ds:List D) (cs:List C),getH h id=.box ds∧plainL ds=some cs∧bs[q]?=some cs
 |[],h,bs,hp=>by
  simp only [plainBoxes,Option.some.injEq] at hp;subst hp
  exact ⟨rfl,fun q id hq=>by simp at hq⟩
 |i::ids,h,bs,hp=>by
  simp only [plainBoxes] at hp
  split at hp
  ·rename_i ds ho
   simp only [Option.bind_eq_bind,Option.bind_eq_some_iff,Option.some.injEq] at hp
   obtain ⟨cs,h1,r,h2,rfl⟩:=hp
   obtain ⟨h3,h4⟩:=plainBoxes_get h2
   refine ⟨by simp [h3],fun q id hq=>?_⟩
   cases q with
   |zero=>simp only [List.getElem?_cons_zero,Option.some.injEq] at hq;subst hq;exact ⟨ds,cs,ho,h1,rfl⟩
   |succ q=>simp only [List.getElem?_cons_succ] at hq ⊢;exact h4 q id hq
  ·cases hp
theorem boxH_get:∀(bs:List (List C)) (k q:Nat),(∀cs,k≤q→bs[q - k]?=some cs→getH (boxH k bs) q=.box (cs.map .c))∧((q < k∨k+bs.length≤q)→getH (boxH k bs) q=.dead)
 |[],k,q=>⟨fun cs _ h=>by simp at h,fun _=>rfl⟩
 |b::bs,k,q=>by
  obtain ⟨h1,h2⟩:=boxH_get bs (k+1) q
  refine ⟨fun cs hk h=>?_,fun h=>?_⟩
  ·simp only [boxH,getH]
   by_cases he:k=q
   ·subst he;simp at h;subst h;simp
   ·rw [if_neg he]
    refine h1 cs (by omega) ?_
    rw [show q - k=(q - (k+1))+1 by omega,List.getElem?_cons_succ] at h
    exact h
  ·simp only [boxH,getH]
   simp only [List.length_cons] at h
   rw [if_neg (by omega)]
   exact h2 (by omega)
theorem frz_box {h:Heap} {d:D} {c:C} {us:List (Nat×Obj)} (hf:frz h d=some (c,us)) {id:Nat} {ds:List D} (hb:getH h id=.box ds):getH (updH h us) id=.box ds:=by
 cases d with
 |arr i off len=>
  simp only [frz] at hf
  cases ho:getH h i with
  |arr cs esz fz ety=>
   rw [ho] at hf
   simp only at hf
   split at hf
   ·simp only [Option.some.injEq,Prod.mk.injEq] at hf
    obtain ⟨_,rfl⟩:=hf
    split
    ·exact hb
    ·have:i≠id:=fun e=>by subst e;rw [ho] at hb;cases hb
     simp [updH,getH,this,hb]
   ·cases hf
  |dead=>rw [ho] at hf;cases hf
  |box _=>rw [ho] at hf;cases hf
  |map _=>rw [ho] at hf;cases hf
 |c x=>simp only [frz,Option.some.injEq,Prod.mk.injEq] at hf;obtain ⟨_,rfl⟩:=hf;exact hb
 |full xs n=>simp only [frz,Option.some.injEq,Prod.mk.injEq] at hf;obtain ⟨_,rfl⟩:=hf;exact hb
 |unk=>simp [frz] at hf
 |loc _ _=>simp [frz] at hf
 |clo _ _=>simp [frz] at hf
 |mp id=>simp [frz] at hf
 |ptr _=>simp [frz] at hf
 |agg _=>simp [frz] at hf
 |tup _=>simp [frz] at hf
theorem frzL_box:∀{ds:List D} {h:Heap} {cs:List C} {us:List (Nat×Obj)},frzL h ds=some (cs,us)→∀{id:Nat} {es:List D},getH h id=.box es→getH (updH h us) id=.box es
 |[],h,cs,us,hf,id,es,hb=>by simp only [frzL,Option.some.injEq,Prod.mk.injEq] at hf;obtain ⟨_,rfl⟩:=hf;exact hb
 |d::ds,h,cs,us,hf,id,es,hb=>by
  simp only [frzL,Option.bind_eq_bind,Option.bind_eq_some_iff,Prod.exists,Option.some.injEq,Prod.mk.injEq] at hf
  obtain ⟨c,u,h1,r,us',h2,_,rfl⟩:=hf
  rw [updH_append]
  exact frzL_box h2 (frz_box h1 hb)
theorem boxesAt_ok:∀{k q:Nat} {m:M},HOK B S m→∀{bs:List (List C)} {us:List (Nat×Obj)},boxesAt m.h q k=some (bs,us)→
  HOK B S (m.heap (updH m.h us))∧Evolves B S m (m.heap (updH m.h us))∧bs.length=k∧(∀id es,getH m.h id=.box es→getH (updH m.h us) id=.box es)∧
  ∀i cs,bs[i]?=some cs→(∃es,getH m.h (q+i)=.box es)∧B≤m.β (q+i)∧∃(vs:List Value) (e:TypeId),m.w.heap[m.β (q+i)]?=some (.cells vs.toArray e (0,0))∧All2 (RepC m.w (Safe B S (m.heap (updH m.h us)))) cs vs
 |0,q,m,hk,bs,us,hb=>by
  simp only [boxesAt,Option.some.injEq,Prod.mk.injEq] at hb
  obtain ⟨rfl,rfl⟩:=hb
  exact ⟨hk,Evolves.refl m,rfl,fun _ _ h=>h,fun i cs h=>by simp at h⟩
 |k+1,q,m,hk,bs,us,hb=>by
  simp only [boxesAt] at hb
  split at hb
  ·rename_i ds ho
   simp only [Option.bind_eq_bind,Option.bind_eq_some_iff,Prod.exists,Option.some.injEq,Prod.mk.injEq] at hb
   obtain ⟨cs,u1,h1,r,u2,h2,rfl,rfl⟩:=hb
   obtain ⟨hB,vs,e,hw,hall⟩:=hk.box ho
   obtain ⟨k1,k2,k3⟩:=frzL_ok hk hall h1
   obtain ⟨k4,k5,k6,k7,k8⟩:=boxesAt_ok (m:=m.heap (updH m.h u1)) k1 h2
   rw [updH_append]
   refine ⟨k4,k2.trans k5,by simp [k6],fun id es h=>k7 id es (frzL_box h1 h),fun i cs' hi=>?_⟩
   cases i with
   |zero=>
    simp only [List.getElem?_cons_zero,Option.some.injEq] at hi
    subst hi
    exact ⟨⟨ds,ho⟩,hB,vs,e,hw,k3.mono fun x v h=>RepC.mono k5.cell x v h⟩
   |succ i=>
    simp only [List.getElem?_cons_succ] at hi
    obtain ⟨⟨es,j0⟩,j1,j2⟩:=k8 i cs' hi
    rw [show q+(i+1)=q+1+i by omega]
    refine ⟨?_,j1,j2⟩
    obtain ⟨c0,hc0⟩:∃o,getH m.h (q+1+i)=o:=⟨_,rfl⟩
    cases c0 with
    |box es'=>exact ⟨es',hc0⟩
    |map es'=>
     exfalso
     have key:∀{ds:List D} {h:Heap} {cs:List C} {us:List (Nat×Obj)},frzL h ds=some (cs,us)→∀p∈us,∃x y z t,p.2=Obj.arr x y z t:=by
      intro ds
      induction ds with
      |nil=>intro h cs us hf p hp;simp only [frzL,Option.some.injEq,Prod.mk.injEq] at hf;obtain ⟨_,rfl⟩:=hf;cases hp
      |cons d ds ih=>
       intro h cs us hf p hp
       simp only [frzL,Option.bind_eq_bind,Option.bind_eq_some_iff,Prod.exists,Option.some.injEq,Prod.mk.injEq] at hf
       obtain ⟨c,u,g1,r,us',g2,_,rfl⟩:=hf
       rcases List.mem_append.1 hp with hp|hp
       ·cases d<;>simp only [frz] at g1
        case arr i2 off len=>
         split at g1
         ·split at g1
          ·simp only [Option.some.injEq,Prod.mk.injEq] at g1
           obtain ⟨_,rfl⟩:=g1
           split at hp
           ·cases hp
           ·simp only [List.mem_singleton] at hp;subst hp;exact ⟨_,_,_,_,rfl⟩
          ·cases g1
         ·cases g1
        all_goals (first|(cases g1;done)|(simp only [Option.some.injEq,Prod.mk.injEq] at g1;obtain ⟨_,rfl⟩:=g1;cases hp))
       ·exact ih g2 p hp
     have upd:∀(us:List (Nat×Obj)) (h:Heap) (id:Nat),(∀p∈us,∃x y z t,p.2=Obj.arr x y z t)→(∃es,getH h id=.map es)∨(∃x y z t,getH h id=.arr x y z t)→(∃es,getH (updH h us) id=.map es)∨∃x y z t,getH (updH h us) id=.arr x y z t:=by
      intro us
      induction us with
      |nil=>intro h id _ ha;exact ha
      |cons p us ih=>
       intro h id hp ha
       refine ih _ _ (fun q hq=>hp q (by simp [hq])) ?_
       by_cases he:p.1=id
       ·obtain ⟨x,y,z,t,e⟩:=hp p (by simp)
        exact .inr ⟨x,y,z,t,by obtain ⟨p1,p2⟩:=p;simp only at he e;subst he e;simp [getH]⟩
       ·rcases ha with ⟨es,ha⟩|⟨x,y,z,t,ha⟩
        ·exact .inl ⟨es,by obtain ⟨p1,p2⟩:=p;simp only at he;simp [getH,he,ha]⟩
        ·exact .inr ⟨x,y,z,t,by obtain ⟨p1,p2⟩:=p;simp only at he;simp [getH,he,ha]⟩
     have j0':getH (updH m.h u1) (q+1+i)=.box es:=j0
     rcases upd u1 m.h (q+1+i) (key h1) (.inl ⟨es',hc0⟩) with ⟨es2,e⟩|⟨x,y,z,t,e⟩<;>rw [e] at j0'<;>cases j0'
    |dead=>
     by_cases hu:m.U (q+1+i)
     ·have:=k2.dead _ hu hc0
      exact absurd (this.symm.trans j0) (by simp)
     ·have:=k1.dom _ hu
      exact absurd (this.symm.trans j0) (by simp)
    |arr c1 c2 c3 c4=>
     exfalso
     have key:∀{ds:List D} {h:Heap} {cs:List C} {us:List (Nat×Obj)},frzL h ds=some (cs,us)→∀p∈us,∃x y z t,p.2=Obj.arr x y z t:=by
      intro ds
      induction ds with
      |nil=>intro h cs us hf p hp;simp only [frzL,Option.some.injEq,Prod.mk.injEq] at hf;obtain ⟨_,rfl⟩:=hf;cases hp
      |cons d ds ih=>
       intro h cs us hf p hp
       simp only [frzL,Option.bind_eq_bind,Option.bind_eq_some_iff,Prod.exists,Option.some.injEq,Prod.mk.injEq] at hf
       obtain ⟨c,u,g1,r,us',g2,_,rfl⟩:=hf
       rcases List.mem_append.1 hp with hp|hp
       ·cases d<;>simp only [frz] at g1
        case arr i2 off len=>
         split at g1
         ·split at g1
          ·simp only [Option.some.injEq,Prod.mk.injEq] at g1
           obtain ⟨_,rfl⟩:=g1
           split at hp
           ·cases hp
           ·simp only [List.mem_singleton] at hp;subst hp;exact ⟨_,_,_,_,rfl⟩
          ·cases g1
         ·cases g1
        all_goals (first|(cases g1;done)|(simp only [Option.some.injEq,Prod.mk.injEq] at g1;obtain ⟨_,rfl⟩:=g1;cases hp))
       ·exact ih g2 p hp
     have upd:∀(us:List (Nat×Obj)) (h:Heap) (id:Nat),(∀p∈us,∃x y z t,p.2=Obj.arr x y z t)→(∃x y z t,getH h id=.arr x y z t)→∃x y z t,getH (updH h us) id=.arr x y z t:=by
      intro us
      induction us with
      |nil=>intro h id _ hh;exact hh
      |cons p us ih=>
       intro h id hp hh
       refine ih (p::h) id (fun p' hp'=>hp p' (by simp [hp'])) ?_
       obtain ⟨i0,o0⟩:=p
       obtain ⟨x,y,z,t,hq⟩:=hp (i0,o0) (by simp)
       simp only at hq
       simp only [getH]
       split
       ·exact ⟨x,y,z,t,hq⟩
       ·exact hh
     obtain ⟨x,y,z,t,hq⟩:=upd u1 m.h (q+1+i) (key h1) ⟨_,_,_,_,hc0⟩
     have j0':getH (updH m.h u1) (q+1+i)=.box es:=j0
     rw [hq] at j0';cases j0'
  ·cases hb
theorem updH_zip:∀(ids:List Nat) (bs:List (List C)) (h:Heap) (id:Nat),ids.Nodup→bs.length=ids.length→
  (id ∉ ids→getH (updH h ((ids.zip bs).map fun p=>(p.1,Obj.box (p.2.map .c)))) id=getH h id)∧
  (∀q:Nat,ids[q]?=some id→∃cs:List C,(bs[q]?:Option (List C))=some cs∧getH (updH h ((ids.zip bs).map fun p=>(p.1,Obj.box (p.2.map .c)))) id=.box (cs.map .c))
 |[],bs,h,id,_,hl=>⟨fun _=>by simp [updH],fun q hq=>by simp at hq⟩
 |i::ids,[],h,id,_,hl=>by simp at hl
 |i::ids,b::bs,h,id,hn,hl=>by
  rw [List.nodup_cons] at hn
  obtain ⟨h1,h2⟩:=updH_zip ids bs ((i,.box (b.map .c))::h) id hn.2 (by simpa using hl)
  simp only [List.zip_cons_cons,List.map_cons,updH]
  refine ⟨fun hni=>?_,fun q hq=>?_⟩
  ·simp only [List.mem_cons,not_or] at hni
   rw [h1 hni.2]
   simp [getH,Ne.symm hni.1]
  ·cases q with
   |zero=>
    simp only [List.getElem?_cons_zero,Option.some.injEq] at hq
    subst hq
    refine ⟨b,rfl,?_⟩
    rw [h1 hn.1]
    simp [getH]
   |succ q=>
    simp only [List.getElem?_cons_succ] at hq
    obtain ⟨cs,h3,h4⟩:=h2 q hq
    exact ⟨cs,h3,h4⟩
theorem tupD_toD:∀rs:List V,tupD (rs.map V.toD)=retD rs
 |[]=>rfl
 |[_]=>rfl
 |_::_::_=>rfl
theorem tupD_all2 {B:Nat} {S:Nat→Nat→Prop} {m:M} {rs:List D} {v:Value} (h:RepD B S m (tupD rs) v) (hn:∀d,d∈rs→∀q,d≠.tup q):
  ∃us:List Value,All2 (RepA B S m) rs us∧∀(S2:Nat→Nat→Prop) (m':M) (rs':List D),rs'.length=rs.length→All2 (RepA B S2 m') rs' us→RepD B S2 m' (tupD rs') v:=by
 match rs,h,hn with
 |[],h,_=>
  obtain ⟨us,rfl,h2⟩:=h
  refine ⟨us,h2,fun S2 m' rs' hl h3=>?_⟩
  match rs',hl with
  |[],_=>exact ⟨us,rfl,h3⟩
 |[d],h,hn=>
  have hA:RepA B S m d v:=by
   cases d with
   |tup q=>exact absurd rfl (hn (.tup q) (by simp) q)
   |_=>exact h
  refine ⟨[v],⟨hA,trivial⟩,fun S2 m' rs' hl h3=>?_⟩
  match rs',hl with
  |[d'],_=>exact h3.1.toD
 |d::d'::ds,h,_=>
  obtain ⟨us,rfl,h2⟩:=h
  refine ⟨us,h2,fun S2 m' rs' hl h3=>?_⟩
  match rs',hl with
  |_::_::_,_=>exact ⟨us,rfl,h3⟩
theorem lent_wp {m:M} {o:Oper} {a:Act} {slot:Nat} (hk:HOK B S m) (hinv:Keeps.Inv B m.w) {f:Nat} {args:Array Operand} {ts:Array TypeId} (hop:o.op=.call { callee:=.value (.func f),args,argTypes:=ts}) {ds:List D} (hd:All2 (RepD B S m) ds (args.map a.eval).toList)
  {lent:Lent} (hl:∀f as bs rs bs',lent f as bs=some (rs,bs')→LentOK P f as bs rs bs') {d:D} {us:List (Nat×Obj)} (hf:lentD lent m.h f ds=some (d,us)) {K:Act→World→Prop} {Q:Exit→Act→World→Prop}
  (hK:∀v w',Post B S m slot us d v w'→K (a.put o.dst v) w'):o.wp P a m.w K Q:=by
 simp only [lentD,Option.bind_eq_bind,Option.bind_eq_some_iff,Prod.exists] at hf
 obtain ⟨as,ids,us0,h1,bs,h2,rs,bs',h3,hf⟩:=hf
 split at hf
 case isFalse=>cases hf
 rename_i hlen
 simp only [Option.some.injEq,Prod.mk.injEq] at hf
 obtain ⟨rfl,rfl⟩:=hf
 obtain ⟨k1,k2,_,k4,k5⟩:=lentArgs_ok hk hd List.nodup_nil h1
 obtain ⟨p1,p2⟩:=plainBoxes_get h2
 obtain ⟨ds',h',n',us1,us2,⟨hc,hL⟩,hfr,hbx⟩:=hl _ _ _ _ _ h3
 let S':Nat→Nat→Prop:=fun b o=>S b o∧∀id,id ∉ ids→match getH (updH m.h us0) id with|.dead=>True|.box _=>m.β id≠b|.map _=>m.β id≠b|.arr _ _ fz _=>m.β id=b→o < fz
 let mi:M:=⟨m.w,boxH 0 bs,fun q=>m.β (ids.getD q 0),fun i=>i < bs.length⟩
 have bget:∀q id,ids[q]?=some id→∃(es:List D) (cs:List C),getH (updH m.h us0) id=.box es∧plainL es=some cs∧bs[q]?=some cs∧getH mi.h q=.box (cs.map .c)∧mi.β q=m.β id:=fun q id hq=>by
  obtain ⟨es,cs,g1,g2,g3⟩:=p2 q id hq
  refine ⟨es,cs,g1,g2,g3,?_,?_⟩
  ·exact (boxH_get bs 0 q).1 cs (Nat.zero_le _) (by simpa using g3)
  ·show m.β (ids.getD q 0)=_
   rw [List.getD_eq_getElem?_getD,hq];rfl
 have live:∀q,getH mi.h q≠.dead→∃id,ids[q]?=some id:=fun q hq=>by
  by_cases hlt:q < bs.length
  ·exact ⟨ids[q]'(by omega),List.getElem?_eq_getElem (by omega)⟩
  ·exact absurd ((boxH_get bs 0 q).2 (.inr (by omega))) hq
 have safe_in:∀b q,Safe B S (m.heap (updH m.h us0)) b q→Safe B S' mi b q:=fun b q hs=>by
  refine ⟨⟨hs.1,fun id _=>hs.2 id⟩,fun j=>?_⟩
  show match getH mi.h j with|.dead=>True|.box _=>mi.β j≠b|.map _=>mi.β j≠b|.arr _ _ fz _=>mi.β j=b→q < fz
  by_cases hj:getH mi.h j=.dead
  ·rw [hj];trivial
  ·obtain ⟨id,hid⟩:=live j hj
   obtain ⟨es,cs,g1,g2,g3,g4,g5⟩:=bget j id hid
   rw [g4,g5]
   have:=hs.2 id
   rw [show getH (m.heap (updH m.h us0)).h id=.box es from g1] at this
   exact this
 have hkI:HOK B S' mi:=by
  refine ⟨fun q=>?_,fun i j hi hj he=>?_,fun q hq=>?_,k1.base,fun b q hb=>⟨k1.fresh b q hb,fun id _=>?_⟩,fun q cs esz fz ety hq=>?_⟩
  ·unfold RepO
   by_cases hj:getH mi.h q=.dead
   ·rw [hj];trivial
   ·obtain ⟨id,hid⟩:=live q hj
    obtain ⟨es,cs,g1,g2,g3,g4,g5⟩:=bget q id hid
    obtain ⟨hB,vs,e,hw,hall⟩:=k1.box g1
    rw [g4,g5]
    refine ⟨hB,vs,e,hw,All2.map_left ?_⟩
    exact (plainL_rep k1 hall g2).mono fun x v hx=>RepC.mono (fun b q u c1 c2=>⟨c1,safe_in b q c2⟩) x v hx
  ·obtain ⟨i1,hi1⟩:=live i hi
   obtain ⟨j1,hj1⟩:=live j hj
   obtain ⟨es,_,g1,_,_,_,g5⟩:=bget i i1 hi1
   obtain ⟨es',_,g1',_,_,_,g5'⟩:=bget j j1 hj1
   rw [g5,g5'] at he
   have:i1=j1:=k1.inj i1 j1 (by show getH (updH m.h us0) i1≠_;rw [g1];simp) (by show getH (updH m.h us0) j1≠_;rw [g1'];simp) he
   subst this
   have hi2:=(List.getElem?_eq_some_iff.1 hi1)
   have hj2:=(List.getElem?_eq_some_iff.1 hj1)
   obtain ⟨a1,a2⟩:=hi2
   obtain ⟨b1,b2⟩:=hj2
   exact (List.getElem_inj k4).1 (a2.trans b2.symm)
  ·exact (boxH_get bs 0 q).2 (.inr (by have:¬q < bs.length:=hq;omega))
  ·cases ho:getH (updH m.h us0) id with
   |dead=>trivial
   |box es=>
    have h9:m.β id < m.w.heap.size:=k1.lt (id:=id) (by show getH (updH m.h us0) id≠_;rw [ho];simp)
    have h10:m.w.heap.size≤b:=hb
    show m.β id≠b
    omega
   |map es=>
    have h9:m.β id < m.w.heap.size:=k1.lt (id:=id) (by show getH (updH m.h us0) id≠_;rw [ho];simp)
    have h10:m.w.heap.size≤b:=hb
    show m.β id≠b
    omega
   |arr c1 c2 c3 c4=>
    have h9:m.β id < m.w.heap.size:=k1.lt (id:=id) (by show getH (updH m.h us0) id≠_;rw [ho];simp)
    have h10:m.w.heap.size≤b:=hb
    show m.β id=b→q < c3
    omega
  ·have hj:getH mi.h q≠.dead:=by rw [hq];simp
   obtain ⟨id,hid⟩:=live q hj
   obtain ⟨_,_,_,_,_,g4,_⟩:=bget q id hid
   rw [g4] at hq;cases hq
 have hargs:All2 (RepD B S' mi) (as.map LV.toD) (args.map a.eval).toList:=by
  refine All2.map_left (k5.mono fun x v hx=>?_)
  cases x with
  |v x=>
   have h9:RepV m.w (Safe B S (m.heap (updH m.h us0))) x v:=hx
   exact (RepV.toD (m:=mi) (RepV.mono (fun b q u c1 c2=>⟨c1,safe_in b q c2⟩) h9)).toD
  |ref b=>
   obtain ⟨id,g1,g2,rfl⟩:=hx
   obtain ⟨_,_,_,_,g3,_,g5⟩:=bget b id g1
   refine ⟨(List.getElem?_eq_some_iff.1 g3).1,?_⟩
   rw [g5];rfl
 unfold Oper.wp
 rw [run_call hc hop]
 show Calls P f (args.map a.eval) m.w _
 have he:(args.map a.eval).toList.toArray=args.map a.eval:=Array.toArray_toList
 have hcall:=hL B S' mi (args.map a.eval).toList rfl (fun _=>Iff.rfl) hkI hinv hargs
 rw [he] at hcall
 refine hcall.mono fun e w' ⟨v,m',q0,q1,q2,q3,q4,q5,q6,q7,q8⟩=>?_
 subst q0 q1
 refine hK v m'.w ?_
 obtain ⟨vs,t1,t2⟩:=tupD_all2 q6 q8
 rw [←q2] at hfr hbx
 obtain ⟨r1,r2,r3⟩:=frzVs_ok q4 t1 hfr
 obtain ⟨x1,x2,x3,x4,x5⟩:=boxesAt_ok (m:=m'.heap (updH m'.h us1)) r1 hbx
 have hev:=(q5.trans r2).trans x2
 let m2:M:=(m'.heap (updH m'.h us1)).heap (updH (updH m'.h us1) us2)
 let mo:M:=⟨m'.w,updH m.h (us0++(ids.zip bs').map fun p=>(p.1,.box (p.2.map .c))),m.β,fun i=>m.U i∨i=slot⟩
 have hH:mo.h=updH (updH m.h us0) ((ids.zip bs').map fun p=>(p.1,.box (p.2.map .c))):=updH_append _ _ _
 have hout:∀id,id ∉ ids→getH mo.h id=getH (updH m.h us0) id:=fun id hni=>by rw [hH];exact (updH_zip ids bs' _ id k4 hlen).1 hni
 have hin:∀q id,ids[q]?=some id→∃cs:List C,bs'[q]?=some cs∧getH mo.h id=.box (cs.map .c):=fun q id hq=>by rw [hH];exact (updH_zip ids bs' _ id k4 hlen).2 q hq
 have idx:∀id,id∈ids→∃q,ids[q]?=some id:=fun id hi=>List.getElem?_of_mem hi
 have atq:∀q id,ids[q]?=some id→m'.β q=m.β id:=fun q id hq=>by
  obtain ⟨_,_,_,_,g3,_,g5⟩:=bget q id hq
  rw [←g5]
  exact q5.at_ q (List.getElem?_eq_some_iff.1 g3).1
 have safe_out:∀b q,Safe B S' m2 b q→Safe B S mo b q:=fun b q hs=>by
  refine ⟨hs.1.1,fun id=>?_⟩
  show match getH mo.h id with|.dead=>True|.box _=>m.β id≠b|.map _=>m.β id≠b|.arr _ _ fz _=>m.β id=b→q < fz
  by_cases hi:id∈ids
  ·obtain ⟨j,hj⟩:=idx id hi
   obtain ⟨cs,g1,g2⟩:=hin j id hj
   rw [g2]
   obtain ⟨⟨es,g3⟩,_⟩:=x5 j cs g1
   rw [Nat.zero_add] at g3
   have:=hs.2 j
   rw [show getH m2.h j=.box es from x4 j es g3] at this
   rw [←atq j id hj]
   exact this
  ·rw [hout id hi];exact hs.1.2 id hi
 have hbox1:∀id,id∈ids→∃es,getH (updH m.h us0) id=.box es:=fun id hi=>by
  obtain ⟨j,hj⟩:=idx id hi
  obtain ⟨es,_,g1,_⟩:=bget j id hj
  exact ⟨es,g1⟩
 have hrest:∀b,B≤b→b < m.w.heap.size→(∀q id,ids[q]?=some id→m.β id≠b)→m'.w.heap[b]?=m.w.heap[b]?:=fun b hB hb hn=>by
  refine (q5.rest b hB hb fun q hq=>?_).1
  obtain ⟨id,hid⟩:=live q hq
  obtain ⟨_,_,_,_,_,_,g5⟩:=bget q id hid
  rw [g5];exact hn q id hid
 have liveo:∀id,getH mo.h id≠.dead→getH (updH m.h us0) id≠.dead:=fun id hid=>by
  by_cases hi:id∈ids
  ·obtain ⟨es,g1⟩:=hbox1 id hi;rw [g1];simp
  ·rw [←hout id hi];exact hid
 have other:∀id,id ∉ ids→getH (updH m.h us0) id≠.dead→m'.w.heap[m.β id]?=m.w.heap[m.β id]?:=fun id hni hd=>by
  refine hrest _ (k1.ge (id:=id) hd) (k1.lt (id:=id) hd) fun q id' hq he=>?_
  obtain ⟨es,g1⟩:=hbox1 id' (List.mem_of_getElem? hq)
  have:id'=id:=k1.inj id' id (by show getH (updH m.h us0) id'≠_;rw [g1];simp) hd he
  exact hni (this▸List.mem_of_getElem? hq)
 have ev1:Evolves B S (m.heap (updH m.h us0)) mo:=by
  refine ⟨fun b q u c1 c2=>?_,fun id hu=> .inl hu,fun id hu hd=>?_,fun id _=>rfl,fun id cs' esz' fz' ety' hu hg=>?_,fun b hB hb hn=>?_⟩
  ·obtain ⟨c3,_⟩:=hev.cell b q u c1 (safe_in b q c2)
   refine ⟨c3,c2.1,fun id=>?_⟩
   show match getH mo.h id with|.dead=>True|.box _=>m.β id≠b|.map _=>m.β id≠b|.arr _ _ fz _=>m.β id=b→q < fz
   by_cases hi:id∈ids
   ·obtain ⟨j,hj⟩:=idx id hi
    obtain ⟨cs,_,g2⟩:=hin j id hj
    rw [g2]
    obtain ⟨es,g1⟩:=hbox1 id hi
    have:=c2.2 id
    rw [show getH (m.heap (updH m.h us0)).h id=.box es from g1] at this
    exact this
   ·rw [hout id hi];exact c2.2 id
  ·by_cases hi:id∈ids
   ·obtain ⟨es,g1⟩:=hbox1 id hi
    have hd':getH (updH m.h us0) id=.dead:=hd
    rw [g1] at hd';cases hd'
   ·rw [hout id hi];exact hd
  ·by_cases hi:id∈ids
   ·obtain ⟨j,hj⟩:=idx id hi
    obtain ⟨cs,_,g2⟩:=hin j id hj
    rw [g2] at hg;cases hg
   ·rw [hout id hi] at hg
    refine ⟨cs',fz',hg,?_⟩
    have:=other id hi (by rw [hg];simp)
    show m'.w.shape? (m.β id)=m.w.shape? (m.β id)
    simp only [World.shape?,this]
  ·refine ⟨hrest b hB hb fun q id hq=>?_,fun id hd=>hn id (liveo id hd)⟩
   obtain ⟨es,g1⟩:=hbox1 id (List.mem_of_getElem? hq)
   exact hn id (by show getH (updH m.h us0) id≠_;rw [g1];simp)
 have hko:HOK B S mo:=by
  refine ⟨fun id=>?_,fun i j hi hj he=>k1.inj i j (liveo i hi) (liveo j hj) he,fun id hu=>?_,q4.base,fun b q hb=>(q4.fresh b q hb).1,fun id cs esz fz ety hg q=>?_⟩
  ·unfold RepO
   by_cases hi:id∈ids
   ·obtain ⟨j,hj⟩:=idx id hi
    obtain ⟨cs,g1,g2⟩:=hin j id hj
    rw [g2]
    obtain ⟨_,g4,vs',e',g5,g6⟩:=x5 j cs g1
    rw [Nat.zero_add] at g4 g5
    have hβ:(m'.heap (updH m'.h us1)).β j=m.β id:=atq j id hj
    rw [hβ] at g4 g5
    refine ⟨g4,vs',e',g5,All2.map_left ?_⟩
    exact g6.mono fun x u hx=>RepC.mono (fun b q u c1 c2=>⟨c1,safe_out b q c2⟩) x u hx
   ·rw [hout id hi]
    by_cases hd:getH (updH m.h us0) id=.dead
    ·rw [hd];trivial
    ·exact ev1.repOb (other id hi hd) (k1.obj id)
  ·have hu':¬m.U id:=fun h=>hu (.inl h)
   by_cases hi:id∈ids
   ·obtain ⟨es,g1⟩:=hbox1 id hi
    have:=k1.dom id hu'
    rw [show getH (m.heap (updH m.h us0)).h id=.box es from g1] at this
    cases this
   ·rw [hout id hi];exact k1.dom id hu'
  ·by_cases hi:id∈ids
   ·obtain ⟨j,hj⟩:=idx id hi
    obtain ⟨cs',_,g2⟩:=hin j id hj
    rw [g2] at hg;cases hg
   ·rw [hout id hi] at hg
    exact k1.arrS id cs esz fz ety hg q
 refine ⟨m.β,hko,k2.trans ev1,?_,q7⟩
 have r4:All2 (RepA B S mo) (rs.map V.toD) vs:=by
  refine All2.map_left (r3.mono fun x u hx=>?_)
  have h9:RepV m'.w (Safe B S' m2) x u:=RepV.mono x2.cell hx
  exact RepV.toD (m:=mo) (RepV.mono (fun b q u c1 c2=>⟨c1,safe_out b q c2⟩) h9)
 have r5:RepD B S mo (tupD (rs.map V.toD)) v:=t2 S mo _ (by rw [List.length_map,r3.len,←t1.len]) r4
 rw [tupD_toD] at r5
 exact r5
theorem instD_wp {shF:Nat→Nat} {nt:Nat} {w0:World} {e:Env} {m:M} {o:Oper} {a:Act} {slot:Nat} {d:D} {us:List (Nat×Obj)} {ops:Array Oper} {i:Inst} (h:compInst P shF nt ops o=some i) (hns:∀f ow xs,i.ins≠.callS f ow xs) (hnv:∀x xs,i.ins≠.callV x xs) (hr:Rel B S w0 nt m e a) (hs:¬m.U slot) {call:Callee} (hcall:∀f vs rs,call f vs=some rs→FnOK P f vs rs)
  {lent:Lent} (hl:∀f as bs rs bs',lent f as bs=some (rs,bs')→LentOK P f as bs rs bs')
  (hst:stepD call lent (evX e) m.h slot i.ins=some (d,us)) {K:Act→World→Prop} {Q:Exit→Act→World→Prop}
  (hK:∀(a':Act) (m':M),m'.h=updH m.h us→m'.U=(fun i=>m.U i∨i=slot)→Evolves B S m m'→Rel B S w0 nt m' (putE e i.dst d) a'→K a' m'.w):o.wp P a m.w K Q:=by
 have other:(∀f xs,i.ins≠.callL f xs)→stepS call (evX e) m.h slot i.ins=some (d,us):=fun hne=>by
  rw [←hst]
  cases hins:i.ins with
  |callL f xs=>exact absurd hins (hne f xs)
  |_=>rfl
 by_cases hne:∃f xs,i.ins=.callL f xs
 ·obtain ⟨f,xs,hins⟩:=hne
  obtain ⟨h1,h2,h3,_⟩:=compInst_parts h
  rw [hins] at hst h1
  simp only [stepD] at hst
  obtain ⟨args,ts,hop,h7⟩:=compOp_callL (compOp_of h1 rfl)
  have hall:=compXs_all hr h7
  refine lent_wp (slot:=slot) hr.hok hr.inv hop (by simpa using hall) hl hst ?_
  rintro v w' ⟨β',p1,p2,p3,p4⟩
  have:=(hr.evolve p2 p1 p4).put h3 p3
  rw [h2] at hK
  exact hK _ _ rfl rfl p2 this
 ·have h4:=other fun f xs e=>hne ⟨f,xs,e⟩
  unfold stepS at h4
  split at h4
  ·rename_i hm
   obtain ⟨p1,p2,p3,_⟩:=compInst_parts h
   have hcm:compMap P o.op=some i.ins:=by
    rcases compOpM_parts p1 with ⟨_,h3⟩|⟨h3,_⟩
    ·exact h3
    ·rw [hm] at h3;cases h3
   obtain ⟨n,v,w',h5,h6,h7⟩:=stepM_ok hcm hr.hok hr.opd (slot:=slot) hs h4
   have fin:∀v w',Post B S m slot us d v w'→K (a.put o.dst v) w':=by
    rintro v w' ⟨β',q1,q2,q3,q4⟩
    have:=(hr.evolve q2 q1 q4).put p3 q3
    rw [p2] at hK
    exact hK _ _ rfl rfl q2 this
   unfold Oper.wp
   rw [h5]
   rcases h6 with rfl|⟨rfl,rfl⟩
   ·exact fin v w' h7
   ·exact fin undef w' h7
  ·exact inst_wp h hns hnv hr hs hcall h4 hK
end
end Go.Ey
