/- A part. -/
import Derived.Test.YtolnnaanmfnkjaaGreatDoorZ16
set_option linter.all false
namespace Go.Ey
open RowKit
theorem Aj:∀{ds:List D} {h h':Heap} {ids:List Nat},Agree (ds.flatMap wO) h h'->dW h ds ids=dW h' ds ids
 |[],_,_,_,_=>rfl
 |d::ds,h,h',ids,hh=>by
  have hd:Agree (wO d) h h':=hh.mono fun id hi=>by simp [hi]
  have hr:Agree (ds.flatMap wO) h h':=hh.mono fun id hi=>by simp only [D3,B0];exact .inr hi
  have gen:∀d:D,(∀id off,d≠.loc id off)->Agree (dm d) h h'->
    (do let (x,u) <-nN h d;let (aJ,ids',us) <-dW (ay h u) ds ids;some (LV.v x::aJ,ids',u++us))=(do let (x,u) <-nN h' d;let (aJ,ids',us) <-dW (ay h' u) ds ids;some (LV.v x::aJ,ids',u++us):Option (List LV×List Nat×List (Nat×Obj))):=by
   intro d _ ha;rw [Gz ha];cases nN h' d with
   |none=>rfl
   |some p=>
    simp only [A2,A4];rw [Aj (hr.upd p.2)]
  cases d with
  |loc id off=>
   simp only [dW];split
   ·rw [Aj hr]
   ·rfl
  |rq=>exact gen _ (by simp) hd
  |c x=>exact gen _ (by simp) hd
  |arr i o l=>exact gen _ (by simp) hd
  |ptr cs=>exact gen _ (by simp) hd
  |full cs n=>exact gen _ (by simp) hd
  |fq f cs=>exact gen _ (by simp) hd
  |mp id=>exact gen _ (by simp) hd
  |agg ds=>exact gen _ (by simp) hd
  |jG ds=>exact gen _ (by simp) hd
theorem Cw:∀{ds:List D} {h:Heap} {ids:List Nat} {aJ:List LV} {ids':List Nat} {us:List (Nat×Obj)},dW h ds ids=some (aJ,ids',us)->∀id∈ids',id∈ids\/id∈ds.flatMap wO
 |[],h,ids,aJ,ids',us,he,id,hi=>by simp only [dW,A0,A3] at he;obtain ⟨rfl,rfl,rfl⟩:=he;exact .inl hi
 |d::ds,h,ids,aJ,ids',us,he,id,hi=>by
  simp only [dW] at he;split at he
  ·rename_i i off;split at he
   ·simp only [A2,A1,C1,A0,A3] at he;obtain ⟨as1,ane,Df,h1,rfl,rfl,rfl⟩:=he;rcases Cw h1 id hi with h2|h2
    ·simp only [B0,B8] at h2;rcases h2 with h2|rfl
     ·exact .inl h2
     ·exact .inr (by simp [wO])
    ·exact .inr (by simp only [D3,B0];exact .inr h2)
   ·cases he
  ·simp only [A2,A1,C1,A0,A3] at he;obtain ⟨x,u,h0,as1,ane,Df,h1,rfl,rfl,rfl⟩:=he;rcases Cw h1 id hi with h2|h2
   ·exact .inl h2
   ·exact .inr (by simp only [D3,B0];exact .inr h2)
theorem Br:∀{ids:List Nat} {h h':Heap},Agree ids h h'->jg h ids=jg h' ids
 |[],_,_,_=>rfl
 |id::ids,h,h',hh=>by simp only [jg];rw [hh id (by simp),Br (ids:=ids) fun i hi=>hh i (by simp [hi])]
theorem Uu {aK:Bw} {f:Nat} {ds:List D} {h h':Heap} (hh:Agree (ds.flatMap wO) h h'):CY aK h f ds=CY aK h' f ds:=by
 unfold CY;rw [Aj hh];cases he:dW h' ds [] with
 |none=>rfl
 |some p=>
  obtain ⟨aJ,ids,us⟩:=p;simp only [A2,A4];rw [Br (ids:=ids) ((hh.upd us).mono fun id hi=>by
   rcases Cw he id hi with h1|h1
   ·cases h1
   ·exact h1)]
theorem Lb {call:Callee} {aK:Bw} {ρ ρ':X->D} {slot:Nat} {ins:Ins} {h h':Heap} (hx:∀x,x∈mZ ins->ρ x=ρ' x) (hh:Agree (touches ρ ins) h h'):j3 call aK ρ h slot ins=j3 call aK ρ' h' slot ins:=by
 cases ins with
 |lH f xs=>
  have h1:xs.map ρ=xs.map ρ':=List.map_congr_left fun x hxx=>hx x (by simpa [mZ] using hxx)
  simp only [j3,<-h1];refine Uu (hh.mono fun id hi=>?_)
  simp only [Lz] at hi;exact hi
 |_=>exact WR (call:=call) (slot:=slot) hx hh
theorem Rq {P:Program} {wz:Nat->Nat} {o:Oper} {f:Nat} {xs:List X} (h:qi P wz o.op=some (.lH f xs)):∃args ts,o.op=.call { callee:=.value (.func f),args,argTypes:=ts}/\iw args.toList=some xs:=by
 unfold qi at h;split at h<;>try (cases h;done)
 all_goals simp only [A2,A1,A0] at h
 case h_23 f' args ts hop=>
  obtain ⟨ys,h1,h2⟩:=h;split at h2<;>first|(cases h2;done)|(simp only [Ins.lH.injEq] at h2;obtain ⟨rfl,rfl⟩:=h2;exact ⟨args,ts,hop,h1⟩)
 all_goals (exfalso;revert h)
 case h_25 b args ts hop=>
  rintro ⟨ys,h1,h2⟩;split at h2<;>try (cases h2;done)
  ·split at h2<;>simp at h2
  ·simp only [A1] at h2;obtain ⟨_,_,_,_,_,_,h2⟩:=h2;split at h2
   ·split at h2<;>simp at h2
   ·split at h2<;>simp at h2
   ·simp at h2
  ·simp only [A1] at h2;obtain ⟨_,_,_,_,h2⟩:=h2;split at h2<;>simp at h2
 case h_11=>rintro ⟨_,_,_,_,h⟩;split at h<;>first|(simp at h;done)|(simp only [A1] at h;obtain ⟨_,_,h⟩:=h;split at h<;>first|(simp only [N9] at h;split at h<;>simp at h;done)|(cases h))
 case h_13=>rintro ⟨_,_,h⟩;split at h<;>first|(simp at h;done)|(split at h<;>simp at h)
 case h_15=>rintro ⟨_,_,_,_,_,_,h⟩;split at h<;>first|(simp at h;done)|(simp only [A1] at h;obtain ⟨_,_,h⟩:=h;simp at h)
 case h_16=>rintro ⟨_,_,_,_,_,_,_,_,h⟩;split at h<;>first|(simp only [A1] at h;obtain ⟨_,_,h⟩:=h;simp at h;done)|(simp at h)
 case h_17=>rintro ⟨_,_,h⟩;split at h<;>simp at h
 case h_21=>rintro ⟨_,_,_,_,h⟩;split at h<;>simp at h
 all_goals (intro h;simp at h)
variable [lV]
def EL (P:Program) (f:Nat) (aJ:List LV) (bs:List (List C)) (rs:List V) (bs':List (List C)):Prop:=
 ∃ds h' n' us us',J3 P f (aJ.map LV.mY) (JA 0 bs) bs.length ds h' n'/\iX h' ds=some (rs,us)/\xW (ay h' us) 0 bs.length=some (bs',us')
section
variable {B:Nat} {S:Nat->Nat->Prop} {P:Program}
def arx (B:Nat) (S:Nat->Nat->Prop) (m:M) (ids:List Nat) (a:LV) (u:Value):Prop:=
 match a with
 |.v x=>fP m.w (Safe B S m) x u
 |.ref b=>∃id,ids[b]?=some id/\m.U id/\u=.pointer (some ⟨m.β id,0,none⟩)
theorem EF:∀{ds:List D} {us:List Value} {m:M} {ids:List Nat},fu B S m->av (dZ B S m) ds us->ids.Nodup->∀{aJ:List LV} {ids':List Nat} {xs:List (Nat×Obj)},dW m.h ds ids=some (aJ,ids',xs)->
  fu B S (m.heap (ay m.h xs))/\aB B S m (m.heap (ay m.h xs))/\(∃new,ids'=ids++new)/\ids'.Nodup/\av (arx B S (m.heap (ay m.h xs)) ids') aJ us
 |[],[],m,ids,hk,_,hn,aJ,ids',xs,hf=>by simp only [dW,A0,A3] at hf;obtain ⟨rfl,rfl,rfl⟩:=hf;exact ⟨hk,aB.refl m,⟨[],by simp⟩,hn,trivial⟩
 |d::ds,u::us,m,ids,hk,hr,hn,aJ,ids',xs,hf=>by
  simp only [dW] at hf;split at hf
  ·rename_i id off;split at hf
   ·rename_i hoff;obtain ⟨rfl,hnc⟩:=hoff;simp only [A2,A1,C1,A0,A3] at hf;obtain ⟨as1,ane,Df,h1,rfl,rfl,rfl⟩:=hf;have hni:id ∉ ids:=by simpa using hnc
    have hn2:(ids++[id]).Nodup:=by rw [I0];exact ⟨hn,by simp,fun a ha b hb=>by simp only [B8] at hb;subst hb;exact fun e=>hni (e▸ha)⟩
    obtain ⟨k1,k2,⟨new,k3⟩,k4,k5⟩:=EF hk hr.2 hn2 h1;have hd:m.U id/\u=.pointer (some ⟨m.β id,0,none⟩):=hr.1;refine ⟨k1,k2,⟨id::new,by rw [k3];simp⟩,k4,⟨id,?_,hd.1,hd.2⟩,k5⟩
    rw [k3];simp
   ·cases hf
  ·rename_i hnl;simp only [A2,A1,C1,A0,A3] at hf;obtain ⟨x,y,h1,as1,ane,Df,h2,rfl,rfl,rfl⟩:=hf;have hr1:ni B S m d u:=by
    cases d with
    |jG ds=>simp [nN,nP] at h1
    |_=>exact hr.1
   obtain ⟨k1,k2,k3⟩:=Iq hk hr1 h1;have hr2:av (dZ B S (m.heap (ay m.h y))) ds us:=hr.2.mono fun _ _ h=>k2.Yg h
   obtain ⟨k4,k5,k6,k7,k8⟩:=EF (m:=m.heap (ay m.h y)) k1 hr2 hn h2;rw [eD];exact ⟨k4,k2.trans k5,k6,k7,fP.mono k5.cell k3,k8⟩
 |[],_::_,_,_,_,hr,_,_,_,_,_=>hr.elim
 |_::_,[],_,_,_,hr,_,_,_,_,_=>hr.elim
theorem FT:∀{ds:List D} {cs:List C} (h:Heap),jF ds=some cs->jZ h ds=some (cs,[])
 |[],cs,h,hp=>by simp only [jF,A0] at hp;subst hp;rfl
 |.c x::ds,cs,h,hp=>by simp only [jF,A2,A1,A0] at hp;obtain ⟨r,h1,rfl⟩:=hp;simp [jZ,nP,ay,FT h h1]
 |.full xs n::ds,cs,h,hp=>by simp only [jF,A2,A1,A0] at hp;obtain ⟨r,h1,rfl⟩:=hp;simp [jZ,nP,ay,FT h h1]
 |.rq::_,_,_,hp=>by simp [jF] at hp
 |.loc _ _::_,_,_,hp=>by simp [jF] at hp
 |.arr _ _ _::_,_,_,hp=>by simp [jF] at hp
 |.ptr _::_,_,_,hp=>by simp [jF] at hp
 |.fq _ _::_,_,_,hp=>by simp [jF] at hp
 |.agg _::_,_,_,hp=>by simp [jF] at hp
 |.jG _::_,_,_,hp=>by simp [jF] at hp
theorem XH {m:M} (hk:fu B S m) {ds:List D} {us:List Value} {cs:List C} (hr:av (fA B S m) ds us) (hp:jF ds=some cs):av (bJ m.w (Safe B S m)) cs us:=
 (Hr hk hr (FT m.h hp)).2.2
theorem Em:∀{ids:List Nat} {h:Heap} {bs:List (List C)},jg h ids=some bs->bs.length=ids.length/\∀(q id:Nat),ids[q]?=some id->∃(ds:List D) (cs:List C),ax h id=.box ds/\jF ds=some cs/\bs[q]?=some cs
 |[],h,bs,hp=>by simp only [jg,A0] at hp;subst hp;exact ⟨rfl,fun q id hq=>by simp at hq⟩
 |i::ids,h,bs,hp=>by
  simp only [jg] at hp;split at hp
  ·rename_i ds ho;simp only [A2,A1,A0] at hp;obtain ⟨cs,h1,r,h2,rfl⟩:=hp;obtain ⟨h3,h4⟩:=Em h2;refine ⟨by simp [h3],fun q id hq=>?_⟩
   cases q with
   |zero=>simp only [C0,A0] at hq;subst hq;exact ⟨ds,cs,ho,h1,rfl⟩
   |succ q=>simp only [Bm] at hq |-;exact h4 q id hq
  ·cases hp
theorem HV:∀(bs:List (List C)) (k q:Nat),(∀cs,k<=q->bs[q - k]?=some cs->ax (JA k bs) q=.box (cs.map .c))/\((q < k\/k+bs.length<=q)->ax (JA k bs) q=.dead)
 |[],k,q=>⟨fun cs _ h=>by simp at h,fun _=>rfl⟩
 |b::bs,k,q=>by
  obtain ⟨h1,h2⟩:=HV bs (k+1) q;refine ⟨fun cs hk h=>?_,fun h=>?_⟩
  ·simp only [JA,ax];by_cases he:k=q
   ·subst he;simp at h;subst h;simp
   ·rw [E0 he];refine h1 cs (by omega) ?_
    rw [show q - k=(q - (k+1))+1 by omega,Bm] at h
    exact h
  ·simp only [JA,ax];simp only [C5] at h;rw [E0 (by omega)]
   exact h2 (by omega)
theorem agU {h:Heap} {d:D} {c:C} {us:List (Nat×Obj)} (hf:nP h d=some (c,us)) {id:Nat} {ds:List D} (hb:ax h id=.box ds):ax (ay h us) id=.box ds:=by
 cases d with
 |arr i off len=>
  simp only [nP] at hf;cases ho:ax h i with
  |arr cs aj fz ety=>
   rw [ho] at hf;simp only at hf;split at hf
   ·simp only [A0,A3] at hf;obtain ⟨_,rfl⟩:=hf;split
    ·exact hb
    ·have:i≠id:=fun e=>by subst e;rw [ho] at hb;cases hb
     simp [ay,ax,this,hb]
   ·cases hf
  |dead=>rw [ho] at hf;cases hf
  |box _=>rw [ho] at hf;cases hf
  |map _=>rw [ho] at hf;cases hf
 |c x=>simp only [nP,A0,A3] at hf;obtain ⟨_,rfl⟩:=hf;exact hb
 |full xs n=>simp only [nP,A0,A3] at hf;obtain ⟨_,rfl⟩:=hf;exact hb
 |rq=>simp [nP] at hf
 |loc _ _=>simp [nP] at hf
 |fq _ _=>simp [nP] at hf
 |mp id=>simp [nP] at hf
 |ptr _=>simp [nP] at hf
 |agg _=>simp [nP] at hf
 |jG _=>simp [nP] at hf
theorem U2:∀{ds:List D} {h:Heap} {cs:List C} {us:List (Nat×Obj)},jZ h ds=some (cs,us)->∀{id:Nat} {es:List D},ax h id=.box es->ax (ay h us) id=.box es
 |[],h,cs,us,hf,id,es,hb=>by simp only [jZ,A0,A3] at hf;obtain ⟨_,rfl⟩:=hf;exact hb
 |d::ds,h,cs,us,hf,id,es,hb=>by simp only [jZ,A2,A1,C1,A0,A3] at hf;obtain ⟨c,u,h1,r,us',h2,_,rfl⟩:=hf;rw [eD];exact U2 h2 (agU h1 hb)
theorem Ou:∀{k q:Nat} {m:M},fu B S m->∀{bs:List (List C)} {us:List (Nat×Obj)},xW m.h q k=some (bs,us)->
  fu B S (m.heap (ay m.h us))/\aB B S m (m.heap (ay m.h us))/\bs.length=k/\(∀id es,ax m.h id=.box es->ax (ay m.h us) id=.box es)/\
  ∀i cs,bs[i]?=some cs->(∃es,ax m.h (q+i)=.box es)/\B<=m.β (q+i)/\∃(vs:List Value) (e:TypeId),m.w.heap[m.β (q+i)]?=some (.cells vs.toArray e (0,0))/\av (bJ m.w (Safe B S (m.heap (ay m.h us)))) cs vs
 |0,q,m,hk,bs,us,hb=>by simp only [xW,A0,A3] at hb;obtain ⟨rfl,rfl⟩:=hb;exact ⟨hk,aB.refl m,rfl,fun _ _ h=>h,fun i cs h=>by simp at h⟩
 |k+1,q,m,hk,bs,us,hb=>by
  simp only [xW] at hb;split at hb
  ·rename_i ds ho;simp only [A2,A1,C1,A0,A3] at hb;obtain ⟨cs,u1,h1,r,u2,h2,rfl,rfl⟩:=hb;obtain ⟨hB,vs,e,hw,hall⟩:=hk.box ho;obtain ⟨k1,k2,k3⟩:=Hr hk hall h1;obtain ⟨k4,k5,k6,k7,k8⟩:=Ou (m:=m.heap (ay m.h u1)) k1 h2;rw [eD];refine ⟨k4,k2.trans k5,by simp [k6],fun id es h=>k7 id es (U2 h1 h),fun i cs' hi=>?_⟩
   cases i with
   |zero=>
    simp only [C0,A0] at hi;subst hi;exact ⟨⟨ds,ho⟩,hB,vs,e,hw,k3.mono fun x v h=>bJ.mono k5.cell x v h⟩
   |succ i=>
    simp only [Bm] at hi;obtain ⟨⟨es,j0⟩,j1,j2⟩:=k8 i cs' hi;rw [show q+(i+1)=q+1+i by omega]
    refine ⟨?_,j1,j2⟩;obtain ⟨c0,hc0⟩:∃o,ax m.h (q+1+i)=o:=⟨_,rfl⟩;cases c0 with
    |box es'=>exact ⟨es',hc0⟩
    |map es'=>
     exfalso;have key:∀{ds:List D} {h:Heap} {cs:List C} {us:List (Nat×Obj)},jZ h ds=some (cs,us)->∀p∈us,∃x y z t,p.2=Obj.arr x y z t:=by
      intro ds;induction ds with
      |nil=>intro h cs us hf p hp;simp only [jZ,A0,A3] at hf;obtain ⟨_,rfl⟩:=hf;cases hp
      |cons d ds ih=>
       intro h cs us hf p hp;simp only [jZ,A2,A1,C1,A0,A3] at hf;obtain ⟨c,u,g1,r,us',g2,_,rfl⟩:=hf;rcases B0.1 hp with hp|hp
       ·cases d<;>simp only [nP] at g1
        case arr i2 off len=>
         split at g1
         ·split at g1
          ·simp only [A0,A3] at g1;obtain ⟨_,rfl⟩:=g1;split at hp
           ·cases hp
           ·simp only [B8] at hp;subst hp;exact ⟨_,_,_,_,rfl⟩
          ·cases g1
         ·cases g1
        all_goals (first|(cases g1;done)|(simp only [A0,A3] at g1;obtain ⟨_,rfl⟩:=g1;cases hp))
       ·exact ih g2 p hp
     have upd:∀(us:List (Nat×Obj)) (h:Heap) (id:Nat),(∀p∈us,∃x y z t,p.2=Obj.arr x y z t)->(∃es,ax h id=.map es)\/(∃x y z t,ax h id=.arr x y z t)->(∃es,ax (ay h us) id=.map es)\/∃x y z t,ax (ay h us) id=.arr x y z t:=by
      intro us;induction us with
      |nil=>intro h id _ ha;exact ha
      |cons p us ih=>
       intro h id hp ha;refine ih _ _ (fun q hq=>hp q (by simp [hq])) ?_
       by_cases he:p.1=id
       ·obtain ⟨x,y,z,t,e⟩:=hp p (by simp)
        exact .inr ⟨x,y,z,t,by obtain ⟨p1,p2⟩:=p;simp only at he e;subst he e;simp [ax]⟩
       ·rcases ha with ⟨es,ha⟩|⟨x,y,z,t,ha⟩
        ·exact .inl ⟨es,by obtain ⟨p1,p2⟩:=p;simp only at he;simp [ax,he,ha]⟩
        ·exact .inr ⟨x,y,z,t,by obtain ⟨p1,p2⟩:=p;simp only at he;simp [ax,he,ha]⟩
     have j0':ax (ay m.h u1) (q+1+i)=.box es:=j0;rcases upd u1 m.h (q+1+i) (key h1) (.inl ⟨es',hc0⟩) with ⟨es2,e⟩|⟨x,y,z,t,e⟩<;>rw [e] at j0'<;>cases j0'
    |dead=>
     by_cases hu:m.U (q+1+i)
     ·have:=k2.dead _ hu hc0
      exact absurd (this.symm.trans j0) (by simp)
     ·have:=k1.dom _ hu
      exact absurd (this.symm.trans j0) (by simp)
    |arr c1 c2 c3 c4=>
     exfalso;have key:∀{ds:List D} {h:Heap} {cs:List C} {us:List (Nat×Obj)},jZ h ds=some (cs,us)->∀p∈us,∃x y z t,p.2=Obj.arr x y z t:=by
      intro ds;induction ds with
      |nil=>intro h cs us hf p hp;simp only [jZ,A0,A3] at hf;obtain ⟨_,rfl⟩:=hf;cases hp
      |cons d ds ih=>
       intro h cs us hf p hp;simp only [jZ,A2,A1,C1,A0,A3] at hf;obtain ⟨c,u,g1,r,us',g2,_,rfl⟩:=hf;rcases B0.1 hp with hp|hp
       ·cases d<;>simp only [nP] at g1
        case arr i2 off len=>
         split at g1
         ·split at g1
          ·simp only [A0,A3] at g1;obtain ⟨_,rfl⟩:=g1;split at hp
           ·cases hp
           ·simp only [B8] at hp;subst hp;exact ⟨_,_,_,_,rfl⟩
          ·cases g1
         ·cases g1
        all_goals (first|(cases g1;done)|(simp only [A0,A3] at g1;obtain ⟨_,rfl⟩:=g1;cases hp))
       ·exact ih g2 p hp
     have upd:∀(us:List (Nat×Obj)) (h:Heap) (id:Nat),(∀p∈us,∃x y z t,p.2=Obj.arr x y z t)->(∃x y z t,ax h id=.arr x y z t)->∃x y z t,ax (ay h us) id=.arr x y z t:=by
      intro us;induction us with
      |nil=>intro h id _ hh;exact hh
      |cons p us ih=>
       intro h id hp hh;refine ih (p::h) id (fun p' hp'=>hp p' (by simp [hp'])) ?_
       obtain ⟨i0,o0⟩:=p;obtain ⟨x,y,z,t,hq⟩:=hp (i0,o0) (by simp)
       simp only at hq;simp only [ax];split
       ·exact ⟨x,y,z,t,hq⟩
       ·exact hh
     obtain ⟨x,y,z,t,hq⟩:=upd u1 m.h (q+1+i) (key h1) ⟨_,_,_,_,hc0⟩;have j0':ax (ay m.h u1) (q+1+i)=.box es:=j0;rw [hq] at j0';cases j0'
  ·cases hb
theorem NP:∀(ids:List Nat) (bs:List (List C)) (h:Heap) (id:Nat),ids.Nodup->bs.length=ids.length->
  (id ∉ ids->ax (ay h ((ids.zip bs).map fun p=>(p.1,Obj.box (p.2.map .c)))) id=ax h id)/\
  (∀q:Nat,ids[q]?=some id->∃cs:List C,(bs[q]?:Option (List C))=some cs/\ax (ay h ((ids.zip bs).map fun p=>(p.1,Obj.box (p.2.map .c)))) id=.box (cs.map .c))
 |[],bs,h,id,_,hl=>⟨fun _=>by simp [ay],fun q hq=>by simp at hq⟩
 |i::ids,[],h,id,_,hl=>by simp at hl
 |i::ids,b::bs,h,id,hn,hl=>by
  rw [Kp] at hn;obtain ⟨h1,h2⟩:=NP ids bs ((i,.box (b.map .c))::h) id hn.2 (by simpa using hl)
  simp only [List.zip_cons_cons,D4,ay];refine ⟨fun hni=>?_,fun q hq=>?_⟩
  ·simp only [D2,not_or] at hni;rw [h1 hni.2];simp [ax,Ne.symm hni.1]
  ·cases q with
   |zero=>
    simp only [C0,A0] at hq;subst hq;refine ⟨b,rfl,?_⟩;rw [h1 hn.1];simp [ax]
   |succ q=>
    simp only [Bm] at hq;obtain ⟨cs,h3,h4⟩:=h2 q hq;exact ⟨cs,h3,h4⟩
theorem acu:∀rs:List V,Dc (rs.map V.mY)=RH rs
 |[]=>rfl
 |[_]=>rfl
 |_::_::_=>rfl
theorem aa3 {B:Nat} {S:Nat->Nat->Prop} {m:M} {rs:List D} {v:Value} (h:dZ B S m (Dc rs) v) (hn:∀d,d∈rs->∀q,d≠.jG q):
  ∃us:List Value,av (ni B S m) rs us/\∀(S2:Nat->Nat->Prop) (m':M) (rs':List D),rs'.length=rs.length->av (ni B S2 m') rs' us->dZ B S2 m' (Dc rs') v:=by
 match rs,h,hn with
 |[],h,_=>
  obtain ⟨us,rfl,h2⟩:=h;refine ⟨us,h2,fun S2 m' rs' hl h3=>?_⟩
  match rs',hl with
  |[],_=>exact ⟨us,rfl,h3⟩
 |[d],h,hn=>
  have hA:ni B S m d v:=by
   cases d with
   |jG q=>exact absurd rfl (hn (.jG q) (by simp) q)
   |_=>exact h
  refine ⟨[v],⟨hA,trivial⟩,fun S2 m' rs' hl h3=>?_⟩
  match rs',hl with
  |[d'],_=>exact h3.1.mY
 |d::d'::ds,h,_=>
  obtain ⟨us,rfl,h2⟩:=h;refine ⟨us,h2,fun S2 m' rs' hl h3=>?_⟩
  match rs',hl with
  |_::_::_,_=>exact ⟨us,rfl,h3⟩
theorem agC {m:M} {o:Oper} {a:Act} {slot:Nat} (hk:fu B S m) (hinv:lV.Inv B m.w) {f:Nat} {args:Array Operand} {ts:Array TypeId} (hop:o.op=.call { callee:=.value (.func f),args,argTypes:=ts}) {ds:List D} (hd:av (dZ B S m) ds (args.map a.eval).toList)
  {aK:Bw} (hl:∀f aJ bs rs bs',aK f aJ bs=some (rs,bs')->EL P f aJ bs rs bs') {d:D} {us:List (Nat×Obj)} (hf:CY aK m.h f ds=some (d,us)) {K:Act->World->Prop} {Q:Exit->Act->World->Prop}
  (hK:∀v w',Post B S m slot us d v w'->K (a.put o.dst v) w'):o.wp P a m.w K Q:=by
 simp only [CY,A2,A1,C1] at hf;obtain ⟨aJ,ids,vH,h1,bs,h2,rs,bs',h3,hf⟩:=hf;split at hf
 case isFalse=>cases hf
 rename_i hlen;simp only [A0,A3] at hf;obtain ⟨rfl,rfl⟩:=hf;obtain ⟨k1,k2,_,k4,k5⟩:=EF hk hd J1 h1;obtain ⟨p1,p2⟩:=Em h2;obtain ⟨ds',h',n',Df,Fp,⟨hc,hL⟩,hfr,hbx⟩:=hl _ _ _ _ _ h3
 let S':Nat->Nat->Prop:=fun b o=>S b o/\∀id,id ∉ ids->match ax (ay m.h vH) id with|.dead=>True|.box _=>m.β id≠b|.map _=>m.β id≠b|.arr _ _ fz _=>m.β id=b->o < fz
 let mi:M:=⟨m.w,JA 0 bs,fun q=>m.β (ids.getD q 0),fun i=>i < bs.length⟩
 have Rx:∀q id,ids[q]?=some id->∃(es:List D) (cs:List C),ax (ay m.h vH) id=.box es/\jF es=some cs/\bs[q]?=some cs/\ax mi.h q=.box (cs.map .c)/\mi.β q=m.β id:=fun q id hq=>by
  obtain ⟨es,cs,g1,g2,g3⟩:=p2 q id hq;refine ⟨es,cs,g1,g2,g3,?_,?_⟩
  ·exact (HV bs 0 q).1 cs (Fl _) (by simpa using g3)
  ·show m.β (ids.getD q 0)=_
   rw [List.getD_eq_getElem?_getD,hq];rfl
 have live:∀q,ax mi.h q≠.dead->∃id,ids[q]?=some id:=fun q hq=>by
  by_cases hlt:q < bs.length
  ·exact ⟨ids[q]'(by omega),A6 (by omega)⟩
  ·exact absurd ((HV bs 0 q).2 (.inr (by omega))) hq
 have R9:∀b q,Safe B S (m.heap (ay m.h vH)) b q->Safe B S' mi b q:=fun b q hs=>by
  refine ⟨⟨hs.1,fun id _=>hs.2 id⟩,fun j=>?_⟩
  show match ax mi.h j with|.dead=>True|.box _=>mi.β j≠b|.map _=>mi.β j≠b|.arr _ _ fz _=>mi.β j=b->q < fz
  by_cases hj:ax mi.h j=.dead
  ·rw [hj];trivial
  ·obtain ⟨id,hid⟩:=live j hj;obtain ⟨es,cs,g1,g2,g3,g4,g5⟩:=Rx j id hid;rw [g4,g5];have:=hs.2 id
   rw [show ax (m.heap (ay m.h vH)).h id=.box es from g1] at this
   exact this
 have hkI:fu B S' mi:=by
  refine ⟨fun q=>?_,fun i j hi hj he=>?_,fun q hq=>?_,k1.base,fun b q hb=>⟨k1.fresh b q hb,fun id _=>?_⟩,fun q cs aj fz ety hq=>?_⟩
  ·unfold Kh;by_cases hj:ax mi.h q=.dead
   ·rw [hj];trivial
   ·obtain ⟨id,hid⟩:=live q hj;obtain ⟨es,cs,g1,g2,g3,g4,g5⟩:=Rx q id hid;obtain ⟨hB,vs,e,hw,hall⟩:=k1.box g1;rw [g4,g5];refine ⟨hB,vs,e,hw,av.mE ?_⟩;exact (XH k1 hall g2).mono fun x v hx=>bJ.mono (fun b q u c1 c2=>⟨c1,R9 b q c2⟩) x v hx
  ·obtain ⟨i1,hi1⟩:=live i hi;obtain ⟨j1,hj1⟩:=live j hj;obtain ⟨es,_,g1,_,_,_,g5⟩:=Rx i i1 hi1;obtain ⟨es',_,g1',_,_,_,g5'⟩:=Rx j j1 hj1;rw [g5,g5'] at he;have:i1=j1:=k1.inj i1 j1 (by show ax (ay m.h vH) i1≠_;rw [g1];simp) (by show ax (ay m.h vH) j1≠_;rw [g1'];simp) he
   subst this;have hi2:=(As.1 hi1);have hj2:=(As.1 hj1);obtain ⟨a1,a2⟩:=hi2;obtain ⟨b1,b2⟩:=hj2;exact (List.getElem_inj k4).1 (a2.trans b2.symm)
  ·exact (HV bs 0 q).2 (.inr (by have:¬q < bs.length:=hq;omega))
  ·cases ho:ax (ay m.h vH) id with
   |dead=>trivial
   |box es=>
    have h9:m.β id < m.w.heap.size:=k1.lt (id:=id) (by show ax (ay m.h vH) id≠_;rw [ho];simp)
    have h10:m.w.heap.size<=b:=hb;show m.β id≠b
    omega
   |map es=>
    have h9:m.β id < m.w.heap.size:=k1.lt (id:=id) (by show ax (ay m.h vH) id≠_;rw [ho];simp)
    have h10:m.w.heap.size<=b:=hb;show m.β id≠b
    omega
   |arr c1 c2 c3 c4=>
    have h9:m.β id < m.w.heap.size:=k1.lt (id:=id) (by show ax (ay m.h vH) id≠_;rw [ho];simp)
    have h10:m.w.heap.size<=b:=hb;show m.β id=b->q < c3
    omega
  ·have hj:ax mi.h q≠.dead:=by rw [hq];simp
   obtain ⟨id,hid⟩:=live q hj;obtain ⟨_,_,_,_,_,g4,_⟩:=Rx q id hid;rw [g4] at hq;cases hq
 have hargs:av (dZ B S' mi) (aJ.map LV.mY) (args.map a.eval).toList:=by
  refine av.mE (k5.mono fun x v hx=>?_)
  cases x with
  |v x=>
   have h9:fP m.w (Safe B S (m.heap (ay m.h vH))) x v:=hx;exact (fP.mY (m:=mi) (fP.mono (fun b q u c1 c2=>⟨c1,R9 b q c2⟩) h9)).mY
  |ref b=>
   obtain ⟨id,g1,g2,rfl⟩:=hx;obtain ⟨_,_,_,_,g3,_,g5⟩:=Rx b id g1;refine ⟨(As.1 g3).1,?_⟩;rw [g5];rfl
 unfold Oper.wp;rw [IA hc hop];show Calls P f (args.map a.eval) m.w _
 have he:(args.map a.eval).toList.toArray=args.map a.eval:=Array.toArray_toList;have hcall:=hL B S' mi (args.map a.eval).toList rfl (fun _ hx=>hx) hkI hinv hargs
 rw [he] at hcall;refine hcall.mono fun e w' ⟨v,m',q0,q1,q2,q3,q4,q5,q6,q7,q8⟩=>?_
 subst q0 q1;refine hK v m'.w ?_;obtain ⟨vs,t1,t2⟩:=aa3 q6 q8;rw [<-q2] at hfr hbx;obtain ⟨r1,r2,r3⟩:=M5 q4 t1 hfr;obtain ⟨x1,x2,x3,x4,x5⟩:=Ou (m:=m'.heap (ay m'.h Df)) r1 hbx;have hev:=(q5.trans r2).trans x2
 let m2:M:=(m'.heap (ay m'.h Df)).heap (ay (ay m'.h Df) Fp)
 let mo:M:=⟨m'.w,ay m.h (vH++(ids.zip bs').map fun p=>(p.1,.box (p.2.map .c))),m.β,fun i=>m.U i\/i=slot⟩
 have hH:mo.h=ay (ay m.h vH) ((ids.zip bs').map fun p=>(p.1,.box (p.2.map .c))):=eD _ _ _
 have hout:∀id,id ∉ ids->ax mo.h id=ax (ay m.h vH) id:=fun id hni=>by rw [hH];exact (NP ids bs' _ id k4 hlen).1 hni
 have hin:∀q id,ids[q]?=some id->∃cs:List C,bs'[q]?=some cs/\ax mo.h id=.box (cs.map .c):=fun q id hq=>by rw [hH];exact (NP ids bs' _ id k4 hlen).2 q hq
 have idx:∀id,id∈ids->∃q,ids[q]?=some id:=fun id hi=>List.getElem?_of_mem hi
 have atq:∀q id,ids[q]?=some id->m'.β q=m.β id:=fun q id hq=>by obtain ⟨_,_,_,_,g3,_,g5⟩:=Rx q id hq;rw [<-g5];exact q5.at_ q (As.1 g3).1
 have UO:∀b q,Safe B S' m2 b q->Safe B S mo b q:=fun b q hs=>by
  refine ⟨hs.1.1,fun id=>?_⟩
  show match ax mo.h id with|.dead=>True|.box _=>m.β id≠b|.map _=>m.β id≠b|.arr _ _ fz _=>m.β id=b->q < fz
  by_cases hi:id∈ids
  ·obtain ⟨j,hj⟩:=idx id hi;obtain ⟨cs,g1,g2⟩:=hin j id hj;rw [g2];obtain ⟨⟨es,g3⟩,_⟩:=x5 j cs g1;rw [E4] at g3;have:=hs.2 j
   rw [show ax m2.h j=.box es from x4 j es g3] at this
   rw [<-atq j id hj];exact this
  ·rw [hout id hi];exact hs.1.2 id hi
 have QD:∀id,id∈ids->∃es,ax (ay m.h vH) id=.box es:=fun id hi=>by obtain ⟨j,hj⟩:=idx id hi;obtain ⟨es,_,g1,_⟩:=Rx j id hj;exact ⟨es,g1⟩
 have hrest:∀b,B<=b->b < m.w.heap.size->(∀q id,ids[q]?=some id->m.β id≠b)->m'.w.heap[b]?=m.w.heap[b]?:=fun b hB hb hn=>by
  refine (q5.rest b hB hb fun q hq=>?_).1
  obtain ⟨id,hid⟩:=live q hq;obtain ⟨_,_,_,_,_,_,g5⟩:=Rx q id hid;rw [g5];exact hn q id hid
 have aek:∀id,ax mo.h id≠.dead->ax (ay m.h vH) id≠.dead:=fun id hid=>by
  by_cases hi:id∈ids
  ·obtain ⟨es,g1⟩:=QD id hi;rw [g1];simp
  ·rw [<-hout id hi];exact hid
 have other:∀id,id ∉ ids->ax (ay m.h vH) id≠.dead->m'.w.heap[m.β id]?=m.w.heap[m.β id]?:=fun id hni hd=>by
  refine hrest _ (k1.ge (id:=id) hd) (k1.lt (id:=id) hd) fun q id' hq he=>?_
  obtain ⟨es,g1⟩:=QD id' (C3 hq);have:id'=id:=k1.inj id' id (by show ax (ay m.h vH) id'≠_;rw [g1];simp) hd he
  exact hni (this▸C3 hq)
 have ev1:aB B S (m.heap (ay m.h vH)) mo:=by
  refine ⟨fun b q u c1 c2=>?_,fun id hu=> .inl hu,fun id hu hd=>?_,fun id _=>rfl,fun id cs' ja nG jY hu hg=>?_,fun b hB hb hn=>?_⟩
  ·obtain ⟨c3,_⟩:=hev.cell b q u c1 (R9 b q c2);refine ⟨c3,c2.1,fun id=>?_⟩
   show match ax mo.h id with|.dead=>True|.box _=>m.β id≠b|.map _=>m.β id≠b|.arr _ _ fz _=>m.β id=b->q < fz
   by_cases hi:id∈ids
   ·obtain ⟨j,hj⟩:=idx id hi;obtain ⟨cs,_,g2⟩:=hin j id hj;rw [g2];obtain ⟨es,g1⟩:=QD id hi;have:=c2.2 id
    rw [show ax (m.heap (ay m.h vH)).h id=.box es from g1] at this
    exact this
   ·rw [hout id hi];exact c2.2 id
  ·by_cases hi:id∈ids
   ·obtain ⟨es,g1⟩:=QD id hi;have hd':ax (ay m.h vH) id=.dead:=hd;rw [g1] at hd';cases hd'
   ·rw [hout id hi];exact hd
  ·by_cases hi:id∈ids
   ·obtain ⟨j,hj⟩:=idx id hi;obtain ⟨cs,_,g2⟩:=hin j id hj;rw [g2] at hg;cases hg
   ·rw [hout id hi] at hg;refine ⟨cs',nG,hg,?_⟩;have:=other id hi (by rw [hg];simp)
    show m'.w.shape? (m.β id)=m.w.shape? (m.β id)
    simp only [World.shape?,this]
  ·refine ⟨hrest b hB hb fun q id hq=>?_,fun id hd=>hn id (aek id hd)⟩
   obtain ⟨es,g1⟩:=QD id (C3 hq);exact hn id (by show ax (ay m.h vH) id≠_;rw [g1];simp)
 have hko:fu B S mo:=by
  refine ⟨fun id=>?_,fun i j hi hj he=>k1.inj i j (aek i hi) (aek j hj) he,fun id hu=>?_,q4.base,fun b q hb=>(q4.fresh b q hb).1,fun id cs aj fz ety hg q=>?_⟩
  ·unfold Kh;by_cases hi:id∈ids
   ·obtain ⟨j,hj⟩:=idx id hi;obtain ⟨cs,g1,g2⟩:=hin j id hj;rw [g2];obtain ⟨_,g4,vs',e',g5,g6⟩:=x5 j cs g1;rw [E4] at g4 g5;have hβ:(m'.heap (ay m'.h Df)).β j=m.β id:=atq j id hj;rw [hβ] at g4 g5;refine ⟨g4,vs',e',g5,av.mE ?_⟩;exact g6.mono fun x u hx=>bJ.mono (fun b q u c1 c2=>⟨c1,UO b q c2⟩) x u hx
   ·rw [hout id hi];by_cases hd:ax (ay m.h vH) id=.dead
    ·rw [hd];trivial
    ·exact ev1.KT (other id hi hd) (k1.obj id)
  ·have hu':¬m.U id:=fun h=>hu (.inl h)
   by_cases hi:id∈ids
   ·obtain ⟨es,g1⟩:=QD id hi;have:=k1.dom id hu'
    rw [show ax (m.heap (ay m.h vH)).h id=.box es from g1] at this
    cases this
   ·rw [hout id hi];exact k1.dom id hu'
  ·by_cases hi:id∈ids
   ·obtain ⟨j,hj⟩:=idx id hi;obtain ⟨cs',_,g2⟩:=hin j id hj;rw [g2] at hg;cases hg
   ·rw [hout id hi] at hg;exact k1.Pb id cs aj fz ety hg q
 refine ⟨m.β,hko,k2.trans ev1,?_,q7⟩;have r4:av (ni B S mo) (rs.map V.mY) vs:=by
  refine av.mE (r3.mono fun x u hx=>?_)
  have h9:fP m'.w (Safe B S' m2) x u:=fP.mono x2.cell hx;exact fP.mY (m:=mo) (fP.mono (fun b q u c1 c2=>⟨c1,UO b q c2⟩) h9)
 have r5:dZ B S mo (Dc (rs.map V.mY)) v:=t2 S mo _ (by rw [Lw,r3.len,<-t1.len]) r4
 rw [acu] at r5;exact r5
theorem af3 {wz:Nat->Nat} {nt:Nat} {w0:World} {e:Env} {m:M} {o:Oper} {a:Act} {slot:Nat} {d:D} {us:List (Nat×Obj)} {ops:Array Oper} {i:gD} (h:zx P wz nt ops o=some i) (hns:∀f ow xs,i.ins≠.gU f ow xs) (DN:∀x xs,i.ins≠.jv x xs) (hr:Rel B S w0 nt m e a) (hs:¬m.U slot) {call:Callee} (hcall:∀f vs rs,call f vs=some rs->nY P f vs rs)
  {aK:Bw} (hl:∀f aJ bs rs bs',aK f aJ bs=some (rs,bs')->EL P f aJ bs rs bs')
  (hst:j3 call aK (yh e) m.h slot i.ins=some (d,us)) {K:Act->World->Prop} {Q:Exit->Act->World->Prop}
  (hK:∀(a':Act) (m':M),m'.h=ay m.h us->m'.U=(fun i=>m.U i\/i=slot)->aB B S m m'->Rel B S w0 nt m' (j5 e i.dst d) a'->K a' m'.w):o.wp P a m.w K Q:=by
 have other:(∀f xs,i.ins≠.lH f xs)->og call (yh e) m.h slot i.ins=some (d,us):=fun hne=>by
  rw [<-hst];cases hins:i.ins with
  |lH f xs=>exact absurd hins (hne f xs)
  |_=>rfl
 by_cases hne:∃f xs,i.ins=.lH f xs
 ·obtain ⟨f,xs,hins⟩:=hne;obtain ⟨h1,h2,h3,_⟩:=iD h;rw [hins] at hst h1;simp only [j3] at hst;obtain ⟨args,ts,hop,h7⟩:=Rq (BJ h1 rfl);have hall:=tO hr h7;refine agC (slot:=slot) hr.hok hr.inv hop (by simpa using hall) hl hst ?_
  rintro v w' ⟨β',p1,p2,p3,p4⟩;have:=(hr.AY p2 p1 p4).put h3 p3
  rw [h2] at hK;exact hK _ _ rfl rfl p2 this
 ·have h4:=other fun f xs e=>hne ⟨f,xs,e⟩
  unfold og at h4;split at h4
  ·rename_i hm;obtain ⟨p1,p2,p3,_⟩:=iD h;have hcm:Fh P o.op=some i.ins:=by
    rcases Bh p1 with ⟨_,h3⟩|⟨h3,_⟩
    ·exact h3
    ·rw [hm] at h3;cases h3
   obtain ⟨n,v,w',h5,h6,h7⟩:=WW hcm hr.hok hr.opd (slot:=slot) hs h4;have fin:∀v w',Post B S m slot us d v w'->K (a.put o.dst v) w':=by
    rintro v w' ⟨β',q1,q2,q3,q4⟩;have:=(hr.AY q2 q1 q4).put p3 q3
    rw [p2] at hK;exact hK _ _ rfl rfl q2 this
   unfold Oper.wp;rw [h5];rcases h6 with rfl|⟨rfl,rfl⟩
   ·exact fin v w' h7
   ·exact fin undef w' h7
  ·exact Z9 h hns DN hr hs hcall h4 hK
end
end Go.Ey
