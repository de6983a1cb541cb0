/- A part of the proof. -/
import Derived.Test.YtpginbppmgdndaaGreatDoorY12
import Derived.MapKept
import Derived.Carry
set_option linter.all false
namespace Go.Ey
open Go.RowKit
section
variable {B:Nat} {S:Nat→Nat→Prop} {P:Program} {o:Oper} {a:Act} {m:M} {slot:Nat} {ρ:X→D} {d:D} {us:List (Nat×Obj)} {shF:Nat→Nat}
theorem compXs_one {args:Array Operand} {x:X} (h:compXs args.toList=some [x]):∃p,args=#[p]∧compX p=some x:=by
 obtain ⟨l⟩:=args
 simp only at h
 cases l with
 |nil=>simp [compXs] at h
 |cons p l=>
  simp only [compXs,Option.bind_eq_bind,Option.bind_eq_some_iff,Option.some.injEq,List.cons.injEq] at h
  obtain ⟨y,h1,ys,h2,rfl,rfl⟩:=h
  cases l with
  |nil=>exact ⟨p,rfl,h1⟩
  |cons q l=>
   simp only [compXs,Option.bind_eq_bind,Option.bind_eq_some_iff,Option.some.injEq] at h2
   obtain ⟨_,_,_,_,h⟩:=h2
   cases h
theorem compXs_two {args:Array Operand} {x y:X} (h:compXs args.toList=some [x,y]):∃p q,args=#[p,q]∧compX p=some x∧compX q=some y:=by
 obtain ⟨l⟩:=args
 simp only at h
 cases l with
 |nil=>simp [compXs] at h
 |cons p l=>
  simp only [compXs,Option.bind_eq_bind,Option.bind_eq_some_iff,Option.some.injEq,List.cons.injEq] at h
  obtain ⟨z,h1,ys,h2,rfl,rfl⟩:=h
  obtain ⟨q,h3,h4⟩:=compXs_one (args:=l.toArray) (by simpa using h2)
  have:l=[q]:=by simpa using congrArg Array.toList h3
  subst this
  exact ⟨p,q,rfl,h1,h4⟩
theorem list_one {α:Type} {l:Array α} {x:α} (h:l.toList=[x]):l=#[x]:=by
 obtain ⟨l⟩:=l;simp at h;subst h;rfl
theorem list_two {α:Type} {l:Array α} {x y:α} (h:l.toList=[x,y]):l=#[x,y]:=by
 obtain ⟨l⟩:=l;simp at h;subst h;rfl
def isCall:Ins→Bool
 |.call _ _|.callS _ _ _|.callL _ _|.callV _ _=>true
 |_=>false
theorem compMap_isM {op:Op} {ins:Ins} (h:compMap P op=some ins):isMapI ins=true:=by
 unfold compMap at h
 split at h
 ·simp only [Option.some.injEq] at h;subst h;rfl
 ·split at h
  case h_2=>cases h
  simp only [Option.bind_eq_bind,Option.bind_eq_some_iff,Option.some.injEq] at h
  obtain ⟨_,_,_,_,_,_,_,_,_,_,rfl⟩:=h
  rfl
 ·split at h
  case h_2=>cases h
  simp only [Option.bind_eq_bind,Option.bind_eq_some_iff,Option.some.injEq] at h
  obtain ⟨_,_,_,_,_,_,_,_,rfl⟩:=h
  rfl
 ·split at h
  case h_2=>cases h
  simp only [Option.bind_eq_bind,Option.bind_eq_some_iff,Option.some.injEq] at h
  obtain ⟨_,_,_,_,_,_,_,_,rfl⟩:=h
  rfl
 ·cases h
theorem compOpM_parts {op:Op} {ins:Ins} (h:compOpM P shF op=some ins):(isMapI ins=true∧compMap P op=some ins)∨(isMapI ins=false∧compOp P shF op=some ins):=by
 unfold compOpM at h
 split at h
 ·rename_i i hi
  simp only [Option.some.injEq] at h
  subst h
  exact .inl ⟨compMap_isM hi,hi⟩
 ·split at h
  ·rename_i i hi
   split at h
   ·cases h
   ·rename_i hm
    simp only [Option.some.injEq] at h
    subst h
    exact .inr ⟨by simpa using hm,hi⟩
  ·cases h
theorem compOp_of {op:Op} {ins:Ins} (h:compOpM P shF op=some ins) (hm:isMapI ins=false):compOp P shF op=some ins:=by
 rcases compOpM_parts h with ⟨h1,_⟩|⟨_,h1⟩
 ·rw [hm] at h1;cases h1
 ·exact h1
theorem step_ok {ins:Ins} (hc:compOp P shF o.op=some ins) (hn:isCall ins=false) (hk:HOK B S m) (ho:Opd B S m ρ a) (hs0:¬m.U slot) (hs:step ρ m.h slot ins=some (d,us)):Does B S P o a m slot d us:=by
 unfold compOp at hc
 split at hc<;>try (cases hc;done)
 all_goals simp only [Option.bind_eq_bind,Option.bind_eq_some_iff,Option.some.injEq] at hc
 case h_1 x hop=>obtain ⟨X',hx,rfl⟩:=hc;exact does_mov hk ho (.inl hop) hx hs
 case h_2 x hop=>obtain ⟨X',hx,rfl⟩:=hc;exact does_mov hk ho (.inr hop) hx hs
 case h_3 c x y hop=>obtain ⟨C',hc',X',hx,Y',hy,rfl⟩:=hc;exact does_pick hk ho hop hc' hx hy hs
 case h_4 t hop=>obtain ⟨z,hz,rfl⟩:=hc;exact does_new hk hs0 hop hz hs
 case h_5 t x hop=>obtain ⟨X',hx,rfl⟩:=hc;exact does_box hk ho hs0 hop hx hs
 case h_6 t parts hop=>
  obtain ⟨fs,h1,z,h2,qs,h3,h4⟩:=hc
  split at h4
  case isFalse=>cases h4
  rename_i hkn
  simp only [Option.some.injEq] at h4
  subst h4
  exact does_build hk ho hop h1 h2 h3 hkn hs
 case h_7 t len parts hop=>
  obtain ⟨e,h1,i,h2,z,h3,qs,h4,h5⟩:=hc
  split at h5
  case isFalse=>cases h5
  rename_i hcc
  simp only [Option.some.injEq] at h5
  subst h5
  exact does_lits hk ho hs0 hop h1 h2 h3 h4 hcc.1 hcc.2 hs
 case h_8 t x hop=>obtain ⟨agg,h1,i,h2,X',hx,rfl⟩:=hc;exact does_load hk ho hop h1 h2 hx hs
 case h_9 t x y hop=>obtain ⟨i,h1,X',hx,Y',hy,rfl⟩:=hc;exact does_store hk ho hop h1 hx hy hs
 case h_10 x hop=>obtain ⟨X',hx,rfl⟩:=hc;exact does_nilck hk ho hop hx hs
 case h_11 op t x y t' hop=>
  obtain ⟨X',hx,Y',hy,h1⟩:=hc
  split at h1
  ·rename_i ht;simp only [Option.some.injEq] at h1;subst h1;exact does_bin hk ho hop (fun _=>ht) hx hy hs
  ·simp only [Option.some.injEq] at h1;subst h1;exact does_bin hk ho hop (fun h=>by cases h) hx hy hs
  ·simp only [Option.some.injEq] at h1;subst h1;exact does_bin hk ho hop (fun h=>by cases h) hx hy hs
  ·rename_i fs ht
   simp only [Option.bind_eq_some_iff] at h1
   obtain ⟨ks,h2,h3⟩:=h1
   split at h3
   case isFalse=>cases h3
   rename_i hcc
   exact does_eqs hk ho hop ht h2 hcc.1 hcc.2 hx hy h3 hs
  ·cases h1
 case h_12 op t x hop=>obtain ⟨X',hx,rfl⟩:=hc;exact does_un hk ho hop hx hs
 case h_13 src dst x hop=>
  obtain ⟨X',hx,h1⟩:=hc
  split at h1
  ·rename_i h2 h3;simp only [Option.some.injEq] at h1;subst h1;exact does_conv hk ho hop h2 h3 hx hs
  ·rename_i e h2 h3
   split at h1
   ·rename_i h4;simp only [Option.some.injEq] at h1;subst h1;exact does_toStr hk ho hop h2 h3 h4 hx hs
   ·cases h1
  ·cases h1
 case h_14 t x y hop=>
  obtain ⟨e,h1,i,h2,z,h3,X',hx,Y',hy,h4⟩:=hc
  split at h4
  case isFalse=>cases h4
  simp only [Option.some.injEq] at h4
  subst h4
  exact does_mk hk ho hs0 hop h1 h2 h3 hx hy hs
 case h_15 t x lo hi hop=>
  obtain ⟨X',hx,Lo,hlo,Hi,hhi,h1⟩:=hc
  split at h1
  ·rename_i h2;simp only [Option.some.injEq] at h1;subst h1;exact does_sls hk ho hop h2 hx hlo hhi hs
  ·rename_i e h2
   simp only [Option.bind_eq_some_iff,Option.some.injEq] at h1
   obtain ⟨i,h3,rfl⟩:=h1
   exact does_slc hk ho hop h2 h3 hx hlo hhi hs
  ·cases h1
 case h_16 t x lo hi mx hop=>
  obtain ⟨X',hx,Lo,hlo,H',hhi,M',hmx,h1⟩:=hc
  split at h1
  ·rename_i e h2
   simp only [Option.bind_eq_some_iff,Option.some.injEq] at h1
   obtain ⟨i,h3,rfl⟩:=h1
   exact does_clip hk ho hop h2 h3 hx hlo hhi hmx hs
  ·cases h1
 case h_17 f first captured hop=>
  obtain ⟨xs,hx,h1⟩:=hc
  split at h1
  case isFalse=>cases h1
  rename_i hz
  simp only [Option.some.injEq] at h1
  subst h1
  exact does_mkf hk ho hop hz hx hs
 case h_18 t x f hop=>
  obtain ⟨fs,h1,fl,h2,i,h3,X',hx,h4⟩:=hc
  split at h4
  case isFalse=>cases h4
  rename_i hp
  simp only [Option.some.injEq] at h4
  subst h4
  exact does_fadr hk ho hop h1 h2 h3 hp hx hs
 case h_19 t x f hop=>obtain ⟨fs,h1,fl,h2,i,h3,agg,h4,X',hx,rfl⟩:=hc;exact does_fld hk ho hop h1 h2 h3 h4 hx hs
 case h_20 t x y hop=>obtain ⟨e,h1,i,h2,X',hx,Y',hy,rfl⟩:=hc;exact does_iadr hk ho hop h1 h2 hx hy hs
 case h_21 t x y hop=>
  obtain ⟨X',hx,Y',hy,h1⟩:=hc
  split at h1
  ·rename_i h2;simp only [Option.some.injEq] at h1;subst h1;exact does_sidx hk ho hop h2 hx hy hs
  ·cases h1
 case h_22 x i hop=>obtain ⟨X',hx,rfl⟩:=hc;exact does_ext hk ho hop hx hs
 case h_23 f args ts hop=>
  obtain ⟨xs,hx,rfl⟩:=hc
  split at hn<;>cases hn
 case h_24 t args ts hop=>
  obtain ⟨xs,hx,rfl⟩:=hc
  cases hn
 case h_25 b args ts hop=>
  obtain ⟨xs,hx,h1⟩:=hc
  split at h1
  ·rename_i x t hxs hts
   obtain ⟨p,rfl,hp⟩:=compXs_one hx
   have ht:=list_one hts
   subst ht
   split at h1
   ·rename_i h2;simp only [Option.some.injEq] at h1;subst h1;exact does_len hk ho hop (isStr:=true) h2 hp hs
   ·rename_i e h2;simp only [Option.some.injEq] at h1;subst h1;exact does_len hk ho hop (isStr:=false) ⟨e,h2⟩ hp hs
   ·cases h1
  ·rename_i x y t t' hxs hts
   obtain ⟨p,q,rfl,hp,hq⟩:=compXs_two hx
   have ht:=list_two hts
   subst ht
   simp only [Option.bind_eq_some_iff] at h1
   obtain ⟨e,h2,i,h3,z,h4,h5⟩:=h1
   split at h5
   ·rename_i e' h6
    split at h5
    case isFalse=>cases h5
    simp only [Option.some.injEq] at h5
    subst h5
    exact does_app hk ho hs0 hop h2 h3 h4 h6 (by simp) hp hq hs
   ·rename_i h6
    split at h5
    case isFalse=>cases h5
    simp only [Option.some.injEq] at h5
    subst h5
    exact does_app hk ho hs0 hop h2 h3 h4 h6 (by simp) hp hq hs
   ·cases h5
  ·rename_i x y t t' hxs hts
   obtain ⟨p,q,rfl,hp,hq⟩:=compXs_two hx
   have ht:=list_two hts
   subst ht
   simp only [Option.bind_eq_some_iff] at h1
   obtain ⟨e,h2,i,h3,h5⟩:=h1
   split at h5
   case isFalse=>cases h5
   simp only [Option.some.injEq] at h5
   subst h5
   exact does_cpy hk ho hop h2 h3 hp hq hs
  ·rename_i x y hxs
   obtain ⟨p,q,rfl,hp,hq⟩:=compXs_two hx
   simp only [Option.some.injEq] at h1
   subst h1
   exact does_mx hk ho hop hp hq hs
  ·rename_i x y hxs
   obtain ⟨p,q,rfl,hp,hq⟩:=compXs_two hx
   simp only [Option.some.injEq] at h1
   subst h1
   exact does_mn hk ho hop hp hq hs
  ·cases h1
end
end Go.Ey

namespace Go.Ey
open Go.RowKit
def RepRet (w:World) (Sf:Nat→Nat→Prop):List V→Value→Prop
 |[r],v=>RepV w Sf r v
 |rs,v=>∃us:List Value,v=.tuple us.toArray∧All2 (RepV w Sf) rs us
def Callable (P:Program) (f:Nat):Prop:=∃fn,P.funcs[f]?=some fn∧fn.body.isNone=false∧(fn.name== "runtime.NumGoroutine")=false
class Keeps where
 Inv:Nat→World→Prop
 keep:∀{B:Nat} {w w':World},Below B w w'→Inv B w→Inv B w'
 mono:∀{B B':Nat} {w:World},B≤B'→Inv B w→Inv B' w
variable [Keeps]
def FnOK (P:Program) (f:Nat) (vs rs:List V):Prop:=
 Callable P f∧∀(S:Nat→Nat→Prop) (w:World) (us:List Value),Keeps.Inv w.heap.size w→All2 (RepV w S) vs us→
  Calls P f us.toArray w fun e w'=>∃v,e=.returned v∧RepRet w' (fun b o=>b < w.heap.size→S b o) rs v∧Below w.heap.size w w'
section
variable {B:Nat} {S:Nat→Nat→Prop} {P:Program} {o:Oper} {a:Act} {m:M} {slot:Nat} {d:D} {us:List (Nat×Obj)} {shF:Nat→Nat} {nt:Nat} {w0:World} {e:Env}
theorem run_call {f:Nat} (hf:Callable P f) {args:Array Operand} {ts:Array TypeId} (hop:o.op=.call { callee:=.value (.func f),args,argTypes:=ts}) (w:World):
  (execOp a.eval o).run P w=.ok (.enter f (args.map a.eval)) w:=by
 obtain ⟨fn,h1,h2,h3⟩:=hf
 have h2':¬fn.body=none:=fun h=>by rw [h] at h2;cases h2
 have h3':¬fn.name= "runtime.NumGoroutine":=by simpa using h3
 simp [execOp,hop,resolve,Act.eval,Deferred.ofValue,invoke,callFunc,h1,h2',h3']
theorem frzVs_ok':∀{ds:List D} {us:List Value} {m:M},HOK B S m→All2 (RepD B S m) ds us→∀{vs:List V} {xs:List (Nat×Obj)},frzVs m.h ds=some (vs,xs)→
  HOK B S (m.heap (updH m.h xs))∧Evolves B S m (m.heap (updH m.h xs))∧All2 (RepV m.w (Safe B S (m.heap (updH m.h xs)))) vs us
 |[],[],m,hk,_,cs,xs,hf=>by
  simp only [frzVs,Option.some.injEq,Prod.mk.injEq] at hf
  obtain ⟨rfl,rfl⟩:=hf
  exact ⟨hk,Evolves.refl m,trivial⟩
 |d::ds,u::us,m,hk,hr,cs,xs,hf=>by
  simp only [frzVs,Option.bind_eq_bind,Option.bind_eq_some_iff,Prod.exists,Option.some.injEq,Prod.mk.injEq] at hf
  obtain ⟨c,x,h1,cs',xs',h2,rfl,rfl⟩:=hf
  have hr1:RepA B S m d u:=by
   cases d with
   |tup ds=>simp [frzV,frz] at h1
   |_=>exact hr.1
  obtain ⟨k1,k2,k3⟩:=frzV_ok hk hr1 h1
  have hr2:All2 (RepD B S (m.heap (updH m.h x))) ds us:=hr.2.mono fun _ _ h=>k2.repD h
  obtain ⟨k4,k5,k6⟩:=frzVs_ok' (m:=m.heap (updH m.h x)) k1 hr2 h2
  rw [updH_append]
  exact ⟨k4,k2.trans k5,RepV.mono k5.cell k3,k6⟩
 |[],_::_,_,_,hr,_,_,_=>hr.elim
 |_::_,[],_,_,hr,_,_,_=>hr.elim
theorem RepV.toD {m:M} {v:V} {u:Value} (h:RepV m.w (Safe B S m) v u):RepA B S m v.toD u:=by
 cases v with
 |one c=>exact h
 |agg cs=>obtain ⟨us,h1,h2⟩:=h;exact ⟨us,h1,All2.map_left h2⟩
theorem RepRet.toD {m:M} {rs:List V} {u:Value} (h:RepRet m.w (Safe B S m) rs u):RepD B S m (retD rs) u:=by
 match rs,h with
 |[r],h=>exact (RepV.toD h).toD
 |[],h=>obtain ⟨us,rfl,h2⟩:=h;exact ⟨us,rfl,All2.map_left (h2.mono fun v u h=>RepV.toD h)⟩
 |r::r'::rs,h=>obtain ⟨us,rfl,h2⟩:=h;exact ⟨us,rfl,All2.map_left (h2.mono fun v u h=>RepV.toD h)⟩
theorem RepV.weaken {w:World} {Sf Sf':Nat→Nat→Prop} (h:∀b o,Sf b o→b < w.heap.size→Sf' b o) {v:V} {u:Value} (hr:RepV w Sf v u):RepV w Sf' v u:=
 RepV.mono (fun b o _ h1 h2=>⟨h1,h b o h2 (cell_lt h1)⟩) hr
theorem RepRet.weaken {w:World} {Sf Sf':Nat→Nat→Prop} (h:∀b o,Sf b o→b < w.heap.size→Sf' b o) {rs:List V} {u:Value} (hr:RepRet w Sf rs u):RepRet w Sf' rs u:=by
 unfold RepRet at hr ⊢
 split at hr
 ·exact RepV.weaken h hr
 ·obtain ⟨us,h1,h2⟩:=hr
  exact ⟨us,h1,h2.mono fun _ _ h3=>RepV.weaken h h3⟩
theorem safe_after {m:M} (hk:HOK B S m) {w':World} {b q:Nat} (h:b < m.w.heap.size→Safe B S m b q):Safe B S (m.world w') b q:=by
 by_cases hb:b < m.w.heap.size
 ·exact h hb
 ·refine ⟨hk.fresh b q (by omega),fun id=>?_⟩
  ·show match getH m.h id with|.dead=>True|.box _=>m.β id≠b|.map _=>m.β id≠b|.arr _ _ fz _=>m.β id=b→q < fz
   cases ho:getH m.h id with
   |dead=>trivial
   |box ds=>have:=hk.lt (id:=id) (by rw [ho];simp);intro e;omega
   |map ds=>have:=hk.lt (id:=id) (by rw [ho];simp);intro e;omega
   |arr cs esz fz ety=>have:=hk.lt (id:=id) (by rw [ho];simp);intro e;omega
theorem call_wp (hk:HOK B S m) (hinv:Keeps.Inv B m.w) {f:Nat} {args:Array Operand} {ts:Array TypeId} (hop:o.op=.call { callee:=.value (.func f),args,argTypes:=ts}) {ds:List D} (hd:All2 (RepD B S m) ds (args.map a.eval).toList) {vs rs:List V}
  (hf:frzVs m.h ds=some (vs,us)) (hfn:FnOK P f vs rs) {K:Act→World→Prop} {Q:Exit→Act→World→Prop} (hK:∀v w',Post B S m slot us (retD rs) v w'→K (a.put o.dst v) w'):o.wp P a m.w K Q:=by
 obtain ⟨k1,k2,k3⟩:=frzVs_ok' hk hd hf
 unfold Oper.wp
 rw [run_call hfn.1 hop]
 show Calls P f (args.map a.eval) m.w _
 have hc:=hfn.2 _ m.w _ (Keeps.mono hk.base hinv) k3
 have he:(args.map a.eval).toList.toArray=args.map a.eval:=Array.toArray_toList
 rw [he] at hc
 refine hc.mono fun e w' ⟨v,hv,h1,h2⟩=>?_
 subst hv
 refine hK v w' ⟨m.β,?_⟩
 have hb:∀k,k < m.w.heap.size→w'.heap[k]?=m.w.heap[k]?:=h2.block
 have ev2:=world_evolves k1 (w':=w') hb
 have hk2:=world_hok k1 (w':=w') hb h2.size
 refine ⟨grow_hok hk2 slot,(k2.trans ev2).trans (grow_evolves _ slot),?_,h2.mono hk.base⟩
 refine (grow_evolves ((m.heap (updH m.h us)).world w') slot).repD (RepRet.toD ?_)
 exact RepRet.weaken (fun b q h _=>safe_after k1 h) h1
structure Rel (B:Nat) (S:Nat→Nat→Prop) (w0:World) (nt:Nat) (m:M) (e:Env) (a:Act):Prop where
 defers:a.defers=[]
 size:a.tmps.size=nt
 env:∀t,RepD B S m (getE e t) (a.tmps.getD t undef)
 hok:HOK B S m
 below:Below B w0 m.w
 inv:Keeps.Inv B m.w
theorem Rel.opd (hr:Rel B S w0 nt m e a):Opd B S m (evX e) a:=by
 intro x X' hx
 cases x with
 |tmp t=>simp [compX] at hx;subst hx;exact hr.env t
 |const v=>
  simp only [compX] at hx
  split at hx
  ·rename_i hs
   simp only [Option.some.injEq] at hx
   subst hx
   by_cases h:scalar v=true
   ·simp only [evX,h,if_true]
    exact RepD.mkLit h
   ·have h2:isNilS v=true:=by
     rcases Bool.or_eq_true_iff.1 hs with h3|h3
     ·exact absurd h3 h
     ·exact h3
    have:=isNilS_some h2
    subst this
    simp only [evX,scalar,Bool.false_eq_true,if_false]
    exact .inl ⟨rfl,rfl,rfl⟩
  ·cases hx
 |global g=>simp [compX] at hx
 |func f=>
  simp only [compX,Option.some.injEq] at hx
  subst hx
  simp only [evX]
  exact ⟨rfl,by simp⟩
theorem getE_putE (e:Env) (dst:Option Nat) (d:D) (t:Nat):getE (putE e dst d) t=if dst=some t then d else getE e t:=by
 cases dst with
 |none=>simp [putE]
 |some t'=>
  simp only [putE,getE,Option.some.injEq]
theorem Rel.put (hr:Rel B S w0 nt m e a) {dst:Option Nat} (hd:dstOk nt dst=true) {d:D} {v:Value} (h:RepD B S m d v):Rel B S w0 nt m (putE e dst d) (a.put dst v):=by
 cases dst with
 |none=>exact hr
 |some t'=>
  have hlt:t' < nt:=by simpa [dstOk] using hd
  refine ⟨hr.defers,by simpa [Act.put] using hr.size,fun t=>?_,hr.hok,hr.below,hr.inv⟩
  rw [getE_putE]
  by_cases ht:t'=t
  ·subst ht
   have:(a.put (some t') v).tmps.getD t' undef=v:=by simp [Act.put,hr.size,hlt]
   simp only [if_true,this]
   exact h
  ·have:(a.put (some t') v).tmps.getD t undef=a.tmps.getD t undef:=by simp [Act.put,Array.getElem?_setIfInBounds_ne ht]
   rw [this,if_neg (by simpa using ht)]
   exact hr.env t
theorem Rel.evolve (hr:Rel B S w0 nt m e a) {m':M} (hev:Evolves B S m m') (hk:HOK B S m') (hb:Below B m.w m'.w):Rel B S w0 nt m' e a:=
 ⟨hr.defers,hr.size,fun t=>hev.repD (hr.env t),hk,hr.below.trans hb,Keeps.keep hb hr.inv⟩
theorem compInst_parts {ops:Array Oper} {i:Inst} (h:compInst P shF nt ops o=some i):
  compOpM P shF o.op=some i.ins∧i.dst=o.dst∧dstOk nt o.dst=true∧
  (o.guard=none∧i.guard=none∨∃j want g t,o.guard=some (j,want)∧ops[j]?=some g∧g.dst=some t∧i.guard=some (t,want)):=by
 unfold compInst at h
 simp only [Option.bind_eq_bind,Option.bind_eq_some_iff] at h
 obtain ⟨ins,h1,h2⟩:=h
 split at h2
 ·cases h2
 ·rename_i hd
  have hd':dstOk nt o.dst=true:=by simpa using hd
  split at h2
  ·rename_i hg
   simp only [Option.some.injEq] at h2
   subst h2
   exact ⟨h1,rfl,hd',.inl ⟨hg,rfl⟩⟩
  ·rename_i j want hg
   simp only [Option.bind_eq_some_iff,Option.some.injEq] at h2
   obtain ⟨g,h3,t,h4,rfl⟩:=h2
   exact ⟨h1,rfl,hd',.inr ⟨j,want,g,t,hg,h3,h4,rfl⟩⟩
theorem wanted_ok (hr:Rel B S w0 nt m e a) {ops:Array Oper} {i:Inst} (h:compInst P shF nt ops o=some i) {b:Bool} (hw:wanted e i.guard=some b):Region.wanted o (yielded ops a.tmps)=b:=by
 obtain ⟨_,_,_,h4⟩:=compInst_parts h
 rcases h4 with ⟨h5,h6⟩|⟨j,want,g,t,h5,h6,h7,h8⟩
 ·rw [h6] at hw
  simp only [wanted,Option.some.injEq] at hw
  subst hw
  simp [Region.wanted,h5]
 ·rw [h8] at hw
  simp only [wanted] at hw
  have henv:=hr.env t
  split at hw
  ·rename_i q hq
   simp only [Option.some.injEq] at hw
   rw [hq] at henv
   have hv:=henv.lit
   have ht:a.tmps[t]?=some (.bool q):=by
    cases ht:a.tmps[t]? with
    |none=>simp [ht,undef] at hv
    |some x=>simp [ht] at hv;rw [hv]
   simp [Region.wanted,h5,yielded,h6,h7,ht]
   rw [←hw]
  ·rename_i hq
   simp only [Option.some.injEq] at hw
   subst hw
   rw [hq] at henv
   obtain ⟨us,hu,h9⟩:=henv
   cases us with
   |cons _ _=>exact h9.elim
   |nil=>
    have:yielded ops a.tmps j=none:=by
     simp only [yielded,h6,h7,Option.bind_some]
     cases ht:a.tmps[t]? with
     |none=>rfl
     |some x=>simp [ht] at hu;subst hu;rfl
    simp [Region.wanted,h5,this]
  ·cases hw
theorem compXs_all (hr:Rel B S w0 nt m e a):∀{os:List Operand} {xs:List X},compXs os=some xs→All2 (RepD B S m) (xs.map (evX e)) (os.map a.eval)
 |[],xs,h=>by simp [compXs] at h;subst h;trivial
 |x::os,xs,h=>by
  simp only [compXs,Option.bind_eq_bind,Option.bind_eq_some_iff,Option.some.injEq] at h
  obtain ⟨y,h1,ys,h2,rfl⟩:=h
  exact ⟨hr.opd x y h1,compXs_all hr h2⟩
theorem compOp_call {f:Nat} {xs:List X} (h:compOp P shF o.op=some (.call f xs)):∃args ts,o.op=.call { callee:=.value (.func f),args,argTypes:=ts}∧compXs args.toList=some xs:=by
 unfold compOp at h
 split at h<;>try (cases h;done)
 all_goals simp only [Option.bind_eq_bind,Option.bind_eq_some_iff,Option.some.injEq] at h
 case h_23 f' args ts hop=>
  obtain ⟨ys,h1,h2⟩:=h
  split at h2
  ·simp only [Ins.call.injEq] at h2
   obtain ⟨rfl,rfl⟩:=h2
   exact ⟨args,ts,hop,h1⟩
  ·cases h2
  ·cases h2
  ·cases h2
 all_goals (exfalso;revert h)
 case h_25 b args ts hop=>
  rintro ⟨ys,h1,h2⟩
  split at h2<;>try (cases h2;done)
  ·split at h2<;>simp at h2
  ·simp only [Option.bind_eq_some_iff] at h2
   obtain ⟨_,_,_,_,_,_,h2⟩:=h2
   split at h2
   ·split at h2<;>simp at h2
   ·split at h2<;>simp at h2
   ·simp at h2
  ·simp only [Option.bind_eq_some_iff] at h2
   obtain ⟨_,_,_,_,h2⟩:=h2
   split at h2<;>simp at h2
 case h_11=>rintro ⟨_,_,_,_,h⟩;split at h<;>first|(simp at h;done)|(simp only [Option.bind_eq_some_iff] at h;obtain ⟨_,_,h⟩:=h;split at h<;>first|(simp only [eqIns] at h;split at h<;>simp at h;done)|(cases h))
 case h_13=>rintro ⟨_,_,h⟩;split at h<;>first|(simp at h;done)|(split at h<;>simp at h)
 case h_15=>rintro ⟨_,_,_,_,_,_,h⟩;split at h<;>first|(simp at h;done)|(simp only [Option.bind_eq_some_iff] at h;obtain ⟨_,_,h⟩:=h;simp at h)
 case h_16=>rintro ⟨_,_,_,_,_,_,_,_,h⟩;split at h<;>first|(simp only [Option.bind_eq_some_iff] at h;obtain ⟨_,_,h⟩:=h;simp at h;done)|(simp at h)
 case h_17=>rintro ⟨_,_,h⟩;split at h<;>simp at h
 case h_21=>rintro ⟨_,_,_,_,h⟩;split at h<;>simp at h
 all_goals (intro h;simp at h)
theorem inst_wp {ops:Array Oper} {i:Inst} (h:compInst P shF nt ops o=some i) (hns:∀f ow xs,i.ins≠.callS f ow xs) (hnv:∀x xs,i.ins≠.callV x xs) (hr:Rel B S w0 nt m e a) (hs:¬m.U slot) {call:Callee} (hcall:∀f vs rs,call f vs=some rs→FnOK P f vs rs)
  (hst:stepC call (evX e) m.h slot i.ins=some (d,us)) {K:Act→World→Prop} {Q:Exit→Act→World→Prop}
  (hK:∀(a':Act) (m':M),m'.h=updH m.h us→m'.U=(fun i=>m.U i∨i=slot)→Evolves B S m m'→Rel B S w0 nt m' (putE e i.dst d) a'→K a' m'.w):o.wp P a m.w K Q:=by
 obtain ⟨h1,h2,h3,_⟩:=compInst_parts h
 have h1:compOp P shF o.op=some i.ins:=by
  refine compOp_of h1 ?_
  cases hins:i.ins<;>first|rfl|(rw [hins] at hst;simp [stepC,step] at hst)
 have fin:∀v w',Post B S m slot us d v w'→K (a.put o.dst v) w':=by
  rintro v w' ⟨β',p1,p2,p3,p4⟩
  have:=(hr.evolve p2 p1 p4).put h3 p3
  rw [h2] at hK
  exact hK _ _ rfl rfl p2 this
 cases hins:i.ins with
 |callS f ow xs=>exact absurd hins (hns f ow xs)
 |callL f xs=>rw [hins] at hst;simp [stepC,step] at hst
 |callV x xs=>exact absurd hins (hnv x xs)
 |call f xs=>
  rw [hins] at hst h1
  simp only [stepC,Option.bind_eq_bind,Option.bind_eq_some_iff,Prod.exists,Option.some.injEq,Prod.mk.injEq] at hst
  obtain ⟨vs,us',h5,rs,h6,rfl,rfl⟩:=hst
  obtain ⟨args,ts,hop,h7⟩:=compOp_call h1
  have hall:=compXs_all hr h7
  exact call_wp hr.hok hr.inv hop (by simpa using hall) h5 (hcall _ _ _ h6) fin
 |_=>
  rw [hins] at hst h1
  obtain ⟨n,v,w',h5,h6,h7⟩:=step_ok h1 rfl hr.hok hr.opd hs hst
  unfold Oper.wp
  rw [h5]
  rcases h6 with rfl|⟨rfl,rfl⟩
  ·exact fin v w' h7
  ·exact fin undef w' h7
end
end Go.Ey

namespace Go.Ey
open Go.RowKit
open Go.MapKept
variable [Keeps]
section
variable {B:Nat} {S:Nat→Nat→Prop} {P:Program} {o:Oper} {a:Act} {m:M} {slot:Nat} {ρ:X→D} {d:D} {us:List (Nat×Obj)}
theorem does_mkm (hk:HOK B S m) (hs:¬m.U slot) {t:TypeId} (hop:o.op=.makeMap t none):Does B S P o a m slot (.mp slot) [(slot,.map [])]:=by
 have hrun:(execOp a.eval o).run P m.w=.ok (.value (.map (some m.w.heap.size))) (m.w.alloc (.map #[] 0)):=by
  simp [execOp,hop,run_makeMap]
 refine ⟨_,_,_,hrun,.inl rfl,?_⟩
 refine post_alloc (us0:=[]) hk hk (Evolves.refl m) hs (.inl rfl) (.map []) (fun ev=>⟨hk.base,#[],0,newest (.inl rfl),trivial⟩) (fun _=>⟨.inr rfl,?_⟩)
 simp [M.put,setβ]
def KindD (k:Nat) (d:TypeDesc):Prop:=(k=0∧∃q,d=.int q)∨(k=1∧d=.string)∨(k=2∧d=.bool)∨(k=9∧∃fs,d=.struct fs)
theorem kindT_desc {t:TypeId} {k:Nat} (h:kindT P t=some k):∃d,P.underlying t=some d∧KindD k d∧k≠9:=by
 unfold kindT at h
 split at h
 ·rename_i q hu;simp only [Option.some.injEq] at h;subst h;exact ⟨_,hu,.inl ⟨rfl,_,rfl⟩,by decide⟩
 ·rename_i hu;simp only [Option.some.injEq] at h;subst h;exact ⟨_,hu,.inr (.inl ⟨rfl,rfl⟩),by decide⟩
 ·rename_i hu;simp only [Option.some.injEq] at h;subst h;exact ⟨_,hu,.inr (.inr (.inl ⟨rfl,rfl⟩)),by decide⟩
 ·cases h
theorem keyKind_desc {t:TypeId} {q:Nat×Nat} (h:keyKind P t=some q):∃d,P.underlying t=some d∧KindD q.1 d∧(q.1=9→∃fs ks,P.underlying t=some (.struct fs)∧fieldKinds P 0 fs.toList=some ks∧ks.length=q.2):=by
 unfold keyKind at h
 split at h
 ·rename_i k hk
  simp only [Option.some.injEq] at h
  subst h
  obtain ⟨d,h1,h2,h3⟩:=kindT_desc hk
  exact ⟨d,h1,h2,fun e=>absurd e h3⟩
 ·split at h
  ·rename_i fs hu
   simp only [Option.map_eq_some_iff] at h
   obtain ⟨ks,h1,rfl⟩:=h
   exact ⟨_,hu,.inr (.inr (.inr ⟨rfl,_,rfl⟩)),fun _=>⟨fs,ks,hu,h1,rfl⟩⟩
  ·cases h
theorem mapKey_now {k:Nat} {d:TypeDesc} (hd:KindD k d) {w:World} {Sf:Nat→Nat→Prop} {x y:V} {ux uy:Value} (hx:RepV w Sf x ux) (hy:RepV w Sf y uy) {r:Bool} (h:mapKey k x y=some r):Instr.sameNow d ux uy=some r:=by
 unfold mapKey at h
 split at h
 ·obtain ⟨rfl,_⟩:=hx
  obtain ⟨rfl,_⟩:=hy
  rcases hd with ⟨_,q,rfl⟩|⟨h1,_⟩|⟨h1,_⟩|⟨h1,_⟩
  ·exact h
  all_goals cases h1
 ·obtain ⟨rfl,_⟩:=hx
  obtain ⟨rfl,_⟩:=hy
  rcases hd with ⟨h1,_⟩|⟨_,rfl⟩|⟨h1,_⟩|⟨h1,_⟩
  ·cases h1
  ·exact h
  all_goals cases h1
 ·obtain ⟨rfl,_⟩:=hx
  obtain ⟨rfl,_⟩:=hy
  rcases hd with ⟨h1,_⟩|⟨h1,_⟩|⟨_,rfl⟩|⟨h1,_⟩
  ·cases h1
  ·cases h1
  ·exact h
  ·cases h1
 ·cases h
theorem mapKey_same {k:Nat} {w:World} {Sf:Nat→Nat→Prop} {x y:V} {ux uy:Value} (hx:RepV w Sf x ux) (hy:RepV w Sf y uy) (h:mapKey k x y=some true):Instr.sameBits 10000 uy ux=true:=by
 unfold mapKey at h
 split at h
 ·obtain ⟨rfl,_⟩:=hx
  obtain ⟨rfl,_⟩:=hy
  split at h
  ·rename_i e;subst e
   simp only [Option.some.injEq,beq_iff_eq] at h
   subst h
   simp [Instr.sameBits]
  ·cases h
 ·obtain ⟨rfl,_⟩:=hx
  obtain ⟨rfl,_⟩:=hy
  simp only [Option.some.injEq,bytes_beq] at h
  simp [Instr.sameBits,bytes_beq,h]
 ·obtain ⟨rfl,_⟩:=hx
  obtain ⟨rfl,_⟩:=hy
  simp only [Option.some.injEq,beq_iff_eq] at h
  subst h
  simp [Instr.sameBits]
 ·cases h
abbrev RepEs (w:World) (Sf:Nat→Nat→Prop) (es:List (V×V)) (l:List MapEntry):Prop:=All2 (fun e x=>RepV w Sf e.1 x.key∧RepV w Sf e.2 x.val) es l
theorem findM_now {k:Nat} {d:TypeDesc} (hd:KindD k d) {w:World} {Sf:Nat→Nat→Prop} {kv:V} {uk:Value} (hx:RepV w Sf kv uk):∀{es:List (V×V)} {l:List MapEntry} {i:Nat} {r:Option V},RepEs w Sf es l→findM k kv es=some r→
  (r=none∧Instr.findNow d uk l i=some none)∨∃v j x,r=some v∧Instr.findNow d uk l i=some (some (j,x))∧RepV w Sf v x
 |[],[],i,r,_,h=>by simp only [findM,Option.some.injEq] at h;exact .inl ⟨h.symm,rfl⟩
 |e::es,x::l,i,r,hr,h=>by
  simp only [findM] at h
  cases hm:mapKey k kv e.1 with
  |none=>rw [hm] at h;cases h
  |some b=>
   rw [hm] at h
   have hs:=mapKey_now hd hx hr.1.1 hm
   cases b with
   |true=>
    simp only [Option.some.injEq] at h
    exact .inr ⟨e.2,i,x.val,h.symm,by simp [Instr.findNow,hs],hr.1.2⟩
   |false=>
    simp only at h
    have:Instr.findNow d uk (x::l) i=Instr.findNow d uk l (i+1):=by simp [Instr.findNow,hs]
    rw [this]
    exact findM_now hd hx hr.2 h
 |[],_::_,_,_,hr,_=>hr.elim
 |_::_,[],_,_,hr,_=>hr.elim
theorem putM_now {k:Nat} {d:TypeDesc} (hd:KindD k d) {w:World} {Sf:Nat→Nat→Prop} {kv vv:V} {uk uv:Value} (hx:RepV w Sf kv uk) (hv:RepV w Sf vv uv):∀{es:List (V×V)} {l:List MapEntry} {i:Nat} {es':List (V×V)},RepEs w Sf es l→putM k kv vv es=some es'→
  (Instr.findNow d uk l i=some none∧es'=es++[(kv,vv)])∨∃j x0 x,Instr.findNow d uk l i=some (some (i+j,x0))∧l[j]?=some x∧Instr.sameBits 10000 x.key uk=true∧RepEs w Sf es' (l.modify j fun e=>{ e with key:=uk,val:=uv})
 |[],[],i,es',_,h=>by simp only [putM,Option.some.injEq] at h;exact .inl ⟨rfl,by rw [←h];rfl⟩
 |e::es,x::l,i,es',hr,h=>by
  simp only [putM] at h
  cases hm:mapKey k kv e.1 with
  |none=>rw [hm] at h;cases h
  |some b=>
   rw [hm] at h
   have hs:=mapKey_now hd hx hr.1.1 hm
   cases b with
   |true=>
    simp only [Option.some.injEq] at h
    subst h
    exact .inr ⟨0,x.val,x,by simp [Instr.findNow,hs],rfl,mapKey_same hx hr.1.1 hm,⟨⟨hx,hv⟩,hr.2⟩⟩
   |false=>
    simp only [Option.map_eq_some_iff] at h
    obtain ⟨r,h1,rfl⟩:=h
    have:Instr.findNow d uk (x::l) i=Instr.findNow d uk l (i+1):=by simp [Instr.findNow,hs]
    rw [this]
    rcases putM_now (i:=i+1) hd hx hv hr.2 h1 with ⟨h2,h3⟩|⟨j,x0,y,h2,h3,h4,h5⟩
    ·exact .inl ⟨h2,by rw [h3];rfl⟩
    ·exact .inr ⟨j+1,x0,y,by rw [h2];congr 3;omega,by simpa using h3,h4,by rw [List.modify_succ_cons];exact ⟨hr.1,h5⟩⟩
 |[],_::_,_,_,hr,_=>hr.elim
 |_::_,[],_,_,hr,_=>hr.elim
theorem kindT_plain {t:TypeId} {k:Nat} (h:kindT P t=some k):P.plainKey t=true:=by
 obtain ⟨d,h1,h2,h3⟩:=kindT_desc h
 rcases h2 with ⟨_,q,rfl⟩|⟨_,rfl⟩|⟨_,rfl⟩|⟨e,_⟩
 ·simp [Program.plainKey,h1]
 ·simp [Program.plainKey,h1]
 ·simp [Program.plainKey,h1]
 ·exact absurd e h3
theorem run_checkKey1 {t:TypeId} {k:Nat} (h:kindT P t=some k) (w:World) (em:Bool) (n:Nat) (v:Value) (hv:v.oneCell'=true):(Instr.checkKey em (n+1) t v).run P w=.ok () w:=by
 obtain ⟨d,h1,h2,h3⟩:=kindT_desc h
 unfold Instr.checkKey
 simp only [Sem.run_bind,run_underlying h1,Result.andThen]
 rcases h2 with ⟨_,q,rfl⟩|⟨_,rfl⟩|⟨_,rfl⟩|⟨e,_⟩
 ·rfl
 ·rfl
 ·rfl
 ·exact absurd e h3
theorem run_checkFields (em:Bool) (n:Nat) (xs:Array Value) (hx1:∀v∈xs.toList,v.oneCell'=true) (w:World):∀(fs:List Field) (j:Nat) (ks:List Nat),fieldKinds P j fs=some ks→j+ks.length≤xs.size→
  (forIn fs PUnit.unit (fun (f:Field) (r:PUnit)=>(do
   if f.name≠ "_" then do
    Instr.checkKey em (n+1) f.type (←part f.type xs f.offset)
    pure (ForInStep.yield PUnit.unit)
   else pure (ForInStep.yield PUnit.unit):Sem (ForInStep PUnit)))).run P w=.ok PUnit.unit w
 |[],j,ks,_,_=>by simp
 |f::fs,j,ks,hk,hj=>by
  simp only [fieldKinds,Option.bind_eq_bind,Option.bind_eq_some_iff] at hk
  obtain ⟨k,h1,ks',h2,h3⟩:=hk
  split at h3
  case isFalse=>cases h3
  rename_i hc
  obtain ⟨hoff,hname⟩:=hc
  simp only [Option.some.injEq] at h3
  subst h3
  simp only [List.length_cons] at hj
  have hlt:j < xs.size:=by omega
  have hx:xs[f.offset]?=some xs[j]:=by rw [hoff];exact Array.getElem?_eq_getElem hlt
  have hp:=run_part_plain (w:=w) (kindT_plain h1) hx
  have hc:=run_checkKey1 h1 w em n xs[j] (hx1 _ (by simp))
  simp only [List.forIn_cons,Sem.run_bind,hname,ne_eq,not_false_eq_true,if_true,Result.andThen_ok,hp,hc,Sem.run_pure]
  exact run_checkFields em n xs hx1 w fs (j+1) ks' h2 (by omega)
theorem keyCs_rep {ds:List D}:∀{cs:List C} {vs:List Value},keyCs ds=some cs→All2 (RepDc B S m) ds vs→All2 (RepC m.w (Safe B S m)) cs vs:=by
 induction ds with
 |nil=>intro cs vs h hr;simp only [keyCs,Option.some.injEq] at h;subst h;cases vs<;>first|trivial|exact hr.elim
 |cons d ds ih=>
  intro cs vs h hr
  cases vs with
  |nil=>exact hr.elim
  |cons v vs=>
   cases d<;>simp only [keyCs,Option.map_eq_some_iff,reduceCtorEq] at h
   obtain ⟨r,h1,rfl⟩:=h
   exact ⟨hr.1,ih h1 hr.2⟩
theorem keyV_rep {kind n:Nat} {d:D} {u:Value} {kv:V} (h:keyV kind n d=some kv) (hr:RepD B S m d u):RepV m.w (Safe B S m) kv u∧(kind=9→∃us:List Value,u=.agg us.toArray∧us.length=n∧∀v∈us,v.oneCell'=true):=by
 unfold keyV at h
 split at h
 ·split at h
  ·cases h
  ·rename_i hk;simp only [Option.some.injEq] at h;subst h;exact ⟨hr,fun e=>absurd e hk⟩
 ·split at h
  case isFalse=>cases h
  split at h
  case h_2=>cases h
  rename_i cs hcs
  split at h
  case isFalse=>cases h
  rename_i hl
  simp only [Option.some.injEq] at h
  subst h
  obtain ⟨us,rfl,h2⟩:=hr
  have h3:=keyCs_rep hcs h2
  exact ⟨⟨us,rfl,h3⟩,fun _=>⟨us,rfl,by rw [←h3.len];exact hl,All2.mem_right (fun _ _ h2=>h2.oneCell) h3⟩⟩
 ·cases h
theorem run_checkKeyM {t:TypeId} {q:Nat×Nat} (hq:keyKind P t=some q) {d:D} {u:Value} {kv:V} (h:keyV q.1 q.2 d=some kv) (hr:RepD B S m d u) (w:World) (em:Bool):(Instr.checkKey em 10000 t u).run P w=.ok () w:=by
 obtain ⟨h1,h2⟩:=keyV_rep h hr
 unfold keyKind at hq
 split at hq
 ·rename_i k hk
  simp only [Option.some.injEq] at hq
  subst hq
  obtain ⟨_,_,_,h3⟩:=kindT_desc hk
  have ho:u.oneCell'=true:=by
   unfold keyV at h
   split at h
   ·exact RepC.oneCell hr
   ·rw [if_neg h3] at h;cases h
   ·cases h
  exact run_checkKey1 hk w em 9999 u ho
 ·split at hq
  case h_2=>cases hq
  rename_i fs hu
  simp only [Option.map_eq_some_iff] at hq
  obtain ⟨ks,hks,rfl⟩:=hq
  obtain ⟨us,rfl,hl,hone⟩:=h2 rfl
  show (Instr.checkKey em (9998+1+1) t _).run P w=_
  rw [Instr.checkKey]
  simp only [Sem.run_bind,run_underlying hu,Result.andThen_ok]
  rw [←Array.forIn_toList]
  have:=run_checkFields (P:=P) em 9998 us.toArray (by simpa using hone) w fs.toList 0 ks hks (by simp only [List.size_toArray];simp only at hl;omega)
  simp only [ne_eq,ite_not] at this ⊢
  rw [this]
  rfl
theorem litC_rep {w:World} {Sf:Nat→Nat→Prop} {v:Value} (h:(scalar v||isNilS v)=true):RepC w Sf (litC v) v:=by
 rcases Bool.or_eq_true_iff.1 h with h1|h1
 ·rw [litC_lit h1];exact ⟨rfl,h1⟩
 ·rw [isNilS_some h1];exact .inl ⟨rfl,rfl,rfl⟩
theorem zeroD_rep {t:TypeId} {z:List Value} {agg:Bool} (hz:zeroOf P t=some z) (ha:zeroAgg P t=some agg):∃zv,(zeroValue t).run P m.w=.ok zv m.w∧RepA B S m (zeroD agg z) zv:=by
 obtain ⟨i,zv,h1,h2,h3,h4,h5⟩:=zeroOf_some hz
 refine ⟨zv,by simp [zeroValue,typeInfo,h1,h2],?_⟩
 simp only [zeroAgg,h1,h2,Option.bind_eq_bind,Option.bind_some,Option.some.injEq] at ha
 have many:∀l:List Value,(∀v∈l,(scalar v||isNilS v)=true)→All2 (RepDc B S m) (l.map fun v=>D.c (litC v)) l:=by
  intro l
  induction l with
  |nil=>intro _;trivial
  |cons v l ih=>intro hl;exact ⟨litC_rep (hl v (by simp)),ih fun x hx=>hl x (by simp [hx])⟩
 unfold zeroD
 cases zv with
 |agg cs=>
  subst ha
  simp only [isAggV,if_true]
  have e:cs.toList=z:=h3
  exact ⟨z,by rw [←e],many z h4⟩
 |_=>
  subst ha
  simp only [isAggV,Bool.false_eq_true,if_false]
  have e:=h3
  simp only [Value.cells] at e
  subst e
  exact litC_rep (h4 _ (by simp))
theorem does_mget (hk:HOK B S m) (ho:Opd B S m ρ a) {t k e:TypeId} {x i:Operand} {ok:Bool} {q:Nat×Nat} {z:List Value} {agg:Bool} {X' I':X} (hop:o.op=.lookup t x i ok) (ht:P.underlying t=some (.map k e)) (hq:keyKind P k=some q) (hz:zeroOf P e=some z)
  (ha:zeroAgg P e=some agg) (hx:compX x=some X') (hi:compX i=some I') (hs:stepM ρ m.h slot (.mget q.1 q.2 agg z ok X' I')=some (d,us)):Does B S P o a m slot d us:=by
 have e1:=ho x X' hx
 have e2:=ho i I' hi
 simp only [stepM] at hs
 split at hs
 case h_2=>cases hs
 rename_i id he
 split at hs
 case h_2=>cases hs
 rename_i es hob
 simp only [Option.bind_eq_some_iff,Option.some.injEq,Prod.mk.injEq] at hs
 obtain ⟨kv,h1,r,h2,h3,rfl⟩:=hs
 rw [he] at e1
 obtain ⟨_,e3⟩:=e1
 have hr:=hk.obj id
 unfold RepO at hr
 rw [hob] at hr
 obtain ⟨_,ents,ck,hw,hes⟩:=hr
 obtain ⟨hkr,_⟩:=keyV_rep h1 e2
 obtain ⟨dd,hu,hd,_⟩:=keyKind_desc hq
 have hck:=run_checkKeyM hq h1 e2 m.w ents.isEmpty
 obtain ⟨zv,hzv,hzr⟩:=zeroD_rep (m:=m) (B:=B) (S:=S) hz ha
 have fin:∀(v:Value) (d1:D),(∃r0,Instr.findNow dd (a.eval i) ents.toList 0=some r0∧(match r0 with|some (_,x)=>x=v|none=>zv=v)∧r.isSome=r0.isSome)→RepA B S m d1 v→(if ok then D.tup [d1,.c (.lit (.bool r.isSome))] else d1)=d→Does B S P o a m slot d []:=by
  rintro v d1 ⟨r0,g1,g2,g3⟩ g4 g5
  have hf:=run_findKey (w:=m.w) hu g1
  have hl:(Instr.lookup t (.map (some (m.β id))) (a.eval i) ok).run P m.w=.ok (if ok then .tuple #[v,.bool r.isSome] else v) m.w:=by
   unfold Instr.lookup
   simp only [Sem.run_bind,run_underlying ht,Result.andThen_ok,Go.MapKept.run_getObj_map hw,Sem.run_pure,hck,hf]
   cases r0 with
   |none=>
    simp only at g2 g3
    subst g2
    have g3':r.isSome=false:=g3
    cases ok<;>simp [hzv,g3']
   |some p=>
    obtain ⟨j,x0⟩:=p
    simp only at g2 g3
    subst g2
    have g3':r.isSome=true:=g3
    cases ok<;>simp [g3']
  have hrun:(execOp a.eval o).run P m.w=.ok (.value (if ok then .tuple #[v,.bool r.isSome] else v)) m.w:=by
   simp [execOp,hop,e3,hl]
  refine does_pure hk slot hrun ?_
  rw [←g5]
  cases ok with
  |true=>exact ⟨[v,.bool r.isSome],rfl,g4,(show RepC m.w (Safe B S m) (.lit (.bool r.isSome)) (.bool r.isSome) from ⟨rfl,rfl⟩),trivial⟩
  |false=>exact g4.toD
 rcases findM_now (i:=0) hd hkr hes h2 with ⟨rfl,h4⟩|⟨v,j,x0,rfl,h4,h5⟩
 ·exact fin zv (zeroD agg z) ⟨none,h4,rfl,rfl⟩ hzr h3
 ·exact fin x0 v.toD ⟨_,h4,rfl,rfl⟩ (RepV.toD h5) h3
theorem does_mput (hk:HOK B S m) (ho:Opd B S m ρ a) {t k e:TypeId} {x i v:Operand} {q:Nat×Nat} {X' I' V':X} (hop:o.op=.mapUpdate t x i v∨o.op=.insert t x i v) (ht:P.underlying t=some (.map k e)) (hq:keyKind P k=some q)
  (hx:compX x=some X') (hi:compX i=some I') (hv:compX v=some V') (hs:stepM ρ m.h slot (.mput q.1 q.2 X' I' V')=some (d,us)):Does B S P o a m slot d us:=by
 have e1:=ho x X' hx
 have e2:=ho i I' hi
 have e3:=ho v V' hv
 simp only [stepM] at hs
 split at hs
 case h_2=>cases hs
 rename_i id he
 simp only [Option.bind_eq_some_iff,Prod.exists] at hs
 obtain ⟨kv,h1,vv,us0,h2,hs⟩:=hs
 split at hs
 case h_2=>cases hs
 rename_i es hob
 simp only [Option.bind_eq_some_iff,Option.some.injEq,Prod.mk.injEq] at hs
 obtain ⟨es',h3,rfl,rfl⟩:=hs
 have e3':RepA B S m (ρ V') (a.eval v):=by
  cases hd:ρ V' with
  |tup ds=>rw [hd] at h2;simp [frzV,frz] at h2
  |_=>rw [hd] at e3;exact e3
 obtain ⟨k1,k2,k3⟩:=frzV_ok hk e3' h2
 rw [he] at e1
 obtain ⟨hU,e4⟩:=e1
 have hr:=k1.obj id
 unfold RepO at hr
 rw [show getH (m.heap (updH m.h us0)).h id=.map es from hob] at hr
 obtain ⟨hB,ents,ck,hw,hes⟩:=hr
 obtain ⟨hkr,_⟩:=keyV_rep h1 (k2.repD e2)
 obtain ⟨dd,hu,hd,_⟩:=keyKind_desc hq
 have hck:=run_checkKeyM hq h1 e2 m.w false
 have hw':m.w.heap[m.β id]?=some (.map ents ck):=hw
 have fin:∀(ents':Array MapEntry) (ck':Nat),(Instr.mapUpdate t (.map (some (m.β id))) (a.eval i) (a.eval v)).run P m.w=.ok () { m.w with heap:=m.w.heap.setIfInBounds (m.β id) (.map ents' ck')}→
   RepEs m.w (Safe B S (m.heap (updH m.h us0))) es' ents'.toList→Does B S P o a m slot .unk (us0++[(id,.map es')]):=by
  intro ents' ck' hrun hes'
  obtain ⟨s1,s2⟩:=heap_set (o':=.map ents' ck') hw'
  have hlive:getH (m.heap (updH m.h us0)).h id≠.dead:=by rw [show getH (m.heap (updH m.h us0)).h id=.map es from hob];simp
  have hev:Evolves B S (m.heap (updH m.h us0)) ((m.heap (updH m.h us0)).upd { m.w with heap:=m.w.heap.setIfInBounds (m.β id) (.map ents' ck')} id (.map es')):=by
   refine upd_evolves k1 hob (o':=.map es') trivial s2 (fun q u hq _=>hq.elim) ?_
   have e1:(m.w.heap.setIfInBounds (m.β id) (Go.Obj.map ents' ck'))[(m.heap (updH m.h us0)).β id]?=some (Go.Obj.map ents' ck'):=s1
   have e2:(m.heap (updH m.h us0)).w.heap[(m.heap (updH m.h us0)).β id]?=some (Go.Obj.map ents ck):=hw'
   simp only [World.shape?,e1,e2]
  have hok:=upd_hok k1 (id:=id) hlive hev s2 (by show m.w.heap.size≤(m.w.heap.setIfInBounds _ _).size;simp) ⟨hB,ents',ck',s1,hes'.mono fun _ _ h=>⟨RepV.mono hev.cell h.1,RepV.mono hev.cell h.2⟩⟩
  have hexec:(execOp a.eval o).run P m.w=.ok .skip { m.w with heap:=m.w.heap.setIfInBounds (m.β id) (.map ents' ck')}:=by
   rcases hop with hop|hop<;>simp [execOp,hop,e4,hrun]
  refine ⟨_,undef,_,hexec,.inr ⟨rfl,rfl⟩,m.β,?_,?_,trivial,?_⟩
  ·rw [updH_append];exact grow_hok hok slot
  ·rw [updH_append];exact (k2.trans hev).trans (grow_evolves _ slot)
  ·exact ⟨rfl,rfl,rfl,by show m.w.heap.size≤(m.w.heap.setIfInBounds _ _).size;simp,fun j hj=>s2 j (by have:B≤m.β id:=hB;omega)⟩
 rcases putM_now (i:=0) hd hkr k3 hes h3 with ⟨h4,rfl⟩|⟨j,x0,y,h4,h5,h6,h7⟩
 ·refine fin (ents.push { key:=a.eval i,val:=a.eval v,born:=ck}) (ck+1) ?_ ?_
  ·have hf:=run_findKey (w:=m.w) hu h4
   unfold Instr.mapUpdate
   simp only [Sem.run_bind,run_underlying ht,Result.andThen_ok,Go.MapKept.run_getObj_map hw',hck,hf,Go.MapKept.run_setObj_map _ hw']
  ·rw [Array.toList_push]
   exact All2.append hes ⟨⟨hkr,k3⟩,trivial⟩
 ·refine fin (ents.modify j fun e=>{ e with key:=a.eval i,val:=a.eval v}) ck ?_ ?_
  ·have hf:=run_findKey (w:=m.w) hu h4
   unfold Instr.mapUpdate
   have hj:ents[j]?=some y:=by rw [←Array.getElem?_toList];exact h5
   have hks:(Instr.keyThatStays (((ents[j]?).map (·.key)).getD (a.eval i)) (a.eval i)).run P m.w=.ok (a.eval i) m.w:=by
    rw [hj]
    simp [Instr.keyThatStays,h6]
   simp only [Sem.run_bind,run_underlying ht,Result.andThen_ok,Go.MapKept.run_getObj_map hw',hck,hf,hks,Go.MapKept.run_setObj_map _ hw',Nat.zero_add]
  ·rw [Array.toList_modify]
   exact h7
theorem stepM_ok {ins:Ins} (hc:compMap P o.op=some ins) (hk:HOK B S m) (ho:Opd B S m ρ a) (hs0:¬m.U slot) (hs:stepM ρ m.h slot ins=some (d,us)):Does B S P o a m slot d us:=by
 unfold compMap at hc
 split at hc
 ·rename_i t hop
  simp only [Option.some.injEq] at hc
  subst hc
  simp only [stepM,Option.some.injEq,Prod.mk.injEq] at hs
  obtain ⟨rfl,rfl⟩:=hs
  exact does_mkm hk hs0 hop
 ·rename_i t x i ok hop
  split at hc
  case h_2=>cases hc
  rename_i k e ht
  simp only [Option.bind_eq_bind,Option.bind_eq_some_iff,Option.some.injEq] at hc
  obtain ⟨q,hq,z,hz,agg,ha,X',hx,I',hi,rfl⟩:=hc
  exact does_mget hk ho hop ht hq hz ha hx hi hs
 ·rename_i t x i v hop
  split at hc
  case h_2=>cases hc
  rename_i k e ht
  simp only [Option.bind_eq_bind,Option.bind_eq_some_iff,Option.some.injEq] at hc
  obtain ⟨q,hq,X',hx,I',hi,V',hv,rfl⟩:=hc
  exact does_mput hk ho (.inl hop) ht hq hx hi hv hs
 ·rename_i t x i v hop
  split at hc
  case h_2=>cases hc
  rename_i k e ht
  simp only [Option.bind_eq_bind,Option.bind_eq_some_iff,Option.some.injEq] at hc
  obtain ⟨q,hq,X',hx,I',hi,V',hv,rfl⟩:=hc
  exact does_mput hk ho (.inr hop) ht hq hx hi hv hs
 ·cases hc
end
end Go.Ey
