/- A part of the proof. -/
import Derived.Test.YtpginbppmgdndaaGreatDoorY15
import Derived.Orders
set_option linter.all false
namespace Go.Ey
open Go.RowKit
variable [Keeps]
structure Eff where
 dst:Option Nat
 d:D
 us:List (Nat×Obj)
 tr:Trace
def gtOf (g:Option (Nat×Bool)):List Nat:=match g with|some (t,_)=>[t]|none=>[]
def Did (call:Callee) (lent:Lent) (nx k:Nat) (i:Inst) (e:Env) (h:Heap) (f:Eff):Prop:=
 f.dst=i.dst∧
 ((wanted e i.guard=some true∧stepD call lent (evX e) h (nx+k) i.ins=some (f.d,f.us)∧f.tr=⟨gtOf i.guard++tmpsX (opX i.ins),i.dst.toList,touches (evX e) i.ins,f.us.map (·.1)⟩)∨
  (wanted e i.guard=some false∧f.d=undefD∧f.us=[]∧f.tr=⟨gtOf i.guard,i.dst.toList,[],[]⟩))
def Ran (call:Callee) (lent:Lent) (nx:Nat):Nat→List Inst→Env→Heap→List Eff→Prop
 |_,[],_,_,[]=>True
 |k,i::is,e,h,f::fs=>Did call lent nx k i e h f∧Ran call lent nx (k+1) is (putE e f.dst f.d) (updH h f.us) fs
 |_,_,_,_,_=>False
def runE (L:Nat→Bool):Nat→List Eff→Env→Env
 |_,[],e=>e
 |k,f::fs,e=>runE L (k+1) fs (if L k then putE e f.dst f.d else e)
def runH (L:Nat→Bool):Nat→List Eff→Heap→Heap
 |_,[],h=>h
 |k,f::fs,h=>runH L (k+1) fs (if L k then updH h f.us else h)
theorem ran_of {call:Callee} {lent:Lent} {nx:Nat}:∀{is:List Inst} {k:Nat} {e:Env} {h:Heap} {e':Env} {h':Heap} {ts:List Trace},evDraw call lent nx k is e h=some (e',h',ts)→
  ∃fs,Ran call lent nx k is e h fs∧ts=fs.map (·.tr)∧e'=runE (fun _=>true) k fs e∧h'=runH (fun _=>true) k fs h
 |[],k,e,h,e',h',ts,hd=>by
  simp only [evDraw,Option.some.injEq,Prod.mk.injEq] at hd
  obtain ⟨rfl,rfl,rfl⟩:=hd
  exact ⟨[],trivial,rfl,rfl,rfl⟩
 |i::is,k,e,h,e',h',ts,hd=>by
  simp only [evDraw,Option.bind_eq_bind,Option.bind_eq_some_iff] at hd
  obtain ⟨b,hw,hd⟩:=hd
  cases b with
  |true=>
   simp only [if_true,Option.bind_eq_some_iff,Prod.exists,Option.some.injEq,Prod.mk.injEq] at hd
   obtain ⟨d,us,h1,e1,h1',ts',h2,rfl,rfl,rfl⟩:=hd
   obtain ⟨fs,r1,r2,r3,r4⟩:=ran_of h2
   exact ⟨⟨i.dst,d,us,⟨gtOf i.guard++tmpsX (opX i.ins),i.dst.toList,touches (evX e) i.ins,us.map (·.1)⟩⟩::fs,⟨⟨rfl,.inl ⟨hw,h1,rfl⟩⟩,r1⟩,by rw [r2];rfl,by simpa [runE] using r3,by simpa [runH] using r4⟩
  |false=>
   simp only [if_false,Bool.false_eq_true,Option.bind_eq_some_iff,Prod.exists,Option.some.injEq,Prod.mk.injEq] at hd
   obtain ⟨e1,h1',ts',h2,rfl,rfl,rfl⟩:=hd
   obtain ⟨fs,r1,r2,r3,r4⟩:=ran_of h2
   exact ⟨⟨i.dst,undefD,[],⟨gtOf i.guard,i.dst.toList,[],[]⟩⟩::fs,⟨⟨rfl,.inr ⟨hw,rfl,rfl,rfl⟩⟩,r1⟩,by rw [r2];rfl,by simpa [runE] using r3,by simpa [runH,updH] using r4⟩
theorem runE_none {L:Nat→Bool}:∀{fs:List Eff} {k:Nat} {e:Env},(∀j,k≤j→L j=false)→runE L k fs e=e
 |[],_,_,_=>rfl
 |f::fs,k,e,h=>by
  simp only [runE,h k (Nat.le_refl _),if_false,Bool.false_eq_true]
  exact runE_none fun j hj=>h j (by omega)
theorem runH_none {L:Nat→Bool}:∀{fs:List Eff} {k:Nat} {h:Heap},(∀j,k≤j→L j=false)→runH L k fs h=h
 |[],_,_,_=>rfl
 |f::fs,k,e,h=>by
  simp only [runH,h k (Nat.le_refl _),if_false,Bool.false_eq_true]
  exact runH_none fun j hj=>h j (by omega)
theorem Ran.at {call:Callee} {lent:Lent} {nx:Nat}:∀{is:List Inst} {k:Nat} {e:Env} {h:Heap} {fs:List Eff},Ran call lent nx k is e h fs→∀{i:Nat} {inst:Inst},is[i]?=some inst→
  ∃f,fs[i]?=some f∧Did call lent nx (k+i) inst (runE (fun j=>decide (j < k+i)) k fs e) (runH (fun j=>decide (j < k+i)) k fs h) f
 |[],_,_,_,[],_,i,inst,hi=>by simp at hi
 |i0::is,k,e,h,f::fs,hr,i,inst,hi=>by
  obtain ⟨h1,h2⟩:=hr
  cases i with
  |zero=>
   simp only [List.getElem?_cons_zero,Option.some.injEq] at hi
   subst hi
   refine ⟨f,by simp,?_⟩
   rw [Nat.add_zero,runE_none (fun j hj=>by simp;omega),runH_none (fun j hj=>by simp;omega)]
   exact h1
  |succ i=>
   simp only [List.getElem?_cons_succ] at hi
   obtain ⟨g,g1,g2⟩:=Ran.at h2 hi
   refine ⟨g,by simpa using g1,?_⟩
   have hk:decide (k < k+(i+1))=true:=by simp
   simp only [runE,runH,hk,if_true]
   rw [show k+(i+1)=k+1+i by omega]
   exact g2
 |[],_,_,_,_::_,hr,_,_,_=>hr.elim
 |_::_,_,_,_,[],hr,_,_,_=>hr.elim
theorem runE_agree {L L':Nat→Bool} {t:Nat}:∀{fs:List Eff} {k:Nat} {e e':Env},getE e t=getE e' t→(∀(j:Nat) (f:Eff),fs[j]?=some f→L (k+j)≠L' (k+j)→f.dst≠some t)→getE (runE L k fs e) t=getE (runE L' k fs e') t
 |[],_,_,_,he,_=>he
 |f::fs,k,e,e',he,h=>by
  simp only [runE]
  refine runE_agree ?_ fun j g hg hne=>h (j+1) g (by simpa using hg) (by rw [show k+(j+1)=k+1+j by omega];exact hne)
  have h0:=h 0 f (by simp)
  simp only [Nat.add_zero] at h0
  cases h1:L k<;>cases h2:L' k<;>simp only [if_true,if_false,Bool.false_eq_true,getE_putE]
  ·exact he
  ·rw [if_neg (h0 (by rw [h1,h2];simp))];exact he
  ·rw [if_neg (h0 (by rw [h1,h2];simp))];exact he
  ·rw [he]
theorem updH_out {us:List (Nat×Obj)}:∀{h:Heap} {id:Nat},id ∉ us.map (·.1)→getH (updH h us) id=getH h id:=by
 induction us with
 |nil=>intros;rfl
 |cons u us ih=>
  intro h id hn
  simp only [List.map_cons,List.mem_cons,not_or] at hn
  simp only [updH]
  rw [ih hn.2]
  obtain ⟨i,o⟩:=u
  have hne:¬i=id:=fun e=>hn.1 e.symm
  simp only [getH,if_neg hne]
theorem updH_in {us:List (Nat×Obj)}:∀{h h':Heap} {id:Nat},id∈us.map (·.1)→getH (updH h us) id=getH (updH h' us) id:=by
 induction us with
 |nil=>intro h h' id hi;simp at hi
 |cons u us ih=>
  intro h h' id hi
  simp only [updH]
  by_cases hm:id∈us.map (·.1)
  ·exact ih hm
  ·simp only [List.map_cons,List.mem_cons] at hi
   rcases hi with rfl|hi
   ·rw [updH_out hm,updH_out hm]
    obtain ⟨i,o⟩:=u
    simp [getH]
   ·exact absurd hi hm
theorem updH_ext {us:List (Nat×Obj)} {h h':Heap} {id:Nat} (he:getH h id=getH h' id):getH (updH h us) id=getH (updH h' us) id:=by
 by_cases hm:id∈us.map (·.1)
 ·exact updH_in hm
 ·rw [updH_out hm,updH_out hm,he]
theorem runH_agree {L L':Nat→Bool} {id:Nat}:∀{fs:List Eff} {k:Nat} {h h':Heap},getH h id=getH h' id→(∀(j:Nat) (f:Eff),fs[j]?=some f→L (k+j)≠L' (k+j)→id ∉ f.us.map (·.1))→getH (runH L k fs h) id=getH (runH L' k fs h') id
 |[],_,_,_,he,_=>he
 |f::fs,k,e,e',he,h=>by
  simp only [runH]
  refine runH_agree ?_ fun j g hg hne=>h (j+1) g (by simpa using hg) (by rw [show k+(j+1)=k+1+j by omega];exact hne)
  have h0:=h 0 f (by simp)
  simp only [Nat.add_zero] at h0
  cases h1:L k<;>cases h2:L' k<;>simp only [if_true,if_false,Bool.false_eq_true]
  ·exact he
  ·rw [updH_out (h0 (by rw [h1,h2];simp))];exact he
  ·rw [updH_out (h0 (by rw [h1,h2];simp))];exact he
  ·exact updH_ext he
theorem runE_add {L L':Nat→Bool} {t:Nat}:∀{fs:List Eff} {k i:Nat} {e:Env} {f:Eff},fs[i]?=some f→L (k+i)=false→L' (k+i)=true→(∀j,j≠i→L' (k+j)=L (k+j))→
  (∀(j:Nat) (g:Eff),i < j→fs[j]?=some g→L (k+j)=true→f.dst=some t→g.dst≠some t)→getE (runE L' k fs e) t=if f.dst=some t then f.d else getE (runE L k fs e) t
 |[],_,_,_,_,hi,_,_,_,_=>by simp at hi
 |f0::fs,k,0,e,f,hi,h1,h2,h3,h4=>by
  simp only [List.getElem?_cons_zero,Option.some.injEq] at hi
  subst hi
  simp only [Nat.add_zero] at h1 h2
  simp only [runE,h1,h2,if_true,if_false,Bool.false_eq_true]
  have hsame:∀j,L' (k+1+j)=L (k+1+j):=fun j=>by
   have:=h3 (j+1) (by omega)
   rw [show k+1+j=k+(j+1) by omega]
   exact this
  by_cases hd:f0.dst=some t
  ·rw [if_pos hd]
   have:∀{fs:List Eff} {k:Nat} {e:Env},(∀(j:Nat) (g:Eff),fs[j]?=some g→L' (k+j)=true→g.dst≠some t)→getE (runE L' k fs e) t=getE e t:=by
    intro fs
    induction fs with
    |nil=>intros;rfl
    |cons g fs ih=>
     intro k e h
     simp only [runE]
     rw [ih fun j g' hg hl=>h (j+1) g' (by simpa using hg) (by rw [show k+(j+1)=k+1+j by omega];exact hl)]
     cases hl:L' k
     ·simp
     ·simp only [if_true,getE_putE]
      rw [if_neg (h 0 g (by simp) (by simpa using hl))]
   rw [this fun j g hg hl=>h4 (j+1) g (by omega) (by simpa using hg) (by rw [show k+(j+1)=k+1+j by omega,←hsame];exact hl) hd]
   simp [getE_putE,hd]
  ·rw [if_neg hd]
   refine runE_agree (by simp [getE_putE,hd]) fun j g _ hne=>absurd (hsame j) hne
 |f0::fs,k,i+1,e,f,hi,h1,h2,h3,h4=>by
  simp only [List.getElem?_cons_succ] at hi
  have h0:L' k=L k:=by simpa using h3 0 (by omega)
  simp only [runE,h0]
  exact runE_add hi (by rw [show k+1+i=k+(i+1) by omega];exact h1) (by rw [show k+1+i=k+(i+1) by omega];exact h2)
   (fun j hj=>by rw [show k+1+j=k+(j+1) by omega];exact h3 (j+1) (by omega))
   (fun j g hj hg hl hd=>h4 (j+1) g (by omega) (by simpa using hg) (by rw [show k+(j+1)=k+1+j by omega];exact hl) hd)
theorem runH_add {L L':Nat→Bool} {id:Nat}:∀{fs:List Eff} {k i:Nat} {h:Heap} {f:Eff},fs[i]?=some f→L (k+i)=false→L' (k+i)=true→(∀j,j≠i→L' (k+j)=L (k+j))→
  (∀(j:Nat) (g:Eff),i < j→fs[j]?=some g→L (k+j)=true→id∈f.us.map (·.1)→id ∉ g.us.map (·.1))→getH (runH L' k fs h) id=getH (updH (runH L k fs h) f.us) id
 |[],_,_,_,_,hi,_,_,_,_=>by simp at hi
 |f0::fs,k,0,e,f,hi,h1,h2,h3,h4=>by
  simp only [List.getElem?_cons_zero,Option.some.injEq] at hi
  subst hi
  simp only [Nat.add_zero] at h1 h2
  simp only [runH,h1,h2,if_true,if_false,Bool.false_eq_true]
  have hsame:∀j,L' (k+1+j)=L (k+1+j):=fun j=>by
   have:=h3 (j+1) (by omega)
   rw [show k+1+j=k+(j+1) by omega]
   exact this
  by_cases hd:id∈f0.us.map (·.1)
  ·have:∀{fs:List Eff} {k:Nat} {e:Heap},(∀(j:Nat) (g:Eff),fs[j]?=some g→L' (k+j)=true→id ∉ g.us.map (·.1))→getH (runH L' k fs e) id=getH e id:=by
    intro fs
    induction fs with
    |nil=>intros;rfl
    |cons g fs ih=>
     intro k e h
     simp only [runH]
     rw [ih fun j g' hg hl=>h (j+1) g' (by simpa using hg) (by rw [show k+(j+1)=k+1+j by omega];exact hl)]
     cases hl:L' k
     ·simp
     ·simp only [if_true]
      rw [updH_out (h 0 g (by simp) (by simpa using hl))]
   rw [this fun j g hg hl=>h4 (j+1) g (by omega) (by simpa using hg) (by rw [show k+(j+1)=k+1+j by omega,←hsame];exact hl) hd]
   exact updH_in hd
  ·rw [updH_out hd]
   refine runH_agree (updH_out hd) fun j g _ hne=>absurd (hsame j) hne
 |f0::fs,k,i+1,e,f,hi,h1,h2,h3,h4=>by
  simp only [List.getElem?_cons_succ] at hi
  have h0:L' k=L k:=by simpa using h3 0 (by omega)
  simp only [runH,h0]
  exact runH_add hi (by rw [show k+1+i=k+(i+1) by omega];exact h1) (by rw [show k+1+i=k+(i+1) by omega];exact h2)
   (fun j hj=>by rw [show k+1+j=k+(j+1) by omega];exact h3 (j+1) (by omega))
   (fun j g hj hg hl hd=>h4 (j+1) g (by omega) (by simpa using hg) (by rw [show k+(j+1)=k+1+j by omega];exact hl) hd)
def EdgesIn (L:Nat→Bool) (o:Oper):Prop:=∀e∈o.after.toList,Region.binds .any e=true→L e.on=true
theorem waits_len:∀(l:List Oper) (acc:List Nat),(waits acc l).length=acc.length+l.length
 |[],_=>rfl
 |o::l,acc=>by simp only [waits];rw [waits_len l];simp;omega
theorem waitsOf_bit {acc:List Nat} {x:Nat}:∀(es:List Edge),(waitsOf acc es).testBit x=true→∃e∈es,Region.binds .any e=true∧(x=e.on∨(acc.getD e.on 0).testBit x=true)
 |[],h=>by simp [waitsOf] at h
 |e::es,h=>by
  simp only [waitsOf] at h
  split at h
  ·rename_i hb
   simp only [Nat.testBit_or,Bool.or_eq_true] at h
   rcases h with (h|h)|h
   ·rw [Nat.one_shiftLeft,Nat.testBit_two_pow] at h
    exact ⟨e,by simp,hb,.inl (Eq.symm (by simpa using h))⟩
   ·exact ⟨e,by simp,hb,.inr h⟩
   ·obtain ⟨e',h1,h2⟩:=waitsOf_bit es h
    exact ⟨e',by simp [h1],h2⟩
  ·obtain ⟨e',h1,h2⟩:=waitsOf_bit es h
   exact ⟨e',by simp [h1],h2⟩
theorem waits_ok {L:Nat→Bool} {ops:List Oper} (hcl:∀(j:Nat) (o:Oper),ops[j]?=some o→L j=true→EdgesIn L o):
  ∀(l:List Oper) (acc:List Nat),(∀j:Nat,l[j]?=ops[acc.length+j]?)→(∀(j:Nat) (b:Nat) (o:Oper),acc[j]?=some b→ops[j]?=some o→EdgesIn L o→∀x,b.testBit x=true→L x=true)→
   ∀(j:Nat) (b:Nat) (o:Oper),(waits acc l)[j]?=some b→ops[j]?=some o→EdgesIn L o→∀x,b.testBit x=true→L x=true
 |[],acc,_,h=>h
 |p::l,acc,hl,h=>by
  simp only [waits]
  refine waits_ok hcl l _ (fun j=>?_) fun j b o hb ho he x hx=>?_
  ·have:=hl (j+1)
   simp only [List.getElem?_cons_succ] at this
   rw [this]
   simp
   congr 1
   omega
  ·rcases Nat.lt_or_ge j acc.length with hj|hj
   ·rw [List.getElem?_append_left hj] at hb
    exact h j b o hb ho he x hx
   ·rw [List.getElem?_append_right hj] at hb
    have hj0:j=acc.length:=by
     have:=(List.getElem?_eq_some_iff.1 hb).1
     simp at this
     omega
    subst hj0
    have hp:ops[acc.length]?=some p:=by have:=hl 0;simpa using this.symm
    have:o=p:=by rw [hp] at ho;exact (Option.some.inj ho).symm
    subst this
    simp at hb
    subst hb
    obtain ⟨e,he1,hbd,hx⟩:=waitsOf_bit _ hx
    have hon:=he e he1 hbd
    rcases hx with rfl|hx
    ·exact hon
    ·cases hg:acc[e.on]? with
     |none=>simp [hg] at hx
     |some b'=>
      simp [hg] at hx
      have hlt:e.on < acc.length:=(List.getElem?_eq_some_iff.1 hg).1
      cases ho':ops[e.on]? with
      |none=>
       have h1:acc.length < ops.length:=(List.getElem?_eq_some_iff.1 hp).1
       simp at ho'
       omega
      |some o'=>exact h e.on b' o' hg ho' (hcl e.on o' ho' hon) x hx
def Free (ws:List Nat) (i j:Nat):Prop:=i < j∧∃m,ws[j]?=some m∧m.testBit i=false
theorem freeOf_mem {bs:List Nat} {i j:Nat} (hij:i < j) (hj:j < bs.length) (h:∀b:Nat,bs[j]?=some b→¬b.testBit i=true):Free bs i j:=by
 have hb:bs[j]?=some bs[j]:=List.getElem?_eq_getElem hj
 have:=h _ hb
 exact ⟨hij,_,hb,by simpa using this⟩
theorem okRow_mem {m:Nat} {b:Trace}:∀{l:List Trace} {q:Nat},okRow m b q l=true→∀{i:Nat} {a:Trace},l[i]?=some a→m.testBit (q+i)=false→clash a b=false
 |[],_,_,i,a,ha,_=>by simp at ha
 |x::l,q,h,i,a,ha,hm=>by
  simp only [okRow,Bool.and_eq_true,Bool.or_eq_true] at h
  cases i with
  |zero=>
   simp only [List.getElem?_cons_zero,Option.some.injEq] at ha
   subst ha
   rcases h.1 with h1|h1
   ·rw [Nat.add_zero] at hm;rw [hm] at h1;cases h1
   ·simpa using h1
  |succ i=>
   simp only [List.getElem?_cons_succ] at ha
   exact okRow_mem h.2 ha (by rw [show q+1+i=q+(i+1) by omega];exact hm)
theorem drawFrom_mem:∀{ts:List Trace} {ws:List Nat} {pre:List Trace},drawFrom pre ts ws=true→∀{i j m:Nat} {a b:Trace},ts[j]?=some b→ws[j]?=some m→(pre++ts)[i]?=some a→i < pre.length+j→m.testBit i=false→clash a b=false
 |[],_,_,_,_,j,_,_,_,hb,_,_,_,_=>by simp at hb
 |x::ts,[],_,h,_,_,_,_,_,_,_,_,_,_=>by simp [drawFrom] at h
 |x::ts,w::ws,pre,h,i,j,m,a,b,hb,hw,ha,hi,hm=>by
  simp only [drawFrom,Bool.and_eq_true] at h
  cases j with
  |zero=>
   simp only [List.getElem?_cons_zero,Option.some.injEq] at hb hw
   subst hb hw
   rw [List.getElem?_append_left (by omega)] at ha
   exact okRow_mem h.1 ha (by rw [Nat.zero_add];exact hm)
  |succ j=>
   simp only [List.getElem?_cons_succ] at hb hw
   exact drawFrom_mem h.2 hb hw (by simpa using ha) (by simp;omega) hm
theorem drawOk_mem {ts:List Trace} {ws:List Nat} (h:drawOk ts ws=true) {i j:Nat} (hm:Free ws i j) {a b:Trace} (ha:ts[i]?=some a) (hb:ts[j]?=some b):clash a b=false:=by
 obtain ⟨hij,m,hw,hmi⟩:=hm
 exact drawFrom_mem h hb hw (by simpa using ha) (by simpa using hij) hmi
theorem meets_false {a b:List Nat} (h:meets a b=false) {x:Nat} (hx:x∈a):x ∉ b:=by
 unfold meets at h
 intro hb
 have:=List.any_eq_false.1 h x hx
 simp [hb] at this
theorem clash_false {a b:Trace} (h:clash a b=false):(∀t,t∈a.wrT→t ∉ b.rdT∧t ∉ b.wrT)∧(∀t,t∈b.wrT→t ∉ a.rdT)∧(∀t,t∈a.wrH→t ∉ b.rdH∧t ∉ b.wrH)∧(∀t,t∈b.wrH→t ∉ a.rdH):=by
 unfold clash at h
 simp only [Bool.or_eq_false_iff] at h
 obtain ⟨⟨⟨h1,h2⟩,h3⟩,h4⟩:=h
 refine ⟨fun t ht=>?_,fun t ht=>meets_false h2 ht,fun t ht=>?_,fun t ht=>meets_false h4 ht⟩
 ·have:=meets_false h1 ht;simp at this;exact this
 ·have:=meets_false h3 ht;simp at this;exact this
section
variable {B:Nat} {S:Nat→Nat→Prop} {P:Program} {o:Oper} {a:Act} {m:M} {shF:Nat→Nat} {nt:Nat} {w0:World} {call:Callee} {lent:Lent}
theorem heap_ext_evolves {m:M} {h:Heap} (hh:∀id,getH h id=getH m.h id):Evolves B S m (m.heap h) where
 cell b q u h1 h2:=⟨h1,h2.1,fun id=>by show match getH h id with|.dead=>True|.box _=>m.β id≠b|.map _=>m.β id≠b|.arr _ _ fz _=>m.β id=b→q < fz;rw [hh];exact h2.2 id⟩
 used _ hu:=hu
 dead id _ hd:=by show getH h id=.dead;rw [hh];exact hd
 at_ _ _:=rfl
 kind id cs' esz' fz' ety' _ hk:=⟨cs',fz',by rw [←hh];exact hk,rfl⟩
 rest b _ _ hn:=⟨rfl,fun id hd=>hn id (by rw [←hh];exact hd)⟩
theorem heap_ext_hok {m:M} (hk:HOK B S m) {h:Heap} (hh:∀id,getH h id=getH m.h id):HOK B S (m.heap h):=by
 have hev:=heap_ext_evolves (B:=B) (S:=S) hh
 refine ⟨fun id=>?_,fun i j hi hj he=>?_,fun id hu=>?_,hk.base,hk.fresh,fun id cs esz fz ety hg=>hk.arrS id cs esz fz ety (by rw [←hh];exact hg)⟩
 ·unfold RepO
  show RepOb B S _ (m.β id) (getH h id)
  rw [hh]
  exact hev.repOb rfl (hk.obj id)
 ·exact hk.inj i j (by rw [←hh];exact hi) (by rw [←hh];exact hj) he
 ·show getH h id=.dead
  rw [hh];exact hk.dom id hu
theorem Rel.ext {e e':Env} (hr:Rel B S w0 nt m e a) (h:∀t,getE e' t=getE e t):Rel B S w0 nt m e' a:=
 ⟨hr.defers,hr.size,fun t=>by rw [h];exact hr.env t,hr.hok,hr.below,hr.inv⟩
theorem compInsts_get {ops:Array Oper}:∀{l:List Oper} {is:List Inst},compInsts P shF nt ops l=some is→l.length=is.length∧∀(i:Nat) (o:Oper),l[i]?=some o→∃inst:Inst,is[i]?=some inst∧compInst P shF nt ops o=some inst
 |[],is,h=>by simp only [compInsts,Option.some.injEq] at h;subst h;exact ⟨rfl,by simp⟩
 |p::l,is,h=>by
  simp only [compInsts,Option.bind_eq_bind,Option.bind_eq_some_iff,Option.some.injEq] at h
  obtain ⟨i,h1,is',h2,rfl⟩:=h
  obtain ⟨h3,h4⟩:=compInsts_get h2
  refine ⟨by simp [h3],fun k o hk=>?_⟩
  cases k with
  |zero=>simp at hk;subst hk;exact ⟨i,by simp,h1⟩
  |succ k=>simp at hk;obtain ⟨inst,h5,h6⟩:=h4 k o hk;exact ⟨inst,by simpa using h5,h6⟩
theorem noShared_get:∀{is:List Inst},noShared is=true→∀(i:Nat) (inst:Inst),is[i]?=some inst→(∀f ow xs,inst.ins≠.callS f ow xs)∧∀x xs,inst.ins≠.callV x xs
 |[],_,i,inst,hi=>by simp at hi
 |p::is,h,i,inst,hi=>by
  simp only [noShared,Bool.and_eq_true] at h
  cases i with
  |zero=>simp at hi;subst hi;exact ⟨fun f ow xs he=>by rw [he] at h;simp at h,fun f xs he=>by rw [he] at h;simp at h⟩
  |succ i=>simp at hi;exact noShared_get h.2 i inst hi
theorem downB_get:∀{l:List Oper} {k:Nat},downB k l=true→∀(i:Nat) (o:Oper),l[i]?=some o→∀e∈o.after.toList,Region.binds .any e=true→e.on < k+i
 |[],_,_,i,o,hi=>by simp at hi
 |p::l,k,h,i,o,hi=>by
  simp only [downB,Bool.and_eq_true] at h
  cases i with
  |zero=>
   simp at hi;subst hi
   intro e he hb
   have:=List.all_eq_true.1 h.1 e he
   simp [hb] at this
   omega
  |succ i=>
   simp at hi
   intro e he hb
   have:=downB_get h.2 i o hi e he hb
   omega
theorem mem_ready' {ops:Array Oper} {listed:Array Bool} {i:Nat} (h:i∈Region.ready .any ops listed):i < ops.size∧listed.getD i true=false∧∃o,ops[i]?=some o∧∀e∈o.after.toList,Region.binds .any e=true→listed.getD e.on false=true:=by
 unfold Region.ready at h
 simp only [List.mem_filter,List.mem_range,Bool.and_eq_true,Bool.not_eq_true'] at h
 obtain ⟨h1,h2,h3⟩:=h
 refine ⟨h1,h2,?_⟩
 cases ho:ops[i]? with
 |none=>simp [ho] at h3
 |some o=>
  simp only [ho,Option.map_some,Option.getD_some,Array.all_eq_true_iff_forall_mem] at h3
  refine ⟨o,rfl,fun e he hb=>?_⟩
  have:=h3 e (by simpa using he)
  simpa [hb] using this
theorem ready_of {ops:Array Oper} {listed:Array Bool} {i:Nat} {o:Oper} (ho:ops[i]?=some o) (h2:listed.getD i true=false) (h3:∀e∈o.after.toList,Region.binds .any e=true→listed.getD e.on false=true):i∈Region.ready .any ops listed:=by
 unfold Region.ready
 simp only [List.mem_filter,List.mem_range,Bool.and_eq_true,Bool.not_eq_true']
 refine ⟨(Array.getElem?_eq_some_iff.1 ho).1,h2,?_⟩
 simp only [ho,Option.map_some,Option.getD_some,Array.all_eq_true_iff_forall_mem]
 intro e he
 cases hb:Region.binds .any e with
 |false=>simp
 |true=>simpa [hb] using h3 e (by simpa using he) hb
structure DInv (B:Nat) (S:Nat→Nat→Prop) (w0:World) (nt:Nat) (ops:Array Oper) (fs:List Eff) (nx:Nat) (e:Env) (h:Heap) (m0:M) (listed:Array Bool) (a:Act) (m:M):Prop where
 size:listed.size=ops.size
 closed:∀(j:Nat) (o:Oper),ops[j]?=some o→listed.getD j false=true→EdgesIn (fun j=>listed.getD j false) o
 heap:∀id,getH m.h id=getH (runH (fun j=>listed.getD j false) 0 fs h) id
 used:∀i,m.U i↔i < nx∨∃k,listed.getD k false=true∧i=nx+k
 rel:Rel B S w0 nt m (runE (fun j=>listed.getD j false) 0 fs e) a
 ev:Evolves B S m0 m
theorem getD_set_eq {listed:Array Bool} {i:Nat} (hi:i < listed.size):(listed.setIfInBounds i true).getD i false=true:=by simp [hi]
theorem getD_set_ne' {listed:Array Bool} {i j:Nat} (h:j≠i):(listed.setIfInBounds i true).getD j false=listed.getD j false:=by simp [Array.getElem?_setIfInBounds_ne (Ne.symm h)]
theorem getD_tf {listed:Array Bool} {i:Nat} (h:listed.getD i true=false):listed.getD i false=false:=by
 rcases Nat.lt_or_ge i listed.size with h'|h'
 ·simp [h'] at h ⊢;exact h
 ·simp [Array.getElem?_eq_none h'] at h
theorem getD_ft {listed:Array Bool} {i:Nat} (hi:i < listed.size) (h:listed.getD i false=false):listed.getD i true=false:=by
 simp [hi] at h ⊢;exact h
theorem any_ok {ops:Array Oper} {is:List Inst} {fs:List Eff} {nx:Nat} {e:Env} {h:Heap} {m0:M} {Q:Exit→Act→World→Prop} (hcall:∀f vs rs,call f vs=some rs→FnOK P f vs rs) (hl:∀f as bs rs bs',lent f as bs=some (rs,bs')→LentOK P f as bs rs bs')
  (hc:compInsts P shF nt ops ops.toList=some is) (hns:noShared is=true) (hdown:downB 0 ops.toList=true) (hran:Ran call lent nx 0 is e h fs) (hok:drawOk (fs.map (·.tr)) (waits [] ops.toList)=true)
  (hK:∀(a':Act) (m':M),(∀id,getH m'.h id=getH (runH (fun _=>true) 0 fs h) id)→UIs m' (nx+ops.size)→Evolves B S m0 m'→Rel B S w0 nt m' (runE (fun _=>true) 0 fs e) a'→Q .normal a' m'.w):
  ∀(n:Nat) (listed:Array Bool) (a:Act) (m:M),DInv B S w0 nt ops fs nx e h m0 listed a m→(∃l:List Nat,l.length=n∧l.Nodup∧∀i,i∈l↔i < ops.size∧listed.getD i false=false)→wpAny P .any ops Q n listed a m.w:=by
 obtain ⟨hlen,hget⟩:=compInsts_get hc
 have hlen':ops.size=is.length:=by rw [←hlen];simp
 have hfl:∀{k:Nat} {is:List Inst} {e:Env} {h:Heap} {fs:List Eff},Ran call lent nx k is e h fs→fs.length=is.length:=by
  intro k is
  induction is generalizing k with
  |nil=>intro e h fs hr;cases fs with|nil=>rfl|cons _ _=>exact hr.elim
  |cons i is ih=>intro e h fs hr;cases fs with|nil=>exact hr.elim|cons f fs=>simp [ih hr.2]
 have hfs:fs.length=ops.size:=by rw [hfl hran,hlen']
 have finish:∀(listed:Array Bool) (a:Act) (m:M),DInv B S w0 nt ops fs nx e h m0 listed a m→(∀i,i < ops.size→listed.getD i false=true)→Q .normal a m.w:=by
  intro listed a m inv hall
  have hE:∀t,getE (runE (fun _=>true) 0 fs e) t=getE (runE (fun j=>listed.getD j false) 0 fs e) t:=fun t=>runE_agree rfl fun j f hf hne=>by
   exfalso
   have hj:j < ops.size:=by rw [←hfs];exact (List.getElem?_eq_some_iff.1 hf).1
   simp only [Nat.zero_add] at hne
   rw [hall j hj] at hne
   exact hne rfl
  have hH:∀id,getH m.h id=getH (runH (fun _=>true) 0 fs h) id:=fun id=>by
   rw [inv.heap]
   exact runH_agree rfl fun j f hf hne=>by
    exfalso
    have hj:j < ops.size:=by rw [←hfs];exact (List.getElem?_eq_some_iff.1 hf).1
    simp only [Nat.zero_add] at hne
    rw [hall j hj] at hne
    exact hne rfl
  refine hK a m hH (fun i=>?_) inv.ev (inv.rel.ext hE)
  rw [inv.used]
  constructor
  ·rintro (h1|⟨k,h1,rfl⟩)
   ·omega
   ·have:k < listed.size:=by
     rcases Nat.lt_or_ge k listed.size with h2|h2
     ·exact h2
     ·simp [Array.getElem?_eq_none h2] at h1
    rw [inv.size] at this
    omega
  ·intro h1
   by_cases h2:i < nx
   ·exact .inl h2
   ·exact .inr ⟨i - nx,hall _ (by omega),by omega⟩
 intro n
 induction n with
 |zero=>
  rintro listed a m inv ⟨l,hl1,_,hl2⟩
  have hl0:l=[]:=List.eq_nil_of_length_eq_zero hl1
  subst hl0
  have hall:∀i,i < ops.size→listed.getD i false=true:=fun i hi=>by
   cases hb:listed.getD i false with
   |true=>rfl
   |false=>have:=(hl2 i).2 ⟨hi,hb⟩;cases this
  refine ⟨?_,finish listed a m inv hall⟩
  cases hr:Region.ready .any ops listed with
  |nil=>rfl
  |cons i r=>
   have hi:i∈Region.ready .any ops listed:=by rw [hr];simp
   obtain ⟨h1,h2,_⟩:=mem_ready' hi
   have:=hall i h1
   rw [getD_tf h2] at this
   cases this
 |succ n ih=>
  rintro listed a m inv ⟨l,hl1,hl2,hl3⟩
  refine ⟨fun hnone=>finish listed a m inv fun i hi=>?_,fun i hi=>?_⟩
  ·
   cases hb:listed.getD i false with
   |true=>rfl
   |false=>
    exfalso
    have key:∀k,∀i,i≤k→i < ops.size→listed.getD i false=false→∃j,j∈Region.ready .any ops listed:=by
     intro k
     induction k with
     |zero=>
      intro i hik his hib
      have hi0:i=0:=by omega
      subst hi0
      have ho:ops[0]?=some ops[0]:=Array.getElem?_eq_getElem his
      refine ⟨0,ready_of ho (getD_ft (by rw [inv.size];exact his) hib) fun e he hbd=>?_⟩
      have:=downB_get hdown 0 ops[0] (by simp) e he hbd
      omega
     |succ k ihk=>
      intro i hik his hib
      have ho:ops[i]?=some ops[i]:=Array.getElem?_eq_getElem his
      by_cases hed:∀e∈ops[i].after.toList,Region.binds .any e=true→listed.getD e.on false=true
      ·exact ⟨i,ready_of ho (getD_ft (by rw [inv.size];exact his) hib) hed⟩
      ·have:∃e,e∈ops[i].after.toList∧Region.binds .any e=true∧listed.getD e.on false=false:=by
        apply Classical.byContradiction
        intro hno
        apply hed
        intro e he hbd
        cases hq:listed.getD e.on false with
        |true=>rfl
        |false=>exact absurd ⟨e,he,hbd,hq⟩ hno
       obtain ⟨e,he,hbd,hq⟩:=this
       have hlt:=downB_get hdown i ops[i] (by simp) e he hbd
       exact ihk e.on (by omega) (by omega) hq
    obtain ⟨j,hj⟩:=key i i (Nat.le_refl _) hi hb
    rw [hnone] at hj
    cases hj
  ·obtain ⟨hi1,hi2,o,ho,hedge⟩:=mem_ready' hi
   have hif:=getD_tf hi2
   have ho':ops.toList[i]?=some o:=by simpa using ho
   obtain ⟨inst,hinst,hcomp⟩:=hget i o ho'
   obtain ⟨f,hf,hdid⟩:=Ran.at hran hinst
   simp only [Nat.zero_add] at hdid
   obtain ⟨hdst,hdid⟩:=hdid
   have hbs:∀(j:Nat) (b:Nat) (o:Oper),(waits [] ops.toList)[j]?=some b→ops.toList[j]?=some o→EdgesIn (fun j=>listed.getD j false) o→∀x,b.testBit x=true→listed.getD x false=true:=
    waits_ok (L:=fun j=>listed.getD j false) (fun j o hj hl=>inv.closed j o (by simpa using hj) hl) ops.toList [] (by simp) (by simp)
   have hwl:(waits [] ops.toList).length=ops.size:=by rw [waits_len];simp
   have free1:∀j,j < i→listed.getD j false=false→Free (waits [] ops.toList) j i:=fun j hji hj=>
    freeOf_mem hji (by rw [hwl];exact hi1) fun b hb hm=>by
     have:=hbs i b o hb ho' hedge j hm
     rw [hj] at this;cases this
   have free2:∀j,i < j→listed.getD j false=true→Free (waits [] ops.toList) i j:=fun j hij hj=>by
    have hjs:j < ops.size:=by
     rcases Nat.lt_or_ge j listed.size with h2|h2
     ·rw [←inv.size];exact h2
     ·simp [Array.getElem?_eq_none h2] at hj
    refine freeOf_mem hij (by rw [hwl];exact hjs) fun b hb hm=>?_
    have hoj:ops[j]?=some ops[j]:=Array.getElem?_eq_getElem hjs
    have:=hbs j b ops[j] hb (by simp) (inv.closed j _ hoj hj) i hm
    rw [hif] at this;cases this
   have htr:∀(j:Nat) (g:Eff),fs[j]?=some g→(fs.map (·.tr))[j]?=some g.tr:=fun j g hg=>by simp [hg]
   have hdsts:∀(j:Nat) (g:Eff),fs[j]?=some g→g.tr.wrT=g.dst.toList∧g.tr.wrH=g.us.map (·.1):=fun j g hg=>by
    have hjl:j < is.length:=by rw [←hlen',←hfs];exact (List.getElem?_eq_some_iff.1 hg).1
    obtain ⟨g',hg',hd'⟩:=Ran.at hran (List.getElem?_eq_getElem hjl)
    rw [hg] at hg'
    simp only [Option.some.injEq] at hg'
    subst hg'
    obtain ⟨hd1,hd2⟩:=hd'
    rcases hd2 with ⟨_,_,h3⟩|⟨_,_,h2,h3⟩
    ·rw [h3,hd1];exact ⟨rfl,rfl⟩
    ·rw [h3,hd1,h2];exact ⟨rfl,rfl⟩
   have far:∀(j:Nat) (g:Eff),fs[j]?=some g→listed.getD j false≠decide (j < i)→(∀t,t∈g.tr.wrT→t ∉ f.tr.rdT)∧(∀t,t∈g.tr.wrH→t ∉ f.tr.rdH):=fun j g hg hne=>by
    rcases Nat.lt_trichotomy j i with hlt|heq|hgt
    ·have hj:listed.getD j false=false:=by
      cases hb:listed.getD j false with
      |false=>rfl
      |true=>rw [hb] at hne;simp [hlt] at hne
     have hcl:=clash_false (drawOk_mem hok (free1 j hlt hj) (htr j g hg) (htr i f hf))
     exact ⟨fun t ht=>(hcl.1 t ht).1,fun t ht=>(hcl.2.2.1 t ht).1⟩
    ·subst heq;rw [hif] at hne;simp at hne
    ·have hj:listed.getD j false=true:=by
      cases hb:listed.getD j false with
      |true=>rfl
      |false=>rw [hb] at hne;simp at hne;omega
     have hcl:=clash_false (drawOk_mem hok (free2 j hgt hj) (htr i f hf) (htr j g hg))
     exact ⟨hcl.2.1,hcl.2.2.2⟩
   have agE:∀t,t∈f.tr.rdT→getE (runE (fun j=>listed.getD j false) 0 fs e) t=getE (runE (fun j=>decide (j < i)) 0 fs e) t:=fun t ht=>
    runE_agree rfl fun j g hg hne hd=>by
     simp only [Nat.zero_add] at hne
     have:=(far j g hg hne).1 t (by rw [(hdsts j g hg).1,hd];simp)
     exact this ht
   have agH:∀id,id∈f.tr.rdH→getH m.h id=getH (runH (fun j=>decide (j < i)) 0 fs h) id:=fun id hid=>by
    rw [inv.heap]
    exact runH_agree rfl fun j g hg hne hd=>by
     simp only [Nat.zero_add] at hne
     have:=(far j g hg hne).2 id (by rw [(hdsts j g hg).2];exact hd)
     exact this hid
   have hsetn:∀j,j≠i→(listed.setIfInBounds i true).getD j false=listed.getD j false:=fun j hj=>getD_set_ne' hj
   have hsets:(listed.setIfInBounds i true).getD i false=true:=getD_set_eq (by rw [inv.size];exact hi1)
   have nextE:∀t,getE (runE (fun j=>(listed.setIfInBounds i true).getD j false) 0 fs e) t=getE (putE (runE (fun j=>listed.getD j false) 0 fs e) f.dst f.d) t:=fun t=>by
    rw [getE_putE]
    exact runE_add (L:=fun j=>listed.getD j false) (L':=fun j=>(listed.setIfInBounds i true).getD j false) hf (by simpa using hif) (by simpa using hsets) (fun j hj=>by simpa using hsetn j hj) fun j g hij hg hl hd hgd=>by
     simp only [Nat.zero_add] at hl
     have hcl:=clash_false (drawOk_mem hok (free2 j hij hl) (htr i f hf) (htr j g hg))
     exact (hcl.1 t (by rw [(hdsts i f hf).1,hd];simp)).2 (by rw [(hdsts j g hg).1,hgd];simp)
   have nextH:∀(hp:Heap),(∀id,getH hp id=getH (runH (fun j=>listed.getD j false) 0 fs h) id)→∀id,getH (updH hp f.us) id=getH (runH (fun j=>(listed.setIfInBounds i true).getD j false) 0 fs h) id:=fun hp hhp id=>by
    rw [runH_add (L:=fun j=>listed.getD j false) (L':=fun j=>(listed.setIfInBounds i true).getD j false) hf (by simpa using hif) (by simpa using hsets) (fun j hj=>by simpa using hsetn j hj) fun j g hij hg hl hd hgd=>by
     simp only [Nat.zero_add] at hl
     have hcl:=clash_false (drawOk_mem hok (free2 j hij hl) (htr i f hf) (htr j g hg))
     exact (hcl.2.2.1 id (by rw [(hdsts i f hf).2];exact hd)).2 (by rw [(hdsts j g hg).2];exact hgd)]
    exact updH_ext (hhp id)
   have hclosed':∀(j:Nat) (o:Oper),ops[j]?=some o→(listed.setIfInBounds i true).getD j false=true→EdgesIn (fun j=>(listed.setIfInBounds i true).getD j false) o:=by
    intro j oj hoj hl e he hbd
    have hmono:∀k,listed.getD k false=true→(listed.setIfInBounds i true).getD k false=true:=fun k hk=>by
     by_cases hki:k=i
     ·subst hki;exact hsets
     ·rw [hsetn k hki];exact hk
    by_cases hji:j=i
    ·subst hji
     rw [ho] at hoj
     simp only [Option.some.injEq] at hoj
     subst hoj
     exact hmono _ (hedge e he hbd)
    ·rw [hsetn j hji] at hl
     exact hmono _ (inv.closed j oj hoj hl e he hbd)
   have hcount:∃l':List Nat,l'.length=n∧l'.Nodup∧∀j,j∈l'↔j < ops.size∧(listed.setIfInBounds i true).getD j false=false:=by
    have hil:i∈l:=(hl3 i).2 ⟨hi1,hif⟩
    refine ⟨l.erase i,by rw [List.length_erase_of_mem hil,hl1];omega,hl2.erase i,fun j=>?_⟩
    rw [hl2.mem_erase_iff,hl3]
    constructor
    ·rintro ⟨h1,h2,h3⟩;exact ⟨h2,by rw [hsetn j h1];exact h3⟩
    ·rintro ⟨h1,h2⟩
     have hji:j≠i:=fun e=>by subst e;rw [hsets] at h2;cases h2
     exact ⟨hji,h1,by rw [←hsetn j hji];exact h2⟩
   unfold wpOp
   rw [ho]
   simp only
   have hguard:wanted (runE (fun j=>listed.getD j false) 0 fs e) inst.guard=wanted (runE (fun j=>decide (j < i)) 0 fs e) inst.guard:=by
    cases hg:inst.guard with
    |none=>rfl
    |some p=>
     obtain ⟨t,want⟩:=p
     have ht:t∈f.tr.rdT:=by
      rcases hdid with ⟨_,_,h3⟩|⟨_,_,_,h3⟩<;>rw [h3,hg]<;>simp [gtOf]
     simp only [wanted,agE t ht]
   have hslot:¬m.U (nx+i):=by
    rw [inv.used]
    rintro (h1|⟨k,h1,h2⟩)
    ·omega
    ·have:k=i:=by omega
     subst this
     rw [hif] at h1;cases h1
   have hused':∀(m':M),m'.U=(fun j=>m.U j∨j=nx+i)→∀j,m'.U j↔j < nx∨∃k,(listed.setIfInBounds i true).getD k false=true∧j=nx+k:=by
    intro m' hm' j
    rw [hm']
    show m.U j∨j=nx+i↔_
    rw [inv.used]
    constructor
    ·rintro ((h1|⟨k,h1,h2⟩)|h1)
     ·exact .inl h1
     ·refine .inr ⟨k,?_,h2⟩
      by_cases hki:k=i
      ·subst hki;exact hsets
      ·rw [hsetn k hki];exact h1
     ·exact .inr ⟨i,hsets,h1⟩
    ·rintro (h1|⟨k,h1,h2⟩)
     ·exact .inl (.inl h1)
     ·by_cases hki:k=i
      ·subst hki;exact .inr h2
      ·rw [hsetn k hki] at h1;exact .inl (.inr ⟨k,h1,h2⟩)
   rcases hdid with ⟨hw,hst,htrf⟩|⟨hw,hfd,hfu,htrf⟩
   ·rw [wanted_ok inv.rel hcomp (b:=true) (by rw [hguard];exact hw)]
    simp only [if_true]
    refine .inl ?_
    have hst':stepD call lent (evX (runE (fun j=>listed.getD j false) 0 fs e)) m.h (nx+i) inst.ins=some (f.d,f.us):=by
     rw [←hst]
     symm
     refine stepD_congr (fun x hx=>?_) (fun id hid=>?_)
     ·cases x with
      |k v=>rfl
      |f n=>rfl
      |t n=>
       have:n∈f.tr.rdT:=by
        rw [htrf]
        refine List.mem_append_right _ ?_
        unfold tmpsX
        exact List.mem_filterMap.2 ⟨_,hx,rfl⟩
       exact (agE n this).symm
     ·exact (agH id (by rw [htrf];exact hid)).symm
    refine instD_wp hcomp (noShared_get hns i inst hinst).1 (noShared_get hns i inst hinst).2 inv.rel hslot hcall hl hst' fun a' m' q1 q2 q3 q4=>?_
    refine ih _ a' m' ⟨by simpa using inv.size,hclosed',?_,hused' m' q2,?_,inv.ev.trans q3⟩ hcount
    ·intro id
     rw [q1]
     exact nextH m.h inv.heap id
    ·rw [←hdst] at q4
     exact q4.ext nextE
   ·rw [wanted_ok inv.rel hcomp (b:=false) (by rw [hguard];exact hw)]
    simp only [if_false,Bool.false_eq_true]
    obtain ⟨_,p2,p3,_⟩:=compInst_parts hcomp
    have hr2:Rel B S w0 nt m (putE (runE (fun j=>listed.getD j false) 0 fs e) f.dst f.d) (a.put o.dst undef):=by
     rw [hfd,hdst,p2];exact inv.rel.put p3 ⟨[],rfl,trivial⟩
    have hg:=grow_evolves (B:=B) (S:=S) m (nx+i)
    refine ih _ _ (m.grow (nx+i)) ⟨by simpa using inv.size,hclosed',?_,hused' _ rfl,?_,inv.ev.trans hg⟩ hcount
    ·intro id
     have:=nextH m.h inv.heap id
     rw [hfu] at this
     exact this
    ·have hr3:Rel B S w0 nt (m.grow (nx+i)) (putE (runE (fun j=>listed.getD j false) 0 fs e) f.dst f.d) (a.put o.dst undef):=hr2.evolve hg (grow_hok hr2.hok _) (Below.refl _ _)
     exact hr3.ext nextE
theorem draw_ok {id:Nat} {ops:Array Oper} {is:List Inst} {Q:Exit→Act→World→Prop} (hm:P.follows .mixedOrders=true) (hcall:∀f vs rs,call f vs=some rs→FnOK P f vs rs) (hl:∀f as bs rs bs',lent f as bs=some (rs,bs')→LentOK P f as bs rs bs')
  (hc:compInsts P shF nt ops ops.toList=some is) (hns:noShared is=true) (hdown:downB 0 ops.toList=true) {s:St} {m:M} {a:Act} (hh:m.h=s.heap) (hU:UIs m s.nx) (hr:Rel B S w0 nt m s.env a)
  {e':Env} {h':Heap} {ts:List Trace} (hev:evDraw call lent s.nx 0 is s.env s.heap=some (e',h',ts)) (hok:drawOk ts (waits [] ops.toList)=true)
  (hK:∀(a':Act) (m':M),m'.h=h'→UIs m' (s.nx+is.length)→Evolves B S m m'→Rel B S w0 nt m' e' a'→Q .normal a' m'.w):(Code.region id ops true).wp P Q a m.w:=by
 obtain ⟨fs,r1,r2,rfl,rfl⟩:=ran_of hev
 subst r2
 refine wp_region_any hm ?_
 have hlen:ops.size=is.length:=by rw [←(compInsts_get hc).1];simp
 have hb:∀k,k < m.w.heap.size→m.w.drew.heap[k]?=m.w.heap[k]?:=fun _ _=>rfl
 have ev0:=world_evolves hr.hok (w':=m.w.drew) hb
 have hk0:=world_hok hr.hok (w':=m.w.drew) hb (Nat.le_refl _)
 have hr0:Rel B S w0 nt (m.world m.w.drew) s.env a:=hr.evolve ev0 hk0 ((Below.refl B m.w).drew)
 have hnone:∀j,(Array.replicate ops.size false).getD j false=false:=by
  intro j
  rcases Nat.lt_or_ge j ops.size with h|h
  ·simp [h]
  ·simp [h]
 refine any_ok (w0:=w0) (m0:=m) hcall hl hc hns hdown r1 hok (fun a' m' q1 q2 q3 q4=>?_) ops.size (Array.replicate ops.size false) a (m.world m.w.drew) ⟨by simp,fun j o _ hl=>?_,fun i=>?_,fun i=>?_,?_,ev0⟩ ⟨List.range ops.size,by simp,List.nodup_range,fun i=>?_⟩
 ·have e1:=heap_ext_evolves (B:=B) (S:=S) (m:=m') (h:=runH (fun _=>true) 0 fs s.heap) fun i=>(q1 i).symm
  have e2:=heap_ext_hok q4.hok (h:=runH (fun _=>true) 0 fs s.heap) fun i=>(q1 i).symm
  exact hK a' (m'.heap (runH (fun _=>true) 0 fs s.heap)) rfl (by rw [←hlen];exact q2) (q3.trans e1) (q4.evolve e1 e2 (Below.refl _ _))
 ·rw [hnone] at hl;cases hl
 ·rw [runH_none (fun j _=>hnone j)]
  show getH m.h i=_
  rw [hh]
 ·show m.U i↔_
  rw [hU]
  constructor
  ·exact .inl
  ·rintro (h1|⟨k,h1,_⟩)
   ·exact h1
   ·rw [hnone] at h1;cases h1
 ·rw [runE_none (fun j _=>hnone j)];exact hr0
 ·rw [hnone];simp
end
end Go.Ey
