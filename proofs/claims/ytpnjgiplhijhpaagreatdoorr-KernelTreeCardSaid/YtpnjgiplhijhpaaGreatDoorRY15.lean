/- A part. -/
import Derived.Test.YtpnjgiplhijhpaaGreatDoorRY13
import Derived.Orders
set_option linter.all false
namespace Go.Ey
open Go.RowKit
variable [bz]
structure Eff where
 dst:Option Nat
 d:D
 us:List (Nat×Obj)
 tr:Trace
 nx:Option Nat
def DJ (g:Option (Nat×Bool)):List Nat:=match g with|some (t,_)=>[t]|none=>[]
def Zw (call:Callee) (ai:fo) (aF:bn) (s:Nat) (i:aW) (e:Env) (h:Heap) (f:Eff):Prop:=
 f.dst=i.dst/\f.tr.Bo=i.dst.toList/\(∀x,x∈f.us.map (·.1)->x∈f.tr.zO)/\∀e2,(∀t,t∈f.tr.E5->bS e2 t=bS e t)->
  ((wanted e2 i.guard=some false/\f.d=fF/\f.us=[]/\f.nx=none)\/
   (wanted e2 i.guard=some true/\f.nx=none/\((∀g o xs,i.ins≠.cu g o xs)/\∀x xs,i.ins≠.dQ x xs)/\∀h2 s2,(∀id,id∈f.tr.Dp->af h2 id=af h id)->(s2=s\/idle i.ins=true)->dP call ai (iI e2) h2 s2 i.ins=some (f.d,f.us))\/
   (wanted e2 i.guard=some true/\∃g xs n h',f.nx=some n/\i.ins=.cu g 2 xs/\iA aF 2 g (xs.map (iI e2)) h s=some (f.d,h',n)/\(∀id,af h' id=af (ah h f.us) id)/\∀id,id ∉ f.tr.Dp->s<=id/\af h id=.dead))
def NN (call:Callee) (ai:fo) (aF:bn):Nat->Nat->List aW->Env->Heap->List Eff->Prop
 |_,_,[],_,_,[]=>True
 |k,b,i::is,e,h,f::fs=>Zw call ai aF (b+k) i e h f/\∃h',(∀id,af h' id=af (ah h f.us) id)/\NN call ai aF (k+1) (f.nx.getD b) is (dO e f.dst f.d) h' fs
 |_,_,_,_,_,_=>False
def gG (L:Nat->Bool):Nat->List Eff->Env->Env
 |_,[],e=>e
 |k,f::fs,e=>gG L (k+1) fs (if L k then dO e f.dst f.d else e)
def jJ (L:Nat->Bool):Nat->List Eff->Heap->Heap
 |_,[],h=>h
 |k,f::fs,h=>jJ L (k+1) fs (if L k then ah h f.us else h)
def fU (L:Nat->Bool):Nat->List Eff->Nat->Nat
 |_,[],b=>b
 |k,f::fs,b=>fU L (k+1) fs (if L k then f.nx.getD b else b)
theorem qH {L:Nat->Bool}:∀{fs:List Eff} {k b:Nat},(∀(j:Nat) (f:Eff),fs[j]?=some f->f.nx≠none->L (k+j)=false)->fU L k fs b=b
 |[],_,_,_=>rfl
 |f::fs,k,b,h=>by
  have h0:(if L k then f.nx.getD b else b)=b:=by
   cases hf:f.nx with
   |none=>simp
   |some n=>rw [show L k=false from h 0 f (by simp) (by rw [hf];simp)];rfl
  simp only [fU,h0];exact qH fun j g hg hn=>by rw [show k+1+j=k+(j+1) by omega];exact h (j+1) g (by simpa using hg) hn
theorem oH {L L':Nat->Bool}:∀{fs:List Eff} {k b:Nat},(∀(j:Nat) (f:Eff),fs[j]?=some f->f.nx≠none->L (k+j)=L' (k+j))->fU L k fs b=fU L' k fs b
 |[],_,_,_=>rfl
 |f::fs,k,b,h=>by
  have h0:(if L k then f.nx.getD b else b)=if L' k then f.nx.getD b else b:=by
   cases hf:f.nx with
   |none=>simp
   |some n=>rw [show L k=L' k from h 0 f (by simp) (by rw [hf];simp)]
  simp only [fU,h0];exact oH fun j g hg hn=>by rw [show k+1+j=k+(j+1) by omega];exact h (j+1) g (by simpa using hg) hn
theorem Co {L:Nat->Bool} {n:Nat}:∀{fs:List Eff} {k b i:Nat} {f:Eff},fs[i]?=some f->f.nx=some n->L (k+i)=true->(∀(j:Nat) (g:Eff),i < j->fs[j]?=some g->g.nx≠none->L (k+j)=false)->fU L k fs b=n
 |[],_,_,_,_,hi,_,_,_=>by simp at hi
 |f0::fs,k,b,0,f,hi,hn,h1,h2=>by simp only [List.getElem?_cons_zero,Option.some.injEq] at hi;subst hi;simp only [Nat.add_zero] at h1;simp only [fU,h1,if_true,hn,Option.getD_some];exact qH fun j g hg hg2=>by rw [show k+1+j=k+(j+1) by omega];exact h2 (j+1) g (by omega) (by simpa using hg) hg2
 |f0::fs,k,b,i+1,f,hi,hn,h1,h2=>by simp only [List.getElem?_cons_succ] at hi;simp only [fU];exact Co hi hn (by rw [show k+1+i=k+(i+1) by omega];exact h1) fun j g hj hg hg2=>by rw [show k+1+j=k+(j+1) by omega];exact h2 (j+1) g (by omega) (by simpa using hg) hg2
theorem wZ {L:Nat->Bool}:∀{fs:List Eff} {k:Nat} {e:Env},(∀j,k<=j->L j=false)->gG L k fs e=e
 |[],_,_,_=>rfl
 |f::fs,k,e,h=>by simp only [gG,h k (Nat.le_refl _),if_false,Bool.false_eq_true];exact wZ fun j hj=>h j (by omega)
theorem xH {L:Nat->Bool}:∀{fs:List Eff} {k:Nat} {h:Heap},(∀j,k<=j->L j=false)->jJ L k fs h=h
 |[],_,_,_=>rfl
 |f::fs,k,e,h=>by simp only [jJ,h k (Nat.le_refl _),if_false,Bool.false_eq_true];exact xH fun j hj=>h j (by omega)
theorem oq {L L':Nat->Bool} {t:Nat}:∀{fs:List Eff} {k:Nat} {e e':Env},bS e t=bS e' t->(∀(j:Nat) (f:Eff),fs[j]?=some f->L (k+j)≠L' (k+j)->f.dst≠some t)->bS (gG L k fs e) t=bS (gG L' k fs e') t
 |[],_,_,_,he,_=>he
 |f::fs,k,e,e',he,h=>by
  simp only [gG];refine oq ?_ fun j g hg hne=>h (j+1) g (by simpa using hg) (by rw [show k+(j+1)=k+1+j by omega];exact hne)
  have h0:=h 0 f (by simp)
  simp only [Nat.add_zero] at h0;cases h1:L k<;>cases h2:L' k<;>simp only [if_true,if_false,Bool.false_eq_true,kR]
  ·exact he
  ·rw [if_neg (h0 (by rw [h1,h2];simp))];exact he
  ·rw [if_neg (h0 (by rw [h1,h2];simp))];exact he
  ·rw [he]
theorem iY {us:List (Nat×Obj)}:∀{h:Heap} {id:Nat},id ∉ us.map (·.1)->af (ah h us) id=af h id:=by
 induction us with
 |nil=>intros;rfl
 |cons u us ih=>
  intro h id hn;simp only [List.map_cons,List.mem_cons,not_or] at hn;simp only [ah];rw [ih hn.2];obtain ⟨i,o⟩:=u;have hne:¬i=id:=fun e=>hn.1 e.symm
  simp only [af,if_neg hne]
theorem Lr {us:List (Nat×Obj)}:∀{h h':Heap} {id:Nat},id∈us.map (·.1)->af (ah h us) id=af (ah h' us) id:=by
 induction us with
 |nil=>intro h h' id hi;simp at hi
 |cons u us ih=>
  intro h h' id hi;simp only [ah];by_cases hm:id∈us.map (·.1)
  ·exact ih hm
  ·simp only [List.map_cons,List.mem_cons] at hi;rcases hi with rfl|hi
   ·rw [iY hm,iY hm];obtain ⟨i,o⟩:=u;simp [af]
   ·exact absurd hi hm
theorem AP {us:List (Nat×Obj)} {h h':Heap} {id:Nat} (he:af h id=af h' id):af (ah h us) id=af (ah h' us) id:=by
 by_cases hm:id∈us.map (·.1)
 ·exact Lr hm
 ·rw [iY hm,iY hm,he]
theorem jw {L L':Nat->Bool} {id:Nat}:∀{fs:List Eff} {k:Nat} {h h':Heap},af h id=af h' id->(∀(j:Nat) (f:Eff),fs[j]?=some f->L (k+j)≠L' (k+j)->id ∉ f.us.map (·.1))->af (jJ L k fs h) id=af (jJ L' k fs h') id
 |[],_,_,_,he,_=>he
 |f::fs,k,e,e',he,h=>by
  simp only [jJ];refine jw ?_ fun j g hg hne=>h (j+1) g (by simpa using hg) (by rw [show k+(j+1)=k+1+j by omega];exact hne)
  have h0:=h 0 f (by simp)
  simp only [Nat.add_zero] at h0;cases h1:L k<;>cases h2:L' k<;>simp only [if_true,if_false,Bool.false_eq_true]
  ·exact he
  ·rw [iY (h0 (by rw [h1,h2];simp))];exact he
  ·rw [iY (h0 (by rw [h1,h2];simp))];exact he
  ·exact AP he
theorem NN.at {call:Callee} {ai:fo} {aF:bn}:∀{is:List aW} {k b:Nat} {e:Env} {h:Heap} {fs:List Eff},NN call ai aF k b is e h fs->∀{i:Nat} {inst:aW},is[i]?=some inst->
  ∃f,fs[i]?=some f/\∃hq,(∀id,af hq id=af (jJ (fun j=>decide (j < k+i)) k fs h) id)/\Zw call ai aF (fU (fun j=>decide (j < k+i)) k fs b+(k+i)) inst (gG (fun j=>decide (j < k+i)) k fs e) hq f
 |[],_,_,_,_,[],_,i,inst,hi=>by simp at hi
 |i0::is,k,b,e,h,f::fs,hr,i,inst,hi=>by
  obtain ⟨h1,h',h3,h2⟩:=hr;cases i with
  |zero=>
   simp only [List.getElem?_cons_zero,Option.some.injEq] at hi;subst hi;refine ⟨f,by simp,h,fun id=>?_,?_⟩
   ·rw [xH (fun j hj=>by simp;omega)]
   ·rw [Nat.add_zero,wZ (fun j hj=>by simp;omega),qH (fun j _ _ _=>by simp)]
    exact h1
  |succ i=>
   simp only [List.getElem?_cons_succ] at hi;obtain ⟨g,g1,hq,g2,g3⟩:=NN.at h2 hi;have hk:decide (k < k+(i+1))=true:=by simp
   refine ⟨g,by simpa using g1,hq,fun id=>?_,?_⟩
   ·rw [g2];simp only [jJ,hk,if_true];rw [show k+(i+1)=k+1+i by omega]
    exact jw (h3 id) fun _ _ _ hne=>absurd rfl hne
   ·simp only [gG,fU,hk,if_true];rw [show k+(i+1)=k+1+i by omega]
    exact g3
 |[],_,_,_,_,_::_,hr,_,_,_=>hr.elim
 |_::_,_,_,_,_,[],hr,_,_,_=>hr.elim
theorem Rv {v u:Value} (h:C8 (.lit v) (.lit u)=true):v=u:=by
 unfold C8 at h;split at h
 ·rename_i h1 h2;cases h1;cases h2;simp at h;rw [h.1,h.2]
 ·rename_i h1 h2;cases h1;cases h2;simp at h;rw [h]
 ·rename_i a b h1 h2;cases h1;cases h2;obtain ⟨a⟩:=a;obtain ⟨b⟩:=b;have h1:a=b:=Array.toList_inj.1 (of_decide_eq_true h);rw [h1]
 ·rename_i h1 h2;cases h1;cases h2;rfl
 ·rename_i h1 _;cases h1
 ·cases h
mutual
theorem GM:∀{a b:C},C8 a b=true->a=b
 |.lit v,.lit u,h=>by rw [Rv h]
 |.slice ax n,.slice bs m,h=>by simp only [C8,Bool.and_eq_true,decide_eq_true_eq] at h;rw [h.1,xk h.2]
 |.lit v,.slice _ _,h=>by cases v<;>exact Bool.noConfusion h
 |.slice _ _,.lit v,h=>by cases v<;>exact Bool.noConfusion h
theorem xk:∀{a b:List C},tH a b=true->a=b
 |[],[],_=>rfl
 |a::ax,b::bs,h=>by simp only [tH,Bool.and_eq_true] at h;rw [GM h.1,xk h.2]
 |[],_::_,h=>by simp [tH] at h
 |_::_,[],h=>by simp [tH] at h
end
theorem Cf:∀{a b:List D},wR a b=true->a=b
 |[],[],_=>rfl
 |a::ax,b::bs,h=>by
  simp only [wR,Bool.and_eq_true] at h;have h1:a=b:=by
   have h2:=h.1;unfold Vz at h2;split at h2
   ·rw [GM h2]
   ·simp at h2;rw [h2.1,h2.2]
   ·simp at h2;rw [h2.1,h2.2.1,h2.2.2]
   ·simp at h2;rw [h2.1,xk h2.2]
   ·cases h2
  rw [h1,Cf h.2]
 |[],_::_,h=>by simp [wR] at h
 |_::_,[],h=>by simp [wR] at h
theorem Qb {a b:Obj} (h:vL a b=true):a=b:=by
 unfold vL at h;split at h
 ·rw [Cf h]
 ·cases h
theorem vo {g:Nat->Obj}:∀(l:List Nat) (h:Heap) (id:Nat),af (ah h (l.map fun i=>(i,g i))) id=if id∈l then g id else af h id
 |[],h,id=>by simp [ah]
 |i::l,h,id=>by
  simp only [List.map_cons,ah];rw [vo l];by_cases h1:id∈l
  ·simp [h1]
  ·by_cases h2:i=id
   ·subst h2;simp [h1,af]
   ·simp [h1,af,h2,Ne.symm h2]
theorem vW:∀{h:Heap} {id:Nat},id ∉ h.map (·.1)->af h id=.dead
 |[],_,_=>rfl
 |(i,o)::h,id,hn=>by simp only [List.map_cons,List.mem_cons,not_or] at hn;simp only [af,if_neg (Ne.symm hn.1)];exact vW hn.2
theorem Bf {acc:List Nat} {h h':Heap} (id:Nat):af h' id=af (ah h ((changed acc h h').map fun i=>(i,af h' i))) id:=by
 rw [vo];split
 ·rfl
 ·rename_i hn;unfold changed at hn;simp only [List.mem_filter,not_and,Bool.not_eq_true',List.map_append,List.mem_append] at hn;by_cases h1:id∈h'.map (·.1)\/id∈h.map (·.1)
  ·have:=hn h1
   simp at this;exact (Qb this.2).symm
  ·rw [vW fun hx=>h1 (.inl hx),vW fun hx=>h1 (.inr hx)]
theorem oQ {e e2:Env} {g:Option (Nat×Bool)} (h:∀t,t∈DJ g->bS e2 t=bS e t):wanted e2 g=wanted e g:=by
 cases g with
 |none=>rfl
 |some p=>obtain ⟨t,w⟩:=p;simp only [wanted,h t (by simp [DJ])]
theorem Cs {e e2:Env} {xs:List X} (h:∀t,t∈gQ xs->bS e2 t=bS e t):∀x,x∈xs->iI e x=iI e2 x:=fun x hx=>by
 cases x with
 |k v=>rfl
 |f n=>rfl
 |t n=>exact (h n (List.mem_filterMap.2 ⟨_,hx,rfl⟩)).symm
theorem Nj {call:Callee} {ai:fo} {ρ:X->D} {h:Heap} {s s':Nat} {i:Ins} (hi:idle i=true):dP call ai ρ h s i=dP call ai ρ h s' i:=by cases i<;>first|rfl|cases hi
theorem Em {call:Callee} {ai:fo} {ρ ρ':X->D} {slot:Nat} {ins:Ins} {h h':Heap} (hx:∀x,x∈eY ins->ρ x=ρ' x) (hh:Agree (lJ ρ h ins) h h'):dP call ai ρ h slot ins=dP call ai ρ' h' slot ins:=by
 by_cases hc:∃n a v id off ds,ins=.store n a v/\ρ a=.loc id off/\af h id=.box ds
 ·obtain ⟨n,a,v,id,off,ds,rfl,ha,hb⟩:=hc;have h1:af h id=af h' id:=hh id (by simp [lJ,ha,hb])
  have ha':ρ' a=.loc id off:=by rw [<-hx a (by simp [eY]),ha]
  simp only [dP,gm,lN,Bool.false_eq_true,if_false,bD,step,iF,<-hx v (by simp [eY]),ha,ha',hb,<-h1]
 ·refine xR hx (hh.mono fun id hi=>?_)
  unfold lJ;split
  ·rename_i n a v;split
   ·rename_i id' off ha;split
    ·rename_i ds hb;exact absurd ⟨n,a,v,id',off,ds,rfl,ha,hb⟩ hc
    ·exact hi
   ·exact hi
  ·exact hi
section
variable {call:Callee} {ai:fo} {aF:bn}
theorem Gd {s:Nat} {i:aW} {e:Env} {h:Heap} {d:D} {us:List (Nat×Obj)} {rd:List Nat} (hw:wanted e i.guard=some true) (hn:(∀g o xs,i.ins≠.cu g o xs)/\∀x xs,i.ins≠.dQ x xs) (hst:dP call ai (iI e) h s i.ins=some (d,us))
  (hcg:∀ρ' h',(∀x,x∈eY i.ins->iI e x=ρ' x)->Agree rd h h'->dP call ai (iI e) h s i.ins=dP call ai ρ' h' s i.ins):
  Zw call ai aF s i e h ⟨i.dst,d,us,⟨DJ i.guard++gQ (eY i.ins),i.dst.toList,rd,us.map (·.1)⟩,none⟩:=by
 refine ⟨rfl,rfl,fun _ hx=>hx,fun e2 he=> .inr (.inl ⟨?_,rfl,hn,fun h2 s2 hh hs=>?_⟩)⟩
 ·rw [oQ fun t ht=>he t (List.mem_append_left _ ht)];exact hw
 ·have h1:dP call ai (iI e2) h2 s i.ins=some (d,us):=by
   rw [<-hst];exact (hcg _ _ (Cs fun t ht=>he t (List.mem_append_right _ ht)) fun id hi=>(hh id hi).symm).symm
  rcases hs with rfl|hi
  ·exact h1
  ·rw [Nj hi];exact h1
theorem Gi {s:Nat} {i:aW} {e:Env} {h:Heap} (hw:wanted e i.guard=some false):Zw call ai aF s i e h ⟨i.dst,fF,[],⟨DJ i.guard,i.dst.toList,[],[]⟩,none⟩:=
 ⟨rfl,rfl,fun _ hx=>hx,fun e2 he=> .inl ⟨by rw [oQ he];exact hw,rfl,rfl,rfl⟩⟩
theorem RO:∀{is:List aW} {k b:Nat} {acc:List Nat} {e:Env} {h:Heap} {e':Env} {h':Heap} {n':Nat} {ts:List Trace},jq call ai aF k b acc is e h=some (e',h',n',ts)->
  ∃fs,NN call ai aF k b is e h fs/\ts=fs.map (·.tr)/\e'=gG (fun _=>true) k fs e/\(∀id,af h' id=af (jJ (fun _=>true) k fs h) id)/\n'=fU (fun _=>true) k fs b+(k+is.length)
 |[],k,b,acc,e,h,e',h',n',ts,hd=>by simp only [jq,Option.some.injEq,Prod.mk.injEq] at hd;obtain ⟨rfl,rfl,rfl,rfl⟩:=hd;exact ⟨[],trivial,rfl,rfl,fun _=>rfl,rfl⟩
 |i::is,k,b,acc,e,h,e',h',n',ts,hd=>by
  simp only [jq,Option.bind_eq_bind,Option.bind_eq_some_iff] at hd;obtain ⟨w,hw,hd⟩:=hd;have fin:∀(f:Eff) (h1:Heap) (acc':List Nat) (b':Nat) (ts':List Trace),Zw call ai aF (b+k) i e h f->(∀id,af h1 id=af (ah h f.us) id)->b'=f.nx.getD b->jq call ai aF (k+1) b' acc' is (dO e f.dst f.d) h1=some (e',h',n',ts')->
    ∃fs,NN call ai aF k b (i::is) e h fs/\f.tr::ts'=fs.map (·.tr)/\e'=gG (fun _=>true) k fs e/\(∀id,af h' id=af (jJ (fun _=>true) k fs h) id)/\n'=fU (fun _=>true) k fs b+(k+(i::is).length):=by
   intro f h1 acc' b' ts' S9 hh hb hev;obtain ⟨fs,r1,r2,r3,r4,r5⟩:=RO hev;subst hb;refine ⟨f::fs,⟨S9,h1,hh,r1⟩,by rw [r2];rfl,by simpa [gG] using r3,fun id=>?_,?_⟩
   ·rw [r4];simp only [jJ,if_true];exact jw (hh id) fun _ _ _ hne=>absurd rfl hne
   ·rw [r5];simp only [fU,if_true,List.length_cons];omega
  cases w with
  |false=>
   simp only [if_false,Bool.false_eq_true,Option.bind_eq_some_iff,Prod.exists,Option.some.injEq,Prod.mk.injEq] at hd;obtain ⟨e1,h1,n1,U9,h2,rfl,rfl,rfl,rfl⟩:=hd;exact fin ⟨i.dst,fF,[],⟨DJ i.guard,i.dst.toList,[],[]⟩,none⟩ h acc b U9 (Gi hw) (fun _=>rfl) rfl h2
  |true=>
   simp only [if_true] at hd;split at hd
   ·rename_i f o xs hins;simp only [Option.bind_eq_some_iff,Prod.exists,Option.some.injEq,Prod.mk.injEq] at hd;obtain ⟨d,h1,n,h2,e1,h3,n1,U9,h4,rfl,rfl,rfl,rfl⟩:=hd;split at h2
    ·rename_i ho;subst ho;refine fin ⟨i.dst,d,(changed acc h h1).map fun j=>(j,af h1 j),⟨DJ i.guard++gQ xs,i.dst.toList,List.range (b+k)++h.map (·.1),changed acc h h1⟩,some n⟩ h1 acc n U9 ⟨rfl,rfl,fun x hx=>?_,fun e2 he=> .inr (.inr ⟨?_,f,xs,n,h1,rfl,hins,?_,Bf,fun id hid=>?_⟩)⟩ Bf rfl h4
     ·simpa using hx
     ·rw [oQ fun t ht=>he t (List.mem_append_left _ ht)];exact hw
     ·rw [<-h2];congr 1;exact (List.map_congr_left (Cs fun t ht=>he t (List.mem_append_right _ ht))).symm
     ·simp only [List.mem_append,List.mem_range,not_or,Nat.not_lt] at hid;exact ⟨hid.1,vW hid.2⟩
    ·cases h2
   ·cases hd
   ·rename_i hn1 hn2;simp only [Option.bind_eq_some_iff,Prod.exists,Option.some.injEq,Prod.mk.injEq] at hd;obtain ⟨d,us,h1,e1,h3,n1,U9,h4,rfl,rfl,rfl,rfl⟩:=hd;exact fin ⟨i.dst,d,us,⟨DJ i.guard++gQ (eY i.ins),i.dst.toList,lJ (iI e) h i.ins,us.map (·.1)⟩,none⟩ (ah h us) _ b U9
     (Gd hw ⟨fun g o xs hx=>hn1 g o xs hx,fun x xs hx=>hn2 x xs hx⟩ h1 fun _ _ hx hh=>Em hx hh) (fun _=>rfl) rfl h4
theorem Ji {nx:Nat}:∀{is:List aW} {k:Nat} {e:Env} {h:Heap} {e':Env} {h':Heap} {ts:List Trace},jc is=true->bZ call ai nx k is e h=some (e',h',ts)->
  ∃fs,NN call ai aF k nx is e h fs/\ts=fs.map (·.tr)/\e'=gG (fun _=>true) k fs e/\h'=jJ (fun _=>true) k fs h/\fU (fun _=>true) k fs nx=nx
 |[],k,e,h,e',h',ts,_,hd=>by simp only [bZ,Option.some.injEq,Prod.mk.injEq] at hd;obtain ⟨rfl,rfl,rfl⟩:=hd;exact ⟨[],trivial,rfl,rfl,rfl,rfl⟩
 |i::is,k,e,h,e',h',ts,hns,hd=>by
  simp only [jc,Bool.and_eq_true] at hns;simp only [bZ,Option.bind_eq_bind,Option.bind_eq_some_iff] at hd;obtain ⟨b,hw,hd⟩:=hd;cases b with
  |true=>
   simp only [if_true,Option.bind_eq_some_iff,Prod.exists,Option.some.injEq,Prod.mk.injEq] at hd;obtain ⟨d,us,h1,e1,h1',ts',h2,rfl,rfl,rfl⟩:=hd;obtain ⟨fs,r1,r2,r3,r4,r5⟩:=Ji hns.2 h2;exact ⟨⟨i.dst,d,us,⟨DJ i.guard++gQ (eY i.ins),i.dst.toList,touches (iI e) i.ins,us.map (·.1)⟩,none⟩::fs,
    ⟨Gd hw ⟨fun f ow xs he=>by rw [he] at hns;simp at hns,fun f xs he=>by rw [he] at hns;simp at hns⟩ h1 fun _ _ hx hh=>xR hx hh,_,fun _=>rfl,r1⟩,by rw [r2];rfl,by simpa [gG] using r3,by simpa [jJ] using r4,by simpa [fU] using r5⟩
  |false=>
   simp only [if_false,Bool.false_eq_true,Option.bind_eq_some_iff,Prod.exists,Option.some.injEq,Prod.mk.injEq] at hd;obtain ⟨e1,h1',ts',h2,rfl,rfl,rfl⟩:=hd;obtain ⟨fs,r1,r2,r3,r4,r5⟩:=Ji hns.2 h2;exact ⟨⟨i.dst,fF,[],⟨DJ i.guard,i.dst.toList,[],[]⟩,none⟩::fs,⟨Gi hw,h,fun _=>rfl,r1⟩,by rw [r2];rfl,by simpa [gG] using r3,by simpa [jJ,ah] using r4,by simpa [fU] using r5⟩
end
theorem Ht {L L':Nat->Bool} {t:Nat}:∀{fs:List Eff} {k i:Nat} {e:Env} {f:Eff},fs[i]?=some f->L (k+i)=false->L' (k+i)=true->(∀j,j≠i->L' (k+j)=L (k+j))->
  (∀(j:Nat) (g:Eff),i < j->fs[j]?=some g->L (k+j)=true->f.dst=some t->g.dst≠some t)->bS (gG L' k fs e) t=if f.dst=some t then f.d else bS (gG L k fs e) t
 |[],_,_,_,_,hi,_,_,_,_=>by simp at hi
 |f0::fs,k,0,e,f,hi,h1,h2,h3,h4=>by
  simp only [List.getElem?_cons_zero,Option.some.injEq] at hi;subst hi;simp only [Nat.add_zero] at h1 h2;simp only [gG,h1,h2,if_true,if_false,Bool.false_eq_true];have hsame:∀j,L' (k+1+j)=L (k+1+j):=fun j=>by
   have:=h3 (j+1) (by omega)
   rw [show k+1+j=k+(j+1) by omega]
   exact this
  by_cases hd:f0.dst=some t
  ·rw [if_pos hd];have:∀{fs:List Eff} {k:Nat} {e:Env},(∀(j:Nat) (g:Eff),fs[j]?=some g->L' (k+j)=true->g.dst≠some t)->bS (gG L' k fs e) t=bS e t:=by
    intro fs;induction fs with
    |nil=>intros;rfl
    |cons g fs ih=>
     intro k e h;simp only [gG];rw [ih fun j g' hg hl=>h (j+1) g' (by simpa using hg) (by rw [show k+(j+1)=k+1+j by omega];exact hl)]
     cases hl:L' k
     ·simp
     ·simp only [if_true,kR];rw [if_neg (h 0 g (by simp) (by simpa using hl))]
   rw [this fun j g hg hl=>h4 (j+1) g (by omega) (by simpa using hg) (by rw [show k+(j+1)=k+1+j by omega,<-hsame];exact hl) hd]
   simp [kR,hd]
  ·rw [if_neg hd];refine oq (by simp [kR,hd]) fun j g _ hne=>absurd (hsame j) hne
 |f0::fs,k,i+1,e,f,hi,h1,h2,h3,h4=>by
  simp only [List.getElem?_cons_succ] at hi;have h0:L' k=L k:=by simpa using h3 0 (by omega)
  simp only [gG,h0];exact Ht hi (by rw [show k+1+i=k+(i+1) by omega];exact h1) (by rw [show k+1+i=k+(i+1) by omega];exact h2)
   (fun j hj=>by rw [show k+1+j=k+(j+1) by omega];exact h3 (j+1) (by omega))
   (fun j g hj hg hl hd=>h4 (j+1) g (by omega) (by simpa using hg) (by rw [show k+(j+1)=k+1+j by omega];exact hl) hd)
theorem H9 {L L':Nat->Bool} {id:Nat}:∀{fs:List Eff} {k i:Nat} {h:Heap} {f:Eff},fs[i]?=some f->L (k+i)=false->L' (k+i)=true->(∀j,j≠i->L' (k+j)=L (k+j))->
  (∀(j:Nat) (g:Eff),i < j->fs[j]?=some g->L (k+j)=true->id∈f.us.map (·.1)->id ∉ g.us.map (·.1))->af (jJ L' k fs h) id=af (ah (jJ L k fs h) f.us) id
 |[],_,_,_,_,hi,_,_,_,_=>by simp at hi
 |f0::fs,k,0,e,f,hi,h1,h2,h3,h4=>by
  simp only [List.getElem?_cons_zero,Option.some.injEq] at hi;subst hi;simp only [Nat.add_zero] at h1 h2;simp only [jJ,h1,h2,if_true,if_false,Bool.false_eq_true];have hsame:∀j,L' (k+1+j)=L (k+1+j):=fun j=>by
   have:=h3 (j+1) (by omega)
   rw [show k+1+j=k+(j+1) by omega]
   exact this
  by_cases hd:id∈f0.us.map (·.1)
  ·have:∀{fs:List Eff} {k:Nat} {e:Heap},(∀(j:Nat) (g:Eff),fs[j]?=some g->L' (k+j)=true->id ∉ g.us.map (·.1))->af (jJ L' k fs e) id=af e id:=by
    intro fs;induction fs with
    |nil=>intros;rfl
    |cons g fs ih=>
     intro k e h;simp only [jJ];rw [ih fun j g' hg hl=>h (j+1) g' (by simpa using hg) (by rw [show k+(j+1)=k+1+j by omega];exact hl)]
     cases hl:L' k
     ·simp
     ·simp only [if_true];rw [iY (h 0 g (by simp) (by simpa using hl))]
   rw [this fun j g hg hl=>h4 (j+1) g (by omega) (by simpa using hg) (by rw [show k+(j+1)=k+1+j by omega,<-hsame];exact hl) hd]
   exact Lr hd
  ·rw [iY hd];refine jw (iY hd) fun j g _ hne=>absurd (hsame j) hne
 |f0::fs,k,i+1,e,f,hi,h1,h2,h3,h4=>by
  simp only [List.getElem?_cons_succ] at hi;have h0:L' k=L k:=by simpa using h3 0 (by omega)
  simp only [jJ,h0];exact H9 hi (by rw [show k+1+i=k+(i+1) by omega];exact h1) (by rw [show k+1+i=k+(i+1) by omega];exact h2)
   (fun j hj=>by rw [show k+1+j=k+(j+1) by omega];exact h3 (j+1) (by omega))
   (fun j g hj hg hl hd=>h4 (j+1) g (by omega) (by simpa using hg) (by rw [show k+(j+1)=k+1+j by omega];exact hl) hd)
def kg (L:Nat->Bool) (o:Oper):Prop:=∀e∈o.after.toList,Region.binds .any e=true->L e.on=true
theorem CS:∀(l:List Oper) (acc:List Nat),(waits acc l).length=acc.length+l.length
 |[],_=>rfl
 |o::l,acc=>by simp only [waits];rw [CS l];simp;omega
theorem pK {acc:List Nat} {x:Nat}:∀(es:List Edge),(kr acc es).testBit x=true->∃e∈es,Region.binds .any e=true/\(x=e.on\/(acc.getD e.on 0).testBit x=true)
 |[],h=>by simp [kr] at h
 |e::es,h=>by
  simp only [kr] at h;split at h
  ·rename_i hb;simp only [Nat.testBit_or,Bool.or_eq_true] at h;rcases h with (h|h)|h
   ·rw [Nat.one_shiftLeft,Nat.testBit_two_pow] at h;exact ⟨e,by simp,hb,.inl (Eq.symm (by simpa using h))⟩
   ·exact ⟨e,by simp,hb,.inr h⟩
   ·obtain ⟨e',h1,h2⟩:=pK es h;exact ⟨e',by simp [h1],h2⟩
  ·obtain ⟨e',h1,h2⟩:=pK es h;exact ⟨e',by simp [h1],h2⟩
theorem GR {L:Nat->Bool} {ops:List Oper} (hcl:∀(j:Nat) (o:Oper),ops[j]?=some o->L j=true->kg L o):
  ∀(l:List Oper) (acc:List Nat),(∀j:Nat,l[j]?=ops[acc.length+j]?)->(∀(j:Nat) (b:Nat) (o:Oper),acc[j]?=some b->ops[j]?=some o->kg L o->∀x,b.testBit x=true->L x=true)->
   ∀(j:Nat) (b:Nat) (o:Oper),(waits acc l)[j]?=some b->ops[j]?=some o->kg L o->∀x,b.testBit x=true->L x=true
 |[],acc,_,h=>h
 |p::l,acc,hl,h=>by
  simp only [waits];refine GR hcl l _ (fun j=>?_) fun j b o hb ho he x hx=>?_
  ·have:=hl (j+1)
   simp only [List.getElem?_cons_succ] at this;rw [this];simp;congr 1;omega
  ·rcases Nat.lt_or_ge j acc.length with hj|hj
   ·rw [List.getElem?_append_left hj] at hb;exact h j b o hb ho he x hx
   ·rw [List.getElem?_append_right hj] at hb;have hj0:j=acc.length:=by
     have:=(List.getElem?_eq_some_iff.1 hb).1
     simp at this;omega
    subst hj0;have hp:ops[acc.length]?=some p:=by have:=hl 0;simpa using this.symm
    have:o=p:=by rw [hp] at ho;exact (Option.some.inj ho).symm
    subst this;simp at hb;subst hb;obtain ⟨e,he1,hbd,hx⟩:=pK _ hx;have hon:=he e he1 hbd;rcases hx with rfl|hx
    ·exact hon
    ·cases hg:acc[e.on]? with
     |none=>simp [hg] at hx
     |some b'=>
      simp [hg] at hx;have hlt:e.on < acc.length:=(List.getElem?_eq_some_iff.1 hg).1;cases ho':ops[e.on]? with
      |none=>
       have h1:acc.length < ops.length:=(List.getElem?_eq_some_iff.1 hp).1;simp at ho';omega
      |some o'=>exact h e.on b' o' hg ho' (hcl e.on o' ho' hon) x hx
def Tj (ws:List Nat) (i j:Nat):Prop:=i < j/\∃m,ws[j]?=some m/\m.testBit i=false
theorem zP {bs:List Nat} {i j:Nat} (hij:i < j) (hj:j < bs.length) (h:∀b:Nat,bs[j]?=some b->¬b.testBit i=true):Tj bs i j:=by
 have hb:bs[j]?=some bs[j]:=List.getElem?_eq_getElem hj;have:=h _ hb
 exact ⟨hij,_,hb,by simpa using this⟩
theorem Da {m:Nat} {b:Trace}:∀{l:List Trace} {q:Nat},vH m b q l=true->∀{i:Nat} {a:Trace},l[i]?=some a->m.testBit (q+i)=false->clash a b=false
 |[],_,_,i,a,ha,_=>by simp at ha
 |x::l,q,h,i,a,ha,hm=>by
  simp only [vH,Bool.and_eq_true,Bool.or_eq_true] at h;cases i with
  |zero=>
   simp only [List.getElem?_cons_zero,Option.some.injEq] at ha;subst ha;rcases h.1 with h1|h1
   ·rw [Nat.add_zero] at hm;rw [hm] at h1;cases h1
   ·simpa using h1
  |succ i=>
   simp only [List.getElem?_cons_succ] at ha;exact Da h.2 ha (by rw [show q+1+i=q+(i+1) by omega];exact hm)
theorem uQ:∀{ts:List Trace} {ws:List Nat} {pre:List Trace},dL pre ts ws=true->∀{i j m:Nat} {a b:Trace},ts[j]?=some b->ws[j]?=some m->(pre++ts)[i]?=some a->i < pre.length+j->m.testBit i=false->clash a b=false
 |[],_,_,_,_,j,_,_,_,hb,_,_,_,_=>by simp at hb
 |x::ts,[],_,h,_,_,_,_,_,_,_,_,_,_=>by simp [dL] at h
 |x::ts,w::ws,pre,h,i,j,m,a,b,hb,hw,ha,hi,hm=>by
  simp only [dL,Bool.and_eq_true] at h;cases j with
  |zero=>
   simp only [List.getElem?_cons_zero,Option.some.injEq] at hb hw;subst hb hw;rw [List.getElem?_append_left (by omega)] at ha
   exact Da h.1 ha (by rw [Nat.zero_add];exact hm)
  |succ j=>
   simp only [List.getElem?_cons_succ] at hb hw;exact uQ h.2 hb hw (by simpa using ha) (by simp;omega) hm
theorem oP {ts:List Trace} {ws:List Nat} (h:iD ts ws=true) {i j:Nat} (hm:Tj ws i j) {a b:Trace} (ha:ts[i]?=some a) (hb:ts[j]?=some b):clash a b=false:=by obtain ⟨hij,m,hw,hmi⟩:=hm;exact uQ h hb hw (by simpa using ha) (by simpa using hij) hmi
theorem mH {a b:List Nat} (h:meets a b=false) {x:Nat} (hx:x∈a):x ∉ b:=by
 unfold meets at h;intro hb;have:=List.any_eq_false.1 h x hx
 simp [hb] at this
theorem mq {a b:Trace} (h:clash a b=false):(∀t,t∈a.Bo->t ∉ b.E5/\t ∉ b.Bo)/\(∀t,t∈b.Bo->t ∉ a.E5)/\(∀t,t∈a.zO->t ∉ b.Dp/\t ∉ b.zO)/\(∀t,t∈b.zO->t ∉ a.Dp):=by
 unfold clash at h;simp only [Bool.or_eq_false_iff] at h;obtain ⟨⟨⟨h1,h2⟩,h3⟩,h4⟩:=h;refine ⟨fun t ht=>?_,fun t ht=>mH h2 ht,fun t ht=>?_,fun t ht=>mH h4 ht⟩
 ·have:=mH h1 ht;simp at this;exact this
 ·have:=mH h3 ht;simp at this;exact this
section
variable {B:Nat} {S:Nat->Nat->Prop} {P:Program} {o:Oper} {a:Act} {m:M} {ji:Nat->Nat} {nt:Nat} {w0:World} {call:Callee} {ai:fo} {aF:bn}
theorem jy {m:M} {h:Heap} (hh:∀id,af h id=af m.h id):ak B S m (m.heap h) where
 cell b q u h1 h2:=⟨h1,h2.1,fun id=>by show match af h id with|.dead=>True|.box _=>m.β id≠b|.map _=>m.β id≠b|.arr _ _ fz _=>m.β id=b->q < fz;rw [hh];exact h2.2 id⟩
 used _ hu:=hu
 dead id _ hd:=by show af h id=.dead;rw [hh];exact hd
 at_ _ _:=rfl
 kind id cs' bU gX dW _ hk:=⟨cs',gX,by rw [<-hh];exact hk,rfl⟩
 rest b _ _ hn:=⟨rfl,fun id hd=>hn id (by rw [<-hh];exact hd)⟩
theorem uK {m:M} (hk:bF B S m) {h:Heap} (hh:∀id,af h id=af m.h id):bF B S (m.heap h):=by
 have hev:=jy (B:=B) (S:=S) hh;refine ⟨fun id=>?_,fun i j hi hj he=>?_,fun id hu=>?_,hk.base,hk.fresh,fun id cs aa fz ety hg=>hk.Bz id cs aa fz ety (by rw [<-hh];exact hg)⟩
 ·unfold tT;show r9 B S _ (m.β id) (af h id)
  rw [hh];exact hev.xZ rfl (hk.obj id)
 ·exact hk.inj i j (by rw [<-hh];exact hi) (by rw [<-hh];exact hj) he
 ·show af h id=.dead
  rw [hh];exact hk.dom id hu
theorem Rel.ext {e e':Env} (hr:Rel B S w0 nt m e a) (h:∀t,bS e' t=bS e t):Rel B S w0 nt m e' a:=
 ⟨hr.defers,hr.size,fun t=>by rw [h];exact hr.env t,hr.hok,hr.below,hr.inv⟩
theorem mV {ops:Array Oper}:∀{l:List Oper} {is:List aW},bX P ji nt ops l=some is->l.length=is.length/\∀(i:Nat) (o:Oper),l[i]?=some o->∃inst:aW,is[i]?=some inst/\lU P ji nt ops o=some inst
 |[],is,h=>by simp only [bX,Option.some.injEq] at h;subst h;exact ⟨rfl,by simp⟩
 |p::l,is,h=>by
  simp only [bX,Option.bind_eq_bind,Option.bind_eq_some_iff,Option.some.injEq] at h;obtain ⟨i,h1,is',h2,rfl⟩:=h;obtain ⟨h3,h4⟩:=mV h2;refine ⟨by simp [h3],fun k o hk=>?_⟩
  cases k with
  |zero=>simp at hk;subst hk;exact ⟨i,by simp,h1⟩
  |succ k=>simp at hk;obtain ⟨inst,h5,h6⟩:=h4 k o hk;exact ⟨inst,by simpa using h5,h6⟩
theorem vX:∀{is:List aW},jc is=true->∀(i:Nat) (inst:aW),is[i]?=some inst->(∀f ow xs,inst.ins≠.cu f ow xs)/\∀x xs,inst.ins≠.dQ x xs
 |[],_,i,inst,hi=>by simp at hi
 |p::is,h,i,inst,hi=>by
  simp only [jc,Bool.and_eq_true] at h;cases i with
  |zero=>simp at hi;subst hi;exact ⟨fun f ow xs he=>by rw [he] at h;simp at h,fun f xs he=>by rw [he] at h;simp at h⟩
  |succ i=>simp at hi;exact vX h.2 i inst hi
theorem wU:∀{l:List Oper} {k:Nat},vQ k l=true->∀(i:Nat) (o:Oper),l[i]?=some o->∀e∈o.after.toList,Region.binds .any e=true->e.on < k+i
 |[],_,_,i,o,hi=>by simp at hi
 |p::l,k,h,i,o,hi=>by
  simp only [vQ,Bool.and_eq_true] at h;cases i with
  |zero=>
   simp at hi;subst hi;intro e he hb;have:=List.all_eq_true.1 h.1 e he
   simp [hb] at this;omega
  |succ i=>
   simp at hi;intro e he hb;have:=wU h.2 i o hi e he hb
   omega
theorem Ar {ops:Array Oper} {listed:Array Bool} {i:Nat} (h:i∈Region.ready .any ops listed):i < ops.size/\listed.getD i true=false/\∃o,ops[i]?=some o/\∀e∈o.after.toList,Region.binds .any e=true->listed.getD e.on false=true:=by
 unfold Region.ready at h;simp only [List.mem_filter,List.mem_range,Bool.and_eq_true,Bool.not_eq_true'] at h;obtain ⟨h1,h2,h3⟩:=h;refine ⟨h1,h2,?_⟩;cases ho:ops[i]? with
 |none=>simp [ho] at h3
 |some o=>
  simp only [ho,Option.map_some,Option.getD_some,Array.all_eq_true_iff_forall_mem] at h3;refine ⟨o,rfl,fun e he hb=>?_⟩
  have:=h3 e (by simpa using he)
  simpa [hb] using this
theorem Gq {ops:Array Oper} {listed:Array Bool} {i:Nat} {o:Oper} (ho:ops[i]?=some o) (h2:listed.getD i true=false) (h3:∀e∈o.after.toList,Region.binds .any e=true->listed.getD e.on false=true):i∈Region.ready .any ops listed:=by
 unfold Region.ready;simp only [List.mem_filter,List.mem_range,Bool.and_eq_true,Bool.not_eq_true'];refine ⟨(Array.getElem?_eq_some_iff.1 ho).1,h2,?_⟩;simp only [ho,Option.map_some,Option.getD_some,Array.all_eq_true_iff_forall_mem];intro e he;cases hb:Region.binds .any e with
 |false=>simp
 |true=>simpa [hb] using h3 e (by simpa using he) hb
theorem K8 {is:List aW} {ws:List Nat} (h:xQ is ws=true) {j:Nat} {i:aW} (hj:is[j]?=some i) {g o:Nat} {xs:List X} (hi:i.ins=.cu g o xs):
  ∀(k:Nat) (i':aW),is[k]?=some i'->(k < j->(ws.getD j 0).testBit k=true\/idle i'.ins=true)/\(j < k->(ws.getD k 0).testBit j=true):=by
 intro k i' hk;have h1:=List.all_eq_true.1 h j (List.mem_range.2 (List.getElem?_eq_some_iff.1 hj).1);simp only [hj,hi,Bool.and_eq_true] at h1;have h2:=List.all_eq_true.1 h1.2 k (List.mem_range.2 (List.getElem?_eq_some_iff.1 hk).1);simp only [hk,Bool.or_eq_true,decide_eq_true_eq] at h2;refine ⟨fun hlt=>?_,fun hlt=>?_⟩
 ·rcases h2 with h2|h2
  ·omega
  ·rw [if_pos hlt] at h2;simpa using h2
 ·rcases h2 with h2|h2
  ·omega
  ·rw [if_neg (by omega)] at h2;exact h2
theorem Rb {is:List aW} {ws:List Nat} (h:jc is=true):xQ is ws=true:=by
 unfold xQ;refine List.all_eq_true.2 fun j _=>?_
 cases hj:is[j]? with
 |none=>rfl
 |some i=>
  obtain ⟨h1,h2⟩:=vX h j i hj;cases hi:i.ins with
  |dQ x xs=>exact absurd hi (h2 x xs)
  |cu f o xs=>exact absurd hi (h1 f o xs)
  |_=>simp only [hi]
structure abw (B:Nat) (S:Nat->Nat->Prop) (w0:World) (nt:Nat) (ops:Array Oper) (fs:List Eff) (nx:Nat) (e:Env) (h:Heap) (m0:M) (listed:Array Bool) (a:Act) (m:M):Prop where
 size:listed.size=ops.size
 closed:∀(j:Nat) (o:Oper),ops[j]?=some o->listed.getD j false=true->kg (fun j=>listed.getD j false) o
 heap:∀id,af m.h id=af (jJ (fun j=>listed.getD j false) 0 fs h) id
 used:∀i,m.U i->i < fU (fun j=>listed.getD j false) 0 fs nx\/∃k,listed.getD k false=true/\i=fU (fun j=>listed.getD j false) 0 fs nx+k
 rel:Rel B S w0 nt m (gG (fun j=>listed.getD j false) 0 fs e) a
 ev:ak B S m0 m
theorem Hy {listed:Array Bool} {i:Nat} (hi:i < listed.size):(listed.setIfInBounds i true).getD i false=true:=by simp [hi]
theorem DD {listed:Array Bool} {i j:Nat} (h:j≠i):(listed.setIfInBounds i true).getD j false=listed.getD j false:=by simp [Array.getElem?_setIfInBounds_ne (Ne.symm h)]
theorem Lm {listed:Array Bool} {i:Nat} (h:listed.getD i true=false):listed.getD i false=false:=by
 rcases Nat.lt_or_ge i listed.size with h'|h'
 ·simp [h'] at h |-;exact h
 ·simp [Array.getElem?_eq_none h'] at h
theorem Kc {listed:Array Bool} {i:Nat} (hi:i < listed.size) (h:listed.getD i false=false):listed.getD i true=false:=by simp [hi] at h |-;exact h
theorem any_ok {ops:Array Oper} {is:List aW} {fs:List Eff} {nx:Nat} {e:Env} {h:Heap} {m0:M} {Q:Exit->Act->World->Prop} (hcall:∀f vs rs,call f vs=some rs->bR P f vs rs) (hl:∀f ax bs rs bs',ai f ax bs=some (rs,bs')->qd P f ax bs rs bs')
  (hld:∀f ds h k rs h' n',aF f ds h k=some (rs,h',n')->xE P f ds h k rs h' n')
  (hc:bX P ji nt ops ops.toList=some is) (hmx:xQ is (waits [] ops.toList)=true) (yf:vQ 0 ops.toList=true) (V8:NN call ai aF 0 nx is e h fs) (hok:iD (fs.map (·.tr)) (waits [] ops.toList)=true)
  (hK:∀(a':Act) (m':M),(∀id,af m'.h id=af (jJ (fun _=>true) 0 fs h) id)->um m' (fU (fun _=>true) 0 fs nx+ops.size)->ak B S m0 m'->Rel B S w0 nt m' (gG (fun _=>true) 0 fs e) a'->Q .normal a' m'.w):
  ∀(n:Nat) (listed:Array Bool) (a:Act) (m:M),abw B S w0 nt ops fs nx e h m0 listed a m->(∃l:List Nat,l.length=n/\l.Nodup/\∀i,i∈l↔i < ops.size/\listed.getD i false=false)->wpAny P .any ops Q n listed a m.w:=by
 obtain ⟨hlen,hget⟩:=mV hc;have hlen':ops.size=is.length:=by rw [<-hlen];simp
 have hfl:∀{is:List aW} {k b:Nat} {e:Env} {h:Heap} {fs:List Eff},NN call ai aF k b is e h fs->fs.length=is.length:=by
  intro is;induction is with
  |nil=>intro k b e h fs hr;cases fs with|nil=>rfl|cons _ _=>exact hr.elim
  |cons i is ih=>intro k b e h fs hr;cases fs with|nil=>exact hr.elim|cons f fs=>obtain ⟨_,_,_,hr⟩:=hr;simp [ih hr]
 have hfs:fs.length=ops.size:=by rw [hfl V8,hlen']
 have finish:∀(listed:Array Bool) (a:Act) (m:M),abw B S w0 nt ops fs nx e h m0 listed a m->(∀i,i < ops.size->listed.getD i false=true)->Q .normal a m.w:=by
  intro listed a m inv hall;have hE:∀t,bS (gG (fun _=>true) 0 fs e) t=bS (gG (fun j=>listed.getD j false) 0 fs e) t:=fun t=>oq rfl fun j f hf hne=>by
   exfalso;have hj:j < ops.size:=by rw [<-hfs];exact (List.getElem?_eq_some_iff.1 hf).1
   simp only [Nat.zero_add] at hne;rw [hall j hj] at hne;exact hne rfl
  have hH:∀id,af m.h id=af (jJ (fun _=>true) 0 fs h) id:=fun id=>by
   rw [inv.heap];exact jw rfl fun j f hf hne=>by
    exfalso;have hj:j < ops.size:=by rw [<-hfs];exact (List.getElem?_eq_some_iff.1 hf).1
    simp only [Nat.zero_add] at hne;rw [hall j hj] at hne;exact hne rfl
  have hB:fU (fun j=>listed.getD j false) 0 fs nx=fU (fun _=>true) 0 fs nx:=oH fun j f hf _=>by simp only [Nat.zero_add];exact hall j (by rw [<-hfs];exact (List.getElem?_eq_some_iff.1 hf).1)
  refine hK a m hH (fun i hi=>?_) inv.ev (inv.rel.ext hE)
  rcases inv.used i hi with h1|⟨k,h1,rfl⟩
  ·rw [hB] at h1;omega
  ·rw [hB];have:k < listed.size:=by
    rcases Nat.lt_or_ge k listed.size with h2|h2
    ·exact h2
    ·simp [Array.getElem?_eq_none h2] at h1
   rw [inv.size] at this;omega
 intro n;induction n with
 |zero=>
  rintro listed a m inv ⟨l,hl1,_,hl2⟩;have hl0:l=[]:=List.eq_nil_of_length_eq_zero hl1;subst hl0;have hall:∀i,i < ops.size->listed.getD i false=true:=fun i hi=>by
   cases hb:listed.getD i false with
   |true=>rfl
   |false=>have:=(hl2 i).2 ⟨hi,hb⟩;cases this
  refine ⟨?_,finish listed a m inv hall⟩;cases hr:Region.ready .any ops listed with
  |nil=>rfl
  |cons i r=>
   have hi:i∈Region.ready .any ops listed:=by rw [hr];simp
   obtain ⟨h1,h2,_⟩:=Ar hi;have:=hall i h1
   rw [Lm h2] at this;cases this
 |succ n ih=>
  rintro listed a m inv ⟨l,hl1,hl2,hl3⟩;refine ⟨fun hnone=>finish listed a m inv fun i hi=>?_,fun i hi=>?_⟩
  ·
   cases hb:listed.getD i false with
   |true=>rfl
   |false=>
    exfalso;have key:∀k,∀i,i<=k->i < ops.size->listed.getD i false=false->∃j,j∈Region.ready .any ops listed:=by
     intro k;induction k with
     |zero=>
      intro i hik his hib;have hi0:i=0:=by omega
      subst hi0;have ho:ops[0]?=some ops[0]:=Array.getElem?_eq_getElem his;refine ⟨0,Gq ho (Kc (by rw [inv.size];exact his) hib) fun e he hbd=>?_⟩
      have:=wU yf 0 ops[0] (by simp) e he hbd
      omega
     |succ k ihk=>
      intro i hik his hib;have ho:ops[i]?=some ops[i]:=Array.getElem?_eq_getElem his;by_cases hed:∀e∈ops[i].after.toList,Region.binds .any e=true->listed.getD e.on false=true
      ·exact ⟨i,Gq ho (Kc (by rw [inv.size];exact his) hib) hed⟩
      ·have:∃e,e∈ops[i].after.toList/\Region.binds .any e=true/\listed.getD e.on false=false:=by
        apply Classical.byContradiction;intro hno;apply hed;intro e he hbd;cases hq:listed.getD e.on false with
        |true=>rfl
        |false=>exact absurd ⟨e,he,hbd,hq⟩ hno
       obtain ⟨e,he,hbd,hq⟩:=this;have hlt:=wU yf i ops[i] (by simp) e he hbd
       exact ihk e.on (by omega) (by omega) hq
    obtain ⟨j,hj⟩:=key i i (Nat.le_refl _) hi hb;rw [hnone] at hj;cases hj
  ·obtain ⟨hi1,hi2,o,ho,Pm⟩:=Ar hi;have hif:=Lm hi2;have ho':ops.toList[i]?=some o:=by simpa using ho
   obtain ⟨inst,hinst,hcomp⟩:=hget i o ho';obtain ⟨f,hf,hq,hqe,S9⟩:=NN.at V8 hinst;simp only [Nat.zero_add] at hqe S9;obtain ⟨hdst,hwT,hwH,hact⟩:=S9;have hbs:∀(j:Nat) (b:Nat) (o:Oper),(waits [] ops.toList)[j]?=some b->ops.toList[j]?=some o->kg (fun j=>listed.getD j false) o->∀x,b.testBit x=true->listed.getD x false=true:=
    GR (L:=fun j=>listed.getD j false) (fun j o hj hl=>inv.closed j o (by simpa using hj) hl) ops.toList [] (by simp) (by simp)
   have hwl:(waits [] ops.toList).length=ops.size:=by rw [CS];simp
   have aaU:∀j,j < i->listed.getD j false=false->Tj (waits [] ops.toList) j i:=fun j hji hj=>
    zP hji (by rw [hwl];exact hi1) fun b hb hm=>by
     have:=hbs i b o hb ho' Pm j hm
     rw [hj] at this;cases this
   have PI:∀j,i < j->listed.getD j false=true->Tj (waits [] ops.toList) i j:=fun j hij hj=>by
    have hjs:j < ops.size:=by
     rcases Nat.lt_or_ge j listed.size with h2|h2
     ·rw [<-inv.size];exact h2
     ·simp [Array.getElem?_eq_none h2] at hj
    refine zP hij (by rw [hwl];exact hjs) fun b hb hm=>?_
    have hoj:ops[j]?=some ops[j]:=Array.getElem?_eq_getElem hjs;have:=hbs j b ops[j] hb (by simp) (inv.closed j _ hoj hj) i hm
    rw [hif] at this;cases this
   have htr:∀(j:Nat) (g:Eff),fs[j]?=some g->(fs.map (·.tr))[j]?=some g.tr:=fun j g hg=>by simp [hg]
   have zK:∀(j:Nat) (g:Eff),fs[j]?=some g->g.tr.Bo=g.dst.toList/\(∀x,x∈g.us.map (·.1)->x∈g.tr.zO)/\(g.nx≠none->∃ij gg xs,is[j]?=some ij/\ij.ins=.cu gg 2 xs):=fun j g hg=>by
    have hjl:j < is.length:=by rw [<-hlen',<-hfs];exact (List.getElem?_eq_some_iff.1 hg).1
    obtain ⟨g',hg',_,_,hd1,hd2,hd3,hd4⟩:=NN.at V8 (List.getElem?_eq_getElem hjl);rw [hg] at hg';simp only [Option.some.injEq] at hg';subst hg';refine ⟨by rw [hd2,hd1],hd3,fun hn=>?_⟩
    rcases hd4 _ (fun _ _=>rfl) with ⟨_,_,_,h4⟩|⟨_,h4,_⟩|⟨_,gg,xs,n,_,_,h5,_⟩
    ·exact absurd h4 hn
    ·exact absurd h4 hn
    ·exact ⟨_,gg,xs,List.getElem?_eq_getElem hjl,h5⟩
   have hwg:∀(k:Nat),k < ops.size->∃b,(waits [] ops.toList)[k]?=some b/\(waits [] ops.toList).getD k 0=b:=fun k hk=>by
    have:k < (waits [] ops.toList).length:=by rw [hwl];exact hk
    exact ⟨_,List.getElem?_eq_getElem this,by simp [this]⟩
   have behind:∀(j:Nat) (g:Eff),fs[j]?=some g->g.nx≠none->∀(k:Nat) (ok:Oper),ops.toList[k]?=some ok->kg (fun j=>listed.getD j false) ok->j < k->listed.getD j false=true:=fun j g hg hn k ok hk he hjk=>by
    obtain ⟨ij,gg,xs,h1,h2⟩:=(zK j g hg).2.2 hn;obtain ⟨ik,h3,_⟩:=hget k ok hk;have hks:k < ops.size:=by have:=(List.getElem?_eq_some_iff.1 hk).1;simpa using this
    obtain ⟨b,hb1,hb2⟩:=hwg k hks;have:=(K8 hmx h1 h2 k ik h3).2 hjk
    rw [hb2] at this;exact hbs k b ok hb1 hk he j this
   have ahead:∀(j:Nat) (g:Eff),fs[j]?=some g->g.nx≠none->∀(oj:Oper),ops.toList[j]?=some oj->kg (fun j=>listed.getD j false) oj->∀(k:Nat) (ik:aW),is[k]?=some ik->k < j->listed.getD k false=true\/idle ik.ins=true:=fun j g hg hn oj hj he k ik hk hkj=>by
    obtain ⟨ij,gg,xs,h1,h2⟩:=(zK j g hg).2.2 hn;have hjs:j < ops.size:=by have:=(List.getElem?_eq_some_iff.1 hj).1;simpa using this
    obtain ⟨b,hb1,hb2⟩:=hwg j hjs;rcases (K8 hmx h1 h2 k ik hk).1 hkj with h3|h3
    ·rw [hb2] at h3;exact .inl (hbs j b oj hb1 hj he k h3)
    ·exact .inr h3
   have hlt:∀(j:Nat),listed.getD j false=true->j < ops.size:=fun j hj=>by
    rcases Nat.lt_or_ge j listed.size with h2|h2
    ·rw [<-inv.size];exact h2
    ·simp [Array.getElem?_eq_none h2] at hj
   have EC:∀(j:Nat),listed.getD j false=true->∃oj,ops.toList[j]?=some oj/\kg (fun j=>listed.getD j false) oj:=fun j hj=>by have hoj:ops[j]?=some (ops[j]'(hlt j hj)):=Array.getElem?_eq_getElem (hlt j hj);exact ⟨_,by simpa using hoj,inv.closed j _ hoj hj⟩
   have hbase:idle inst.ins=false->fU (fun j=>listed.getD j false) 0 fs nx=fU (fun j=>decide (j < i)) 0 fs nx:=fun hid=>oH fun j g hg hn=>by
    simp only [Nat.zero_add];rcases Nat.lt_trichotomy j i with h1|h1|h1
    ·rw [behind j g hg hn i o ho' Pm h1];simp [h1]
    ·subst h1;rw [hif];simp
    ·cases hb:listed.getD j false with
     |false=>simp;omega
     |true=>
      exfalso;obtain ⟨oj,h2,h3⟩:=EC j hb;rcases ahead j g hg hn oj h2 h3 i inst hinst h1 with h4|h4
      ·rw [hif] at h4;cases h4
      ·rw [hid] at h4;cases h4
   have far:∀(j:Nat) (g:Eff),fs[j]?=some g->listed.getD j false≠decide (j < i)->(∀t,t∈g.tr.Bo->t ∉ f.tr.E5)/\(∀t,t∈g.tr.zO->t ∉ f.tr.Dp):=fun j g hg hne=>by
    rcases Nat.lt_trichotomy j i with hlt|heq|hgt
    ·have hj:listed.getD j false=false:=by
      cases hb:listed.getD j false with
      |false=>rfl
      |true=>rw [hb] at hne;simp [hlt] at hne
     have hcl:=mq (oP hok (aaU j hlt hj) (htr j g hg) (htr i f hf));exact ⟨fun t ht=>(hcl.1 t ht).1,fun t ht=>(hcl.2.2.1 t ht).1⟩
    ·subst heq;rw [hif] at hne;simp at hne
    ·have hj:listed.getD j false=true:=by
      cases hb:listed.getD j false with
      |true=>rfl
      |false=>rw [hb] at hne;simp at hne;omega
     have hcl:=mq (oP hok (PI j hgt hj) (htr i f hf) (htr j g hg));exact ⟨hcl.2.1,hcl.2.2.2⟩
   have agE:∀t,t∈f.tr.E5->bS (gG (fun j=>listed.getD j false) 0 fs e) t=bS (gG (fun j=>decide (j < i)) 0 fs e) t:=fun t ht=>
    oq rfl fun j g hg hne hd=>by
     simp only [Nat.zero_add] at hne;have:=(far j g hg hne).1 t (by rw [(zK j g hg).1,hd];simp)
     exact this ht
   have agH:∀id,id∈f.tr.Dp->af m.h id=af hq id:=fun id hid=>by
    rw [hqe,inv.heap];exact jw rfl fun j g hg hne hd=>by simp only [Nat.zero_add] at hne;exact (far j g hg hne).2 id ((zK j g hg).2.1 id hd) hid
   have wm:∀j,j≠i->(listed.setIfInBounds i true).getD j false=listed.getD j false:=fun j hj=>DD hj
   have AX:(listed.setIfInBounds i true).getD i false=true:=Hy (by rw [inv.size];exact hi1)
   have Oz:∀t,bS (gG (fun j=>(listed.setIfInBounds i true).getD j false) 0 fs e) t=bS (dO (gG (fun j=>listed.getD j false) 0 fs e) f.dst f.d) t:=fun t=>by
    rw [kR];exact Ht (L:=fun j=>listed.getD j false) (L':=fun j=>(listed.setIfInBounds i true).getD j false) hf (by simpa using hif) (by simpa using AX) (fun j hj=>by simpa using wm j hj) fun j g hij hg hl hd hgd=>by simp only [Nat.zero_add] at hl;have hcl:=mq (oP hok (PI j hij hl) (htr i f hf) (htr j g hg));exact (hcl.1 t (by rw [(zK i f hf).1,hd];simp)).2 (by rw [(zK j g hg).1,hgd];simp)
   have PU:∀(hp:Heap),(∀id,af hp id=af (jJ (fun j=>listed.getD j false) 0 fs h) id)->∀id,af (ah hp f.us) id=af (jJ (fun j=>(listed.setIfInBounds i true).getD j false) 0 fs h) id:=fun hp hhp id=>by
    rw [H9 (L:=fun j=>listed.getD j false) (L':=fun j=>(listed.setIfInBounds i true).getD j false) hf (by simpa using hif) (by simpa using AX) (fun j hj=>by simpa using wm j hj) fun j g hij hg hl hd hgd=>by simp only [Nat.zero_add] at hl;have hcl:=mq (oP hok (PI j hij hl) (htr i f hf) (htr j g hg));exact (hcl.2.2.1 id (hwH id hd)).2 ((zK j g hg).2.1 id hgd)]
    exact AP (hhp id)
   have Al:∀(j:Nat) (o:Oper),ops[j]?=some o->(listed.setIfInBounds i true).getD j false=true->kg (fun j=>(listed.setIfInBounds i true).getD j false) o:=by
    intro j oj hoj hl e he hbd;have hmono:∀k,listed.getD k false=true->(listed.setIfInBounds i true).getD k false=true:=fun k hk=>by
     by_cases hki:k=i
     ·subst hki;exact AX
     ·rw [wm k hki];exact hk
    by_cases hji:j=i
    ·subst hji;rw [ho] at hoj;simp only [Option.some.injEq] at hoj;subst hoj;exact hmono _ (Pm e he hbd)
    ·rw [wm j hji] at hl;exact hmono _ (inv.closed j oj hoj hl e he hbd)
   have hcount:∃l':List Nat,l'.length=n/\l'.Nodup/\∀j,j∈l'↔j < ops.size/\(listed.setIfInBounds i true).getD j false=false:=by
    have hil:i∈l:=(hl3 i).2 ⟨hi1,hif⟩;refine ⟨l.erase i,by rw [List.length_erase_of_mem hil,hl1];omega,hl2.erase i,fun j=>?_⟩
    rw [hl2.mem_erase_iff,hl3];constructor
    ·rintro ⟨h1,h2,h3⟩;exact ⟨h2,by rw [wm j h1];exact h3⟩
    ·rintro ⟨h1,h2⟩;have hji:j≠i:=fun e=>by subst e;rw [AX] at h2;cases h2
     exact ⟨hji,h1,by rw [<-wm j hji];exact h2⟩
   unfold wpOp;rw [ho];simp only;have aaw:¬m.U (fU (fun j=>listed.getD j false) 0 fs nx+i):=fun hx=>by
    rcases inv.used _ hx with h1|⟨k,h1,h2⟩
    ·omega
    ·have:k=i:=by omega
     subst this;rw [hif] at h1;cases h1
   have Qe:f.nx=none->∀(m':M),m'.U=(fun j=>m.U j\/j=fU (fun j=>listed.getD j false) 0 fs nx+i)->∀j,m'.U j->j < fU (fun j=>(listed.setIfInBounds i true).getD j false) 0 fs nx\/∃k,(listed.setIfInBounds i true).getD k false=true/\j=fU (fun j=>(listed.setIfInBounds i true).getD j false) 0 fs nx+k:=by
    intro hfn m' hm' j hj;have hb:fU (fun j=>(listed.setIfInBounds i true).getD j false) 0 fs nx=fU (fun j=>listed.getD j false) 0 fs nx:=oH fun j g hg hn=>by
     simp only [Nat.zero_add];refine wm j fun e=>?_
     subst e;rw [hf] at hg;simp only [Option.some.injEq] at hg;subst hg;exact hn hfn
    rw [hb];rw [hm'] at hj;rcases hj with hj|hj
    ·rcases inv.used j hj with h1|⟨k,h1,h2⟩
     ·exact .inl h1
     ·refine .inr ⟨k,?_,h2⟩;by_cases hki:k=i
      ·subst hki;exact AX
      ·rw [wm k hki];exact h1
    ·exact .inr ⟨i,AX,hj⟩
   rcases hact (gG (fun j=>listed.getD j false) 0 fs e) agE with ⟨hw,hfd,hfu,hfn⟩|⟨hw,hfn,hnc,hst⟩|⟨hw,gg,xs,n',h',hfn,hins,hlc,hh',hout⟩
   ·rw [qP inv.rel hcomp (b:=false) hw];simp only [if_false,Bool.false_eq_true];obtain ⟨_,p2,p3,_⟩:=dJ hcomp;have hr2:Rel B S w0 nt m (dO (gG (fun j=>listed.getD j false) 0 fs e) f.dst f.d) (a.put o.dst undef):=by
     rw [hfd,hdst,p2];exact inv.rel.put p3 ⟨[],rfl,trivial⟩
    have hg:=bE (B:=B) (S:=S) m (fU (fun j=>listed.getD j false) 0 fs nx+i)
    refine ih _ _ (m.grow (fU (fun j=>listed.getD j false) 0 fs nx+i)) ⟨by simpa using inv.size,Al,?_,Qe hfn _ rfl,?_,inv.ev.trans hg⟩ hcount
    ·intro id;have:=PU m.h inv.heap id
     rw [hfu] at this;exact this
    ·have hr3:Rel B S w0 nt (m.grow (fU (fun j=>listed.getD j false) 0 fs nx+i)) (dO (gG (fun j=>listed.getD j false) 0 fs e) f.dst f.d) (a.put o.dst undef):=hr2.mO hg (jd hr2.hok _) (Below.refl _ _)
     exact hr3.ext Oz
   ·rw [qP inv.rel hcomp (b:=true) hw];simp only [if_true];refine .inl ?_;have hst':dP call ai (iI (gG (fun j=>listed.getD j false) 0 fs e)) m.h (fU (fun j=>listed.getD j false) 0 fs nx+i) inst.ins=some (f.d,f.us):=
     hst m.h _ agH (by
      cases hid:idle inst.ins with
      |true=>exact .inr rfl
      |false=>exact .inl (by rw [hbase hid]))
    refine N9 hcomp hnc.1 hnc.2 inv.rel aaw hcall hl hst' fun a' m' q1 q2 q3 q4=>?_
    refine ih _ a' m' ⟨by simpa using inv.size,Al,?_,Qe hfn m' q2,?_,inv.ev.trans q3⟩ hcount
    ·intro id;rw [q1];exact PU m.h inv.heap id
    ·rw [<-hdst] at q4;exact q4.ext Oz
   ·rw [qP inv.rel hcomp (b:=true) hw];simp only [if_true];refine .inl ?_;have hb:=hbase (by rw [hins];rfl)
    have hU:um m (fU (fun j=>decide (j < i)) 0 fs nx+i):=fun u hu=>by
     rw [<-hb];rcases inv.used u hu with h1|⟨k,h1,rfl⟩
     ·omega
     ·rcases Nat.lt_trichotomy k i with h2|h2|h2
      ·omega
      ·subst h2;rw [hif] at h1;cases h1
      ·obtain ⟨ok,h3,h4⟩:=EC k h1;have:=behind i f hf (by rw [hfn];simp) k ok h3 h4 h2
       rw [hif] at this;cases this
    have hqm:∀id,af hq id=af m.h id:=fun id=>by
     by_cases hid:id∈f.tr.Dp
     ·exact (agH id hid).symm
     ·obtain ⟨h1,h2⟩:=hout id hid;rw [h2,inv.rel.hok.dom id fun hu=>by have:=hU id hu;omega]
    have e1:=jy (B:=B) (S:=S) (m:=m) hqm;have e2:=uK inv.rel.hok hqm;have hr1:Rel B S w0 nt (m.heap hq) (gG (fun j=>listed.getD j false) 0 fs e) a:=inv.rel.mO e1 e2 (Below.refl _ _)
    obtain ⟨p1,p2,p3,_⟩:=dJ hcomp;rw [hins] at p1;obtain ⟨args,ts,hop,h7⟩:=ve (nR p1 rfl);obtain ⟨XP,hs2⟩:=Mh hld hlc;unfold Oper.wp;rw [uH XP hop];show Calls P gg (args.map a.eval) m.w _
    have hcc:=hs2 B S (m.heap hq) (args.map a.eval).toList rfl hU e2 hr1.inv (by simpa using jA hr1 h7)
    rw [Array.toArray_toList] at hcc;refine hcc.mono fun ex w' ⟨v,m',q0,q1,q2,q3,q4,q5,q6,q7⟩=>?_
    subst q0 q1;have hr2:Rel B S w0 nt m' (dO (gG (fun j=>listed.getD j false) 0 fs e) f.dst f.d) (a.put o.dst v):=by rw [hdst,p2];exact (hr1.mO q5 q4 q7).put p3 q6
    have hbn:fU (fun j=>(listed.setIfInBounds i true).getD j false) 0 fs nx=n':=Co hf hfn (by simpa using AX) fun j g hij hg hn=>by
     simp only [Nat.zero_add];rw [wm j (by omega)]
     cases hj:listed.getD j false with
     |false=>rfl
     |true=>
      exfalso;obtain ⟨oj,h3,h4⟩:=EC j hj;have:=behind i f hf (by rw [hfn];simp) j oj h3 h4 hij
      rw [hif] at this;cases this
    refine ih _ _ m' ⟨by simpa using inv.size,Al,fun id=>?_,fun u hu=>?_,hr2.ext Oz,inv.ev.trans (e1.trans q5)⟩ hcount
    ·rw [q2,hh',<-PU m.h inv.heap id];exact AP (hqm id)
    ·rw [hbn];exact .inl (q3 u hu)
theorem GZ {id:Nat} {ops:Array Oper} {is:List aW} {Q:Exit->Act->World->Prop} (hm:P.follows .mixedOrders=true) (hcall:∀f vs rs,call f vs=some rs->bR P f vs rs) (hl:∀f ax bs rs bs',ai f ax bs=some (rs,bs')->qd P f ax bs rs bs')
  (hld:∀f ds h k rs h' n',aF f ds h k=some (rs,h',n')->xE P f ds h k rs h' n')
  (hc:bX P ji nt ops ops.toList=some is) (hmx:xQ is (waits [] ops.toList)=true) (yf:vQ 0 ops.toList=true) {s:St} {m:M} {a:Act} (hh:m.h=s.heap) (hU:um m s.nx) (hr:Rel B S w0 nt m s.env a)
  {fs:List Eff} (r1:NN call ai aF 0 s.nx is s.env s.heap fs) (hok:iD (fs.map (·.tr)) (waits [] ops.toList)=true) {h':Heap} (hH:∀id,af h' id=af (jJ (fun _=>true) 0 fs s.heap) id)
  (hK:∀(a':Act) (m':M),m'.h=h'->um m' (fU (fun _=>true) 0 fs s.nx+is.length)->ak B S m m'->Rel B S w0 nt m' (gG (fun _=>true) 0 fs s.env) a'->Q .normal a' m'.w):(Code.region id ops true).wp P Q a m.w:=by
 refine wp_region_any hm ?_;have hlen:ops.size=is.length:=by rw [<-(mV hc).1];simp
 have hb:∀k,k < m.w.heap.size->m.w.drew.heap[k]?=m.w.heap[k]?:=fun _ _=>rfl
 have ev0:=iy hr.hok (w':=m.w.drew) hb;have hk0:=qW hr.hok (w':=m.w.drew) hb (Nat.le_refl _);have hr0:Rel B S w0 nt (m.world m.w.drew) s.env a:=hr.mO ev0 hk0 ((Below.refl B m.w).drew);have hnone:∀j,(Array.replicate ops.size false).getD j false=false:=by
  intro j;rcases Nat.lt_or_ge j ops.size with h|h
  ·simp [h]
  ·simp [h]
 refine any_ok (w0:=w0) (m0:=m) hcall hl hld hc hmx yf r1 hok (fun a' m' q1 q2 q3 q4=>?_) ops.size (Array.replicate ops.size false) a (m.world m.w.drew) ⟨by simp,fun j o _ hl=>?_,fun i=>?_,fun i hi=>?_,?_,ev0⟩ ⟨List.range ops.size,by simp,List.nodup_range,fun i=>?_⟩
 ·have e1:=jy (B:=B) (S:=S) (m:=m') (h:=h') fun i=>(hH i).trans (q1 i).symm
  have e2:=uK q4.hok (h:=h') fun i=>(hH i).trans (q1 i).symm
  exact hK a' (m'.heap h') rfl (by rw [<-hlen];exact q2) (q3.trans e1) (q4.mO e1 e2 (Below.refl _ _))
 ·rw [hnone] at hl;cases hl
 ·rw [xH (fun j _=>hnone j)]
  show af m.h i=_
  rw [hh]
 ·rw [qH (fun j _ _ _=>hnone _)]
  exact .inl (hU i hi)
 ·rw [wZ (fun j _=>hnone j)];exact hr0
 ·rw [hnone];simp
theorem Sg {id:Nat} {ops:Array Oper} {is:List aW} {Q:Exit->Act->World->Prop} (hm:P.follows .mixedOrders=true) (hcall:∀f vs rs,call f vs=some rs->bR P f vs rs) (hl:∀f ax bs rs bs',ai f ax bs=some (rs,bs')->qd P f ax bs rs bs')
  (hc:bX P ji nt ops ops.toList=some is) (hns:jc is=true) (yf:vQ 0 ops.toList=true) {s:St} {m:M} {a:Act} (hh:m.h=s.heap) (hU:um m s.nx) (hr:Rel B S w0 nt m s.env a)
  {e':Env} {h':Heap} {ts:List Trace} (hev:bZ call ai s.nx 0 is s.env s.heap=some (e',h',ts)) (hok:iD ts (waits [] ops.toList)=true)
  (hK:∀(a':Act) (m':M),m'.h=h'->um m' (s.nx+is.length)->ak B S m m'->Rel B S w0 nt m' e' a'->Q .normal a' m'.w):(Code.region id ops true).wp P Q a m.w:=by
 obtain ⟨fs,r1,rfl,rfl,rfl,r5⟩:=Ji (aF:=fun _ _ _ _=>none) hns hev
 exact GZ hm hcall hl (fun _ _ _ _ _ _ _ hx=>by cases hx) hc (Rb hns) yf hh hU hr r1 hok (fun _=>rfl) (by rw [r5];exact hK)
theorem XD {id:Nat} {ops:Array Oper} {is:List aW} {Q:Exit->Act->World->Prop} (hm:P.follows .mixedOrders=true) (hcall:∀f vs rs,call f vs=some rs->bR P f vs rs) (hl:∀f ax bs rs bs',ai f ax bs=some (rs,bs')->qd P f ax bs rs bs')
  (hld:∀f ds h k rs h' n',aF f ds h k=some (rs,h',n')->xE P f ds h k rs h' n')
  (hc:bX P ji nt ops ops.toList=some is) (hmx:xQ is (waits [] ops.toList)=true) (yf:vQ 0 ops.toList=true) {s:St} {m:M} {a:Act} (hh:m.h=s.heap) (hU:um m s.nx) (hr:Rel B S w0 nt m s.env a)
  {e':Env} {h':Heap} {n':Nat} {ts:List Trace} (hev:jq call ai aF 0 s.nx [] is s.env s.heap=some (e',h',n',ts)) (hok:iD ts (waits [] ops.toList)=true)
  (hK:∀(a':Act) (m':M),m'.h=h'->um m' n'->ak B S m m'->Rel B S w0 nt m' e' a'->Q .normal a' m'.w):(Code.region id ops true).wp P Q a m.w:=by
 obtain ⟨fs,r1,rfl,rfl,r4,rfl⟩:=RO hev;exact GZ hm hcall hl hld hc hmx yf hh hU hr r1 hok r4 (by rw [Nat.zero_add] at hK;exact hK)
end
end Go.Ey
