/- A part. -/
import Derived.Test.YtolnnaanmfnkjaaGreatDoorZ19
import Derived.Orders
set_option linter.all false
namespace Go.Ey
open RowKit
variable [lV]
structure Eff where
 dst:Option Nat
 d:D
 us:List (Nat×Obj)
 tr:Trace
 nx:Option Nat
def SV (g:Option (Nat×Bool)):List Nat:=match g with|some (t,_)=>[t]|none=>[]
def Did (call:Callee) (aK:Bw) (fO:rV) (s:Nat) (i:gD) (e:Env) (h:Heap) (f:Eff):Prop:=
 f.dst=i.dst/\f.tr.WY=i.dst.toList/\(∀x,x∈f.us.map (·.1)->x∈f.tr.Xc)/\∀e2,(∀t,t∈f.tr.rdT->fT e2 t=fT e t)->
  ((wanted e2 i.guard=some false/\f.d=Af/\f.us=[]/\f.nx=none)\/
   (wanted e2 i.guard=some true/\f.nx=none/\((∀g o xs,i.ins≠.gU g o xs)/\∀x xs,i.ins≠.jv x xs)/\∀h2 s2,(∀id,id∈f.tr.Xo->ax h2 id=ax h id)->(s2=s\/idle i.ins=true)->j3 call aK (yh e2) h2 s2 i.ins=some (f.d,f.us))\/
   (wanted e2 i.guard=some true/\∃g xs n h',f.nx=some n/\i.ins=.gU g 2 xs/\wZ fO 2 g (xs.map (yh e2)) h s=some (f.d,h',n)/\(∀id,ax h' id=ax (ay h f.us) id)/\∀id,id ∉ f.tr.Xo->s<=id/\ax h id=.dead))
def Ran (call:Callee) (aK:Bw) (fO:rV):Nat->Nat->List gD->Env->Heap->List Eff->Prop
 |_,_,[],_,_,[]=>True
 |k,b,i::is,e,h,f::fs=>Did call aK fO (b+k) i e h f/\∃h',(∀id,ax h' id=ax (ay h f.us) id)/\Ran call aK fO (k+1) (f.nx.getD b) is (j5 e f.dst f.d) h' fs
 |_,_,_,_,_,_=>False
def mh (L:Nat->Bool):Nat->List Eff->Env->Env
 |_,[],e=>e
 |k,f::fs,e=>mh L (k+1) fs (if L k then j5 e f.dst f.d else e)
def um (L:Nat->Bool):Nat->List Eff->Heap->Heap
 |_,[],h=>h
 |k,f::fs,h=>um L (k+1) fs (if L k then ay h f.us else h)
def kr (L:Nat->Bool):Nat->List Eff->Nat->Nat
 |_,[],b=>b
 |k,f::fs,b=>kr L (k+1) fs (if L k then f.nx.getD b else b)
theorem EX {L:Nat->Bool}:∀{fs:List Eff} {k b:Nat},(∀(j:Nat) (f:Eff),fs[j]?=some f->f.nx≠none->L (k+j)=false)->kr L k fs b=b
 |[],_,_,_=>rfl
 |f::fs,k,b,h=>by
  have h0:(if L k then f.nx.getD b else b)=b:=by
   cases hf:f.nx with
   |none=>simp
   |some n=>rw [show L k=false from h 0 f (by simp) (by rw [hf];simp)];rfl
  simp only [kr,h0];exact EX fun j g hg hn=>by rw [show k+1+j=k+(j+1) by omega];exact h (j+1) g (by simpa using hg) hn
theorem BS {L L':Nat->Bool}:∀{fs:List Eff} {k b:Nat},(∀(j:Nat) (f:Eff),fs[j]?=some f->f.nx≠none->L (k+j)=L' (k+j))->kr L k fs b=kr L' k fs b
 |[],_,_,_=>rfl
 |f::fs,k,b,h=>by
  have h0:(if L k then f.nx.getD b else b)=if L' k then f.nx.getD b else b:=by
   cases hf:f.nx with
   |none=>simp
   |some n=>rw [show L k=L' k from h 0 f (by simp) (by rw [hf];simp)]
  simp only [kr,h0];exact BS fun j g hg hn=>by rw [show k+1+j=k+(j+1) by omega];exact h (j+1) g (by simpa using hg) hn
theorem PD {L:Nat->Bool} {n:Nat}:∀{fs:List Eff} {k b i:Nat} {f:Eff},fs[i]?=some f->f.nx=some n->L (k+i)=true->(∀(j:Nat) (g:Eff),i < j->fs[j]?=some g->g.nx≠none->L (k+j)=false)->kr L k fs b=n
 |[],_,_,_,_,hi,_,_,_=>by simp at hi
 |f0::fs,k,b,0,f,hi,hn,h1,h2=>by simp only [C0,A0] at hi;subst hi;simp only [Hx] at h1;simp only [kr,h1,E7,hn,Option.getD_some];exact EX fun j g hg hg2=>by rw [show k+1+j=k+(j+1) by omega];exact h2 (j+1) g (by omega) (by simpa using hg) hg2
 |f0::fs,k,b,i+1,f,hi,hn,h1,h2=>by simp only [Bm] at hi;simp only [kr];exact PD hi hn (by rw [show k+1+i=k+(i+1) by omega];exact h1) fun j g hj hg hg2=>by rw [show k+1+j=k+(j+1) by omega];exact h2 (j+1) g (by omega) (by simpa using hg) hg2
theorem JN {L:Nat->Bool}:∀{fs:List Eff} {k:Nat} {e:Env},(∀j,k<=j->L j=false)->mh L k fs e=e
 |[],_,_,_=>rfl
 |f::fs,k,e,h=>by simp only [mh,h k (An _),C7,C2];exact JN fun j hj=>h j (by omega)
theorem J2 {L:Nat->Bool}:∀{fs:List Eff} {k:Nat} {h:Heap},(∀j,k<=j->L j=false)->um L k fs h=h
 |[],_,_,_=>rfl
 |f::fs,k,e,h=>by simp only [um,h k (An _),C7,C2];exact J2 fun j hj=>h j (by omega)
theorem Ch {L L':Nat->Bool} {t:Nat}:∀{fs:List Eff} {k:Nat} {e e':Env},fT e t=fT e' t->(∀(j:Nat) (f:Eff),fs[j]?=some f->L (k+j)≠L' (k+j)->f.dst≠some t)->fT (mh L k fs e) t=fT (mh L' k fs e') t
 |[],_,_,_,he,_=>he
 |f::fs,k,e,e',he,h=>by
  simp only [mh];refine Ch ?_ fun j g hg hne=>h (j+1) g (by simpa using hg) (by rw [show k+(j+1)=k+1+j by omega];exact hne)
  have h0:=h 0 f (by simp)
  simp only [Hx] at h0;cases h1:L k<;>cases h2:L' k<;>simp only [E7,C7,C2,yu]
  ·exact he
  ·rw [E0 (h0 (by rw [h1,h2];simp))];exact he
  ·rw [E0 (h0 (by rw [h1,h2];simp))];exact he
  ·rw [he]
theorem qb {us:List (Nat×Obj)}:∀{h:Heap} {id:Nat},id ∉ us.map (·.1)->ax (ay h us) id=ax h id:=by
 induction us with
 |nil=>intros;rfl
 |cons u us ih=>
  intro h id hn;simp only [D4,D2,not_or] at hn;simp only [ay];rw [ih hn.2];obtain ⟨i,o⟩:=u;have hne:¬i=id:=fun e=>hn.1 e.symm
  simp only [ax,E0 hne]
theorem aaT {us:List (Nat×Obj)}:∀{h h':Heap} {id:Nat},id∈us.map (·.1)->ax (ay h us) id=ax (ay h' us) id:=by
 induction us with
 |nil=>intro h h' id hi;simp at hi
 |cons u us ih=>
  intro h h' id hi;simp only [ay];by_cases hm:id∈us.map (·.1)
  ·exact ih hm
  ·simp only [D4,D2] at hi;rcases hi with rfl|hi
   ·rw [qb hm,qb hm];obtain ⟨i,o⟩:=u;simp [ax]
   ·exact absurd hi hm
theorem M0 {us:List (Nat×Obj)} {h h':Heap} {id:Nat} (he:ax h id=ax h' id):ax (ay h us) id=ax (ay h' us) id:=by
 by_cases hm:id∈us.map (·.1)
 ·exact aaT hm
 ·rw [qb hm,qb hm,he]
theorem sw {L L':Nat->Bool} {id:Nat}:∀{fs:List Eff} {k:Nat} {h h':Heap},ax h id=ax h' id->(∀(j:Nat) (f:Eff),fs[j]?=some f->L (k+j)≠L' (k+j)->id ∉ f.us.map (·.1))->ax (um L k fs h) id=ax (um L' k fs h') id
 |[],_,_,_,he,_=>he
 |f::fs,k,e,e',he,h=>by
  simp only [um];refine sw ?_ fun j g hg hne=>h (j+1) g (by simpa using hg) (by rw [show k+(j+1)=k+1+j by omega];exact hne)
  have h0:=h 0 f (by simp)
  simp only [Hx] at h0;cases h1:L k<;>cases h2:L' k<;>simp only [E7,C7,C2]
  ·exact he
  ·rw [qb (h0 (by rw [h1,h2];simp))];exact he
  ·rw [qb (h0 (by rw [h1,h2];simp))];exact he
  ·exact M0 he
theorem Ran.at {call:Callee} {aK:Bw} {fO:rV}:∀{is:List gD} {k b:Nat} {e:Env} {h:Heap} {fs:List Eff},Ran call aK fO k b is e h fs->∀{i:Nat} {inst:gD},is[i]?=some inst->
  ∃f,fs[i]?=some f/\∃hq,(∀id,ax hq id=ax (um (fun j=>decide (j < k+i)) k fs h) id)/\Did call aK fO (kr (fun j=>decide (j < k+i)) k fs b+(k+i)) inst (mh (fun j=>decide (j < k+i)) k fs e) hq f
 |[],_,_,_,_,[],_,i,inst,hi=>by simp at hi
 |i0::is,k,b,e,h,f::fs,hr,i,inst,hi=>by
  obtain ⟨h1,h',h3,h2⟩:=hr;cases i with
  |zero=>
   simp only [C0,A0] at hi;subst hi;refine ⟨f,by simp,h,fun id=>?_,?_⟩
   ·rw [J2 (fun j hj=>by simp;omega)]
   ·rw [Hx,JN (fun j hj=>by simp;omega),EX (fun j _ _ _=>by simp)]
    exact h1
  |succ i=>
   simp only [Bm] at hi;obtain ⟨g,g1,hq,g2,g3⟩:=Ran.at h2 hi;have hk:decide (k < k+(i+1))=true:=by simp
   refine ⟨g,by simpa using g1,hq,fun id=>?_,?_⟩
   ·rw [g2];simp only [um,hk,E7];rw [show k+(i+1)=k+1+i by omega]
    exact sw (h3 id) fun _ _ _ hne=>absurd rfl hne
   ·simp only [mh,kr,hk,E7];rw [show k+(i+1)=k+1+i by omega]
    exact g3
 |[],_,_,_,_,_::_,hr,_,_,_=>hr.elim
 |_::_,_,_,_,_,[],hr,_,_,_=>hr.elim
theorem aeI {v u:Value} (h:Qi (.lit v) (.lit u)=true):v=u:=by
 unfold Qi at h;split at h
 ·rename_i h1 h2;cases h1;cases h2;simp at h;rw [h.1,h.2]
 ·rename_i h1 h2;cases h1;cases h2;simp at h;rw [h]
 ·rename_i a b h1 h2;cases h1;cases h2;obtain ⟨a⟩:=a;obtain ⟨b⟩:=b;have h1:a=b:=Array.toList_inj.1 (of_decide_eq_true h);rw [h1]
 ·rename_i h1 h2;cases h1;cases h2;rfl
 ·rename_i h1 _;cases h1
 ·cases h
mutual
theorem Uq:∀{a b:C},Qi a b=true->a=b
 |.lit v,.lit u,h=>by rw [aeI h]
 |.slice aJ n,.slice bs m,h=>by simp only [Qi,A5,G0] at h;rw [h.1,JC h.2]
 |.lit v,.slice _ _,h=>by cases v<;>exact Bool.noConfusion h
 |.slice _ _,.lit v,h=>by cases v<;>exact Bool.noConfusion h
theorem JC:∀{a b:List C},GJ a b=true->a=b
 |[],[],_=>rfl
 |a::aJ,b::bs,h=>by simp only [GJ,A5] at h;rw [Uq h.1,JC h.2]
 |[],_::_,h=>by simp [GJ] at h
 |_::_,[],h=>by simp [GJ] at h
end
theorem QV:∀{a b:List D},Kt a b=true->a=b
 |[],[],_=>rfl
 |a::aJ,b::bs,h=>by
  simp only [Kt,A5] at h;have h1:a=b:=by
   have h2:=h.1;unfold ajt at h2;split at h2
   ·rw [Uq h2]
   ·simp at h2;rw [h2.1,h2.2]
   ·simp at h2;rw [h2.1,h2.2.1,h2.2.2]
   ·simp at h2;rw [h2.1,JC h2.2]
   ·cases h2
  rw [h1,QV h.2]
 |[],_::_,h=>by simp [Kt] at h
 |_::_,[],h=>by simp [Kt] at h
theorem adm {a b:Obj} (h:acw a b=true):a=b:=by
 unfold acw at h;split at h
 ·rw [QV h]
 ·cases h
theorem IL {g:Nat->Obj}:∀(l:List Nat) (h:Heap) (id:Nat),ax (ay h (l.map fun i=>(i,g i))) id=if id∈l then g id else ax h id
 |[],h,id=>by simp [ay]
 |i::l,h,id=>by
  simp only [D4,ay];rw [IL l];by_cases h1:id∈l
  ·simp [h1]
  ·by_cases h2:i=id
   ·subst h2;simp [h1,ax]
   ·simp [h1,ax,h2,Ne.symm h2]
theorem Ij:∀{h:Heap} {id:Nat},id ∉ h.map (·.1)->ax h id=.dead
 |[],_,_=>rfl
 |(i,o)::h,id,hn=>by simp only [D4,D2,not_or] at hn;simp only [ax,E0 (Ne.symm hn.1)];exact Ij hn.2
theorem MB {acc:List Nat} {h h':Heap} (id:Nat):ax h' id=ax (ay h ((changed acc h h').map fun i=>(i,ax h' i))) id:=by
 rw [IL];split
 ·rfl
 ·rename_i hn;unfold changed at hn;simp only [List.mem_filter,not_and,L1,Is,B0] at hn;by_cases h1:id∈h'.map (·.1)\/id∈h.map (·.1)
  ·have:=hn h1
   simp at this;exact (adm this.2).symm
  ·rw [Ij fun hx=>h1 (.inl hx),Ij fun hx=>h1 (.inr hx)]
theorem Ce {e e2:Env} {g:Option (Nat×Bool)} (h:∀t,t∈SV g->fT e2 t=fT e t):wanted e2 g=wanted e g:=by
 cases g with
 |none=>rfl
 |some p=>obtain ⟨t,w⟩:=p;simp only [wanted,h t (by simp [SV])]
theorem QW {e e2:Env} {xs:List X} (h:∀t,t∈Ak xs->fT e2 t=fT e t):∀x,x∈xs->yh e x=yh e2 x:=fun x hx=>by
 cases x with
 |k v=>rfl
 |f n=>rfl
 |t n=>exact (h n (List.mem_filterMap.2 ⟨_,hx,rfl⟩)).symm
theorem abV {call:Callee} {aK:Bw} {ρ:X->D} {h:Heap} {s s':Nat} {i:Ins} (hi:idle i=true):j3 call aK ρ h s i=j3 call aK ρ h s' i:=by cases i<;>first|rfl|cases hi
theorem Sj {call:Callee} {aK:Bw} {ρ ρ':X->D} {slot:Nat} {ins:Ins} {h h':Heap} (hx:∀x,x∈mZ ins->ρ x=ρ' x) (hh:Agree (Ky ρ h ins) h h'):j3 call aK ρ h slot ins=j3 call aK ρ' h' slot ins:=by
 by_cases hc:∃n a v id off ds,ins=.store n a v/\ρ a=.loc id off/\ax h id=.box ds
 ·obtain ⟨n,a,v,id,off,ds,rfl,ha,hb⟩:=hc;have h1:ax h id=ax h' id:=hh id (by simp [Ky,ha,hb])
  have ha':ρ' a=.loc id off:=by rw [<-hx a (by simp [mZ]),ha]
  simp only [j3,og,wQ,C2,C7,dX,step,AZ,<-hx v (by simp [mZ]),ha,ha',hb,<-h1]
 ·refine Lb hx (hh.mono fun id hi=>?_)
  unfold Ky;split
  ·rename_i n a v;split
   ·rename_i id' off ha;split
    ·rename_i ds hb;exact absurd ⟨n,a,v,id',off,ds,rfl,ha,hb⟩ hc
    ·exact hi
   ·exact hi
  ·exact hi
section
variable {call:Callee} {aK:Bw} {fO:rV}
theorem VL {s:Nat} {i:gD} {e:Env} {h:Heap} {d:D} {us:List (Nat×Obj)} {rd:List Nat} (hw:wanted e i.guard=some true) (hn:(∀g o xs,i.ins≠.gU g o xs)/\∀x xs,i.ins≠.jv x xs) (hst:j3 call aK (yh e) h s i.ins=some (d,us))
  (hcg:∀ρ' h',(∀x,x∈mZ i.ins->yh e x=ρ' x)->Agree rd h h'->j3 call aK (yh e) h s i.ins=j3 call aK ρ' h' s i.ins):
  Did call aK fO s i e h ⟨i.dst,d,us,⟨SV i.guard++Ak (mZ i.ins),i.dst.toList,rd,us.map (·.1)⟩,none⟩:=by
 refine ⟨rfl,rfl,fun _ hx=>hx,fun e2 he=> .inr (.inl ⟨?_,rfl,hn,fun h2 s2 hh hs=>?_⟩)⟩
 ·rw [Ce fun t ht=>he t (F2 _ ht)];exact hw
 ·have h1:j3 call aK (yh e2) h2 s i.ins=some (d,us):=by
   rw [<-hst];exact (hcg _ _ (QW fun t ht=>he t (G2 _ ht)) fun id hi=>(hh id hi).symm).symm
  rcases hs with rfl|hi
  ·exact h1
  ·rw [abV hi];exact h1
theorem WI {s:Nat} {i:gD} {e:Env} {h:Heap} (hw:wanted e i.guard=some false):Did call aK fO s i e h ⟨i.dst,Af,[],⟨SV i.guard,i.dst.toList,[],[]⟩,none⟩:=
 ⟨rfl,rfl,fun _ hx=>hx,fun e2 he=> .inl ⟨by rw [Ce he];exact hw,rfl,rfl,rfl⟩⟩
theorem ads:∀{is:List gD} {k b:Nat} {acc:List Nat} {e:Env} {h:Heap} {e':Env} {h':Heap} {n':Nat} {ts:List Trace},CU call aK fO k b acc is e h=some (e',h',n',ts)->
  ∃fs,Ran call aK fO k b is e h fs/\ts=fs.map (·.tr)/\e'=mh (fun _=>true) k fs e/\(∀id,ax h' id=ax (um (fun _=>true) k fs h) id)/\n'=kr (fun _=>true) k fs b+(k+is.length)
 |[],k,b,acc,e,h,e',h',n',ts,hd=>by simp only [CU,A0,A3] at hd;obtain ⟨rfl,rfl,rfl,rfl⟩:=hd;exact ⟨[],trivial,rfl,rfl,fun _=>rfl,rfl⟩
 |i::is,k,b,acc,e,h,e',h',n',ts,hd=>by
  simp only [CU,A2,A1] at hd;obtain ⟨w,hw,hd⟩:=hd;have fin:∀(f:Eff) (h1:Heap) (acc':List Nat) (b':Nat) (ts':List Trace),Did call aK fO (b+k) i e h f->(∀id,ax h1 id=ax (ay h f.us) id)->b'=f.nx.getD b->CU call aK fO (k+1) b' acc' is (j5 e f.dst f.d) h1=some (e',h',n',ts')->
    ∃fs,Ran call aK fO k b (i::is) e h fs/\f.tr::ts'=fs.map (·.tr)/\e'=mh (fun _=>true) k fs e/\(∀id,ax h' id=ax (um (fun _=>true) k fs h) id)/\n'=kr (fun _=>true) k fs b+(k+(i::is).length):=by
   intro f h1 acc' b' ts' ahp hh hb hev;obtain ⟨fs,r1,r2,r3,r4,r5⟩:=ads hev;subst hb;refine ⟨f::fs,⟨ahp,h1,hh,r1⟩,by rw [r2];rfl,by simpa [mh] using r3,fun id=>?_,?_⟩
   ·rw [r4];simp only [um,E7];exact sw (hh id) fun _ _ _ hne=>absurd rfl hne
   ·rw [r5];simp only [kr,E7,C5];omega
  cases w with
  |false=>
   simp only [C7,C2,A1,C1,A0,A3] at hd;obtain ⟨e1,h1,n1,ts1,h2,rfl,rfl,rfl,rfl⟩:=hd;exact fin ⟨i.dst,Af,[],⟨SV i.guard,i.dst.toList,[],[]⟩,none⟩ h acc b ts1 (WI hw) (fun _=>rfl) rfl h2
  |true=>
   simp only [E7] at hd;split at hd
   ·rename_i f o xs hins;simp only [A1,C1,A0,A3] at hd;obtain ⟨d,h1,n,h2,e1,h3,n1,ts1,h4,rfl,rfl,rfl,rfl⟩:=hd;split at h2
    ·rename_i ho;subst ho;refine fin ⟨i.dst,d,(changed acc h h1).map fun j=>(j,ax h1 j),⟨SV i.guard++Ak xs,i.dst.toList,List.range (b+k)++h.map (·.1),changed acc h h1⟩,some n⟩ h1 acc n ts1 ⟨rfl,rfl,fun x hx=>?_,fun e2 he=> .inr (.inr ⟨?_,f,xs,n,h1,rfl,hins,?_,MB,fun id hid=>?_⟩)⟩ MB rfl h4
     ·simpa using hx
     ·rw [Ce fun t ht=>he t (F2 _ ht)];exact hw
     ·rw [<-h2];congr 1;exact (List.map_congr_left (QW fun t ht=>he t (G2 _ ht))).symm
     ·simp only [B0,K2,not_or,Nat.not_lt] at hid;exact ⟨hid.1,Ij hid.2⟩
    ·cases h2
   ·cases hd
   ·rename_i hn1 hn2;simp only [A1,C1,A0,A3] at hd;obtain ⟨d,us,h1,e1,h3,n1,ts1,h4,rfl,rfl,rfl,rfl⟩:=hd;exact fin ⟨i.dst,d,us,⟨SV i.guard++Ak (mZ i.ins),i.dst.toList,Ky (yh e) h i.ins,us.map (·.1)⟩,none⟩ (ay h us) _ b ts1
     (VL hw ⟨fun g o xs hx=>hn1 g o xs hx,fun x xs hx=>hn2 x xs hx⟩ h1 fun _ _ hx hh=>Sj hx hh) (fun _=>rfl) rfl h4
theorem Xm {nx:Nat}:∀{is:List gD} {k:Nat} {e:Env} {h:Heap} {e':Env} {h':Heap} {ts:List Trace},ve is=true->lT call aK nx k is e h=some (e',h',ts)->
  ∃fs,Ran call aK fO k nx is e h fs/\ts=fs.map (·.tr)/\e'=mh (fun _=>true) k fs e/\h'=um (fun _=>true) k fs h/\kr (fun _=>true) k fs nx=nx
 |[],k,e,h,e',h',ts,_,hd=>by simp only [lT,A0,A3] at hd;obtain ⟨rfl,rfl,rfl⟩:=hd;exact ⟨[],trivial,rfl,rfl,rfl,rfl⟩
 |i::is,k,e,h,e',h',ts,hns,hd=>by
  simp only [ve,A5] at hns;simp only [lT,A2,A1] at hd;obtain ⟨b,hw,hd⟩:=hd;cases b with
  |true=>
   simp only [E7,A1,C1,A0,A3] at hd;obtain ⟨d,us,h1,e1,h1',ts',h2,rfl,rfl,rfl⟩:=hd;obtain ⟨fs,r1,r2,r3,r4,r5⟩:=Xm hns.2 h2;exact ⟨⟨i.dst,d,us,⟨SV i.guard++Ak (mZ i.ins),i.dst.toList,touches (yh e) i.ins,us.map (·.1)⟩,none⟩::fs,
    ⟨VL hw ⟨fun f ow xs he=>by rw [he] at hns;simp at hns,fun f xs he=>by rw [he] at hns;simp at hns⟩ h1 fun _ _ hx hh=>Lb hx hh,_,fun _=>rfl,r1⟩,by rw [r2];rfl,by simpa [mh] using r3,by simpa [um] using r4,by simpa [kr] using r5⟩
  |false=>
   simp only [C7,C2,A1,C1,A0,A3] at hd;obtain ⟨e1,h1',ts',h2,rfl,rfl,rfl⟩:=hd;obtain ⟨fs,r1,r2,r3,r4,r5⟩:=Xm hns.2 h2;exact ⟨⟨i.dst,Af,[],⟨SV i.guard,i.dst.toList,[],[]⟩,none⟩::fs,⟨WI hw,h,fun _=>rfl,r1⟩,by rw [r2];rfl,by simpa [mh] using r3,by simpa [um,ay] using r4,by simpa [kr] using r5⟩
end
theorem Vz {L L':Nat->Bool} {t:Nat}:∀{fs:List Eff} {k i:Nat} {e:Env} {f:Eff},fs[i]?=some f->L (k+i)=false->L' (k+i)=true->(∀j,j≠i->L' (k+j)=L (k+j))->
  (∀(j:Nat) (g:Eff),i < j->fs[j]?=some g->L (k+j)=true->f.dst=some t->g.dst≠some t)->fT (mh L' k fs e) t=if f.dst=some t then f.d else fT (mh L k fs e) t
 |[],_,_,_,_,hi,_,_,_,_=>by simp at hi
 |f0::fs,k,0,e,f,hi,h1,h2,h3,h4=>by
  simp only [C0,A0] at hi;subst hi;simp only [Hx] at h1 h2;simp only [mh,h1,h2,E7,C7,C2];have hsame:∀j,L' (k+1+j)=L (k+1+j):=fun j=>by
   have:=h3 (j+1) (by omega)
   rw [show k+1+j=k+(j+1) by omega]
   exact this
  by_cases hd:f0.dst=some t
  ·rw [C6 hd];have:∀{fs:List Eff} {k:Nat} {e:Env},(∀(j:Nat) (g:Eff),fs[j]?=some g->L' (k+j)=true->g.dst≠some t)->fT (mh L' k fs e) t=fT e t:=by
    intro fs;induction fs with
    |nil=>intros;rfl
    |cons g fs ih=>
     intro k e h;simp only [mh];rw [ih fun j g' hg hl=>h (j+1) g' (by simpa using hg) (by rw [show k+(j+1)=k+1+j by omega];exact hl)]
     cases hl:L' k
     ·simp
     ·simp only [E7,yu];rw [E0 (h 0 g (by simp) (by simpa using hl))]
   rw [this fun j g hg hl=>h4 (j+1) g (by omega) (by simpa using hg) (by rw [show k+(j+1)=k+1+j by omega,<-hsame];exact hl) hd]
   simp [yu,hd]
  ·rw [E0 hd];refine Ch (by simp [yu,hd]) fun j g _ hne=>absurd (hsame j) hne
 |f0::fs,k,i+1,e,f,hi,h1,h2,h3,h4=>by
  simp only [Bm] at hi;have h0:L' k=L k:=by simpa using h3 0 (by omega)
  simp only [mh,h0];exact Vz hi (by rw [show k+1+i=k+(i+1) by omega];exact h1) (by rw [show k+1+i=k+(i+1) by omega];exact h2)
   (fun j hj=>by rw [show k+1+j=k+(j+1) by omega];exact h3 (j+1) (by omega))
   (fun j g hj hg hl hd=>h4 (j+1) g (by omega) (by simpa using hg) (by rw [show k+(j+1)=k+1+j by omega];exact hl) hd)
theorem Uw {L L':Nat->Bool} {id:Nat}:∀{fs:List Eff} {k i:Nat} {h:Heap} {f:Eff},fs[i]?=some f->L (k+i)=false->L' (k+i)=true->(∀j,j≠i->L' (k+j)=L (k+j))->
  (∀(j:Nat) (g:Eff),i < j->fs[j]?=some g->L (k+j)=true->id∈f.us.map (·.1)->id ∉ g.us.map (·.1))->ax (um L' k fs h) id=ax (ay (um L k fs h) f.us) id
 |[],_,_,_,_,hi,_,_,_,_=>by simp at hi
 |f0::fs,k,0,e,f,hi,h1,h2,h3,h4=>by
  simp only [C0,A0] at hi;subst hi;simp only [Hx] at h1 h2;simp only [um,h1,h2,E7,C7,C2];have hsame:∀j,L' (k+1+j)=L (k+1+j):=fun j=>by
   have:=h3 (j+1) (by omega)
   rw [show k+1+j=k+(j+1) by omega]
   exact this
  by_cases hd:id∈f0.us.map (·.1)
  ·have:∀{fs:List Eff} {k:Nat} {e:Heap},(∀(j:Nat) (g:Eff),fs[j]?=some g->L' (k+j)=true->id ∉ g.us.map (·.1))->ax (um L' k fs e) id=ax e id:=by
    intro fs;induction fs with
    |nil=>intros;rfl
    |cons g fs ih=>
     intro k e h;simp only [um];rw [ih fun j g' hg hl=>h (j+1) g' (by simpa using hg) (by rw [show k+(j+1)=k+1+j by omega];exact hl)]
     cases hl:L' k
     ·simp
     ·simp only [E7];rw [qb (h 0 g (by simp) (by simpa using hl))]
   rw [this fun j g hg hl=>h4 (j+1) g (by omega) (by simpa using hg) (by rw [show k+(j+1)=k+1+j by omega,<-hsame];exact hl) hd]
   exact aaT hd
  ·rw [qb hd];refine sw (qb hd) fun j g _ hne=>absurd (hsame j) hne
 |f0::fs,k,i+1,e,f,hi,h1,h2,h3,h4=>by
  simp only [Bm] at hi;have h0:L' k=L k:=by simpa using h3 0 (by omega)
  simp only [um,h0];exact Uw hi (by rw [show k+1+i=k+(i+1) by omega];exact h1) (by rw [show k+1+i=k+(i+1) by omega];exact h2)
   (fun j hj=>by rw [show k+1+j=k+(j+1) by omega];exact h3 (j+1) (by omega))
   (fun j g hj hg hl hd=>h4 (j+1) g (by omega) (by simpa using hg) (by rw [show k+(j+1)=k+1+j by omega];exact hl) hd)
def xO (L:Nat->Bool) (o:Oper):Prop:=∀e∈o.after.toList,Region.binds .any e=true->L e.on=true
theorem PO:∀(l:List Oper) (acc:List Nat),(waits acc l).length=acc.length+l.length
 |[],_=>rfl
 |o::l,acc=>by simp only [waits];rw [PO l];simp;omega
theorem D7 {acc:List Nat} {x:Nat}:∀(es:List Edge),(EW acc es).testBit x=true->∃e∈es,Region.binds .any e=true/\(x=e.on\/(acc.getD e.on 0).testBit x=true)
 |[],h=>by simp [EW] at h
 |e::es,h=>by
  simp only [EW] at h;split at h
  ·rename_i hb;simp only [Nat.testBit_or,Bool.or_eq_true] at h;rcases h with (h|h)|h
   ·rw [Nat.one_shiftLeft,Nat.testBit_two_pow] at h;exact ⟨e,by simp,hb,.inl (Eq.symm (by simpa using h))⟩
   ·exact ⟨e,by simp,hb,.inr h⟩
   ·obtain ⟨e',h1,h2⟩:=D7 es h;exact ⟨e',by simp [h1],h2⟩
  ·obtain ⟨e',h1,h2⟩:=D7 es h;exact ⟨e',by simp [h1],h2⟩
theorem Vf {L:Nat->Bool} {ops:List Oper} (hcl:∀(j:Nat) (o:Oper),ops[j]?=some o->L j=true->xO L o):
  ∀(l:List Oper) (acc:List Nat),(∀j:Nat,l[j]?=ops[acc.length+j]?)->(∀(j:Nat) (b:Nat) (o:Oper),acc[j]?=some b->ops[j]?=some o->xO L o->∀x,b.testBit x=true->L x=true)->
   ∀(j:Nat) (b:Nat) (o:Oper),(waits acc l)[j]?=some b->ops[j]?=some o->xO L o->∀x,b.testBit x=true->L x=true
 |[],acc,_,h=>h
 |p::l,acc,hl,h=>by
  simp only [waits];refine Vf hcl l _ (fun j=>?_) fun j b o hb ho he x hx=>?_
  ·have:=hl (j+1)
   simp only [Bm] at this;rw [this];simp;congr 1;omega
  ·rcases L7 j acc.length with hj|hj
   ·rw [Gk hj] at hb;exact h j b o hb ho he x hx
   ·rw [Hv hj] at hb;have hj0:j=acc.length:=by
     have:=(As.1 hb).1
     simp at this;omega
    subst hj0;have hp:ops[acc.length]?=some p:=by have:=hl 0;simpa using this.symm
    have:o=p:=by rw [hp] at ho;exact (I2 ho).symm
    subst this;simp at hb;subst hb;obtain ⟨e,he1,hbd,hx⟩:=D7 _ hx;have hon:=he e he1 hbd;rcases hx with rfl|hx
    ·exact hon
    ·cases hg:acc[e.on]? with
     |none=>simp [hg] at hx
     |some b'=>
      simp [hg] at hx;have hlt:e.on < acc.length:=(As.1 hg).1;cases ho':ops[e.on]? with
      |none=>
       have h1:acc.length < ops.length:=(As.1 hp).1;simp at ho';omega
      |some o'=>exact h e.on b' o' hg ho' (hcl e.on o' ho' hon) x hx
def aiV (ws:List Nat) (i j:Nat):Prop:=i < j/\∃m,ws[j]?=some m/\m.testBit i=false
theorem ND {bs:List Nat} {i j:Nat} (hij:i < j) (hj:j < bs.length) (h:∀b:Nat,bs[j]?=some b->¬b.testBit i=true):aiV bs i j:=by
 have hb:bs[j]?=some bs[j]:=A6 hj;have:=h _ hb
 exact ⟨hij,_,hb,by simpa using this⟩
theorem PL {m:Nat} {b:Trace}:∀{l:List Trace} {q:Nat},NI m b q l=true->∀{i:Nat} {a:Trace},l[i]?=some a->m.testBit (q+i)=false->clash a b=false
 |[],_,_,i,a,ha,_=>by simp at ha
 |x::l,q,h,i,a,ha,hm=>by
  simp only [NI,A5,Bool.or_eq_true] at h;cases i with
  |zero=>
   simp only [C0,A0] at ha;subst ha;rcases h.1 with h1|h1
   ·rw [Hx] at hm;rw [hm] at h1;cases h1
   ·simpa using h1
  |succ i=>
   simp only [Bm] at ha;exact PL h.2 ha (by rw [show q+1+i=q+(i+1) by omega];exact hm)
theorem Ig:∀{ts:List Trace} {ws:List Nat} {pre:List Trace},om pre ts ws=true->∀{i j m:Nat} {a b:Trace},ts[j]?=some b->ws[j]?=some m->(pre++ts)[i]?=some a->i < pre.length+j->m.testBit i=false->clash a b=false
 |[],_,_,_,_,j,_,_,_,hb,_,_,_,_=>by simp at hb
 |x::ts,[],_,h,_,_,_,_,_,_,_,_,_,_=>by simp [om] at h
 |x::ts,w::ws,pre,h,i,j,m,a,b,hb,hw,ha,hi,hm=>by
  simp only [om,A5] at h;cases j with
  |zero=>
   simp only [C0,A0] at hb hw;subst hb hw;rw [Gk (by omega)] at ha
   exact PL h.1 ha (by rw [E4];exact hm)
  |succ j=>
   simp only [Bm] at hb hw;exact Ig h.2 hb hw (by simpa using ha) (by simp;omega) hm
theorem BM {ts:List Trace} {ws:List Nat} (h:BO ts ws=true) {i j:Nat} (hm:aiV ws i j) {a b:Trace} (ha:ts[i]?=some a) (hb:ts[j]?=some b):clash a b=false:=by obtain ⟨hij,m,hw,hmi⟩:=hm;exact Ig h hb hw (by simpa using ha) (by simpa using hij) hmi
theorem AB {a b:List Nat} (h:meets a b=false) {x:Nat} (hx:x∈a):x ∉ b:=by
 unfold meets at h;intro hb;have:=List.any_eq_false.1 h x hx
 simp [hb] at this
theorem Ap {a b:Trace} (h:clash a b=false):(∀t,t∈a.WY->t ∉ b.rdT/\t ∉ b.WY)/\(∀t,t∈b.WY->t ∉ a.rdT)/\(∀t,t∈a.Xc->t ∉ b.Xo/\t ∉ b.Xc)/\(∀t,t∈b.Xc->t ∉ a.Xo):=by
 unfold clash at h;simp only [Bool.or_eq_false_iff] at h;obtain ⟨⟨⟨h1,h2⟩,h3⟩,h4⟩:=h;refine ⟨fun t ht=>?_,fun t ht=>AB h2 ht,fun t ht=>?_,fun t ht=>AB h4 ht⟩
 ·have:=AB h1 ht;simp at this;exact this
 ·have:=AB h3 ht;simp at this;exact this
section
variable {B:Nat} {S:Nat->Nat->Prop} {P:Program} {o:Oper} {a:Act} {m:M} {wz:Nat->Nat} {nt:Nat} {w0:World} {call:Callee} {aK:Bw} {fO:rV}
theorem rO {m:M} {h:Heap} (hh:∀id,ax h id=ax m.h id):aB B S m (m.heap h) where
 cell b q u h1 h2:=⟨h1,h2.1,fun id=>by show match ax h id with|.dead=>True|.box _=>m.β id≠b|.map _=>m.β id≠b|.arr _ _ fz _=>m.β id=b->q < fz;rw [hh];exact h2.2 id⟩
 used _ hu:=hu
 dead id _ hd:=by show ax h id=.dead;rw [hh];exact hd
 at_ _ _:=rfl
 kind id cs' ja nG jY _ hk:=⟨cs',nG,by rw [<-hh];exact hk,rfl⟩
 rest b _ _ hn:=⟨rfl,fun id hd=>hn id (by rw [<-hh];exact hd)⟩
theorem I5 {m:M} (hk:fu B S m) {h:Heap} (hh:∀id,ax h id=ax m.h id):fu B S (m.heap h):=by
 have hev:=rO (B:=B) (S:=S) hh;refine ⟨fun id=>?_,fun i j hi hj he=>?_,fun id hu=>?_,hk.base,hk.fresh,fun id cs aj fz ety hg=>hk.Pb id cs aj fz ety (by rw [<-hh];exact hg)⟩
 ·unfold Kh;show FM B S _ (m.β id) (ax h id)
  rw [hh];exact hev.KT rfl (hk.obj id)
 ·exact hk.inj i j (by rw [<-hh];exact hi) (by rw [<-hh];exact hj) he
 ·show ax h id=.dead
  rw [hh];exact hk.dom id hu
theorem Rel.ext {e e':Env} (hr:Rel B S w0 nt m e a) (h:∀t,fT e' t=fT e t):Rel B S w0 nt m e' a:=
 ⟨hr.defers,hr.size,fun t=>by rw [h];exact hr.env t,hr.hok,hr.below,hr.inv⟩
theorem Bb {ops:Array Oper}:∀{l:List Oper} {is:List gD},gZ P wz nt ops l=some is->l.length=is.length/\∀(i:Nat) (o:Oper),l[i]?=some o->∃inst:gD,is[i]?=some inst/\zx P wz nt ops o=some inst
 |[],is,h=>by simp only [gZ,A0] at h;subst h;exact ⟨rfl,by simp⟩
 |p::l,is,h=>by
  simp only [gZ,A2,A1,A0] at h;obtain ⟨i,h1,is',h2,rfl⟩:=h;obtain ⟨h3,h4⟩:=Bb h2;refine ⟨by simp [h3],fun k o hk=>?_⟩
  cases k with
  |zero=>simp at hk;subst hk;exact ⟨i,by simp,h1⟩
  |succ k=>simp at hk;obtain ⟨inst,h5,h6⟩:=h4 k o hk;exact ⟨inst,by simpa using h5,h6⟩
theorem IP:∀{is:List gD},ve is=true->∀(i:Nat) (inst:gD),is[i]?=some inst->(∀f ow xs,inst.ins≠.gU f ow xs)/\∀x xs,inst.ins≠.jv x xs
 |[],_,i,inst,hi=>by simp at hi
 |p::is,h,i,inst,hi=>by
  simp only [ve,A5] at h;cases i with
  |zero=>simp at hi;subst hi;exact ⟨fun f ow xs he=>by rw [he] at h;simp at h,fun f xs he=>by rw [he] at h;simp at h⟩
  |succ i=>simp at hi;exact IP h.2 i inst hi
theorem JK:∀{l:List Oper} {k:Nat},La k l=true->∀(i:Nat) (o:Oper),l[i]?=some o->∀e∈o.after.toList,Region.binds .any e=true->e.on < k+i
 |[],_,_,i,o,hi=>by simp at hi
 |p::l,k,h,i,o,hi=>by
  simp only [La,A5] at h;cases i with
  |zero=>
   simp at hi;subst hi;intro e he hb;have:=D0.1 h.1 e he
   simp [hb] at this;omega
  |succ i=>
   simp at hi;intro e he hb;have:=JK h.2 i o hi e he hb
   omega
theorem Oq {ops:Array Oper} {listed:Array Bool} {i:Nat} (h:i∈Region.ready .any ops listed):i < ops.size/\listed.getD i true=false/\∃o,ops[i]?=some o/\∀e∈o.after.toList,Region.binds .any e=true->listed.getD e.on false=true:=by
 unfold Region.ready at h;simp only [List.mem_filter,K2,A5,L1] at h;obtain ⟨h1,h2,h3⟩:=h;refine ⟨h1,h2,?_⟩;cases ho:ops[i]? with
 |none=>simp [ho] at h3
 |some o=>
  simp only [ho,Hj,Option.getD_some,Array.all_eq_true_iff_forall_mem] at h3;refine ⟨o,rfl,fun e he hb=>?_⟩
  have:=h3 e (by simpa using he)
  simpa [hb] using this
theorem Vr {ops:Array Oper} {listed:Array Bool} {i:Nat} {o:Oper} (ho:ops[i]?=some o) (h2:listed.getD i true=false) (h3:∀e∈o.after.toList,Region.binds .any e=true->listed.getD e.on false=true):i∈Region.ready .any ops listed:=by
 unfold Region.ready;simp only [List.mem_filter,K2,A5,L1];refine ⟨(Bk.1 ho).1,h2,?_⟩;simp only [ho,Hj,Option.getD_some,Array.all_eq_true_iff_forall_mem];intro e he;cases hb:Region.binds .any e with
 |false=>simp
 |true=>simpa [hb] using h3 e (by simpa using he) hb
theorem aaN {is:List gD} {ws:List Nat} (h:MK is ws=true) {j:Nat} {i:gD} (hj:is[j]?=some i) {g o:Nat} {xs:List X} (hi:i.ins=.gU g o xs):
  ∀(k:Nat) (i':gD),is[k]?=some i'->(k < j->(ws.getD j 0).testBit k=true\/idle i'.ins=true)/\(j < k->(ws.getD k 0).testBit j=true):=by
 intro k i' hk;have h1:=D0.1 h j (K2.2 (As.1 hj).1);simp only [hj,hi,A5] at h1;have h2:=D0.1 h1.2 k (K2.2 (As.1 hk).1);simp only [hk,Bool.or_eq_true,G0] at h2;refine ⟨fun hlt=>?_,fun hlt=>?_⟩
 ·rcases h2 with h2|h2
  ·omega
  ·rw [C6 hlt] at h2;simpa using h2
 ·rcases h2 with h2|h2
  ·omega
  ·rw [E0 (by omega)] at h2;exact h2
theorem ae8 {is:List gD} {ws:List Nat} (h:ve is=true):MK is ws=true:=by
 unfold MK;refine D0.2 fun j _=>?_
 cases hj:is[j]? with
 |none=>rfl
 |some i=>
  obtain ⟨h1,h2⟩:=IP h j i hj;cases hi:i.ins with
  |jv x xs=>exact absurd hi (h2 x xs)
  |gU f o xs=>exact absurd hi (h1 f o xs)
  |_=>simp only [hi]
structure aqo (B:Nat) (S:Nat->Nat->Prop) (w0:World) (nt:Nat) (ops:Array Oper) (fs:List Eff) (nx:Nat) (e:Env) (h:Heap) (m0:M) (listed:Array Bool) (a:Act) (m:M):Prop where
 size:listed.size=ops.size
 closed:∀(j:Nat) (o:Oper),ops[j]?=some o->listed.getD j false=true->xO (fun j=>listed.getD j false) o
 heap:∀id,ax m.h id=ax (um (fun j=>listed.getD j false) 0 fs h) id
 used:∀i,m.U i->i < kr (fun j=>listed.getD j false) 0 fs nx\/∃k,listed.getD k false=true/\i=kr (fun j=>listed.getD j false) 0 fs nx+k
 rel:Rel B S w0 nt m (mh (fun j=>listed.getD j false) 0 fs e) a
 ev:aB B S m0 m
theorem We {listed:Array Bool} {i:Nat} (hi:i < listed.size):(listed.setIfInBounds i true).getD i false=true:=by simp [hi]
theorem R7 {listed:Array Bool} {i j:Nat} (h:j≠i):(listed.setIfInBounds i true).getD j false=listed.getD j false:=by simp [Array.getElem?_setIfInBounds_ne (Ne.symm h)]
theorem Zw {listed:Array Bool} {i:Nat} (h:listed.getD i true=false):listed.getD i false=false:=by
 rcases L7 i listed.size with h'|h'
 ·simp [h'] at h |-;exact h
 ·simp [Mp h'] at h
theorem ZO {listed:Array Bool} {i:Nat} (hi:i < listed.size) (h:listed.getD i false=false):listed.getD i true=false:=by simp [hi] at h |-;exact h
theorem any_ok {ops:Array Oper} {is:List gD} {fs:List Eff} {nx:Nat} {e:Env} {h:Heap} {m0:M} {Q:Exit->Act->World->Prop} (hcall:∀f vs rs,call f vs=some rs->nY P f vs rs) (hl:∀f aJ bs rs bs',aK f aJ bs=some (rs,bs')->EL P f aJ bs rs bs')
  (hld:∀f ds h k rs h' n',fO f ds h k=some (rs,h',n')->J3 P f ds h k rs h' n')
  (hc:gZ P wz nt ops ops.toList=some is) (hmx:MK is (waits [] ops.toList)=true) (KZ:La 0 ops.toList=true) (amn:Ran call aK fO 0 nx is e h fs) (hok:BO (fs.map (·.tr)) (waits [] ops.toList)=true)
  (hK:∀(a':Act) (m':M),(∀id,ax m'.h id=ax (um (fun _=>true) 0 fs h) id)->Ml m' (kr (fun _=>true) 0 fs nx+ops.size)->aB B S m0 m'->Rel B S w0 nt m' (mh (fun _=>true) 0 fs e) a'->Q .normal a' m'.w):
  ∀(n:Nat) (listed:Array Bool) (a:Act) (m:M),aqo B S w0 nt ops fs nx e h m0 listed a m->(∃l:List Nat,l.length=n/\l.Nodup/\∀i,i∈l↔i < ops.size/\listed.getD i false=false)->wpAny P .any ops Q n listed a m.w:=by
 obtain ⟨hlen,hget⟩:=Bb hc;have hlen':ops.size=is.length:=by rw [<-hlen];simp
 have hfl:∀{is:List gD} {k b:Nat} {e:Env} {h:Heap} {fs:List Eff},Ran call aK fO k b is e h fs->fs.length=is.length:=by
  intro is;induction is with
  |nil=>intro k b e h fs hr;cases fs with|nil=>rfl|cons _ _=>exact hr.elim
  |cons i is ih=>intro k b e h fs hr;cases fs with|nil=>exact hr.elim|cons f fs=>obtain ⟨_,_,_,hr⟩:=hr;simp [ih hr]
 have hfs:fs.length=ops.size:=by rw [hfl amn,hlen']
 have finish:∀(listed:Array Bool) (a:Act) (m:M),aqo B S w0 nt ops fs nx e h m0 listed a m->(∀i,i < ops.size->listed.getD i false=true)->Q .normal a m.w:=by
  intro listed a m inv hall;have hE:∀t,fT (mh (fun _=>true) 0 fs e) t=fT (mh (fun j=>listed.getD j false) 0 fs e) t:=fun t=>Ch rfl fun j f hf hne=>by
   exfalso;have hj:j < ops.size:=by rw [<-hfs];exact (As.1 hf).1
   simp only [E4] at hne;rw [hall j hj] at hne;exact hne rfl
  have hH:∀id,ax m.h id=ax (um (fun _=>true) 0 fs h) id:=fun id=>by
   rw [inv.heap];exact sw rfl fun j f hf hne=>by
    exfalso;have hj:j < ops.size:=by rw [<-hfs];exact (As.1 hf).1
    simp only [E4] at hne;rw [hall j hj] at hne;exact hne rfl
  have hB:kr (fun j=>listed.getD j false) 0 fs nx=kr (fun _=>true) 0 fs nx:=BS fun j f hf _=>by simp only [E4];exact hall j (by rw [<-hfs];exact (As.1 hf).1)
  refine hK a m hH (fun i hi=>?_) inv.ev (inv.rel.ext hE)
  rcases inv.used i hi with h1|⟨k,h1,rfl⟩
  ·rw [hB] at h1;omega
  ·rw [hB];have:k < listed.size:=by
    rcases L7 k listed.size with h2|h2
    ·exact h2
    ·simp [Mp h2] at h1
   rw [inv.size] at this;omega
 intro n;induction n with
 |zero=>
  rintro listed a m inv ⟨l,hl1,_,hl2⟩;have hl0:l=[]:=Cp hl1;subst hl0;have hall:∀i,i < ops.size->listed.getD i false=true:=fun i hi=>by
   cases hb:listed.getD i false with
   |true=>rfl
   |false=>have:=(hl2 i).2 ⟨hi,hb⟩;cases this
  refine ⟨?_,finish listed a m inv hall⟩;cases hr:Region.ready .any ops listed with
  |nil=>rfl
  |cons i r=>
   have hi:i∈Region.ready .any ops listed:=by rw [hr];simp
   obtain ⟨h1,h2,_⟩:=Oq hi;have:=hall i h1
   rw [Zw h2] at this;cases this
 |succ n ih=>
  rintro listed a m inv ⟨l,hl1,hl2,hl3⟩;refine ⟨fun hnone=>finish listed a m inv fun i hi=>?_,fun i hi=>?_⟩
  ·
   cases hb:listed.getD i false with
   |true=>rfl
   |false=>
    exfalso;have key:∀k,∀i,i<=k->i < ops.size->listed.getD i false=false->∃j,j∈Region.ready .any ops listed:=by
     intro k;induction k with
     |zero=>
      intro i hik his hib;have hi0:i=0:=by omega
      subst hi0;have ho:ops[0]?=some ops[0]:=Kf his;refine ⟨0,Vr ho (ZO (by rw [inv.size];exact his) hib) fun e he hbd=>?_⟩
      have:=JK KZ 0 ops[0] (by simp) e he hbd
      omega
     |succ k ihk=>
      intro i hik his hib;have ho:ops[i]?=some ops[i]:=Kf his;by_cases hed:∀e∈ops[i].after.toList,Region.binds .any e=true->listed.getD e.on false=true
      ·exact ⟨i,Vr ho (ZO (by rw [inv.size];exact his) hib) hed⟩
      ·have:∃e,e∈ops[i].after.toList/\Region.binds .any e=true/\listed.getD e.on false=false:=by
        apply Classical.byContradiction;intro hno;apply hed;intro e he hbd;cases hq:listed.getD e.on false with
        |true=>rfl
        |false=>exact absurd ⟨e,he,hbd,hq⟩ hno
       obtain ⟨e,he,hbd,hq⟩:=this;have hlt:=JK KZ i ops[i] (by simp) e he hbd
       exact ihk e.on (by omega) (by omega) hq
    obtain ⟨j,hj⟩:=key i i (An _) hi hb;rw [hnone] at hj;cases hj
  ·obtain ⟨hi1,hi2,o,ho,afj⟩:=Oq hi;have hif:=Zw hi2;have ho':ops.toList[i]?=some o:=by simpa using ho
   obtain ⟨inst,hinst,hcomp⟩:=hget i o ho';obtain ⟨f,hf,hq,hqe,ahp⟩:=Ran.at amn hinst;simp only [E4] at hqe ahp;obtain ⟨hdst,hwT,hwH,hact⟩:=ahp;have hbs:∀(j:Nat) (b:Nat) (o:Oper),(waits [] ops.toList)[j]?=some b->ops.toList[j]?=some o->xO (fun j=>listed.getD j false) o->∀x,b.testBit x=true->listed.getD x false=true:=
    Vf (L:=fun j=>listed.getD j false) (fun j o hj hl=>inv.closed j o (by simpa using hj) hl) ops.toList [] (by simp) (by simp)
   have hwl:(waits [] ops.toList).length=ops.size:=by rw [PO];simp
   have aoB:∀j,j < i->listed.getD j false=false->aiV (waits [] ops.toList) j i:=fun j hji hj=>
    ND hji (by rw [hwl];exact hi1) fun b hb hm=>by
     have:=hbs i b o hb ho' afj j hm
     rw [hj] at this;cases this
   have afR:∀j,i < j->listed.getD j false=true->aiV (waits [] ops.toList) i j:=fun j hij hj=>by
    have hjs:j < ops.size:=by
     rcases L7 j listed.size with h2|h2
     ·rw [<-inv.size];exact h2
     ·simp [Mp h2] at hj
    refine ND hij (by rw [hwl];exact hjs) fun b hb hm=>?_
    have hoj:ops[j]?=some ops[j]:=Kf hjs;have:=hbs j b ops[j] hb (by simp) (inv.closed j _ hoj hj) i hm
    rw [hif] at this;cases this
   have htr:∀(j:Nat) (g:Eff),fs[j]?=some g->(fs.map (·.tr))[j]?=some g.tr:=fun j g hg=>by simp [hg]
   have Nk:∀(j:Nat) (g:Eff),fs[j]?=some g->g.tr.WY=g.dst.toList/\(∀x,x∈g.us.map (·.1)->x∈g.tr.Xc)/\(g.nx≠none->∃ij gg xs,is[j]?=some ij/\ij.ins=.gU gg 2 xs):=fun j g hg=>by
    have hjl:j < is.length:=by rw [<-hlen',<-hfs];exact (As.1 hg).1
    obtain ⟨g',hg',_,_,hd1,hd2,hd3,hd4⟩:=Ran.at amn (A6 hjl);rw [hg] at hg';simp only [A0] at hg';subst hg';refine ⟨by rw [hd2,hd1],hd3,fun hn=>?_⟩
    rcases hd4 _ (fun _ _=>rfl) with ⟨_,_,_,h4⟩|⟨_,h4,_⟩|⟨_,gg,xs,n,_,_,h5,_⟩
    ·exact absurd h4 hn
    ·exact absurd h4 hn
    ·exact ⟨_,gg,xs,A6 hjl,h5⟩
   have hwg:∀(k:Nat),k < ops.size->∃b,(waits [] ops.toList)[k]?=some b/\(waits [] ops.toList).getD k 0=b:=fun k hk=>by
    have:k < (waits [] ops.toList).length:=by rw [hwl];exact hk
    exact ⟨_,A6 this,by simp [this]⟩
   have behind:∀(j:Nat) (g:Eff),fs[j]?=some g->g.nx≠none->∀(k:Nat) (ok:Oper),ops.toList[k]?=some ok->xO (fun j=>listed.getD j false) ok->j < k->listed.getD j false=true:=fun j g hg hn k ok hk he hjk=>by
    obtain ⟨ij,gg,xs,h1,h2⟩:=(Nk j g hg).2.2 hn;obtain ⟨ik,h3,_⟩:=hget k ok hk;have hks:k < ops.size:=by have:=(As.1 hk).1;simpa using this
    obtain ⟨b,hb1,hb2⟩:=hwg k hks;have:=(aaN hmx h1 h2 k ik h3).2 hjk
    rw [hb2] at this;exact hbs k b ok hb1 hk he j this
   have ahead:∀(j:Nat) (g:Eff),fs[j]?=some g->g.nx≠none->∀(oj:Oper),ops.toList[j]?=some oj->xO (fun j=>listed.getD j false) oj->∀(k:Nat) (ik:gD),is[k]?=some ik->k < j->listed.getD k false=true\/idle ik.ins=true:=fun j g hg hn oj hj he k ik hk hkj=>by
    obtain ⟨ij,gg,xs,h1,h2⟩:=(Nk j g hg).2.2 hn;have hjs:j < ops.size:=by have:=(As.1 hj).1;simpa using this
    obtain ⟨b,hb1,hb2⟩:=hwg j hjs;rcases (aaN hmx h1 h2 k ik hk).1 hkj with h3|h3
    ·rw [hb2] at h3;exact .inl (hbs j b oj hb1 hj he k h3)
    ·exact .inr h3
   have hlt:∀(j:Nat),listed.getD j false=true->j < ops.size:=fun j hj=>by
    rcases L7 j listed.size with h2|h2
    ·rw [<-inv.size];exact h2
    ·simp [Mp h2] at hj
   have Q6:∀(j:Nat),listed.getD j false=true->∃oj,ops.toList[j]?=some oj/\xO (fun j=>listed.getD j false) oj:=fun j hj=>by have hoj:ops[j]?=some (ops[j]'(hlt j hj)):=Kf (hlt j hj);exact ⟨_,by simpa using hoj,inv.closed j _ hoj hj⟩
   have hbase:idle inst.ins=false->kr (fun j=>listed.getD j false) 0 fs nx=kr (fun j=>decide (j < i)) 0 fs nx:=fun hid=>BS fun j g hg hn=>by
    simp only [E4];rcases Nat.lt_trichotomy j i with h1|h1|h1
    ·rw [behind j g hg hn i o ho' afj h1];simp [h1]
    ·subst h1;rw [hif];simp
    ·cases hb:listed.getD j false with
     |false=>simp;omega
     |true=>
      exfalso;obtain ⟨oj,h2,h3⟩:=Q6 j hb;rcases ahead j g hg hn oj h2 h3 i inst hinst h1 with h4|h4
      ·rw [hif] at h4;cases h4
      ·rw [hid] at h4;cases h4
   have far:∀(j:Nat) (g:Eff),fs[j]?=some g->listed.getD j false≠decide (j < i)->(∀t,t∈g.tr.WY->t ∉ f.tr.rdT)/\(∀t,t∈g.tr.Xc->t ∉ f.tr.Xo):=fun j g hg hne=>by
    rcases Nat.lt_trichotomy j i with hlt|heq|hgt
    ·have hj:listed.getD j false=false:=by
      cases hb:listed.getD j false with
      |false=>rfl
      |true=>rw [hb] at hne;simp [hlt] at hne
     have hcl:=Ap (BM hok (aoB j hlt hj) (htr j g hg) (htr i f hf));exact ⟨fun t ht=>(hcl.1 t ht).1,fun t ht=>(hcl.2.2.1 t ht).1⟩
    ·subst heq;rw [hif] at hne;simp at hne
    ·have hj:listed.getD j false=true:=by
      cases hb:listed.getD j false with
      |true=>rfl
      |false=>rw [hb] at hne;simp at hne;omega
     have hcl:=Ap (BM hok (afR j hgt hj) (htr i f hf) (htr j g hg));exact ⟨hcl.2.1,hcl.2.2.2⟩
   have agE:∀t,t∈f.tr.rdT->fT (mh (fun j=>listed.getD j false) 0 fs e) t=fT (mh (fun j=>decide (j < i)) 0 fs e) t:=fun t ht=>
    Ch rfl fun j g hg hne hd=>by
     simp only [E4] at hne;have:=(far j g hg hne).1 t (by rw [(Nk j g hg).1,hd];simp)
     exact this ht
   have agH:∀id,id∈f.tr.Xo->ax m.h id=ax hq id:=fun id hid=>by
    rw [hqe,inv.heap];exact sw rfl fun j g hg hne hd=>by simp only [E4] at hne;exact (far j g hg hne).2 id ((Nk j g hg).2.1 id hd) hid
   have Hy:∀j,j≠i->(listed.setIfInBounds i true).getD j false=listed.getD j false:=fun j hj=>R7 hj
   have OD:(listed.setIfInBounds i true).getD i false=true:=We (by rw [inv.size];exact hi1)
   have aeS:∀t,fT (mh (fun j=>(listed.setIfInBounds i true).getD j false) 0 fs e) t=fT (j5 (mh (fun j=>listed.getD j false) 0 fs e) f.dst f.d) t:=fun t=>by
    rw [yu];exact Vz (L:=fun j=>listed.getD j false) (L':=fun j=>(listed.setIfInBounds i true).getD j false) hf (by simpa using hif) (by simpa using OD) (fun j hj=>by simpa using Hy j hj) fun j g hij hg hl hd hgd=>by simp only [E4] at hl;have hcl:=Ap (BM hok (afR j hij hl) (htr i f hf) (htr j g hg));exact (hcl.1 t (by rw [(Nk i f hf).1,hd];simp)).2 (by rw [(Nk j g hg).1,hgd];simp)
   have ae0:∀(hp:Heap),(∀id,ax hp id=ax (um (fun j=>listed.getD j false) 0 fs h) id)->∀id,ax (ay hp f.us) id=ax (um (fun j=>(listed.setIfInBounds i true).getD j false) 0 fs h) id:=fun hp hhp id=>by
    rw [Uw (L:=fun j=>listed.getD j false) (L':=fun j=>(listed.setIfInBounds i true).getD j false) hf (by simpa using hif) (by simpa using OD) (fun j hj=>by simpa using Hy j hj) fun j g hij hg hl hd hgd=>by simp only [E4] at hl;have hcl:=Ap (BM hok (afR j hij hl) (htr i f hf) (htr j g hg));exact (hcl.2.2.1 id (hwH id hd)).2 ((Nk j g hg).2.1 id hgd)]
    exact M0 (hhp id)
   have MN:∀(j:Nat) (o:Oper),ops[j]?=some o->(listed.setIfInBounds i true).getD j false=true->xO (fun j=>(listed.setIfInBounds i true).getD j false) o:=by
    intro j oj hoj hl e he hbd;have hmono:∀k,listed.getD k false=true->(listed.setIfInBounds i true).getD k false=true:=fun k hk=>by
     by_cases hki:k=i
     ·subst hki;exact OD
     ·rw [Hy k hki];exact hk
    by_cases hji:j=i
    ·subst hji;rw [ho] at hoj;simp only [A0] at hoj;subst hoj;exact hmono _ (afj e he hbd)
    ·rw [Hy j hji] at hl;exact hmono _ (inv.closed j oj hoj hl e he hbd)
   have hcount:∃l':List Nat,l'.length=n/\l'.Nodup/\∀j,j∈l'↔j < ops.size/\(listed.setIfInBounds i true).getD j false=false:=by
    have hil:i∈l:=(hl3 i).2 ⟨hi1,hif⟩;refine ⟨l.erase i,by rw [List.length_erase_of_mem hil,hl1];omega,hl2.erase i,fun j=>?_⟩
    rw [hl2.mem_erase_iff,hl3];constructor
    ·rintro ⟨h1,h2,h3⟩;exact ⟨h2,by rw [Hy j h1];exact h3⟩
    ·rintro ⟨h1,h2⟩;have hji:j≠i:=fun e=>by subst e;rw [OD] at h2;cases h2
     exact ⟨hji,h1,by rw [<-Hy j hji];exact h2⟩
   unfold wpOp;rw [ho];simp only;have aqd:¬m.U (kr (fun j=>listed.getD j false) 0 fs nx+i):=fun hx=>by
    rcases inv.used _ hx with h1|⟨k,h1,h2⟩
    ·omega
    ·have:k=i:=by omega
     subst this;rw [hif] at h1;cases h1
   have afv:f.nx=none->∀(m':M),m'.U=(fun j=>m.U j\/j=kr (fun j=>listed.getD j false) 0 fs nx+i)->∀j,m'.U j->j < kr (fun j=>(listed.setIfInBounds i true).getD j false) 0 fs nx\/∃k,(listed.setIfInBounds i true).getD k false=true/\j=kr (fun j=>(listed.setIfInBounds i true).getD j false) 0 fs nx+k:=by
    intro hfn m' hm' j hj;have hb:kr (fun j=>(listed.setIfInBounds i true).getD j false) 0 fs nx=kr (fun j=>listed.getD j false) 0 fs nx:=BS fun j g hg hn=>by
     simp only [E4];refine Hy j fun e=>?_
     subst e;rw [hf] at hg;simp only [A0] at hg;subst hg;exact hn hfn
    rw [hb];rw [hm'] at hj;rcases hj with hj|hj
    ·rcases inv.used j hj with h1|⟨k,h1,h2⟩
     ·exact .inl h1
     ·refine .inr ⟨k,?_,h2⟩;by_cases hki:k=i
      ·subst hki;exact OD
      ·rw [Hy k hki];exact h1
    ·exact .inr ⟨i,OD,hj⟩
   rcases hact (mh (fun j=>listed.getD j false) 0 fs e) agE with ⟨hw,hfd,hfu,hfn⟩|⟨hw,hfn,hnc,hst⟩|⟨hw,gg,xs,n',h',hfn,hins,hlc,hh',hout⟩
   ·rw [EU inv.rel hcomp (b:=false) hw];simp only [C7,C2];obtain ⟨_,p2,p3,_⟩:=iD hcomp;have hr2:Rel B S w0 nt m (j5 (mh (fun j=>listed.getD j false) 0 fs e) f.dst f.d) (a.put o.dst undef):=by
     rw [hfd,hdst,p2];exact inv.rel.put p3 ⟨[],rfl,trivial⟩
    have hg:=fD (B:=B) (S:=S) m (kr (fun j=>listed.getD j false) 0 fs nx+i)
    refine ih _ _ (m.grow (kr (fun j=>listed.getD j false) 0 fs nx+i)) ⟨by simpa using inv.size,MN,?_,afv hfn _ rfl,?_,inv.ev.trans hg⟩ hcount
    ·intro id;have:=ae0 m.h inv.heap id
     rw [hfu] at this;exact this
    ·have hr3:Rel B S w0 nt (m.grow (kr (fun j=>listed.getD j false) 0 fs nx+i)) (j5 (mh (fun j=>listed.getD j false) 0 fs e) f.dst f.d) (a.put o.dst undef):=hr2.AY hg (vT hr2.hok _) (Below.refl _ _)
     exact hr3.ext aeS
   ·rw [EU inv.rel hcomp (b:=true) hw];simp only [E7];refine .inl ?_;have hst':j3 call aK (yh (mh (fun j=>listed.getD j false) 0 fs e)) m.h (kr (fun j=>listed.getD j false) 0 fs nx+i) inst.ins=some (f.d,f.us):=
     hst m.h _ agH (by
      cases hid:idle inst.ins with
      |true=>exact .inr rfl
      |false=>exact .inl (by rw [hbase hid]))
    refine af3 hcomp hnc.1 hnc.2 inv.rel aqd hcall hl hst' fun a' m' q1 q2 q3 q4=>?_
    refine ih _ a' m' ⟨by simpa using inv.size,MN,?_,afv hfn m' q2,?_,inv.ev.trans q3⟩ hcount
    ·intro id;rw [q1];exact ae0 m.h inv.heap id
    ·rw [<-hdst] at q4;exact q4.ext aeS
   ·rw [EU inv.rel hcomp (b:=true) hw];simp only [E7];refine .inl ?_;have hb:=hbase (by rw [hins];rfl)
    have hU:Ml m (kr (fun j=>decide (j < i)) 0 fs nx+i):=fun u hu=>by
     rw [<-hb];rcases inv.used u hu with h1|⟨k,h1,rfl⟩
     ·omega
     ·rcases Nat.lt_trichotomy k i with h2|h2|h2
      ·omega
      ·subst h2;rw [hif] at h1;cases h1
      ·obtain ⟨ok,h3,h4⟩:=Q6 k h1;have:=behind i f hf (by rw [hfn];simp) k ok h3 h4 h2
       rw [hif] at this;cases this
    have hqm:∀id,ax hq id=ax m.h id:=fun id=>by
     by_cases hid:id∈f.tr.Xo
     ·exact (agH id hid).symm
     ·obtain ⟨h1,h2⟩:=hout id hid;rw [h2,inv.rel.hok.dom id fun hu=>by have:=hU id hu;omega]
    have e1:=rO (B:=B) (S:=S) (m:=m) hqm;have e2:=I5 inv.rel.hok hqm;have hr1:Rel B S w0 nt (m.heap hq) (mh (fun j=>listed.getD j false) 0 fs e) a:=inv.rel.AY e1 e2 (Below.refl _ _)
    obtain ⟨p1,p2,p3,_⟩:=iD hcomp;rw [hins] at p1;obtain ⟨args,ts,hop,h7⟩:=Ii (BJ p1 rfl);obtain ⟨alH,hs2⟩:=aap hld hlc;unfold Oper.wp;rw [IA alH hop];show Calls P gg (args.map a.eval) m.w _
    have hcc:=hs2 B S (m.heap hq) (args.map a.eval).toList rfl hU e2 hr1.inv (by simpa using tO hr1 h7)
    rw [Array.toArray_toList] at hcc;refine hcc.mono fun ex w' ⟨v,m',q0,q1,q2,q3,q4,q5,q6,q7⟩=>?_
    subst q0 q1;have hr2:Rel B S w0 nt m' (j5 (mh (fun j=>listed.getD j false) 0 fs e) f.dst f.d) (a.put o.dst v):=by rw [hdst,p2];exact (hr1.AY q5 q4 q7).put p3 q6
    have hbn:kr (fun j=>(listed.setIfInBounds i true).getD j false) 0 fs nx=n':=PD hf hfn (by simpa using OD) fun j g hij hg hn=>by
     simp only [E4];rw [Hy j (by omega)]
     cases hj:listed.getD j false with
     |false=>rfl
     |true=>
      exfalso;obtain ⟨oj,h3,h4⟩:=Q6 j hj;have:=behind i f hf (by rw [hfn];simp) j oj h3 h4 hij
      rw [hif] at this;cases this
    refine ih _ _ m' ⟨by simpa using inv.size,MN,fun id=>?_,fun u hu=>?_,hr2.ext aeS,inv.ev.trans (e1.trans q5)⟩ hcount
    ·rw [q2,hh',<-ae0 m.h inv.heap id];exact M0 (hqm id)
    ·rw [hbn];exact .inl (q3 u hu)
theorem Ut {id:Nat} {ops:Array Oper} {is:List gD} {Q:Exit->Act->World->Prop} (hm:P.follows .mixedOrders=true) (hcall:∀f vs rs,call f vs=some rs->nY P f vs rs) (hl:∀f aJ bs rs bs',aK f aJ bs=some (rs,bs')->EL P f aJ bs rs bs')
  (hld:∀f ds h k rs h' n',fO f ds h k=some (rs,h',n')->J3 P f ds h k rs h' n')
  (hc:gZ P wz nt ops ops.toList=some is) (hmx:MK is (waits [] ops.toList)=true) (KZ:La 0 ops.toList=true) {s:St} {m:M} {a:Act} (hh:m.h=s.heap) (hU:Ml m s.nx) (hr:Rel B S w0 nt m s.env a)
  {fs:List Eff} (r1:Ran call aK fO 0 s.nx is s.env s.heap fs) (hok:BO (fs.map (·.tr)) (waits [] ops.toList)=true) {h':Heap} (hH:∀id,ax h' id=ax (um (fun _=>true) 0 fs s.heap) id)
  (hK:∀(a':Act) (m':M),m'.h=h'->Ml m' (kr (fun _=>true) 0 fs s.nx+is.length)->aB B S m m'->Rel B S w0 nt m' (mh (fun _=>true) 0 fs s.env) a'->Q .normal a' m'.w):(Code.region id ops true).wp P Q a m.w:=by
 refine wp_region_any hm ?_;have hlen:ops.size=is.length:=by rw [<-(Bb hc).1];simp
 have hb:∀k,k < m.w.heap.size->m.w.drew.heap[k]?=m.w.heap[k]?:=fun _ _=>rfl
 have ev0:=Bj hr.hok (w':=m.w.drew) hb;have hk0:=PI hr.hok (w':=m.w.drew) hb (An _);have hr0:Rel B S w0 nt (m.world m.w.drew) s.env a:=hr.AY ev0 hk0 ((Below.refl B m.w).drew);have hnone:∀j,(Array.replicate ops.size false).getD j false=false:=by
  intro j;rcases L7 j ops.size with h|h
  ·simp [h]
  ·simp [h]
 refine any_ok (w0:=w0) (m0:=m) hcall hl hld hc hmx KZ r1 hok (fun a' m' q1 q2 q3 q4=>?_) ops.size (Array.replicate ops.size false) a (m.world m.w.drew) ⟨by simp,fun j o _ hl=>?_,fun i=>?_,fun i hi=>?_,?_,ev0⟩ ⟨List.range ops.size,by simp,List.nodup_range,fun i=>?_⟩
 ·have e1:=rO (B:=B) (S:=S) (m:=m') (h:=h') fun i=>(hH i).trans (q1 i).symm
  have e2:=I5 q4.hok (h:=h') fun i=>(hH i).trans (q1 i).symm
  exact hK a' (m'.heap h') rfl (by rw [<-hlen];exact q2) (q3.trans e1) (q4.AY e1 e2 (Below.refl _ _))
 ·rw [hnone] at hl;cases hl
 ·rw [J2 (fun j _=>hnone j)]
  show ax m.h i=_
  rw [hh]
 ·rw [EX (fun j _ _ _=>hnone _)]
  exact .inl (hU i hi)
 ·rw [JN (fun j _=>hnone j)];exact hr0
 ·rw [hnone];simp
theorem ahj {id:Nat} {ops:Array Oper} {is:List gD} {Q:Exit->Act->World->Prop} (hm:P.follows .mixedOrders=true) (hcall:∀f vs rs,call f vs=some rs->nY P f vs rs) (hl:∀f aJ bs rs bs',aK f aJ bs=some (rs,bs')->EL P f aJ bs rs bs')
  (hc:gZ P wz nt ops ops.toList=some is) (hns:ve is=true) (KZ:La 0 ops.toList=true) {s:St} {m:M} {a:Act} (hh:m.h=s.heap) (hU:Ml m s.nx) (hr:Rel B S w0 nt m s.env a)
  {e':Env} {h':Heap} {ts:List Trace} (hev:lT call aK s.nx 0 is s.env s.heap=some (e',h',ts)) (hok:BO ts (waits [] ops.toList)=true)
  (hK:∀(a':Act) (m':M),m'.h=h'->Ml m' (s.nx+is.length)->aB B S m m'->Rel B S w0 nt m' e' a'->Q .normal a' m'.w):(Code.region id ops true).wp P Q a m.w:=by
 obtain ⟨fs,r1,rfl,rfl,rfl,r5⟩:=Xm (fO:=fun _ _ _ _=>none) hns hev
 exact Ut hm hcall hl (fun _ _ _ _ _ _ _ hx=>by cases hx) hc (ae8 hns) KZ hh hU hr r1 hok (fun _=>rfl) (by rw [r5];exact hK)
theorem ams {id:Nat} {ops:Array Oper} {is:List gD} {Q:Exit->Act->World->Prop} (hm:P.follows .mixedOrders=true) (hcall:∀f vs rs,call f vs=some rs->nY P f vs rs) (hl:∀f aJ bs rs bs',aK f aJ bs=some (rs,bs')->EL P f aJ bs rs bs')
  (hld:∀f ds h k rs h' n',fO f ds h k=some (rs,h',n')->J3 P f ds h k rs h' n')
  (hc:gZ P wz nt ops ops.toList=some is) (hmx:MK is (waits [] ops.toList)=true) (KZ:La 0 ops.toList=true) {s:St} {m:M} {a:Act} (hh:m.h=s.heap) (hU:Ml m s.nx) (hr:Rel B S w0 nt m s.env a)
  {e':Env} {h':Heap} {n':Nat} {ts:List Trace} (hev:CU call aK fO 0 s.nx [] is s.env s.heap=some (e',h',n',ts)) (hok:BO ts (waits [] ops.toList)=true)
  (hK:∀(a':Act) (m':M),m'.h=h'->Ml m' n'->aB B S m m'->Rel B S w0 nt m' e' a'->Q .normal a' m'.w):(Code.region id ops true).wp P Q a m.w:=by
 obtain ⟨fs,r1,rfl,rfl,r4,rfl⟩:=ads hev;exact Ut hm hcall hl hld hc hmx KZ hh hU hr r1 hok r4 (by rw [E4] at hK;exact hK)
end
end Go.Ey
