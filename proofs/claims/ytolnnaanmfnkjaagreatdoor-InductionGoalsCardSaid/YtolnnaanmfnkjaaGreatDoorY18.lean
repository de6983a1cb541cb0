/- A part. -/
import Derived.Test.YtolnnaanmfnkjaaGreatDoorY16
import Derived.Orders
set_option linter.all false
namespace Go.Ey
open Go.RowKit
variable [lV]
structure Eff where
 dst:Option Nat
 d:D
 us:List (Nat×Obj)
 tr:Trace
 nx:Option Nat
def Tx (g:Option (Nat×Bool)):List Nat:=match g with|some (t,_)=>[t]|none=>[]
def Did (call:Callee) (bg:Cv) (gU:xg) (s:Nat) (i:jl) (e:Env) (h:Heap) (f:Eff):Prop:=
 f.dst=i.dst/\f.tr.XD=i.dst.toList/\(∀x,x∈f.us.map (·.1)->x∈f.tr.XE)/\∀e2,(∀t,t∈f.tr.rdT->iM e2 t=iM e t)->
  ((wanted e2 i.guard=some false/\f.d=AZ/\f.us=[]/\f.nx=none)\/
   (wanted e2 i.guard=some true/\f.nx=none/\((∀g o xs,i.ins≠.jB g o xs)/\∀x xs,i.ins≠.kX x xs)/\∀h2 s2,(∀id,id∈f.tr.Yu->aH h2 id=aH h id)->(s2=s\/idle i.ins=true)->lW call bg (zT e2) h2 s2 i.ins=some (f.d,f.us))\/
   (wanted e2 i.guard=some true/\∃g xs n h',f.nx=some n/\i.ins=.jB g 2 xs/\zy gU 2 g (xs.map (zT e2)) h s=some (f.d,h',n)/\(∀id,aH h' id=aH (aK h f.us) id)/\∀id,id ∉ f.tr.Yu->s<=id/\aH h id=.dead))
def Ran (call:Callee) (bg:Cv) (gU:xg):Nat->Nat->List jl->Env->Heap->List Eff->Prop
 |_,_,[],_,_,[]=>True
 |k,b,i::is,e,h,f::fs=>Did call bg gU (b+k) i e h f/\∃h',(∀id,aH h' id=aH (aK h f.us) id)/\Ran call bg gU (k+1) (f.nx.getD b) is (l8 e f.dst f.d) h' fs
 |_,_,_,_,_,_=>False
def mO (L:Nat->Bool):Nat->List Eff->Env->Env
 |_,[],e=>e
 |k,f::fs,e=>mO L (k+1) fs (if L k then l8 e f.dst f.d else e)
def yf (L:Nat->Bool):Nat->List Eff->Heap->Heap
 |_,[],h=>h
 |k,f::fs,h=>yf L (k+1) fs (if L k then aK h f.us else h)
def mI (L:Nat->Bool):Nat->List Eff->Nat->Nat
 |_,[],b=>b
 |k,f::fs,b=>mI L (k+1) fs (if L k then f.nx.getD b else b)
theorem F9 {L:Nat->Bool}:∀{fs:List Eff} {k b:Nat},(∀(j:Nat) (f:Eff),fs[j]?=some f->f.nx≠none->L (k+j)=false)->mI L k fs b=b
 |[],_,_,_=>rfl
 |f::fs,k,b,h=>by
  have h0:(if L k then f.nx.getD b else b)=b:=by
   cases hf:f.nx with
   |none=>simp
   |some n=>rw [show L k=false from h 0 f (by simp) (by rw [hf];simp)];rfl
  simp only [mI,h0];exact F9 fun j g hg hn=>by rw [show k+1+j=k+(j+1) by omega];exact h (j+1) g (by simpa using hg) hn
theorem CZ {L L':Nat->Bool}:∀{fs:List Eff} {k b:Nat},(∀(j:Nat) (f:Eff),fs[j]?=some f->f.nx≠none->L (k+j)=L' (k+j))->mI L k fs b=mI L' k fs b
 |[],_,_,_=>rfl
 |f::fs,k,b,h=>by
  have h0:(if L k then f.nx.getD b else b)=if L' k then f.nx.getD b else b:=by
   cases hf:f.nx with
   |none=>simp
   |some n=>rw [show L k=L' k from h 0 f (by simp) (by rw [hf];simp)]
  simp only [mI,h0];exact CZ fun j g hg hn=>by rw [show k+1+j=k+(j+1) by omega];exact h (j+1) g (by simpa using hg) hn
theorem QU {L:Nat->Bool} {n:Nat}:∀{fs:List Eff} {k b i:Nat} {f:Eff},fs[i]?=some f->f.nx=some n->L (k+i)=true->(∀(j:Nat) (g:Eff),i < j->fs[j]?=some g->g.nx≠none->L (k+j)=false)->mI L k fs b=n
 |[],_,_,_,_,hi,_,_,_=>by simp at hi
 |f0::fs,k,b,0,f,hi,hn,h1,h2=>by simp only [D2,A0] at hi;subst hi;simp only [Hp] at h1;simp only [mI,h1,Ek,hn,Option.getD_some];exact F9 fun j g hg hg2=>by rw [show k+1+j=k+(j+1) by omega];exact h2 (j+1) g (by omega) (by simpa using hg) hg2
 |f0::fs,k,b,i+1,f,hi,hn,h1,h2=>by simp only [C6] at hi;simp only [mI];exact QU hi hn (by rw [show k+1+i=k+(i+1) by omega];exact h1) fun j g hj hg hg2=>by rw [show k+1+j=k+(j+1) by omega];exact h2 (j+1) g (by omega) (by simpa using hg) hg2
theorem Km {L:Nat->Bool}:∀{fs:List Eff} {k:Nat} {e:Env},(∀j,k<=j->L j=false)->mO L k fs e=e
 |[],_,_,_=>rfl
 |f::fs,k,e,h=>by simp only [mO,h k (B9 _),Cd,C2];exact Km fun j hj=>h j (by omega)
theorem Kv {L:Nat->Bool}:∀{fs:List Eff} {k:Nat} {h:Heap},(∀j,k<=j->L j=false)->yf L k fs h=h
 |[],_,_,_=>rfl
 |f::fs,k,e,h=>by simp only [yf,h k (B9 _),Cd,C2];exact Kv fun j hj=>h j (by omega)
theorem Dw {L L':Nat->Bool} {t:Nat}:∀{fs:List Eff} {k:Nat} {e e':Env},iM e t=iM e' t->(∀(j:Nat) (f:Eff),fs[j]?=some f->L (k+j)≠L' (k+j)->f.dst≠some t)->iM (mO L k fs e) t=iM (mO L' k fs e') t
 |[],_,_,_,he,_=>he
 |f::fs,k,e,e',he,h=>by
  simp only [mO];refine Dw ?_ fun j g hg hne=>h (j+1) g (by simpa using hg) (by rw [show k+(j+1)=k+1+j by omega];exact hne)
  have h0:=h 0 f (by simp)
  simp only [Hp] at h0;cases h1:L k<;>cases h2:L' k<;>simp only [Ek,Cd,C2,Ah]
  ·exact he
  ·rw [Dd (h0 (by rw [h1,h2];simp))];exact he
  ·rw [Dd (h0 (by rw [h1,h2];simp))];exact he
  ·rw [he]
theorem tC {us:List (Nat×Obj)}:∀{h:Heap} {id:Nat},id ∉ us.map (·.1)->aH (aK h us) id=aH h id:=by
 induction us with
 |nil=>intros;rfl
 |cons u us ih=>
  intro h id hn;simp only [Cp,D1,not_or] at hn;simp only [aK];rw [ih hn.2];obtain ⟨i,o⟩:=u;have hne:¬i=id:=fun e=>hn.1 e.symm
  simp only [aH,Dd hne]
theorem aap {us:List (Nat×Obj)}:∀{h h':Heap} {id:Nat},id∈us.map (·.1)->aH (aK h us) id=aH (aK h' us) id:=by
 induction us with
 |nil=>intro h h' id hi;simp at hi
 |cons u us ih=>
  intro h h' id hi;simp only [aK];by_cases hm:id∈us.map (·.1)
  ·exact ih hm
  ·simp only [Cp,D1] at hi;rcases hi with rfl|hi
   ·rw [tC hm,tC hm];obtain ⟨i,o⟩:=u;simp [aH]
   ·exact absurd hi hm
theorem OW {us:List (Nat×Obj)} {h h':Heap} {id:Nat} (he:aH h id=aH h' id):aH (aK h us) id=aH (aK h' us) id:=by
 by_cases hm:id∈us.map (·.1)
 ·exact aap hm
 ·rw [tC hm,tC hm,he]
theorem vL {L L':Nat->Bool} {id:Nat}:∀{fs:List Eff} {k:Nat} {h h':Heap},aH h id=aH h' id->(∀(j:Nat) (f:Eff),fs[j]?=some f->L (k+j)≠L' (k+j)->id ∉ f.us.map (·.1))->aH (yf L k fs h) id=aH (yf L' k fs h') id
 |[],_,_,_,he,_=>he
 |f::fs,k,e,e',he,h=>by
  simp only [yf];refine vL ?_ fun j g hg hne=>h (j+1) g (by simpa using hg) (by rw [show k+(j+1)=k+1+j by omega];exact hne)
  have h0:=h 0 f (by simp)
  simp only [Hp] at h0;cases h1:L k<;>cases h2:L' k<;>simp only [Ek,Cd,C2]
  ·exact he
  ·rw [tC (h0 (by rw [h1,h2];simp))];exact he
  ·rw [tC (h0 (by rw [h1,h2];simp))];exact he
  ·exact OW he
theorem Ran.at {call:Callee} {bg:Cv} {gU:xg}:∀{is:List jl} {k b:Nat} {e:Env} {h:Heap} {fs:List Eff},Ran call bg gU k b is e h fs->∀{i:Nat} {inst:jl},is[i]?=some inst->
  ∃f,fs[i]?=some f/\∃hq,(∀id,aH hq id=aH (yf (fun j=>decide (j < k+i)) k fs h) id)/\Did call bg gU (mI (fun j=>decide (j < k+i)) k fs b+(k+i)) inst (mO (fun j=>decide (j < k+i)) k fs e) hq f
 |[],_,_,_,_,[],_,i,inst,hi=>by simp at hi
 |i0::is,k,b,e,h,f::fs,hr,i,inst,hi=>by
  obtain ⟨h1,h',h3,h2⟩:=hr;cases i with
  |zero=>
   simp only [D2,A0] at hi;subst hi;refine ⟨f,by simp,h,fun id=>?_,?_⟩
   ·rw [Kv (fun j hj=>by simp;omega)]
   ·rw [Hp,Km (fun j hj=>by simp;omega),F9 (fun j _ _ _=>by simp)]
    exact h1
  |succ i=>
   simp only [C6] at hi;obtain ⟨g,g1,hq,g2,g3⟩:=Ran.at h2 hi;have hk:decide (k < k+(i+1))=true:=by simp
   refine ⟨g,by simpa using g1,hq,fun id=>?_,?_⟩
   ·rw [g2];simp only [yf,hk,Ek];rw [show k+(i+1)=k+1+i by omega]
    exact vL (h3 id) fun _ _ _ hne=>absurd rfl hne
   ·simp only [mO,mI,hk,Ek];rw [show k+(i+1)=k+1+i by omega]
    exact g3
 |[],_,_,_,_,_::_,hr,_,_,_=>hr.elim
 |_::_,_,_,_,_,[],hr,_,_,_=>hr.elim
theorem aee {v u:Value} (h:Rb (.lit v) (.lit u)=true):v=u:=by
 unfold Rb at h;split at h
 ·rename_i h1 h2;cases h1;cases h2;simp at h;rw [h.1,h.2]
 ·rename_i h1 h2;cases h1;cases h2;simp at h;rw [h]
 ·rename_i a b h1 h2;cases h1;cases h2;obtain ⟨a⟩:=a;obtain ⟨b⟩:=b;have h1:a=b:=Array.toList_inj.1 (J1 h);rw [h1]
 ·rename_i h1 h2;cases h1;cases h2;rfl
 ·rename_i h1 _;cases h1
 ·cases h
mutual
theorem VU:∀{a b:C},Rb a b=true->a=b
 |.lit v,.lit u,h=>by rw [aee h]
 |.slice aY n,.slice bs m,h=>by simp only [Rb,As,F1] at h;rw [h.1,Ky h.2]
 |.lit v,.slice _ _,h=>by cases v<;>exact Bool.noConfusion h
 |.slice _ _,.lit v,h=>by cases v<;>exact Bool.noConfusion h
theorem Ky:∀{a b:List C},Ij a b=true->a=b
 |[],[],_=>rfl
 |a::aY,b::bs,h=>by simp only [Ij,As] at h;rw [VU h.1,Ky h.2]
 |[],_::_,h=>by simp [Ij] at h
 |_::_,[],h=>by simp [Ij] at h
end
theorem Q3:∀{a b:List D},Lj a b=true->a=b
 |[],[],_=>rfl
 |a::aY,b::bs,h=>by
  simp only [Lj,As] at h;have h1:a=b:=by
   have h2:=h.1;unfold ajD at h2;split at h2
   ·rw [VU h2]
   ·simp at h2;rw [h2.1,h2.2]
   ·simp at h2;rw [h2.1,h2.2.1,h2.2.2]
   ·simp at h2;rw [h2.1,Ky h2.2]
   ·cases h2
  rw [h1,Q3 h.2]
 |[],_::_,h=>by simp [Lj] at h
 |_::_,[],h=>by simp [Lj] at h
theorem aev {a b:Obj} (h:afV a b=true):a=b:=by
 unfold afV at h;split at h
 ·rw [Q3 h]
 ·cases h
theorem Jd {g:Nat->Obj}:∀(l:List Nat) (h:Heap) (id:Nat),aH (aK h (l.map fun i=>(i,g i))) id=if id∈l then g id else aH h id
 |[],h,id=>by simp [aK]
 |i::l,h,id=>by
  simp only [Cp,aK];rw [Jd l];by_cases h1:id∈l
  ·simp [h1]
  ·by_cases h2:i=id
   ·subst h2;simp [h1,aH]
   ·simp [h1,aH,h2,Ne.symm h2]
theorem Jp:∀{h:Heap} {id:Nat},id ∉ h.map (·.1)->aH h id=.dead
 |[],_,_=>rfl
 |(i,o)::h,id,hn=>by simp only [Cp,D1,not_or] at hn;simp only [aH,Dd (Ne.symm hn.1)];exact Jp hn.2
theorem Pn {acc:List Nat} {h h':Heap} (id:Nat):aH h' id=aH (aK h ((changed acc h h').map fun i=>(i,aH h' i))) id:=by
 rw [Jd];split
 ·rfl
 ·rename_i hn;unfold changed at hn;simp only [List.mem_filter,not_and,It,K1,Bx] at hn;by_cases h1:id∈h'.map (·.1)\/id∈h.map (·.1)
  ·have:=hn h1
   simp at this;exact (aev this.2).symm
  ·rw [Jp fun hx=>h1 (.inl hx),Jp fun hx=>h1 (.inr hx)]
theorem Dl {e e2:Env} {g:Option (Nat×Bool)} (h:∀t,t∈Tx g->iM e2 t=iM e t):wanted e2 g=wanted e g:=by
 cases g with
 |none=>rfl
 |some p=>obtain ⟨t,w⟩:=p;simp only [wanted,h t (by simp [Tx])]
theorem RI {e e2:Env} {xs:List X} (h:∀t,t∈Bo xs->iM e2 t=iM e t):∀x,x∈xs->zT e x=zT e2 x:=fun x hx=>by
 cases x with
 |k v=>rfl
 |f n=>rfl
 |t n=>exact (h n (List.mem_filterMap.2 ⟨_,hx,rfl⟩)).symm
theorem acv {call:Callee} {bg:Cv} {ρ:X->D} {h:Heap} {s s':Nat} {i:Ins} (hi:idle i=true):lW call bg ρ h s i=lW call bg ρ h s' i:=by cases i<;>first|rfl|cases hi
theorem Tu {call:Callee} {bg:Cv} {ρ ρ':X->D} {slot:Nat} {ins:Ins} {h h':Heap} (hx:∀x,x∈nM ins->ρ x=ρ' x) (hh:Agree (Kl ρ h ins) h h'):lW call bg ρ h slot ins=lW call bg ρ' h' slot ins:=by
 by_cases hc:∃n a v id off ds,ins=.store n a v/\ρ a=.loc id off/\aH h id=.box ds
 ·obtain ⟨n,a,v,id,off,ds,rfl,ha,hb⟩:=hc;have h1:aH h id=aH h' id:=hh id (by simp [Kl,ha,hb])
  have ha':ρ' a=.loc id off:=by rw [<-hx a (by simp [nM]),ha]
  simp only [lW,oK,zn,C2,Cd,eU,step,Ch,<-hx v (by simp [nM]),ha,ha',hb,<-h1]
 ·refine L8 hx (hh.mono fun id hi=>?_)
  unfold Kl;split
  ·rename_i n a v;split
   ·rename_i id' off ha;split
    ·rename_i ds hb;exact absurd ⟨n,a,v,id',off,ds,rfl,ha,hb⟩ hc
    ·exact hi
   ·exact hi
  ·exact hi
section
variable {call:Callee} {bg:Cv} {gU:xg}
theorem V8 {s:Nat} {i:jl} {e:Env} {h:Heap} {d:D} {us:List (Nat×Obj)} {rd:List Nat} (hw:wanted e i.guard=some true) (hn:(∀g o xs,i.ins≠.jB g o xs)/\∀x xs,i.ins≠.kX x xs) (hst:lW call bg (zT e) h s i.ins=some (d,us))
  (hcg:∀ρ' h',(∀x,x∈nM i.ins->zT e x=ρ' x)->Agree rd h h'->lW call bg (zT e) h s i.ins=lW call bg ρ' h' s i.ins):
  Did call bg gU s i e h ⟨i.dst,d,us,⟨Tx i.guard++Bo (nM i.ins),i.dst.toList,rd,us.map (·.1)⟩,none⟩:=by
 refine ⟨rfl,rfl,fun _ hx=>hx,fun e2 he=> .inr (.inl ⟨?_,rfl,hn,fun h2 s2 hh hs=>?_⟩)⟩
 ·rw [Dl fun t ht=>he t (J0 _ ht)];exact hw
 ·have h1:lW call bg (zT e2) h2 s i.ins=some (d,us):=by
   rw [<-hst];exact (hcg _ _ (RI fun t ht=>he t (Kx _ ht)) fun id hi=>(hh id hi).symm).symm
  rcases hs with rfl|hi
  ·exact h1
  ·rw [acv hi];exact h1
theorem WJ {s:Nat} {i:jl} {e:Env} {h:Heap} (hw:wanted e i.guard=some false):Did call bg gU s i e h ⟨i.dst,AZ,[],⟨Tx i.guard,i.dst.toList,[],[]⟩,none⟩:=
 ⟨rfl,rfl,fun _ hx=>hx,fun e2 he=> .inl ⟨by rw [Dl he];exact hw,rfl,rfl,rfl⟩⟩
theorem afv:∀{is:List jl} {k b:Nat} {acc:List Nat} {e:Env} {h:Heap} {e':Env} {h':Heap} {n':Nat} {ts:List Trace},Ec call bg gU k b acc is e h=some (e',h',n',ts)->
  ∃fs,Ran call bg gU k b is e h fs/\ts=fs.map (·.tr)/\e'=mO (fun _=>true) k fs e/\(∀id,aH h' id=aH (yf (fun _=>true) k fs h) id)/\n'=mI (fun _=>true) k fs b+(k+is.length)
 |[],k,b,acc,e,h,e',h',n',ts,hd=>by simp only [Ec,A0,A3] at hd;obtain ⟨rfl,rfl,rfl,rfl⟩:=hd;exact ⟨[],trivial,rfl,rfl,fun _=>rfl,rfl⟩
 |i::is,k,b,acc,e,h,e',h',n',ts,hd=>by
  simp only [Ec,A2,A1] at hd;obtain ⟨w,hw,hd⟩:=hd;have fin:∀(f:Eff) (h1:Heap) (acc':List Nat) (b':Nat) (ts':List Trace),Did call bg gU (b+k) i e h f->(∀id,aH h1 id=aH (aK h f.us) id)->b'=f.nx.getD b->Ec call bg gU (k+1) b' acc' is (l8 e f.dst f.d) h1=some (e',h',n',ts')->
    ∃fs,Ran call bg gU k b (i::is) e h fs/\f.tr::ts'=fs.map (·.tr)/\e'=mO (fun _=>true) k fs e/\(∀id,aH h' id=aH (yf (fun _=>true) k fs h) id)/\n'=mI (fun _=>true) k fs b+(k+(i::is).length):=by
   intro f h1 acc' b' ts' ag7 hh hb hev;obtain ⟨fs,r1,r2,r3,r4,r5⟩:=afv hev;subst hb;refine ⟨f::fs,⟨ag7,h1,hh,r1⟩,by rw [r2];rfl,by simpa [mO] using r3,fun id=>?_,?_⟩
   ·rw [r4];simp only [yf,Ek];exact vL (hh id) fun _ _ _ hne=>absurd rfl hne
   ·rw [r5];simp only [mI,Ek,Bm];omega
  cases w with
  |false=>
   simp only [Cd,C2,A1,C0,A0,A3] at hd;obtain ⟨e1,h1,n1,ts1,h2,rfl,rfl,rfl,rfl⟩:=hd;exact fin ⟨i.dst,AZ,[],⟨Tx i.guard,i.dst.toList,[],[]⟩,none⟩ h acc b ts1 (WJ hw) (fun _=>rfl) rfl h2
  |true=>
   simp only [Ek] at hd;split at hd
   ·rename_i f o xs hins;simp only [A1,C0,A0,A3] at hd;obtain ⟨d,h1,n,h2,e1,h3,n1,ts1,h4,rfl,rfl,rfl,rfl⟩:=hd;split at h2
    ·rename_i ho;subst ho;refine fin ⟨i.dst,d,(changed acc h h1).map fun j=>(j,aH h1 j),⟨Tx i.guard++Bo xs,i.dst.toList,List.range (b+k)++h.map (·.1),changed acc h h1⟩,some n⟩ h1 acc n ts1 ⟨rfl,rfl,fun x hx=>?_,fun e2 he=> .inr (.inr ⟨?_,f,xs,n,h1,rfl,hins,?_,Pn,fun id hid=>?_⟩)⟩ Pn rfl h4
     ·simpa using hx
     ·rw [Dl fun t ht=>he t (J0 _ ht)];exact hw
     ·rw [<-h2];congr 1;exact (List.map_congr_left (RI fun t ht=>he t (Kx _ ht))).symm
     ·simp only [Bx,Ks,not_or,Nat.not_lt] at hid;exact ⟨hid.1,Jp hid.2⟩
    ·cases h2
   ·cases hd
   ·rename_i hn1 hn2;simp only [A1,C0,A0,A3] at hd;obtain ⟨d,us,h1,e1,h3,n1,ts1,h4,rfl,rfl,rfl,rfl⟩:=hd;exact fin ⟨i.dst,d,us,⟨Tx i.guard++Bo (nM i.ins),i.dst.toList,Kl (zT e) h i.ins,us.map (·.1)⟩,none⟩ (aK h us) _ b ts1
     (V8 hw ⟨fun g o xs hx=>hn1 g o xs hx,fun x xs hx=>hn2 x xs hx⟩ h1 fun _ _ hx hh=>Tu hx hh) (fun _=>rfl) rfl h4
theorem XJ {nx:Nat}:∀{is:List jl} {k:Nat} {e:Env} {h:Heap} {e':Env} {h':Heap} {ts:List Trace},yj is=true->mW call bg nx k is e h=some (e',h',ts)->
  ∃fs,Ran call bg gU k nx is e h fs/\ts=fs.map (·.tr)/\e'=mO (fun _=>true) k fs e/\h'=yf (fun _=>true) k fs h/\mI (fun _=>true) k fs nx=nx
 |[],k,e,h,e',h',ts,_,hd=>by simp only [mW,A0,A3] at hd;obtain ⟨rfl,rfl,rfl⟩:=hd;exact ⟨[],trivial,rfl,rfl,rfl,rfl⟩
 |i::is,k,e,h,e',h',ts,hns,hd=>by
  simp only [yj,As] at hns;simp only [mW,A2,A1] at hd;obtain ⟨b,hw,hd⟩:=hd;cases b with
  |true=>
   simp only [Ek,A1,C0,A0,A3] at hd;obtain ⟨d,us,h1,e1,h1',ts',h2,rfl,rfl,rfl⟩:=hd;obtain ⟨fs,r1,r2,r3,r4,r5⟩:=XJ hns.2 h2;exact ⟨⟨i.dst,d,us,⟨Tx i.guard++Bo (nM i.ins),i.dst.toList,touches (zT e) i.ins,us.map (·.1)⟩,none⟩::fs,
    ⟨V8 hw ⟨fun f ow xs he=>by rw [he] at hns;simp at hns,fun f xs he=>by rw [he] at hns;simp at hns⟩ h1 fun _ _ hx hh=>L8 hx hh,_,fun _=>rfl,r1⟩,by rw [r2];rfl,by simpa [mO] using r3,by simpa [yf] using r4,by simpa [mI] using r5⟩
  |false=>
   simp only [Cd,C2,A1,C0,A0,A3] at hd;obtain ⟨e1,h1',ts',h2,rfl,rfl,rfl⟩:=hd;obtain ⟨fs,r1,r2,r3,r4,r5⟩:=XJ hns.2 h2;exact ⟨⟨i.dst,AZ,[],⟨Tx i.guard,i.dst.toList,[],[]⟩,none⟩::fs,⟨WJ hw,h,fun _=>rfl,r1⟩,by rw [r2];rfl,by simpa [mO] using r3,by simpa [yf,aK] using r4,by simpa [mI] using r5⟩
end
theorem VZ {L L':Nat->Bool} {t:Nat}:∀{fs:List Eff} {k i:Nat} {e:Env} {f:Eff},fs[i]?=some f->L (k+i)=false->L' (k+i)=true->(∀j,j≠i->L' (k+j)=L (k+j))->
  (∀(j:Nat) (g:Eff),i < j->fs[j]?=some g->L (k+j)=true->f.dst=some t->g.dst≠some t)->iM (mO L' k fs e) t=if f.dst=some t then f.d else iM (mO L k fs e) t
 |[],_,_,_,_,hi,_,_,_,_=>by simp at hi
 |f0::fs,k,0,e,f,hi,h1,h2,h3,h4=>by
  simp only [D2,A0] at hi;subst hi;simp only [Hp] at h1 h2;simp only [mO,h1,h2,Ek,Cd,C2];have hsame:∀j,L' (k+1+j)=L (k+1+j):=fun j=>by
   have:=h3 (j+1) (by omega)
   rw [show k+1+j=k+(j+1) by omega]
   exact this
  by_cases hd:f0.dst=some t
  ·rw [C4 hd];have:∀{fs:List Eff} {k:Nat} {e:Env},(∀(j:Nat) (g:Eff),fs[j]?=some g->L' (k+j)=true->g.dst≠some t)->iM (mO L' k fs e) t=iM e t:=by
    intro fs;induction fs with
    |nil=>intros;rfl
    |cons g fs ih=>
     intro k e h;simp only [mO];rw [ih fun j g' hg hl=>h (j+1) g' (by simpa using hg) (by rw [show k+(j+1)=k+1+j by omega];exact hl)]
     cases hl:L' k
     ·simp
     ·simp only [Ek,Ah];rw [Dd (h 0 g (by simp) (by simpa using hl))]
   rw [this fun j g hg hl=>h4 (j+1) g (by omega) (by simpa using hg) (by rw [show k+(j+1)=k+1+j by omega,<-hsame];exact hl) hd]
   simp [Ah,hd]
  ·rw [Dd hd];refine Dw (by simp [Ah,hd]) fun j g _ hne=>absurd (hsame j) hne
 |f0::fs,k,i+1,e,f,hi,h1,h2,h3,h4=>by
  simp only [C6] at hi;have h0:L' k=L k:=by simpa using h3 0 (by omega)
  simp only [mO,h0];exact VZ hi (by rw [show k+1+i=k+(i+1) by omega];exact h1) (by rw [show k+1+i=k+(i+1) by omega];exact h2)
   (fun j hj=>by rw [show k+1+j=k+(j+1) by omega];exact h3 (j+1) (by omega))
   (fun j g hj hg hl hd=>h4 (j+1) g (by omega) (by simpa using hg) (by rw [show k+(j+1)=k+1+j by omega];exact hl) hd)
theorem Vu {L L':Nat->Bool} {id:Nat}:∀{fs:List Eff} {k i:Nat} {h:Heap} {f:Eff},fs[i]?=some f->L (k+i)=false->L' (k+i)=true->(∀j,j≠i->L' (k+j)=L (k+j))->
  (∀(j:Nat) (g:Eff),i < j->fs[j]?=some g->L (k+j)=true->id∈f.us.map (·.1)->id ∉ g.us.map (·.1))->aH (yf L' k fs h) id=aH (aK (yf L k fs h) f.us) id
 |[],_,_,_,_,hi,_,_,_,_=>by simp at hi
 |f0::fs,k,0,e,f,hi,h1,h2,h3,h4=>by
  simp only [D2,A0] at hi;subst hi;simp only [Hp] at h1 h2;simp only [yf,h1,h2,Ek,Cd,C2];have hsame:∀j,L' (k+1+j)=L (k+1+j):=fun j=>by
   have:=h3 (j+1) (by omega)
   rw [show k+1+j=k+(j+1) by omega]
   exact this
  by_cases hd:id∈f0.us.map (·.1)
  ·have:∀{fs:List Eff} {k:Nat} {e:Heap},(∀(j:Nat) (g:Eff),fs[j]?=some g->L' (k+j)=true->id ∉ g.us.map (·.1))->aH (yf L' k fs e) id=aH e id:=by
    intro fs;induction fs with
    |nil=>intros;rfl
    |cons g fs ih=>
     intro k e h;simp only [yf];rw [ih fun j g' hg hl=>h (j+1) g' (by simpa using hg) (by rw [show k+(j+1)=k+1+j by omega];exact hl)]
     cases hl:L' k
     ·simp
     ·simp only [Ek];rw [tC (h 0 g (by simp) (by simpa using hl))]
   rw [this fun j g hg hl=>h4 (j+1) g (by omega) (by simpa using hg) (by rw [show k+(j+1)=k+1+j by omega,<-hsame];exact hl) hd]
   exact aap hd
  ·rw [tC hd];refine vL (tC hd) fun j g _ hne=>absurd (hsame j) hne
 |f0::fs,k,i+1,e,f,hi,h1,h2,h3,h4=>by
  simp only [C6] at hi;have h0:L' k=L k:=by simpa using h3 0 (by omega)
  simp only [yf,h0];exact Vu hi (by rw [show k+1+i=k+(i+1) by omega];exact h1) (by rw [show k+1+i=k+(i+1) by omega];exact h2)
   (fun j hj=>by rw [show k+1+j=k+(j+1) by omega];exact h3 (j+1) (by omega))
   (fun j g hj hg hl hd=>h4 (j+1) g (by omega) (by simpa using hg) (by rw [show k+(j+1)=k+1+j by omega];exact hl) hd)
def zR (L:Nat->Bool) (o:Oper):Prop:=∀e∈o.after.toList,Region.binds .any e=true->L e.on=true
theorem RG:∀(l:List Oper) (acc:List Nat),(waits acc l).length=acc.length+l.length
 |[],_=>rfl
 |o::l,acc=>by simp only [waits];rw [RG l];simp;omega
theorem E5 {acc:List Nat} {x:Nat}:∀(es:List Edge),(Gs acc es).testBit x=true->∃e∈es,Region.binds .any e=true/\(x=e.on\/(acc.getD e.on 0).testBit x=true)
 |[],h=>by simp [Gs] at h
 |e::es,h=>by
  simp only [Gs] at h;split at h
  ·rename_i hb;simp only [Nat.testBit_or,Bool.or_eq_true] at h;rcases h with (h|h)|h
   ·rw [Nat.one_shiftLeft,Nat.testBit_two_pow] at h;exact ⟨e,by simp,hb,.inl (Eq.symm (by simpa using h))⟩
   ·exact ⟨e,by simp,hb,.inr h⟩
   ·obtain ⟨e',h1,h2⟩:=E5 es h;exact ⟨e',by simp [h1],h2⟩
  ·obtain ⟨e',h1,h2⟩:=E5 es h;exact ⟨e',by simp [h1],h2⟩
theorem Xl {L:Nat->Bool} {ops:List Oper} (hcl:∀(j:Nat) (o:Oper),ops[j]?=some o->L j=true->zR L o):
  ∀(l:List Oper) (acc:List Nat),(∀j:Nat,l[j]?=ops[acc.length+j]?)->(∀(j:Nat) (b:Nat) (o:Oper),acc[j]?=some b->ops[j]?=some o->zR L o->∀x,b.testBit x=true->L x=true)->
   ∀(j:Nat) (b:Nat) (o:Oper),(waits acc l)[j]?=some b->ops[j]?=some o->zR L o->∀x,b.testBit x=true->L x=true
 |[],acc,_,h=>h
 |p::l,acc,hl,h=>by
  simp only [waits];refine Xl hcl l _ (fun j=>?_) fun j b o hb ho he x hx=>?_
  ·have:=hl (j+1)
   simp only [C6] at this;rw [this];simp;congr 1;omega
  ·rcases Mb j acc.length with hj|hj
   ·rw [Ge hj] at hb;exact h j b o hb ho he x hx
   ·rw [Hv hj] at hb;have hj0:j=acc.length:=by
     have:=(B0.1 hb).1
     simp at this;omega
    subst hj0;have hp:ops[acc.length]?=some p:=by have:=hl 0;simpa using this.symm
    have:o=p:=by rw [hp] at ho;exact (Jx ho).symm
    subst this;simp at hb;subst hb;obtain ⟨e,he1,hbd,hx⟩:=E5 _ hx;have hon:=he e he1 hbd;rcases hx with rfl|hx
    ·exact hon
    ·cases hg:acc[e.on]? with
     |none=>simp [hg] at hx
     |some b'=>
      simp [hg] at hx;have hlt:e.on < acc.length:=(B0.1 hg).1;cases ho':ops[e.on]? with
      |none=>
       have h1:acc.length < ops.length:=(B0.1 hp).1;simp at ho';omega
      |some o'=>exact h e.on b' o' hg ho' (hcl e.on o' ho' hon) x hx
def aiF (ws:List Nat) (i j:Nat):Prop:=i < j/\∃m,ws[j]?=some m/\m.testBit i=false
theorem OY {bs:List Nat} {i j:Nat} (hij:i < j) (hj:j < bs.length) (h:∀b:Nat,bs[j]?=some b->¬b.testBit i=true):aiF bs i j:=by
 have hb:bs[j]?=some bs[j]:=Ax hj;have:=h _ hb
 exact ⟨hij,_,hb,by simpa using this⟩
theorem Rs {m:Nat} {b:Trace}:∀{l:List Trace} {q:Nat},Nv m b q l=true->∀{i:Nat} {a:Trace},l[i]?=some a->m.testBit (q+i)=false->clash a b=false
 |[],_,_,i,a,ha,_=>by simp at ha
 |x::l,q,h,i,a,ha,hm=>by
  simp only [Nv,As,Bool.or_eq_true] at h;cases i with
  |zero=>
   simp only [D2,A0] at ha;subst ha;rcases h.1 with h1|h1
   ·rw [Hp] at hm;rw [hm] at h1;cases h1
   ·simpa using h1
  |succ i=>
   simp only [C6] at ha;exact Rs h.2 ha (by rw [show q+1+i=q+(i+1) by omega];exact hm)
theorem JH:∀{ts:List Trace} {ws:List Nat} {pre:List Trace},oN pre ts ws=true->∀{i j m:Nat} {a b:Trace},ts[j]?=some b->ws[j]?=some m->(pre++ts)[i]?=some a->i < pre.length+j->m.testBit i=false->clash a b=false
 |[],_,_,_,_,j,_,_,_,hb,_,_,_,_=>by simp at hb
 |x::ts,[],_,h,_,_,_,_,_,_,_,_,_,_=>by simp [oN] at h
 |x::ts,w::ws,pre,h,i,j,m,a,b,hb,hw,ha,hi,hm=>by
  simp only [oN,As] at h;cases j with
  |zero=>
   simp only [D2,A0] at hb hw;subst hb hw;rw [Ge (by omega)] at ha
   exact Rs h.1 ha (by rw [E1];exact hm)
  |succ j=>
   simp only [C6] at hb hw;exact JH h.2 hb hw (by simpa using ha) (by simp;omega) hm
theorem Dq {ts:List Trace} {ws:List Nat} (h:D6 ts ws=true) {i j:Nat} (hm:aiF ws i j) {a b:Trace} (ha:ts[i]?=some a) (hb:ts[j]?=some b):clash a b=false:=by obtain ⟨hij,m,hw,hmi⟩:=hm;exact JH h hb hw (by simpa using ha) (by simpa using hij) hmi
theorem BD {a b:List Nat} (h:meets a b=false) {x:Nat} (hx:x∈a):x ∉ b:=by
 unfold meets at h;intro hb;have:=List.any_eq_false.1 h x hx
 simp [hb] at this
theorem BA {a b:Trace} (h:clash a b=false):(∀t,t∈a.XD->t ∉ b.rdT/\t ∉ b.XD)/\(∀t,t∈b.XD->t ∉ a.rdT)/\(∀t,t∈a.XE->t ∉ b.Yu/\t ∉ b.XE)/\(∀t,t∈b.XE->t ∉ a.Yu):=by
 unfold clash at h;simp only [Bool.or_eq_false_iff] at h;obtain ⟨⟨⟨h1,h2⟩,h3⟩,h4⟩:=h;refine ⟨fun t ht=>?_,fun t ht=>BD h2 ht,fun t ht=>?_,fun t ht=>BD h4 ht⟩
 ·have:=BD h1 ht;simp at this;exact this
 ·have:=BD h3 ht;simp at this;exact this
section
variable {B:Nat} {S:Nat->Nat->Prop} {P:Program} {o:Oper} {a:Act} {m:M} {zf:Nat->Nat} {nt:Nat} {w0:World} {call:Callee} {bg:Cv} {gU:xg}
theorem vg {m:M} {h:Heap} (hh:∀id,aH h id=aH m.h id):aS B S m (m.heap h) where
 cell b q u h1 h2:=⟨h1,h2.1,fun id=>by show match aH h id with|.dead=>True|.box _=>m.β id≠b|.map _=>m.β id≠b|.arr _ _ fz _=>m.β id=b->q < fz;rw [hh];exact h2.2 id⟩
 used _ hu:=hu
 dead id _ hd:=by show aH h id=.dead;rw [hh];exact hd
 at_ _ _:=rfl
 kind id cs' jW nW mh _ hk:=⟨cs',nW,by rw [<-hh];exact hk,rfl⟩
 rest b _ _ hn:=⟨rfl,fun id hd=>hn id (by rw [<-hh];exact hd)⟩
theorem IG {m:M} (hk:gq B S m) {h:Heap} (hh:∀id,aH h id=aH m.h id):gq B S (m.heap h):=by
 have hev:=vg (B:=B) (S:=S) hh;refine ⟨fun id=>?_,fun i j hi hj he=>?_,fun id hu=>?_,hk.base,hk.fresh,fun id cs ay fz ety hg=>hk.Qb id cs ay fz ety (by rw [<-hh];exact hg)⟩
 ·unfold K7;show GR B S _ (m.β id) (aH h id)
  rw [hh];exact hev.Md rfl (hk.obj id)
 ·exact hk.inj i j (by rw [<-hh];exact hi) (by rw [<-hh];exact hj) he
 ·show aH h id=.dead
  rw [hh];exact hk.dom id hu
theorem Rel.ext {e e':Env} (hr:Rel B S w0 nt m e a) (h:∀t,iM e' t=iM e t):Rel B S w0 nt m e' a:=
 ⟨hr.defers,hr.size,fun t=>by rw [h];exact hr.env t,hr.hok,hr.below,hr.inv⟩
theorem Cm {ops:Array Oper}:∀{l:List Oper} {is:List jl},jD P zf nt ops l=some is->l.length=is.length/\∀(i:Nat) (o:Oper),l[i]?=some o->∃inst:jl,is[i]?=some inst/\AR P zf nt ops o=some inst
 |[],is,h=>by simp only [jD,A0] at h;subst h;exact ⟨rfl,by simp⟩
 |p::l,is,h=>by
  simp only [jD,A2,A1,A0] at h;obtain ⟨i,h1,is',h2,rfl⟩:=h;obtain ⟨h3,h4⟩:=Cm h2;refine ⟨by simp [h3],fun k o hk=>?_⟩
  cases k with
  |zero=>simp at hk;subst hk;exact ⟨i,by simp,h1⟩
  |succ k=>simp at hk;obtain ⟨inst,h5,h6⟩:=h4 k o hk;exact ⟨inst,by simpa using h5,h6⟩
theorem J3:∀{is:List jl},yj is=true->∀(i:Nat) (inst:jl),is[i]?=some inst->(∀f ow xs,inst.ins≠.jB f ow xs)/\∀x xs,inst.ins≠.kX x xs
 |[],_,i,inst,hi=>by simp at hi
 |p::is,h,i,inst,hi=>by
  simp only [yj,As] at h;cases i with
  |zero=>simp at hi;subst hi;exact ⟨fun f ow xs he=>by rw [he] at h;simp at h,fun f xs he=>by rw [he] at h;simp at h⟩
  |succ i=>simp at hi;exact J3 h.2 i inst hi
theorem KD:∀{l:List Oper} {k:Nat},Mk k l=true->∀(i:Nat) (o:Oper),l[i]?=some o->∀e∈o.after.toList,Region.binds .any e=true->e.on < k+i
 |[],_,_,i,o,hi=>by simp at hi
 |p::l,k,h,i,o,hi=>by
  simp only [Mk,As] at h;cases i with
  |zero=>
   simp at hi;subst hi;intro e he hb;have:=E0.1 h.1 e he
   simp [hb] at this;omega
  |succ i=>
   simp at hi;intro e he hb;have:=KD h.2 i o hi e he hb
   omega
theorem PL {ops:Array Oper} {listed:Array Bool} {i:Nat} (h:i∈Region.ready .any ops listed):i < ops.size/\listed.getD i true=false/\∃o,ops[i]?=some o/\∀e∈o.after.toList,Region.binds .any e=true->listed.getD e.on false=true:=by
 unfold Region.ready at h;simp only [List.mem_filter,Ks,As,It] at h;obtain ⟨h1,h2,h3⟩:=h;refine ⟨h1,h2,?_⟩;cases ho:ops[i]? with
 |none=>simp [ho] at h3
 |some o=>
  simp only [ho,G3,Option.getD_some,Array.all_eq_true_iff_forall_mem] at h3;refine ⟨o,rfl,fun e he hb=>?_⟩
  have:=h3 e (by simpa using he)
  simpa [hb] using this
theorem VV {ops:Array Oper} {listed:Array Bool} {i:Nat} {o:Oper} (ho:ops[i]?=some o) (h2:listed.getD i true=false) (h3:∀e∈o.after.toList,Region.binds .any e=true->listed.getD e.on false=true):i∈Region.ready .any ops listed:=by
 unfold Region.ready;simp only [List.mem_filter,Ks,As,It];refine ⟨(C3.1 ho).1,h2,?_⟩;simp only [ho,G3,Option.getD_some,Array.all_eq_true_iff_forall_mem];intro e he;cases hb:Region.binds .any e with
 |false=>simp
 |true=>simpa [hb] using h3 e (by simpa using he) hb
theorem ZW {is:List jl} {ws:List Nat} (h:Pz is ws=true) {j:Nat} {i:jl} (hj:is[j]?=some i) {g o:Nat} {xs:List X} (hi:i.ins=.jB g o xs):
  ∀(k:Nat) (i':jl),is[k]?=some i'->(k < j->(ws.getD j 0).testBit k=true\/idle i'.ins=true)/\(j < k->(ws.getD k 0).testBit j=true):=by
 intro k i' hk;have h1:=E0.1 h j (Ks.2 (B0.1 hj).1);simp only [hj,hi,As] at h1;have h2:=E0.1 h1.2 k (Ks.2 (B0.1 hk).1);simp only [hk,Bool.or_eq_true,F1] at h2;refine ⟨fun hlt=>?_,fun hlt=>?_⟩
 ·rcases h2 with h2|h2
  ·omega
  ·rw [C4 hlt] at h2;simpa using h2
 ·rcases h2 with h2|h2
  ·omega
  ·rw [Dd (by omega)] at h2;exact h2
theorem aeC {is:List jl} {ws:List Nat} (h:yj is=true):Pz is ws=true:=by
 unfold Pz;refine E0.2 fun j _=>?_
 cases hj:is[j]? with
 |none=>rfl
 |some i=>
  obtain ⟨h1,h2⟩:=J3 h j i hj;cases hi:i.ins with
  |kX x xs=>exact absurd hi (h2 x xs)
  |jB f o xs=>exact absurd hi (h1 f o xs)
  |_=>simp only [hi]
structure an7 (B:Nat) (S:Nat->Nat->Prop) (w0:World) (nt:Nat) (ops:Array Oper) (fs:List Eff) (nx:Nat) (e:Env) (h:Heap) (m0:M) (listed:Array Bool) (a:Act) (m:M):Prop where
 size:listed.size=ops.size
 closed:∀(j:Nat) (o:Oper),ops[j]?=some o->listed.getD j false=true->zR (fun j=>listed.getD j false) o
 heap:∀id,aH m.h id=aH (yf (fun j=>listed.getD j false) 0 fs h) id
 used:∀i,m.U i->i < mI (fun j=>listed.getD j false) 0 fs nx\/∃k,listed.getD k false=true/\i=mI (fun j=>listed.getD j false) 0 fs nx+k
 rel:Rel B S w0 nt m (mO (fun j=>listed.getD j false) 0 fs e) a
 ev:aS B S m0 m
theorem U7 {listed:Array Bool} {i:Nat} (hi:i < listed.size):(listed.setIfInBounds i true).getD i false=true:=by simp [hi]
theorem SC {listed:Array Bool} {i j:Nat} (h:j≠i):(listed.setIfInBounds i true).getD j false=listed.getD j false:=by simp [Array.getElem?_setIfInBounds_ne (Ne.symm h)]
theorem abl {listed:Array Bool} {i:Nat} (h:listed.getD i true=false):listed.getD i false=false:=by
 rcases Mb i listed.size with h'|h'
 ·simp [h'] at h |-;exact h
 ·simp [Nx h'] at h
theorem aa8 {listed:Array Bool} {i:Nat} (hi:i < listed.size) (h:listed.getD i false=false):listed.getD i true=false:=by simp [hi] at h |-;exact h
theorem any_ok {ops:Array Oper} {is:List jl} {fs:List Eff} {nx:Nat} {e:Env} {h:Heap} {m0:M} {Q:Exit->Act->World->Prop} (hcall:∀f vs rs,call f vs=some rs->oq P f vs rs) (hl:∀f aY bs rs bs',bg f aY bs=some (rs,bs')->Fw P f aY bs rs bs')
  (hld:∀f ds h k rs h' n',gU f ds h k=some (rs,h',n')->Ko P f ds h k rs h' n')
  (hc:jD P zf nt ops ops.toList=some is) (hmx:Pz is (waits [] ops.toList)=true) (Mh:Mk 0 ops.toList=true) (alq:Ran call bg gU 0 nx is e h fs) (hok:D6 (fs.map (·.tr)) (waits [] ops.toList)=true)
  (hK:∀(a':Act) (m':M),(∀id,aH m'.h id=aH (yf (fun _=>true) 0 fs h) id)->M4 m' (mI (fun _=>true) 0 fs nx+ops.size)->aS B S m0 m'->Rel B S w0 nt m' (mO (fun _=>true) 0 fs e) a'->Q .normal a' m'.w):
  ∀(n:Nat) (listed:Array Bool) (a:Act) (m:M),an7 B S w0 nt ops fs nx e h m0 listed a m->(∃l:List Nat,l.length=n/\l.Nodup/\∀i,i∈l↔i < ops.size/\listed.getD i false=false)->wpAny P .any ops Q n listed a m.w:=by
 obtain ⟨hlen,hget⟩:=Cm hc;have hlen':ops.size=is.length:=by rw [<-hlen];simp
 have hfl:∀{is:List jl} {k b:Nat} {e:Env} {h:Heap} {fs:List Eff},Ran call bg gU k b is e h fs->fs.length=is.length:=by
  intro is;induction is with
  |nil=>intro k b e h fs hr;cases fs with|nil=>rfl|cons _ _=>exact hr.elim
  |cons i is ih=>intro k b e h fs hr;cases fs with|nil=>exact hr.elim|cons f fs=>obtain ⟨_,_,_,hr⟩:=hr;simp [ih hr]
 have hfs:fs.length=ops.size:=by rw [hfl alq,hlen']
 have finish:∀(listed:Array Bool) (a:Act) (m:M),an7 B S w0 nt ops fs nx e h m0 listed a m->(∀i,i < ops.size->listed.getD i false=true)->Q .normal a m.w:=by
  intro listed a m inv hall;have hE:∀t,iM (mO (fun _=>true) 0 fs e) t=iM (mO (fun j=>listed.getD j false) 0 fs e) t:=fun t=>Dw rfl fun j f hf hne=>by
   exfalso;have hj:j < ops.size:=by rw [<-hfs];exact (B0.1 hf).1
   simp only [E1] at hne;rw [hall j hj] at hne;exact hne rfl
  have hH:∀id,aH m.h id=aH (yf (fun _=>true) 0 fs h) id:=fun id=>by
   rw [inv.heap];exact vL rfl fun j f hf hne=>by
    exfalso;have hj:j < ops.size:=by rw [<-hfs];exact (B0.1 hf).1
    simp only [E1] at hne;rw [hall j hj] at hne;exact hne rfl
  have hB:mI (fun j=>listed.getD j false) 0 fs nx=mI (fun _=>true) 0 fs nx:=CZ fun j f hf _=>by simp only [E1];exact hall j (by rw [<-hfs];exact (B0.1 hf).1)
  refine hK a m hH (fun i hi=>?_) inv.ev (inv.rel.ext hE)
  rcases inv.used i hi with h1|⟨k,h1,rfl⟩
  ·rw [hB] at h1;omega
  ·rw [hB];have:k < listed.size:=by
    rcases Mb k listed.size with h2|h2
    ·exact h2
    ·simp [Nx h2] at h1
   rw [inv.size] at this;omega
 intro n;induction n with
 |zero=>
  rintro listed a m inv ⟨l,hl1,_,hl2⟩;have hl0:l=[]:=E7 hl1;subst hl0;have hall:∀i,i < ops.size->listed.getD i false=true:=fun i hi=>by
   cases hb:listed.getD i false with
   |true=>rfl
   |false=>have:=(hl2 i).2 ⟨hi,hb⟩;cases this
  refine ⟨?_,finish listed a m inv hall⟩;cases hr:Region.ready .any ops listed with
  |nil=>rfl
  |cons i r=>
   have hi:i∈Region.ready .any ops listed:=by rw [hr];simp
   obtain ⟨h1,h2,_⟩:=PL hi;have:=hall i h1
   rw [abl h2] at this;cases this
 |succ n ih=>
  rintro listed a m inv ⟨l,hl1,hl2,hl3⟩;refine ⟨fun hnone=>finish listed a m inv fun i hi=>?_,fun i hi=>?_⟩
  ·
   cases hb:listed.getD i false with
   |true=>rfl
   |false=>
    exfalso;have key:∀k,∀i,i<=k->i < ops.size->listed.getD i false=false->∃j,j∈Region.ready .any ops listed:=by
     intro k;induction k with
     |zero=>
      intro i hik his hib;have hi0:i=0:=by omega
      subst hi0;have ho:ops[0]?=some ops[0]:=L5 his;refine ⟨0,VV ho (aa8 (by rw [inv.size];exact his) hib) fun e he hbd=>?_⟩
      have:=KD Mh 0 ops[0] (by simp) e he hbd
      omega
     |succ k ihk=>
      intro i hik his hib;have ho:ops[i]?=some ops[i]:=L5 his;by_cases hed:∀e∈ops[i].after.toList,Region.binds .any e=true->listed.getD e.on false=true
      ·exact ⟨i,VV ho (aa8 (by rw [inv.size];exact his) hib) hed⟩
      ·have:∃e,e∈ops[i].after.toList/\Region.binds .any e=true/\listed.getD e.on false=false:=by
        apply L1;intro hno;apply hed;intro e he hbd;cases hq:listed.getD e.on false with
        |true=>rfl
        |false=>exact absurd ⟨e,he,hbd,hq⟩ hno
       obtain ⟨e,he,hbd,hq⟩:=this;have hlt:=KD Mh i ops[i] (by simp) e he hbd
       exact ihk e.on (by omega) (by omega) hq
    obtain ⟨j,hj⟩:=key i i (B9 _) hi hb;rw [hnone] at hj;cases hj
  ·obtain ⟨hi1,hi2,o,ho,acI⟩:=PL hi;have hif:=abl hi2;have ho':ops.toList[i]?=some o:=by simpa using ho
   obtain ⟨inst,hinst,hcomp⟩:=hget i o ho';obtain ⟨f,hf,hq,hqe,ag7⟩:=Ran.at alq hinst;simp only [E1] at hqe ag7;obtain ⟨hdst,hwT,hwH,hact⟩:=ag7;have hbs:∀(j:Nat) (b:Nat) (o:Oper),(waits [] ops.toList)[j]?=some b->ops.toList[j]?=some o->zR (fun j=>listed.getD j false) o->∀x,b.testBit x=true->listed.getD x false=true:=
    Xl (L:=fun j=>listed.getD j false) (fun j o hj hl=>inv.closed j o (by simpa using hj) hl) ops.toList [] (by simp) (by simp)
   have hwl:(waits [] ops.toList).length=ops.size:=by rw [RG];simp
   have am4:∀j,j < i->listed.getD j false=false->aiF (waits [] ops.toList) j i:=fun j hji hj=>
    OY hji (by rw [hwl];exact hi1) fun b hb hm=>by
     have:=hbs i b o hb ho' acI j hm
     rw [hj] at this;cases this
   have acQ:∀j,i < j->listed.getD j false=true->aiF (waits [] ops.toList) i j:=fun j hij hj=>by
    have hjs:j < ops.size:=by
     rcases Mb j listed.size with h2|h2
     ·rw [<-inv.size];exact h2
     ·simp [Nx h2] at hj
    refine OY hij (by rw [hwl];exact hjs) fun b hb hm=>?_
    have hoj:ops[j]?=some ops[j]:=L5 hjs;have:=hbs j b ops[j] hb (by simp) (inv.closed j _ hoj hj) i hm
    rw [hif] at this;cases this
   have htr:∀(j:Nat) (g:Eff),fs[j]?=some g->(fs.map (·.tr))[j]?=some g.tr:=fun j g hg=>by simp [hg]
   have OP:∀(j:Nat) (g:Eff),fs[j]?=some g->g.tr.XD=g.dst.toList/\(∀x,x∈g.us.map (·.1)->x∈g.tr.XE)/\(g.nx≠none->∃ij gg xs,is[j]?=some ij/\ij.ins=.jB gg 2 xs):=fun j g hg=>by
    have hjl:j < is.length:=by rw [<-hlen',<-hfs];exact (B0.1 hg).1
    obtain ⟨g',hg',_,_,hd1,hd2,hd3,hd4⟩:=Ran.at alq (Ax hjl);rw [hg] at hg';simp only [A0] at hg';subst hg';refine ⟨by rw [hd2,hd1],hd3,fun hn=>?_⟩
    rcases hd4 _ (fun _ _=>rfl) with ⟨_,_,_,h4⟩|⟨_,h4,_⟩|⟨_,gg,xs,n,_,_,h5,_⟩
    ·exact absurd h4 hn
    ·exact absurd h4 hn
    ·exact ⟨_,gg,xs,Ax hjl,h5⟩
   have hwg:∀(k:Nat),k < ops.size->∃b,(waits [] ops.toList)[k]?=some b/\(waits [] ops.toList).getD k 0=b:=fun k hk=>by
    have:k < (waits [] ops.toList).length:=by rw [hwl];exact hk
    exact ⟨_,Ax this,by simp [this]⟩
   have behind:∀(j:Nat) (g:Eff),fs[j]?=some g->g.nx≠none->∀(k:Nat) (ok:Oper),ops.toList[k]?=some ok->zR (fun j=>listed.getD j false) ok->j < k->listed.getD j false=true:=fun j g hg hn k ok hk he hjk=>by
    obtain ⟨ij,gg,xs,h1,h2⟩:=(OP j g hg).2.2 hn;obtain ⟨ik,h3,_⟩:=hget k ok hk;have hks:k < ops.size:=by have:=(B0.1 hk).1;simpa using this
    obtain ⟨b,hb1,hb2⟩:=hwg k hks;have:=(ZW hmx h1 h2 k ik h3).2 hjk
    rw [hb2] at this;exact hbs k b ok hb1 hk he j this
   have ahead:∀(j:Nat) (g:Eff),fs[j]?=some g->g.nx≠none->∀(oj:Oper),ops.toList[j]?=some oj->zR (fun j=>listed.getD j false) oj->∀(k:Nat) (ik:jl),is[k]?=some ik->k < j->listed.getD k false=true\/idle ik.ins=true:=fun j g hg hn oj hj he k ik hk hkj=>by
    obtain ⟨ij,gg,xs,h1,h2⟩:=(OP j g hg).2.2 hn;have hjs:j < ops.size:=by have:=(B0.1 hj).1;simpa using this
    obtain ⟨b,hb1,hb2⟩:=hwg j hjs;rcases (ZW hmx h1 h2 k ik hk).1 hkj with h3|h3
    ·rw [hb2] at h3;exact .inl (hbs j b oj hb1 hj he k h3)
    ·exact .inr h3
   have hlt:∀(j:Nat),listed.getD j false=true->j < ops.size:=fun j hj=>by
    rcases Mb j listed.size with h2|h2
    ·rw [<-inv.size];exact h2
    ·simp [Nx h2] at hj
   have Sd:∀(j:Nat),listed.getD j false=true->∃oj,ops.toList[j]?=some oj/\zR (fun j=>listed.getD j false) oj:=fun j hj=>by have hoj:ops[j]?=some (ops[j]'(hlt j hj)):=L5 (hlt j hj);exact ⟨_,by simpa using hoj,inv.closed j _ hoj hj⟩
   have hbase:idle inst.ins=false->mI (fun j=>listed.getD j false) 0 fs nx=mI (fun j=>decide (j < i)) 0 fs nx:=fun hid=>CZ fun j g hg hn=>by
    simp only [E1];rcases Nat.lt_trichotomy j i with h1|h1|h1
    ·rw [behind j g hg hn i o ho' acI h1];simp [h1]
    ·subst h1;rw [hif];simp
    ·cases hb:listed.getD j false with
     |false=>simp;omega
     |true=>
      exfalso;obtain ⟨oj,h2,h3⟩:=Sd j hb;rcases ahead j g hg hn oj h2 h3 i inst hinst h1 with h4|h4
      ·rw [hif] at h4;cases h4
      ·rw [hid] at h4;cases h4
   have far:∀(j:Nat) (g:Eff),fs[j]?=some g->listed.getD j false≠decide (j < i)->(∀t,t∈g.tr.XD->t ∉ f.tr.rdT)/\(∀t,t∈g.tr.XE->t ∉ f.tr.Yu):=fun j g hg hne=>by
    rcases Nat.lt_trichotomy j i with hlt|heq|hgt
    ·have hj:listed.getD j false=false:=by
      cases hb:listed.getD j false with
      |false=>rfl
      |true=>rw [hb] at hne;simp [hlt] at hne
     have hcl:=BA (Dq hok (am4 j hlt hj) (htr j g hg) (htr i f hf));exact ⟨fun t ht=>(hcl.1 t ht).1,fun t ht=>(hcl.2.2.1 t ht).1⟩
    ·subst heq;rw [hif] at hne;simp at hne
    ·have hj:listed.getD j false=true:=by
      cases hb:listed.getD j false with
      |true=>rfl
      |false=>rw [hb] at hne;simp at hne;omega
     have hcl:=BA (Dq hok (acQ j hgt hj) (htr i f hf) (htr j g hg));exact ⟨hcl.2.1,hcl.2.2.2⟩
   have agE:∀t,t∈f.tr.rdT->iM (mO (fun j=>listed.getD j false) 0 fs e) t=iM (mO (fun j=>decide (j < i)) 0 fs e) t:=fun t ht=>
    Dw rfl fun j g hg hne hd=>by
     simp only [E1] at hne;have:=(far j g hg hne).1 t (by rw [(OP j g hg).1,hd];simp)
     exact this ht
   have agH:∀id,id∈f.tr.Yu->aH m.h id=aH hq id:=fun id hid=>by
    rw [hqe,inv.heap];exact vL rfl fun j g hg hne hd=>by simp only [E1] at hne;exact (far j g hg hne).2 id ((OP j g hg).2.1 id hd) hid
   have Jy:∀j,j≠i->(listed.setIfInBounds i true).getD j false=listed.getD j false:=fun j hj=>SC hj
   have Ot:(listed.setIfInBounds i true).getD i false=true:=U7 (by rw [inv.size];exact hi1)
   have aeg:∀t,iM (mO (fun j=>(listed.setIfInBounds i true).getD j false) 0 fs e) t=iM (l8 (mO (fun j=>listed.getD j false) 0 fs e) f.dst f.d) t:=fun t=>by
    rw [Ah];exact VZ (L:=fun j=>listed.getD j false) (L':=fun j=>(listed.setIfInBounds i true).getD j false) hf (by simpa using hif) (by simpa using Ot) (fun j hj=>by simpa using Jy j hj) fun j g hij hg hl hd hgd=>by simp only [E1] at hl;have hcl:=BA (Dq hok (acQ j hij hl) (htr i f hf) (htr j g hg));exact (hcl.1 t (by rw [(OP i f hf).1,hd];simp)).2 (by rw [(OP j g hg).1,hgd];simp)
   have ads:∀(hp:Heap),(∀id,aH hp id=aH (yf (fun j=>listed.getD j false) 0 fs h) id)->∀id,aH (aK hp f.us) id=aH (yf (fun j=>(listed.setIfInBounds i true).getD j false) 0 fs h) id:=fun hp hhp id=>by
    rw [Vu (L:=fun j=>listed.getD j false) (L':=fun j=>(listed.setIfInBounds i true).getD j false) hf (by simpa using hif) (by simpa using Ot) (fun j hj=>by simpa using Jy j hj) fun j g hij hg hl hd hgd=>by simp only [E1] at hl;have hcl:=BA (Dq hok (acQ j hij hl) (htr i f hf) (htr j g hg));exact (hcl.2.2.1 id (hwH id hd)).2 ((OP j g hg).2.1 id hgd)]
    exact OW (hhp id)
   have O8:∀(j:Nat) (o:Oper),ops[j]?=some o->(listed.setIfInBounds i true).getD j false=true->zR (fun j=>(listed.setIfInBounds i true).getD j false) o:=by
    intro j oj hoj hl e he hbd;have hmono:∀k,listed.getD k false=true->(listed.setIfInBounds i true).getD k false=true:=fun k hk=>by
     by_cases hki:k=i
     ·subst hki;exact Ot
     ·rw [Jy k hki];exact hk
    by_cases hji:j=i
    ·subst hji;rw [ho] at hoj;simp only [A0] at hoj;subst hoj;exact hmono _ (acI e he hbd)
    ·rw [Jy j hji] at hl;exact hmono _ (inv.closed j oj hoj hl e he hbd)
   have hcount:∃l':List Nat,l'.length=n/\l'.Nodup/\∀j,j∈l'↔j < ops.size/\(listed.setIfInBounds i true).getD j false=false:=by
    have hil:i∈l:=(hl3 i).2 ⟨hi1,hif⟩;refine ⟨l.erase i,by rw [List.length_erase_of_mem hil,hl1];omega,hl2.erase i,fun j=>?_⟩
    rw [hl2.mem_erase_iff,hl3];constructor
    ·rintro ⟨h1,h2,h3⟩;exact ⟨h2,by rw [Jy j h1];exact h3⟩
    ·rintro ⟨h1,h2⟩;have hji:j≠i:=fun e=>by subst e;rw [Ot] at h2;cases h2
     exact ⟨hji,h1,by rw [<-Jy j hji];exact h2⟩
   unfold wpOp;rw [ho];simp only;have ao2:¬m.U (mI (fun j=>listed.getD j false) 0 fs nx+i):=fun hx=>by
    rcases inv.used _ hx with h1|⟨k,h1,h2⟩
    ·omega
    ·have:k=i:=by omega
     subst this;rw [hif] at h1;cases h1
   have ae7:f.nx=none->∀(m':M),m'.U=(fun j=>m.U j\/j=mI (fun j=>listed.getD j false) 0 fs nx+i)->∀j,m'.U j->j < mI (fun j=>(listed.setIfInBounds i true).getD j false) 0 fs nx\/∃k,(listed.setIfInBounds i true).getD k false=true/\j=mI (fun j=>(listed.setIfInBounds i true).getD j false) 0 fs nx+k:=by
    intro hfn m' hm' j hj;have hb:mI (fun j=>(listed.setIfInBounds i true).getD j false) 0 fs nx=mI (fun j=>listed.getD j false) 0 fs nx:=CZ fun j g hg hn=>by
     simp only [E1];refine Jy j fun e=>?_
     subst e;rw [hf] at hg;simp only [A0] at hg;subst hg;exact hn hfn
    rw [hb];rw [hm'] at hj;rcases hj with hj|hj
    ·rcases inv.used j hj with h1|⟨k,h1,h2⟩
     ·exact .inl h1
     ·refine .inr ⟨k,?_,h2⟩;by_cases hki:k=i
      ·subst hki;exact Ot
      ·rw [Jy k hki];exact h1
    ·exact .inr ⟨i,Ot,hj⟩
   rcases hact (mO (fun j=>listed.getD j false) 0 fs e) agE with ⟨hw,hfd,hfu,hfn⟩|⟨hw,hfn,hnc,hst⟩|⟨hw,gg,xs,n',h',hfn,hins,hlc,hh',hout⟩
   ·rw [Gj inv.rel hcomp (b:=false) hw];simp only [Cd,C2];obtain ⟨_,p2,p3,_⟩:=jH hcomp;have hr2:Rel B S w0 nt m (l8 (mO (fun j=>listed.getD j false) 0 fs e) f.dst f.d) (a.put o.dst undef):=by
     rw [hfd,hdst,p2];exact inv.rel.put p3 ⟨[],rfl,trivial⟩
    have hg:=gL (B:=B) (S:=S) m (mI (fun j=>listed.getD j false) 0 fs nx+i)
    refine ih _ _ (m.grow (mI (fun j=>listed.getD j false) 0 fs nx+i)) ⟨by simpa using inv.size,O8,?_,ae7 hfn _ rfl,?_,inv.ev.trans hg⟩ hcount
    ·intro id;have:=ads m.h inv.heap id
     rw [hfu] at this;exact this
    ·have hr3:Rel B S w0 nt (m.grow (mI (fun j=>listed.getD j false) 0 fs nx+i)) (l8 (mO (fun j=>listed.getD j false) 0 fs e) f.dst f.d) (a.put o.dst undef):=hr2.Cg hg (x9 hr2.hok _) (Below.refl _ _)
     exact hr3.ext aeg
   ·rw [Gj inv.rel hcomp (b:=true) hw];simp only [Ek];refine .inl ?_;have hst':lW call bg (zT (mO (fun j=>listed.getD j false) 0 fs e)) m.h (mI (fun j=>listed.getD j false) 0 fs nx+i) inst.ins=some (f.d,f.us):=
     hst m.h _ agH (by
      cases hid:idle inst.ins with
      |true=>exact .inr rfl
      |false=>exact .inl (by rw [hbase hid]))
    refine afP hcomp hnc.1 hnc.2 inv.rel ao2 hcall hl hst' fun a' m' q1 q2 q3 q4=>?_
    refine ih _ a' m' ⟨by simpa using inv.size,O8,?_,ae7 hfn m' q2,?_,inv.ev.trans q3⟩ hcount
    ·intro id;rw [q1];exact ads m.h inv.heap id
    ·rw [<-hdst] at q4;exact q4.ext aeg
   ·rw [Gj inv.rel hcomp (b:=true) hw];simp only [Ek];refine .inl ?_;have hb:=hbase (by rw [hins];rfl)
    have hU:M4 m (mI (fun j=>decide (j < i)) 0 fs nx+i):=fun u hu=>by
     rw [<-hb];rcases inv.used u hu with h1|⟨k,h1,rfl⟩
     ·omega
     ·rcases Nat.lt_trichotomy k i with h2|h2|h2
      ·omega
      ·subst h2;rw [hif] at h1;cases h1
      ·obtain ⟨ok,h3,h4⟩:=Sd k h1;have:=behind i f hf (by rw [hfn];simp) k ok h3 h4 h2
       rw [hif] at this;cases this
    have hqm:∀id,aH hq id=aH m.h id:=fun id=>by
     by_cases hid:id∈f.tr.Yu
     ·exact (agH id hid).symm
     ·obtain ⟨h1,h2⟩:=hout id hid;rw [h2,inv.rel.hok.dom id fun hu=>by have:=hU id hu;omega]
    have e1:=vg (B:=B) (S:=S) (m:=m) hqm;have e2:=IG inv.rel.hok hqm;have hr1:Rel B S w0 nt (m.heap hq) (mO (fun j=>listed.getD j false) 0 fs e) a:=inv.rel.Cg e1 e2 (Below.refl _ _)
    obtain ⟨p1,p2,p3,_⟩:=jH hcomp;rw [hins] at p1;obtain ⟨args,ts,hop,h7⟩:=JR (CL p1 rfl);obtain ⟨al8,hs2⟩:=aad hld hlc;unfold Oper.wp;rw [Jw al8 hop];show Calls P gg (args.map a.eval) m.w _
    have hcc:=hs2 B S (m.heap hq) (args.map a.eval).toList rfl hU e2 hr1.inv (by simpa using xh hr1 h7)
    rw [Array.toArray_toList] at hcc;refine hcc.mono fun ex w' ⟨v,m',q0,q1,q2,q3,q4,q5,q6,q7⟩=>?_
    subst q0 q1;have hr2:Rel B S w0 nt m' (l8 (mO (fun j=>listed.getD j false) 0 fs e) f.dst f.d) (a.put o.dst v):=by rw [hdst,p2];exact (hr1.Cg q5 q4 q7).put p3 q6
    have hbn:mI (fun j=>(listed.setIfInBounds i true).getD j false) 0 fs nx=n':=QU hf hfn (by simpa using Ot) fun j g hij hg hn=>by
     simp only [E1];rw [Jy j (by omega)]
     cases hj:listed.getD j false with
     |false=>rfl
     |true=>
      exfalso;obtain ⟨oj,h3,h4⟩:=Sd j hj;have:=behind i f hf (by rw [hfn];simp) j oj h3 h4 hij
      rw [hif] at this;cases this
    refine ih _ _ m' ⟨by simpa using inv.size,O8,fun id=>?_,fun u hu=>?_,hr2.ext aeg,inv.ev.trans (e1.trans q5)⟩ hcount
    ·rw [q2,hh',<-ads m.h inv.heap id];exact OW (hqm id)
    ·rw [hbn];exact .inl (q3 u hu)
theorem WB {id:Nat} {ops:Array Oper} {is:List jl} {Q:Exit->Act->World->Prop} (hm:P.follows .mixedOrders=true) (hcall:∀f vs rs,call f vs=some rs->oq P f vs rs) (hl:∀f aY bs rs bs',bg f aY bs=some (rs,bs')->Fw P f aY bs rs bs')
  (hld:∀f ds h k rs h' n',gU f ds h k=some (rs,h',n')->Ko P f ds h k rs h' n')
  (hc:jD P zf nt ops ops.toList=some is) (hmx:Pz is (waits [] ops.toList)=true) (Mh:Mk 0 ops.toList=true) {s:St} {m:M} {a:Act} (hh:m.h=s.heap) (hU:M4 m s.nx) (hr:Rel B S w0 nt m s.env a)
  {fs:List Eff} (r1:Ran call bg gU 0 s.nx is s.env s.heap fs) (hok:D6 (fs.map (·.tr)) (waits [] ops.toList)=true) {h':Heap} (hH:∀id,aH h' id=aH (yf (fun _=>true) 0 fs s.heap) id)
  (hK:∀(a':Act) (m':M),m'.h=h'->M4 m' (mI (fun _=>true) 0 fs s.nx+is.length)->aS B S m m'->Rel B S w0 nt m' (mO (fun _=>true) 0 fs s.env) a'->Q .normal a' m'.w):(Code.region id ops true).wp P Q a m.w:=by
 refine wp_region_any hm ?_;have hlen:ops.size=is.length:=by rw [<-(Cm hc).1];simp
 have hb:∀k,k < m.w.heap.size->m.w.drew.heap[k]?=m.w.heap[k]?:=fun _ _=>rfl
 have ev0:=Ca hr.hok (w':=m.w.drew) hb;have hk0:=Rk hr.hok (w':=m.w.drew) hb (B9 _);have hr0:Rel B S w0 nt (m.world m.w.drew) s.env a:=hr.Cg ev0 hk0 ((Below.refl B m.w).drew);have hnone:∀j,(Array.replicate ops.size false).getD j false=false:=by
  intro j;rcases Mb j ops.size with h|h
  ·simp [h]
  ·simp [h]
 refine any_ok (w0:=w0) (m0:=m) hcall hl hld hc hmx Mh r1 hok (fun a' m' q1 q2 q3 q4=>?_) ops.size (Array.replicate ops.size false) a (m.world m.w.drew) ⟨by simp,fun j o _ hl=>?_,fun i=>?_,fun i hi=>?_,?_,ev0⟩ ⟨List.range ops.size,by simp,List.nodup_range,fun i=>?_⟩
 ·have e1:=vg (B:=B) (S:=S) (m:=m') (h:=h') fun i=>(hH i).trans (q1 i).symm
  have e2:=IG q4.hok (h:=h') fun i=>(hH i).trans (q1 i).symm
  exact hK a' (m'.heap h') rfl (by rw [<-hlen];exact q2) (q3.trans e1) (q4.Cg e1 e2 (Below.refl _ _))
 ·rw [hnone] at hl;cases hl
 ·rw [Kv (fun j _=>hnone j)]
  show aH m.h i=_
  rw [hh]
 ·rw [F9 (fun j _ _ _=>hnone _)]
  exact .inl (hU i hi)
 ·rw [Km (fun j _=>hnone j)];exact hr0
 ·rw [hnone];simp
theorem agM {id:Nat} {ops:Array Oper} {is:List jl} {Q:Exit->Act->World->Prop} (hm:P.follows .mixedOrders=true) (hcall:∀f vs rs,call f vs=some rs->oq P f vs rs) (hl:∀f aY bs rs bs',bg f aY bs=some (rs,bs')->Fw P f aY bs rs bs')
  (hc:jD P zf nt ops ops.toList=some is) (hns:yj is=true) (Mh:Mk 0 ops.toList=true) {s:St} {m:M} {a:Act} (hh:m.h=s.heap) (hU:M4 m s.nx) (hr:Rel B S w0 nt m s.env a)
  {e':Env} {h':Heap} {ts:List Trace} (hev:mW call bg s.nx 0 is s.env s.heap=some (e',h',ts)) (hok:D6 ts (waits [] ops.toList)=true)
  (hK:∀(a':Act) (m':M),m'.h=h'->M4 m' (s.nx+is.length)->aS B S m m'->Rel B S w0 nt m' e' a'->Q .normal a' m'.w):(Code.region id ops true).wp P Q a m.w:=by
 obtain ⟨fs,r1,rfl,rfl,rfl,r5⟩:=XJ (gU:=fun _ _ _ _=>none) hns hev
 exact WB hm hcall hl (fun _ _ _ _ _ _ _ hx=>by cases hx) hc (aeC hns) Mh hh hU hr r1 hok (fun _=>rfl) (by rw [r5];exact hK)
theorem aka {id:Nat} {ops:Array Oper} {is:List jl} {Q:Exit->Act->World->Prop} (hm:P.follows .mixedOrders=true) (hcall:∀f vs rs,call f vs=some rs->oq P f vs rs) (hl:∀f aY bs rs bs',bg f aY bs=some (rs,bs')->Fw P f aY bs rs bs')
  (hld:∀f ds h k rs h' n',gU f ds h k=some (rs,h',n')->Ko P f ds h k rs h' n')
  (hc:jD P zf nt ops ops.toList=some is) (hmx:Pz is (waits [] ops.toList)=true) (Mh:Mk 0 ops.toList=true) {s:St} {m:M} {a:Act} (hh:m.h=s.heap) (hU:M4 m s.nx) (hr:Rel B S w0 nt m s.env a)
  {e':Env} {h':Heap} {n':Nat} {ts:List Trace} (hev:Ec call bg gU 0 s.nx [] is s.env s.heap=some (e',h',n',ts)) (hok:D6 ts (waits [] ops.toList)=true)
  (hK:∀(a':Act) (m':M),m'.h=h'->M4 m' n'->aS B S m m'->Rel B S w0 nt m' e' a'->Q .normal a' m'.w):(Code.region id ops true).wp P Q a m.w:=by
 obtain ⟨fs,r1,rfl,rfl,r4,rfl⟩:=afv hev;exact WB hm hcall hl hld hc hmx Mh hh hU hr r1 hok r4 (by rw [E1] at hK;exact hK)
end
end Go.Ey
