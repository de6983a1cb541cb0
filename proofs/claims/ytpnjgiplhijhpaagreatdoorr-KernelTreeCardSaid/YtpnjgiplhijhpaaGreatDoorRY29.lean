/- A part. -/
import Derived.Test.YtpnjgiplhijhpaaGreatDoorRY28
import Derived.Deep.Slices
import Derived.Test.YtpnjgiplhijhpaaGreatDoorRChecked
import Derived.LaidMore
import Derived.Lib.LaidTab
import Derived.Lib.LaidU8
import Derived.ProofKit
import Derived.OpenShut
import Derived.Stop.Joined
import Derived.ChangeOld
set_option linter.all false
set_option maxHeartbeats 4000000
namespace Go.Ey.Pr
open Go.Ey Go.Ey.Seat
theorem ED {α:Type} (b:List α):((b.length:Int)==0)=b.isEmpty:=by
 cases b with
 |nil=>rfl
 |cons a b=>
  have:¬((b.length:Int)+1=0):=by omega
  simpa using this
theorem aeX {α:Type} (a:α) (b:List α):decide (((a::b).length:Int) > 0)=true:=by simp
def Gl (n p q:Nat) (a b l:Ts):Bool:=match yc p q a b l with
 |none=>false
 |some (a',b')=>tr n a' && tr n b'
def GX (n p q:Nat) (a b l:Ts):Bool:=match yc p q a b l with
 |none=>false
 |some (a',b')=>!b'.isEmpty && (tr n a' && tr n b')
section
variable {nat:Nat->List V->Option (List V)}
def okB (nat:Nat->List V->Option (List V)) (f n:Nat) (l:Ts):Prop:=kL (T nat).G f [.v (.one (rows kI l))] []=some ([.one (cb (tr n l))],[])
section
variable (hk:Ja nat)
include hk
theorem DU (n:Nat) {p q:Nat} (hp:p < 4) (hq:q < 4) (l:Ts) (hl:l.length < 1000) (h4:Jp l):∀(m k:Nat) (a b:Ts),k+m=l.length->a.length<=k->b.length<=k->
  (∀a' b',yc p q a b (l.drop k)=some (a',b')->okB nat 19 n a'/\okB nat 19 n b')->
  uh (T nat).G 19 0 [.c (rows kI l),.c (ci k),.l (tm p),.l (tm q),.c (rows kI a),.c (rows kI b)]=some ([.one (cb (Gl n p q a b (l.drop k)))],[])
 |0,k,a,b,hk,_,_,hih=>by
  have hlt:¬((k:Int) < (l.length:Int)):=by omega
  rw [uq (by omega)] at hih |-
  obtain ⟨h1,h2⟩:=hih a b rfl;rw [gH JE (t:=t19.heads[0]) rfl];unfold okB at h1 h2;cases hb:tr n a<;>rw [hb] at h1<;>simp [t19,zG,pF,hlt,h1,h2,Gl,yc,hb,dS]
 |m+1,k,a,b,hk',ha,hb,hih=>by
  have hkr:k < l.length:=by omega
  have hlt:((k:Int) < (l.length:Int)):=by omega
  have hs:=oN k (by omega)
  have hmem:l[k]∈l:=List.getElem_mem hkr;rw [drop_at hkr] at hih |-;rw [gH JE (t:=t19.heads[0]) rfl];have hr:=Yu hkr;revert hih hr;generalize hx:l[k]=x;rw [hx] at hmem;intro hih hr;cases x with
  |nil=>simp [t19,zG,pF,hlt,hr,xI,wD,Gl,yc,dS,dm]
  |cons y ys=>
   have hy:y < 4:=h4 _ hmem y List.mem_cons_self;have e1:=x24 hk hy hp;have e2:=x24 hk hy hq;have eb:=ED b;have ep:=aeX y ys;have er:=TC y ys;have es:=Za y ys;have el:=Ut ys;have ea:=MN (l:=a) (x:=ys) (by omega)
   have ec:=MN (l:=b) (x:=ys) (by omega)
   have i1:=DU n hp hq l hl h4 m (k+1) (a++[ys]) b (by omega) (by simp;omega) (by omega)
   have i2:=DU n hp hq l hl h4 m (k+1) a (b++[ys]) (by omega) (by omega) (by simp;omega)
   cases hbe:b.isEmpty<;>cases h1:(y==p)<;>cases h2:(y==q)<;>rw [hbe] at eb<;>rw [h1] at e1<;>rw [h2] at e2<;>simp only [yc,hbe,h1,h2,Bool.and_true,Bool.and_false,Bool.false_eq_true,if_true,if_false,Gl] at hih |-<;>
    first
    |(simp [-Int.natCast_add,t19,zG,pF,hlt,hr,xI,wD,dS,dm,e1,e2,eb,ep,er,es,el,ea,ec,hs];done)
    |(have i:=i1 hih
      simp only [Gl] at i;simp [-Int.natCast_add,t19,zG,pF,hlt,hr,xI,wD,dS,dm,e1,e2,eb,ep,er,es,el,ea,ec,hs,i];done)
    |(have i:=i2 hih
      simp only [Gl] at i;simp [-Int.natCast_add,t19,zG,pF,hlt,hr,xI,wD,dS,dm,e1,e2,eb,ep,er,es,el,ea,ec,hs,i];done)
end
end
end Go.Ey.Pr
set_option maxHeartbeats 4000000
namespace Go.Ey.Pr
open Go.Ey Go.Ey.Seat
theorem gt0 {α:Type} (b:List α):decide (0 < b.length)=!b.isEmpty:=by cases b<;>simp
section
variable {nat:Nat->List V->Option (List V)}
section
variable (hk:Ja nat)
include hk
theorem Dw (n:Nat) {p q:Nat} (hp:p < 4) (hq:q < 4) (l:Ts) (hl:l.length < 1000) (h4:Jp l) (hne:∀x∈l,x≠[]):∀(m k:Nat) (a b:Ts),k+m=l.length->a.length<=k->b.length<=k->
  (∀a' b',yc p q a b (l.drop k)=some (a',b')->okB nat 18 n a'/\okB nat 18 n b')->
  uh (T nat).G 18 0 [.c (rows kI l),.c (ci l.length),.c (ci k),.l (tm p),.l (tm q),.c (rows kI a),.c (rows kI b)]=some ([.one (cb (GX n p q a b (l.drop k)))],[])
 |0,k,a,b,hk,_,_,hih=>by
  have hlt:¬((k:Int) < (l.length:Int)):=by omega
  rw [uq (by omega)] at hih |-
  obtain ⟨h1,h2⟩:=hih a b rfl;rw [gH JC (t:=t18.heads[0]) rfl];unfold okB at h1 h2;have hg:=gt0 b;cases hbe:b.isEmpty<;>rw [hbe] at hg<;>cases hb:tr n a<;>rw [hb] at h1<;>simp [t18,zG,pF,hlt,h1,h2,GX,yc,hb,hbe,hg,dS]
 |m+1,k,a,b,hk',ha,hb,hih=>by
  have hkr:k < l.length:=by omega
  have hlt:((k:Int) < (l.length:Int)):=by omega
  have hs:=oN k (by omega)
  have hmem:l[k]∈l:=List.getElem_mem hkr;rw [drop_at hkr] at hih |-;rw [gH JC (t:=t18.heads[0]) rfl];have hr:=Yu hkr;revert hih hr;generalize hx:l[k]=x;rw [hx] at hmem;intro hih hr;cases x with
  |nil=>exact absurd rfl (hne _ hmem)
  |cons y ys=>
   have hy:y < 4:=h4 _ hmem y List.mem_cons_self;have e1:=x51 hk hy hp;have e2:=x51 hk hy hq;have eb:=ED b;have er:=TC y ys;have es:=Za y ys;have el:=Ut ys;have ea:=MN (l:=a) (x:=ys) (by omega)
   have ec:=MN (l:=b) (x:=ys) (by omega)
   have i1:=Dw n hp hq l hl h4 hne m (k+1) (a++[ys]) b (by omega) (by simp;omega) (by omega)
   have i2:=Dw n hp hq l hl h4 hne m (k+1) a (b++[ys]) (by omega) (by omega) (by simp;omega)
   cases hbe:b.isEmpty<;>cases h1:(y==p)<;>cases h2:(y==q)<;>rw [hbe] at eb<;>rw [h1] at e1<;>rw [h2] at e2<;>simp only [yc,hbe,h1,h2,Bool.and_true,Bool.and_false,Bool.false_eq_true,if_true,if_false,GX] at hih |-<;>
    first
    |(have i:=i1 hih
      simp only [GX] at i;simp [-Int.natCast_add,t18,zG,pF,hlt,hr,xI,wD,dS,dm,e1,e2,eb,er,es,el,ea,ec,hs,i];done)
    |(have i:=i2 hih
      simp only [GX] at i;simp [-Int.natCast_add,t18,zG,pF,hlt,hr,xI,wD,dS,dm,e1,e2,eb,er,es,el,ea,ec,hs,i];done)
    |(simp [-Int.natCast_add,t18,zG,pF,hlt,hr,xI,wD,dS,dm,e1,e2,eb,er,es,el,ea,ec,hs];done)
end
end
end Go.Ey.Pr
set_option maxHeartbeats 4000000
namespace Go.Ey.Pr
open Go.Ey Go.Ey.Seat
theorem Pz (x:List Nat) (r:Ts):tO 1 (rows kI (x::r)) (ci 0)=some (kI x):=wY (k:=0) dm rfl
theorem bz1 (n:Nat):((n:Int)+1==0)=false:=by rw [beq_eq_false_iff_ne];omega
theorem bz2 (n:Nat):((n:Int)+1+1==0)=false:=by rw [beq_eq_false_iff_ne];omega
theorem bz3 (n:Nat):((n:Int)+1+1==1)=false:=by rw [beq_eq_false_iff_ne];omega
theorem WY:∀n,tr n []=false
 |0=>rfl
 |_+1=>rfl
theorem El:∀{l:Ts},l.any List.isEmpty=true↔[]∈l
 |[]=>by simp
 |x::r=>by rw [List.any_cons,Bool.or_eq_true,El (l:=r),List.mem_cons];cases x<;>simp
theorem AB {α:Type}:∀l:List α,((l.length:Int)==1)=decide (l.length=1):=fun l=>by
 by_cases h:l.length=1
 ·rw [h];rfl
 ·have h':¬((l.length:Int)=1):=by omega
  simp [h,h']
section
variable {nat:Nat->List V->Option (List V)}
section
variable (hk:Ja nat)
include hk
theorem x28:∀(n:Nat) (l:Ts),sz l < n->l.length < 1000->Jp l->okB nat 19 n l
 |0,l,h,_,_=>by omega
 |n+1,l,h,hl,h4=>by
  unfold okB;rw [jD JE];have e1:=AB l
  match l,h,hl,h4,e1 with
  |[],_,_,_,e1=>simp [t19,zG,pF,tr]
  |[x],_,_,h4,e1=>
   have e0:=ED x;simp [t19,zG,pF,tr,Pz,xI,wD,e0,e1,dm]
  |[]::z::r,h,hl,h4,e1=>
   simp [t19,zG,pF,tr,Pz,xI,wD,bz1,bz2,bz3,dm]
  |(y::ys)::z::r,h,hl,h4,e1=>
   have hy4:y < 4:=h4 _ List.mem_cons_self y List.mem_cons_self;have er:=TC y ys;have e52:=x52 hk hy4;have hloop:=DU hk n hy4 (VM y) ((y::ys)::z::r) hl h4 ((y::ys)::z::r).length 0 [] [] (by omega) (by simp) (by simp) (fun a b hs=>by
    rw [List.drop_zero] at hs;have h1:=Eb hs;have h2:=Eo hs h4 (by intro x hx;cases hx) (by intro x hx;cases hx)
    have h3:sz ([]:Ts)=0:=rfl;simp only [List.length_cons,List.length_nil] at h1 hl;exact ⟨x28 n a (by omega) (by omega) h2.1,x28 n b (by omega) (by omega) h2.2⟩)
   have hres:Gl n y (ng y) [] [] ((y::ys)::z::r)=tr (n+1) ((y::ys)::z::r):=by
    rw [Gl,tr];cases hs:yc y (ng y) [] [] ((y::ys)::z::r) with
    |none=>rfl
    |some p=>
     obtain ⟨a,b⟩:=p;cases b with
     |nil=>simp [WY]
     |cons _ _=>simp
   rw [<-hres];rw [List.drop_zero,Int.natCast_zero] at hloop;simp only [nJ] at hloop;simp [t19,zG,pF,Pz,xI,wD,bz1,bz2,bz3,dm,er,e52,dS,hloop]
theorem x27:∀(n:Nat) (l:Ts),sz l < n->l.length < 1000->Jp l->okB nat 18 n l
 |0,l,h,_,_=>by omega
 |n+1,l,h,hl,h4=>by
  unfold okB;rw [jD JC];have ec:=ad5 (nat:=nat) l hl;by_cases hm:[]∈l
  ·
   rw [El.2 hm] at ec
   match l,h,hl,h4,hm,ec with
   |[],_,_,_,hm,_=>cases hm
   |[x],_,_,h4,hm,ec=>
    have hx:x=[]:=(List.mem_singleton.1 hm).symm;subst hx;simp [t18,zG,pF,tr,Pz,xI,wD,dm]
   |x::z::r,h,hl,h4,hm,ec=>
    have ht:tr (n+1) (x::z::r)=false:=by
     cases x with
     |nil=>rfl
     |cons y ys=>rw [tr,xC hm]
    rw [ht];simp [t18,zG,pF,bz1,bz2,bz3,ec]
  ·have hne:∀x∈l,x≠[]:=fun x hx e=>hm (e▸hx)
   have hany:l.any List.isEmpty=false:=by rw [<-Bool.not_eq_true];exact fun e=>hm (El.1 e)
   rw [hany] at ec;have hih:∀(y:Nat) (a b:Ts),l≠[]->yc y (ng y) [] [] l=some (a,b)->okB nat 18 n a/\okB nat 18 n b:=fun y a b hnl hs=>by
    have h1:=Eb hs;have h2:=Eo hs h4 (by intro x hx;cases hx) (by intro x hx;cases hx)
    have h3:sz ([]:Ts)=0:=rfl;have h5:0 < l.length:=List.length_pos_iff.2 hnl;simp only [List.length_nil] at h1;exact ⟨x27 n a (by omega) (by omega) h2.1,x27 n b (by omega) (by omega) h2.2⟩
   match l,h,hl,h4,hne,ec,hih with
   |[],_,_,_,_,_,_=>simp [t18,zG,pF,tr]
   |[]::r,_,_,_,hne,_,_=>exact absurd rfl (hne [] List.mem_cons_self)
   |(y::ys)::r,h,hl,h4,hne,ec,hih=>
    have hy4:y < 4:=h4 _ List.mem_cons_self y List.mem_cons_self;have er:=TC y ys;have e50:=x50 hk hy4;have hloop:=Dw hk n hy4 (VM y) ((y::ys)::r) hl h4 hne ((y::ys)::r).length 0 [] [] (by omega) (by simp) (by simp) (fun a b hs=>hih y a b (by simp) (by rw [List.drop_zero] at hs;exact hs))
    have hres:GX n y (ng y) [] [] ((y::ys)::r)=tr (n+1) ((y::ys)::r):=by
     cases r with
     |nil=>simp [GX,yc,tr]
     |cons z r=>
      rw [GX,tr];cases yc y (ng y) [] [] ((y::ys)::z::r)<;>rfl
    rw [<-hres];rw [List.drop_zero,Int.natCast_zero] at hloop;simp only [nJ] at hloop;cases r<;>simp at hloop<;>simp [t18,zG,pF,Pz,xI,wD,bz1,bz2,bz3,dm,er,e50,dS,ec,hloop]
end
end
end Go.Ey.Pr
set_option maxHeartbeats 4000000
namespace Go.Ey.Pr
open Go.Ey Go.Ey.Seat
def qx (ts:List Nat):List C:=[rows tm ts,cz]
theorem uM (ts:List Nat):(qx ts).length=2:=rfl
theorem mP {l:Ts} {k:Nat} (h:k < l.length):tO 2 (rows qx l) (ci k)=some (qx l[k]):=wY uM (List.getElem?_eq_getElem h)
theorem WE (l:Ts):oh false (rows qx l)=some (ci l.length):=rfl
theorem YV (x:List Nat):bG (qx x) 0=rows tm x:=rfl
theorem Ur (x:List Nat):qg 2 1 [rows tm x,cz]=some (.slice (qx x) 1):=by simp [qg,aD,qx]
theorem afd {l:Ts} {x:List Nat} (h:l.length < 1000):BK 2 48 (.slice (qx x) 1) (rows qx l)=some (rows qx (l++[x])):=DR uM (by decide) (by unfold aD;omega) (by unfold aD;omega)
theorem adu {l:List Nat} {x:Nat} (h:l.length < 1000):BK 11 176 (.slice (tm x) 1) (rows tm l)=some (rows tm (l++[x])):=DR dS (by decide) (by unfold aD;omega) (by unfold aD;omega)
def encI (n:Int):List C:=[ci n]
def yF (ts:List Int):List C:=[rows encI ts]
theorem Aa (n:Int):(encI n).length=1:=rfl
theorem nV (ts:List Int):(yF ts).length=1:=rfl
theorem aeK {l:List Int} {k:Nat} (h:k < l.length):tO 1 (rows encI l) (ci k)=some (encI l[k]):=wY Aa (List.getElem?_eq_getElem h)
theorem QM {l:List (List Int)} {k:Nat} (h:k < l.length):tO 1 (rows yF l) (ci k)=some (yF l[k]):=wY nV (List.getElem?_eq_getElem h)
theorem QB (l:List (List Int)):oh false (rows yF l)=some (ci l.length):=rfl
theorem QD (l:List Int):oh false (rows encI l)=some (ci l.length):=rfl
theorem Qa (x:List Int):bG (yF x) 0=rows encI x:=rfl
theorem aa6 (x:Int):bG (encI x) 0=ci x:=rfl
def dg (n:Int):Nat:=(n % 4).toNat
theorem U4 (n:Int):dg n < 4:=by unfold dg;omega
theorem OW {a b:Int} (h:b≠0):eG .rem false (ci a) (ci b)=some (ci (a.tmod b)):=by simp [eG,ci,iL,dn,eT,h]
theorem Zm (n:Int):(if n.tmod 4 < 0 then n.tmod 4+4 else n.tmod 4)=(dg n:Int):=by
 unfold dg;rcases Int.le_total 0 n with h|h
 ·rw [Int.tmod_eq_emod_of_nonneg h];split<;>omega
 ·have h1:n.tmod 4=-((-n) % 4):=by
   rw [<-Int.tmod_eq_emod_of_nonneg (by omega),Int.neg_tmod,Int.neg_neg]
  rw [h1];split<;>omega
theorem vrK (i:Nat) (h:i < 2):tm i=vr i:=by simp [tm,h]
theorem MO (i:Nat):qg 11 1 [bG (vr i) 0,bG (vr i) 1,bG (vr i) 2,bG (vr i) 3,bG (vr i) 4,bG (vr i) 5,bG (vr i) 6,bG (vr i) 7,bG (vr i) 8,bG (vr i) 9,bG (vr i) 10]=some (.slice (vr i) 1):=by have h:[bG (vr i) 0,bG (vr i) 1,bG (vr i) 2,bG (vr i) 3,bG (vr i) 4,bG (vr i) 5,bG (vr i) 6,bG (vr i) 7,bG (vr i) 8,bG (vr i) 9,bG (vr i) 10]=vr i:=rfl;rw [h];simp [qg,aD,vr]
theorem acK (i:Nat):qg 11 1 [bG (tm i) 0,bG (tm i) 1,bG (tm i) 2,bG (tm i) 3,bG (tm i) 4,bG (tm i) 5,bG (tm i) 6,bG (tm i) 7,bG (tm i) 8,bG (tm i) 9,bG (tm i) 10]=some (.slice (tm i) 1):=by
 have h:[bG (tm i) 0,bG (tm i) 1,bG (tm i) 2,bG (tm i) 3,bG (tm i) 4,bG (tm i) 5,bG (tm i) 6,bG (tm i) 7,bG (tm i) 8,bG (tm i) 9,bG (tm i) 10]=tm i:=by unfold tm;split<;>rfl
 rw [h];simp [qg,aD,dS]
theorem acs (i:Nat) (h:i < 2):tO 2 (.slice (M8 0++M8 1) 2) (ci i)=some (M8 i):=by
 have:i=0\/i=1:=by omega
 rcases this with rfl|rfl<;>simp [tO,ci,M8]
section
variable {nat:Nat->List V->Option (List V)}
theorem x8 (n:Int):kL (T nat).G 5 [.v (.one (ci n)),.v (.one (ci 4))] []=some ([.one (ci (dg n))],[]):=by
 have h1:=OW (a:=n) (b:=4) (by decide)
 have h2:=Zm n;have h3:n.tmod 4 < 0->eG .add false (ci (n.tmod 4)) (ci 4)=some (ci (n.tmod 4+4)):=fun h=>by
  have:=Int.lt_tmod_of_pos n (show (0:Int) < 4 by decide)
  exact QE (by omega) (by omega)
 rw [jD aaJ];by_cases h:n.tmod 4 < 0
 ·rw [if_pos h] at h2;simp [t5,zG,h1,h,h3 h,h2]
 ·rw [if_neg h] at h2;rw [h2] at h1 h;simp [t5,zG,h1,h]
theorem x10 (i:Nat):kL (T nat).G 6 [.v (.agg (M8 i))] []=some ([.agg (vr i)],[]):=by rw [jD tree6];simp [t6,zG,M8,vr,ce]
section
variable (hk:Ja nat)
include hk
theorem Mk (n:Nat) (l:Ts) (hl:l.length < 1000) (h27:okB nat 18 n l):∀(m k:Nat),k+m=l.length->
  uh (T nat).G 9 0 [.c (rows qx l),.c (ci l.length),.c (ci k),.c (rows kI (l.take k))]=some ([.one (cb (tr n l))],[])
 |0,k,hk=>by
  have hlt:¬((k:Int) < (l.length:Int)):=by omega
  have ht:l.take k=l:=List.take_of_length_le (by omega)
  unfold okB at h27;rw [gH Q9 (t:=t9.heads[0]) rfl,ht];simp [t9,zG,hlt,h27]
 |m+1,k,hk'=>by
  have hkr:k < l.length:=by omega
  have hlt:((k:Int) < (l.length:Int)):=by omega
  have hs:=oN k (by omega)
  have hi:=Mk n l hl h27 m (k+1) (by omega)
  have ht:l.take (k+1)=l.take k++[l[k]]:=List.take_succ_eq_append_getElem hkr;have ha:=MN (l:=l.take k) (x:=l[k]) (by simp;omega)
  have Oa:=Ut l[k];rw [gH Q9 (t:=t9.heads[0]) rfl];simp [-Int.natCast_add,t9,zG,hlt,mP hkr,YV,Oa,ha,hs,hi,uM]
theorem KD (n:Nat) (l:Ts) (hl:l.length < 1000) (h28:okB nat 19 n l):∀(m k:Nat),k+m=l.length->
  uh (T nat).G 10 0 [.c (rows qx l),.c (ci k),.c (rows kI (l.take k))]=some ([.one (cb (tr n l))],[])
 |0,k,hk=>by
  have hlt:¬((k:Int) < (l.length:Int)):=by omega
  have ht:l.take k=l:=List.take_of_length_le (by omega)
  unfold okB at h28;rw [gH IC (t:=t10.heads[0]) rfl,ht];simp [t10,zG,WE,hlt,h28]
 |m+1,k,hk'=>by
  have hkr:k < l.length:=by omega
  have hlt:((k:Int) < (l.length:Int)):=by omega
  have hs:=oN k (by omega)
  have hi:=KD n l hl h28 m (k+1) (by omega)
  have ht:l.take (k+1)=l.take k++[l[k]]:=List.take_succ_eq_append_getElem hkr;have ha:=MN (l:=l.take k) (x:=l[k]) (by simp;omega)
  have Oa:=Ut l[k];rw [gH IC (t:=t10.heads[0]) rfl];simp [-Int.natCast_add,t10,zG,WE,hlt,mP hkr,YV,Oa,ha,hs,hi,uM]
theorem x13 (l:Ts) (hl:l.length < 1000) (h4:Jp l):kL (T nat).G 9 [.v (.one (rows qx l))] []=some ([.one (cb (tr (sz l+1) l))],[]):=by
 have h:=Mk hk (sz l+1) l hl (x27 hk _ l (by omega) hl h4) l.length 0 (by omega)
 simp only [List.take_zero,Int.natCast_zero,nJ] at h;rw [jD Q9];simp [t9,zG,WE,h]
theorem x14 (l:Ts) (hl:l.length < 1000) (h4:Jp l):kL (T nat).G 10 [.v (.one (rows qx l))] []=some ([.one (cb (tr (sz l+1) l))],[]):=by
 have h:=KD hk (sz l+1) l hl (x28 hk _ l (by omega) hl h4) l.length 0 (by omega)
 simp only [List.take_zero,Int.natCast_zero,nJ] at h;rw [jD IC];simp [t10,zG,h]
theorem abd (l:List (List Int)) (i:Nat) (hi:i < l.length) (hl:l.length<=6) (cs:Ts) (hcs:cs.length<=i) (h4:l[i].length<=4):∀(m k:Nat) (acc:List Nat),k+m=l[i].length->acc.length=k->
  uh (T nat).G 3 1 [.c (rows yF l),.c (ci i),.c (ci k),.c (rows qx cs),.c cz,.c (rows tm acc)]=
   uh (T nat).G 3 0 [.c (rows yF l),.c (ci ((i+1:Nat):Int)),.c (rows qx (cs++[acc++(l[i].drop k).map dg]))]
 |0,k,acc,hk,ha=>by
  have hlt:¬((k:Int) < (l[i].length:Int)):=by omega
  have hs:=oN i (by omega)
  have Oa:=Ur acc;have hap:=afd (l:=cs) (x:=acc) (by omega)
  rw [gH Im (t:=t3.heads[1]) rfl,uq (by omega)]
  simp [-Int.natCast_add,t3,zG,QM hi,Qa,QD,hlt,hs,Oa,hap,nV]
 |m+1,k,acc,hk',ha=>by
  have hkr:k < l[i].length:=by omega
  have hlt:((k:Int) < (l[i].length:Int)):=by omega
  have hs:=oN k (by omega)
  have hin:=abd l i hi hl cs hcs h4 m (k+1) (acc++[dg l[i][k]]) (by omega) (by simp;omega)
  have h8:=x8 (nat:=nat) l[i][k];have hd:=U4 l[i][k];rw [drop_at hkr,gH Im (t:=t3.heads[1]) rfl];rw [List.append_assoc] at hin;simp only [List.map_cons];have hrI:=aeK hkr;revert hin h8 hd hrI;generalize dg l[i][k]=d;generalize l[i][k]=e;intro hin h8 hd hrI;have h11:=x11 hk;obtain ⟨j,hj⟩:∃j,j=d % 2:=⟨_,rfl⟩;have hj2:j < 2:=by omega
  have hm2:eG .rem false (ci d) (ci 2)=some (ci j):=by
   rw [OW (by decide)]
   congr 2;rw [Int.tmod_eq_emod_of_nonneg (by omega)]
   omega
  have hrv:=acs j hj2;have h10:=x10 (nat:=nat) j;have hlv:=MO j;have hln:=acK d;have hap:=adu (l:=acc) (x:=d) (by omega)
  have h12:=x12 hk hj2;rw [vrK _ hj2] at h12;have hsy:(M8 j).length=2:=rfl;have hvr:(vr j).length=11:=rfl;have hnK:(⟨#[110,111,116]⟩:ByteArray)=Ni:=rfl;by_cases hg:d > 1
  ·have hg':((d:Int) > 1):=by omega
   have e2:j+2=d:=by omega
   rw [e2] at h12;simp [-Int.natCast_add,t3,zG,QM hi,hrI,Qa,aa6,QD,hlt,h8,h11,hm2,hrv,h10,hlv,h12,hln,hap,hs,hg',hsy,hvr,hnK,dS,nV,Aa];simpa using hin
  ·have hg':¬((d:Int) > 1):=by omega
   have e2:j=d:=by omega
   have e3:=vrK d (by omega)
   subst e2;rw [e3] at hap;simp [-Int.natCast_add,t3,zG,QM hi,hrI,Qa,aa6,QD,hlt,h8,h11,hm2,hrv,h10,hlv,hap,hs,hg',hsy,hvr,dS,nV,Aa];simpa using hin
end
end
end Go.Ey.Pr
namespace Go.Ey
open Go.RowKit
def Typed (P:Program):Nat->TypeId->List C->Prop
 |0,_,_=>False
 |n+1,t,cs=>
  match P.underlying t with
  |some .bool=>∃b,cs=[.lit (.bool b)]
  |some (.int k)=>∃z,cs=[.lit (.int k z)]/\(Lit.int k z).wf=true
  |some .string=>∃s:ByteArray,cs=[.lit (.string s)]/\s.size<=maxLen
  |some (.slice e)=>∃rows:List (List C),cs=[.slice rows.flatten rows.length]/\rows.length<=maxLen/\∀r∈rows,r.length=P.cellsOf e/\Typed P n e r
  |some (.struct fs)=>cs.length=P.cellsOf t/\∀f∈fs.toList,Typed P n f.type ((cs.drop f.offset).take (P.cellsOf f.type))
  |_=>False
def Pd (P:Program) (total:Nat):Nat->List Field->Bool
 |off,[]=>decide (off=total)
 |off,f::fs=>decide (f.offset=off) && decide (off+P.cellsOf f.type<=total) && Pd P total (off+P.cellsOf f.type) fs
def GQ (P:Program):Nat->TypeId->Bool
 |0,_=>false
 |n+1,t=>
  match P.underlying t with
  |some .bool|some (.int _)|some .string=>true
  |some (.slice e)=>decide (0 < P.cellsOf e) && GQ P n e
  |some (.struct fs)=>Pd P (P.cellsOf t) 0 fs.toList && fs.toList.all fun f=>GQ P n f.type
  |_=>false
def Any:Nat->Nat->Prop:=fun _ _=>True
section
variable {H:Type} {enc:TypeId×Value->H} {P:Program} {w:World} {base:Nat} {spare:Nat->Bool} {held:Bool}
theorem CE {n total:Nat} {vs:List Value} (hv:vs.length=total):∀(fs:List Field) (off:Nat),off<=total->Pd P total off fs=true->
  (∀f∈fs,∃cs,aj (aJ w Any) cs ((vs.drop f.offset).take (P.cellsOf f.type))/\Typed P n f.type cs)->
  ∃cs,aj (aJ w Any) cs (vs.drop off)/\∀f∈fs,off<=f.offset/\Typed P n f.type ((cs.drop (f.offset - off)).take (P.cellsOf f.type))
 |[],off,_,ht,_=>by simp only [Pd,decide_eq_true_eq] at ht;subst ht;exact ⟨[],by rw [List.drop_eq_nil_of_le (by omega)];trivial,by simp⟩
 |f::fs,off,ho,ht,hf=>by
  simp only [Pd,Bool.and_eq_true,decide_eq_true_eq] at ht;obtain ⟨⟨h1,h2⟩,h3⟩:=ht;obtain ⟨c0,k1,k2⟩:=hf f (by simp)
  obtain ⟨cs,k3,k4⟩:=CE hv fs (off+P.cellsOf f.type) h2 h3 fun g hg=>hf g (by simp [hg])
  have hlen:c0.length=P.cellsOf f.type:=by rw [k1.len,List.length_take,List.length_drop];omega
  refine ⟨c0++cs,?_,fun g hg=>?_⟩
  ·have:=k1.append k3
   rw [h1,<-List.drop_drop,List.take_append_drop] at this;exact this
  ·simp only [List.mem_cons] at hg;rcases hg with rfl|hg
   ·refine ⟨by omega,?_⟩
    rw [h1,Nat.sub_self,List.drop_zero,List.take_append_of_le_length (by omega),List.take_of_length_le (by omega)]
    exact k2
   ·obtain ⟨k5,k6⟩:=k4 g hg;refine ⟨by omega,?_⟩
    rw [show g.offset - off=c0.length+(g.offset - (off+P.cellsOf f.type)) by omega,<-List.drop_drop,List.drop_left]
    exact k6
theorem CB {n c:Nat} {e:TypeId} {a:Addr} (hc:c=P.cellsOf e):∀k,(∀i,i < k->∃us cs,w.cells? base (a.add (i * c)) c=some us/\aj (aJ w Any) cs us/\Typed P n e cs)->
  ∃(rows:List (List C)) (us:List Value),rows.length=k/\us.length=k * c/\aj (aJ w Any) rows.flatten us/\(∀j u,us[j]?=some u->w.cell? (a.add j)=some u)/\∀r∈rows,r.length=c/\Typed P n e r
 |0,_=>⟨[],[],rfl,by simp,trivial,by simp,by simp⟩
 |k+1,h=>by
  obtain ⟨rows,us,h1,h2,h3,h4,h5⟩:=CB hc k fun i hi=>h i (by omega)
  obtain ⟨vs,cs,k1,k2,k3⟩:=h k (by omega)
  obtain ⟨_,k4,k5⟩:=World.cells?_some k1;refine ⟨rows++[cs],us++vs,by simp [h1],by rw [List.length_append,h2,k4,Nat.succ_mul],?_,?_,?_⟩
  ·simp only [List.flatten_append,List.flatten_cons,List.flatten_nil,List.append_nil];exact h3.append k2
  ·intro j u hu;by_cases hj:j < us.length
   ·rw [List.getElem?_append_left hj] at hu;exact h4 j u hu
   ·rw [List.getElem?_append_right (by omega)] at hu
    have hlt:=(List.getElem?_eq_some_iff.1 hu).1;have:=k5 (j - us.length) (by omega)
    rw [Go.Deep.add_add,hu,h2] at this;rw [show k * c+(j - k * c)=j by omega] at this
    exact this
  ·intro r hr;simp only [List.mem_append,List.mem_singleton] at hr;rcases hr with hr|rfl
   ·exact h5 r hr
   ·exact ⟨by rw [k2.len,k4],k3⟩
theorem MX {a:Addr} {rows:List C} {us:List Value} {len cap:Nat} (hl:len<=cap) (h3:aj (aJ w Any) rows us) (h4:∀j u,us[j]?=some u->w.cell? (a.add j)=some u):aJ w Any (.slice rows len) (.slice (some a) len cap):=by
 simp only [aJ];have hs:rows≠[]->a.spot=none:=by
  intro hne;cases us with
  |nil=>cases rows with|nil=>exact absurd rfl hne|cons _ _=>exact h3.elim
  |cons u us=>
   have:=World.cell?_spot (h4 0 u rfl)
   simpa [Addr.add] using this
 refine .inr ⟨a,cap,rfl,hl,hs,AY h3 fun i u hi=>⟨?_,trivial⟩⟩
 have hne:rows≠[]:=by
  intro e;subst e;cases us with
  |nil=>simp at hi
  |cons _ _=>exact h3.elim
 obtain ⟨b,o,sp⟩:=a;have:sp=none:=hs hne
 subst this;have:=h4 i u hi
 unfold Addr.add at this;split at this
 ·rename_i h0;subst h0;exact this
 ·exact this
theorem sH:∀(n:Nat) (t:TypeId),GQ P n t=true->∀(fuel:Nat) (vs:List Value) (x:DataW H×List MemPlace),DataW.trod enc P w base spare held fuel t vs=some x->∃cs,aj (aJ w Any) cs vs/\Typed P n t cs
 |0,_,h,_,_,_,_=>by cases h
 |n+1,t,h,fuel,vs,x,hx=>by
  unfold GQ at h;cases ht:P.underlying t with
  |none=>rw [ht] at h;cases h
  |some d=>
   rw [ht] at h;cases d with
   |bool=>
    obtain ⟨b,rfl,_⟩:=DataW.trod_bool ht hx;exact ⟨[.lit (.bool b)],⟨⟨rfl,rfl⟩,trivial⟩,by unfold Typed;rw [ht];exact ⟨b,rfl⟩⟩
   |int k=>
    obtain ⟨z,rfl,_,hw⟩:=DataW.trod_int ht hx;exact ⟨[.lit (.int k z)],⟨⟨rfl,rfl⟩,trivial⟩,by unfold Typed;rw [ht];exact ⟨z,rfl,hw⟩⟩
   |string=>
    obtain ⟨s,rfl,_,hs⟩:=DataW.trod_string ht hx;exact ⟨[.lit (.string s)],⟨⟨rfl,rfl⟩,trivial⟩,by unfold Typed;rw [ht];exact ⟨s,rfl,hs⟩⟩
   |slice e=>
    simp only [Bool.and_eq_true,decide_eq_true_eq] at h;rcases Go.Deep.open_slice ht hx with ⟨rfl,_⟩|⟨a,len,cap,m,n',D,Pl,rfl,hb,hl,hm,hmm,_,hel⟩
    ·refine ⟨[.slice [] 0],⟨by unfold aJ;exact .inl ⟨rfl,rfl,rfl⟩,trivial⟩,?_⟩
     unfold Typed;rw [ht];exact ⟨[],rfl,by simp,by simp⟩
    ·have hlm:len<=m:=by rw [hmm];split<;>omega
     obtain ⟨rows,us,h1,h2,h3,h4,h5⟩:=CB (w:=w) (base:=base) (n:=n) (a:=a) (rfl:P.cellsOf e=P.cellsOf e) len fun i hi=>by
      obtain ⟨us,k1,k2⟩:=hel i (by omega)
      obtain ⟨cs,k3,k4⟩:=sH n e h.2 n' us _ k2;exact ⟨us,cs,k1,k3,k4⟩
     refine ⟨[.slice rows.flatten rows.length],⟨?_,trivial⟩,?_⟩
     ·rw [h1];exact MX hl h3 h4
     ·unfold Typed;rw [ht];exact ⟨rows,rfl,by omega,h5⟩
   |struct fs=>
    simp only [Bool.and_eq_true,List.all_eq_true] at h;obtain ⟨xs,m,rfl,_,hl,hxl,hf⟩:=DataW.trod_struct ht hx;obtain ⟨cs,k1,k2⟩:=CE (w:=w) (n:=n) hl fs.toList 0 (by omega) h.1 fun f hfm=>by
     obtain ⟨i,hi,hif⟩:=List.getElem_of_mem hfm;have hi':i < fs.size:=by simpa using hi
     have h1:=hf i f (by rw [Array.getElem?_eq_getElem hi'];simpa using hif)
     rw [List.getElem?_eq_getElem (by omega)] at h1
     exact sH n f.type (h.2 f hfm) m _ _ h1
    rw [List.drop_zero] at k1;refine ⟨cs,k1,?_⟩;unfold Typed;rw [ht];refine ⟨by rw [k1.len];exact hl,fun f hfm=>?_⟩
    have:=(k2 f hfm).2
    rw [Nat.sub_zero] at this;exact this
   |_=>cases h
end
end Go.Ey
set_option maxHeartbeats 4000000
namespace Go.Ey.Pr
open Go Go.Ey Go.Ey.Seat Go.RowKit Go.Proofs
theorem uT3:PP.underlying 3=some (.int .i64):=by kernel_rfl
theorem acP:PP.underlying 22=some (.slice 25):=by kernel_rfl
theorem acg:PP.underlying 25=some (.slice 3):=by kernel_rfl
theorem VW:GQ PP 4 22=true:=by kernel_rfl
theorem Mo {n:Nat} {cs:List C} (h:Typed PP n 3 cs):∃z:Int,cs=encI z:=by
 cases n with
 |zero=>exact h.elim
 |succ n=>
  unfold Typed at h;rw [uT3] at h;obtain ⟨z,rfl,_⟩:=h;exact ⟨z,rfl⟩
theorem BQ {n s e:Nat} {α:Type} {f:α->List C} (hs:PP.underlying s=some (.slice e)) (he:∀n r,Typed PP n e r->∃x,r=f x) {cs:List C} (h:Typed PP n s cs):∃l:List α,cs=[rows f l]:=by
 cases n with
 |zero=>exact h.elim
 |succ n=>
  unfold Typed at h;rw [hs] at h;obtain ⟨rw_,rfl,_,hr⟩:=h;have key:∀l:List (List C),(∀r∈l,r.length=PP.cellsOf e/\Typed PP n e r)->∃bs:List α,l.flatten=bs.flatMap f/\l.length=bs.length:=by
   intro l;induction l with
   |nil=>exact fun _=>⟨[],rfl,rfl⟩
   |cons r l ih=>
    intro hr;obtain ⟨bs,h1,h2⟩:=ih fun r' hr'=>hr r' (by simp [hr'])
    obtain ⟨b,rfl⟩:=he n r (hr r (by simp)).2
    exact ⟨b::bs,by rw [List.flatten_cons,h1,List.flatMap_cons],by simp [h2]⟩
  obtain ⟨bs,h1,h2⟩:=key rw_ hr;exact ⟨bs,by rw [h1,h2,rows]⟩
theorem IP {n:Nat} {cs:List C} (h:Typed PP n 22 cs):∃l:List (List Int),cs=[rows yF l]:=
 BQ acP (fun _ _ h=>BQ acg (fun _ _ h=>Mo h) h) h
theorem Yt:PP.globalNamed "strings.asciiSpace"=some 0:=by kernel_rfl
theorem ac2:(PP.globals[0]?).map (·.type)=some 212:=by kernel_rfl
theorem abm:PP.underlying 212=some (.array 256 5):=by kernel_rfl
theorem aam:PP.underlying 5=some (.int .u8):=by kernel_rfl
theorem abj:PP.cellsOf 5=1:=by kernel_rfl
theorem adI:PP.cellsOf 212=256:=by kernel_rfl
theorem Yg {P:Program} {w:World} {n:String} {cs:Array Value} {g:Nat} (hg:P.globalNamed n=some g) (h:w.var? P n=some cs):g < w.heap.size:=by
 unfold World.var? at h;simp only [hg,Option.bind_some] at h;rcases Nat.lt_or_ge g w.heap.size with h'|h'
 ·exact h'
 ·simp [Array.getElem?_eq_none h'] at h
theorem inv_of {L:List (String×DataW Unit)} {W:World} (h:laidMet PP L W) (hm:("strings.asciiSpace",Lib.tabData .u8 Lib.asciiSpaceTab)∈L):bz.Inv W.heap.size W:=by
 obtain ⟨g2,t2,cs2,f2,p2,hg2,ht2,hv2,hd2⟩:=Lib.laidMet.reads h hm;obtain rfl:=Option.some.inj (Yt.symm.trans hg2);obtain rfl:=Option.some.inj (ac2.symm.trans ht2);intro t ht;simp only [List.mem_singleton] at ht;subst ht;refine ⟨0,Yt,Yg Yt hv2,?_⟩;show W.var? PP _=_
 rw [hv2,<-Lib.cells_of_tab abm aam abj adI hd2]
section
variable {nat:Nat->List V->Option (List V)}
section
variable (hk:Ja nat)
include hk
theorem PZ (l:List (List Int)) (hl:l.length<=6):∀(m i:Nat) (cs:Ts),i+m=l.length->cs.length=i->Jp cs->
  uh (T nat).G 3 0 [.c (rows yF l),.c (ci i),.c (rows qx cs)]=some ([.one (cb true)],[])
 |0,i,cs,hi,hc,h4=>by
  have hlt:¬((i:Int) < (l.length:Int)):=by omega
  have h13:=x13 hk cs (by omega) h4
  have h14:=x14 hk cs (by omega) h4
  rw [gH Im (t:=t3.heads[0]) rfl];simp [t3,zG,QB,hlt,h13,h14]
 |m+1,i,cs,hi,hc,h4=>by
  have hir:i < l.length:=by omega
  have hlt:((i:Int) < (l.length:Int)):=by omega
  rw [gH Im (t:=t3.heads[0]) rfl];by_cases hg:l[i].length<=4
  ·have hg':¬((l[i].length:Int) > 4):=by omega
   have hin:=abd hk l i hir hl cs (by omega) hg l[i].length 0 [] (by omega) rfl
   have hih:=PZ l hl m (i+1) (cs++[l[i].map dg]) (by omega) (by simp [hc]) (fun x hx=>by
    rcases List.mem_append.1 hx with hx|hx
    ·exact h4 x hx
    ·rw [List.mem_singleton.1 hx];intro j hj;obtain ⟨n,_,rfl⟩:=List.mem_map.1 hj;exact U4 n)
   simp only [List.drop_zero,Int.natCast_zero,List.nil_append,nJ] at hin;rw [hih] at hin;simp [-Int.natCast_add,t3,zG,QB,QD,Qa,QM hir,hlt,hg',nV,hin]
  ·have hg':((l[i].length:Int) > 4):=by omega
   simp [-Int.natCast_add,t3,zG,QB,QD,Qa,QM hir,hlt,hg',nV]
theorem x4 (l:List (List Int)):kL (T nat).G 3 [.v (.one (rows yF l))] []=some ([.one (cb true)],[]):=by
 have h5:=x5 hk;rw [jD Im];by_cases hl:l.length<=6
 ·have hl':¬((l.length:Int) > 6):=by omega
  have h:=PZ hk l hl l.length 0 [] (by omega) rfl (by intro x hx;cases hx)
  simp only [Int.natCast_zero,nJ] at h;simp [t3,zG,QB,h5,hl',h]
 ·have hl':((l.length:Int) > 6):=by omega
  simp [t3,zG,QB,h5,hl']
end
end
end Go.Ey.Pr
