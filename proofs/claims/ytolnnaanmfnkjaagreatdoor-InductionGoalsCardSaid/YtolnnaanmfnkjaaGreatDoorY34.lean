/- A part. -/
import Derived.Test.YtolnnaanmfnkjaaGreatDoorY32
set_option linter.all false
namespace Go.Proofs
open Go.RowKit Go.Ey Go.Ey.Pr Go.Ey.Seat
def as4:Nat->List V->Option (List V):=fun _ _=>none
theorem VF (nat:Nat->List V->Option (List V)):(T nat).P.funcs.all (fun fn=>!(fn.name== "runtime.NumGoroutine"))=true:=by kernel_rfl
theorem ajV:(T as4).OK:=⟨fun _ _ _=>rfl,(fun _ _ _ h=>by cases h),VF _,Tryz.mixed⟩
theorem aol {a b:Tm} (hg:Ee a) (hn:av a<=3000):oq PP 49 [.agg (af a),.agg (af b)] [.one (cb (jb a b))]:=ajV.fn (by kernel_rfl) (ZZ hg hn b)
theorem Tryz.wEq {B:Nat} {a b:Tm} {us vs:List Value} {w:World} (hg:Ee a) (hn:av a<=3000) (hk:keeps.Inv w.heap.size w) (hu:Ey.aF (RB w B) (af a) us) (hv:Ey.aF (RB w B) (af b) vs):
  Calls Tryz.prog 49 #[.agg us.toArray,.agg vs.toArray] w fun e w'=>e=.returned (.bool (jb a b))/\Below w.heap.size w w':=by
 refine ((aol hg hn).2 (fun k _=>k < B) w [.agg us.toArray,.agg vs.toArray] hk ⟨⟨us,rfl,hu⟩,⟨vs,rfl,hv⟩,trivial⟩).mono ?_
 rintro e w' ⟨v,rfl,hr,hb⟩;have:v=.bool (jb a b):=hr.1
 subst this;exact ⟨rfl,hb⟩
theorem Lg {l:List Tm} {k:Nat} {x t:Tm} (h:l[k]?=some x):memT (l.take (k+1)) t=(memT (l.take k) t||jb x t):=by rw [List.take_add_one,h];simp [memT]
theorem DX {l:List Tm} {k:Nat} {t:Tm} (h:memT (l.take k) t=true):memT l t=true:=by simp only [memT,I3] at h |-;obtain ⟨x,hx,h2⟩:=h;exact ⟨x,I2 hx,h2⟩
theorem ji (B:Nat) (w:World):Below B w ({ heap:=w.heap,tape:=w.tape,drawn:=w.drawn+1,os:=w.os,output:=w.output}:World):=⟨rfl,rfl,rfl,B9 _,fun _ _=>rfl⟩
def GA (t:Tm):Prop:=Ee t/\av t<=3000
theorem AU {p s:ByteArray} {ts:List Tm} (h:GA (.app p s ts)):∀x∈ts,GA x:=fun x hx=>by
 have h1:∀(l:List Tm),x∈l->av x<=aJ l:=fun l=>by
  induction l with
  |nil=>simp
  |cons y l ih=>
   intro hm;simp only [aJ];rcases D1.1 hm with rfl|hm
   ·omega
   ·have:=ih hm;omega
 have h2:=h1 ts hx;have h3:=h.2;simp only [av] at h3;exact ⟨by cases h.1 with|app hg=>exact hg x hx,by omega⟩
theorem Js {l:List Tm} {t:Tm} (hl:∀x∈l,GA x) (ht:GA t):∀x∈l++[t],GA x:=fun x hx=>by
 rcases Bx.1 hx with h|h
 ·exact hl x h
 ·obtain rfl:x=t:=by simpa using h
  exact ht
mutual
theorem ahK:∀{t:Tm} {l:List Tm},(∀x∈l,GA x)->GA t->∀x∈za l t,GA x
 |.var p s,l,hl,ht=>by
  rw [za];cases memT l (.var p s) with
  |true=>exact hl
  |false=>exact Js hl ht
 |.eG o,l,hl,ht=>by
  rw [za];cases memT l (.eG o) with
  |true=>exact hl
  |false=>exact Js hl ht
 |.app p s ts,l,hl,ht=>by
  rw [za];refine CG ?_ (AU ht);cases memT l (.app p s ts) with
  |true=>exact hl
  |false=>exact Js hl ht
theorem CG:∀{ts l:List Tm},(∀x∈l,GA x)->(∀x∈ts,GA x)->∀x∈j6 l ts,GA x
 |[],l,hl,_=>by rw [j6];exact hl
 |t::ts,l,hl,ht=>by rw [j6];exact CG (ahK hl (ht t (by simp))) fun x hx=>ht x (by simp [hx])
end
mutual
theorem afz:∀(t:Tm) (l:List Tm),(za l t).length<=l.length+av t
 |.var p s,l=>by rw [za,av];cases memT l (.var p s)<;>simp
 |.eG o,l=>by
  have:=Dc o
  rw [za,av];cases memT l (.eG o)<;>simp
  omega
 |.app p s ts,l=>by rw [za,av];refine Dg (wz ts _) ?_;cases memT l (.app p s ts)<;>simp<;>omega
theorem wz:∀(ts l:List Tm),(j6 l ts).length<=l.length+aJ ts
 |[],l=>by simp [j6,aJ]
 |t::ts,l=>by rw [j6,aJ];have h1:=wz ts (za l t);have h2:=afz t l;omega
end
theorem AV:∀(ts l:List Tm) (t:Tm),j6 l (ts++[t])=za (j6 l ts) t
 |[],l,t=>by simp [j6]
 |x::ts,l,t=>by simp only [E3,j6];exact AV ts _ t
theorem qf:∀(a b:List Tm),aJ (a++b)=aJ a+aJ b
 |[],b=>by simp [aJ]
 |x::a,b=>by simp only [E3,aJ,qf a b];omega
theorem yw:∀ts:List Tm,ts.length<=aJ ts
 |[]=>by simp [aJ]
 |t::ts=>by have:=yw ts;have:=jf t;simp only [aJ,Bm];omega
theorem nJ {l:List Tm} {k:Nat} {x:Tm} (h:l[k]?=some x):l.take (k+1)=l.take k++[x]:=by rw [List.take_add_one,h];rfl
theorem xk {l:List Tm} {k:Nat} {x:Tm} (h:l[k]?=some x):aJ (l.take k)+av x<=aJ l:=by
 have e:=Mu (k+1) l;have h1:aJ l=aJ (l.take (k+1))+aJ (l.drop (k+1)):=by rw [<-qf,e]
 rw [nJ h,qf] at h1;simp only [aJ] at h1;omega
def N7 (B:Nat) (S:Nat->Nat->Prop) (t:Tm):Prop:=∀(v:Value) (l:List Tm) (us:List Value) (w:World),jc B S v l w->keeps.Inv B w->(∀x∈l,GA x)->GA t->l.length+av t<=100000->Ey.aF (RQ w B S) (af t) us->
    Calls Tryz.prog 119 #[v,.agg us.toArray] w fun e w'=>∃v',e=.returned v'/\jc B S v' (za l t) w'/\SK v v' w w'
theorem N7.use {B:Nat} {S:Nat->Nat->Prop} {t:Tm} (h:N7 B S t) {v:Value} {l:List Tm} {us:List Value} {w:World} (h1:jc B S v l w) (h2:keeps.Inv B w) (h3:∀x∈l,GA x) (h4:GA t) (h5:l.length+av t<=100000) (h6:Ey.aF (RQ w B S) (af t) us):
  Calls Tryz.prog 119 #[v,.agg us.toArray] w fun e w'=>∃v',e=.returned v'/\jc B S v' (za l t) w'/\SK v v' w w':=h v l us w h1 h2 h3 h4 h5 h6
structure AQ (B:Nat) (S:Nat->Nat->Prop) (ts:List Tm) (q:Option Addr) (w:World):Prop where
 at':0 < ts.length->∃bk o vs,q=some ⟨bk,o,none⟩/\Ey.aF (RQ w B S) (fF ts) vs/\Row w B bk o vs
theorem argsAt {B:Nat} {S:Nat->Nat->Prop} {ts:List Tm} {q:Option Addr} {m d:Nat} {w:World} (h:RQ w B S (.slice (fF ts) ts.length) (.slice q m d)):m=ts.length/\AQ B S ts q w:=by
 rcases h with ⟨e,h0,_⟩|⟨a,cap,e,hcap,hsp,hcells⟩
 ·injection e with e1 e2 e3;exact ⟨by omega,⟨fun hp=>by omega⟩⟩
 ·injection e with e1 e2 e3;subst e1;refine ⟨e2,⟨fun hp=>?_⟩⟩
  obtain ⟨bk,o,sp⟩:=a;have TG:sp=none:=hsp (by
   intro e;cases ts with
   |nil=>simp at hp
   |cons t ts=>have:=F0 List.length e;simp [fF,ah] at this)
  subst TG;obtain ⟨vs,hv1,hv2⟩:=adB hcells;exact ⟨bk,o,vs,rfl,hv1,hv2⟩
theorem AQ.get {B:Nat} {S:Nat->Nat->Prop} {ts:List Tm} {q:Option Addr} {w w':World} (h:AQ B S ts q w) (hb:Below B w w') {k:Nat} {x:Tm} (hk:ts[k]?=some x):
  ∃bk o us,q=some ⟨bk,o,none⟩/\Ey.aF (RQ w' B S) (af x) us/\∀j u,us[j]?=some u->w'.cell? ⟨bk,o+(k * 11+j),none⟩=some u:=by
 obtain ⟨bk,o,vs,rfl,h1,h2⟩:=h.at' (by have:=(B0.1 hk).1;omega)
 obtain ⟨us,_,e2,e3⟩:=K6 h1 hk;exact ⟨bk,o,us,rfl,Bp.keep hb e2,fun j u hj=>(h2.keep hb).cell _ _ (e3 j u hj)⟩
set_option maxRecDepth 100000 in
set_option maxHeartbeats 4000000 in
theorem Tryz.alC (B:Nat) (S:Nat->Nat->Prop) (p s:ByteArray):N7 B S (.var p s):=by
 intro v l us w hr hk hl hok hsz hu;have hu0:=hu;obtain ⟨k0,k1,k2,k3,k4,k5,k6,k7,k8,kp,kl,kc,kq,km,kd,rfl⟩:=dF (Bp.rb hu);obtain rfl:k0=1:=by (have:=(RQ.rb hu.1).i;simpa using this)
 obtain ⟨ao,cap,rfl,hao⟩:=hr.shape;obtain ⟨w1,hw1⟩:∃w1,w1=w.alloc (.cells #[.int .i64 1,.string k1,.string k2,.int .i64 k3,.string k4,.string k5,.string k6,.string k7,.string k8,.slice kp kl kc,.slice kq km kd] 44):=⟨_,rfl⟩;have b1:Below w.heap.size w w1:=by rw [hw1];exact (Below.refl _ w).alloc (B9 _) _
 have hs1:w1.heap.size=w.heap.size+1:=by rw [hw1];simp
 have hc:w1.heap[w.heap.size]?=some (.cells #[.int .i64 1,.string k1,.string k2,.int .i64 k3,.string k4,.string k5,.string k6,.string k7,.string k8,.slice kp kl kc,.slice kq km kd] 44):=by
  rw [hw1];show (w.heap.push _)[w.heap.size]?=_
  simp
 have hn:l.length<=100000:=by omega
 go_enter Tryz.func119,Tryz.ntmps119;go_wp2;rw [<-hw1];go_loopw [5,6] (fun fd i wr=>∃k:Nat,k<=l.length/\i=.int .i64 k/\fd=.bool (memT (l.take k) (.var p s))/\Below w1.heap.size w1 wr) (fun _ i _=>l.length - (intOf i).toNat)
 case atStart=>exact ⟨0,Ft _,rfl,rfl,Below.refl _ _⟩
 case round=>
  obtain ⟨k,hkl,rfl,rfl,hb⟩:=hrel;have hrw:=hr.kept (b1.trans (hb.mono b1.size));have hbB:Below B w wr:=(b1.trans (hb.mono b1.size)).mono hr.le;have hcb:∀j:Nat,wr.cell? ⟨w.heap.size,j,none⟩=w1.cell? ⟨w.heap.size,j,none⟩:=fun j=>hb.cell (show w.heap.size < w1.heap.size by omega)
  obtain ⟨hc0,hc1,hc2,hc3,hc4,hc5,hc6,hc7,hc8,hc9,abw⟩:=aiP hcb hc;clear hcb;by_cases hx:k < l.length
  ·obtain ⟨x,hxk⟩:∃x,l[k]?=some x:=⟨_,Ax hx⟩;obtain ⟨g,rfl⟩:=hao (by omega)
   cases hM:memT (l.take k) (.var p s) with
   |false=>
    obtain ⟨us,Xk,hcx⟩:=hrw.get hxk;obtain ⟨x0,x1,x2,x3,x4,x5,x6,x7,x8,xp,xl,xc,xq,xm,xd,rfl⟩:=dF (Bp.rb Xk);obtain ⟨f0,f1,f2,f3,f4,f5,f6,f7,f8,f9,f10⟩:=(c11 (o:=k * 11) hcx);clear hcx;have hx0:=hl x (C7 hxk);have hinv:keeps.Inv wr.heap.size wr:=keeps.mono hrw.le (keeps.keep hbB hk);have hinv':=keeps.keep (ji _ wr) hinv;have ce:=Tryz.wEq (B:=B) hx0.1 hx0.2 hinv' (Bp.rb (Bp.keep (ji B wr) Xk)) (Bp.rb (Bp.keep (ji B wr) (Bp.keep hbB hu0)));go_wp2;go_still_tail 5,Tryz.mixed;go_wp2_with (go_at_call 49;refine ce.mono ?_);rintro e w2 ⟨rfl,hb2⟩;go_wp2;go_roundw
    case rel=>exact ⟨k+1,by omega,by simp,by rw [Lg hxk,hM,G1],hb.trans ((ji _ wr).trans (hb2.mono hb.size))⟩
    case measure=>simp [intOf];omega
   |true=>
    have hM:=DX hM;go_wp2;go_ret;refine ⟨_,rfl,?_,(SK.dY b1).trans (SK.dY hb)⟩;rw [za,hM];exact hrw
  ·obtain rfl:k=l.length:=by omega
   rw [I0];cases hM:memT l (.var p s) with
   |true=>
    go_wp2;go_ret;refine ⟨_,rfl,?_,(SK.dY b1).trans (SK.dY hb)⟩;rw [za,hM];exact hrw
   |false=>
    obtain ⟨i0,hi,hz0,hz1,hz2⟩:=info_parts Tryz.La;obtain ⟨xs,ho,hxs⟩:=hrw.row;have WN:=hb.block w.heap.size (by omega)
    rw [hc] at WN;go_wp2_with (first
     |(at_builtin;refine wpList_append_lies _ rfl _ _ 27 rfl B 44 i0 _ 11 176 Tryz.underlying27 hi hz0 hz1 hz2 rfl (by decide) _ _ xs rfl (ho.alloc _) ⟨wr.heap.size,0,none⟩ 1 1 [.int .i64 1,.string k1,.string k2,.int .i64 k3,.string k4,.string k5,.string k6,.string k7,.string k8,.slice kp kl kc,.slice kq km kd] rfl rfl ?c1 ?c2 (by omega) ?c3 ?c4 ?c5 _ rfl ?_)
     |go_in)
    case c1=>exact World.news_of_block (cs:=#[.int .i64 1,.string k1,.string k2,.int .i64 k3,.string k4,.string k5,.string k6,.string k7,.string k8,.slice kp kl kc,.slice kq km kd]) (t:=44) (fr:=(0,0)) (heap_alloc_new wr _)
    case c2=>
     intro u hu;simp only [D1,List.mem_nil_iff,or_false] at hu;rcases hu with rfl|rfl|rfl|rfl|rfl|rfl|rfl|rfl|rfl|rfl|rfl<;>rfl
    case c3=>unfold maxLen;omega
    case c4=>omega
    case c5=>have:=hrw.le;simp;omega
    ·intro g' cap' w' ho' hg' hat hlt;obtain ⟨ht,hk'⟩:=jc.pushed hrw hxs (Bp.keep hbB hu0) ho' hg' hat;have hown:=hr.own;have hcw:w'.heap[w.heap.size]?=some (.cells #[.int .i64 1,.string k1,.string k2,.int .i64 k3,.string k4,.string k5,.string k6,.string k7,.string k8,.slice kp kl kc,.slice kq km kd] 44):=by
      rw [hk'.block w.heap.size (by have:=hb.size;omega) fun e=>by have:=(hown _ e.symm).2;omega]
      exact WN
     have hz0:w'.cell? ⟨w.heap.size,0,none⟩=some (.int .i64 1):=by simp only [World.cell?,hcw];rfl
     clear hcw ho' hg' hat;go_wp2;go_ret;refine ⟨_,rfl,?_,(SK.dY b1).trans ((SK.dY hb).trans hk')⟩;rw [za,hM];exact ht
set_option maxRecDepth 100000 in
set_option maxHeartbeats 4000000 in
theorem Tryz.akq (B:Nat) (S:Nat->Nat->Prop) (ob:Ob):N7 B S (.eG ob):=by
 intro v l us w hr hk hl hok hsz hu;have hu0:=hu;obtain ⟨k0,k1,k2,k3,k4,k5,k6,k7,k8,kp,kl,kc,kq,km,kd,rfl⟩:=dF (Bp.rb hu);obtain rfl:k0=2:=by cases ob<;>(have:=(RQ.rb hu.1).i;simpa using this)
 obtain ⟨ao,cap,rfl,hao⟩:=hr.shape;obtain ⟨w1,hw1⟩:∃w1,w1=w.alloc (.cells #[.int .i64 2,.string k1,.string k2,.int .i64 k3,.string k4,.string k5,.string k6,.string k7,.string k8,.slice kp kl kc,.slice kq km kd] 44):=⟨_,rfl⟩;have b1:Below w.heap.size w w1:=by rw [hw1];exact (Below.refl _ w).alloc (B9 _) _
 have hs1:w1.heap.size=w.heap.size+1:=by rw [hw1];simp
 have hc:w1.heap[w.heap.size]?=some (.cells #[.int .i64 2,.string k1,.string k2,.int .i64 k3,.string k4,.string k5,.string k6,.string k7,.string k8,.slice kp kl kc,.slice kq km kd] 44):=by
  rw [hw1];show (w.heap.push _)[w.heap.size]?=_
  simp
 have hn:l.length<=100000:=by omega
 go_enter Tryz.func119,Tryz.ntmps119;go_wp2;rw [<-hw1];go_loopw [5,6] (fun fd i wr=>∃k:Nat,k<=l.length/\i=.int .i64 k/\fd=.bool (memT (l.take k) (.eG ob))/\Below w1.heap.size w1 wr) (fun _ i _=>l.length - (intOf i).toNat)
 case atStart=>exact ⟨0,Ft _,rfl,rfl,Below.refl _ _⟩
 case round=>
  obtain ⟨k,hkl,rfl,rfl,hb⟩:=hrel;have hrw:=hr.kept (b1.trans (hb.mono b1.size));have hbB:Below B w wr:=(b1.trans (hb.mono b1.size)).mono hr.le;have hcb:∀j:Nat,wr.cell? ⟨w.heap.size,j,none⟩=w1.cell? ⟨w.heap.size,j,none⟩:=fun j=>hb.cell (show w.heap.size < w1.heap.size by omega)
  obtain ⟨hc0,hc1,hc2,hc3,hc4,hc5,hc6,hc7,hc8,hc9,abw⟩:=aiP hcb hc;clear hcb;by_cases hx:k < l.length
  ·obtain ⟨x,hxk⟩:∃x,l[k]?=some x:=⟨_,Ax hx⟩;obtain ⟨g,rfl⟩:=hao (by omega)
   cases hM:memT (l.take k) (.eG ob) with
   |false=>
    obtain ⟨us,Xk,hcx⟩:=hrw.get hxk;obtain ⟨x0,x1,x2,x3,x4,x5,x6,x7,x8,xp,xl,xc,xq,xm,xd,rfl⟩:=dF (Bp.rb Xk);obtain ⟨f0,f1,f2,f3,f4,f5,f6,f7,f8,f9,f10⟩:=(c11 (o:=k * 11) hcx);clear hcx;have hx0:=hl x (C7 hxk);have hinv:keeps.Inv wr.heap.size wr:=keeps.mono hrw.le (keeps.keep hbB hk);have hinv':=keeps.keep (ji _ wr) hinv;have ce:=Tryz.wEq (B:=B) hx0.1 hx0.2 hinv' (Bp.rb (Bp.keep (ji B wr) Xk)) (Bp.rb (Bp.keep (ji B wr) (Bp.keep hbB hu0)));go_wp2;go_still_tail 5,Tryz.mixed;go_wp2_with (go_at_call 49;refine ce.mono ?_);rintro e w2 ⟨rfl,hb2⟩;go_wp2;go_roundw
    case rel=>exact ⟨k+1,by omega,by simp,by rw [Lg hxk,hM,G1],hb.trans ((ji _ wr).trans (hb2.mono hb.size))⟩
    case measure=>simp [intOf];omega
   |true=>
    have hM:=DX hM;go_wp2;go_ret;refine ⟨_,rfl,?_,(SK.dY b1).trans (SK.dY hb)⟩;rw [za,hM];exact hrw
  ·obtain rfl:k=l.length:=by omega
   rw [I0];cases hM:memT l (.eG ob) with
   |true=>
    go_wp2;go_ret;refine ⟨_,rfl,?_,(SK.dY b1).trans (SK.dY hb)⟩;rw [za,hM];exact hrw
   |false=>
    obtain ⟨i0,hi,hz0,hz1,hz2⟩:=info_parts Tryz.La;obtain ⟨xs,ho,hxs⟩:=hrw.row;have WN:=hb.block w.heap.size (by omega)
    rw [hc] at WN;go_wp2_with (first
     |(at_builtin;refine wpList_append_lies _ rfl _ _ 27 rfl B 44 i0 _ 11 176 Tryz.underlying27 hi hz0 hz1 hz2 rfl (by decide) _ _ xs rfl (ho.alloc _) ⟨wr.heap.size,0,none⟩ 1 1 [.int .i64 2,.string k1,.string k2,.int .i64 k3,.string k4,.string k5,.string k6,.string k7,.string k8,.slice kp kl kc,.slice kq km kd] rfl rfl ?c1 ?c2 (by omega) ?c3 ?c4 ?c5 _ rfl ?_)
     |go_in)
    case c1=>exact World.news_of_block (cs:=#[.int .i64 2,.string k1,.string k2,.int .i64 k3,.string k4,.string k5,.string k6,.string k7,.string k8,.slice kp kl kc,.slice kq km kd]) (t:=44) (fr:=(0,0)) (heap_alloc_new wr _)
    case c2=>
     intro u hu;simp only [D1,List.mem_nil_iff,or_false] at hu;rcases hu with rfl|rfl|rfl|rfl|rfl|rfl|rfl|rfl|rfl|rfl|rfl<;>rfl
    case c3=>unfold maxLen;omega
    case c4=>omega
    case c5=>have:=hrw.le;simp;omega
    ·intro g' cap' w' ho' hg' hat hlt;obtain ⟨ht,hk'⟩:=jc.pushed hrw hxs (Bp.keep hbB hu0) ho' hg' hat;have hown:=hr.own;have hcw:w'.heap[w.heap.size]?=some (.cells #[.int .i64 2,.string k1,.string k2,.int .i64 k3,.string k4,.string k5,.string k6,.string k7,.string k8,.slice kp kl kc,.slice kq km kd] 44):=by
      rw [hk'.block w.heap.size (by have:=hb.size;omega) fun e=>by have:=(hown _ e.symm).2;omega]
      exact WN
     have hz0:w'.cell? ⟨w.heap.size,0,none⟩=some (.int .i64 2):=by simp only [World.cell?,hcw];rfl
     clear hcw ho' hg' hat;go_wp2;go_ret;refine ⟨_,rfl,?_,(SK.dY b1).trans ((SK.dY hb).trans hk')⟩;rw [za,hM];exact ht
set_option maxRecDepth 100000 in
set_option maxHeartbeats 4000000 in
theorem Tryz.ak4 (B:Nat) (S:Nat->Nat->Prop) (p s:ByteArray) (ts:List Tm) (ih:∀x∈ts,N7 B S x):N7 B S (.app p s ts):=by
 intro v l us w hr hk hl hok hsz hu;have hu0:=hu;obtain ⟨k0,k1,k2,k3,k4,k5,k6,k7,k8,kp,kl,kc,kq,km,kd,rfl⟩:=dF (Bp.rb hu);obtain rfl:k0=3:=by (have:=(RQ.rb hu.1).i;simpa using this)
 obtain ⟨rfl,hargs⟩:=argsAt hu.2.2.2.2.2.2.2.2.2.2.1;have hnt:ts.length<=3000:=by have h1:=yw ts;have h2:=hok.2;simp only [av] at h2;omega
 obtain ⟨ao,cap,rfl,hao⟩:=hr.shape;obtain ⟨w1,hw1⟩:∃w1,w1=w.alloc (.cells #[.int .i64 3,.string k1,.string k2,.int .i64 k3,.string k4,.string k5,.string k6,.string k7,.string k8,.slice kp kl kc,.slice kq ts.length kd] 44):=⟨_,rfl⟩;have b1:Below w.heap.size w w1:=by rw [hw1];exact (Below.refl _ w).alloc (B9 _) _
 have hs1:w1.heap.size=w.heap.size+1:=by rw [hw1];simp
 have hc:w1.heap[w.heap.size]?=some (.cells #[.int .i64 3,.string k1,.string k2,.int .i64 k3,.string k4,.string k5,.string k6,.string k7,.string k8,.slice kp kl kc,.slice kq ts.length kd] 44):=by
  rw [hw1];show (w.heap.push _)[w.heap.size]?=_
  simp
 have hn:l.length<=100000:=by omega
 go_enter Tryz.func119,Tryz.ntmps119;go_wp2;rw [<-hw1];go_loopw [5,6] (fun fd i wr=>∃k:Nat,k<=l.length/\i=.int .i64 k/\fd=.bool (memT (l.take k) (.app p s ts))/\Below w1.heap.size w1 wr) (fun _ i _=>l.length - (intOf i).toNat)
 case atStart=>exact ⟨0,Ft _,rfl,rfl,Below.refl _ _⟩
 case round=>
  obtain ⟨k,hkl,rfl,rfl,hb⟩:=hrel;have hrw:=hr.kept (b1.trans (hb.mono b1.size));have hbB:Below B w wr:=(b1.trans (hb.mono b1.size)).mono hr.le;have hcb:∀j:Nat,wr.cell? ⟨w.heap.size,j,none⟩=w1.cell? ⟨w.heap.size,j,none⟩:=fun j=>hb.cell (show w.heap.size < w1.heap.size by omega)
  obtain ⟨hc0,hc1,hc2,hc3,hc4,hc5,hc6,hc7,hc8,hc9,abw⟩:=aiP hcb hc;clear hcb;by_cases hx:k < l.length
  ·obtain ⟨x,hxk⟩:∃x,l[k]?=some x:=⟨_,Ax hx⟩;obtain ⟨g,rfl⟩:=hao (by omega)
   cases hM:memT (l.take k) (.app p s ts) with
   |false=>
    obtain ⟨us,Xk,hcx⟩:=hrw.get hxk;obtain ⟨x0,x1,x2,x3,x4,x5,x6,x7,x8,xp,xl,xc,xq,xm,xd,rfl⟩:=dF (Bp.rb Xk);obtain ⟨f0,f1,f2,f3,f4,f5,f6,f7,f8,f9,f10⟩:=(c11 (o:=k * 11) hcx);clear hcx;have hx0:=hl x (C7 hxk);have hinv:keeps.Inv wr.heap.size wr:=keeps.mono hrw.le (keeps.keep hbB hk);have hinv':=keeps.keep (ji _ wr) hinv;have ce:=Tryz.wEq (B:=B) hx0.1 hx0.2 hinv' (Bp.rb (Bp.keep (ji B wr) Xk)) (Bp.rb (Bp.keep (ji B wr) (Bp.keep hbB hu0)));go_wp2;go_still_tail 5,Tryz.mixed;go_wp2_with (go_at_call 49;refine ce.mono ?_);rintro e w2 ⟨rfl,hb2⟩;go_wp2;go_roundw
    case rel=>exact ⟨k+1,by omega,by simp,by rw [Lg hxk,hM,G1],hb.trans ((ji _ wr).trans (hb2.mono hb.size))⟩
    case measure=>simp [intOf];omega
   |true=>
    have hM:=DX hM;obtain ⟨wo,hwo⟩:∃wo:World,wo=wr:=⟨_,rfl⟩;obtain ⟨vo,VQ⟩:∃vo:Value,vo=(.slice (some ⟨g,0,none⟩) l.length cap):=⟨_,rfl⟩;obtain ⟨L0,hL0⟩:∃L0:List Tm,L0=l:=⟨_,rfl⟩;have tr0:jc B S vo L0 wo:=by rw [VQ,hwo,hL0];exact hrw
    have Wm:SK (.slice (some ⟨g,0,none⟩) l.length cap) vo w1 wo:=by rw [VQ,hwo];exact SK.dY hb
    have okL:∀x∈L0,GA x:=by rw [hL0];exact hl
    have anJ:L0.length<=l.length+1:=by rw [hL0];simp
    have hne:∀j,vo.ownBlock=some j->j≠w.heap.size:=fun j hj=>by
     rcases Wm.new j hj with h|h
     ·have:=(hr.own j h).2;omega
     ·omega
    have UM:wo.heap[w.heap.size]?=some (.cells #[.int .i64 3,.string k1,.string k2,.int .i64 k3,.string k4,.string k5,.string k6,.string k7,.string k8,.slice kp kl kc,.slice kq ts.length kd] 44):=by rw [Wm.block w.heap.size (by omega) fun e=>by have:=(hr.own _ e.symm).2;omega];exact hc
    have aou:=Wm.size;have hz0':wr.cell? ⟨w.heap.size,0,none⟩=some (.int .i64 3):=by rw [<-hwo];simp only [World.cell?,UM];rfl
    go_wp2;rw [<-hwo];go_loopw [0,7] (fun vz i wy=>∃kk:Nat,kk<=ts.length/\i=.int .i64 kk/\jc B S vz (j6 L0 (ts.take kk)) wy/\SK vo vz wo wy) (fun _ i _=>ts.length - (intOf i).toNat)
    case atStart=>
     refine ⟨0,Ft _,rfl,?_,?_⟩
     ·rw [<-VQ];exact tr0
     ·rw [<-VQ];exact SK.refl _ _
    case round=>
     obtain ⟨kk,hkk,rfl,Ka,Qf⟩:=hrel;have hcy:wr.heap[w.heap.size]?=some (.cells #[.int .i64 3,.string k1,.string k2,.int .i64 k3,.string k4,.string k5,.string k6,.string k7,.string k8,.slice kp kl kc,.slice kq ts.length kd] 44):=by rw [Qf.block w.heap.size (by omega) fun e=>hne _ e.symm rfl];exact UM
     have apD:wr.cell? ⟨w.heap.size,10,none⟩=some (.slice kq ts.length kd):=by simp only [World.cell?,hcy];rfl
     have DZ:Below B w wr:=((SK.dY b1).trans (Wm.trans Qf)).below hr.le fun j hj=>(hr.own j hj).1
     clear hcy;by_cases hx2:kk < ts.length
     ·obtain ⟨y,hyk⟩:∃y,ts[kk]?=some y:=⟨_,Ax hx2⟩;have hym:=C7 hyk;obtain ⟨bk,o,HV,rfl,hyu,Qv⟩:=hargs.get DZ hyk;obtain ⟨y0,y1,y2,y3,y4,y5,y6,y7,y8,yp,yl,yc,yq,ym,yd,rfl⟩:=dF (Bp.rb hyu);obtain ⟨e0,e1,e2,e3,e4,e5,e6,e7,e8,e9,e10⟩:=Yh Qv;clear Qv;have hn1:=xk hyk;have hn2:=wz (ts.take kk) L0;have hn3:av (.app p s ts)=1+aJ ts:=rfl;have c2:=(ih y hym).use Ka (keeps.keep DZ hk) (CG okL fun x hx=>AU hok x (I2 hx)) (AU hok y hym) (by omega) hyu
      go_wp2_with (go_at_call 119;refine c2.mono ?_);rintro e w3 ⟨v3,rfl,t3,s3⟩;go_wp2;go_roundw
      case rel=>exact ⟨kk+1,by omega,by simp,by rw [nJ hyk,AV];exact t3,Qf.trans s3⟩
      case measure=>simp [intOf];omega
     ·obtain rfl:kk=ts.length:=by omega
      rw [I0] at Ka;go_wp2;go_ret;refine ⟨_,rfl,?_,(SK.dY b1).trans (Wm.trans Qf)⟩;rw [za,hM];rw [hL0] at Ka;exact Ka
  ·obtain rfl:k=l.length:=by omega
   rw [I0];cases hM:memT l (.app p s ts) with
   |true=>
    obtain ⟨wo,hwo⟩:∃wo:World,wo=wr:=⟨_,rfl⟩;obtain ⟨vo,VQ⟩:∃vo:Value,vo=(.slice ao l.length cap):=⟨_,rfl⟩;obtain ⟨L0,hL0⟩:∃L0:List Tm,L0=l:=⟨_,rfl⟩;have tr0:jc B S vo L0 wo:=by rw [VQ,hwo,hL0];exact hrw
    have Wm:SK (.slice ao l.length cap) vo w1 wo:=by rw [VQ,hwo];exact SK.dY hb
    have okL:∀x∈L0,GA x:=by rw [hL0];exact hl
    have anJ:L0.length<=l.length+1:=by rw [hL0];simp
    have hne:∀j,vo.ownBlock=some j->j≠w.heap.size:=fun j hj=>by
     rcases Wm.new j hj with h|h
     ·have:=(hr.own j h).2;omega
     ·omega
    have UM:wo.heap[w.heap.size]?=some (.cells #[.int .i64 3,.string k1,.string k2,.int .i64 k3,.string k4,.string k5,.string k6,.string k7,.string k8,.slice kp kl kc,.slice kq ts.length kd] 44):=by rw [Wm.block w.heap.size (by omega) fun e=>by have:=(hr.own _ e.symm).2;omega];exact hc
    have aou:=Wm.size;have hz0':wr.cell? ⟨w.heap.size,0,none⟩=some (.int .i64 3):=by rw [<-hwo];simp only [World.cell?,UM];rfl
    go_wp2;rw [<-hwo];go_loopw [0,7] (fun vz i wy=>∃kk:Nat,kk<=ts.length/\i=.int .i64 kk/\jc B S vz (j6 L0 (ts.take kk)) wy/\SK vo vz wo wy) (fun _ i _=>ts.length - (intOf i).toNat)
    case atStart=>
     refine ⟨0,Ft _,rfl,?_,?_⟩
     ·rw [<-VQ];exact tr0
     ·rw [<-VQ];exact SK.refl _ _
    case round=>
     obtain ⟨kk,hkk,rfl,Ka,Qf⟩:=hrel;have hcy:wr.heap[w.heap.size]?=some (.cells #[.int .i64 3,.string k1,.string k2,.int .i64 k3,.string k4,.string k5,.string k6,.string k7,.string k8,.slice kp kl kc,.slice kq ts.length kd] 44):=by rw [Qf.block w.heap.size (by omega) fun e=>hne _ e.symm rfl];exact UM
     have apD:wr.cell? ⟨w.heap.size,10,none⟩=some (.slice kq ts.length kd):=by simp only [World.cell?,hcy];rfl
     have DZ:Below B w wr:=((SK.dY b1).trans (Wm.trans Qf)).below hr.le fun j hj=>(hr.own j hj).1
     clear hcy;by_cases hx2:kk < ts.length
     ·obtain ⟨y,hyk⟩:∃y,ts[kk]?=some y:=⟨_,Ax hx2⟩;have hym:=C7 hyk;obtain ⟨bk,o,HV,rfl,hyu,Qv⟩:=hargs.get DZ hyk;obtain ⟨y0,y1,y2,y3,y4,y5,y6,y7,y8,yp,yl,yc,yq,ym,yd,rfl⟩:=dF (Bp.rb hyu);obtain ⟨e0,e1,e2,e3,e4,e5,e6,e7,e8,e9,e10⟩:=Yh Qv;clear Qv;have hn1:=xk hyk;have hn2:=wz (ts.take kk) L0;have hn3:av (.app p s ts)=1+aJ ts:=rfl;have c2:=(ih y hym).use Ka (keeps.keep DZ hk) (CG okL fun x hx=>AU hok x (I2 hx)) (AU hok y hym) (by omega) hyu
      go_wp2_with (go_at_call 119;refine c2.mono ?_);rintro e w3 ⟨v3,rfl,t3,s3⟩;go_wp2;go_roundw
      case rel=>exact ⟨kk+1,by omega,by simp,by rw [nJ hyk,AV];exact t3,Qf.trans s3⟩
      case measure=>simp [intOf];omega
     ·obtain rfl:kk=ts.length:=by omega
      rw [I0] at Ka;go_wp2;go_ret;refine ⟨_,rfl,?_,(SK.dY b1).trans (Wm.trans Qf)⟩;rw [za,hM];rw [hL0] at Ka;exact Ka
   |false=>
    obtain ⟨i0,hi,hz0,hz1,hz2⟩:=info_parts Tryz.La;obtain ⟨xs,ho,hxs⟩:=hrw.row;have WN:=hb.block w.heap.size (by omega)
    rw [hc] at WN;go_wp2_with (first
     |(at_builtin;refine wpList_append_lies _ rfl _ _ 27 rfl B 44 i0 _ 11 176 Tryz.underlying27 hi hz0 hz1 hz2 rfl (by decide) _ _ xs rfl (ho.alloc _) ⟨wr.heap.size,0,none⟩ 1 1 [.int .i64 3,.string k1,.string k2,.int .i64 k3,.string k4,.string k5,.string k6,.string k7,.string k8,.slice kp kl kc,.slice kq ts.length kd] rfl rfl ?c1 ?c2 (by omega) ?c3 ?c4 ?c5 _ rfl ?_)
     |go_in)
    case c1=>exact World.news_of_block (cs:=#[.int .i64 3,.string k1,.string k2,.int .i64 k3,.string k4,.string k5,.string k6,.string k7,.string k8,.slice kp kl kc,.slice kq ts.length kd]) (t:=44) (fr:=(0,0)) (heap_alloc_new wr _)
    case c2=>
     intro u hu;simp only [D1,List.mem_nil_iff,or_false] at hu;rcases hu with rfl|rfl|rfl|rfl|rfl|rfl|rfl|rfl|rfl|rfl|rfl<;>rfl
    case c3=>unfold maxLen;omega
    case c4=>omega
    case c5=>have:=hrw.le;simp;omega
    ·intro g' cap' w' ho' hg' hat hlt;obtain ⟨ht,hk'⟩:=jc.pushed hrw hxs (Bp.keep hbB hu0) ho' hg' hat;have hown:=hr.own;have hcw:w'.heap[w.heap.size]?=some (.cells #[.int .i64 3,.string k1,.string k2,.int .i64 k3,.string k4,.string k5,.string k6,.string k7,.string k8,.slice kp kl kc,.slice kq ts.length kd] 44):=by
      rw [hk'.block w.heap.size (by have:=hb.size;omega) fun e=>by have:=(hown _ e.symm).2;omega]
      exact WN
     have hz0:w'.cell? ⟨w.heap.size,0,none⟩=some (.int .i64 3):=by simp only [World.cell?,hcw];rfl
     have aud:w'.cell? ⟨w.heap.size,10,none⟩=some (.slice kq ts.length kd):=by simp only [World.cell?,hcw];rfl
     clear hcw ho' hg' hat;obtain ⟨wo,hwo⟩:∃wo:World,wo=w':=⟨_,rfl⟩;obtain ⟨vo,VQ⟩:∃vo:Value,vo=(.slice (some ⟨g',0,none⟩) (l.length+1) cap'):=⟨_,rfl⟩;obtain ⟨L0,hL0⟩:∃L0:List Tm,L0=(l++[(.app p s ts)]):=⟨_,rfl⟩;have tr0:jc B S vo L0 wo:=by rw [VQ,hwo,hL0];exact ht
     have Wm:SK (.slice ao l.length cap) vo w1 wo:=by rw [VQ,hwo];exact (SK.dY hb).trans hk'
     have okL:∀x∈L0,GA x:=by rw [hL0];exact Js hl hok
     have anJ:L0.length<=l.length+1:=by rw [hL0];simp
     have hne:∀j,vo.ownBlock=some j->j≠w.heap.size:=fun j hj=>by
      rcases Wm.new j hj with h|h
      ·have:=(hr.own j h).2;omega
      ·omega
     have UM:wo.heap[w.heap.size]?=some (.cells #[.int .i64 3,.string k1,.string k2,.int .i64 k3,.string k4,.string k5,.string k6,.string k7,.string k8,.slice kp kl kc,.slice kq ts.length kd] 44):=by rw [Wm.block w.heap.size (by omega) fun e=>by have:=(hr.own _ e.symm).2;omega];exact hc
     have aou:=Wm.size;have hz0':w'.cell? ⟨w.heap.size,0,none⟩=some (.int .i64 3):=by rw [<-hwo];simp only [World.cell?,UM];rfl
     go_wp2;rw [<-hwo];go_loopw [0,7] (fun vz i wy=>∃kk:Nat,kk<=ts.length/\i=.int .i64 kk/\jc B S vz (j6 L0 (ts.take kk)) wy/\SK vo vz wo wy) (fun _ i _=>ts.length - (intOf i).toNat)
     case atStart=>
      refine ⟨0,Ft _,rfl,?_,?_⟩
      ·rw [<-VQ];exact tr0
      ·rw [<-VQ];exact SK.refl _ _
     case round=>
      obtain ⟨kk,hkk,rfl,Ka,Qf⟩:=hrel;have hcy:wr.heap[w.heap.size]?=some (.cells #[.int .i64 3,.string k1,.string k2,.int .i64 k3,.string k4,.string k5,.string k6,.string k7,.string k8,.slice kp kl kc,.slice kq ts.length kd] 44):=by rw [Qf.block w.heap.size (by omega) fun e=>hne _ e.symm rfl];exact UM
      have apD:wr.cell? ⟨w.heap.size,10,none⟩=some (.slice kq ts.length kd):=by simp only [World.cell?,hcy];rfl
      have DZ:Below B w wr:=((SK.dY b1).trans (Wm.trans Qf)).below hr.le fun j hj=>(hr.own j hj).1
      clear hcy;by_cases hx2:kk < ts.length
      ·obtain ⟨y,hyk⟩:∃y,ts[kk]?=some y:=⟨_,Ax hx2⟩;have hym:=C7 hyk;obtain ⟨bk,o,HV,rfl,hyu,Qv⟩:=hargs.get DZ hyk;obtain ⟨y0,y1,y2,y3,y4,y5,y6,y7,y8,yp,yl,yc,yq,ym,yd,rfl⟩:=dF (Bp.rb hyu);obtain ⟨e0,e1,e2,e3,e4,e5,e6,e7,e8,e9,e10⟩:=Yh Qv;clear Qv;have hn1:=xk hyk;have hn2:=wz (ts.take kk) L0;have hn3:av (.app p s ts)=1+aJ ts:=rfl;have c2:=(ih y hym).use Ka (keeps.keep DZ hk) (CG okL fun x hx=>AU hok x (I2 hx)) (AU hok y hym) (by omega) hyu
       go_wp2_with (go_at_call 119;refine c2.mono ?_);rintro e w3 ⟨v3,rfl,t3,s3⟩;go_wp2;go_roundw
       case rel=>exact ⟨kk+1,by omega,by simp,by rw [nJ hyk,AV];exact t3,Qf.trans s3⟩
       case measure=>simp [intOf];omega
      ·obtain rfl:kk=ts.length:=by omega
       rw [I0] at Ka;go_wp2;go_ret;refine ⟨_,rfl,?_,(SK.dY b1).trans (Wm.trans Qf)⟩;rw [za,hM];rw [hL0] at Ka;exact Ka
end Go.Proofs
