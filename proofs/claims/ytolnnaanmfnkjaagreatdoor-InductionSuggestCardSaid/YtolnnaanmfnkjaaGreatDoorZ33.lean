import Derived.Test.YtolnnaanmfnkjaaGreatDoorZ31
import Derived.Test.YtolnnaanmfnkjaaGreatDoorZ32
set_option linter.all false
set_option maxHeartbeats 0
set_option maxRecDepth 100000
namespace Go.Proofs
open RowKit Ey Ey.Pr Ey.Seat
theorem Tryz.ajn (B:Nat) (S:Nat->Nat->Prop):∀t:Tm,Oi B S t
 |.var p s=>Tryz.akZ B S p s
 |.dV o=>Tryz.amB B S o
 |.app p s ts=>Tryz.amv B S p s ts fun x _=>Tryz.ajn B S x
theorem JZ {w:World} {Sf:Nat->Nat->Prop}:∀{cs:List C} {us:List Value} {b o:Nat},Ey.av (bJ w Sf) cs us->(∀j u,us[j]?=some u->w.cell? ⟨b,o+j,none⟩=some u)->(∀j,Sf b j)->fo w Sf cs b o:=
 fun h hc hs=>Hz h fun i u hi=>⟨hc i u hi,hs _⟩
theorem gB.rep {S:Nat->Nat->Prop} {v:Value} {ts:List Tm} {w w':World} (h:gB w.heap.size S v ts w'):bJ w' (fun b o=>b < w.heap.size->S b o) (.slice (eZ ts) ts.length) v:=by
 obtain ⟨xs,h1,h2⟩:=h.row;have h1':=h1;rcases h1.2 with ⟨rfl,h0⟩|⟨g,cap,cur,rfl,hg,hgg,_,hcap,_⟩
 ·have:ts=[]:=Cp h0
  subst this;exact .inl ⟨rfl,rfl,rfl⟩
 ·refine .inr ⟨⟨g,0,none⟩,cap,rfl,by omega,fun _=>rfl,?_⟩
  refine JZ (us:=xs) (h2.mono fun c u hr=>bJ.mono (fun k o v hc hk=>⟨hc,fun _=>hk.2⟩) c u hr) (fun j u hj=>?_) fun j (hlt:g < w.heap.size)=>absurd hlt (by omega)
  have:=h1'.cells (g:=g) rfl _ _ hj
  rw [Addr.add_lit] at this;exact this
theorem gB.nil {B:Nat} {S:Nat->Nat->Prop} {w:World} (hB:B<=w.heap.size):gB B S (.slice none 0 0) [] w:=⟨⟨[],World.ownsRow_nil _ _ _ _,trivial⟩,hB⟩
theorem Tryz.apI (ts:List Tm) (S:Nat->Nat->Prop) (q:Option Addr) (d:Nat) (w:World) (hok:∀x∈ts,Gq x) (hsz:au ts<=90000) (hk:keeps.Inv w.heap.size w) (hargs:su w.heap.size S ts q w):
  Calls Tryz.prog 44 #[.slice q ts.length d] w fun e w'=>∃v',e=.returned v'/\gB w.heap.size S v' (fG [] ts) w'/\Below w.heap.size w w':=by
 have hnt:ts.length<=90000:=by have:=lZ ts;omega
 go_enter Tryz.func44,Tryz.ntmps44;go_wp2;go_loopw [3,4] (fun vz i wy=>∃kk:Nat,kk<=ts.length/\i=.int .i64 kk/\gB w.heap.size S vz (fG [] (ts.take kk)) wy/\SK (.slice none 0 0) vz w wy) (fun _ i _=>ts.length - (intOf i).toNat)
 case atStart=>exact ⟨0,Fl _,rfl,gB.nil (An _),SK.refl _ _⟩
 case round=>
  obtain ⟨kk,hkk,rfl,J9,Po⟩:=hrel;have yj:Below w.heap.size w wr:=Po.below (An _) fun j hj=>by simp [Value.ownBlock] at hj
  by_cases hx2:kk < ts.length
  ·obtain ⟨y,hyk⟩:∃y,ts[kk]?=some y:=⟨_,A6 hx2⟩;have hym:=C3 hyk;obtain ⟨bk,o,Fp,rfl,hyu,KQ⟩:=hargs.get yj hyk;obtain ⟨y0,y1,y2,y3,y4,y5,y6,y7,y8,yp,yl,yc,yq,ym,yd,rfl⟩:=bL (qx.rb hyu);obtain ⟨e0,e1,e2,e3,e4,e5,e6,e7,e8,e9,e10⟩:=SY KQ;clear KQ;have hn1:=mg hyk;have hn2:=rT (ts.take kk) [];have c2:=(Tryz.ajn w.heap.size S y).use J9 (keeps.keep yj hk) (Bo (fun x hx=>by cases hx) fun x hx=>hok x (Hs hx)) (hok y hym) (by simp only [G3] at hn2;omega) hyu
   go_wp2_with (go_at_call 119;refine c2.mono ?_);rintro e w3 ⟨v3,rfl,t3,s3⟩;go_wp2;go_roundw
   case rel=>exact ⟨kk+1,by omega,by simp,by rw [jD hyk,Ab];exact t3,Po.trans s3⟩
   case measure=>simp [intOf];omega
  ·obtain rfl:kk=ts.length:=by omega
   rw [Ge] at J9;go_wp2;go_ret;exact ⟨_,rfl,J9,yj⟩
end Go.Proofs
namespace Go.Ey.Pr
open Seat RowKit Proofs
theorem anr {ts:List Tm} (hok:∀x∈ts,Gq x) (hsz:au ts<=90000):nY PP 44 [.one (rows aa ts)] [.one (rows aa (fG [] ts))]:=by
 rw [show rows aa ts=.slice (eZ ts) ts.length by rw [iG];rfl,show rows aa (fG [] ts)=.slice (eZ (fG [] ts)) (fG [] ts).length by rw [iG];rfl]
 refine ⟨H8 (by kernel_rfl),fun S w us hinv hall=>?_⟩
 match us,hall with
 |[u],⟨hu,_⟩=>
  have hu':RQ w w.heap.size S (.slice (eZ ts) ts.length) u:=bJ.mono (fun k o v hc h=>⟨hc,World.block_lt_of_cell? _ _ hc,h⟩) _ u hu
  obtain ⟨q,m,d,rfl⟩:∃q m d,u=.slice q m d:=by rcases hu' with ⟨rfl,_⟩|⟨a,cap,rfl,_⟩<;>exact ⟨_,_,_,rfl⟩
  obtain ⟨rfl,hargs⟩:=argsAt hu';refine Calls.mono (Tryz.apI ts S q d w hok hsz hinv hargs) ?_;rintro e w' ⟨v,rfl,htr,hb⟩;exact ⟨v,rfl,htr.rep,hb⟩
end Go.Ey.Pr
namespace Go.Proofs
open RowKit Ey Ey.Pr Ey.Seat
theorem gB.some {B:Nat} {S:Nat->Nat->Prop} {v:Value} {ts:List Tm} {w:World} (h:gB B S v ts w):bJ w (fun _ _=>True) (.slice (eZ ts) ts.length) v:=by
 obtain ⟨xs,h1,h2⟩:=h.row;have h1':=h1;rcases h1.2 with ⟨rfl,h0⟩|⟨g,cap,cur,rfl,hg,hgg,_,hcap,_⟩
 ·have:ts=[]:=Cp h0
  subst this;exact .inl ⟨rfl,rfl,rfl⟩
 ·refine .inr ⟨⟨g,0,none⟩,cap,rfl,by omega,fun _=>rfl,?_⟩
  refine JZ (us:=xs) (h2.mono fun c u hr=>bJ.mono (fun k o v hc hk=>⟨hc,trivial⟩) c u hr) (fun j u hj=>?_) fun j=>trivial
  have:=h1'.cells (g:=g) rfl _ _ hj
  rw [Addr.add_lit] at this;exact this
theorem Tryz.arH {B:Nat} {S:Nat->Nat->Prop} {v:Value} {l:List Tm} {t:Tm} {us:List Value} {w:World} (hm:l.length < 100000) (hok:Um l) (hk:keeps.Inv w.heap.size w) (hr:gB B S v l w) (hu:Ey.av (RQ w B S) (aa t) us):
  Calls Tryz.prog 127 #[v,.agg us.toArray] w fun e w'=>e=.returned (.bool (inT l t))/\Below w.heap.size w w':=by
 have hf:nY PP 127 [.one (rows aa l),.agg (aa t)] [.one (cb (inT l t))]:=ajy.fn (by kernel_rfl) (asK l hm hok t)
 rw [show rows aa l=.slice (eZ l) l.length by rw [iG];rfl] at hf
 refine (hf.2 (fun _ _=>True) w [v,.agg us.toArray] hk ⟨hr.some,⟨us,rfl,hu.mono fun c u hr=>bJ.mono (fun k o v hc hk=>⟨hc,trivial⟩) c u hr⟩,trivial⟩).mono ?_
 rintro e w' ⟨v,rfl,hr,hb⟩;have:v=.bool (inT l t):=hr.1
 subst this;exact ⟨rfl,hb⟩
structure Hid (p:Prop):Prop where
 h:p
theorem Tryz.apQ (w:World):Sem.run Tryz.prog (binOp .eql 28 (.slice none 0 0) (.slice none 0 0)) w=.ok (.bool true) w:=by kernel_rfl
theorem Tryz.akP (a:Addr) (n d:Nat) (w:World):Sem.run Tryz.prog (binOp .eql 28 (.slice (some a) n d) (.slice none 0 0)) w=.ok (.bool false) w:=by kernel_rfl
theorem WC {w:World} {S:Nat->Nat->Prop} {cs:List C} {us:List Value} (h:Ey.av (bJ w S) cs us):∀u∈us,u.oneCell'=true:=av.mem_right (fun _ _ h=>bJ.oneCell h) h
theorem Tryz.am1 (ts:List Tm) (S:Nat->Nat->Prop) (q:Option Addr) (d:Nat) (w:World) (hsz:ts.length<=90000) (hq:q=none->d=0/\ts=[]) (hargs:su w.heap.size S ts q w):
  Calls Tryz.prog 133 #[.slice q ts.length d] w fun e w'=>∃v',e=.returned v'/\gB w.heap.size S v' ts w'/\Below w.heap.size w w':=by
 cases q with
 |none=>
  obtain ⟨rfl,rfl⟩:=hq rfl;have hn:=Tryz.apQ;go_enter Tryz.func133,Tryz.ntmps133;go_wp2;go_ret;exact ⟨_,rfl,gB.nil (An _),Below.refl _ _⟩
 |some ad=>
  obtain ⟨i0,hi,hz0,hz1,hz2⟩:=info_parts Tryz.J8;obtain ⟨vs,hv1,hv2⟩:∃vs,Ey.av (RQ w w.heap.size S) (eZ ts) vs/\∀j u,vs[j]?=some u->w.cell? (ad.add j)=some u:=by
   by_cases hp:0 < ts.length
   ·obtain ⟨bk,o,vs,e,h1,h2⟩:=hargs.at' hp;injection e with e;subst e;exact ⟨vs,h1,fun j u hj=>by rw [Addr.add_lit];exact h2.cell j u hj⟩
   ·have:ts=[]:=Cp (by omega)
    subst this;exact ⟨[],trivial,fun j u hj=>by simp at hj⟩
  have hl:vs.length=ts.length * 11:=by rw [<-hv1.len,iG,yU af]
  have hn:=Tryz.akP;go_enter Tryz.func133,Tryz.ntmps133;go_wp2_with (first
   |(at_builtin;refine wpList_append_own _ rfl _ _ 28 rfl w.heap.size 44 i0 _ 11 176 Tryz.underlying28 hi hz0 hz1 hz2 rfl (by decide) _ 0 [] rfl (World.ownsRow_made w #[] 0 (An _) (Fl _) rfl) ad ts.length d vs rfl hl ?c1 (WC hv1) ?c3 ?c4 ?c5 ?_)
   |go_in)
  case c1=>
   intro j u hj;have:=hv2 j u hj
   rw [((Below.refl w.heap.size w).alloc (An _) _).cell (World.block_lt_of_cell? _ _ this)];exact this
  case c3=>unfold maxLen;omega
  case c4=>omega
  case c5=>simp
  ·intro v' w' ho hg _;go_wp2;go_ret;have b:Below w.heap.size w w':=((Below.refl w.heap.size w).alloc (An _) _).trans ⟨hg.os,hg.tape,hg.output,hg.size,fun k hk=>hg.block k (by simp;omega) (by simp [Value.ownBlock];omega)⟩
   refine ⟨_,rfl,⟨⟨vs,by simpa using ho,qx.keep b hv1⟩,b.size⟩,b⟩
theorem QM (c:List Tm) (l:List Tm) (t:Tm):(l++[t]).foldl xz c=xz (l.foldl xz c) t:=by simp
theorem Ul:∀(l c:List Tm),(l.foldl xz c).length<=c.length+l.length
 |[],c=>by simp
 |t::l,c=>by
  have h1:=Ul l (xz c t);have h2:(xz c t).length<=c.length+1:=by unfold xz;split<;>simp
  simp only [It,C5];omega
theorem adx {l c:List Tm} {P:Tm->Prop} (hc:∀x∈c,P x) (hl:∀x∈l,P x):∀x∈l.foldl xz c,P x:=by
 induction l generalizing c with
 |nil=>exact hc
 |cons t l ih=>
  refine ih (fun x hx=>?_) fun x hx=>hl x (by simp [hx])
  unfold xz at hx;split at hx
  ·exact hc x hx
  ·rcases B0.1 hx with h|h
   ·exact hc x h
   ·obtain rfl:x=t:=by simpa using h
    exact hl x (by simp)
theorem Tryz.ar8 (cl ts:List Tm) (S:Nat->Nat->Prop) (p q:Option Addr) (f d:Nat) (w:World) (akS:Um cl) (hok:Um ts) (hsz:cl.length+ts.length<=90000) (hk:keeps.Inv w.heap.size w)
  (hp:p=none->f=0/\cl=[]) (hcl:su w.heap.size S cl p w) (hargs:su w.heap.size S ts q w):
  Calls Tryz.prog 72 #[.slice p cl.length f,.slice q ts.length d] w fun e w'=>∃v',e=.returned v'/\gB w.heap.size S v' (ts.foldl xz cl) w'/\Below w.heap.size w w':=by
 have c0:=Tryz.am1 cl S p f w (by omega) hp hcl
 go_enter Tryz.func72,Tryz.ntmps72;go_wp2_with (go_at_call 133;refine c0.mono ?_);rintro e w0 ⟨v0,rfl,t0,b0⟩;go_wp2;go_loopw [5,12] (fun vz i wy=>∃kk:Nat,kk<=ts.length/\i=.int .i64 kk/\gB w.heap.size S vz ((ts.take kk).foldl xz cl) wy/\SK v0 vz w0 wy) (fun _ i _=>ts.length - (intOf i).toNat)
 case atStart=>exact ⟨0,Fl _,rfl,t0,SK.refl _ _⟩
 case round=>
  obtain ⟨kk,hkk,rfl,J9,Po⟩:=hrel;have yj:Below w.heap.size w wr:=b0.trans (Po.below t0.le fun j hj=>(t0.own j hj).1)
  by_cases hx2:kk < ts.length
  ·obtain ⟨y,hyk⟩:∃y,ts[kk]?=some y:=⟨_,A6 hx2⟩;have hym:=C3 hyk;obtain ⟨bk,o,Fp,rfl,hyu,KQ⟩:=hargs.get yj hyk;obtain ⟨y0,y1,y2,y3,y4,y5,y6,y7,y8,yp,yl,yc,yq,ym,yd,rfl⟩:=bL (qx.rb hyu);obtain ⟨e0,e1,e2,e3,e4,e5,e6,e7,e8,e9,e10⟩:=SY KQ;clear KQ;obtain ⟨L,hLL⟩:∃L,Hid (L=(ts.take kk).foldl xz cl):=⟨_,⟨rfl⟩⟩;rw [<-hLL.h] at J9;have hLl:L.length<=cl.length+kk:=by have:=Ul (ts.take kk) cl;rw [hLL.h];rw [Fo] at this;omega
   have hLo:Um L:=by rw [hLL.h];exact adx akS fun x hx=>hok x (Hs hx)
   obtain ⟨wb,hwb⟩:∃wb,wb=wr.alloc (.cells #[.int .i64 y0,.string y1,.string y2,.int .i64 y3,.string y4,.string y5,.string y6,.string y7,.string y8,.slice yp yl yc,.slice yq ym yd] 44):=⟨_,rfl⟩;have bb:Below wr.heap.size wr wb:=by rw [hwb];exact (Below.refl _ wr).alloc (An _) _
   have hsb:wb.heap.size=wr.heap.size+1:=by rw [hwb];simp
   have hcb:wb.heap[wr.heap.size]?=some (.cells #[.int .i64 y0,.string y1,.string y2,.int .i64 y3,.string y4,.string y5,.string y6,.string y7,.string y8,.slice yp yl yc,.slice yq ym yd] 44):=by
    rw [hwb];show (wr.heap.push _)[wr.heap.size]?=_
    simp
   have ar5:Below w.heap.size w wb:=yj.trans (bb.mono J9.le);have trb:=J9.kept bb;have ch:=Tryz.arH (B:=w.heap.size) (S:=S) (t:=y) (by omega) hLo (keeps.mono trb.le (keeps.keep ar5 hk)) trb (qx.keep (bb.mono J9.le) hyu)
   obtain ⟨d0,d1,d2,d3,d4,d5,d6,d7,d8,d9,d10⟩:=amk hcb;obtain ⟨ao,cap,rfl,hao⟩:=J9.shape;cases hM:inT L y with
   |true=>
    rw [hM] at ch;go_wp2_with (go_at_call 127;rw [<-hwb];refine ch.mono ?_);rintro e w2 ⟨rfl,b2⟩;go_wp2;go_roundw
    case rel=>exact ⟨kk+1,by omega,by simp,by rw [jD hyk,QM,<-hLL.h,xz,C6 hM];exact trb.kept b2,Po.trans ((SK.dJ bb).trans (SK.dJ b2))⟩
    case measure=>simp [intOf];omega
   |false=>
    rw [hM] at ch;obtain ⟨i0,hi,hz0,hz1,hz2⟩:=info_parts Tryz.J8;go_wp2_with (go_at_call 127;rw [<-hwb];refine ch.mono ?_);rintro e w2 ⟨rfl,b2⟩;have tr2:=trb.kept b2;obtain ⟨xs,ho,hxs⟩:=tr2.row;have as4:Below w.heap.size wr w2:=(bb.mono J9.le).trans (b2.mono trb.le);obtain ⟨f0,f1,f2,f3,f4,f5,f6,f7,f8,f9,f10⟩:=asJ b2 (show wr.heap.size < wb.heap.size by omega) ⟨d0,d1,d2,d3,d4,d5,d6,d7,d8,d9,d10⟩
    clear d0 d1 d2 d3 d4 d5 d6 d7 d8 d9 d10;go_wp2_with (first
     |(at_builtin;refine wpList_append_lies _ rfl _ _ 28 rfl w.heap.size 44 i0 _ 11 176 Tryz.underlying28 hi hz0 hz1 hz2 rfl (by decide) _ _ xs rfl (ho.alloc _) ⟨w2.heap.size,0,none⟩ 1 1 [.int .i64 y0,.string y1,.string y2,.int .i64 y3,.string y4,.string y5,.string y6,.string y7,.string y8,.slice yp yl yc,.slice yq ym yd] rfl rfl ?c1 ?c2 (by omega) ?c3 ?c4 ?c5 _ rfl ?_)
     |go_in)
    case c1=>exact World.news_of_block (cs:=#[.int .i64 y0,.string y1,.string y2,.int .i64 y3,.string y4,.string y5,.string y6,.string y7,.string y8,.slice yp yl yc,.slice yq ym yd]) (t:=44) (fr:=(0,0)) (heap_alloc_new w2 _)
    case c2=>exact WC hyu
    case c3=>unfold maxLen;omega
    case c4=>omega
    case c5=>have:=tr2.le;simp;omega
    ·intro g' cap' w' ho' hg' hat hlt;obtain ⟨ht,hk'⟩:=gB.pushed tr2 hxs (qx.keep as4 hyu) ho' hg' hat;clear ho' hg' hat f0 f1 f2 f3 f4 f5 f6 f7 f8 f9 f10;go_wp2;go_roundw
     case rel=>exact ⟨kk+1,by omega,by simp,by rw [jD hyk,QM,<-hLL.h,xz,E0 (by rw [hM];simp)];exact ht,Po.trans ((SK.dJ bb).trans ((SK.dJ b2).trans hk'))⟩
     case measure=>simp [intOf];omega
  ·obtain rfl:kk=ts.length:=by omega
   rw [Ge] at J9;go_wp2;go_ret;exact ⟨_,rfl,J9,yj⟩
end Go.Proofs
namespace Go.Ey.Pr
open Seat RowKit Proofs
theorem sF (ts:List Tm):rows aa ts=.slice (eZ ts) ts.length:=by rw [iG];rfl
theorem aof {S:Nat->Nat->Prop} {w:World} {c:C} {u:Value} (h:bJ w S c u):RQ w w.heap.size S c u:=bJ.mono (fun k o v hc h=>⟨hc,World.block_lt_of_cell? _ _ hc,h⟩) _ u h
theorem GZ {S:Nat->Nat->Prop} {w:World} {ts:List Tm} {u:Value} (h:bJ w S (.slice (eZ ts) ts.length) u):∃q d,u=.slice q ts.length d/\(q=none->d=0/\ts=[])/\su w.heap.size S ts q w:=by
 have h':=aof h;have h2:∃q m d,u=.slice q m d/\(q=none->d=0/\ts=[]):=by
  rcases h' with ⟨rfl,h0,_⟩|⟨a,cap,rfl,_⟩
  ·exact ⟨_,_,_,rfl,fun _=>⟨rfl,Cp h0⟩⟩
  ·exact ⟨_,_,_,rfl,fun h=>by cases h⟩
 obtain ⟨q,m,d,rfl,h3⟩:=h2;obtain ⟨rfl,hargs⟩:=argsAt h';exact ⟨q,d,rfl,h3,hargs⟩
theorem ao3 {cl ts:List Tm} (akS:Um cl) (hok:Um ts) (hsz:cl.length+ts.length<=90000):nY PP 72 [.one (rows aa cl),.one (rows aa ts)] [.one (rows aa (ts.foldl xz cl))]:=by
 rw [sF,sF,sF];refine ⟨H8 (by kernel_rfl),fun S w us hinv hall=>?_⟩
 match us,hall with
 |[u,v],⟨hu,hv,_⟩=>
  obtain ⟨p,f,rfl,hp,ha⟩:=GZ hu;obtain ⟨q,d,rfl,_,hb⟩:=GZ hv;refine Calls.mono (Tryz.ar8 cl ts S p q f d w akS hok hsz hinv hp ha hb) ?_;rintro e w' ⟨v,rfl,htr,hb⟩;exact ⟨v,rfl,htr.rep,hb⟩
variable {nat:Nat->List V->Option (List V)}
abbrev aI:=ByteArray×ByteArray
def bP (p:aI):List C:=[cs p.1,cs p.2]
theorem jP (p:aI):(bP p).length=2:=rfl
def CX (a b:aI):Bool:=decide (a.1=b.1) && decide (a.2=b.2)
theorem xy {a b:aI}:CX a b=true↔a=b:=by obtain ⟨a1,a2⟩:=a;obtain ⟨b1,b2⟩:=b;simp [CX]
def gm (l:List aI) (t:aI):Bool:=l.any fun x=>CX t x
theorem xY {l:List aI} {t:aI}:gm l t=true↔t∈l:=by
 simp only [gm,Ix,xy];constructor
 ·rintro ⟨x,hx,rfl⟩;exact hx
 ·exact fun h=>⟨t,h,rfl⟩
end Go.Ey.Pr
namespace Go.Proofs
open Ey Ey.Seat RowKit Ey.Pr
variable {nat:Nat->List V->Option (List V)}
def fZ:Tm->Int
 |.var _ _=>1
 |.dV _=>2
 |.app _ _ _=>3
def aN:Tm->aI
 |.var p s=>(p,s)
 |.dV _=>(eB,eB)
 |.app p s _=>(p,s)
theorem Qv {w:World} {B:Nat} {t:Tm} {us:List Value} (h:Ey.av (RB w B) (aa t) us):∃(k3:Int) (k4 k5 k6 k7 k8:ByteArray) (kp:Option Addr) (kl kc:Nat) (kq:Option Addr) (km kd:Nat),
  us=[.int .i64 (fZ t),.string (aN t).1,.string (aN t).2,.int .i64 k3,.string k4,.string k5,.string k6,.string k7,.string k8,.slice kp kl kc,.slice kq km kd]:=by
 obtain ⟨k0,k1,k2,k3,k4,k5,k6,k7,k8,kp,kl,kc,kq,km,kd,rfl⟩:=bL h;refine ⟨k3,k4,k5,k6,k7,k8,kp,kl,kc,kq,km,kd,?_⟩;have e:Value.int .i64 k0=.int .i64 (fZ t)/\Value.string k1=.string (aN t).1/\Value.string k2=.string (aN t).2:=by
  cases t with
  |var p s=>exact ⟨h.1.i,RB.s h.2.1,RB.s h.2.2.1⟩
  |dV o=>cases o<;>exact ⟨h.1.i,RB.s h.2.1,RB.s h.2.2.1⟩
  |app p s ts=>exact ⟨h.1.i,RB.s h.2.1,RB.s h.2.2.1⟩
 rw [e.1,e.2.1,e.2.2]
def Gy (k:Int) (xs:List aI) (t:Tm):List aI:=cond (decide (fZ t=k) && !gm xs (aN t)) (xs++[aN t]) xs
mutual
def Gn (k:Int) (xs:List aI):Tm->List aI
 |.app p s ts=>bT k (Gy k xs (.app p s ts)) ts
 |.var p s=>Gy k xs (.var p s)
 |.dV o=>Gy k xs (.dV o)
def bT (k:Int) (xs:List aI):List Tm->List aI
 |[]=>xs
 |t::ts=>bT k (Gn k xs t) ts
end
theorem IY (k:Int) (xs:List aI) (t:Tm):(Gy k xs t).length<=xs.length+1:=by unfold Gy;cases decide (fZ t=k) && !gm xs (aN t)<;>simp
mutual
theorem acj (k:Int):∀(t:Tm) (xs:List aI),(Gn k xs t).length<=xs.length+ah t
 |.var p s,xs=>by rw [Gn,ah];exact IY _ _ _
 |.dV o,xs=>by have:=BX o;have:=IY k xs (.dV o);rw [Gn,ah];omega
 |.app p s ts,xs=>by have:=IY k xs (.app p s ts);have:=jr k ts (Gy k xs (.app p s ts));rw [Gn,ah];omega
theorem jr (k:Int):∀(ts:List Tm) (xs:List aI),(bT k xs ts).length<=xs.length+au ts
 |[],xs=>by simp [bT,au]
 |t::ts,xs=>by have:=acj k t xs;have:=jr k ts (Gn k xs t);rw [bT,au];omega
end
def F5:Tm->Nat
 |.app _ _ ts=>ts.length
 |_=>0
def ai:Tm->List Tm
 |.app _ _ ts=>ts
 |_=>[]
theorem QA (t:Tm):(ai t).length=F5 t:=by cases t<;>rfl
theorem abt {w:World} {B:Nat} {t:Tm} {us:List Value} (h:Ey.av (RB w B) (aa t) us):∃(k3:Int) (k4 k5 k6 k7 k8:ByteArray) (kp:Option Addr) (kl kc:Nat) (kq:Option Addr) (kd:Nat),
  us=[.int .i64 (fZ t),.string (aN t).1,.string (aN t).2,.int .i64 k3,.string k4,.string k5,.string k6,.string k7,.string k8,.slice kp kl kc,.slice kq (F5 t) kd]:=by
 obtain ⟨k3,k4,k5,k6,k7,k8,kp,kl,kc,kq,km,kd,rfl⟩:=Qv h;refine ⟨k3,k4,k5,k6,k7,k8,kp,kl,kc,kq,kd,?_⟩;have e:∀{c:C} {n:Nat},(∃xs,c=.slice xs n)->RB w B c (.slice kq km kd)->km=n:=by
  rintro c n ⟨xs,rfl⟩ (⟨e,h0,_⟩|⟨a,cap,e,_⟩)
  ·injection e with _ e2;omega
  ·injection e with _ e2
 have:km=F5 t:=by
  cases t with
  |var p s=>exact e ⟨_,rfl⟩ h.2.2.2.2.2.2.2.2.2.2.1
  |dV o=>cases o<;>exact e ⟨_,rfl⟩ h.2.2.2.2.2.2.2.2.2.2.1
  |app p s ts=>exact e ⟨_,rfl⟩ h.2.2.2.2.2.2.2.2.2.2.1
 rw [this]
end Go.Proofs
namespace Go.Ey.Pr
open Seat RowKit Proofs
variable {nat:Nat->List V->Option (List V)}
def cK (a:cu):List C:=cs a.v.1::cs a.v.2::aa a.t
def encS (s:List cu):List C:=[rows cK s]
def dh (c:Cs):List C:=[rows aa c.tests,rows encS c.subs]
theorem Ve (a:cu):(cK a).length=13:=by simp [cK,af]
theorem Mq (s:List cu):(encS s).length=1:=rfl
theorem zO (c:Cs):(dh c).length=2:=rfl
structure Fd where
 nm:aI
 ps:List aI
 cl:Int
 gd:List C
 body:Tm
 ms:List C
def eF (f:Fd):List C:=cs f.nm.1::cs f.nm.2::rows bP f.ps::ci f.cl::(f.gd++(aa f.body++f.ms))
structure Fd.OK (f:Fd):Prop where
 gd:f.gd.length=11
 ms:f.ms.length=11
 nd:ah f.body<=3000
 ps:f.ps.length<=1000
theorem aU {f:Fd} (h:f.OK):(eF f).length=37:=by simp [eF,af,h.gd,h.ms]
def yt (s:List cu):Prop:=∀a∈s,Gq a.t
def amr (ss:List (List cu)):Prop:=∀s∈ss,yt s/\s.length<=1000
theorem UH (a b:aI):CX a b=CX b a:=by rw [Ks,xy,xy];exact eq_comm
theorem oK {xs:List aI} {k:Nat} (h:k < xs.length):fI 2 (rows bP xs) (ci k)=some (bP xs[k]):=jE jP (A6 h)
theorem eH (xs:List aI):jk false (rows bP xs)=some (ci xs.length):=rfl
theorem aeQ (a b:aI):Ea [1,1] false (bP a) (bP b)=some (cb (CX b a)):=by rw [UH];exact wM false a.1 a.2 b.1 b.2
theorem Wl (xs:List aI) (hm:xs.length < 100000) (p:aI):∀(m k:Nat),k+m=xs.length->
  bR (T nat).G 151 0 [.c (rows bP xs),.c (ci k),.l (bP p)]=some ([.one (cb (gm (xs.drop k) p))],[])
 |0,k,hk=>by
  have hlt:¬((k:Int) < (xs.length:Int)):=by omega
  rw [aF TK (t:=t151.heads[0]) rfl,bG (by omega)]
  simp [t151,zZ,hlt,eH,gm]
 |m+1,k,hk'=>by
  have hkr:k < xs.length:=by omega
  have hlt:((k:Int) < (xs.length:Int)):=by omega
  have hs:=bn k (by omega)
  have hi:=Wl xs hm p m (k+1) (by omega)
  have hd:gm (xs.drop k) p=(CX p xs[k]||gm (xs.drop (k+1)) p):=by rw [drop_at hkr];rfl
  rw [hd,aF TK (t:=t151.heads[0]) rfl];have he:=aeQ xs[k] p;cases hb:CX p xs[k]<;>rw [hb] at he<;>simp [-Int.natCast_add,t151,zZ,hlt,eH,oK hkr,he,hs,hi,jP,hb]
theorem x151 (xs:List aI) (hm:xs.length < 100000) (p:aI):bq (T nat).G 151 [.v (.one (rows bP xs)),.v (.agg (bP p))] []=some ([.one (cb (gm xs p))],[]):=by
 have h3:=Wl (nat:=nat) xs hm p xs.length 0 (by omega)
 simp only [C4,D1] at h3;rw [aQ TK];simp [t151,zZ,h3,jP]
def oG:ByteArray:=⟨#[110,111,116]⟩
def OL (s:ByteArray) (n:Nat):Tm->Bool
 |.app p x ts=>(decide (p=dw) && decide (x=s)) && decide (ts.length=n)
 |_=>false
theorem adL (n m:Nat):((n:Int)==(m:Int))=decide (n=m):=by
 by_cases h:n=m
 ·simp [h]
 ·have:¬((n:Int)=m):=by omega
  simp [h,this]
theorem x92 (t:Tm) (s:ByteArray) (n:Nat):bq (T nat).G 92 [.v (.agg (aa t)),.v (.one (cs s)),.v (.one (ci n))] []=some ([.one (cb (OL s n t))],[]):=by
 rw [aQ amX];cases t with
 |var p x=>simp [t92,zZ,aa,OL]
 |dV o=>cases o<;>simp [t92,zZ,aa,enc,OL]
 |app p x ts=>
  cases hp:decide (p=dw) && decide (x=s) with
  |true=>simp [t92,zZ,di,OL,hp,aG,adL,x80]
  |false=>simp [t92,zZ,di,OL,hp,x80]
theorem AP {s:ByteArray} {t:Tm} (h:OL s 1 t=true):∃x,t=.app dw s [x]:=by
 cases t with
 |var p x=>cases h
 |dV o=>cases h
 |app p x ts=>
  simp only [OL,A5,G0] at h;obtain ⟨⟨rfl,rfl⟩,h3⟩:=h
  match ts,h3 with
  |[y],_=>exact ⟨y,rfl⟩
def kJ (out:List aI) (p:aI):List aI:=cond (gm out p) out (out++[p])
theorem U7 (out:List aI) (p:aI):(kJ out p).length<=out.length+1:=by unfold kJ;cases gm out p<;>simp
theorem E9:∀(l out:List aI),(l.foldl kJ out).length<=out.length+l.length
 |[],out=>by simp
 |p::l,out=>by have:=E9 l (kJ out p);have:=U7 out p;simp only [It,C5];omega
theorem adw (out:List aI) (p x:aI):x∈kJ out p↔x∈out\/x=p:=by
 unfold kJ;cases h:gm out p with
 |true=>
  have:=xY.1 h
  constructor
  ·exact .inl
  ·rintro (h|rfl)
   ·exact h
   ·exact this
 |false=>simp
theorem EZ:∀(l out:List aI) (x:aI),x∈l.foldl kJ out↔x∈out\/x∈l
 |[],out,x=>by simp
 |p::l,out,x=>by rw [It,EZ l,adw];simp only [D2];exact or_assoc
theorem rF {acc:List aI} {x:aI} (h:acc.length < 1000000):Fq 2 32 (.slice (bP x) 1) (rows bP acc)=some (rows bP (acc++[x])):=
 BR jP (by decide) (by simp only [bg];omega) (by simp only [bg];omega)
theorem Rf (p s:ByteArray):fK 2 1 [cs p,cs s]=some (.slice (bP (p,s)) 1):=by simp [fK,bP,bg]
theorem BN (p:aI) (t:Tm):fK 13 1 [cs p.1,cs p.2,ak (aa t) 0,ak (aa t) 1,ak (aa t) 2,ak (aa t) 3,ak (aa t) 4,ak (aa t) 5,ak (aa t) 6,ak (aa t) 7,ak (aa t) 8,ak (aa t) 9,ak (aa t) 10]=some (.slice (cK ⟨p,t⟩) 1):=by
 have:=nH t
 simp [fK,bg,cK,this,af]
theorem Es {acc:List cu} {x:cu} (h:acc.length < 1000000):Fq 13 208 (.slice (cK x) 1) (rows cK acc)=some (rows cK (acc++[x])):=
 BR Ve (by decide) (by simp only [bg];omega) (by simp only [bg];omega)
end Go.Ey.Pr
namespace Go.Ey.Pr
open Seat RowKit Proofs
def je (a b:List aI):Bool:=a.any (gm b)
def jX:List cu->aI->Option Tm
 |[],_=>none
 |a::s,v=>cond (CX a.v v) (some a.t) (jX s v)
mutual
def ig (s:List cu):Tm->Tm
 |.var p x=>(jX s (p,x)).getD (.var p x)
 |.dV o=> .dV o
 |.app p x ts=> .app p x (wu s ts)
def wu (s:List cu):List Tm->List Tm
 |[]=>[]
 |t::ts=>ig s t::wu s ts
end
theorem Iz (s:List cu):∀ts:List Tm,wu s ts=ts.map (ig s)
 |[]=>rfl
 |t::ts=>by rw [wu,Iz s ts];rfl
theorem EP:∀{s:List cu} {v:aI} {t:Tm},jX s v=some t->∃a∈s,a.t=t
 |[],v,t,h=>by cases h
 |a::s,v,t,h=>by
  simp only [jX] at h;cases he:CX a.v v with
  |true=>rw [he] at h;exact ⟨a,by simp,by simpa using h⟩
  |false=>
   rw [he] at h;obtain ⟨b,hb,e⟩:=EP (s:=s) h;exact ⟨b,by simp [hb],e⟩
section
variable {nat:Nat->List V->Option (List V)}
theorem ZJ (xs:List aI) (hm:xs.length < 100000) (p:aI):∀(m k:Nat),k+m=xs.length->
  bR (T nat).G 65 0 [.c (rows bP xs),.c (ci k),.l (bP p)]=some ([.one (cb (gm (xs.drop k) p))],[])
 |0,k,hk=>by
  have hlt:¬((k:Int) < (xs.length:Int)):=by omega
  rw [aF X0 (t:=t65.heads[0]) rfl,bG (by omega)]
  simp [t65,zZ,hlt,eH,gm]
 |m+1,k,hk'=>by
  have hkr:k < xs.length:=by omega
  have hlt:((k:Int) < (xs.length:Int)):=by omega
  have hs:=bn k (by omega)
  have hi:=ZJ xs hm p m (k+1) (by omega)
  have hd:gm (xs.drop k) p=(CX p xs[k]||gm (xs.drop (k+1)) p):=by rw [drop_at hkr];rfl
  rw [hd,aF X0 (t:=t65.heads[0]) rfl];have he:=aeQ xs[k] p;cases hb:CX p xs[k]<;>rw [hb] at he<;>simp [-Int.natCast_add,t65,zZ,hlt,eH,oK hkr,he,hs,hi,jP,hb]
theorem x65 (xs:List aI) (hm:xs.length < 100000) (p:aI):bq (T nat).G 65 [.v (.one (rows bP xs)),.v (.agg (bP p))] []=some ([.one (cb (gm xs p))],[]):=by
 have h3:=ZJ (nat:=nat) xs hm p xs.length 0 (by omega)
 simp only [C4,D1] at h3;rw [aQ X0];simp [t65,zZ,h3,jP]
theorem aai (a b:List aI) (ha:a.length < 100000) (hb:b.length < 100000):∀(m k:Nat),k+m=a.length->
  bR (T nat).G 59 0 [.c (rows bP a),.c (rows bP b),.c (ci k)]=some ([.one (cb (je (a.drop k) b))],[])
 |0,k,hk=>by
  have hlt:¬((k:Int) < (a.length:Int)):=by omega
  rw [aF Xq (t:=t59.heads[0]) rfl,bG (by omega)]
  simp [t59,zZ,hlt,eH,je]
 |m+1,k,hk'=>by
  have hkr:k < a.length:=by omega
  have hlt:((k:Int) < (a.length:Int)):=by omega
  have hs:=bn k (by omega)
  have hi:=aai a b ha hb m (k+1) (by omega)
  have hy:=x65 (nat:=nat) b hb a[k];have hd:je (a.drop k) b=(gm b a[k]||je (a.drop (k+1)) b):=by rw [drop_at hkr];rfl
  rw [hd,aF Xq (t:=t59.heads[0]) rfl];cases hc:gm b a[k]<;>rw [hc] at hy<;>simp [-Int.natCast_add,t59,zZ,hlt,eH,oK hkr,hy,hs,hi,jP,hc]
theorem x59 (a b:List aI) (ha:a.length < 100000) (hb:b.length < 100000):bq (T nat).G 59 [.v (.one (rows bP a)),.v (.one (rows bP b))] []=some ([.one (cb (je a b))],[]):=by
 have h3:=aai (nat:=nat) a b ha hb a.length 0 (by omega)
 simp only [C4,D1] at h3;rw [aQ Xq];simp [t59,zZ,h3]
def zTm:List C:=[ci 0,ce,ce,ci 0,ce,ce,ce,ce,ce,cz,cz]
def Pk (s:List cu) (v:aI):List V:=match jX s v with|some t=>[.agg (aa t),.one (cb true)]|none=>[.agg zTm,.one (cb false)]
theorem AL {s:List cu} {k:Nat} (h:k < s.length):fI 13 (rows cK s) (ci k)=some (cs s[k].v.1::cs s[k].v.2::aa s[k].t):=jE Ve (A6 h)
theorem Va (s:List cu) (hm:s.length < 100000) (v:aI):∀(m k:Nat),k+m=s.length->
  bR (T nat).G 138 0 [.c (rows cK s),.c (ci k),.l (bP v),.c (ci 0),.c (ce),.c (ce),.c (ci 0),.c (ce),.c (ce),.c (ce),.c (ce),.c (ce),.c cz,.c cz]=some (Pk (s.drop k) v,[])
 |0,k,hk=>by
  have hlt:¬((k:Int) < (s.length:Int)):=by omega
  rw [aF SN (t:=t138.heads[0]) rfl,bG (by omega)]
  simp [t138,zZ,hlt,aG,Pk,jX,zTm]
 |m+1,k,hk'=>by
  have hkr:k < s.length:=by omega
  have hlt:((k:Int) < (s.length:Int)):=by omega
  have hs:=bn k (by omega)
  have hi:=Va s hm v m (k+1) (by omega)
  have he:Ea [1,1] false [cs s[k].v.1,cs s[k].v.2] (bP v)=some (cb (CX s[k].v v)):=wM false _ _ _ _;rw [drop_at hkr,aF SN (t:=t138.heads[0]) rfl];cases hb:CX s[k].v v with
  |true=>
   rw [hb] at he;have h11:=nH s[k].t;simp [-Int.natCast_add,t138,zZ,hlt,aG,AL hkr,he,jP,Pk,jX,hb,af,h11]
  |false=>
   rw [hb] at he;have hr:Pk (s[k]::s.drop (k+1)) v=Pk (s.drop (k+1)) v:=by simp only [Pk,jX,hb,Ek]
   rw [hr];simp [-Int.natCast_add,t138,zZ,hlt,aG,AL hkr,he,hs,jP,hi]
theorem arV (s:List cu) (hm:s.length < 100000) (v:aI):bq (T nat).G 138 [.v (.one (rows cK s)),.v (.agg (bP v))] []=some (Pk s v,[]):=by
 have h3:=Va (nat:=nat) s hm v s.length 0 (by omega)
 simp only [C4,D1] at h3;rw [aQ SN];simp [t138,zZ,h3,jP]
theorem V8 (s:List cu) (ts:List Tm) (hn:ts.length < 100000) (ih:∀t∈ts,bq (T nat).G 77 [.v (.agg (aa t)),.v (.one (rows cK s))] []=some ([.agg (aa (ig s t))],[])):∀(m k:Nat) (acc:List Tm),k+m=ts.length->acc.length=k->
  bR (T nat).G 139 0 [.c (rows aa ts),.c (rows cK s),.c (ci k),.c (rows aa acc)]=some ([.one (rows aa (acc++wu s (ts.drop k)))],[])
 |0,k,acc,hk,ha=>by
  have hlt:¬((k:Int) < (ts.length:Int)):=by omega
  rw [aF Tx (t:=t139.heads[0]) rfl,bG (by omega)]
  simp [t139,zZ,hlt,wm,wu]
 |m+1,k,acc,hk',ha=>by
  have hkr:k < ts.length:=by omega
  have hlt:((k:Int) < (ts.length:Int)):=by omega
  have hs:=bn k (by omega)
  have hi:=V8 s ts hn ih m (k+1) (acc++[ig s ts[k]]) (by omega) (by simp;omega)
  have hy:=ih ts[k] (By hkr);have hap:=BB (acc:=acc) (x:=ig s ts[k]) (by omega)
  have hl:=ku (ig s ts[k]);rw [drop_at hkr,aF Tx (t:=t139.heads[0]) rfl,wu];simp [-Int.natCast_add,t139,zZ,hlt,wm,jd hkr,hy,hl,hap,hs,hi,af]
theorem x77 (s:List cu) (hm:s.length < 100000):∀(n:Nat) (t:Tm),ah t<=n->n<=3000->bq (T nat).G 77 [.v (.agg (aa t)),.v (.one (rows cK s))] []=some ([.agg (aa (ig s t))],[])
 |0,t,hn,_=>by have:=dY t;omega
 |n+1,t,hn,h3=>by
  rw [aQ aly];cases t with
  |var p x=>
   have h1:bq (T nat).G 138 [.v (.one (rows cK s)),.v (.agg [cs p,cs x])] []=some (Pk s (p,x),[]):=arV (nat:=nat) s hm (p,x);cases ha:jX s (p,x) with
   |none=>simp only [Pk,ha] at h1;simp [t77,zZ,aa,ig,ha,h1,zTm]
   |some y=>simp only [Pk,ha] at h1;simp [t77,zZ,aa,ig,ha,h1,af]
  |dV o=>
   have e0:ak (aa (.dV o)) 0=ci 2:=by rw [kg];rfl
   simp [t77,zZ,e0,af,ig]
  |app p x ts=>
   have hnd:ah (.app p x ts)=1+au ts:=rfl;have hlen:=nD ts;have h1:=V8 (nat:=nat) s ts (by omega) (fun y hy=>x77 s hm n y (by have:=nC hy;omega) (by omega)) ts.length 0 [] (by omega) rfl
   simp only [C4,D1,Bt,E2] at h1;have h2:bq (T nat).G 139 [.v (.one (rows aa ts)),.v (.one (rows cK s))] []=some ([.one (rows aa (wu s ts))],[]):=by rw [aQ Tx];simp [t139,zZ,h1]
   have h4:=x54 (nat:=nat) p x (wu s ts);simp [t77,zZ,di,h2,h4,ig]
mutual
def TP:Tm->List aI
 |.var p s=>[(p,s)]
 |.dV _=>[]
 |.app _ _ ts=>Fw ts
def Fw:List Tm->List aI
 |[]=>[]
 |t::ts=>TP t++Fw ts
end
theorem XV (out acc:List aI) (p:aI):(kJ acc p).foldl kJ out=kJ (acc.foldl kJ out) p:=by
 cases h:gm acc p with
 |true=>
  have e:kJ acc p=acc:=by simp [kJ,h]
  have h2:gm (acc.foldl kJ out) p=true:=xY.2 ((EZ acc out p).2 (.inr (xY.1 h)));rw [e];simp [kJ,h2]
 |false=>
  have e:kJ acc p=acc++[p]:=by simp [kJ,h]
  rw [e,List.foldl_append];rfl
theorem K8 (out:List aI):∀(l acc:List aI),(l.foldl kJ acc).foldl kJ out=l.foldl kJ (acc.foldl kJ out)
 |[],acc=>rfl
 |p::l,acc=>by rw [It,K8 out l,XV,It]
mutual
theorem Zq:∀(t:Tm) (xs:List aI),Gn 1 xs t=(TP t).foldl kJ xs
 |.var p s,xs=>by simp only [Gn,Gy,Go.Proofs.fZ,aN,TP,It,List.foldl_nil,kJ,decide_true,Bool.true_and];cases gm xs (p,s)<;>rfl
 |.dV o,xs=>by simp [Gn,Gy,Go.Proofs.fZ,TP]
 |.app p s ts,xs=>by rw [Gn,TP,<-yV ts];simp [Gy,Go.Proofs.fZ]
theorem yV:∀(ts:List Tm) (xs:List aI),bT 1 xs ts=(Fw ts).foldl kJ xs
 |[],xs=>rfl
 |t::ts,xs=>by rw [bT,yV ts,Zq t,Fw,List.foldl_append]
end
def Jt:Tm->List aI
 |.var p s=>[(p,s)]
 |.dV _=>[]
 |.app _ _ ts=>bT 1 [] ts
theorem Wt (t:Tm) (xs:List aI):(Jt t).foldl kJ xs=Gn 1 xs t:=by
 rw [Zq];cases t with
 |var p s=>rfl
 |dV o=>rfl
 |app p s ts=>rw [Jt,yV,K8];rfl
theorem adC (t:Tm):(Jt t).length<=ah t:=by
 cases t with
 |var p s=>simp [Jt,ah]
 |dV o=>simp [Jt]
 |app p s ts=>have:=jr 1 ts [];simp only [Jt,ah,G3] at *;omega
theorem ajG (h':Nat) (ts:List Tm) (i:Nat) (found:List aI) (hf:found.length < 100000)
  (hd:∀(k:Nat) (out:List aI),k < found.length->out.length+(found.length - k) < 100000->
   bR (T nat).G 90 h' [.c (rows aa ts),.c (ci i),.c (rows bP found),.c (ci k),.c (rows bP out)]=bR (T nat).G 90 h' [.c (rows aa ts),.c (ci i),.c (rows bP found),.c (ci ((k+1:Nat):Int)),.c (rows bP (kJ out found[k]!))])
  (he:∀out:List aI,bR (T nat).G 90 h' [.c (rows aa ts),.c (ci i),.c (rows bP found),.c (ci found.length),.c (rows bP out)]=bR (T nat).G 90 0 [.c (rows aa ts),.c (ci ((i+1:Nat):Int)),.c (rows bP out)]):∀(m k:Nat) (out:List aI),k+m=found.length->out.length+m < 100000->
  bR (T nat).G 90 h' [.c (rows aa ts),.c (ci i),.c (rows bP found),.c (ci k),.c (rows bP out)]=bR (T nat).G 90 0 [.c (rows aa ts),.c (ci ((i+1:Nat):Int)),.c (rows bP ((found.drop k).foldl kJ out))]
 |0,k,out,hk,ho=>by
  obtain rfl:k=found.length:=by omega
  rw [he,List.drop_length];rfl
 |m+1,k,out,hk,ho=>by
  have hkr:k < found.length:=by omega
  have hal:=U7 out found[k];have e:found[k]! =found[k]:=by simp [hkr]
  rw [hd k out hkr (by omega),e,ajG h' ts i found hf hd he m (k+1) _ (by omega) (by omega),drop_at hkr,It]
theorem afc (ts:List Tm) (i:Nat) (hi':i < 100000) (found:List aI) (hf:found.length < 10000) (out:List aI) (ho:out.length+found.length < 100000):
  bR (T nat).G 90 2 [.c (rows aa ts),.c (ci i),.c (rows bP found),.c (ci 0),.c (rows bP out)]=bR (T nat).G 90 0 [.c (rows aa ts),.c (ci ((i+1:Nat):Int)),.c (rows bP (found.foldl kJ out))]:=by
 have h:=ajG (nat:=nat) 2 ts i found (by omega) (fun k out hk ho=>?_) (fun out=>?_) found.length 0 out (by omega) (by omega)
 ·simpa using h
 ·have hlt:((k:Int) < (found.length:Int)):=by omega
  have hs:=bn k (by omega)
  have hy:=x151 (nat:=nat) out (by omega) found[k]
  have e:found[k]! =found[k]:=by simp [hk]
  rw [e,aF Cu (t:=t90.heads[2]) rfl];cases hb:gm out found[k] with
  |true=>
   have ha:kJ out found[k]=out:=by simp [kJ,hb]
   rw [hb] at hy;rw [ha];simp [-Int.natCast_add,t90,zZ,hlt,eH,oK hk,hy,hs,jP]
  |false=>
   have ha:kJ out found[k]=out++[found[k]]:=by simp [kJ,hb]
   have hl:fK 2 1 [ak (bP found[k]) 0,ak (bP found[k]) 1]=some (.slice (bP found[k]) 1):=Rf _ _;have hp:=rF (acc:=out) (x:=found[k]) (by omega)
   rw [hb] at hy;rw [ha];simp [-Int.natCast_add,t90,zZ,hlt,eH,oK hk,hy,hs,jP,hl,hp]
 ·have hs:=bn i (by omega)
  rw [aF Cu (t:=t90.heads[2]) rfl];simp [-Int.natCast_add,t90,zZ,eH,hs]
theorem akD (ts:List Tm) (i:Nat) (hi':i < 100000) (p:aI) (out:List aI) (ho:out.length < 90000):
  bR (T nat).G 90 1 [.c (rows aa ts),.c (ci i),.c (ci 0),.c (rows bP out),.c (rows bP [p])]=bR (T nat).G 90 0 [.c (rows aa ts),.c (ci ((i+1:Nat):Int)),.c (rows bP (kJ out p))]:=by
 have aoK:∀out:List aI,bR (T nat).G 90 1 [.c (rows aa ts),.c (ci i),.c (ci 1),.c (rows bP out),.c (rows bP [p])]=bR (T nat).G 90 0 [.c (rows aa ts),.c (ci ((i+1:Nat):Int)),.c (rows bP out)]:=fun out=>by
  have hs:=bn i (by omega)
  rw [aF Cu (t:=t90.heads[1]) rfl];simp [-Int.natCast_add,t90,zZ,eH,hs]
 have hs0:bW .add false (ci 0) (ci 1)=some (ci 1):=bn 0 (by omega)
 have hy:=x151 (nat:=nat) out (by omega) p
 have hr:fI 2 (rows bP [p]) (ci 0)=some (bP p):=jE jP (k:=0) rfl;rw [aF Cu (t:=t90.heads[1]) rfl];cases hb:gm out p with
 |true=>
  have ha:kJ out p=out:=by simp [kJ,hb]
  rw [hb] at hy;have he:=aoK out;rw [ha];simp [-Int.natCast_add,t90,zZ,eH,hr,hy,hs0,jP,he]
 |false=>
  have ha:kJ out p=out++[p]:=by simp [kJ,hb]
  have hl:fK 2 1 [ak (bP p) 0,ak (bP p) 1]=some (.slice (bP p) 1):=Rf _ _;have hp:=rF (acc:=out) (x:=p) (by omega)
  rw [hb] at hy;have he:=aoK (out++[p]);rw [ha];simp [-Int.natCast_add,t90,zZ,eH,hr,hy,hs0,jP,hl,hp,he]
theorem UI (ts:List Tm) (hn:au ts<=60000) (ih:∀t∈ts,(∀p s,t≠.var p s)->bq (T nat).G 90 [.v (.one (rows aa (ai t)))] []=some ([.one (rows bP (Jt t))],[])) (hb:∀t∈ts,ah t<=3000):∀(m k:Nat) (out:List aI),k+m=ts.length->out.length+au (ts.drop k) < 80000->
  bR (T nat).G 90 0 [.c (rows aa ts),.c (ci k),.c (rows bP out)]=some ([.one (rows bP (bT 1 out (ts.drop k)))],[])
 |0,k,out,hk,ho=>by
  have hlt:¬((k:Int) < (ts.length:Int)):=by omega
  rw [aF Cu (t:=t90.heads[0]) rfl,bG (by omega)]
  simp [t90,zZ,hlt,wm,bT]
 |m+1,k,out,hk',ho=>by
  have hkr:k < ts.length:=by omega
  have hlen:=nD ts;have hlt:((k:Int) < (ts.length:Int)):=by omega
  rw [drop_at hkr] at ho;simp only [au] at ho;have hmem:ts[k]∈ts:=By hkr;have hfl:=adC ts[k];have hal:=E9 (Jt ts[k]) out;have hbk:=hb _ hmem;have hi:=UI ts hn ih hb m (k+1) (Gn 1 out ts[k]) (by omega) (by rw [<-Wt];omega)
  rw [drop_at hkr,bT,<-hi,<-Wt,aF Cu (t:=t90.heads[0]) rfl];have hr:=jd hkr;cases ht:ts[k] with
  |var p s=>
   rw [ht] at hr;have h1:=akD (nat:=nat) ts k (by omega) (p,s) out (by omega)
   have hl:fK 2 1 [cs p,cs s]=some (rows bP [(p,s)]):=Rf _ _;simp [-Int.natCast_add,t90,zZ,hlt,wm,hr,aa,af,hl,Jt,h1]
  |dV o=>
   rw [ht] at hr;have hr':fI 11 (rows aa ts) (ci k)=some (ci 2::(aa (.dV o)).tail):=by rw [hr,kg];rfl
   have hy:=ih ts[k] hmem (by rw [ht];intro p s h;cases h)
   rw [ht] at hy;have hy':bq (T nat).G 90 [.v (.one cz)] []=some ([.one (rows bP [])],[]):=hy;have h2:=afc (nat:=nat) ts k (by omega) [] (by simp) out (by simp;omega)
   have h5:bq (T nat).G 150 [.v (.agg (ci 2::(aa (.dV o)).tail))] []=some ([.one cz],[]):=by rw [aQ Z4];simp [t150,zZ,af]
   simp [-Int.natCast_add,t90,zZ,hlt,wm,hr',af,h5,hy',Jt] at h2 |-;simp [h2]
  |app p s us=>
   rw [ht] at hr hfl hbk;have hy:=ih ts[k] hmem (by rw [ht];intro p s h;cases h)
   rw [ht] at hy;have hy':bq (T nat).G 90 [.v (.one (rows aa us))] []=some ([.one (rows bP (Jt (.app p s us)))],[]):=hy;have h2:=afc (nat:=nat) ts k (by omega) (Jt (.app p s us)) (by omega) out (by omega)
   have h5:bq (T nat).G 150 [.v (.agg (aa (.app p s us)))] []=some ([.one (rows aa us)],[]):=by rw [aQ Z4];simp [t150,zZ,di]
   rw [di] at hr h5;simp [-Int.natCast_add,t90,zZ,hlt,wm,hr,h5,hy',h2]
theorem x90:∀(n:Nat) (ts:List Tm),(∀t∈ts,ah t<=n)->n<=3000->au ts<=60000->bq (T nat).G 90 [.v (.one (rows aa ts))] []=some ([.one (rows bP (bT 1 [] ts))],[])
 |n,ts,hb,hn,hs=>by
  have h1:=UI (nat:=nat) ts hs (fun t ht hv=>by
   have hbt:=hb t ht;have hp:=dY t;cases t with
   |var p s=>exact absurd rfl (hv p s)
   |dV o=>
    rw [aQ Cu];have h0:bR (T nat).G 90 0 [.c cz,.c (ci 0),.c cz]=some ([.one (rows bP [])],[]):=by rw [aF Cu (t:=t90.heads[0]) rfl];simp [t90,zZ,rows]
    simp [t90,zZ,h0,ai,Jt];exact h0
   |app p s us=>
    have hnd:ah (.app p s us)=1+au us:=rfl;have:=x90 (n - 1) us (fun y hy=>by have:=nC hy;omega) (by omega) (by omega)
    exact this) (fun t ht=>by have:=hb t ht;omega) ts.length 0 [] (by omega) (by simp;omega)
  simp only [C4,D1,Bt] at h1;rw [aQ Cu];simp [t90,zZ,h1]
termination_by n ts=>n
decreasing_by
 have h0:=hb _ ht;have:ah (.app p s us)=1+au us:=rfl
 omega
end
end Go.Ey.Pr
