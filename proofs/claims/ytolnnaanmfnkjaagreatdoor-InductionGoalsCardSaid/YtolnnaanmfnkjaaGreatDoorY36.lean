/- A part. -/
import Derived.Test.YtolnnaanmfnkjaaGreatDoorY33
import Derived.Test.YtolnnaanmfnkjaaGreatDoorY34
import Derived.Maps.Own
import Derived.Maps.OwnSet
set_option linter.all false
namespace Go.Proofs
open Go.RowKit Go.Ey Go.Ey.Pr Go.Ey.Seat
theorem Tryz.ajz (B:Nat) (S:Nat->Nat->Prop):∀t:Tm,N7 B S t
 |.var p s=>Tryz.alC B S p s
 |.eG o=>Tryz.akq B S o
 |.app p s ts=>Tryz.ak4 B S p s ts fun x _=>Tryz.ajz B S x
theorem Qr {w:World} {Sf:Nat->Nat->Prop}:∀{cs:List C} {us:List Value} {b o:Nat},Ey.aF (cK w Sf) cs us->(∀j u,us[j]?=some u->w.cell? ⟨b,o+j,none⟩=some u)->(∀j,Sf b j)->fK w Sf cs b o:=
 fun h hc hs=>Jo h fun i u hi=>⟨hc i u hi,hs _⟩
theorem jc.rep {S:Nat->Nat->Prop} {v:Value} {ts:List Tm} {w w':World} (h:jc w.heap.size S v ts w'):cK w' (fun b o=>b < w.heap.size->S b o) (.slice (fF ts) ts.length) v:=by
 obtain ⟨xs,h1,h2⟩:=h.row;have h1':=h1;rcases h1.2 with ⟨rfl,h0⟩|⟨g,cap,cur,rfl,hg,hgg,_,hcap,_⟩
 ·have:ts=[]:=E7 h0
  subst this;exact .inl ⟨rfl,rfl,rfl⟩
 ·refine .inr ⟨⟨g,0,none⟩,cap,rfl,by omega,fun _=>rfl,?_⟩
  refine Qr (us:=xs) (h2.mono fun c u hr=>cK.mono (fun k o v hc hk=>⟨hc,fun _=>hk.2⟩) c u hr) (fun j u hj=>?_) fun j (hlt:g < w.heap.size)=>absurd hlt (by omega)
  have:=h1'.cells (g:=g) rfl _ _ hj
  rw [Addr.add_lit] at this;exact this
theorem jc.nil {B:Nat} {S:Nat->Nat->Prop} {w:World} (hB:B<=w.heap.size):jc B S (.slice none 0 0) [] w:=⟨⟨[],World.ownsRow_nil _ _ _ _,trivial⟩,hB⟩
set_option maxRecDepth 100000 in
set_option maxHeartbeats 2000000 in
theorem Tryz.aoE (ts:List Tm) (S:Nat->Nat->Prop) (q:Option Addr) (d:Nat) (w:World) (hok:∀x∈ts,GA x) (hsz:aJ ts<=90000) (hk:keeps.Inv w.heap.size w) (hargs:AQ w.heap.size S ts q w):
  Calls Tryz.prog 44 #[.slice q ts.length d] w fun e w'=>∃v',e=.returned v'/\jc w.heap.size S v' (j6 [] ts) w'/\Below w.heap.size w w':=by
 have hnt:ts.length<=90000:=by have:=yw ts;omega
 go_enter Tryz.func44,Tryz.ntmps44;go_wp2;go_loopw [3,4] (fun vz i wy=>∃kk:Nat,kk<=ts.length/\i=.int .i64 kk/\jc w.heap.size S vz (j6 [] (ts.take kk)) wy/\SK (.slice none 0 0) vz w wy) (fun _ i _=>ts.length - (intOf i).toNat)
 case atStart=>exact ⟨0,Ft _,rfl,jc.nil (B9 _),SK.refl _ _⟩
 case round=>
  obtain ⟨kk,hkk,rfl,Ka,Qf⟩:=hrel;have DZ:Below w.heap.size w wr:=Qf.below (B9 _) fun j hj=>by simp [Value.ownBlock] at hj
  by_cases hx2:kk < ts.length
  ·obtain ⟨y,hyk⟩:∃y,ts[kk]?=some y:=⟨_,Ax hx2⟩;have hym:=C7 hyk;obtain ⟨bk,o,HV,rfl,hyu,Qv⟩:=hargs.get DZ hyk;obtain ⟨y0,y1,y2,y3,y4,y5,y6,y7,y8,yp,yl,yc,yq,ym,yd,rfl⟩:=dF (Bp.rb hyu);obtain ⟨e0,e1,e2,e3,e4,e5,e6,e7,e8,e9,e10⟩:=Yh Qv;clear Qv;have hn1:=xk hyk;have hn2:=wz (ts.take kk) [];have c2:=(Tryz.ajz w.heap.size S y).use Ka (keeps.keep DZ hk) (CG (fun x hx=>by cases hx) fun x hx=>hok x (I2 hx)) (hok y hym) (by simp only [F2] at hn2;omega) hyu
   go_wp2_with (go_at_call 119;refine c2.mono ?_);rintro e w3 ⟨v3,rfl,t3,s3⟩;go_wp2;go_roundw
   case rel=>exact ⟨kk+1,by omega,by simp,by rw [nJ hyk,AV];exact t3,Qf.trans s3⟩
   case measure=>simp [intOf];omega
  ·obtain rfl:kk=ts.length:=by omega
   rw [I0] at Ka;go_wp2;go_ret;exact ⟨_,rfl,Ka,DZ⟩
end Go.Proofs
set_option maxHeartbeats 4000000
namespace Go.Ey.Pr
open Go Go.Ey Go.Ey.Seat Go.RowKit Go.Proofs
theorem aoJ {ts:List Tm} (hok:∀x∈ts,GA x) (hsz:aJ ts<=90000):oq PP 44 [.one (rows af ts)] [.one (rows af (j6 [] ts))]:=by
 rw [show rows af ts=.slice (fF ts) ts.length by rw [jG];rfl,show rows af (j6 [] ts)=.slice (fF (j6 [] ts)) (j6 [] ts).length by rw [jG];rfl]
 refine ⟨M0 (by kernel_rfl),fun S w us hinv hall=>?_⟩
 match us,hall with
 |[u],⟨hu,_⟩=>
  have hu':RQ w w.heap.size S (.slice (fF ts) ts.length) u:=cK.mono (fun k o v hc h=>⟨hc,World.block_lt_of_cell? _ _ hc,h⟩) _ u hu
  obtain ⟨q,m,d,rfl⟩:∃q m d,u=.slice q m d:=by rcases hu' with ⟨rfl,_⟩|⟨a,cap,rfl,_⟩<;>exact ⟨_,_,_,rfl⟩
  obtain ⟨rfl,hargs⟩:=argsAt hu';refine Calls.mono (Tryz.aoE ts S q d w hok hsz hinv hargs) ?_;rintro e w' ⟨v,rfl,htr,hb⟩;exact ⟨v,rfl,htr.rep,hb⟩
end Go.Ey.Pr
namespace Go.Proofs
open Go.RowKit Go.Ey Go.Ey.Pr Go.Ey.Seat
theorem jc.some {B:Nat} {S:Nat->Nat->Prop} {v:Value} {ts:List Tm} {w:World} (h:jc B S v ts w):cK w (fun _ _=>True) (.slice (fF ts) ts.length) v:=by
 obtain ⟨xs,h1,h2⟩:=h.row;have h1':=h1;rcases h1.2 with ⟨rfl,h0⟩|⟨g,cap,cur,rfl,hg,hgg,_,hcap,_⟩
 ·have:ts=[]:=E7 h0
  subst this;exact .inl ⟨rfl,rfl,rfl⟩
 ·refine .inr ⟨⟨g,0,none⟩,cap,rfl,by omega,fun _=>rfl,?_⟩
  refine Qr (us:=xs) (h2.mono fun c u hr=>cK.mono (fun k o v hc hk=>⟨hc,trivial⟩) c u hr) (fun j u hj=>?_) fun j=>trivial
  have:=h1'.cells (g:=g) rfl _ _ hj
  rw [Addr.add_lit] at this;exact this
theorem Tryz.ara {B:Nat} {S:Nat->Nat->Prop} {v:Value} {l:List Tm} {t:Tm} {us:List Value} {w:World} (hm:l.length < 100000) (hok:Al l) (hk:keeps.Inv w.heap.size w) (hr:jc B S v l w) (hu:Ey.aF (RQ w B S) (af t) us):
  Calls Tryz.prog 127 #[v,.agg us.toArray] w fun e w'=>e=.returned (.bool (inT l t))/\Below w.heap.size w w':=by
 have hf:oq PP 127 [.one (rows af l),.agg (af t)] [.one (cb (inT l t))]:=ajV.fn (by kernel_rfl) (alN l hm hok t)
 rw [show rows af l=.slice (fF l) l.length by rw [jG];rfl] at hf
 refine (hf.2 (fun _ _=>True) w [v,.agg us.toArray] hk ⟨hr.some,⟨us,rfl,hu.mono fun c u hr=>cK.mono (fun k o v hc hk=>⟨hc,trivial⟩) c u hr⟩,trivial⟩).mono ?_
 rintro e w' ⟨v,rfl,hr,hb⟩;have:v=.bool (inT l t):=hr.1
 subst this;exact ⟨rfl,hb⟩
structure Hid (p:Prop):Prop where
 h:p
theorem Tryz.aok (w:World):Sem.run Tryz.prog (binOp .eql 28 (.slice none 0 0) (.slice none 0 0)) w=.ok (.bool true) w:=by kernel_rfl
theorem Tryz.amr (a:Addr) (n d:Nat) (w:World):Sem.run Tryz.prog (binOp .eql 28 (.slice (some a) n d) (.slice none 0 0)) w=.ok (.bool false) w:=by kernel_rfl
theorem Xm {w:World} {S:Nat->Nat->Prop} {cs:List C} {us:List Value} (h:Ey.aF (cK w S) cs us):∀u∈us,u.oneCell'=true:=aF.mem_right (fun _ _ h=>cK.oneCell h) h
set_option maxRecDepth 100000 in
set_option maxHeartbeats 2000000 in
theorem Tryz.alO (ts:List Tm) (S:Nat->Nat->Prop) (q:Option Addr) (d:Nat) (w:World) (hsz:ts.length<=90000) (hq:q=none->d=0/\ts=[]) (hargs:AQ w.heap.size S ts q w):
  Calls Tryz.prog 133 #[.slice q ts.length d] w fun e w'=>∃v',e=.returned v'/\jc w.heap.size S v' ts w'/\Below w.heap.size w w':=by
 cases q with
 |none=>
  obtain ⟨rfl,rfl⟩:=hq rfl;have hn:=Tryz.aok;go_enter Tryz.func133,Tryz.ntmps133;go_wp2;go_ret;exact ⟨_,rfl,jc.nil (B9 _),Below.refl _ _⟩
 |some ad=>
  obtain ⟨i0,hi,hz0,hz1,hz2⟩:=info_parts Tryz.La;obtain ⟨vs,hv1,hv2⟩:∃vs,Ey.aF (RQ w w.heap.size S) (fF ts) vs/\∀j u,vs[j]?=some u->w.cell? (ad.add j)=some u:=by
   by_cases hp:0 < ts.length
   ·obtain ⟨bk,o,vs,e,h1,h2⟩:=hargs.at' hp;injection e with e;subst e;exact ⟨vs,h1,fun j u hj=>by rw [Addr.add_lit];exact h2.cell j u hj⟩
   ·have:ts=[]:=E7 (by omega)
    subst this;exact ⟨[],trivial,fun j u hj=>by simp at hj⟩
  have hl:vs.length=ts.length * 11:=by rw [<-hv1.len,jG,oH ah]
  have hn:=Tryz.amr;go_enter Tryz.func133,Tryz.ntmps133;go_wp2_with (first
   |(at_builtin;refine wpList_append_own _ rfl _ _ 28 rfl w.heap.size 44 i0 _ 11 176 Tryz.underlying28 hi hz0 hz1 hz2 rfl (by decide) _ 0 [] rfl (World.ownsRow_made w #[] 0 (B9 _) (Ft _) rfl) ad ts.length d vs rfl hl ?c1 (Xm hv1) ?c3 ?c4 ?c5 ?_)
   |go_in)
  case c1=>
   intro j u hj;have:=hv2 j u hj
   rw [((Below.refl w.heap.size w).alloc (B9 _) _).cell (World.block_lt_of_cell? _ _ this)];exact this
  case c3=>unfold maxLen;omega
  case c4=>omega
  case c5=>simp
  ·intro v' w' ho hg _;go_wp2;go_ret;have b:Below w.heap.size w w':=((Below.refl w.heap.size w).alloc (B9 _) _).trans ⟨hg.os,hg.tape,hg.output,hg.size,fun k hk=>hg.block k (by simp;omega) (by simp [Value.ownBlock];omega)⟩
   refine ⟨_,rfl,⟨⟨vs,by simpa using ho,Bp.keep b hv1⟩,b.size⟩,b⟩
theorem RN (c:List Tm) (l:List Tm) (t:Tm):(l++[t]).foldl gX c=gX (l.foldl gX c) t:=by simp
theorem JC:∀(l c:List Tm),(l.foldl gX c).length<=c.length+l.length
 |[],c=>by simp
 |t::l,c=>by
  have h1:=JC l (gX c t);have h2:(gX c t).length<=c.length+1:=by unfold gX;split<;>simp
  simp only [Hh,Bm];omega
theorem Oa {l c:List Tm} {P:Tm->Prop} (hc:∀x∈c,P x) (hl:∀x∈l,P x):∀x∈l.foldl gX c,P x:=by
 induction l generalizing c with
 |nil=>exact hc
 |cons t l ih=>
  refine ih (fun x hx=>?_) fun x hx=>hl x (by simp [hx])
  unfold gX at hx;split at hx
  ·exact hc x hx
  ·rcases Bx.1 hx with h|h
   ·exact hc x h
   ·obtain rfl:x=t:=by simpa using h
    exact hl x (by simp)
set_option maxRecDepth 100000 in
set_option maxHeartbeats 4000000 in
theorem Tryz.art (cl ts:List Tm) (S:Nat->Nat->Prop) (p q:Option Addr) (f d:Nat) (w:World) (amO:Al cl) (hok:Al ts) (hsz:cl.length+ts.length<=90000) (hk:keeps.Inv w.heap.size w)
  (hp:p=none->f=0/\cl=[]) (hcl:AQ w.heap.size S cl p w) (hargs:AQ w.heap.size S ts q w):
  Calls Tryz.prog 72 #[.slice p cl.length f,.slice q ts.length d] w fun e w'=>∃v',e=.returned v'/\jc w.heap.size S v' (ts.foldl gX cl) w'/\Below w.heap.size w w':=by
 have c0:=Tryz.alO cl S p f w (by omega) hp hcl
 go_enter Tryz.func72,Tryz.ntmps72;go_wp2_with (go_at_call 133;refine c0.mono ?_);rintro e w0 ⟨v0,rfl,t0,b0⟩;go_wp2;go_loopw [5,12] (fun vz i wy=>∃kk:Nat,kk<=ts.length/\i=.int .i64 kk/\jc w.heap.size S vz ((ts.take kk).foldl gX cl) wy/\SK v0 vz w0 wy) (fun _ i _=>ts.length - (intOf i).toNat)
 case atStart=>exact ⟨0,Ft _,rfl,t0,SK.refl _ _⟩
 case round=>
  obtain ⟨kk,hkk,rfl,Ka,Qf⟩:=hrel;have DZ:Below w.heap.size w wr:=b0.trans (Qf.below t0.le fun j hj=>(t0.own j hj).1)
  by_cases hx2:kk < ts.length
  ·obtain ⟨y,hyk⟩:∃y,ts[kk]?=some y:=⟨_,Ax hx2⟩;have hym:=C7 hyk;obtain ⟨bk,o,HV,rfl,hyu,Qv⟩:=hargs.get DZ hyk;obtain ⟨y0,y1,y2,y3,y4,y5,y6,y7,y8,yp,yl,yc,yq,ym,yd,rfl⟩:=dF (Bp.rb hyu);obtain ⟨e0,e1,e2,e3,e4,e5,e6,e7,e8,e9,e10⟩:=Yh Qv;clear Qv;obtain ⟨L,hLL⟩:∃L,Hid (L=(ts.take kk).foldl gX cl):=⟨_,⟨rfl⟩⟩;rw [<-hLL.h] at Ka;have hLl:L.length<=cl.length+kk:=by have:=JC (ts.take kk) cl;rw [hLL.h];rw [Fo] at this;omega
   have hLo:Al L:=by rw [hLL.h];exact Oa amO fun x hx=>hok x (I2 hx)
   obtain ⟨wb,hwb⟩:∃wb,wb=wr.alloc (.cells #[.int .i64 y0,.string y1,.string y2,.int .i64 y3,.string y4,.string y5,.string y6,.string y7,.string y8,.slice yp yl yc,.slice yq ym yd] 44):=⟨_,rfl⟩;have bb:Below wr.heap.size wr wb:=by rw [hwb];exact (Below.refl _ wr).alloc (B9 _) _
   have hsb:wb.heap.size=wr.heap.size+1:=by rw [hwb];simp
   have hcb:wb.heap[wr.heap.size]?=some (.cells #[.int .i64 y0,.string y1,.string y2,.int .i64 y3,.string y4,.string y5,.string y6,.string y7,.string y8,.slice yp yl yc,.slice yq ym yd] 44):=by
    rw [hwb];show (wr.heap.push _)[wr.heap.size]?=_
    simp
   have asX:Below w.heap.size w wb:=DZ.trans (bb.mono Ka.le);have trb:=Ka.kept bb;have ch:=Tryz.ara (B:=w.heap.size) (S:=S) (t:=y) (by omega) hLo (keeps.mono trb.le (keeps.keep asX hk)) trb (Bp.keep (bb.mono Ka.le) hyu)
   obtain ⟨d0,d1,d2,d3,d4,d5,d6,d7,d8,d9,d10⟩:=amb hcb;obtain ⟨ao,cap,rfl,hao⟩:=Ka.shape;cases hM:inT L y with
   |true=>
    rw [hM] at ch;go_wp2_with (go_at_call 127;rw [<-hwb];refine ch.mono ?_);rintro e w2 ⟨rfl,b2⟩;go_wp2;go_roundw
    case rel=>exact ⟨kk+1,by omega,by simp,by rw [nJ hyk,RN,<-hLL.h,gX,C4 hM];exact trb.kept b2,Qf.trans ((SK.dY bb).trans (SK.dY b2))⟩
    case measure=>simp [intOf];omega
   |false=>
    rw [hM] at ch;obtain ⟨i0,hi,hz0,hz1,hz2⟩:=info_parts Tryz.La;go_wp2_with (go_at_call 127;rw [<-hwb];refine ch.mono ?_);rintro e w2 ⟨rfl,b2⟩;have tr2:=trb.kept b2;obtain ⟨xs,ho,hxs⟩:=tr2.row;have aqF:Below w.heap.size wr w2:=(bb.mono Ka.le).trans (b2.mono trb.le);obtain ⟨f0,f1,f2,f3,f4,f5,f6,f7,f8,f9,f10⟩:=asa b2 (show wr.heap.size < wb.heap.size by omega) ⟨d0,d1,d2,d3,d4,d5,d6,d7,d8,d9,d10⟩
    clear d0 d1 d2 d3 d4 d5 d6 d7 d8 d9 d10;go_wp2_with (first
     |(at_builtin;refine wpList_append_lies _ rfl _ _ 28 rfl w.heap.size 44 i0 _ 11 176 Tryz.underlying28 hi hz0 hz1 hz2 rfl (by decide) _ _ xs rfl (ho.alloc _) ⟨w2.heap.size,0,none⟩ 1 1 [.int .i64 y0,.string y1,.string y2,.int .i64 y3,.string y4,.string y5,.string y6,.string y7,.string y8,.slice yp yl yc,.slice yq ym yd] rfl rfl ?c1 ?c2 (by omega) ?c3 ?c4 ?c5 _ rfl ?_)
     |go_in)
    case c1=>exact World.news_of_block (cs:=#[.int .i64 y0,.string y1,.string y2,.int .i64 y3,.string y4,.string y5,.string y6,.string y7,.string y8,.slice yp yl yc,.slice yq ym yd]) (t:=44) (fr:=(0,0)) (heap_alloc_new w2 _)
    case c2=>exact Xm hyu
    case c3=>unfold maxLen;omega
    case c4=>omega
    case c5=>have:=tr2.le;simp;omega
    ·intro g' cap' w' ho' hg' hat hlt;obtain ⟨ht,hk'⟩:=jc.pushed tr2 hxs (Bp.keep aqF hyu) ho' hg' hat;clear ho' hg' hat f0 f1 f2 f3 f4 f5 f6 f7 f8 f9 f10;go_wp2;go_roundw
     case rel=>exact ⟨kk+1,by omega,by simp,by rw [nJ hyk,RN,<-hLL.h,gX,Dd (by rw [hM];simp)];exact ht,Qf.trans ((SK.dY bb).trans ((SK.dY b2).trans hk'))⟩
     case measure=>simp [intOf];omega
  ·obtain rfl:kk=ts.length:=by omega
   rw [I0] at Ka;go_wp2;go_ret;exact ⟨_,rfl,Ka,DZ⟩
end Go.Proofs
set_option maxHeartbeats 4000000
namespace Go.Ey.Pr
open Go Go.Ey Go.Ey.Seat Go.RowKit Go.Proofs
theorem Bg (ts:List Tm):rows af ts=.slice (fF ts) ts.length:=by rw [jG];rfl
theorem apj {S:Nat->Nat->Prop} {w:World} {c:C} {u:Value} (h:cK w S c u):RQ w w.heap.size S c u:=cK.mono (fun k o v hc h=>⟨hc,World.block_lt_of_cell? _ _ hc,h⟩) _ u h
theorem Nj {S:Nat->Nat->Prop} {w:World} {ts:List Tm} {u:Value} (h:cK w S (.slice (fF ts) ts.length) u):∃q d,u=.slice q ts.length d/\(q=none->d=0/\ts=[])/\AQ w.heap.size S ts q w:=by
 have h':=apj h;have h2:∃q m d,u=.slice q m d/\(q=none->d=0/\ts=[]):=by
  rcases h' with ⟨rfl,h0,_⟩|⟨a,cap,rfl,_⟩
  ·exact ⟨_,_,_,rfl,fun _=>⟨rfl,E7 h0⟩⟩
  ·exact ⟨_,_,_,rfl,fun h=>by cases h⟩
 obtain ⟨q,m,d,rfl,h3⟩:=h2;obtain ⟨rfl,hargs⟩:=argsAt h';exact ⟨q,d,rfl,h3,hargs⟩
theorem aju {cl ts:List Tm} (amO:Al cl) (hok:Al ts) (hsz:cl.length+ts.length<=90000):oq PP 72 [.one (rows af cl),.one (rows af ts)] [.one (rows af (ts.foldl gX cl))]:=by
 rw [Bg,Bg,Bg];refine ⟨M0 (by kernel_rfl),fun S w us hinv hall=>?_⟩
 match us,hall with
 |[u,v],⟨hu,hv,_⟩=>
  obtain ⟨p,f,rfl,hp,ha⟩:=Nj hu;obtain ⟨q,d,rfl,_,hb⟩:=Nj hv;refine Calls.mono (Tryz.art cl ts S p q f d w amO hok hsz hinv hp ha hb) ?_;rintro e w' ⟨v,rfl,htr,hb⟩;exact ⟨v,rfl,htr.rep,hb⟩
variable {nat:Nat->List V->Option (List V)}
abbrev bq:=ByteArray×ByteArray
def bW (p:bq):List C:=[cs p.1,cs p.2]
theorem jw (p:bq):(bW p).length=2:=rfl
def jY (a b:bq):Bool:=decide (a.1=b.1) && decide (a.2=b.2)
theorem IV {a b:bq}:jY a b=true↔a=b:=by obtain ⟨a1,a2⟩:=a;obtain ⟨b1,b2⟩:=b;simp [jY]
def kF (l:List bq) (t:bq):Bool:=l.any fun x=>jY t x
theorem BC {l:List bq} {t:bq}:kF l t=true↔t∈l:=by
 simp only [kF,I3,IV];constructor
 ·rintro ⟨x,hx,rfl⟩;exact hx
 ·exact fun h=>⟨t,h,rfl⟩
end Go.Ey.Pr
namespace Go.Proofs
open Go Go.Ey Go.Ey.Seat Go.RowKit Go.Proofs Go.Ey.Pr
variable {nat:Nat->List V->Option (List V)}
def kH:Tm->Int
 |.var _ _=>1
 |.eG _=>2
 |.app _ _ _=>3
def bZ:Tm->bq
 |.var p s=>(p,s)
 |.eG _=>(eB,eB)
 |.app p s _=>(p,s)
theorem acm {w:World} {B:Nat} {t:Tm} {us:List Value} (h:Ey.aF (RB w B) (af t) us):∃(k3:Int) (k4 k5 k6 k7 k8:ByteArray) (kp:Option Addr) (kl kc:Nat) (kq:Option Addr) (km kd:Nat),
  us=[.int .i64 (kH t),.string (bZ t).1,.string (bZ t).2,.int .i64 k3,.string k4,.string k5,.string k6,.string k7,.string k8,.slice kp kl kc,.slice kq km kd]:=by
 obtain ⟨k0,k1,k2,k3,k4,k5,k6,k7,k8,kp,kl,kc,kq,km,kd,rfl⟩:=dF h;refine ⟨k3,k4,k5,k6,k7,k8,kp,kl,kc,kq,km,kd,?_⟩;have e:Value.int .i64 k0=.int .i64 (kH t)/\Value.string k1=.string (bZ t).1/\Value.string k2=.string (bZ t).2:=by
  cases t with
  |var p s=>exact ⟨h.1.i,RB.s h.2.1,RB.s h.2.2.1⟩
  |eG o=>cases o<;>exact ⟨h.1.i,RB.s h.2.1,RB.s h.2.2.1⟩
  |app p s ts=>exact ⟨h.1.i,RB.s h.2.1,RB.s h.2.2.1⟩
 rw [e.1,e.2.1,e.2.2]
def R7 (k:Int) (xs:List bq) (t:Tm):List bq:=cond (decide (kH t=k) && !kF xs (bZ t)) (xs++[bZ t]) xs
mutual
def MG (k:Int) (xs:List bq):Tm->List bq
 |.app p s ts=>iw k (R7 k xs (.app p s ts)) ts
 |.var p s=>R7 k xs (.var p s)
 |.eG o=>R7 k xs (.eG o)
def iw (k:Int) (xs:List bq):List Tm->List bq
 |[]=>xs
 |t::ts=>iw k (MG k xs t) ts
end
theorem Nu (k:Int) (xs:List bq) (t:Tm):(R7 k xs t).length<=xs.length+1:=by unfold R7;cases decide (kH t=k) && !kF xs (bZ t)<;>simp
mutual
theorem adR (k:Int):∀(t:Tm) (xs:List bq),(MG k xs t).length<=xs.length+av t
 |.var p s,xs=>by rw [MG,av];exact Nu _ _ _
 |.eG o,xs=>by have:=Dc o;have:=Nu k xs (.eG o);rw [MG,av];omega
 |.app p s ts,xs=>by have:=Nu k xs (.app p s ts);have:=wm k ts (R7 k xs (.app p s ts));rw [MG,av];omega
theorem wm (k:Int):∀(ts:List Tm) (xs:List bq),(iw k xs ts).length<=xs.length+aJ ts
 |[],xs=>by simp [iw,aJ]
 |t::ts,xs=>by have:=adR k t xs;have:=wm k ts (MG k xs t);rw [iw,aJ];omega
end
def EN:Tm->Nat
 |.app _ _ ts=>ts.length
 |_=>0
def aN:Tm->List Tm
 |.app _ _ ts=>ts
 |_=>[]
theorem Qs (t:Tm):(aN t).length=EN t:=by cases t<;>rfl
theorem abO {w:World} {B:Nat} {t:Tm} {us:List Value} (h:Ey.aF (RB w B) (af t) us):∃(k3:Int) (k4 k5 k6 k7 k8:ByteArray) (kp:Option Addr) (kl kc:Nat) (kq:Option Addr) (kd:Nat),
  us=[.int .i64 (kH t),.string (bZ t).1,.string (bZ t).2,.int .i64 k3,.string k4,.string k5,.string k6,.string k7,.string k8,.slice kp kl kc,.slice kq (EN t) kd]:=by
 obtain ⟨k3,k4,k5,k6,k7,k8,kp,kl,kc,kq,km,kd,rfl⟩:=acm h;refine ⟨k3,k4,k5,k6,k7,k8,kp,kl,kc,kq,kd,?_⟩;have e:∀{c:C} {n:Nat},(∃xs,c=.slice xs n)->RB w B c (.slice kq km kd)->km=n:=by
  rintro c n ⟨xs,rfl⟩ (⟨e,h0,_⟩|⟨a,cap,e,_⟩)
  ·injection e with _ e2;omega
  ·injection e with _ e2
 have:km=EN t:=by
  cases t with
  |var p s=>exact e ⟨_,rfl⟩ h.2.2.2.2.2.2.2.2.2.2.1
  |eG o=>cases o<;>exact e ⟨_,rfl⟩ h.2.2.2.2.2.2.2.2.2.2.1
  |app p s ts=>exact e ⟨_,rfl⟩ h.2.2.2.2.2.2.2.2.2.2.1
 rw [this]
end Go.Proofs
namespace Go.Ey.Pr
open Go Go.Ey Go.Ey.Seat Go.RowKit Go.Proofs
variable {nat:Nat->List V->Option (List V)}
def bu (a:cB):List C:=cs a.v.1::cs a.v.2::af a.t
def encS (s:List cB):List C:=[rows bu s]
def aQ (c:Cs):List C:=[rows af c.tests,rows encS c.subs]
theorem mg (a:cB):(bu a).length=13:=by simp [bu,ah]
theorem NC (s:List cB):(encS s).length=1:=rfl
theorem bM (c:Cs):(aQ c).length=2:=rfl
structure Fd where
 nm:bq
 ps:List bq
 cl:Int
 gd:List C
 body:Tm
 ms:List C
def j5 (f:Fd):List C:=cs f.nm.1::cs f.nm.2::rows bW f.ps::ci f.cl::(f.gd++(af f.body++f.ms))
structure Fd.OK (f:Fd):Prop where
 gd:f.gd.length=11
 ms:f.ms.length=11
 nd:av f.body<=3000
 ps:f.ps.length<=1000
theorem dh {f:Fd} (h:f.OK):(j5 f).length=37:=by simp [j5,ah,h.gd,h.ms]
def Ac (s:List cB):Prop:=∀a∈s,GA a.t
def amu (ss:List (List cB)):Prop:=∀s∈ss,Ac s/\s.length<=1000
theorem Pt (a b:bq):jY a b=jY b a:=by rw [Hx,IV,IV];exact O2
theorem kC {xs:List bq} {k:Nat} (h:k < xs.length):eZ 2 (rows bW xs) (ci k)=some (bW xs[k]):=kg jw (Ax h)
theorem fo (xs:List bq):lN false (rows bW xs)=some (ci xs.length):=rfl
theorem aeE (a b:bq):wh [1,1] false (bW a) (bW b)=some (cb (jY b a)):=by rw [Pt];exact jX false a.1 a.2 b.1 b.2
theorem Vy (xs:List bq) (hm:xs.length < 100000) (p:bq):∀(m k:Nat),k+m=xs.length->
  bn (T nat).G 151 0 [.c (rows bW xs),.c (ci k),.l (bW p)]=some ([.one (cb (kF (xs.drop k) p))],[])
 |0,k,hk=>by
  have hlt:¬((k:Int) < (xs.length:Int)):=by omega
  rw [ai R3 (t:=t151.heads[0]) rfl,aA (by omega)]
  simp [t151,zZ,hlt,fo,kF]
 |m+1,k,hk'=>by
  have hkr:k < xs.length:=by omega
  have hlt:((k:Int) < (xs.length:Int)):=by omega
  have hs:=ax k (by omega)
  have hi:=Vy xs hm p m (k+1) (by omega)
  have hd:kF (xs.drop k) p=(jY p xs[k]||kF (xs.drop (k+1)) p):=by rw [drop_at hkr];rfl
  rw [hd,ai R3 (t:=t151.heads[0]) rfl];have he:=aeE xs[k] p;cases hb:jY p xs[k]<;>rw [hb] at he<;>simp [-Int.natCast_add,t151,zZ,hlt,fo,kC hkr,he,hs,hi,jw,hb]
theorem x151 (xs:List bq) (hm:xs.length < 100000) (p:bq):bz (T nat).G 151 [.v (.one (rows bW xs)),.v (.agg (bW p))] []=some ([.one (cb (kF xs p))],[]):=by
 have h3:=Vy (nat:=nat) xs hm p xs.length 0 (by omega)
 simp only [An,A6] at h3;rw [aG R3];simp [t151,zZ,h3,jw]
def j4:ByteArray:=⟨#[110,111,116]⟩
def Kq (s:ByteArray) (n:Nat):Tm->Bool
 |.app p x ts=>(decide (p=dH) && decide (x=s)) && decide (ts.length=n)
 |_=>false
theorem Kk (n m:Nat):((n:Int)==(m:Int))=decide (n=m):=by
 by_cases h:n=m
 ·simp [h]
 ·have:¬((n:Int)=m):=by omega
  simp [h,this]
theorem x92 (t:Tm) (s:ByteArray) (n:Nat):bz (T nat).G 92 [.v (.agg (af t)),.v (.one (cs s)),.v (.one (ci n))] []=some ([.one (cb (Kq s n t))],[]):=by
 rw [aG alj];cases t with
 |var p x=>simp [t92,zZ,af,Kq]
 |eG o=>cases o<;>simp [t92,zZ,af,enc,Kq]
 |app p x ts=>
  cases hp:decide (p=dH) && decide (x=s) with
  |true=>simp [t92,zZ,dw,Kq,hp,aa,Kk,x80]
  |false=>simp [t92,zZ,dw,Kq,hp,x80]
theorem zL {s:ByteArray} {t:Tm} (h:Kq s 1 t=true):∃x,t=.app dH s [x]:=by
 cases t with
 |var p x=>cases h
 |eG o=>cases h
 |app p x ts=>
  simp only [Kq,As,F1] at h;obtain ⟨⟨rfl,rfl⟩,h3⟩:=h
  match ts,h3 with
  |[y],_=>exact ⟨y,rfl⟩
def mG (out:List bq) (p:bq):List bq:=cond (kF out p) out (out++[p])
theorem Vh (out:List bq) (p:bq):(mG out p).length<=out.length+1:=by unfold mG;cases kF out p<;>simp
theorem Gf:∀(l out:List bq),(l.foldl mG out).length<=out.length+l.length
 |[],out=>by simp
 |p::l,out=>by have:=Gf l (mG out p);have:=Vh out p;simp only [Hh,Bm];omega
theorem afx (out:List bq) (p x:bq):x∈mG out p↔x∈out\/x=p:=by
 unfold mG;cases h:kF out p with
 |true=>
  have:=BC.1 h
  constructor
  ·exact .inl
  ·rintro (h|rfl)
   ·exact h
   ·exact this
 |false=>simp
theorem Q9:∀(l out:List bq) (x:bq),x∈l.foldl mG out↔x∈out\/x∈l
 |[],out,x=>by simp
 |p::l,out,x=>by rw [Hh,Q9 l,afx];simp only [D1];exact or_assoc
theorem qm {acc:List bq} {x:bq} (h:acc.length < 1000000):iO 2 32 (.slice (bW x) 1) (rows bW acc)=some (rows bW (acc++[x])):=
 BO jw (by decide) (by simp only [aB];omega) (by simp only [aB];omega)
theorem Fq (p s:ByteArray):fq 2 1 [cs p,cs s]=some (.slice (bW (p,s)) 1):=by simp [fq,bW,aB]
theorem rJ (p:bq) (t:Tm):fq 13 1 [cs p.1,cs p.2,au (af t) 0,au (af t) 1,au (af t) 2,au (af t) 3,au (af t) 4,au (af t) 5,au (af t) 6,au (af t) 7,au (af t) 8,au (af t) 9,au (af t) 10]=some (.slice (bu ⟨p,t⟩) 1):=by
 have:=kJ t
 simp [fq,aB,bu,this,ah]
theorem AA {acc:List cB} {x:cB} (h:acc.length < 1000000):iO 13 208 (.slice (bu x) 1) (rows bu acc)=some (rows bu (acc++[x])):=
 BO mg (by decide) (by simp only [aB];omega) (by simp only [aB];omega)
end Go.Ey.Pr
namespace Go.Proofs
open Go.RowKit Go.Ey Go.Ey.Pr Go.Ey.Seat Go.Maps Go.WideMaps Go.MapKept
theorem Y0:∀{a b:Ob},nZ a b=true->a=b
 |.num n d,.num n' d',h=>by simp [nZ] at h;rw [h.1,h.2]
 |.sy p s,.sy p' s',h=>by simp [nZ] at h;rw [h.1,h.2]
 |.st t,.st t',h=>by simp [nZ] at h;rw [h]
 |.cons a b,.cons a' b',h=>by simp only [nZ,As] at h;rw [Y0 h.1,Y0 h.2]
 |.num ..,.sy ..,h=>by simp [nZ] at h
 |.num ..,.st ..,h=>by simp [nZ] at h
 |.num ..,.cons ..,h=>by simp [nZ] at h
 |.sy ..,.num ..,h=>by simp [nZ] at h
 |.sy ..,.st ..,h=>by simp [nZ] at h
 |.sy ..,.cons ..,h=>by simp [nZ] at h
 |.st ..,.num ..,h=>by simp [nZ] at h
 |.st ..,.sy ..,h=>by simp [nZ] at h
 |.st ..,.cons ..,h=>by simp [nZ] at h
 |.cons ..,.num ..,h=>by simp [nZ] at h
 |.cons ..,.sy ..,h=>by simp [nZ] at h
 |.cons ..,.st ..,h=>by simp [nZ] at h
mutual
theorem adz:∀{a b:Tm},jb a b=true->a=b
 |.var p s,.var p' s',h=>by simp [jb] at h;rw [h.1,h.2]
 |.eG o,.eG o',h=>by simp only [jb] at h;rw [Y0 h]
 |.app p s ts,.app p' s' ts',h=>by simp [jb] at h;rw [h.1.1,h.1.2,aaX h.2]
 |.var ..,.eG ..,h=>by simp [jb] at h
 |.var ..,.app ..,h=>by simp [jb] at h
 |.eG ..,.var ..,h=>by simp [jb] at h
 |.eG ..,.app ..,h=>by simp [jb] at h
 |.app ..,.var ..,h=>by simp [jb] at h
 |.app ..,.eG ..,h=>by simp [jb] at h
theorem aaX:∀{a b:List Tm},xB a b=true->a=b
 |[],[],_=>rfl
 |[],_::_,h=>by simp [xB] at h
 |_::_,[],h=>by simp [xB] at h
 |t::ts,t'::ts',h=>by simp only [xB,As] at h;rw [adz h.1,aaX h.2]
end
theorem akY {a b:Tm} (h:a≠b):jb a b=false:=by
 cases he:jb a b with
 |false=>rfl
 |true=>exact absurd (adz he) h
structure okK (t:Tm):Prop where
 pl:plT t=true
 qk:Hu t
 nd:av t<=3000
abbrev afD (t:Tm):Lit:=.string (pq t)
theorem Tryz.aor:Keyed Tryz.prog 9:=string_keyed Tryz.underlying9
theorem Tryz.an5 {t:Tm} (h:okK t):keyOf Tryz.prog 9 (.string ⟨(pq t).toArray⟩)=some (afD t):=by
 have hl:=yz h.qk;have hn:=h.nd;have:=keyOf_string_mk (k:=9) Tryz.underlying9 (s:=⟨(pq t).toArray⟩) (by show (pq t).toArray.size<=_;simp only [List.size_toArray];unfold maxLen;omega)
 simpa using this
structure kM (M:Nat) (l:List Tm) (w:World):Prop where
 ex:∃D:DataW Unit,w.ownsMap Tryz.prog 9 (plainElem Tryz.prog 4) M l.length D/\∀t,okK t->D.atKey (afD t) (.lit (.bool false))=.lit (.bool (memT l t))
theorem H8 {v:Value} {x:Bool} {ps:List MemPlace} (h:plainElem (H:=Unit) Tryz.prog 4 v=some (.lit (.bool x),ps)):v=.bool x:=by
 have hu:=Tryz.underlying4;revert hu h;unfold plainElem;generalize Tryz.prog.underlying 4=u;rintro h rfl;cases v<;>simp at h
 rw [h.1]
theorem kM.look {M:Nat} {l:List Tm} {w:World} (h:kM M l w) {t:Tm} (ht:okK t):
  Sem.run Tryz.prog (Instr.lookup 146 (.map (some M)) (.string ⟨(pq t).toArray⟩) false) w=.ok (.bool (memT l t)) w:=by
 obtain ⟨D,h1,h2⟩:=h.ex;obtain ⟨v,ps,hrun,hv⟩:=h1.lookup Tryz.aor Tryz.underlying146 (z:=.bool false) (by kernel_rfl) (plainElem_bool Tryz.underlying4 false) (Tryz.an5 ht)
 rw [h2 t ht] at hv;rw [<-H8 hv];exact hrun
theorem kM.kept {M:Nat} {l:List Tm} {w w':World} (h:kM M l w) (hb:w'.heap[M]?=w.heap[M]?):kM M l w':=by obtain ⟨D,⟨es,clock,e1,e2⟩,h2⟩:=h.ex;exact ⟨D,⟨es,clock,by rw [hb];exact e1,e2⟩,h2⟩
theorem kM.put {M:Nat} {l:List Tm} {w':World} {D:DataW Unit} {t:Tm} (ht:okK t) (hm:Maps.IsMap D)
  (hd:∀t,okK t->D.atKey (afD t) (.lit (.bool false))=.lit (.bool (memT l t))) (h1:w'.ownsMap Tryz.prog 9 (plainElem Tryz.prog 4) M (l.length+1) (D.put (afD t) (.lit (.bool true)))):kM M (l++[t]) w':=by
 refine ⟨_,by simpa using h1,fun x hx=>?_⟩
 have hmem:memT (l++[t]) x=(memT l x||jb t x):=by simp [memT]
 rw [hmem];by_cases he:x=t
 ·subst he;rw [atKey_put_same hm (by trivial),ze,Bool.or_true]
 ·rw [atKey_put_other (fun e=>he (key_inj hx.pl ht.pl (by simpa using e))),hd x hx,akY (fun e=>he e.symm),Bool.or_false]
theorem kM.nil {w:World}:kM w.heap.size [] (w.alloc (.map #[] 0)):=
 ⟨_,World.ownsMap_made _ _ _ _,fun t _=>rfl⟩
def zi (w:World) (g o:Nat):List Value->World
 |[]=>w
 |u::us=>zi (w.setCell ⟨g,o,none⟩ u) g (o+1) us
theorem UN {a b c:World} {row:Option Nat} (h:a.grownBy b row) (k:b.grownBy c row):a.grownBy c row:=
 ⟨k.os.trans h.os,k.tape.trans h.tape,k.output.trans h.output,Dg h.size k.size,fun j hj hne=>(k.block j (Fk hj h.size) hne).trans (h.block j hj hne)⟩
theorem Hf {B g n cap:Nat}:∀(us zs xs:List Value) (o:Nat) (w:World),w.ownsRow B 44 11 (.slice (some ⟨g,0,none⟩) n cap) n (xs++zs)->xs.length=o->zs.length=us.length->
  (zi w g o us).ownsRow B 44 11 (.slice (some ⟨g,0,none⟩) n cap) n (xs++us)/\w.grownBy (zi w g o us) (some g)/\(zi w g o us).heap.size=w.heap.size
 |[],[],xs,o,w,h,_,_=>⟨h,World.grownBy.refl _ _,rfl⟩
 |[],_::_,_,_,_,_,_,h=>by simp at h
 |_::_,[],_,_,_,_,_,h=>by simp at h
 |u::us,z::zs,xs,o,w,h,ho,hl=>by
  obtain ⟨h1,h2⟩:=h.stored o u;have e:(xs++z::zs).set o u=(xs++[u])++zs:=by
   rw [List.set_append_right _ _ (by omega),ho]
   simp
  rw [e] at h1;obtain ⟨r1,r2,r3⟩:=Hf us zs (xs++[u]) (o+1) _ h1 (by simp [ho]) (by simpa using hl)
  refine ⟨by simpa [zi] using r1,by rw [zi];exact UN h2 r2,by rw [zi,r3];simp⟩
structure acy (B O g:Nat) (v':Value) (n:Nat) (ys:List Value) (w W:World):Prop where
 os:W.os=w.os
 tape:W.tape=w.tape
 output:W.output=w.output
 size:W.heap.size=w.heap.size
 block:∀k,k < w.heap.size->k≠O->k≠g->W.heap[k]?=w.heap[k]?
 ob:W.heap[O]?=some (.cells #[v'] 27 (0,0))
 row:W.ownsRow B 44 11 v' n ys
theorem aoM {B O g n cap o:Nat} {v:Value} {us zs xs:List Value} {w:World} (hO:w.heap[O]?=some (.cells #[v] 27 (0,0))) (hgO:¬g=O) (h:w.ownsRow B 44 11 (.slice (some ⟨g,0,none⟩) n cap) n (xs++zs)) (hl:zs.length=us.length) (hxo:xs.length=o):
  acy B O g (.slice (some ⟨g,0,none⟩) n cap) n (xs++us) w ((zi w g o us).setCell ⟨O,0,none⟩ (.slice (some ⟨g,0,none⟩) n cap)):=by
 subst hxo;obtain ⟨r1,r2,r3⟩:=Hf us zs xs _ w h rfl hl;have lO:=(C3.1 hO).1;have hO1:(zi w g xs.length us).heap[O]?=some (.cells #[v] 27 (0,0)):=by rw [r2.block O lO (by simpa using fun e=>hgO e.symm)];exact hO
 refine ⟨r2.os,r2.tape,r2.output,by simp [r3],fun k hk hkO hkg=>?_,one_setCell hO1,ownsRow_setCell_other r1 (by simpa [Value.ownBlock] using hgO) _⟩
 rw [Below.heap_setCell _ _ _ _ hkO,r2.block k hk (by simpa using hkg)]
theorem an8 {B O g n cap o:Nat} {v:Value} {us zs xs:List Value} {w:World} (hO:w.heap[O]?=some (.cells #[v] 27 (0,0))) (hgO:¬g=O) (h:w.ownsRow B 44 11 (.slice (some ⟨g,0,none⟩) n cap) n (xs++zs)) (hl:zs.length=us.length) (hxo:xs.length=o):
  acy B O g (.slice (some ⟨g,0,none⟩) n cap) n (xs++us) w (zi (w.setCell ⟨O,0,none⟩ (.slice (some ⟨g,0,none⟩) n cap)) g o us):=by
 subst hxo;have h':=ownsRow_setCell_other h (a:=⟨O,0,none⟩) (by simpa [Value.ownBlock] using hgO) (.slice (some ⟨g,0,none⟩) n cap)
 obtain ⟨r1,r2,r3⟩:=Hf us zs xs _ _ h' rfl hl;have lO:=(C3.1 hO).1;have hs:(w.setCell ⟨O,0,none⟩ (.slice (some ⟨g,0,none⟩) n cap)).heap.size=w.heap.size:=by simp
 refine ⟨r2.os,r2.tape,r2.output,by rw [r3,hs],fun k hk hkO hkg=>?_,?_,r1⟩
 ·rw [r2.block k (by omega) (by simpa using hkg),Below.heap_setCell _ _ _ _ hkO]
 ·rw [r2.block O (by omega) (by simpa using fun e=>hgO e.symm)];exact one_setCell hO
theorem agW {B O g n cap o:Nat} {v u0 u1 u2 u3 u4 u5 u6 u7 u8 u9 Tj z0 z1 z2 z3 z4 z5 z6 z7 z8 z9 z10:Value} {xs:List Value} {w:World} (hO:w.heap[O]?=some (.cells #[v] 27 (0,0))) (hgO:¬g=O) (h:w.ownsRow B 44 11 (.slice (some ⟨g,0,none⟩) n cap) n (xs++[z0,z1,z2,z3,z4,z5,z6,z7,z8,z9,z10])) (hxo:xs.length=o):
  acy B O g (.slice (some ⟨g,0,none⟩) n cap) n (xs++[u0,u1,u2,u3,u4,u5,u6,u7,u8,u9,Tj]) w ((((((((((((w.setCell ⟨g,o,none⟩ u0).setCell ⟨g,o+1,none⟩ u1).setCell ⟨g,o+2,none⟩ u2).setCell ⟨g,o+3,none⟩ u3).setCell ⟨g,o+4,none⟩ u4).setCell ⟨g,o+5,none⟩ u5).setCell ⟨g,o+6,none⟩ u6).setCell ⟨g,o+7,none⟩ u7).setCell ⟨g,o+8,none⟩ u8).setCell ⟨g,o+9,none⟩ u9).setCell ⟨g,o+10,none⟩ Tj).setCell ⟨O,0,none⟩ (.slice (some ⟨g,0,none⟩) n cap)):=by
 have r:=aoM (us:=[u0,u1,u2,u3,u4,u5,u6,u7,u8,u9,Tj]) hO hgO h rfl hxo;simp only [zi,Nat.add_assoc,Nat.reduceAdd] at r;exact r
theorem agL {B O g n cap o:Nat} {v u0 u1 u2 u3 u4 u5 u6 u7 u8 u9 Tj z0 z1 z2 z3 z4 z5 z6 z7 z8 z9 z10:Value} {xs:List Value} {w:World} (hO:w.heap[O]?=some (.cells #[v] 27 (0,0))) (hgO:¬g=O) (h:w.ownsRow B 44 11 (.slice (some ⟨g,0,none⟩) n cap) n (xs++[z0,z1,z2,z3,z4,z5,z6,z7,z8,z9,z10])) (hxo:xs.length=o):
  acy B O g (.slice (some ⟨g,0,none⟩) n cap) n (xs++[u0,u1,u2,u3,u4,u5,u6,u7,u8,u9,Tj]) w ((((((((((((w.setCell ⟨O,0,none⟩ (.slice (some ⟨g,0,none⟩) n cap)).setCell ⟨g,o,none⟩ u0).setCell ⟨g,o+1,none⟩ u1).setCell ⟨g,o+2,none⟩ u2).setCell ⟨g,o+3,none⟩ u3).setCell ⟨g,o+4,none⟩ u4).setCell ⟨g,o+5,none⟩ u5).setCell ⟨g,o+6,none⟩ u6).setCell ⟨g,o+7,none⟩ u7).setCell ⟨g,o+8,none⟩ u8).setCell ⟨g,o+9,none⟩ u9).setCell ⟨g,o+10,none⟩ Tj):=by
 have r:=an8 (us:=[u0,u1,u2,u3,u4,u5,u6,u7,u8,u9,Tj]) hO hgO h rfl hxo;simp only [zi,Nat.add_assoc,Nat.reduceAdd] at r;exact r
structure XF (B:Nat) (S:Nat->Nat->Prop) (O M Sn Ad:Nat) (l:List Tm) (v:Value) (w:World):Prop where
 ob:w.heap[O]?=some (.cells #[v] 27 (0,0))
 row:jc B S v l w
 sb:w.heap[Sn]?=some (.cells #[.map (some M)] 146 (0,0))
 ab:w.heap[Ad]?=some (.cells #[.func (.func 108) #[] #[.pointer (some ⟨Sn,0,none⟩),.pointer (some ⟨O,0,none⟩),.pointer (some ⟨Ad,0,none⟩)]] 147 (0,0))
 mp:kM M l w
 leO:B<=O
 leM:B<=M
structure SF (O M:Nat) (v v':Value) (w w':World):Prop where
 os:w'.os=w.os
 tape:w'.tape=w.tape
 output:w'.output=w.output
 size:w.heap.size<=w'.heap.size
 block:∀k,k < w.heap.size->k≠O->k≠M->some k≠v.ownBlock->w'.heap[k]?=w.heap[k]?
 new:∀k,v'.ownBlock=some k->v.ownBlock=some k\/w.heap.size<=k
theorem kM.lt {M:Nat} {l:List Tm} {w:World} (h:kM M l w):M < w.heap.size:=by obtain ⟨D,h1,_⟩:=h.ex;exact h1.lt
theorem XF.keep {B:Nat} {S:Nat->Nat->Prop} {O M Sn Ad:Nat} {l:List Tm} {v:Value} {w w':World} (h:XF B S O M Sn Ad l v w) (hb:Below w.heap.size w w'):XF B S O M Sn Ad l v w':=
 ⟨by rw [hb.block O (C3.1 h.ob).1];exact h.ob,h.row.kept hb,by rw [hb.block Sn (C3.1 h.sb).1];exact h.sb,
  by rw [hb.block Ad (C3.1 h.ab).1];exact h.ab,h.mp.kept (hb.block M h.mp.lt),h.leO,h.leM⟩
theorem nC {w:World} {B g n cap:Nat} {xs zs:List Value} (h:w.ownsRow B 44 11 (.slice (some ⟨g,0,none⟩) (n+1) cap) (n+1) (xs++zs)) (hx:xs.length=n * 11) {j:Nat} {u:Value} (hj:zs[j]?=some u) (h11:j < 11):w.cell? ⟨g,n * 11+j,none⟩=some u:=by
 rw [h.cellAt (n * 11+j) (by omega),Hv (by omega),hx,Nat.add_sub_cancel_left]
 exact hj
mutual
def Ol (l:List Tm):Tm->List Tm
 |.app p s ts=>cond (memT l (.app p s ts)) l (uu (l++[.app p s ts]) ts)
 |.var p s=>cond (memT l (.var p s)) l (l++[.var p s])
 |.eG o=>cond (memT l (.eG o)) l (l++[.eG o])
def uu (l:List Tm):List Tm->List Tm
 |[]=>l
 |t::ts=>uu (Ol l t) ts
end
theorem TY {B O T:Nat} {S:Nat->Nat->Prop} {v:Value} {l:List Tm} {w:World} {vs:Array Value} {fz:Nat×Nat} (h:jc B S v l w) (hO:w.heap[O]?=some (.cells vs T fz)) (hT:T≠44):v.ownBlock≠some O:=by
 intro e;obtain ⟨xs,h1,_⟩:=h.row;rcases h1.2 with ⟨rfl,_⟩|⟨g,cap,cur,rfl,hg,hgg,_⟩
 ·simp [Value.ownBlock] at e
 ·have:g=O:=by simpa [Value.ownBlock] using e
  subst this;rw [hgg] at hO;injection hO with hO;injection hO with _ e2 _;exact hT e2.symm
theorem XV {B M:Nat} {S:Nat->Nat->Prop} {v:Value} {l m:List Tm} {w:World} (h:jc B S v l w) (hM:kM M m w):v.ownBlock≠some M:=by
 intro e;obtain ⟨xs,h1,_⟩:=h.row;obtain ⟨D,⟨es,clock,e2,_⟩,_⟩:=hM.ex;rcases h1.2 with ⟨rfl,_⟩|⟨g,cap,cur,rfl,hg,hgg,_⟩
 ·simp [Value.ownBlock] at e
 ·have:g=M:=by simpa [Value.ownBlock] using e
  subst this;rw [hgg] at e2;injection e2 with e2;cases e2
structure G4 (w3 w4:World) (r:Option Nat):Prop where
 os:w4.os=w3.os
 tape:w4.tape=w3.tape
 output:w4.output=w3.output
 size:w3.heap.size+1<=w4.heap.size
 block:∀k,k < w3.heap.size->some k≠r->w4.heap[k]?=w3.heap[k]?
theorem XF.close {B O M Sn Ad gg cp:Nat} {S:Nat->Nat->Prop} {v:Value} {l:List Tm} {t:Tm} {us xs:List Value} {w3 w4 W:World}
  (hrow3:jc B S v l w3) (hxs:Ey.aF (RQ w3 B S) (fF l) xs) (hus:Ey.aF (RQ w3 B S) (af t) us)
  (hO3:w3.heap[O]?=some (.cells #[v] 27 (0,0))) (hsb:w3.heap[Sn]?=some (.cells #[.map (some M)] 146 (0,0)))
  (hab:w3.heap[Ad]?=some (.cells #[.func (.func 108) #[] #[.pointer (some ⟨Sn,0,none⟩),.pointer (some ⟨O,0,none⟩),.pointer (some ⟨Ad,0,none⟩)]] 147 (0,0)))
  (hmp:kM M (l++[t]) w3) (leO:B<=O) (leM:B<=M)
  (hgrow:G4 w3 w4 v.ownBlock) (hat:v.ownBlock=some gg\/gg=w3.heap.size+1)
  (hf:acy B O gg (.slice (some ⟨gg,0,none⟩) (l.length+1) cp) (l.length+1) (xs++us) w4 W):
  XF B S O M Sn Ad (l++[t]) (.slice (some ⟨gg,0,none⟩) (l.length+1) cp) W/\SF O M v (.slice (some ⟨gg,0,none⟩) (l.length+1) cp) w3 W:=by
 have hs4:=hgrow.size;have old:∀k,k < w3.heap.size->k≠O->some k≠v.ownBlock->W.heap[k]?=w3.heap[k]?:=fun k hk hkO hkv=>by
  have hkg:k≠gg:=fun e=>hat.elim (fun e2=>hkv (by rw [e2,e])) (fun e2=>by omega)
  rw [hf.block k (by omega) hkO hkg,hgrow.block k hk hkv]
 have lt:∀{k:Nat} {x:Go.Obj},w3.heap[k]?=some x->k < w3.heap.size:=fun h=>(C3.1 h).1
 have hSO:Sn≠O:=fun e=>by rw [e,hO3] at hsb;injection hsb with hsb;injection hsb with _ e2 _;cases e2
 have hAO:Ad≠O:=fun e=>by rw [e,hO3] at hab;injection hab with hab;injection hab with _ e2 _;cases e2
 have hMO:M≠O:=fun e=>by obtain ⟨D,⟨es,clock,e2,_⟩,_⟩:=hmp.ex;rw [e,hO3] at e2;injection e2 with e2;cases e2
 have Cr:Below B w3 W:=⟨by rw [hf.os,hgrow.os],by rw [hf.tape,hgrow.tape],by rw [hf.output,hgrow.output],by rw [hf.size];omega,
  fun k hk=>old k (by have:=hrow3.le;omega) (by omega) fun e=>by have:=(hrow3.own k e.symm).1;omega⟩
 have hall:=Ey.aF.append (Bp.keep Cr hxs) (Bp.keep Cr hus);refine ⟨⟨hf.ob,⟨⟨xs++us,by simpa using hf.row,?_⟩,Dg hrow3.le Cr.size⟩,?_,?_,hmp.kept (old M hmp.lt hMO fun e=>XV hrow3 hmp e.symm),leO,leM⟩,
  ⟨Cr.os,Cr.tape,Cr.output,Cr.size,fun k hk hkO _ hkv=>old k hk hkO hkv,fun k hk=>?_⟩⟩
 ·rw [show fF (l++[t])=fF l++af t by simp [jG]];exact hall
 ·rw [old Sn (lt hsb) hSO fun e=>TY hrow3 hsb (by decide) e.symm];exact hsb
 ·rw [old Ad (lt hab) hAO fun e=>TY hrow3 hab (by decide) e.symm];exact hab
 ·have:gg=k:=by simpa [Value.ownBlock] using hk
  subst this;exact hat.imp id fun e=>by omega
theorem SF.before {O M:Nat} {v v':Value} {w w2 w3 W:World} (bb:Below w.heap.size w w2) (hg:w2.grownBy w3 (some M)) (h:SF O M v v' w3 W):SF O M v v' w W:=
 ⟨by rw [h.os,hg.os,bb.os],by rw [h.tape,hg.tape,bb.tape],by rw [h.output,hg.output,bb.output],Dg bb.size (Dg hg.size h.size),
  fun k hk hO hM hv=>by rw [h.block k (by have:=bb.size;have:=hg.size;omega) hO hM hv,hg.block k (by have:=bb.size;omega) (by simpa using hM),bb.block k hk],
  fun k hk=>(h.new k hk).imp id fun e=>by have:=bb.size;have:=hg.size;omega⟩
theorem kM.aai {M k T:Nat} {l:List Tm} {w:World} {vs:Array Value} {fz:Nat×Nat} (h:kM M l w) (hk:w.heap[k]?=some (.cells vs T fz)):k≠M:=fun e=>by obtain ⟨D,⟨es,clock,e2,_⟩,_⟩:=h.ex;rw [e,e2] at hk;injection hk with hk;cases hk
end Go.Proofs
