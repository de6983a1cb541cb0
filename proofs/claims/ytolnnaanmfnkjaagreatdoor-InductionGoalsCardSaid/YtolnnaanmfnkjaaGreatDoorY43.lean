/- A part. -/
import Derived.Test.YtolnnaanmfnkjaaGreatDoorY38
import Derived.Test.YtolnnaanmfnkjaaGreatDoorY41
import Derived.Laws.EntriesVeiled
set_option linter.all false
namespace Go.Proofs
open Go.RowKit Go.Ey Go.Ey.Pr Go.Ey.Seat Go.Maps
set_option maxRecDepth 100000 in
set_option maxHeartbeats 4000000 in
theorem Tryz.asg (ts:List Tm) (S:Nat->Nat->Prop) (q:Option Addr) (d:Nat) (w:World) (hok:∀x∈ts,okK x) (hsz:aJ ts<=80000) (hk:keeps.Inv w.heap.size w) (hargs:AQ w.heap.size S ts q w):
  Calls Tryz.prog 42 #[.slice q ts.length d] w fun e w'=>∃v',e=.returned v'/\jc w.heap.size S v' (uu [] ts) w'/\Below w.heap.size w w':=by
 have hnt:ts.length<=80000:=by have:=yw ts;omega
 obtain ⟨w1,hw1⟩:∃w1,w1=w.alloc (.cells #[.slice none 0 0] 27):=⟨_,rfl⟩;obtain ⟨w2,hw2⟩:∃w2,w2=w1.alloc (.map #[] 0):=⟨_,rfl⟩;obtain ⟨w3,hw3⟩:∃w3,w3=w2.alloc (.cells #[.map (some (w.heap.size+1))] 146):=⟨_,rfl⟩;obtain ⟨w4,hw4⟩:∃w4,w4=w3.alloc (.cells #[.func (.func 108) #[] #[.pointer (some ⟨w.heap.size+1+1,0,none⟩),.pointer (some ⟨w.heap.size,0,none⟩),.pointer (some ⟨w.heap.size+1+1+1,0,none⟩)]] 147):=⟨_,rfl⟩;have b1:Below w.heap.size w w1:=by rw [hw1];exact (Below.refl _ w).alloc (B9 _) _
 have b2:Below w1.heap.size w1 w2:=by rw [hw2];exact (Below.refl _ w1).alloc (B9 _) _
 have b3:Below w2.heap.size w2 w3:=by rw [hw3];exact (Below.refl _ w2).alloc (B9 _) _
 have b4:Below w3.heap.size w3 w4:=by rw [hw4];exact (Below.refl _ w3).alloc (B9 _) _
 have hs1:w1.heap.size=w.heap.size+1:=by rw [hw1];simp
 have hs2:w2.heap.size=w.heap.size+2:=by rw [hw2];simp [hs1]
 have hs3:w3.heap.size=w.heap.size+3:=by rw [hw3];simp [hs2]
 have hs4:w4.heap.size=w.heap.size+4:=by rw [hw4];simp [hs3]
 have b04:Below w.heap.size w w4:=b1.trans ((b2.mono b1.size).trans ((b3.mono (by omega)).trans (b4.mono (by omega))))
 obtain ⟨O,hO'⟩:∃O,Hid (O=w.heap.size):=⟨_,⟨rfl⟩⟩;have hO:=hO'.h;obtain ⟨M,hM'⟩:∃M,Hid (M=w.heap.size+1):=⟨_,⟨rfl⟩⟩;have hM:=hM'.h;obtain ⟨Sn,apE⟩:∃Sn,Hid (Sn=w.heap.size+1+1):=⟨_,⟨rfl⟩⟩;have hSn:=apE.h;obtain ⟨Ad,aoc⟩:∃Ad,Hid (Ad=w.heap.size+1+1+1):=⟨_,⟨rfl⟩⟩;have hAd:=aoc.h;have hfs:XF w.heap.size S O M Sn Ad [] (.slice none 0 0) w4:=by
  refine ⟨?_,jc.nil b04.size,?_,?_,?_,by omega,by omega⟩
  ·rw [hO,b4.block _ (by omega),b3.block _ (by omega),b2.block _ (by omega),hw1]
   show (w.heap.push _)[w.heap.size]?=_
   simp
  ·rw [hSn,b4.block _ (by omega),hw3,show w.heap.size+1+1=w2.heap.size from hs2.symm]
   show (w2.heap.push _)[w2.heap.size]?=_
   rw [hM];simp
  ·have e:=heap_alloc_new w3 (.cells #[.func (.func 108) #[] #[.pointer (some ⟨w.heap.size+1+1,0,none⟩),.pointer (some ⟨w.heap.size,0,none⟩),.pointer (some ⟨w.heap.size+1+1+1,0,none⟩)]] 147);rw [hs3] at e;rw [hAd,hSn,hO,hw4];exact e
  ·refine kM.kept (w:=w2) ?_ ?_
   ·rw [hM,hw2,<-hs1];exact kM.nil
   ·rw [hM,b4.block _ (by omega),b3.block _ (by omega)]
 have hk4:keeps.Inv w.heap.size w4:=keeps.keep b04 hk;clear hO hM hSn hAd;have arE:Hid _:=⟨hw1⟩;have as9:Hid _:=⟨hw2⟩;have ar8:Hid _:=⟨hw3⟩;have asF:Hid _:=⟨hw4⟩;clear hw1 hw2 hw3 hw4 hs1 hs2 hs3 hs4 b1 b2 b3 b4;have hmm:=@run_makeMap Tryz.prog;go_enter Tryz.func42,Tryz.ntmps42;go_wp2;rw [<-arE.h,<-as9.h,<-ar8.h,<-asF.h];rw [<-aoc.h,<-apE.h,<-hO'.h];go_loopw [12] (fun i wy=>∃(kk:Nat) (vz:Value),kk<=ts.length/\i=.int .i64 kk/\XF w.heap.size S O M Sn Ad (uu [] (ts.take kk)) vz wy/\SF O M (.slice none 0 0) vz w4 wy) (fun i _=>ts.length - (intOf i).toNat)
 case atStart=>exact ⟨0,_,Ft _,rfl,hfs,SF.refl _ _ _ _⟩
 case round=>
  obtain ⟨kk,vz,hkk,rfl,hfz,hsz'⟩:=hrel;have Cr:Below w.heap.size w wr:=b04.trans (hsz'.below b04.size hfs.leO hfs.leM fun k hk=>by simp [Value.ownBlock] at hk)
  have hOc:=cell_of_one hfz.ob;by_cases hx2:kk < ts.length
  ·obtain ⟨y,hyk⟩:∃y,ts[kk]?=some y:=⟨_,Ax hx2⟩;have hym:=C7 hyk;obtain ⟨bk,o,HV,rfl,hyu,Qv⟩:=hargs.get Cr hyk;obtain ⟨y0,y1,y2,y3,y4,y5,y6,y7,y8,yp,yl,yc,yq,ym,yd,rfl⟩:=dF (Bp.rb hyu);obtain ⟨e0,e1,e2,e3,e4,e5,e6,e7,e8,e9,e10⟩:=Yh Qv;clear Qv;obtain ⟨wb,hwb⟩:∃wb,wb=wr.alloc (.cells #[.int .i64 y0,.string y1,.string y2,.int .i64 y3,.string y4,.string y5,.string y6,.string y7,.string y8,.slice yp yl yc,.slice yq ym yd] 44):=⟨_,rfl⟩;have bb:Below wr.heap.size wr wb:=by rw [hwb];exact (Below.refl _ wr).alloc (B9 _) _
   have hAc:=cell_of_one hfz.ab;have hAl:Ad < wr.heap.size:=(C3.1 hfz.ab).1;have hn1:=xk hyk;have hn2:=F8 (ts.take kk) [];simp only [F2] at hn2;have c2:=(Tryz.anc w.heap.size S O M Sn Ad y).use (hfz.keep bb) (keeps.keep (Cr.trans (bb.mono hfz.row.le)) hk) (hok y hym) (by omega) (Bp.keep (bb.mono hfz.row.le) hyu)
   go_wp2_with (go_at_call 108;rw [<-hwb];refine c2.mono ?_);rintro e w5 ⟨rfl,v5,hf5,hs5⟩;go_wp2;go_roundw
   case rel=>exact ⟨kk+1,v5,by omega,by simp,by rw [nJ hyk,Ik];exact hf5,hsz'.trans ((SF.dY bb).trans hs5)⟩
   case measure=>simp [intOf];omega
  ·obtain rfl:kk=ts.length:=by omega
   rw [I0] at hfz;go_wp2;go_ret;exact ⟨vz,rfl,hfz.row,Cr⟩
end Go.Proofs
set_option maxHeartbeats 4000000
namespace Go.Ey.Pr
open Go Go.Ey Go.Ey.Seat Go.RowKit Go.Proofs
theorem apB {ts:List Tm} (hok:∀x∈ts,okK x) (hsz:aJ ts<=80000):oq PP 42 [.one (rows af ts)] [.one (rows af (uu [] ts))]:=by
 rw [Bg,Bg];refine ⟨M0 (by kernel_rfl),fun S w us hinv hall=>?_⟩
 match us,hall with
 |[u],⟨hu,_⟩=>
  obtain ⟨q,d,rfl,_,hargs⟩:=Nj hu;refine Calls.mono (Tryz.asg ts S q d w hok hsz hinv hargs) ?_;rintro e w' ⟨v,rfl,htr,hb⟩;exact ⟨v,rfl,htr.rep,hb⟩
theorem oD {α:Type} {f:α->List C} {e bytes:Nat} (hf:∀x,(f x).length=e) (he:0 < e) {l m:List α} (hb:(l.length+m.length) * bytes<=aB) (hl:l.length+m.length<=aB):iO e bytes (rows f m) (rows f l)=some (rows f (l++m)):=by have h1:(m.flatMap f).length=m.length * e:=oH hf m;have h2:(l.flatMap f).length=l.length * e:=oH hf l;simp only [iO,rows,Lb];rw [C4 h1];simp only [A4];rw [C4 ⟨h1,h2,hb,he,hl⟩];simp
theorem fe {α:Type} {f:α->List C} {e bytes:Nat} (hf:∀x,(f x).length=e) (he:0 < e) {m:List α} (hb:m.length * bytes<=aB) (hl:m.length<=aB):iO e bytes (rows f m) cz=some (rows f m):=by
 have h:=oD hf he (l:=[]) (m:=m) (by simpa using hb) (by simpa using hl)
 simpa [rows,cz] using h
section
variable {nat:Nat->List V->Option (List V)}
theorem Av:∀{a b:List Tm},a.length≠b.length->jv a b=false
 |[],[],h=>absurd rfl h
 |[],_::_,_=>rfl
 |_::_,[],_=>rfl
 |t::a,u::b,h=>by rw [jv,Av (a:=a) (b:=b) (fun e=>h (by simp [e])),Bool.and_false]
def dV (x:cB) (b:List cB):Bool:=b.all fun y=>!(jY x.v y.v && !jb x.t y.t)
theorem JW (a b:List cB):agree a b=a.all fun x=>dV x b:=by simp only [agree,dV,BN]
end
def uj:List (List cB)->List (List cB)->Bool
 |x::xs,y::ys=>agree x y && uj xs ys
 |_,_=>true
def ko:List (List cB)->List (List cB)->List (List cB)
 |x::xs,y::ys=>gY x y::ko xs ys
 |_,_=>[]
def ok2 (x y:Cs):Bool:=jv x.tests y.tests && (decide (x.subs.length=y.subs.length) && uj x.subs y.subs)
def rq:List Cs->List Cs->Bool
 |x::xs,y::ys=>ok2 x y && rq xs ys
 |_,_=>true
def Uu (x y:Cs):Cs:=⟨x.tests,ko x.subs y.subs⟩
def uh:List Cs->List Cs->List Cs
 |x::xs,y::ys=>Uu x y::uh xs ys
 |_,_=>[]
theorem PG:∀(xs ys:List (List cB)),BJ xs ys=cond (decide (xs.length=ys.length) && uj xs ys) (some (ko xs ys)) none
 |[],[]=>rfl
 |[],_::_=>by simp [BJ]
 |_::_,[]=>by simp [BJ]
 |x::xs,y::ys=>by
  rw [BJ,PG xs ys,uj,ko];have e:decide ((x::xs).length=(y::ys).length)=decide (xs.length=ys.length):=by simp
  rw [e];cases agree x y<;>cases decide (xs.length=ys.length)<;>cases uj xs ys<;>rfl
theorem xe:∀(xs ys:List Cs),BH xs ys=cond (decide (xs.length=ys.length) && rq xs ys) (some (uh xs ys)) none
 |[],[]=>rfl
 |[],_::_=>by simp [BH]
 |_::_,[]=>by simp [BH]
 |x::xs,y::ys=>by
  rw [BH,xe xs ys,PG,rq,uh,ok2];have e:decide ((x::xs).length=(y::ys).length)=decide (xs.length=ys.length):=by simp
  rw [e];cases jv x.tests y.tests<;>cases decide (x.subs.length=y.subs.length)<;>cases uj x.subs y.subs<;>cases decide (xs.length=ys.length)<;>cases rq xs ys<;>rfl
theorem OE (c:bH):[au (aj c) 3,au (aj c) 4,au (aj c) 5,au (aj c) 6,au (aj c) 7,au (aj c) 8,au (aj c) 9,au (aj c) 10,au (aj c) 11,au (aj c) 12,au (aj c) 13]=af c.measure:=by
 unfold aj;generalize hb:af c.measure=bd;have h:=ah c.measure;rw [hb] at h
 match bd,h with
 |[_,_,_,_,_,_,_,_,_,_,_],_=>rfl
@[simp] def dG (r:List W):List W:=.c cz:: .c cz:: .c cz:: .c (ci 0):: .c ce:: .c ce:: .c (ci 0):: .c ce:: .c ce:: .c ce:: .c ce:: .c ce:: .c cz:: .c cz:: .c cz:: .c (ci 0)::r
@[simp] def mw (a b:bH) (r:List W):List W:=.c (rows bW (dX a.changed b.changed)):: .c (rows bW (dX a.fixed b.fixed)):: .c (au (aj a) 3):: .c (au (aj a) 4):: .c (au (aj a) 5):: .c (au (aj a) 6):: .c (au (aj a) 7):: .c (au (aj a) 8):: .c (au (aj a) 9):: .c (au (aj a) 10):: .c (au (aj a) 11):: .c (au (aj a) 12):: .c (au (aj a) 13):: .c (ci ((a.score:Int)+b.score))::r
def g1 (a b:bH) (i:Nat) (x y:Cs) (k:Nat):List W:=.c (ci (a.cases.length)):: .c (ci i):: .c (ci (x.subs.length)):: .c (ci k):: .l (aj a):: .l (aj b)::dG (dG (.l (aQ x):: .l (aQ y)::[]))
def g2 (a b:bH) (i:Nat) (out:List Cs):List W:=.c (ci (a.cases.length)):: .c (ci i):: .l (aj a):: .l (aj b)::dG (mw a b (.c (rows af (a.calls++b.calls)):: .c (rows aQ out)::[]))
def g3 (a b:bH) (i:Nat) (x y:Cs) (k:Nat) (out:List Cs) (acc:List (List cB)):List W:=.c (ci (a.cases.length)):: .c (ci i):: .c (ci (x.subs.length)):: .c (ci k):: .l (aj a):: .l (aj b)::dG (mw a b (.l (aQ x):: .l (aQ y):: .c (rows af (a.calls++b.calls)):: .c (rows aQ out):: .c (rows af x.tests):: .c (rows encS acc)::[]))
def g4 (a b:bH) (i:Nat) (x y:Cs) (k:Nat) (q:List cB) (j:Nat) (s:List cB) (out:List Cs) (acc:List (List cB)):List W:=.c (ci k):: .c (ci (a.cases.length)):: .c (ci i):: .c (ci (x.subs.length)):: .c (ci k):: .c (rows bu q):: .c (ci (q.length)):: .c (ci j):: .l (aj a):: .l (aj b)::dG (mw a b (.l (aQ x):: .l (aQ y):: .c (rows bu s):: .c (rows af (a.calls++b.calls)):: .c (rows aQ out):: .c (rows af x.tests):: .c (rows encS acc)::[]))
def g5 (a b:bH) (i:Nat) (x y:Cs) (k:Nat) (q:List cB) (j:Nat) (there:Bool) (p:List cB) (l:Nat) (qa:cB) (s:List cB) (out:List Cs) (acc:List (List cB)):List W:=.c (ci k):: .c (cb there):: .c (ci (a.cases.length)):: .c (ci i):: .c (ci (x.subs.length)):: .c (ci k):: .c (rows bu q):: .c (ci (q.length)):: .c (ci j):: .c (rows bu p):: .c (ci (p.length)):: .c (ci l):: .l (aj a):: .l (aj b)::dG (mw a b (.l (aQ x):: .l (aQ y):: .c (rows bu s):: .l (bu qa):: .c (rows af (a.calls++b.calls)):: .c (rows aQ out):: .c (rows af x.tests):: .c (rows encS acc)::[]))
def GK (a b:bH) (out:List Cs):bH:=⟨a.calls++b.calls,dX a.changed b.changed,dX a.fixed b.fixed,out,a.measure,a.score+b.score⟩
structure okM (a b:bH):Prop where
 oa:kU a
 ob:kU b
 sa:a.score < 100000
 sb:b.score < 100000
 len:a.cases.length=b.cases.length
 ch:a.changed.length < 50000/\b.changed.length < 50000
 fx:a.fixed.length < 50000/\b.fixed.length < 50000
 ca:a.calls.length < 50000/\b.calls.length < 50000
section
variable {nat:Nat->List V->Option (List V)}
def xO (p:List cB) (q:cB):Bool:=p.any fun x=>jY x.v q.v
theorem CP (x y:List cB):gY x y=x++y.filter fun q=>!xO x q:=by simp only [gY,xO,BN]
end
end Go.Ey.Pr
