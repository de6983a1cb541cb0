import Derived.Test.YtolnnaanmfnkjaaGreatDoorZ34
import Derived.Test.YtolnnaanmfnkjaaGreatDoorZ38
import Derived.Laws.EntriesVeiled
set_option linter.all false
set_option maxHeartbeats 0
set_option maxRecDepth 100000
noncomputable section
namespace Go.Ey.Pr
open Seat RowKit Proofs
structure Rb (R:Nat->List V->List V->Prop):Prop where
 uniq:∀{f:Nat} {vs rs rs':List V},R f vs rs->R f vs rs'->rs=rs'
 isN:∀{f:Nat} {vs rs:List V},R f vs rs->isN f=true
 ok:∀{f:Nat} {vs rs:List V},R f vs rs->nY PP f vs rs
open Classical in
def Hw (R:Nat->List V->List V->Prop) (f:Nat) (vs:List V):Option (List V):=if h:∃rs,R f vs rs then some (Classical.choose h) else none
theorem V5 {R:Nat->List V->List V->Prop} {f:Nat} {vs rs:List V} (h:Hw R f vs=some rs):R f vs rs:=by
 unfold Hw at h;split at h
 ·rename_i hx;have:=Classical.choose_spec hx
  simp only [A0] at h
  rwa [h] at this
 ·cases h
theorem Rb.at {R:Nat->List V->List V->Prop} (h:Rb R) {f:Nat} {vs rs:List V} (r:R f vs rs):Hw R f vs=some rs:=by have hx:∃rs,R f vs rs:=⟨rs,r⟩;unfold Hw;rw [dif_pos hx,h.uniq (Classical.choose_spec hx) r]
theorem Rb.seat {R:Nat->List V->List V->Prop} (h:Rb R):(T (Hw R)).OK:=
 ⟨fun f vs hf=>by
  cases hn:Hw R f vs with
  |none=>exact hn
  |some rs=>have h2:=h.isN (V5 hn);exact absurd (hf.symm.trans h2) (by decide),fun f vs rs hn=>h.ok (V5 hn),Wz _,Tryz.mixed⟩
theorem akR:isN 283=true:=by kernel_rfl
theorem aqC:isN 44=true:=by kernel_rfl
def R0 (f:Nat) (vs rs:List V):Prop:=
 (∃n:Int,(-3<=n/\n<=3)/\f=283/\vs=[.one (ci n),.one (ci 10)]/\rs=[.one (cs (OI n))])\/
 (∃ts:List Tm,((∀x∈ts,Gq x)/\au ts<=90000)/\f=44/\vs=[.one (rows aa ts)]/\rs=[.one (rows aa (fG [] ts))])
theorem LY {a b:C} {l m:List V} (h:V.one a::l=.one b::m):a=b/\l=m:=by simp only [Dg,V.one.injEq] at h;exact h
theorem aay {f:Nat} {vs rs rs':List V} (h:R0 f vs rs) (h':R0 f vs rs'):rs=rs':=by
 rcases h with ⟨n,_,hf,hv,rfl⟩|⟨ts,_,hf,hv,rfl⟩<;>subst hf<;>subst hv<;>
  rcases h' with ⟨n',_,hf,hv,rfl⟩|⟨ts',_,hf,hv,rfl⟩<;>try (cases hf;done)
 ·have:=(LY hv).1
  simp only [ci,C.lit.injEq,Value.int.injEq,L4] at this;rw [this]
 ·rw [Kl (LY hv).1]
theorem ajd {f:Nat} {vs rs:List V} (h:R0 f vs rs):nY PP f vs rs:=by
 rcases h with ⟨n,hp,rfl,rfl,rfl⟩|⟨ts,hp,rfl,rfl,rfl⟩
 ·exact alz hp.1 hp.2
 ·exact anr hp.1 hp.2
theorem Km {f:Nat} {vs rs:List V} (h:R0 f vs rs):f=283\/f=44:=by rcases h with ⟨_,_,rfl,_⟩|⟨_,_,rfl,_⟩<;>simp
theorem aeJ:Rb R0:=⟨aay,fun h=>by
  rcases Km h with rfl|rfl
  ·exact akR
  ·exact aqC,ajd⟩
theorem anR {R:Nat->List V->List V->Prop} (h:Rb R) (hs:∀{f vs rs},R0 f vs rs->R f vs rs):qd (Hw R):=
 ⟨h.at (hs (.inl ⟨0,by omega,rfl,rfl,rfl⟩)),h.at (hs (.inl ⟨1,by omega,rfl,rfl,rfl⟩))⟩
mutual
def toC:K->C
 |.i k n=> .lit (.int k n)
 |.b x=> .lit (.bool x)
 |.s l w=> .lit (.string ⟨(strOf l w).toArray⟩)
 |.o v=> .lit v
 |.sl _ rev n=> .slice (am3 rev) n
def OX:List K->List C
 |[]=>[]
 |x::xs=>toC x::OX xs
def am3:List (List K)->List C
 |[]=>[]
 |r::rs=>am3 rs++OX r
end
mutual
def wfK:K->Bool
 |.i _ _=>true
 |.b _=>true
 |.s l w=>Nat.blt w (256 ^ l)
 |.o _=>true
 |.sl e rev n=>Nat.beq rev.length n && aiE e rev
def Xi:List K->Bool
 |[]=>true
 |x::xs=>wfK x && Xi xs
def aiE (e:Nat):List (List K)->Bool
 |[]=>true
 |r::rs=>Nat.beq r.length e && (Xi r && aiE e rs)
end
mutual
theorem aeo:∀k:K,wfK k=true->RK k (toC k)
 |.i k n,_=>RK.i k n
 |.b x,_=>RK.b x
 |.s l w,h=>by simp only [wfK,Nat.blt_eq] at h;exact RK.s l w _ (by simp) h
 |.o v,_=>RK.o v
 |.sl e rev n,h=>by simp only [wfK,A5] at h;exact RK.sl e rev n _ (aaQ e rev h.2) (Bx h.1)
theorem H7:∀ks:List K,Xi ks=true->gJ ks (OX ks)
 |[],_=> .nil
 |x::xs,h=>by simp only [Xi,A5] at h;exact .cons (aeo x h.1) (H7 xs h.2)
theorem aaQ (e:Nat):∀rs:List (List K),aiE e rs=true->nO e rs (am3 rs)
 |[],_=> .nil
 |r::rs,h=>by simp only [aiE,A5] at h;exact .cons (H7 r h.2.1) (Bx h.1) (aaQ e rs h.2.2)
end
theorem apG:wfK D6=true:=by kernel_rfl
theorem aoR {cw:C} (h:RK D6 cw):cw=toC D6:=RK.one h (aeo _ apG)
def agi:Value->Value->Bool
 |.int k n,.int k' n'=>decide (k=k') && decide (n=n')
 |.bool a,.bool b=>decide (a=b)
 |.string a,.string b=>decide (a=b)
 |_,_=>false
theorem agc {a b:Value} (h:agi a b=true):a=b:=by
 unfold agi at h;split at h
 ·simp only [A5,G0] at h;rw [h.1,h.2]
 ·rw [of_decide_eq_true h]
 ·rw [of_decide_eq_true h]
 ·cases h
mutual
def Jd:C->C->Bool
 |.lit a,.lit b=>agi a b
 |.slice a n,.slice b m=>Nat.beq n m && Cj a b
 |_,_=>false
def Cj:List C->List C->Bool
 |[],[]=>true
 |x::xs,y::ys=>Jd x y && Cj xs ys
 |_,_=>false
end
mutual
theorem FY:∀(a b:C),Jd a b=true->a=b
 |.lit a,.lit b,h=>by rw [agc (show agi a b=true from h)]
 |.slice a n,.slice b m,h=>by simp only [Jd,A5] at h;rw [Bx h.1,aaJ _ _ h.2]
 |.lit _,.slice _ _,h=>by simp [Jd] at h
 |.slice _ _,.lit _,h=>by simp [Jd] at h
theorem aaJ:∀(a b:List C),Cj a b=true->a=b
 |[],[],_=>rfl
 |x::xs,y::ys,h=>by simp only [Cj,A5] at h;rw [FY _ _ h.1,aaJ _ _ h.2]
 |[],_::_,h=>by simp [Cj] at h
 |_::_,[],h=>by simp [Cj] at h
end
def cStr:C->ByteArray
 |.lit (.string s)=>s
 |_=>⟨#[]⟩
def dO:Nat->List C->Option Ob
 |n+1,[.lit (.int _ (.ofNat c)),a1,a2,a3,a4,a5,r]=>
  match c with
  |1=>some (.num (cStr a1) (cStr a2))
  |2=>some (.sy (cStr a3) (cStr a4))
  |3=>some (.st (cStr a5))
  |4=>match r with
   |.slice xs _=>(dO n (xs.take 7)).bind fun x=>(dO n (xs.drop 7)).map fun y=> .cons x y
   |_=>none
  |_=>none
 |_,_=>none
def dL (f:List C->Option Tm):Nat->List C->Option (List Tm)
 |0,_=>some []
 |n+1,xs=>(f (xs.take 11)).bind fun t=>(dL f n (xs.drop 11)).map fun ts=>t::ts
def dT:Nat->List C->Option Tm
 |n+1,[.lit (.int _ (.ofNat c)),p,s,o0,o1,o2,o3,o4,o5,o6,z]=>
  match c with
  |1=>some (.var (cStr p) (cStr s))
  |2=>(dO 20 [o0,o1,o2,o3,o4,o5,o6]).map .dV
  |3=>match z with
   |.slice xs m=>(dL (dT n) m xs).map fun ts=> .app (cStr p) (cStr s) ts
   |_=>none
  |_=>none
 |_,_=>none
def vX:Tm:=.var usr ⟨#[120]⟩
def vY:Tm:=.var usr ⟨#[121]⟩
def vZ:Tm:=.var usr ⟨#[122]⟩
def apV:ByteArray:=⟨#[98,105,110,97,114,121,45,97,112,112,101,110,100]⟩
def apR:ByteArray:=⟨#[101,113,117,97,108]⟩
def apT (a b:Tm):Tm:=.app dw apV [a,b]
def aer:Tm:=.app dw apR [apT (apT vX vY) vZ,apT vX (apT vY vZ)]
theorem q1:OJ dw:=⟨by decide,fun T=>rfl⟩
theorem q2:OJ apV:=⟨by decide,fun T=>rfl⟩
theorem q3:OJ apR:=⟨by decide,fun T=>rfl⟩
theorem q4:OJ usr:=⟨by decide,fun T=>rfl⟩
theorem q5:OJ (⟨#[120]⟩:ByteArray):=⟨by decide,fun T=>rfl⟩
theorem q6:OJ (⟨#[121]⟩:ByteArray):=⟨by decide,fun T=>rfl⟩
theorem q7:OJ (⟨#[122]⟩:ByteArray):=⟨by decide,fun T=>rfl⟩
theorem akn:UN aer:=by
 refine ⟨by kernel_rfl,?_,by decide⟩
 simp only [aer,apT,vX,vY,vZ,FB,P8,q1,q2,q3,q4,q5,q6,q7];simp
def dA:Nat->List C->List cu
 |0,_=>[]
 |n+1,a::b::r=>⟨(cStr a,cStr b),(dT 100 (r.take 11)).getD vX⟩::dA n (r.drop 11)
 |_,_=>[]
def atn:C->List cu
 |.slice az m=>dA m az
 |_=>[]
def dK:Nat->List C->List Cs
 |0,_=>[]
 |n+1,.slice ts a:: .slice ss _::r=>⟨(dL (dT 100) a ts).getD [],ss.map atn⟩::dK n r
 |_,_=>[]
def Ti:Option (List V)->Option (Option (List Cs))
 |some [.one (.slice xs n),.one (.lit (.bool b))]=>cond b (cond (Jd (rows dh (dK n xs)) (.slice xs n)) (some (some (dK n xs))) none) (cond (Jd cz (.slice xs n)) (some none) none)
 |_=>none
theorem Su {r:Option (List V)} {sc:Option (List Cs)} (h:Ti r=some sc):r=some (LC sc):=by
 unfold Ti at h;split at h
 ·rename_i xs n b;cases b with
  |true=>
   cases hq:Jd (rows dh (dK n xs)) (.slice xs n) with
   |false=>rw [hq] at h;cases h
   |true=>
    rw [hq] at h;cases h;simp only [LC,FY _ _ hq];rfl
  |false=>
   cases hq:Jd cz (.slice xs n) with
   |false=>rw [hq] at h;cases h
   |true=>
    rw [hq] at h;cases h;simp only [LC,FY _ _ hq];rfl
 ·cases h
theorem anM:nY PP 10 [.one (.lit (.int .u32 0))] [.one (toC D6)]:=by obtain ⟨w,hw,h⟩:=ad2 (anR aeJ id);obtain rfl:=aoR hw;exact aeJ.seat.fn (by kernel_rfl) h
end Go.Ey.Pr
namespace Go.Proofs
open RowKit Ey Ey.Pr Ey.Seat Maps
theorem Tryz.aub (ts:List Tm) (S:Nat->Nat->Prop) (q:Option Addr) (d:Nat) (w:World) (hok:∀x∈ts,UN x) (hsz:au ts<=80000) (hk:keeps.Inv w.heap.size w) (hargs:su w.heap.size S ts q w):
  Calls Tryz.prog 42 #[.slice q ts.length d] w fun e w'=>∃v',e=.returned v'/\gB w.heap.size S v' (lq [] ts) w'/\Below w.heap.size w w':=by
 have hnt:ts.length<=80000:=by have:=lZ ts;omega
 obtain ⟨w1,hw1⟩:∃w1,w1=w.alloc (.cells #[.slice none 0 0] 27):=⟨_,rfl⟩;obtain ⟨w2,hw2⟩:∃w2,w2=w1.alloc (.map #[] 0):=⟨_,rfl⟩;obtain ⟨w3,hw3⟩:∃w3,w3=w2.alloc (.cells #[.map (some (w.heap.size+1))] 146):=⟨_,rfl⟩;obtain ⟨w4,hw4⟩:∃w4,w4=w3.alloc (.cells #[.func (.func 108) #[] #[.pointer (some ⟨w.heap.size+1+1,0,none⟩),.pointer (some ⟨w.heap.size,0,none⟩),.pointer (some ⟨w.heap.size+1+1+1,0,none⟩)]] 147):=⟨_,rfl⟩;have b1:Below w.heap.size w w1:=by rw [hw1];exact (Below.refl _ w).alloc (An _) _
 have b2:Below w1.heap.size w1 w2:=by rw [hw2];exact (Below.refl _ w1).alloc (An _) _
 have b3:Below w2.heap.size w2 w3:=by rw [hw3];exact (Below.refl _ w2).alloc (An _) _
 have b4:Below w3.heap.size w3 w4:=by rw [hw4];exact (Below.refl _ w3).alloc (An _) _
 have hs1:w1.heap.size=w.heap.size+1:=by rw [hw1];simp
 have hs2:w2.heap.size=w.heap.size+2:=by rw [hw2];simp [hs1]
 have hs3:w3.heap.size=w.heap.size+3:=by rw [hw3];simp [hs2]
 have hs4:w4.heap.size=w.heap.size+4:=by rw [hw4];simp [hs3]
 have b04:Below w.heap.size w w4:=b1.trans ((b2.mono b1.size).trans ((b3.mono (by omega)).trans (b4.mono (by omega))))
 obtain ⟨O,hO'⟩:∃O,Hid (O=w.heap.size):=⟨_,⟨rfl⟩⟩;have hO:=hO'.h;obtain ⟨M,hM'⟩:∃M,Hid (M=w.heap.size+1):=⟨_,⟨rfl⟩⟩;have hM:=hM'.h;obtain ⟨Sn,anu⟩:∃Sn,Hid (Sn=w.heap.size+1+1):=⟨_,⟨rfl⟩⟩;have hSn:=anu.h;obtain ⟨Ad,aqp⟩:∃Ad,Hid (Ad=w.heap.size+1+1+1):=⟨_,⟨rfl⟩⟩;have hAd:=aqp.h;have hfs:Xa w.heap.size S O M Sn Ad [] (.slice none 0 0) w4:=by
  refine ⟨?_,gB.nil b04.size,?_,?_,?_,by omega,by omega⟩
  ·rw [hO,b4.block _ (by omega),b3.block _ (by omega),b2.block _ (by omega),hw1]
   show (w.heap.push _)[w.heap.size]?=_
   simp
  ·rw [hSn,b4.block _ (by omega),hw3,show w.heap.size+1+1=w2.heap.size from hs2.symm]
   show (w2.heap.push _)[w2.heap.size]?=_
   rw [hM];simp
  ·have e:=heap_alloc_new w3 (.cells #[.func (.func 108) #[] #[.pointer (some ⟨w.heap.size+1+1,0,none⟩),.pointer (some ⟨w.heap.size,0,none⟩),.pointer (some ⟨w.heap.size+1+1+1,0,none⟩)]] 147);rw [hs3] at e;rw [hAd,hSn,hO,hw4];exact e
  ·refine jA.kept (w:=w2) ?_ ?_
   ·rw [hM,hw2,<-hs1];exact jA.nil
   ·rw [hM,b4.block _ (by omega),b3.block _ (by omega)]
 have hk4:keeps.Inv w.heap.size w4:=keeps.keep b04 hk;clear hO hM hSn hAd;have atL:Hid _:=⟨hw1⟩;have asI:Hid _:=⟨hw2⟩;have arj:Hid _:=⟨hw3⟩;have ato:Hid _:=⟨hw4⟩;clear hw1 hw2 hw3 hw4 hs1 hs2 hs3 hs4 b1 b2 b3 b4;have hmm:=@run_makeMap Tryz.prog;go_enter Tryz.func42,Tryz.ntmps42;go_wp2;rw [<-atL.h,<-asI.h,<-arj.h,<-ato.h];rw [<-aqp.h,<-anu.h,<-hO'.h];go_loopw [12] (fun i wy=>∃(kk:Nat) (vz:Value),kk<=ts.length/\i=.int .i64 kk/\Xa w.heap.size S O M Sn Ad (lq [] (ts.take kk)) vz wy/\SF O M (.slice none 0 0) vz w4 wy) (fun i _=>ts.length - (intOf i).toNat)
 case atStart=>exact ⟨0,_,Fl _,rfl,hfs,SF.refl _ _ _ _⟩
 case round=>
  obtain ⟨kk,vz,hkk,rfl,hfz,hsz'⟩:=hrel;have Ao:Below w.heap.size w wr:=b04.trans (hsz'.below b04.size hfs.leO hfs.leM fun k hk=>by simp [Value.ownBlock] at hk)
  have hOc:=cell_of_one hfz.ob;by_cases hx2:kk < ts.length
  ·obtain ⟨y,hyk⟩:∃y,ts[kk]?=some y:=⟨_,A6 hx2⟩;have hym:=C3 hyk;obtain ⟨bk,o,Fp,rfl,hyu,KQ⟩:=hargs.get Ao hyk;obtain ⟨y0,y1,y2,y3,y4,y5,y6,y7,y8,yp,yl,yc,yq,ym,yd,rfl⟩:=bL (qx.rb hyu);obtain ⟨e0,e1,e2,e3,e4,e5,e6,e7,e8,e9,e10⟩:=SY KQ;clear KQ;obtain ⟨wb,hwb⟩:∃wb,wb=wr.alloc (.cells #[.int .i64 y0,.string y1,.string y2,.int .i64 y3,.string y4,.string y5,.string y6,.string y7,.string y8,.slice yp yl yc,.slice yq ym yd] 44):=⟨_,rfl⟩;have bb:Below wr.heap.size wr wb:=by rw [hwb];exact (Below.refl _ wr).alloc (An _) _
   have hAc:=cell_of_one hfz.ab;have hAl:Ad < wr.heap.size:=(Bk.1 hfz.ab).1;have hn1:=mg hyk;have hn2:=EN (ts.take kk) [];simp only [G3] at hn2;have c2:=(Tryz.apd w.heap.size S O M Sn Ad y).use (hfz.keep bb) (keeps.keep (Ao.trans (bb.mono hfz.row.le)) hk) (hok y hym) (by omega) (qx.keep (bb.mono hfz.row.le) hyu)
   go_wp2_with (go_at_call 108;rw [<-hwb];refine c2.mono ?_);rintro e w5 ⟨rfl,v5,hf5,hs5⟩;go_wp2;go_roundw
   case rel=>exact ⟨kk+1,v5,by omega,by simp,by rw [jD hyk,Ga];exact hf5,hsz'.trans ((SF.dJ bb).trans hs5)⟩
   case measure=>simp [intOf];omega
  ·obtain rfl:kk=ts.length:=by omega
   rw [Ge] at hfz;go_wp2;go_ret;exact ⟨vz,rfl,hfz.row,Ao⟩
end Go.Proofs
namespace Go.Ey.Pr
open Seat RowKit Proofs
theorem ajo {ts:List Tm} (hok:∀x∈ts,UN x) (hsz:au ts<=80000):nY PP 42 [.one (rows aa ts)] [.one (rows aa (lq [] ts))]:=by
 rw [sF,sF];refine ⟨H8 (by kernel_rfl),fun S w us hinv hall=>?_⟩
 match us,hall with
 |[u],⟨hu,_⟩=>
  obtain ⟨q,d,rfl,_,hargs⟩:=GZ hu;refine Calls.mono (Tryz.aub ts S q d w hok hsz hinv hargs) ?_;rintro e w' ⟨v,rfl,htr,hb⟩;exact ⟨v,rfl,htr.rep,hb⟩
end Go.Ey.Pr
namespace Go.Ey
variable [lV]
def codeOf (P:Program) (sh:Nat->Nat) (k:Nat):Option Lh:=match P.funcs[k]? with
 |some fn=>cond (fn.name== "runtime.NumGoroutine") none (Ku P sh fn)
 |none=>none
theorem Qb {P:Program} {sh:Nat->Nat} {nat:Nat->List V->Option (List V)} (hn:∀f vs rs,nat f vs=some rs->nY P f vs rs) (hm:P.follows .mixedOrders=true):Table P sh ⟨codeOf P sh,nat⟩:=by
 refine ⟨hn,fun f I h=>?_,hm⟩
 have h:codeOf P sh f=some I:=h;unfold codeOf at h;split at h
 ·rename_i fn hf;cases hb:(fn.name== "runtime.NumGoroutine") with
  |true=>rw [hb] at h;cases h
  |false=>rw [hb] at h;exact ⟨fn,hf,h,hb⟩
 ·cases h
def ag0:Lh:=⟨1,[.tmp 2],.seq (.region [⟨some 2,.YY (.k (.slice none 0 0)),none⟩]) (.seq (.region [⟨some 3,.YY (.t 0),none⟩,⟨some 4,.YY (.t 0),none⟩,⟨some 5,.len false (.t 4),none⟩,⟨some 6,.YY (.t 0),none⟩,⟨some 7,.len false (.t 6),none⟩,⟨some 8,.clip 11 (.t 3) none (.t 5) (.t 7),none⟩,⟨some 2,.YY (.t 8),none⟩]) .ret)⟩
theorem ah6 {F:DF} (hF:F.code 202=some ag0) {cs:List C} {n:Nat} (h:cs.length=n * 11):∃nx,gu F 6 202 [.c (.slice cs n)] [] 0=some ([.full cs n],[],nx):=by
 have h2:asInt (JQ n)=some (n:Int):=rfl;have h3:Lr 11 cs n none (some (JQ n))=some (cs,n):=by
  have:(0:Int)<=(n:Int):=Int.natCast_nonneg n
  simp [Lr,OQ,I4,h2,this,<-h]
 refine ⟨8,?_⟩;simp only [gu,hF,ag0,A2,A4,C5,G3,E7,jf,bZ,mX,wanted,og,wQ,C2,C7,dX,step,dF,Hj,yh,fT,j5,ay,Nn,Qy,h2,nP,h3,Ei,Option.map_none];simp [yh,scalar,fT,j5,ay,Nn,Qy,h2,nP,h3,Ei]
theorem agu {P:Program} {sh:Nat->Nat} (hm:P.follows .mixedOrders=true) (hc:codeOf P sh 202=some ag0) {cs:List C} {n:Nat} (h:cs.length=n * 11):nY P 202 [.one (.slice cs n)] [.full cs n]:=by
 obtain ⟨nx,h1⟩:=ah6 (F:=⟨codeOf P sh,fun _ _=>none⟩) hc h
 exact aiy (Qb (fun _ _ _ hx=>by cases hx) hm) h1
end Go.Ey
namespace Go.Ey.Pr
open Seat RowKit Proofs
def arz:Nat:=45531302174626236173798826900977936589163523608940976899275804611004669993687187456
def aq9:Nat:=904128772253872856333806503493613816956415717335879954802457643279450112
def shX (f:Nat):Nat:=cond (Nat.testBit arz f) 4 (cond (Nat.testBit aq9 f) 1 0)
def aa2 (l:List Tm):Bool:=Nat.ble l.length 1000 && l.all fun t=>Nat.ble (ah t) 3000
theorem aah {l:List Tm} (h:aa2 l=true):Um l/\l.length<=1000:=by simp only [aa2,A5,Ln,D0] at h;exact ⟨h.2,h.1⟩
def aeE (cs:List C) (n:Nat) (ds:List C) (m:Nat):Option (List V):=(dL (dT 100) n cs).bind fun cl=>(dL (dT 100) m ds).bind fun ts=>
 cond (Jd (rows aa cl) (.slice cs n) && (Jd (rows aa ts) (.slice ds m) && (aa2 cl && aa2 ts))) (some [.one (rows aa (ts.foldl xz cl))]) none
theorem aev {cs ds:List C} {n m:Nat} {rs:List V} (h:aeE cs n ds m=some rs):nY PP 72 [.one (.slice cs n),.one (.slice ds m)] rs:=by
 unfold aeE at h;obtain ⟨cl,h1,h2⟩:=A1.1 h;obtain ⟨ts,h3,h4⟩:=A1.1 h2;cases hq:(Jd (rows aa cl) (.slice cs n) && (Jd (rows aa ts) (.slice ds m) && (aa2 cl && aa2 ts))) with
 |false=>rw [hq] at h4;cases h4
 |true=>
  rw [hq] at h4;cases h4;simp only [A5] at hq;obtain ⟨q1,q2,q3,q4⟩:=hq;have k1:=aah q3;have k2:=aah q4;rw [<-FY _ _ q1,<-FY _ _ q2];exact ao3 k1.1 k2.1 (by omega)
def amj (f:Nat) (vs:List V):Option (List V):=
 match vs with
 |[.one (.slice cs n)]=>cond (Nat.beq f 202) (cond (Nat.beq cs.length (n * 11)) (some [.full cs n]) none)
   (cond (Nat.beq f 42) (cond (Jd (rows aa [aer]) (.slice cs n)) (some [.one (rows aa (lq [] [aer]))]) none) none)
 |[.one (.slice cs n),.one (.slice ds m)]=>cond (Nat.beq f 72) (aeE cs n ds m) none
 |[.one (.lit (.int .u32 (.ofNat 0)))]=>cond (Nat.beq f 10) (some [.one (toC D6)]) none
 |_=>none
theorem aoc:codeOf PP shX 202=some ag0:=by kernel_rfl
theorem aiR {f:Nat} {vs rs:List V} (h:amj f vs=some rs):nY PP f vs rs:=by
 unfold amj at h;split at h
 ·rename_i cs n;cases h1:Nat.beq f 202 with
  |true=>
   rw [h1,F1] at h;obtain rfl:=Bx h1;cases hq:Nat.beq cs.length (n * 11) with
   |false=>rw [hq] at h;cases h
   |true=>
    rw [hq] at h;cases h;exact agu Tryz.mixed aoc (Bx hq)
  |false=>
   rw [h1,Ek] at h;cases h3:Nat.beq f 42 with
   |true=>
    rw [h3,F1] at h;obtain rfl:=Bx h3;cases hq:Jd (rows aa [aer]) (.slice cs n) with
    |false=>rw [hq] at h;cases h
    |true=>
     rw [hq] at h;cases h;rw [<-FY _ _ hq];exact ajo (fun x hx=>by rw [B8.1 hx];exact akn) (by decide)
   |false=>rw [h3] at h;cases h
 ·cases h1:Nat.beq f 72 with
  |true=>
   rw [h1] at h;obtain rfl:=Bx h1;exact aev h
  |false=>rw [h1] at h;cases h
 ·cases h1:Nat.beq f 10 with
  |true=>
   rw [h1] at h;cases h;obtain rfl:=Bx h1;exact anM
  |false=>rw [h1] at h;cases h
 ·cases h
abbrev FX:DF:=⟨codeOf PP shX,amj⟩
theorem xok {n f:Nat} {vs rs:List V} (h:jL FX n f vs=some rs):nY PP f vs rs:=UY (Qb (fun _ _ _ h=>aiR h) Tryz.mixed) h
def ak8:Option (List V)->Bool
 |some [.one (.lit (.bool true))]=>true
 |_=>false
theorem ahW {r:Option (List V)} (h:ak8 r=true):r=some [.one (cb true)]:=by
 unfold ak8 at h;split at h
 ·rfl
 ·cases h
theorem amd (c:gX):[ak (aZ c) 3,ak (aZ c) 4,ak (aZ c) 5,ak (aZ c) 6,ak (aZ c) 7,ak (aZ c) 8,ak (aZ c) 9,ak (aZ c) 10,ak (aZ c) 11,ak (aZ c) 12,ak (aZ c) 13]=aa c.measure:=by
 unfold aZ;generalize hb:aa c.measure=bd;have h:=af c.measure;rw [hb] at h
 match bd,h with
 |[_,_,_,_,_,_,_,_,_,_,_],_=>rfl
@[simp] def Y4 (r:List W):List W:=.c cz:: .c cz:: .c cz:: .c (ci 0):: .c ce:: .c ce:: .c (ci 0):: .c ce:: .c ce:: .c ce:: .c ce:: .c ce:: .c cz:: .c cz:: .c cz:: .c (ci 0)::r
@[simp] def mw (a b:gX) (r:List W):List W:=.c (rows bP (Xr a.changed b.changed)):: .c (rows bP (Xr a.fixed b.fixed)):: .c (ak (aZ a) 3):: .c (ak (aZ a) 4):: .c (ak (aZ a) 5):: .c (ak (aZ a) 6):: .c (ak (aZ a) 7):: .c (ak (aZ a) 8):: .c (ak (aZ a) 9):: .c (ak (aZ a) 10):: .c (ak (aZ a) 11):: .c (ak (aZ a) 12):: .c (ak (aZ a) 13):: .c (ci ((a.score:Int)+b.score))::r
def g0 (a b:gX) (i:Nat):List W:=.c (ci (a.cases.length)):: .c (ci i):: .l (aZ a):: .l (aZ b)::Y4 (Y4 ([]))
def g1 (a b:gX) (i:Nat) (x y:Cs) (k:Nat):List W:=.c (ci (a.cases.length)):: .c (ci i):: .c (ci (x.subs.length)):: .c (ci k):: .l (aZ a):: .l (aZ b)::Y4 (Y4 (.l (dh x):: .l (dh y)::[]))
def g2 (a b:gX) (i:Nat) (out:List Cs):List W:=.c (ci (a.cases.length)):: .c (ci i):: .l (aZ a):: .l (aZ b)::Y4 (mw a b (.c (rows aa (a.calls++b.calls)):: .c (rows dh out)::[]))
def g3 (a b:gX) (i:Nat) (x y:Cs) (k:Nat) (out:List Cs) (acc:List (List cu)):List W:=.c (ci (a.cases.length)):: .c (ci i):: .c (ci (x.subs.length)):: .c (ci k):: .l (aZ a):: .l (aZ b)::Y4 (mw a b (.l (dh x):: .l (dh y):: .c (rows aa (a.calls++b.calls)):: .c (rows dh out):: .c (rows aa x.tests):: .c (rows encS acc)::[]))
def g4 (a b:gX) (i:Nat) (x y:Cs) (k:Nat) (q:List cu) (j:Nat) (s:List cu) (out:List Cs) (acc:List (List cu)):List W:=.c (ci k):: .c (ci (a.cases.length)):: .c (ci i):: .c (ci (x.subs.length)):: .c (ci k):: .c (rows cK q):: .c (ci (q.length)):: .c (ci j):: .l (aZ a):: .l (aZ b)::Y4 (mw a b (.l (dh x):: .l (dh y):: .c (rows cK s):: .c (rows aa (a.calls++b.calls)):: .c (rows dh out):: .c (rows aa x.tests):: .c (rows encS acc)::[]))
structure amu (n:Nat) (x:Cs):Prop where
 tl:x.tests.length < 1000
 sl:x.subs.length < 1000
 ok:∀s∈x.subs,s.length<=n/\(s.map cu.v).Nodup/\∀a∈s,ah a.t<=30
 ts:∀t∈x.tests,ah t<=2900
structure okW (n:Nat) (c:gX):Prop where
 ca:c.calls.length<=n
 ch:c.changed.length<=n
 fx:c.fixed.length<=n
 sc:c.score<=n
 kl:c.cases.length < 1000
 ks:∀x∈c.cases,amu n x
 co:∀t∈c.calls,Gq t
 mo:Gq c.measure
structure OT (c:gX):Prop where
 w:okW 100 c
 ap:apart c.fixed c.changed=true
theorem anK {s:List cu} (h:∀a∈s,ah a.t<=30):yt s:=fun a ha=>Ca (by have:=h a ha;omega)
theorem amu.two {n:Nat} {x:Cs} (h:amu n x) (hn:n<=40000):akb x:=⟨by have:=h.tl;omega,by have:=h.sl;omega,fun s hs=>⟨by have:=(h.ok s hs).1;omega,anK (h.ok s hs).2.2⟩,fun t ht=>by have:=h.ts t ht;show ah t<=3000;omega⟩
theorem okW.cd {n:Nat} {c:gX} (h:okW n c) (hn:n<=40000):alo c:=⟨by have:=h.ca;omega,by have:=h.ch;omega,by have:=h.fx;omega,by have:=h.kl;omega,fun x hx=>(h.ks x hx).two hn⟩
theorem OT.cd {c:gX} (h:OT c):alo c:=h.w.cd (by omega)
theorem PZ:∀(n:Nat) (t:Tm),ah (HZ n t)<=ah t
 |0,t=>by simp [HZ]
 |n+1,t=>by
  cases h1:OL oG 1 t with
  |false=>simp only [HZ,h1,Ek];exact An _
  |true=>
   obtain ⟨a,rfl⟩:=AP h1;cases h2:OL oG 1 a with
   |false=>simp only [HZ,ai,h1,h2,Ek,F1];exact An _
   |true=>
    obtain ⟨b,rfl⟩:=AP h2;have h3:=PZ n b;simp only [HZ,ai,h1,h2,F1];simp only [ah,au];omega
theorem aab {g:Gd} {P:List cu->Prop} (h:∀c∈g.ks,∀s∈c.subs,P (g.ls s)) {c:Cs} (hc:c∈g.ks):∀(ss acc:List (List cu)),(∀s∈ss,s∈c.subs)->(∀s∈acc,P s)->(g.subs ss acc).length<=acc.length+ss.length/\∀s∈g.subs ss acc,P s
 |[],acc,_,ha=>⟨by simp [Gd.subs],ha⟩
 |s::ss,acc,hs,ha=>by
  have h1:=h c hc s (hs s Fk);have hacc:∀q∈g.add acc s,P q:=fun q hq=>by
   simp only [Gd.add] at hq;cases hk:wN acc (g.ls s) with
   |true=>rw [hk] at hq;exact ha q hq
   |false=>
    rw [hk,Ek] at hq;rcases B0.1 hq with hq|hq
    ·exact ha q hq
    ·rw [B8.1 hq];exact h1
  have hl:(g.add acc s).length<=acc.length+1:=by simp only [Gd.add];cases wN acc (g.ls s)<;>simp
  obtain ⟨h2,h3⟩:=aab h hc ss (g.add acc s) (fun q hq=>hs q (Fm _ hq)) hacc
  have e:g.subs (s::ss) acc=g.subs ss (g.add acc s):=rfl;rw [e];exact ⟨by simp only [C5];omega,h3⟩
theorem YK (dI:List aI) (s sub:List cu):∀(ps:List aI) (bs:List Bool) (ts:List Tm) (x y:Dj),Gi dI ps bs ts x=some y->((lsA s sub ps bs ts).map cu.v).Nodup/\∀v∈(lsA s sub ps bs ts).map cu.v,v ∉ x.vars
 |p::ps,b::bs,t::ts,x,y,h=>by
  rw [Gi] at h;cases hq:((b||gm dI p) && !(isVar t && !gm x.vars (aN t))) with
  |true=>rw [hq] at h;cases h
  |false=>
   rw [hq,Ek] at h;obtain ⟨h1,h2⟩:=YK dI s sub ps bs ts _ y h;cases b with
   |true=>
    simp only [Bool.true_or,Bool.true_and,Bool.not_eq_false',A5,L1,F1] at hq h2;have hn:aN t ∉ x.vars:=fun hm=>by rw [xY.2 hm] at hq;exact absurd hq.2 (by simp)
    rw [lsA,F1,D4,Kp];refine ⟨⟨fun hm=>h2 _ hm (by simp),h1⟩,fun v hv=>?_⟩
    rcases D2.1 hv with rfl|hv
    ·exact hn
    ·exact fun hm=>h2 v hv (F2 _ hm)
   |false=>
    rw [lsA,Ek];refine ⟨h1,fun v hv hm=>h2 v hv ?_⟩
    cases gm dI p with
    |true=>exact F2 _ hm
    |false=>exact hm
 |[],_,_,_,_,_=>by simp [lsA]
 |_::_,[],_,_,_,_=>by simp [lsA]
 |_::_,_::_,[],_,_,_=>by simp [lsA]
def mOK (dI:List aI):List aI->List Bool->aI->Bool
 |p::ps,b::bs,v=>(!CX p v||(b||gm dI p)) && mOK dI ps bs v
 |_,_,_=>true
def ag2 (dI ps0:List aI) (bs0:List Bool) (sub:List cu):List aI->List Bool->Bool
 |p::ps,b::bs=>(!b||(TP (ig sub (.var p.1 p.2))).all (mOK dI ps0 bs0)) && ag2 dI ps0 bs0 sub ps bs
 |_,_=>true
def vOK (mt:Tm) (ps:List aI) (ks:List Cs):Bool:=ks.all fun c=>c.subs.all fun s=>ag2 (bT 1 [] [mt]) ps (nk ps ks (List.replicate ps.length false)) s ps (nk ps ks (List.replicate ps.length false))
theorem MX (a:cu) (v:aI):∀s:List cu,jX (s++[a]) v=(jX s v).or (cond (CX a.v v) (some a.t) none)
 |[]=>by cases h:CX a.v v<;>simp [jX,h]
 |b::s=>by rw [E3,jX,MX a v s,jX];cases CX b.v v<;>rfl
def MQ (s:List cu) (v:aI):Prop:=∀t,jX s v=some t->isVar t=true
theorem Zr (dI:List aI):∀(ps:List aI) (bs:List Bool) (ts:List Tm) (x y:Dj),Gi dI ps bs ts x=some y->∀v,mOK dI ps bs v=true->MQ x.s v->MQ y.s v
 |p::ps,b::bs,t::ts,x,y,h,v,hv,hx=>by
  rw [Gi] at h;cases hq:((b||gm dI p) && !(isVar t && !gm x.vars (aN t))) with
  |true=>rw [hq] at h;cases h
  |false=>
   rw [hq,Ek] at h;simp only [mOK,A5] at hv;refine Zr dI ps bs ts _ y h v hv.2 fun t' ht=>?_
   simp only at ht;rw [MX] at ht;cases ha:jX x.s v with
   |some u=>rw [ha] at ht;exact hx t' (by rw [ha];simpa using ht)
   |none=>
    rw [ha,Option.none_or] at ht;cases he:CX p v with
    |false=>simp only [he,Ek] at ht;cases ht
    |true=>
     simp only [he,F1,A0] at ht;subst ht;have h1:=hv.1;rw [he] at h1;simp only [Bool.not_true,L2] at h1;rw [h1] at hq;simp only [Bool.true_and,Bool.not_eq_false',A5] at hq;exact hq.1
 |[],bs,ts,x,y,h,v,hv,hx=>by rw [EO] at h;cases h;exact hx
 |_::_,[],_,x,y,h,v,hv,hx=>by simp only [Gi,A0] at h;subst h;exact hx
 |_::_,_::_,[],x,y,h,v,hv,hx=>by simp only [Gi,A0] at h;subst h;exact hx
theorem VO {t:Tm} (h:isVar t=true):ah t=1:=by
 cases t with
 |var p x=>simp [ah]
 |dV o=>simp [isVar,Go.Proofs.fZ] at h
 |app p x ts=>simp [isVar,Go.Proofs.fZ] at h
mutual
theorem aaE {s:List cu}:∀t:Tm,(∀v∈TP t,MQ s v)->ah (ig s t)<=ah t
 |.var p x,h=>by
  rw [ig];cases ha:jX s (p,x) with
  |none=>exact An _
  |some t=>
   rw [Option.getD_some,VO (h (p,x) (by simp [TP]) t ha)]
   exact dY _
 |.dV o,_=>by rw [ig];exact An _
 |.app p x ts,h=>by
  rw [ig];simp only [ah];have:=VP ts (by simpa [TP] using h)
  omega
theorem VP {s:List cu}:∀ts:List Tm,(∀v∈Fw ts,MQ s v)->au (wu s ts)<=au ts
 |[],_=>by simp [wu,au]
 |t::ts,h=>by
  have h1:=aaE t fun v hv=>h v (by simp [Fw,hv])
  have h2:=VP ts fun v hv=>h v (by simp [Fw,hv])
  rw [wu];simp only [au];omega
end
theorem QO {dI ps0:List aI} {bs0:List Bool} {s sub:List cu} (h0:∀v,mOK dI ps0 bs0 v=true->MQ s v) (hs:∀a∈sub,ah a.t<=30):∀(ps:List aI) (bs:List Bool) (ts:List Tm),ag2 dI ps0 bs0 sub ps bs=true->∀a∈lsA s sub ps bs ts,ah a.t<=30
 |p::ps,b::bs,t::ts,hv,a,ha=>by
  simp only [ag2,A5] at hv;have ih:=QO h0 hs ps bs ts hv.2;rw [lsA] at ha;cases b with
  |false=>exact ih a ha
  |true=>
   rw [F1] at ha;rcases D2.1 ha with rfl|ha
   ·have h1:=hv.1;simp only [Bool.not_true,L2,D0] at h1;refine E1 (aaE _ fun v hv=>h0 v (h1 v hv)) ?_
    rw [ig];cases hc:jX sub (p.1,p.2) with
    |none=>simp [ah]
    |some t=>
     obtain ⟨a,ha,rfl⟩:=EP hc;exact hs a ha
   ·exact ih a ha
 |[],_,_,_,a,ha=>by simp [lsA] at ha
 |_::_,[],_,_,a,ha=>by simp [lsA] at ha
 |_::_,_::_,[],_,a,ha=>by simp [lsA] at ha
theorem oI:∀a b:List Tm,au (a++b)=au a+au b
 |[],b=>by simp [au]
 |t::a,b=>by simp only [E3,au,oI a b];omega
theorem ZP (dI:List aI):∀(ps:List aI) (bs:List Bool) (ts:List Tm) (x y:Dj),Gi dI ps bs ts x=some y->au y.fJ<=au x.fJ+au ts
 |p::ps,b::bs,t::ts,x,y,h=>by
  rw [Gi] at h;cases hq:((b||gm dI p) && !(isVar t && !gm x.vars (aN t))) with
  |true=>rw [hq] at h;cases h
  |false=>
   rw [hq,Ek] at h;have h1:=ZP dI ps bs ts _ y h;simp only [au] at h1 |-;cases b with
   |true=>simp only [F1] at h1;omega
   |false=>simp only [Ek,oI,au] at h1;omega
 |[],bs,ts,x,y,h=>by rw [EO] at h;cases h;omega
 |_::_,[],_,x,y,h=>by simp only [Gi,A0] at h;subst h;omega
 |_::_,_::_,[],x,y,h=>by simp only [Gi,A0] at h;subst h;omega
theorem acA (u:Tm):au (ai u)<=ah u:=by
 cases u with
 |var p s=>simp [ai,au]
 |dV o=>simp [ai,au]
 |app p s ts=>simp only [ai,ah];omega
theorem aln {f:Fd} (hf:f.OK) {mt:Tm} (hmt:ah mt<=30) {ks:List Cs} (hks:RO ks) (V7:vOK mt f.ps ks=true) {u:Tm} (hu:ah u<=90) (hl:(ai u).length=f.ps.length) {c:gX} (h:cdG f mt ks u=some c):OT c:=by
 simp only [cdG] at h;cases hc:Gi (bT 1 [] [mt]) f.ps (nk f.ps ks (List.replicate f.ps.length false)) (ai u) ⟨[],[],[],[]⟩ with
 |none=>rw [hc] at h;cases h
 |some x=>
  rw [hc] at h;have hx:=RI (M:=90) f.ps _ _ 0 _ x (fun t ht=>E1 (F3 ht) hu) ⟨⟨by simp,by simp⟩,by simp,by simp,⟨by simp,by simp⟩⟩ hc
  rw [E4] at hx;have ho:=ZP _ _ _ _ _ _ hc;have has:=acA u;have hln:=nD (ai u);simp only [au,E4] at ho;have hvr:=fun v hv=>Zr _ _ _ _ _ _ hc v hv (fun t ht=>by cases ht)
  simp only [A4] at h;cases hq:je x.jb (bT 1 [] x.fJ) with
  |true=>rw [hq] at h;cases h
  |false=>
   rw [hq] at h;simp only [Ek,A0] at h;subst h;have hfl:(bT 1 [] x.fJ).length<=au x.fJ:=by rw [yV];have h1:=E9 (Fw x.fJ) [];have h2:=Hg x.fJ;simp only [G3] at h1;omega
   simp only [vOK,D0] at V7;have hls:∀c∈ks,∀s∈c.subs,(lsA x.s s f.ps (nk f.ps ks (List.replicate f.ps.length false)) (ai u)).length<=100/\((lsA x.s s f.ps (nk f.ps ks (List.replicate f.ps.length false)) (ai u)).map cu.v).Nodup/\∀a∈lsA x.s s f.ps (nk f.ps ks (List.replicate f.ps.length false)) (ai u),ah a.t<=30:=fun c hc' s hs=>
    ⟨by have:=IW x.s s f.ps (nk f.ps ks (List.replicate f.ps.length false)) (ai u);omega,(YK _ x.s s _ _ _ _ _ hc).1,QO hvr ((hks.ss c hc').2 s hs).2 _ _ _ (V7 c hc' s hs)⟩
   refine ⟨⟨by simp [Gd.cand],by have:=hx.jb;simp only [Gd.cand];omega,by simp only [Gd.cand];omega,by simp [Gd.cand],by have:=hks.len;simp [Gd.cand];omega,fun y hy=>?_,fun t ht=>?_,?_⟩,?_⟩
   ·simp only [Gd.cand,J0] at hy;obtain ⟨c,hc',rfl⟩:=hy;obtain ⟨h1,h2⟩:=aab (g:=⟨f,ks,nk f.ps ks (List.replicate f.ps.length false),u,x.s,bT 1 [] x.fJ,x.jb,ig x.s mt⟩) (P:=fun s=>s.length<=100/\(s.map cu.v).Nodup/\∀a∈s,ah a.t<=30) hls hc' c.subs [] (fun s hs=>hs) (fun s hs=>by cases hs)
    refine ⟨by have:=(hks.ts c hc').1;simp [Gd.cas];omega,by have:=(hks.ss c hc').1;simp only [Gd.cas];simp only [G3] at h1;omega,h2,fun t ht=>?_⟩
    simp only [Gd.cas,J0] at ht;obtain ⟨t,ht,rfl⟩:=ht;have h5:=yT (M:=90) (by omega) hx.s.2 t
    have h6:=Cd 90 ((hks.ts c hc').2 t ht);have h7:=PZ (ah (ig x.s t)) (ig x.s t);simp only [nnT];omega
   ·simp only [Gd.cand,B8] at ht;rw [ht];exact Ca (by omega)
   ·simp only [Gd.cand];have h5:=yT (M:=90) (by omega) hx.s.2 mt
    have h6:=Cd 90 hmt;exact Ca (by omega)
   ·simp only [Gd.cand];refine ab5.2 fun s hs hs'=>?_
    have h5:je x.jb (bT 1 [] x.fJ)=true:=Ix.2 ⟨s,hs',xY.2 hs⟩;rw [hq] at h5;cases h5
theorem aj7 {off:List aI} {f:Fd} (hf:f.OK) {mt:Tm} {sc:Option (List Cs)} (hks:∀ks,sc=some ks->RO ks/\ah mt<=30/\vOK mt f.ps ks=true) {u:Tm} (hu:ah u<=90) {c:gX} (h:cdF off f mt sc u=some c):OT c:=by
 simp only [cdF] at h;cases hi:gm off (aN u) with
 |true=>rw [hi] at h;cases h
 |false=>
  rw [hi,Ek] at h;by_cases hl:(ai u).length=f.ps.length
  ·simp only [hl,decide_true,F1] at h;obtain ⟨ks,hs,h⟩:=A1.1 h;obtain ⟨h1,h2,h3⟩:=hks ks hs;exact aln hf h2 h1 h3 hu hl h
  ·simp only [hl,decide_false,Ek] at h;cases h
theorem aqH {l:List gX} {k:Nat} (h:k < l.length):fI 16 (rows aZ l) (ci k)=some (aZ l[k]):=jE oD (A6 h)
section
variable {nat:Nat->List V->Option (List V)}
theorem x47 (ts:List Tm) (hm:ts.length < 100000) (ho:∀t∈ts,Gq t):bq (T nat).G 47 [.v (.one (rows aa ts)),.v (.one (rows aa ts))] []=some yes:=by
 have hl:∀(m k:Nat),k+m=ts.length->bR (T nat).G 47 0 [.c (rows aa ts),.c (rows aa ts),.c (ci k)]=some yes:=by
  intro m;induction m with
  |zero=>
   intro k hk;have hlt:¬((k:Int) < (ts.length:Int)):=by omega
   rw [aF XI (t:=t47.heads[0]) rfl];simp [-Int.natCast_add,t47,zZ,hlt,aG,yes]
  |succ m ih=>
   intro k hk;have hkr:k < ts.length:=by omega
   have hlt:((k:Int) < (ts.length:Int)):=by omega
   have hs:=bn k (by omega)
   have ih:=ih (k+1) (by omega)
   have hoa:=ho _ (By hkr);have W9:=x49 (nat:=nat) hoa.1 hoa.2 ts[k];rw [zh] at W9;rw [aF XI (t:=t47.heads[0]) rfl];simp [-Int.natCast_add,t47,zZ,hlt,aG,jd hkr,W9,hs,ih,af]
 have h:=hl ts.length 0 (by omega)
 simp only [D1] at h;rw [aQ XI];simp [t47,zZ,aG,h]
theorem x48 (xs:List aI) (hm:xs.length < 100000):bq (T nat).G 48 [.v (.one (rows bP xs)),.v (.one (rows bP xs))] []=some yes:=by
 have hl:∀(m k:Nat),k+m=xs.length->bR (T nat).G 48 0 [.c (rows bP xs),.c (rows bP xs),.c (ci k)]=some yes:=by
  intro m;induction m with
  |zero=>
   intro k hk;have hlt:¬((k:Int) < (xs.length:Int)):=by omega
   rw [aF Yk (t:=t48.heads[0]) rfl];simp [-Int.natCast_add,t48,zZ,hlt,aG,yes]
  |succ m ih=>
   intro k hk;have hkr:k < xs.length:=by omega
   have hlt:((k:Int) < (xs.length:Int)):=by omega
   have hs:=bn k (by omega)
   have ih:=ih (k+1) (by omega)
   have hr:fI 2 (rows bP xs) (ci k)=some [cs xs[k].1,cs xs[k].2]:=oK hkr;have he:Ea [1,1] true [cs xs[k].1,cs xs[k].2] [cs xs[k].1,cs xs[k].2]=some (cb false):=by rw [wM];simp
   rw [aF Yk (t:=t48.heads[0]) rfl];simp [-Int.natCast_add,t48,zZ,hlt,aG,hr,he,hs,ih]
 have h:=hl xs.length 0 (by omega)
 simp only [D1] at h;rw [aQ Yk];simp [t48,zZ,aG,h]
theorem atD (s:List cu) (hm:s.length < 100000) (ho:yt s):bq (T nat).G 124 [.v (.one (rows cK s)),.v (.one (rows cK s))] []=some yes:=by
 have hl:∀(m k:Nat),k+m=s.length->bR (T nat).G 124 0 [.c (rows cK s),.c (rows cK s),.c (ci k)]=some yes:=by
  intro m;induction m with
  |zero=>
   intro k hk;have hlt:¬((k:Int) < (s.length:Int)):=by omega
   rw [aF Ri (t:=t124.heads[0]) rfl];simp [-Int.natCast_add,t124,zZ,hlt,aG,yes]
  |succ m ih=>
   intro k hk;have hkr:k < s.length:=by omega
   have hlt:((k:Int) < (s.length:Int)):=by omega
   have hs:=bn k (by omega)
   have ih:=ih (k+1) (by omega)
   have hoa:=ho _ (By hkr);have W9:=x49 (nat:=nat) hoa.1 hoa.2 s[k].t;rw [zh] at W9;have n1:=nH s[k].t;have he:∀b,Ea [1,1] b [cs s[k].v.1,cs s[k].v.2] [cs s[k].v.1,cs s[k].v.2]=some (cb (!b)):=fun b=>by rw [wM];cases b<;>simp
   rw [aF Ri (t:=t124.heads[0]) rfl];simp [-Int.natCast_add,t124,zZ,hlt,aG,AL hkr,he,n1,W9,hs,ih,af]
 have h:=hl s.length 0 (by omega)
 simp only [D1] at h;rw [aQ Ri];simp [t124,zZ,aG,h]
theorem ak3 {l:List Tm} (h:Um l):∀t∈l,Gq t:=fun t ht=>Ca (h t ht)
theorem x46 (x:Cs) (hx:akb x):bq (T nat).G 46 [.v (.agg (dh x)),.v (.agg (dh x))] []=some yes:=by
 have hl:∀(m k:Nat),k+m=x.subs.length->bR (T nat).G 46 0 [.c (ci k),.l (dh x),.l (dh x)]=some yes:=by
  intro m;induction m with
  |zero=>
   intro k hk;have hlt:¬((k:Int) < (x.subs.length:Int)):=by omega
   rw [aF YN (t:=t46.heads[0]) rfl];simp [-Int.natCast_add,t46,zZ,hlt,dh,aG,yes]
  |succ m ih=>
   intro k hk;have hkr:k < x.subs.length:=by omega
   have hlt:((k:Int) < (x.subs.length:Int)):=by omega
   have hsl:=hx.sl;have hs:=bn k (by omega)
   have ih:=ih (k+1) (by omega)
   have hxo:=hx.ok _ (By hkr);have h1:=atD (nat:=nat) x.subs[k] hxo.1 hxo.2;simp only [yes] at h1;simp only [dh] at ih |-;rw [aF YN (t:=t46.heads[0]) rfl];simp [-Int.natCast_add,t46,zZ,hlt,aG,X4 hkr,h1,hs,ih]
 have h:=hl x.subs.length 0 (by omega)
 have h47:=x47 (nat:=nat) x.tests hx.tl (ak3 hx.ts);simp only [yes] at h47;simp only [D1,dh] at h;rw [aQ YN];simp [t46,zZ,dh,aG,h47,h]
theorem x16 (c:gX) (hc:alo c) (ho:∀t∈c.calls,Gq t) (hm:Gq c.measure):bq (T nat).G 16 [.v (.agg (aZ c)),.v (.agg (aZ c))] []=some yes:=by
 have e14:=ahC c;have eM:=amd c;have hl:∀(m k:Nat),k+m=c.cases.length->bR (T nat).G 16 0 [.c (ci k),.l (aZ c),.l (aZ c)]=some yes:=by
  intro m;induction m with
  |zero=>
   intro k hk;have hlt:¬((k:Int) < (c.cases.length:Int)):=by omega
   have h47:=x47 (nat:=nat) c.calls hc.ca ho;have h48:=x48 (nat:=nat) c.changed hc.ch;have h48':=x48 (nat:=nat) c.fixed hc.fx;have W9:=x49 (nat:=nat) hm.1 hm.2 c.measure;rw [zh] at W9;simp only [yes] at h47 h48 h48';rw [aF Yn (t:=t16.heads[0]) rfl];simp [-Int.natCast_add,t16,zZ,hlt,e14,alf,akH,alI,eM,h47,h48,h48',W9,aG,yes,JU]
  |succ m ih=>
   intro k hk;have hkr:k < c.cases.length:=by omega
   have hlt:((k:Int) < (c.cases.length:Int)):=by omega
   have hkl:=hc.kl;have hs:=bn k (by omega)
   have ih:=ih (k+1) (by omega)
   have h1:=x46 (nat:=nat) c.cases[k] (hc.ks _ (By hkr));simp only [yes,dh] at h1;rw [aF Yn (t:=t16.heads[0]) rfl];simp [-Int.natCast_add,t16,zZ,hlt,e14,aG,Pf hkr,h1,hs,ih,JU]
 have h:=hl c.cases.length 0 (by omega)
 simp only [D1] at h;rw [aQ Yn];simp [t16,zZ,e14,agb,aG,h,JU]
end
end Go.Ey.Pr
end
