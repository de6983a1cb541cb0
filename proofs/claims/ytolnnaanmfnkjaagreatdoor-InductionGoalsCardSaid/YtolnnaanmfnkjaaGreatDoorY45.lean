/- A part. -/
import Derived.Test.YtolnnaanmfnkjaaGreatDoorY43
import Derived.Test.YtolnnaanmfnkjaaGreatDoorY44
set_option linter.all false
set_option maxHeartbeats 4000000
namespace Go.Ey.Pr
open Go Go.Ey Go.Ey.Seat Go.RowKit Go.Proofs
mutual
def toC:K->C
 |.i k n=> .lit (.int k n)
 |.b x=> .lit (.bool x)
 |.s l w=> .lit (.string ⟨(strOf l w).toArray⟩)
 |.o v=> .lit v
 |.sl _ rev n=> .slice (alm rev) n
def ado:List K->List C
 |[]=>[]
 |x::xs=>toC x::ado xs
def alm:List (List K)->List C
 |[]=>[]
 |r::rs=>alm rs++ado r
end
mutual
def wfK:K->Bool
 |.i _ _=>true
 |.b _=>true
 |.s l w=>Nat.blt w (256 ^ l)
 |.o _=>true
 |.sl e rev n=>Nat.beq rev.length n && aiq e rev
def acf:List K->Bool
 |[]=>true
 |x::xs=>wfK x && acf xs
def aiq (e:Nat):List (List K)->Bool
 |[]=>true
 |r::rs=>Nat.beq r.length e && (acf r && aiq e rs)
end
mutual
theorem adE:∀k:K,wfK k=true->RK k (toC k)
 |.i k n,_=>RK.i k n
 |.b x,_=>RK.b x
 |.s l w,h=>by simp only [wfK,Nat.blt_eq] at h;exact RK.s l w _ (by simp) h
 |.o v,_=>RK.o v
 |.sl e rev n,h=>by simp only [wfK,As] at h;exact RK.sl e rev n _ (aa3 e rev h.2) (C5 h.1)
theorem RZ:∀ks:List K,acf ks=true->lU ks (ado ks)
 |[],_=> .nil
 |x::xs,h=>by simp only [acf,As] at h;exact .cons (adE x h.1) (RZ xs h.2)
theorem aa3 (e:Nat):∀rs:List (List K),aiq e rs=true->nQ e rs (alm rs)
 |[],_=> .nil
 |r::rs,h=>by simp only [aiq,As] at h;exact .cons (RZ r h.2.1) (C5 h.1) (aa3 e rs h.2.2)
end
set_option maxRecDepth 100000 in
theorem anI:wfK Hr=true:=by kernel_rfl
theorem apN {cw:C} (h:RK Hr cw):cw=toC Hr:=RK.one h (adE _ anI)
def aiD:Value->Value->Bool
 |.int k n,.int k' n'=>decide (k=k') && decide (n=n')
 |.bool a,.bool b=>decide (a=b)
 |.string a,.string b=>decide (a=b)
 |_,_=>false
theorem agz {a b:Value} (h:aiD a b=true):a=b:=by
 unfold aiD at h;split at h
 ·simp only [As,F1] at h;rw [h.1,h.2]
 ·rw [J1 h]
 ·rw [J1 h]
 ·cases h
mutual
def Kt:C->C->Bool
 |.lit a,.lit b=>aiD a b
 |.slice a n,.slice b m=>Nat.beq n m && DD a b
 |_,_=>false
def DD:List C->List C->Bool
 |[],[]=>true
 |x::xs,y::ys=>Kt x y && DD xs ys
 |_,_=>false
end
mutual
theorem Kw:∀(a b:C),Kt a b=true->a=b
 |.lit a,.lit b,h=>by rw [agz (show aiD a b=true from h)]
 |.slice a n,.slice b m,h=>by simp only [Kt,As] at h;rw [C5 h.1,aaG _ _ h.2]
 |.lit _,.slice _ _,h=>by simp [Kt] at h
 |.slice _ _,.lit _,h=>by simp [Kt] at h
theorem aaG:∀(a b:List C),DD a b=true->a=b
 |[],[],_=>rfl
 |x::xs,y::ys,h=>by simp only [DD,As] at h;rw [Kw _ _ h.1,aaG _ _ h.2]
 |[],_::_,h=>by simp [DD] at h
 |_::_,[],h=>by simp [DD] at h
end
def cStr:C->ByteArray
 |.lit (.string s)=>s
 |_=>⟨#[]⟩
def dO:Nat->List C->Option Ob
 |n+1,[.lit (.int _ (.ofNat c)),a1,a2,a3,a4,a5,r]=>
  match c with
  |1=>some (.num (cStr a1) (cStr a2))
  |2=>some (.sy (cStr a3) (cStr a4))
  |3=>some (.st (cStr a5))
  |4=>match r with
   |.slice xs _=>(dO n (xs.take 7)).bind fun x=>(dO n (xs.drop 7)).map fun y=> .cons x y
   |_=>none
  |_=>none
 |_,_=>none
def dL (f:List C->Option Tm):Nat->List C->Option (List Tm)
 |0,_=>some []
 |n+1,xs=>(f (xs.take 11)).bind fun t=>(dL f n (xs.drop 11)).map fun ts=>t::ts
def dT:Nat->List C->Option Tm
 |n+1,[.lit (.int _ (.ofNat c)),p,s,o0,o1,o2,o3,o4,o5,o6,z]=>
  match c with
  |1=>some (.var (cStr p) (cStr s))
  |2=>(dO 20 [o0,o1,o2,o3,o4,o5,o6]).map .eG
  |3=>match z with
   |.slice xs m=>(dL (dT n) m xs).map fun ts=> .app (cStr p) (cStr s) ts
   |_=>none
  |_=>none
 |_,_=>none
def vX:Tm:=.var usr ⟨#[120]⟩
def vY:Tm:=.var usr ⟨#[121]⟩
def vZ:Tm:=.var usr ⟨#[122]⟩
def apm:ByteArray:=⟨#[98,105,110,97,114,121,45,97,112,112,101,110,100]⟩
def apJ:ByteArray:=⟨#[101,113,117,97,108]⟩
def apT (a b:Tm):Tm:=.app dH apm [a,b]
def ad5:Tm:=.app dH apJ [apT (apT vX vY) vZ,apT vX (apT vY vZ)]
theorem q1:Qk dH:=⟨by decide,fun T=>rfl⟩
theorem q2:Qk apm:=⟨by decide,fun T=>rfl⟩
theorem q3:Qk apJ:=⟨by decide,fun T=>rfl⟩
theorem q4:Qk usr:=⟨by decide,fun T=>rfl⟩
theorem q5:Qk (⟨#[120]⟩:ByteArray):=⟨by decide,fun T=>rfl⟩
theorem q6:Qk (⟨#[121]⟩:ByteArray):=⟨by decide,fun T=>rfl⟩
theorem q7:Qk (⟨#[122]⟩:ByteArray):=⟨by decide,fun T=>rfl⟩
theorem alu:okK ad5:=by
 refine ⟨by kernel_rfl,?_,by decide⟩
 simp only [ad5,apT,vX,vY,vZ,Hu,WI,q1,q2,q3,q4,q5,q6,q7];simp
def dA:Nat->List C->List cB
 |0,_=>[]
 |n+1,a::b::r=>⟨(cStr a,cStr b),(dT 100 (r.take 11)).getD vX⟩::dA n (r.drop 11)
 |_,_=>[]
def aqM:C->List cB
 |.slice az m=>dA m az
 |_=>[]
def dK:Nat->List C->List Cs
 |0,_=>[]
 |n+1,.slice ts a:: .slice ss _::r=>⟨(dL (dT 100) a ts).getD [],ss.map aqM⟩::dK n r
 |_,_=>[]
def aiA:Option (List V)->Option (Option (List Cs))
 |some [.one (.slice xs n),.one (.lit (.bool b))]=>cond b (cond (Kt (rows aQ (dK n xs)) (.slice xs n)) (some (some (dK n xs))) none) (cond (Kt cz (.slice xs n)) (some none) none)
 |_=>none
theorem aiJ {r:Option (List V)} {sc:Option (List Cs)} (h:aiA r=some sc):r=some (abL sc):=by
 unfold aiA at h;split at h
 ·rename_i xs n b;cases b with
  |true=>
   cases hq:Kt (rows aQ (dK n xs)) (.slice xs n) with
   |false=>rw [hq] at h;cases h
   |true=>
    rw [hq] at h;cases h;simp only [abL,Kw _ _ hq];rfl
  |false=>
   cases hq:Kt cz (.slice xs n) with
   |false=>rw [hq] at h;cases h
   |true=>
    rw [hq] at h;cases h;simp only [abL,Kw _ _ hq];rfl
 ·cases h
theorem aoh:oq PP 10 [.one (.lit (.int .u32 0))] [.one (toC Hr)]:=by obtain ⟨w,hw,h⟩:=SN (agr ad7 id);obtain rfl:=apN hw;exact ad7.seat.fn (by kernel_rfl) h
end Go.Ey.Pr
namespace Go.Ey
variable [lV]
def codeOf (P:Program) (sh:Nat->Nat) (k:Nat):Option Pj:=match P.funcs[k]? with
 |some fn=>cond (fn.name== "runtime.NumGoroutine") none (KT P sh fn)
 |none=>none
theorem QD {P:Program} {sh:Nat->Nat} {nat:Nat->List V->Option (List V)} (hn:∀f vs rs,nat f vs=some rs->oq P f vs rs) (hm:P.follows .mixedOrders=true):Table P sh ⟨codeOf P sh,nat⟩:=by
 refine ⟨hn,fun f I h=>?_,hm⟩
 have h:codeOf P sh f=some I:=h;unfold codeOf at h;split at h
 ·rename_i fn hf;cases hb:(fn.name== "runtime.NumGoroutine") with
  |true=>rw [hb] at h;cases h
  |false=>rw [hb] at h;exact ⟨fn,hf,h,hb⟩
 ·cases h
def air:Pj:=⟨1,[.tmp 2],.seq (.region [⟨some 2,.ZN (.k (.slice none 0 0)),none⟩]) (.seq (.region [⟨some 3,.ZN (.t 0),none⟩,⟨some 4,.ZN (.t 0),none⟩,⟨some 5,.len false (.t 4),none⟩,⟨some 6,.ZN (.t 0),none⟩,⟨some 7,.len false (.t 6),none⟩,⟨some 8,.clip 11 (.t 3) none (.t 5) (.t 7),none⟩,⟨some 2,.ZN (.t 8),none⟩]) .ret)⟩
theorem aia {F:Fe} (hF:F.code 202=some air) {cs:List C} {n:Nat} (h:cs.length=n * 11):∃nx,jh F 6 202 [.c (.slice cs n)] [] 0=some ([.full cs n],[],nx):=by
 have h2:asInt (K9 n)=some (n:Int):=rfl;have h3:MB 11 cs n none (some (K9 n))=some (cs,n):=by
  have:(0:Int)<=(n:Int):=Int.natCast_nonneg n
  simp [MB,P7,Ju,h2,this,<-h]
 refine ⟨8,?_⟩;simp only [jh,hF,air,A2,A4,Bm,F2,Ek,j3,dn,mX,wanted,oK,zn,C2,Cd,eU,step,dS,G3,zT,iM,l8,aK,O1,Qx,h2,oo,h3,Ff,Option.map_none];simp [zT,scalar,iM,l8,aK,O1,Qx,h2,oo,h3,Ff]
theorem ahp {P:Program} {sh:Nat->Nat} (hm:P.follows .mixedOrders=true) (hc:codeOf P sh 202=some air) {cs:List C} {n:Nat} (h:cs.length=n * 11):oq P 202 [.one (.slice cs n)] [.full cs n]:=by
 obtain ⟨nx,h1⟩:=aia (F:=⟨codeOf P sh,fun _ _=>none⟩) hc h
 exact agA (QD (fun _ _ _ hx=>by cases hx) hm) h1
end Go.Ey
set_option maxHeartbeats 4000000
namespace Go.Ey.Pr
open Go Go.Ey Go.Ey.Seat Go.RowKit Go.Proofs
def ar0:Nat:=45531302174626236173798826900977936589163523608940976899275804611004669993687187456
def asv:Nat:=904128772253872856333806503493613816956415717335879954802457643279450112
def shX (f:Nat):Nat:=cond (Nat.testBit ar0 f) 4 (cond (Nat.testBit asv f) 1 0)
def acA (l:List Tm):Bool:=Nat.ble l.length 1000 && l.all fun t=>Nat.ble (av t) 3000
theorem aa1 {l:List Tm} (h:acA l=true):Al l/\l.length<=1000:=by simp only [acA,As,N2,E0] at h;exact ⟨h.2,h.1⟩
def afW (cs:List C) (n:Nat) (ds:List C) (m:Nat):Option (List V):=(dL (dT 100) n cs).bind fun cl=>(dL (dT 100) m ds).bind fun ts=>
 cond (Kt (rows af cl) (.slice cs n) && (Kt (rows af ts) (.slice ds m) && (acA cl && acA ts))) (some [.one (rows af (ts.foldl gX cl))]) none
theorem agp {cs ds:List C} {n m:Nat} {rs:List V} (h:afW cs n ds m=some rs):oq PP 72 [.one (.slice cs n),.one (.slice ds m)] rs:=by
 unfold afW at h;obtain ⟨cl,h1,h2⟩:=A1.1 h;obtain ⟨ts,h3,h4⟩:=A1.1 h2;cases hq:(Kt (rows af cl) (.slice cs n) && (Kt (rows af ts) (.slice ds m) && (acA cl && acA ts))) with
 |false=>rw [hq] at h4;cases h4
 |true=>
  rw [hq] at h4;cases h4;simp only [As] at hq;obtain ⟨q1,q2,q3,q4⟩:=hq;have k1:=aa1 q3;have k2:=aa1 q4;rw [<-Kw _ _ q1,<-Kw _ _ q2];exact aju k1.1 k2.1 (by omega)
noncomputable def amA (f:Nat) (vs:List V):Option (List V):=
 match vs with
 |[.one (.slice cs n)]=>cond (Nat.beq f 202) (cond (Nat.beq cs.length (n * 11)) (some [.full cs n]) none)
   (cond (Nat.beq f 42) (cond (Kt (rows af [ad5]) (.slice cs n)) (some [.one (rows af (uu [] [ad5]))]) none) none)
 |[.one (.slice cs n),.one (.slice ds m)]=>cond (Nat.beq f 72) (afW cs n ds m) none
 |[.one (.lit (.int .u32 (.ofNat 0)))]=>cond (Nat.beq f 10) (some [.one (toC Hr)]) none
 |_=>none
theorem aot:codeOf PP shX 202=some air:=by kernel_rfl
theorem ah2 {f:Nat} {vs rs:List V} (h:amA f vs=some rs):oq PP f vs rs:=by
 unfold amA at h;split at h
 ·rename_i cs n;cases h1:Nat.beq f 202 with
  |true=>
   rw [h1,Fi] at h;obtain rfl:=C5 h1;cases hq:Nat.beq cs.length (n * 11) with
   |false=>rw [hq] at h;cases h
   |true=>
    rw [hq] at h;cases h;exact ahp Tryz.mixed aot (C5 hq)
  |false=>
   rw [h1,E4] at h;cases h3:Nat.beq f 42 with
   |true=>
    rw [h3,Fi] at h;obtain rfl:=C5 h3;cases hq:Kt (rows af [ad5]) (.slice cs n) with
    |false=>rw [hq] at h;cases h
    |true=>
     rw [hq] at h;cases h;rw [<-Kw _ _ hq];exact apB (fun x hx=>by rw [By.1 hx];exact alu) (by decide)
   |false=>rw [h3] at h;cases h
 ·cases h1:Nat.beq f 72 with
  |true=>
   rw [h1] at h;obtain rfl:=C5 h1;exact agp h
  |false=>rw [h1] at h;cases h
 ·cases h1:Nat.beq f 10 with
  |true=>
   rw [h1] at h;cases h;obtain rfl:=C5 h1;exact aoh
  |false=>rw [h1] at h;cases h
 ·cases h
noncomputable abbrev FX:Fe:=⟨codeOf PP shX,amA⟩
theorem xok {n f:Nat} {vs rs:List V} (h:oF FX n f vs=some rs):oq PP f vs rs:=VI (QD (fun _ _ _ h=>ah2 h) Tryz.mixed) h
def amh:Option (List V)->Bool
 |some [.one (.lit (.bool true))]=>true
 |_=>false
theorem ahE {r:Option (List V)} (h:amh r=true):r=some [.one (cb true)]:=by
 unfold amh at h;split at h
 ·rfl
 ·cases h
end Go.Ey.Pr
