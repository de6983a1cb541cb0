/- A part. -/
import Derived.Test.YtolnnaanmfnkjaaGreatDoorY28
set_option linter.all false
set_option maxHeartbeats 4000000
namespace Go.Ey.Pr
open Go.Ey Go.Ey.Rz Go.Ey.Seat
def Ms (n:Int):Ob:=
 if n=0 then .num ⟨#[48]⟩ ⟨#[49]⟩ else if n=1 then .num ⟨#[49]⟩ ⟨#[49]⟩ else if n=2 then .num ⟨#[50]⟩ ⟨#[49]⟩ else if n=3 then .num ⟨#[51]⟩ ⟨#[49]⟩
 else if n=-1 then .num ⟨#[45,49]⟩ ⟨#[49]⟩ else if n=-2 then .num ⟨#[45,50]⟩ ⟨#[49]⟩ else .num ⟨#[45,51]⟩ ⟨#[49]⟩
def half:Ob:=.num ⟨#[49]⟩ ⟨#[50]⟩
def less:Ob:=.num ⟨#[45,53]⟩ ⟨#[51]⟩
structure jq (nat:Nat->List V->Option (List V)):Prop where
 v47:∀n:Int,-3<=n->n<=3->bz (T nat).G 147 [.v (.one (ci n))] []=some ([.agg (enc (Ms n))],[])
 amM:bz (T nat).G 159 [.v (.one (cs ⟨#[49]⟩)),.v (.one (cs ⟨#[50]⟩))] []=some ([.agg (enc half)],[])
 amk:bz (T nat).G 159 [.v (.one (cs ⟨#[45,53]⟩)),.v (.one (cs ⟨#[51]⟩))] []=some ([.agg (enc less)],[])
def user:ByteArray:=⟨#[117,115,101,114]⟩
theorem ajR:(⟨#[117,115,101,114]⟩:ByteArray)=user:=rfl
def letter (r:Int):ByteArray:=if r=0 then ⟨#[97]⟩ else if r=1 then ⟨#[98]⟩ else ⟨#[99]⟩
def word (r:Int):ByteArray:=if r=0 then ⟨#[]⟩ else if r=1 then ⟨#[112]⟩ else ⟨#[112,113]⟩
theorem abN {r:Int} (h1:0<=r) (h2:r < 3):((LU (some (ci r)) none (cs ⟨#[97,98,99]⟩)).bind fun c=>LU none (some (ci 1)) c)=some (cs (letter r)):=by
 have h:r=0\/r=1\/r=2:=by omega
 rcases h with rfl|rfl|rfl<;>rfl
theorem ags {r:Int} (h1:0<=r) (h2:r < 3):LU none (some (ci r)) (cs ⟨#[112,113]⟩)=some (cs (word r)):=by
 have h:r=0\/r=1\/r=2:=by omega
 rcases h with rfl|rfl|rfl<;>rfl
section
variable {nat:Nat->List V->Option (List V)} {B B' B2:List C} {d:Int}
def EU:Tree:=pI .gtr (.v 2) (oP 9) (pK 5 (aAx 2 8 (tY 6 0 7 (zN 137 [] 7 (.ret [.agg (.all 8)] [.all 3])) (tY 6 1 8 (zN 95 [] 7 (.ret [.agg (.all 9)] [.all 3])) (tY 6 2 9 (aBc 7 3 10 3 (aBL 12 7 13 11)) (tY 6 3 10 (aBc 7 3 11 3 (aBL 13 7 14 12)) (tY 6 4 11 (aBZ [aBh,aBi] 12) (tY 6 5 12 (aBZ [aAN,aBj] 13) (tY 6 6 13 (M6 3 3 (zI aAK (aA7 14) none (aBW (.v 16) (aB4 1) (zN 13 [qR 17] 2 (zN 152 [uT 18] 7 (.ret [.agg (.all 19)] [.all 15])))))) (tY 6 7 14 (M6 3 3 (aBW aAY (aA7 15) (zN 160 [qR 17] 7 (.ret [.agg (.all 18)] [.all 16])))) (tY 6 8 15 (aB0 [sN 0] 16) (tY 6 9 16 (aB0 [sN 1] 17) (tY 6 10 17 (aAr 4 3 0 [zY,zX,En,pJ 19,En,xD,xD,xD,xD,xD,zM,zM]) (tY 6 11 18 (aAr 4 3 0 [zY,Eo,En,pJ 20,En,xD,xD,xD,xD,xD,zM,zM]) (tY 6 12 19 (aAr 4 3 0 [zY,ED,En,UB,En,xD,xD,xD,xD,xD,zM,zM]) (aAx 0 1 (aB3 (aBU 0 20) 3 7 [2] (aAx 0 1 (aB3 (aBU 0 23) 22 7 [2] (zN 162 [uT 21,uT 24] 7 (.ret [.agg (.all 26)] [.all 25])))))))))))))))))))) (tY 2 0 6 (zN 137 [] 7 (.ret [.agg (.all 7)] [.all 3])) (tY 2 1 7 (zN 95 [] 7 (.ret [.agg (.all 8)] [.all 3])) (tY 2 2 8 (aBc 7 3 9 3 (aBL 11 7 12 10)) (tY 2 3 9 (aBc 7 3 10 3 (aBL 12 7 13 11)) (tY 2 4 10 (aBZ [aBh,aBi] 11) (tY 2 5 11 (aBZ [aAN,aBj] 12) (tY 2 6 12 (M6 3 3 (zI aAK (aA7 13) none (aBW (.v 15) (aB4 1) (zN 13 [qR 16] 2 (zN 152 [uT 17] 7 (.ret [.agg (.all 18)] [.all 14])))))) (tY 2 7 13 (M6 3 3 (aBW aAY (aA7 14) (zN 160 [qR 16] 7 (.ret [.agg (.all 17)] [.all 15])))) (tY 2 8 14 (aB0 [sN 0] 15) (tY 2 9 15 (aB0 [sN 1] 16) (tY 2 10 16 (aAr 4 3 0 [zY,DK,En,pJ 18,En,xD,xD,xD,xD,xD,zM,zM]) (tY 2 11 17 (aAr 4 3 0 [zY,zX,En,pJ 19,En,xD,xD,xD,xD,xD,zM,zM]) (tY 2 12 18 (aAr 4 3 0 [zY,Eo,En,pJ 20,En,xD,xD,xD,xD,xD,zM,zM]) (aAx 0 1 (aB3 (aBU 0 19) 3 7 [2] (aAx 0 1 (aB3 (aBU 0 22) 21 7 [2] (zN 162 [uT 20,uT 23] 7 (.ret [.agg (.all 25)] [.all 24]))))))))))))))))))))
def FP:Tree:=tY 2 0 5 (zN 137 [] 7 (.ret [.agg (.all 6)] [.all 3])) (tY 2 1 6 (zN 95 [] 7 (.ret [.agg (.all 7)] [.all 3])) (tY 2 2 7 (aBc 7 3 8 3 (aBL 10 7 11 9)) (tY 2 3 8 (aBc 7 3 9 3 (aBL 11 7 12 10)) (tY 2 4 9 (aBZ [aBh,aBi] 10) (tY 2 5 10 (aBZ [aAN,aBj] 11) (tY 2 6 11 (M6 3 3 (zI aAK (aA7 12) none (aBW (.v 14) (aB4 1) (zN 13 [qR 15] 2 (zN 152 [uT 16] 7 (.ret [.agg (.all 17)] [.all 13])))))) (tY 2 7 12 (M6 3 3 (aBW aAY (aA7 13) (zN 160 [qR 15] 7 (.ret [.agg (.all 16)] [.all 14])))) (tY 2 8 13 (aB0 [sN 0] 14) (tY 2 9 14 (aB0 [sN 1] 15) (tY 2 10 15 (aAr 4 3 0 [zY,D9,En,pJ 17,En,xD,xD,xD,xD,xD,zM,zM]) (tY 2 11 16 (aAr 4 3 0 [zY,DK,En,pJ 18,En,xD,xD,xD,xD,xD,zM,zM]) (tY 2 12 17 (aAr 4 3 0 [zY,zX,En,pJ 19,En,xD,xD,xD,xD,xD,zM,zM]) (aAx 0 1 (aB3 (aBU 0 18) 3 7 [2] (aAx 0 1 (aB3 (aBU 0 21) 20 7 [2] (zN 162 [uT 19,uT 22] 7 (.ret [.agg (.all 24)] [.all 23]))))))))))))))))))
def Qw:List Tree:=[pI .lss (.v 2) (.v 1) (pK 12 (aAx 0 1 (aB3 (aBU 0 13) 3 7 [2] (qI 7 1 [zV 14,zW 14,zQ 14,qj 14,qx 14,qp 14,qo 14] (QI 7 112 11 16 (pI .add (.v 2) (oP 1) (.goto 0 [zY,EL,zX,pJ 15,iP 4,iP 5,iP 6,IB,EM,EG,EE,DK])))))) (zN 161 [qR 11] 7 (.ret [.agg (.all 13)] [.all 3])))]
def apA:bO:=⟨[.ref 0 0,.one],[2],M6 14 1 (pI .lss (.v 0) (oP 1) (pK 4 EU FP)),Qw⟩
theorem aiO:t103=apA:=rfl
theorem Oo:(T nat).G.fn 103=some apA:=aiH.trans (F0 some aiO)
theorem ahU {call:qM} {head:ug} (P Q:Tree) (hs:List Tree) (hl:B.length=2) (hl':B'.length=2) {k:Int} (h8:call 38 [.ref 0 0,.v (.one (ci 14))] [B]=some ([.one (ci k)],[B'])):
  Ef call head ⟨[.ref 0 0,.one],[2],.call 38 [(.ref 0 0),(.v (.one (.k (.int .i64 14))))] [(.all 1)] [none] [2] <|
 .fG (.bin .lss false (.v 0) (.k (.int .i64 1))) <|
 .ite (.v 4) P Q,hs⟩ [.ref 0 0,.v (.one (ci d))] [B]=if d < 1 then aR call head P [.c (ci d),.l B,.c (ci k),.l B',.c (cb true)] else aR call head Q [.c (ci d),.l B,.c (ci k),.l B',.c (cb false)]:=by
 by_cases hd:d < 1<;>simp [zS,h8,hd,hl,hl']
theorem jP (hl:B.length=2) (hl':B'.length=2) {k:Int} (h8:bz (T nat).G 38 [.ref 0 0,.v (.one (ci 14))] [B]=some ([.one (ci k)],[B'])):
  bz (T nat).G 103 [.ref 0 0,.v (.one (ci d))] [B]=if d < 1 then aR (bz (T nat).G) (bn (T nat).G 103) EU [.c (ci d),.l B,.c (ci k),.l B',.c (cb true)] else aR (bz (T nat).G) (bn (T nat).G 103) FP [.c (ci d),.l B,.c (ci k),.l B',.c (cb false)]:=
 (aG Oo _ _).trans (ahU EU FP Qw hl hl' h8)
def acL:Tree:=zN 137 [] 7 (.ret [.agg (.all 7)] [.all 3])
theorem alg (c:qM) (h:ug):aR c h EU [.c (ci d),.l B,.c (ci 0),.l B',.c (cb true)]=aR c h acL [.c (ci d),.l B,.c (ci 0),.l B',.c (cb true),.c (cb false),.c (cb true)]:=by kernel_rfl
def aeL:Tree:=zN 137 [] 7 (.ret [.agg (.all 6)] [.all 3])
theorem am0 (c:qM) (h:ug):aR c h FP [.c (ci d),.l B,.c (ci 0),.l B',.c (cb false)]=aR c h aeL [.c (ci d),.l B,.c (ci 0),.l B',.c (cb false),.c (cb true)]:=by kernel_rfl
def afj:Tree:=zN 95 [] 7 (.ret [.agg (.all 8)] [.all 3])
theorem akr (c:qM) (h:ug):aR c h EU [.c (ci d),.l B,.c (ci 1),.l B',.c (cb true)]=aR c h afj [.c (ci d),.l B,.c (ci 1),.l B',.c (cb true),.c (cb false),.c (cb false),.c (cb true)]:=by kernel_rfl
def adn:Tree:=zN 95 [] 7 (.ret [.agg (.all 7)] [.all 3])
theorem ak2 (c:qM) (h:ug):aR c h FP [.c (ci d),.l B,.c (ci 1),.l B',.c (cb false)]=aR c h adn [.c (ci d),.l B,.c (ci 1),.l B',.c (cb false),.c (cb false),.c (cb true)]:=by kernel_rfl
def adf:Tree:=aBc 7 3 9 3 (aBL 11 7 12 10)
theorem alH (c:qM) (h:ug):aR c h EU [.c (ci d),.l B,.c (ci 2),.l B',.c (cb true)]=aR c h adf [.c (ci d),.l B,.c (ci 2),.l B',.c (cb true),.c (cb false),.c (cb false),.c (cb false),.c (cb true)]:=by kernel_rfl
def afA:Tree:=aBc 7 3 8 3 (aBL 10 7 11 9)
theorem alL (c:qM) (h:ug):aR c h FP [.c (ci d),.l B,.c (ci 2),.l B',.c (cb false)]=aR c h afA [.c (ci d),.l B,.c (ci 2),.l B',.c (cb false),.c (cb false),.c (cb false),.c (cb true)]:=by kernel_rfl
def aem:Tree:=aBc 7 3 10 3 (aBL 12 7 13 11)
theorem ald (c:qM) (h:ug):aR c h EU [.c (ci d),.l B,.c (ci 3),.l B',.c (cb true)]=aR c h aem [.c (ci d),.l B,.c (ci 3),.l B',.c (cb true),.c (cb false),.c (cb false),.c (cb false),.c (cb false),.c (cb true)]:=by kernel_rfl
def afe:Tree:=aBc 7 3 9 3 (aBL 11 7 12 10)
theorem als (c:qM) (h:ug):aR c h FP [.c (ci d),.l B,.c (ci 3),.l B',.c (cb false)]=aR c h afe [.c (ci d),.l B,.c (ci 3),.l B',.c (cb false),.c (cb false),.c (cb false),.c (cb false),.c (cb true)]:=by kernel_rfl
def af0:Tree:=aBZ [aBh,aBi] 11
theorem amt (c:qM) (h:ug):aR c h EU [.c (ci d),.l B,.c (ci 4),.l B',.c (cb true)]=aR c h af0 [.c (ci d),.l B,.c (ci 4),.l B',.c (cb true),.c (cb false),.c (cb false),.c (cb false),.c (cb false),.c (cb false),.c (cb true)]:=by kernel_rfl
def aeI:Tree:=aBZ [aBh,aBi] 10
theorem ak1 (c:qM) (h:ug):aR c h FP [.c (ci d),.l B,.c (ci 4),.l B',.c (cb false)]=aR c h aeI [.c (ci d),.l B,.c (ci 4),.l B',.c (cb false),.c (cb false),.c (cb false),.c (cb false),.c (cb false),.c (cb true)]:=by kernel_rfl
def afJ:Tree:=aBZ [aAN,aBj] 12
theorem ami (c:qM) (h:ug):aR c h EU [.c (ci d),.l B,.c (ci 5),.l B',.c (cb true)]=aR c h afJ [.c (ci d),.l B,.c (ci 5),.l B',.c (cb true),.c (cb false),.c (cb false),.c (cb false),.c (cb false),.c (cb false),.c (cb false),.c (cb true)]:=by kernel_rfl
def agj:Tree:=aBZ [aAN,aBj] 11
theorem amK (c:qM) (h:ug):aR c h FP [.c (ci d),.l B,.c (ci 5),.l B',.c (cb false)]=aR c h agj [.c (ci d),.l B,.c (ci 5),.l B',.c (cb false),.c (cb false),.c (cb false),.c (cb false),.c (cb false),.c (cb false),.c (cb true)]:=by kernel_rfl
def aeh:Tree:=M6 3 3 (zI aAK (aA7 13) none (aBW (.v 15) (aB4 1) (zN 13 [qR 16] 2 (zN 152 [uT 17] 7 (.ret [.agg (.all 18)] [.all 14])))))
theorem aj2 (c:qM) (h:ug):aR c h EU [.c (ci d),.l B,.c (ci 6),.l B',.c (cb true)]=aR c h aeh [.c (ci d),.l B,.c (ci 6),.l B',.c (cb true),.c (cb false),.c (cb false),.c (cb false),.c (cb false),.c (cb false),.c (cb false),.c (cb false),.c (cb true)]:=by kernel_rfl
def acP:Tree:=M6 3 3 (zI aAK (aA7 12) none (aBW (.v 14) (aB4 1) (zN 13 [qR 15] 2 (zN 152 [uT 16] 7 (.ret [.agg (.all 17)] [.all 13])))))
theorem amg (c:qM) (h:ug):aR c h FP [.c (ci d),.l B,.c (ci 6),.l B',.c (cb false)]=aR c h acP [.c (ci d),.l B,.c (ci 6),.l B',.c (cb false),.c (cb false),.c (cb false),.c (cb false),.c (cb false),.c (cb false),.c (cb false),.c (cb true)]:=by kernel_rfl
def afK:Tree:=M6 3 3 (aBW aAY (aA7 14) (zN 160 [qR 16] 7 (.ret [.agg (.all 17)] [.all 15])))
theorem alF (c:qM) (h:ug):aR c h EU [.c (ci d),.l B,.c (ci 7),.l B',.c (cb true)]=aR c h afK [.c (ci d),.l B,.c (ci 7),.l B',.c (cb true),.c (cb false),.c (cb false),.c (cb false),.c (cb false),.c (cb false),.c (cb false),.c (cb false),.c (cb false),.c (cb true)]:=by kernel_rfl
def afg:Tree:=M6 3 3 (aBW aAY (aA7 13) (zN 160 [qR 15] 7 (.ret [.agg (.all 16)] [.all 14])))
theorem ake (c:qM) (h:ug):aR c h FP [.c (ci d),.l B,.c (ci 7),.l B',.c (cb false)]=aR c h afg [.c (ci d),.l B,.c (ci 7),.l B',.c (cb false),.c (cb false),.c (cb false),.c (cb false),.c (cb false),.c (cb false),.c (cb false),.c (cb false),.c (cb true)]:=by kernel_rfl
def aff:Tree:=aB0 [sN 0] 15
theorem ali (c:qM) (h:ug):aR c h EU [.c (ci d),.l B,.c (ci 8),.l B',.c (cb true)]=aR c h aff [.c (ci d),.l B,.c (ci 8),.l B',.c (cb true),.c (cb false),.c (cb false),.c (cb false),.c (cb false),.c (cb false),.c (cb false),.c (cb false),.c (cb false),.c (cb false),.c (cb true)]:=by kernel_rfl
def adu:Tree:=aB0 [sN 0] 14
theorem aki (c:qM) (h:ug):aR c h FP [.c (ci d),.l B,.c (ci 8),.l B',.c (cb false)]=aR c h adu [.c (ci d),.l B,.c (ci 8),.l B',.c (cb false),.c (cb false),.c (cb false),.c (cb false),.c (cb false),.c (cb false),.c (cb false),.c (cb false),.c (cb false),.c (cb true)]:=by kernel_rfl
def afI:Tree:=aB0 [sN 1] 16
theorem al6 (c:qM) (h:ug):aR c h EU [.c (ci d),.l B,.c (ci 9),.l B',.c (cb true)]=aR c h afI [.c (ci d),.l B,.c (ci 9),.l B',.c (cb true),.c (cb false),.c (cb false),.c (cb false),.c (cb false),.c (cb false),.c (cb false),.c (cb false),.c (cb false),.c (cb false),.c (cb false),.c (cb true)]:=by kernel_rfl
def afR:Tree:=aB0 [sN 1] 15
theorem amd (c:qM) (h:ug):aR c h FP [.c (ci d),.l B,.c (ci 9),.l B',.c (cb false)]=aR c h afR [.c (ci d),.l B,.c (ci 9),.l B',.c (cb false),.c (cb false),.c (cb false),.c (cb false),.c (cb false),.c (cb false),.c (cb false),.c (cb false),.c (cb false),.c (cb false),.c (cb true)]:=by kernel_rfl
def ac0:Tree:=aBc 7 3 10 3 (aBL 12 7 13 11)
theorem aj1 (c:qM) (h:ug):aR c h EU [.c (ci d),.l B,.c (ci 10),.l B',.c (cb true)]=aR c h ac0 [.c (ci d),.l B,.c (ci 10),.l B',.c (cb true),.c (cb true),.c (ci 2),.c (cb false),.c (cb false),.c (cb true)]:=by kernel_rfl
def afp:Tree:=aAr 4 3 0 [zY,D9,En,pJ 17,En,xD,xD,xD,xD,xD,zM,zM]
theorem alp (c:qM) (h:ug):aR c h FP [.c (ci d),.l B,.c (ci 10),.l B',.c (cb false)]=aR c h afp [.c (ci d),.l B,.c (ci 10),.l B',.c (cb false),.c (cb false),.c (cb false),.c (cb false),.c (cb false),.c (cb false),.c (cb false),.c (cb false),.c (cb false),.c (cb false),.c (cb false),.c (cb true)]:=by kernel_rfl
def adp:Tree:=aBc 7 3 11 3 (aBL 13 7 14 12)
theorem akv (c:qM) (h:ug):aR c h EU [.c (ci d),.l B,.c (ci 11),.l B',.c (cb true)]=aR c h adp [.c (ci d),.l B,.c (ci 11),.l B',.c (cb true),.c (cb true),.c (ci 3),.c (cb false),.c (cb false),.c (cb false),.c (cb true)]:=by kernel_rfl
def aeD:Tree:=aAr 4 3 0 [zY,DK,En,pJ 18,En,xD,xD,xD,xD,xD,zM,zM]
theorem al7 (c:qM) (h:ug):aR c h FP [.c (ci d),.l B,.c (ci 11),.l B',.c (cb false)]=aR c h aeD [.c (ci d),.l B,.c (ci 11),.l B',.c (cb false),.c (cb false),.c (cb false),.c (cb false),.c (cb false),.c (cb false),.c (cb false),.c (cb false),.c (cb false),.c (cb false),.c (cb false),.c (cb false),.c (cb true)]:=by kernel_rfl
def afd:Tree:=aBZ [aBh,aBi] 12
theorem akP (c:qM) (h:ug):aR c h EU [.c (ci d),.l B,.c (ci 12),.l B',.c (cb true)]=aR c h afd [.c (ci d),.l B,.c (ci 12),.l B',.c (cb true),.c (cb true),.c (ci 4),.c (cb false),.c (cb false),.c (cb false),.c (cb false),.c (cb true)]:=by kernel_rfl
def adt:Tree:=aAr 4 3 0 [zY,zX,En,pJ 19,En,xD,xD,xD,xD,xD,zM,zM]
theorem alZ (c:qM) (h:ug):aR c h FP [.c (ci d),.l B,.c (ci 12),.l B',.c (cb false)]=aR c h adt [.c (ci d),.l B,.c (ci 12),.l B',.c (cb false),.c (cb false),.c (cb false),.c (cb false),.c (cb false),.c (cb false),.c (cb false),.c (cb false),.c (cb false),.c (cb false),.c (cb false),.c (cb false),.c (cb false),.c (cb true)]:=by kernel_rfl
def acF:Tree:=aBZ [aAN,aBj] 13
theorem amT (c:qM) (h:ug):aR c h EU [.c (ci d),.l B,.c (ci 13),.l B',.c (cb true)]=aR c h acF [.c (ci d),.l B,.c (ci 13),.l B',.c (cb true),.c (cb true),.c (ci 5),.c (cb false),.c (cb false),.c (cb false),.c (cb false),.c (cb false),.c (cb true)]:=by kernel_rfl
def afs:Tree:=aAx 0 1 (aB3 (aBU 0 18) 3 7 [2] (aAx 0 1 (aB3 (aBU 0 21) 20 7 [2] (zN 162 [uT 19,uT 22] 7 (.ret [.agg (.all 24)] [.all 23])))))
theorem alK (c:qM) (h:ug):aR c h FP [.c (ci d),.l B,.c (ci 13),.l B',.c (cb false)]=aR c h afs [.c (ci d),.l B,.c (ci 13),.l B',.c (cb false),.c (cb false),.c (cb false),.c (cb false),.c (cb false),.c (cb false),.c (cb false),.c (cb false),.c (cb false),.c (cb false),.c (cb false),.c (cb false),.c (cb false),.c (cb false)]:=by kernel_rfl
theorem af8 (hl:B.length=2) (hl':B'.length=2) (h8:bz (T nat).G 38 [.ref 0 0,.v (.one (ci 14))] [B]=some ([.one (ci 0)],[B'])):bz (T nat).G 103 [.ref 0 0,.v (.one (ci d))] [B]=some ([.agg (enc JK)],[B']):=by
 rw [jP hl hl' h8];by_cases hd:d < 1
 ·rw [C4 hd,alg];simp [acL,zS,h8,hd,ah6,hl,hl',bI]
 ·rw [Dd hd,am0];simp [aeL,zS,h8,hd,ah6,hl,hl',bI]
theorem ad3 (hl:B.length=2) (hl':B'.length=2) (h8:bz (T nat).G 38 [.ref 0 0,.v (.one (ci 14))] [B]=some ([.one (ci 1)],[B'])):bz (T nat).G 103 [.ref 0 0,.v (.one (ci d))] [B]=some ([.agg (enc oT)],[B']):=by
 rw [jP hl hl' h8];by_cases hd:d < 1
 ·rw [C4 hd,akr];simp [afj,zS,h8,hd,x95,hl,hl',bI]
 ·rw [Dd hd,ak2];simp [adn,zS,h8,hd,x95,hl,hl',bI]
theorem agd (hl:B.length=2) (hl':B'.length=2) (na:jq nat) (h8:bz (T nat).G 38 [.ref 0 0,.v (.one (ci 14))] [B]=some ([.one (ci 4)],[B'])):bz (T nat).G 103 [.ref 0 0,.v (.one (ci d))] [B]=some ([.agg (enc half)],[B']):=by
 rw [jP hl hl' h8];by_cases hd:d < 1
 ·rw [C4 hd,amt];simp [af0,zS,h8,hd,na.amM,hl,hl',bI]
 ·rw [Dd hd,ak1];simp [aeI,zS,h8,hd,na.amM,hl,hl',bI]
theorem agl (hl:B.length=2) (hl':B'.length=2) (na:jq nat) (h8:bz (T nat).G 38 [.ref 0 0,.v (.one (ci 14))] [B]=some ([.one (ci 5)],[B'])):bz (T nat).G 103 [.ref 0 0,.v (.one (ci d))] [B]=some ([.agg (enc less)],[B']):=by
 rw [jP hl hl' h8];by_cases hd:d < 1
 ·rw [C4 hd,ami];simp [afJ,zS,h8,hd,na.amk,hl,hl',bI]
 ·rw [Dd hd,amK];simp [agj,zS,h8,hd,na.amk,hl,hl',bI]
theorem ac9 (hl:B.length=2) (hl':B'.length=2) (na:jq nat) (h8:bz (T nat).G 38 [.ref 0 0,.v (.one (ci 14))] [B]=some ([.one (ci 8)],[B'])):bz (T nat).G 103 [.ref 0 0,.v (.one (ci d))] [B]=some ([.agg (enc (Ms 0))],[B']):=by
 have hn:=na.v47 0 (by omega) (by omega)
 rw [jP hl hl' h8];by_cases hd:d < 1
 ·rw [C4 hd,ali];simp [aff,zS,h8,hd,hn,hl,hl',bI]
 ·rw [Dd hd,aki];simp [adu,zS,h8,hd,hn,hl,hl',bI]
theorem adr (hl:B.length=2) (hl':B'.length=2) (na:jq nat) (h8:bz (T nat).G 38 [.ref 0 0,.v (.one (ci 14))] [B]=some ([.one (ci 9)],[B'])):bz (T nat).G 103 [.ref 0 0,.v (.one (ci d))] [B]=some ([.agg (enc (Ms 1))],[B']):=by
 have hn:=na.v47 1 (by omega) (by omega)
 rw [jP hl hl' h8];by_cases hd:d < 1
 ·rw [C4 hd,al6];simp [afI,zS,h8,hd,hn,hl,hl',bI]
 ·rw [Dd hd,amd];simp [afR,zS,h8,hd,hn,hl,hl',bI]
theorem agn (hl:B.length=2) (hl':B'.length=2) (hl2:B2.length=2) {r:Int} (h1:0<=r) (h2:r < 7) (na:jq nat) (h8:bz (T nat).G 38 [.ref 0 0,.v (.one (ci 14))] [B]=some ([.one (ci 2)],[B'])) (J7:bz (T nat).G 38 [.ref 0 0,.v (.one (ci 7))] [B']=some ([.one (ci r)],[B2])):bz (T nat).G 103 [.ref 0 0,.v (.one (ci d))] [B]=some ([.agg (enc (Ms (r - 3)))],[B2]):=by
 have hn:=na.v47 (r - 3) (by omega) (by omega)
 have hs:cZ .sub false (ci r) (ci 3)=some (ci (r - 3)):=lJ (by omega) (by omega)
 rw [jP hl hl' h8];by_cases hd:d < 1
 ·rw [C4 hd,alH];simp [adf,zS,h8,J7,hd,hn,hs,hl,hl',hl2,bI]
 ·rw [Dd hd,alL];simp [afA,zS,h8,J7,hd,hn,hs,hl,hl',hl2,bI]
theorem agm (hl:B.length=2) (hl':B'.length=2) (hl2:B2.length=2) {r:Int} (h1:0<=r) (h2:r < 7) (na:jq nat) (h8:bz (T nat).G 38 [.ref 0 0,.v (.one (ci 14))] [B]=some ([.one (ci 3)],[B'])) (J7:bz (T nat).G 38 [.ref 0 0,.v (.one (ci 7))] [B']=some ([.one (ci r)],[B2])):bz (T nat).G 103 [.ref 0 0,.v (.one (ci d))] [B]=some ([.agg (enc (Ms (r - 3)))],[B2]):=by
 have hn:=na.v47 (r - 3) (by omega) (by omega)
 have hs:cZ .sub false (ci r) (ci 3)=some (ci (r - 3)):=lJ (by omega) (by omega)
 rw [jP hl hl' h8];by_cases hd:d < 1
 ·rw [C4 hd,ald];simp [aem,zS,h8,J7,hd,hn,hs,hl,hl',hl2,bI]
 ·rw [Dd hd,als];simp [afe,zS,h8,J7,hd,hn,hs,hl,hl',hl2,bI]
theorem acT (hl:B.length=2) (hl':B'.length=2) (hl2:B2.length=2) {r:Int} (h1:0<=r) (h2:r < 3) (h8:bz (T nat).G 38 [.ref 0 0,.v (.one (ci 14))] [B]=some ([.one (ci 6)],[B'])) (J7:bz (T nat).G 38 [.ref 0 0,.v (.one (ci 3))] [B']=some ([.one (ci r)],[B2])):bz (T nat).G 103 [.ref 0 0,.v (.one (ci d))] [B]=some ([.agg (enc (.sy user (letter r)))],[B2]):=by
 obtain ⟨c,hc,hw⟩:=A1.1 (abN h1 h2);rw [jP hl hl' h8];by_cases hd:d < 1
 ·rw [C4 hd,aj2];simp [aeh,zS,h8,J7,hd,hc,hw,x13,x152,ajR,hl,hl',hl2,bI]
 ·rw [Dd hd,amg];simp [acP,zS,h8,J7,hd,hc,hw,x13,x152,ajR,hl,hl',hl2,bI]
theorem afr (hl:B.length=2) (hl':B'.length=2) (hl2:B2.length=2) {r:Int} (h1:0<=r) (h2:r < 3) (h8:bz (T nat).G 38 [.ref 0 0,.v (.one (ci 14))] [B]=some ([.one (ci 7)],[B'])) (J7:bz (T nat).G 38 [.ref 0 0,.v (.one (ci 3))] [B']=some ([.one (ci r)],[B2])):bz (T nat).G 103 [.ref 0 0,.v (.one (ci d))] [B]=some ([.agg (enc (.st (word r)))],[B2]):=by
 have hw:=ags h1 h2;rw [jP hl hl' h8];by_cases hd:d < 1
 ·rw [C4 hd,alF];simp [afK,zS,h8,J7,hd,hw,x160,hl,hl',hl2,bI]
 ·rw [Dd hd,ake];simp [afg,zS,h8,J7,hd,hw,x160,hl,hl',hl2,bI]
theorem aiu (hl:B.length=2) (hl':B'.length=2) (hd:d < 1) (hl2:B2.length=2) {r:Int} (h1:0<=r) (h2:r < 7) (na:jq nat) (h8:bz (T nat).G 38 [.ref 0 0,.v (.one (ci 14))] [B]=some ([.one (ci 10)],[B'])) (J7:bz (T nat).G 38 [.ref 0 0,.v (.one (ci 7))] [B']=some ([.one (ci r)],[B2])):bz (T nat).G 103 [.ref 0 0,.v (.one (ci d))] [B]=some ([.agg (enc (Ms (r - 3)))],[B2]):=by
 have hj:cZ .sub false (ci 10) (ci 8)=some (ci 2):=lJ (by omega) (by omega)
 have hn:=na.v47 (r - 3) (by omega) (by omega)
 have hs:cZ .sub false (ci r) (ci 3)=some (ci (r - 3)):=lJ (by omega) (by omega)
 rw [jP hl hl' h8,C4 hd,aj1];simp [ac0,zS,h8,J7,hd,hn,hs,hj,hl,hl',hl2,bI]
theorem aiz (hl:B.length=2) (hl':B'.length=2) (hd:d < 1) (hl2:B2.length=2) {r:Int} (h1:0<=r) (h2:r < 7) (na:jq nat) (h8:bz (T nat).G 38 [.ref 0 0,.v (.one (ci 14))] [B]=some ([.one (ci 11)],[B'])) (J7:bz (T nat).G 38 [.ref 0 0,.v (.one (ci 7))] [B']=some ([.one (ci r)],[B2])):bz (T nat).G 103 [.ref 0 0,.v (.one (ci d))] [B]=some ([.agg (enc (Ms (r - 3)))],[B2]):=by
 have hj:cZ .sub false (ci 11) (ci 8)=some (ci 3):=lJ (by omega) (by omega)
 have hn:=na.v47 (r - 3) (by omega) (by omega)
 have hs:cZ .sub false (ci r) (ci 3)=some (ci (r - 3)):=lJ (by omega) (by omega)
 rw [jP hl hl' h8,C4 hd,akv];simp [adp,zS,h8,J7,hd,hn,hs,hj,hl,hl',hl2,bI]
theorem ain (hl:B.length=2) (hl':B'.length=2) (hd:d < 1) (na:jq nat) (h8:bz (T nat).G 38 [.ref 0 0,.v (.one (ci 14))] [B]=some ([.one (ci 12)],[B'])):bz (T nat).G 103 [.ref 0 0,.v (.one (ci d))] [B]=some ([.agg (enc half)],[B']):=by
 have hj:cZ .sub false (ci 12) (ci 8)=some (ci 4):=lJ (by omega) (by omega)
 rw [jP hl hl' h8,C4 hd,akP];simp [afd,zS,h8,hd,hj,na.amM,hl,hl',bI]
theorem agB (hl:B.length=2) (hl':B'.length=2) (hd:d < 1) (na:jq nat) (h8:bz (T nat).G 38 [.ref 0 0,.v (.one (ci 14))] [B]=some ([.one (ci 13)],[B'])):bz (T nat).G 103 [.ref 0 0,.v (.one (ci d))] [B]=some ([.agg (enc less)],[B']):=by
 have hj:cZ .sub false (ci 13) (ci 8)=some (ci 5):=lJ (by omega) (by omega)
 rw [jP hl hl' h8,C4 hd,amT];simp [acF,zS,h8,hd,hj,na.amk,hl,hl',bI]
theorem ah1 (hl:B.length=2) (hl':B'.length=2) (hd:¬d < 1) (hl2:B2.length=2) {r:Int} (h8:bz (T nat).G 38 [.ref 0 0,.v (.one (ci 14))] [B]=some ([.one (ci 10)],[B'])) (J7:bz (T nat).G 38 [.ref 0 0,.v (.one (ci 4))] [B']=some ([.one (ci r)],[B2])):bz (T nat).G 103 [.ref 0 0,.v (.one (ci d))] [B]=bn (T nat).G 103 0 [.c (ci d),.c (ci r),.c (ci 0),.l B2,.c (ci 0),.c ce,.c ce,.c ce,.c ce,.c ce,.c cz,.c cz]:=by rw [jP hl hl' h8,Dd hd,alp];simp [afp,zZ,h8,J7,hd,hl,hl',hl2]
theorem agx (hl:B.length=2) (hl':B'.length=2) (hd:¬d < 1) (hl2:B2.length=2) {r:Int} (h8:bz (T nat).G 38 [.ref 0 0,.v (.one (ci 14))] [B]=some ([.one (ci 11)],[B'])) (J7:bz (T nat).G 38 [.ref 0 0,.v (.one (ci 4))] [B']=some ([.one (ci r)],[B2])):bz (T nat).G 103 [.ref 0 0,.v (.one (ci d))] [B]=bn (T nat).G 103 0 [.c (ci d),.c (ci r),.c (ci 0),.l B2,.c (ci 0),.c ce,.c ce,.c ce,.c ce,.c ce,.c cz,.c cz]:=by rw [jP hl hl' h8,Dd hd,al7];simp [aeD,zZ,h8,J7,hd,hl,hl',hl2]
theorem ahI (hl:B.length=2) (hl':B'.length=2) (hd:¬d < 1) (hl2:B2.length=2) {r:Int} (h8:bz (T nat).G 38 [.ref 0 0,.v (.one (ci 14))] [B]=some ([.one (ci 12)],[B'])) (J7:bz (T nat).G 38 [.ref 0 0,.v (.one (ci 4))] [B']=some ([.one (ci r)],[B2])):bz (T nat).G 103 [.ref 0 0,.v (.one (ci d))] [B]=bn (T nat).G 103 0 [.c (ci d),.c (ci r),.c (ci 0),.l B2,.c (ci 0),.c ce,.c ce,.c ce,.c ce,.c ce,.c cz,.c cz]:=by rw [jP hl hl' h8,Dd hd,alZ];simp [adt,zZ,h8,J7,hd,hl,hl',hl2]
theorem ait (hl:B.length=2) (hl':B'.length=2) (hd:¬d < 1) (hd2:d < 100) (hl2:B2.length=2) {B3:List C} (hl3:B3.length=2) {a b:Ob} (h8:bz (T nat).G 38 [.ref 0 0,.v (.one (ci 14))] [B]=some ([.one (ci 13)],[B'])) (e1:bz (T nat).G 103 [.ref 0 0,.v (.one (ci (d - 1)))] [B']=some ([.agg (enc a)],[B2])) (e2:bz (T nat).G 103 [.ref 0 0,.v (.one (ci (d - 1)))] [B2]=some ([.agg (enc b)],[B3])):bz (T nat).G 103 [.ref 0 0,.v (.one (ci d))] [B]=some ([.agg (enc (.cons a b))],[B3]):=by
 have hs:cZ .sub false (ci d) (ci 1)=some (ci (d - 1)):=lJ (by omega) (by omega)
 rw [jP hl hl' h8,Dd hd,alK];simp [afs,zZ,h8,e1,e2,hs,anB,hd,hl,hl',hl2,hl3,bI]
end
end Go.Ey.Pr
set_option maxHeartbeats 4000000
namespace Go.Ey.Pr
open Go.Ey Go.Ey.Seat
def SZ:Nat->Nat
 |0=>1
 |d+1=>3 * (SZ d+1)+1
def Dr (d:Nat) (o:Ob):Prop:=Good o/\GD o<=SZ d/\hO o<=d+1
theorem akn:∀d,1<=SZ d
 |0=>B9 _
 |d+1=>by simp only [SZ];omega
theorem fH {o:Ob} (d:Nat) (h:o∈atoms) (hc:S9 o=false):Dr d o:=by
 have:=akn d
 cases o with
 |cons a b=>cases hc
 |num u v=>exact ⟨h,by simpa [GD] using this,by simp [hO]⟩
 |sy u v=>exact ⟨h,by simpa [GD] using this,by simp [hO]⟩
 |st u=>exact ⟨h,by simpa [GD] using this,by simp [hO]⟩
theorem Ov:∀{l:List Ob},(∀x∈l,Good x)->Good (zH l)
 |[],_=>by simp [zH,JK,Good,atoms]
 |x::l,h=>⟨h x (by simp),Ov fun y hy=>h y (by simp [hy])⟩
theorem WA {k:Nat}:∀{l:List Ob},(∀x∈l,GD x<=k)->GD (zH l)<=l.length * (k+1)+1
 |[],_=>by simp [zH,JK,GD]
 |x::l,h=>by
  have h1:=h x (by simp)
  have h2:=WA (l:=l) fun y hy=>h y (by simp [hy])
  simp only [zH,GD,Bm,G2];omega
theorem aam {k:Nat}:∀{l:List Ob},(∀x∈l,hO x<=k)->hO (zH l)<=k+1
 |[],_=>by simp [zH,JK,hO]
 |x::l,h=>by
  have h1:=h x (by simp)
  have h2:=aam (l:=l) fun y hy=>h y (by simp [hy])
  simp only [zH,hO];omega
theorem CW {n:Int} (h1:-3<=n) (h2:n<=3):Ms n∈atoms/\S9 (Ms n)=false:=by
 have h:n=-3\/n=-2\/n=-1\/n=0\/n=1\/n=2\/n=3:=by omega
 rcases h with rfl|rfl|rfl|rfl|rfl|rfl|rfl<;>simp [Ms,atoms,S9]
theorem Pf {r:Int} (h1:0<=r) (h2:r < 3):Ob.sy user (letter r)∈atoms:=by
 have h:r=0\/r=1\/r=2:=by omega
 rcases h with rfl|rfl|rfl<;>simp [letter,atoms,user]
theorem Vz {r:Int} (h1:0<=r) (h2:r < 3):Ob.st (word r)∈atoms:=by
 have h:r=0\/r=1\/r=2:=by omega
 rcases h with rfl|rfl|rfl<;>simp [word,atoms]
section
variable {nat:Nat->List V->Option (List V)}
def Draws (nat:Nat->List V->Option (List V)) (bs:List UInt8) (d:Nat):Prop:=
 ∀pos,pos<=bs.length->∃(o:Ob) (pos':Nat),bz (T nat).G 103 [.ref 0 0,.v (.one (ci d))] [bx bs pos]=some ([.agg (enc o)],[bx bs pos'])/\Dr d o/\pos'<=bs.length
theorem Va (bs:List UInt8) (d:Nat) (hd:d < 100) (ih:Draws nat bs d) (n:Nat) (hn:n<=3):∀(m i:Nat) (acc:List Ob) (pos:Nat),i+m=n->acc.length=i->(∀x∈acc,Dr d x)->pos<=bs.length->
  ∃(l:List Ob) (pos':Nat),bn (T nat).G 103 0 [.c (ci ((d+1:Nat):Int)),.c (ci n),.c (ci i),.l (bx bs pos),.c (ci 0),.c ce,.c ce,.c ce,.c ce,.c ce,.c cz,.c (rows enc acc)]=some ([.agg (enc (zH l))],[bx bs pos'])/\l.length=n/\(∀x∈l,Dr d x)/\pos'<=bs.length
 |0,i,acc,pos,hi,hc,ha,hp=>by
  have hlt:¬((i:Int) < (n:Int)):=by omega
  refine ⟨acc,pos,?_,by omega,ha,hp⟩
  rw [ai Oo (t:=Qw[0]) rfl];simp [Qw,zZ,hlt,ary acc (by omega),mP,bI]
 |m+1,i,acc,pos,hi,hc,ha,hp=>by
  have hlt:((i:Int) < (n:Int)):=by omega
  obtain ⟨o,pos1,h1,h2,h3⟩:=ih pos hp;obtain ⟨l,pos2,g1,g2,g3,g4⟩:=Va bs d hd ih n hn m (i+1) (acc++[o]) pos1 (by omega) (by simp [hc]) (fun x hx=>by
   rcases Bx.1 hx with h|h
   ·exact ha x h
   ·simp only [By] at h;subst h;exact h2) h3
  refine ⟨l,pos2,?_,g2,g3,g4⟩;have hs:cZ .sub false (ci ((d+1:Nat):Int)) (ci 1)=some (ci (d:Int)):=by
   rw [lJ (by omega) (by omega)]
   exact F0 (fun x=>some (ci x)) (by omega)
  have hap:=asC (acc:=acc) (x:=o) (by omega)
  have hs2:=ax i (by omega)
  rw [ai Oo (t:=Qw[0]) rfl];simp [-Int.natCast_add,Qw,zZ,hlt,hs,h1,apW,hap,hs2,g1,mP,bI]
theorem x103 (na:jq nat) (bs:List UInt8) (hb:bs.length<=80):∀d:Nat,d < 100->Draws nat bs d:=by
 intro d;induction d with
 |zero=>
  intro _ pos hp;obtain ⟨k,p1,h8,k0,k1,hp1⟩:=x38 (nat:=nat) bs pos hb hp 14 (by omega)
  have hk:k=0\/k=1\/k=2\/k=3\/k=4\/k=5\/k=6\/k=7\/k=8\/k=9\/k=10\/k=11\/k=12\/k=13:=by omega
  obtain ⟨r7,p7,h7,a7,b7,c7⟩:=x38 (nat:=nat) bs p1 hb hp1 7 (by omega)
  obtain ⟨r3,p3,h3,a3,b3,c3⟩:=x38 (nat:=nat) bs p1 hb hp1 3 (by omega)
  have hd:((0:Nat):Int) < 1:=by omega
  have hn:=CW (n:=r7 - 3) (by omega) (by omega)
  rcases hk with rfl|rfl|rfl|rfl|rfl|rfl|rfl|rfl|rfl|rfl|rfl|rfl|rfl|rfl
  ·exact ⟨_,_,af8 rfl rfl h8,fH _ (by simp [atoms]) rfl,hp1⟩
  ·exact ⟨_,_,ad3 rfl rfl h8,fH _ (by simp [atoms]) rfl,hp1⟩
  ·exact ⟨_,_,agn rfl rfl rfl a7 b7 na h8 h7,fH _ hn.1 hn.2,c7⟩
  ·exact ⟨_,_,agm rfl rfl rfl a7 b7 na h8 h7,fH _ hn.1 hn.2,c7⟩
  ·exact ⟨_,_,agd rfl rfl na h8,fH _ (by simp [atoms,half]) rfl,hp1⟩
  ·exact ⟨_,_,agl rfl rfl na h8,fH _ (by simp [atoms,less]) rfl,hp1⟩
  ·exact ⟨_,_,acT rfl rfl rfl a3 b3 h8 h3,fH _ (Pf a3 b3) rfl,c3⟩
  ·exact ⟨_,_,afr rfl rfl rfl a3 b3 h8 h3,fH _ (Vz a3 b3) rfl,c3⟩
  ·exact ⟨_,_,ac9 rfl rfl na h8,fH _ (CW (by omega) (by omega)).1 rfl,hp1⟩
  ·exact ⟨_,_,adr rfl rfl na h8,fH _ (CW (by omega) (by omega)).1 rfl,hp1⟩
  ·exact ⟨_,_,aiu rfl rfl hd rfl a7 b7 na h8 h7,fH _ hn.1 hn.2,c7⟩
  ·exact ⟨_,_,aiz rfl rfl hd rfl a7 b7 na h8 h7,fH _ hn.1 hn.2,c7⟩
  ·exact ⟨_,_,ain rfl rfl hd na h8,fH _ (by simp [atoms,half]) rfl,hp1⟩
  ·exact ⟨_,_,agB rfl rfl hd na h8,fH _ (by simp [atoms,less]) rfl,hp1⟩
 |succ d ih=>
  intro atI pos hp;have ih:=ih (by omega)
  obtain ⟨k,p1,h8,k0,k1,hp1⟩:=x38 (nat:=nat) bs pos hb hp 14 (by omega)
  have hk:k=0\/k=1\/k=2\/k=3\/k=4\/k=5\/k=6\/k=7\/k=8\/k=9\/k=10\/k=11\/k=12\/k=13:=by omega
  obtain ⟨r7,p7,h7,a7,b7,c7⟩:=x38 (nat:=nat) bs p1 hb hp1 7 (by omega)
  obtain ⟨r3,p3,h3,a3,b3,c3⟩:=x38 (nat:=nat) bs p1 hb hp1 3 (by omega)
  obtain ⟨r4,p4,h4,a4,b4,c4⟩:=x38 (nat:=nat) bs p1 hb hp1 4 (by omega)
  have hd:¬((d+1:Nat):Int) < 1:=by omega
  have hn:=CW (n:=r7 - 3) (by omega) (by omega)
  have hlist:∃(o:Ob) (pos':Nat),bn (T nat).G 103 0 [.c (ci ((d+1:Nat):Int)),.c (ci r4),.c (ci 0),.l (bx bs p4),.c (ci 0),.c ce,.c ce,.c ce,.c ce,.c ce,.c cz,.c cz]=some ([.agg (enc o)],[bx bs pos'])/\Dr (d+1) o/\pos'<=bs.length:=by
   obtain ⟨l,p',g1,g2,g3,g4⟩:=Va bs d (by omega) ih r4.toNat (by omega) r4.toNat 0 [] p4 (by omega) rfl (fun x h=>by cases h) c4
   rw [tO,Int.toNat_of_nonneg a4] at g1;refine ⟨zH l,p',g1,⟨Ov fun x hx=>(g3 x hx).1,?_,aam fun x hx=>(g3 x hx).2.2⟩,g4⟩
   have h1:=WA (l:=l) fun x hx=>(g3 x hx).2.1
   have h2:l.length * (SZ d+1)<=3 * (SZ d+1):=Cl _ (by omega)
   simp only [SZ];omega
  rcases hk with rfl|rfl|rfl|rfl|rfl|rfl|rfl|rfl|rfl|rfl|rfl|rfl|rfl|rfl
  ·exact ⟨_,_,af8 rfl rfl h8,fH _ (by simp [atoms]) rfl,hp1⟩
  ·exact ⟨_,_,ad3 rfl rfl h8,fH _ (by simp [atoms]) rfl,hp1⟩
  ·exact ⟨_,_,agn rfl rfl rfl a7 b7 na h8 h7,fH _ hn.1 hn.2,c7⟩
  ·exact ⟨_,_,agm rfl rfl rfl a7 b7 na h8 h7,fH _ hn.1 hn.2,c7⟩
  ·exact ⟨_,_,agd rfl rfl na h8,fH _ (by simp [atoms,half]) rfl,hp1⟩
  ·exact ⟨_,_,agl rfl rfl na h8,fH _ (by simp [atoms,less]) rfl,hp1⟩
  ·exact ⟨_,_,acT rfl rfl rfl a3 b3 h8 h3,fH _ (Pf a3 b3) rfl,c3⟩
  ·exact ⟨_,_,afr rfl rfl rfl a3 b3 h8 h3,fH _ (Vz a3 b3) rfl,c3⟩
  ·exact ⟨_,_,ac9 rfl rfl na h8,fH _ (CW (by omega) (by omega)).1 rfl,hp1⟩
  ·exact ⟨_,_,adr rfl rfl na h8,fH _ (CW (by omega) (by omega)).1 rfl,hp1⟩
  ·obtain ⟨o,p',g1,g2,g3⟩:=hlist;exact ⟨o,p',(ah1 rfl rfl hd rfl h8 h4).trans g1,g2,g3⟩
  ·obtain ⟨o,p',g1,g2,g3⟩:=hlist;exact ⟨o,p',(agx rfl rfl hd rfl h8 h4).trans g1,g2,g3⟩
  ·obtain ⟨o,p',g1,g2,g3⟩:=hlist;exact ⟨o,p',(ahI rfl rfl hd rfl h8 h4).trans g1,g2,g3⟩
  ·have he:(((d+1:Nat):Int) - 1)=(d:Int):=by omega
   obtain ⟨a,p2,e1,q1,q2⟩:=ih p1 hp1;obtain ⟨b,p3',e2,q3,q4⟩:=ih p2 q2;rw [<-he] at e1 e2;refine ⟨.cons a b,p3',ait rfl rfl hd (by omega) rfl rfl h8 e1 e2,⟨⟨q1.1,q3.1⟩,?_,?_⟩,q4⟩
   ·have h1:=q1.2.1;have h2:=q3.2.1
    simp only [GD,SZ];omega
   ·have h1:=q1.2.2;have h2:=q3.2.2
    simp only [hO];omega
end
end Go.Ey.Pr
set_option maxHeartbeats 4000000
namespace Go.Ey.Pr
open Go.Ey Go.Ey.Seat
section
variable {nat:Nat->List V->Option (List V)}
theorem lU.length:∀{xs:List K} {cs:List C},lU xs cs->cs.length=xs.length
 |_,_,.nil=>rfl
 |_,_,.cons _ h=>by simp [lU.length h]
section
variable (hn:nS nat)
include hn
theorem kc2 {f n:Nat} {p:List PS} (hp:(T nat).oL f=some p) {ts:List TA} (hf:fits p ts=true) {ys:List KW} {us:List LA} (hr:RLs ts ys us) {x y:K} (hk:(mE kgD n).fn f ys []=.ret [.c x,.c y] []):
  ∃c d,RK x c/\RK y d/\bz (T nat).G f us []=some ([.one c,.one d],[]):=by
 obtain ⟨r1,g1,g2,g3⟩:=JG (Yz hn) hp hf hr (zs:=[]) (css:=[]) trivial hk;obtain ⟨a1,b1⟩:=r1
 match a1,b1,g2,g3 with
 |[.one c1,.one d1],[],g2,_=>exact ⟨c1,d1,g2.1,g2.2.1,g1⟩
end
end
noncomputable def kS (b:ByteArray):K:=.s b.data.toList.length (nD b.data.toList)
theorem Qe (b:ByteArray):RK (kS b) (cs b):=RK.s _ _ b (Bh _).symm (MW _)
noncomputable def kI (n:Int):K:=.i .i64 n
noncomputable def kE:K:=.s 0 0
theorem Lx:RK kE ce:=RK.s 0 0 ⟨#[]⟩ rfl (by decide)
theorem rkZ:RK kz cz:=RK.sl 0 [] 0 [] nQ.nil rfl
noncomputable def kO:Ob->List K
 |.num n d=>[kI 1,kS n,kS d,kE,kE,kE,kz]
 |.sy p s=>[kI 2,kE,kE,kS p,kS s,kE,kz]
 |.st t=>[kI 3,kE,kE,kE,kE,kS t,kz]
 |.cons _ _=>[]
theorem rkO {o:Ob} (h:S9 o=false):lU (kO o) (enc o):=by
 cases o with
 |num n d=>exact .cons (RK.i _ _) (.cons (Qe n) (.cons (Qe d) (.cons Lx (.cons Lx (.cons Lx (.cons rkZ .nil))))))
 |sy n d=>exact .cons (RK.i _ _) (.cons Lx (.cons Lx (.cons (Qe n) (.cons (Qe d) (.cons Lx (.cons rkZ .nil))))))
 |st t=>exact .cons (RK.i _ _) (.cons Lx (.cons Lx (.cons Lx (.cons Lx (.cons (Qe t) (.cons rkZ .nil))))))
 |cons _ _=>cases h
noncomputable def atV:bN->Bool
 |.ret [.c (.b true)] []=>true
 |_=>false
section
variable {nat:Nat->List V->Option (List V)}
theorem ahh:(T nat).oL 194=some [.one,.one]:=by kernel_rfl
noncomputable def aaU (n d:ByteArray):bN->Bool
 |.ret [.c (.s a v),.c (.s b w)] []=>(a==n.data.toList.length) && (v==nD n.data.toList) && (b==d.data.toList.length) && (w==nD d.data.toList)
 |_=>false
theorem afZ {n d:ByteArray} {a:bN} (h:aaU n d a=true):a=.ret [.c (kS n),.c (kS d)] []:=by
 unfold aaU at h;split at h
 ·simp only [As,Lw] at h;obtain ⟨⟨⟨rfl,rfl⟩,rfl⟩,rfl⟩:=h;rfl
 ·cases h
theorem ZV {b:ByteArray} {c:C} (h:RK (kS b) c):c=cs b:=by
 obtain ⟨b',h1,h2,h3⟩:=h.str;rw [Bh] at h2;have:b'=b:=by obtain ⟨b'⟩:=b';obtain ⟨b⟩:=b;congr 1;exact Array.toList_inj.1 h2
 rw [h1,this];rfl
noncomputable def small:List (ByteArray×ByteArray):=[(⟨#[48]⟩,⟨#[49]⟩),(⟨#[49]⟩,⟨#[49]⟩),(⟨#[50]⟩,⟨#[49]⟩),(⟨#[51]⟩,⟨#[49]⟩),(⟨#[45,49]⟩,⟨#[49]⟩),(⟨#[45,50]⟩,⟨#[49]⟩),(⟨#[45,51]⟩,⟨#[49]⟩),(⟨#[49]⟩,⟨#[50]⟩),(⟨#[45,53]⟩,⟨#[51]⟩)]
noncomputable def akB:Bool:=small.all fun p=>aaU p.1 p.2 ((mE kgD 3000).fn 194 [.c (kS p.1),.c (kS p.2)] [])
theorem acg:akB=true:=by kernel_rfl
theorem aoj (hn:nS nat) {m:Nat} {p s:ByteArray} (h:aaU p s ((mE kgD m).fn 194 [.c (kS p),.c (kS s)] [])=true):bz (T nat).G 194 [.v (.one (cs p)),.v (.one (cs s))] []=some ([.one (cs p),.one (cs s)],[]):=by obtain ⟨c,d,b1,b2,e⟩:=kc2 hn ahh (ts:=[.v (.one (.v 0)),.v (.one (.v 0))]) rfl (ys:=[.c (kS p),.c (kS s)]) (us:=[.v (.one (cs p)),.v (.one (cs s))]) ⟨Qe p,Qe s,trivial⟩ (afZ h);rw [ZV b1,ZV b2] at e;exact e
theorem aqp (hn:nS nat) (p:ByteArray×ByteArray) (h:p∈small):bz (T nat).G 194 [.v (.one (cs p.1)),.v (.one (cs p.2))] []=some ([.one (cs p.1),.one (cs p.2)],[]):=
 aoj hn (E0.1 acg p h)
theorem x159 (hn:nS nat) (p:ByteArray×ByteArray) (h:p∈small):bz (T nat).G 159 [.v (.one (cs p.1)),.v (.one (cs p.2))] []=some ([.agg (enc (.num p.1 p.2))],[]):=by rw [aG ahg];simp [t159,zS,aqp hn p h,enc,ce]
end
end Go.Ey.Pr
