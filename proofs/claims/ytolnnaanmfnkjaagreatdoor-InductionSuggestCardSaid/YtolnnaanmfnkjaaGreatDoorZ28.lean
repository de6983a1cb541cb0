import Derived.Test.YtolnnaanmfnkjaaGreatDoorZ26
set_option linter.all false
set_option maxHeartbeats 0
noncomputable section
namespace Go.Ey.Pr
open Rz Seat
def Lj (n:Int):Ob:=
 if n=0 then .num ⟨#[48]⟩ ⟨#[49]⟩ else if n=1 then .num ⟨#[49]⟩ ⟨#[49]⟩ else if n=2 then .num ⟨#[50]⟩ ⟨#[49]⟩ else if n=3 then .num ⟨#[51]⟩ ⟨#[49]⟩
 else if n=-1 then .num ⟨#[45,49]⟩ ⟨#[49]⟩ else if n=-2 then .num ⟨#[45,50]⟩ ⟨#[49]⟩ else .num ⟨#[45,51]⟩ ⟨#[49]⟩
def half:Ob:=.num ⟨#[49]⟩ ⟨#[50]⟩
def less:Ob:=.num ⟨#[45,53]⟩ ⟨#[51]⟩
structure kN (nat:Nat->List V->Option (List V)):Prop where
 v47:∀n:Int,-3<=n->n<=3->bq (T nat).G 147 [.v (.one (ci n))] []=some ([.agg (enc (Lj n))],[])
 amS:bq (T nat).G 159 [.v (.one (cs ⟨#[49]⟩)),.v (.one (cs ⟨#[50]⟩))] []=some ([.agg (enc half)],[])
 ake:bq (T nat).G 159 [.v (.one (cs ⟨#[45,53]⟩)),.v (.one (cs ⟨#[51]⟩))] []=some ([.agg (enc less)],[])
def user:ByteArray:=⟨#[117,115,101,114]⟩
theorem ajS:(⟨#[117,115,101,114]⟩:ByteArray)=user:=rfl
def letter (r:Int):ByteArray:=if r=0 then ⟨#[97]⟩ else if r=1 then ⟨#[98]⟩ else ⟨#[99]⟩
def word (r:Int):ByteArray:=if r=0 then ⟨#[]⟩ else if r=1 then ⟨#[112]⟩ else ⟨#[112,113]⟩
theorem abJ {r:Int} (h1:0<=r) (h2:r < 3):((KU (some (ci r)) none (cs ⟨#[97,98,99]⟩)).bind fun c=>KU none (some (ci 1)) c)=some (cs (letter r)):=by
 have h:r=0\/r=1\/r=2:=by omega
 rcases h with rfl|rfl|rfl<;>rfl
theorem ah2 {r:Int} (h1:0<=r) (h2:r < 3):KU none (some (ci r)) (cs ⟨#[112,113]⟩)=some (cs (word r)):=by
 have h:r=0\/r=1\/r=2:=by omega
 rcases h with rfl|rfl|rfl<;>rfl
section
variable {nat:Nat->List V->Option (List V)} {B B' B2:List C} {d:Int}
def D9:Tree:=pI .gtr (.v 2) (oP 9) (pK 5 (aAx 2 8 (tY 6 0 7 (zN 137 [] 7 (.ret [.agg (.all 8)] [.all 3])) (tY 6 1 8 (zN 95 [] 7 (.ret [.agg (.all 9)] [.all 3])) (tY 6 2 9 (aBc 7 3 10 3 (aBL 12 7 13 11)) (tY 6 3 10 (aBc 7 3 11 3 (aBL 13 7 14 12)) (tY 6 4 11 (aBZ [aBh,aBi] 12) (tY 6 5 12 (aBZ [aAN,aBj] 13) (tY 6 6 13 (LG 3 3 (zI aAK (aA7 14) none (aBW (.v 16) (aB4 1) (zN 13 [qR 17] 2 (zN 152 [uT 18] 7 (.ret [.agg (.all 19)] [.all 15])))))) (tY 6 7 14 (LG 3 3 (aBW aAY (aA7 15) (zN 160 [qR 17] 7 (.ret [.agg (.all 18)] [.all 16])))) (tY 6 8 15 (aB0 [sN 0] 16) (tY 6 9 16 (aB0 [sN 1] 17) (tY 6 10 17 (aAr 4 3 0 [zY,zX,CG,pJ 19,CG,xD,xD,xD,xD,xD,zM,zM]) (tY 6 11 18 (aAr 4 3 0 [zY,CV,CG,pJ 20,CG,xD,xD,xD,xD,xD,zM,zM]) (tY 6 12 19 (aAr 4 3 0 [zY,DD,CG,TR,CG,xD,xD,xD,xD,xD,zM,zM]) (aAx 0 1 (aB3 (aBU 0 20) 3 7 [2] (aAx 0 1 (aB3 (aBU 0 23) 22 7 [2] (zN 162 [uT 21,uT 24] 7 (.ret [.agg (.all 26)] [.all 25])))))))))))))))))))) (tY 2 0 6 (zN 137 [] 7 (.ret [.agg (.all 7)] [.all 3])) (tY 2 1 7 (zN 95 [] 7 (.ret [.agg (.all 8)] [.all 3])) (tY 2 2 8 (aBc 7 3 9 3 (aBL 11 7 12 10)) (tY 2 3 9 (aBc 7 3 10 3 (aBL 12 7 13 11)) (tY 2 4 10 (aBZ [aBh,aBi] 11) (tY 2 5 11 (aBZ [aAN,aBj] 12) (tY 2 6 12 (LG 3 3 (zI aAK (aA7 13) none (aBW (.v 15) (aB4 1) (zN 13 [qR 16] 2 (zN 152 [uT 17] 7 (.ret [.agg (.all 18)] [.all 14])))))) (tY 2 7 13 (LG 3 3 (aBW aAY (aA7 14) (zN 160 [qR 16] 7 (.ret [.agg (.all 17)] [.all 15])))) (tY 2 8 14 (aB0 [sN 0] 15) (tY 2 9 15 (aB0 [sN 1] 16) (tY 2 10 16 (aAr 4 3 0 [zY,Ct,CG,pJ 18,CG,xD,xD,xD,xD,xD,zM,zM]) (tY 2 11 17 (aAr 4 3 0 [zY,zX,CG,pJ 19,CG,xD,xD,xD,xD,xD,zM,zM]) (tY 2 12 18 (aAr 4 3 0 [zY,CV,CG,pJ 20,CG,xD,xD,xD,xD,xD,zM,zM]) (aAx 0 1 (aB3 (aBU 0 19) 3 7 [2] (aAx 0 1 (aB3 (aBU 0 22) 21 7 [2] (zN 162 [uT 20,uT 23] 7 (.ret [.agg (.all 25)] [.all 24]))))))))))))))))))))
def DU:Tree:=tY 2 0 5 (zN 137 [] 7 (.ret [.agg (.all 6)] [.all 3])) (tY 2 1 6 (zN 95 [] 7 (.ret [.agg (.all 7)] [.all 3])) (tY 2 2 7 (aBc 7 3 8 3 (aBL 10 7 11 9)) (tY 2 3 8 (aBc 7 3 9 3 (aBL 11 7 12 10)) (tY 2 4 9 (aBZ [aBh,aBi] 10) (tY 2 5 10 (aBZ [aAN,aBj] 11) (tY 2 6 11 (LG 3 3 (zI aAK (aA7 12) none (aBW (.v 14) (aB4 1) (zN 13 [qR 15] 2 (zN 152 [uT 16] 7 (.ret [.agg (.all 17)] [.all 13])))))) (tY 2 7 12 (LG 3 3 (aBW aAY (aA7 13) (zN 160 [qR 15] 7 (.ret [.agg (.all 16)] [.all 14])))) (tY 2 8 13 (aB0 [sN 0] 14) (tY 2 9 14 (aB0 [sN 1] 15) (tY 2 10 15 (aAr 4 3 0 [zY,Da,CG,pJ 17,CG,xD,xD,xD,xD,xD,zM,zM]) (tY 2 11 16 (aAr 4 3 0 [zY,Ct,CG,pJ 18,CG,xD,xD,xD,xD,xD,zM,zM]) (tY 2 12 17 (aAr 4 3 0 [zY,zX,CG,pJ 19,CG,xD,xD,xD,xD,xD,zM,zM]) (aAx 0 1 (aB3 (aBU 0 18) 3 7 [2] (aAx 0 1 (aB3 (aBU 0 21) 20 7 [2] (zN 162 [uT 19,uT 22] 7 (.ret [.agg (.all 24)] [.all 23]))))))))))))))))))
def Qa:List Tree:=[pI .lss (.v 2) (.v 1) (pK 12 (aAx 0 1 (aB3 (aBU 0 13) 3 7 [2] (qI 7 1 [zV 14,zW 14,zQ 14,oM 14,o8 14,o7 14,o9 14] (QY 7 112 11 16 (pI .add (.v 2) (oP 1) (.goto 0 [zY,Dp,zX,pJ 15,iP 4,iP 5,iP 6,GU,Dt,Dz,Du,Ct])))))) (zN 161 [qR 11] 7 (.ret [.agg (.all 13)] [.all 3])))]
def aqm:cB:=⟨[.ref 0 0,.one],[2],LG 14 1 (pI .lss (.v 0) (oP 1) (pK 4 D9 DU)),Qa⟩
theorem agQ:t103=aqm:=rfl
theorem Nw:(T nat).G.fn 103=some aqm:=aiC.trans (E6 some agQ)
theorem aiY {call:qp} {head:qZ} (P Q:Tree) (hs:List Tree) (hl:B.length=2) (hl':B'.length=2) {k:Int} (h8:call 38 [.ref 0 0,.v (.one (ci 14))] [B]=some ([.one (ci k)],[B'])):
  CZ call head ⟨[.ref 0 0,.one],[2],.call 38 [(.ref 0 0),(.v (.one (.k (.int .i64 14))))] [(.all 1)] [none] [2] <|
 .dG (.bin .lss false (.v 0) (.k (.int .i64 1))) <|
 .ite (.v 4) P Q,hs⟩ [.ref 0 0,.v (.one (ci d))] [B]=if d < 1 then aA call head P [.c (ci d),.l B,.c (ci k),.l B',.c (cb true)] else aA call head Q [.c (ci d),.l B,.c (ci k),.l B',.c (cb false)]:=by
 by_cases hd:d < 1<;>simp [zS,h8,hd,hl,hl']
theorem iU (hl:B.length=2) (hl':B'.length=2) {k:Int} (h8:bq (T nat).G 38 [.ref 0 0,.v (.one (ci 14))] [B]=some ([.one (ci k)],[B'])):
  bq (T nat).G 103 [.ref 0 0,.v (.one (ci d))] [B]=if d < 1 then aA (bq (T nat).G) (bR (T nat).G 103) D9 [.c (ci d),.l B,.c (ci k),.l B',.c (cb true)] else aA (bq (T nat).G) (bR (T nat).G 103) DU [.c (ci d),.l B,.c (ci k),.l B',.c (cb false)]:=
 (aQ Nw _ _).trans (aiY D9 DU Qa hl hl' h8)
def afC:Tree:=zN 137 [] 7 (.ret [.agg (.all 7)] [.all 3])
theorem amm (c:qp) (h:qZ):aA c h D9 [.c (ci d),.l B,.c (ci 0),.l B',.c (cb true)]=aA c h afC [.c (ci d),.l B,.c (ci 0),.l B',.c (cb true),.c (cb false),.c (cb true)]:=by kernel_rfl
def afq:Tree:=zN 137 [] 7 (.ret [.agg (.all 6)] [.all 3])
theorem akN (c:qp) (h:qZ):aA c h DU [.c (ci d),.l B,.c (ci 0),.l B',.c (cb false)]=aA c h afq [.c (ci d),.l B,.c (ci 0),.l B',.c (cb false),.c (cb true)]:=by kernel_rfl
def acB:Tree:=zN 95 [] 7 (.ret [.agg (.all 8)] [.all 3])
theorem alE (c:qp) (h:qZ):aA c h D9 [.c (ci d),.l B,.c (ci 1),.l B',.c (cb true)]=aA c h acB [.c (ci d),.l B,.c (ci 1),.l B',.c (cb true),.c (cb false),.c (cb false),.c (cb true)]:=by kernel_rfl
def ad3:Tree:=zN 95 [] 7 (.ret [.agg (.all 7)] [.all 3])
theorem amY (c:qp) (h:qZ):aA c h DU [.c (ci d),.l B,.c (ci 1),.l B',.c (cb false)]=aA c h ad3 [.c (ci d),.l B,.c (ci 1),.l B',.c (cb false),.c (cb false),.c (cb true)]:=by kernel_rfl
def af6:Tree:=aBc 7 3 9 3 (aBL 11 7 12 10)
theorem alc (c:qp) (h:qZ):aA c h D9 [.c (ci d),.l B,.c (ci 2),.l B',.c (cb true)]=aA c h af6 [.c (ci d),.l B,.c (ci 2),.l B',.c (cb true),.c (cb false),.c (cb false),.c (cb false),.c (cb true)]:=by kernel_rfl
def afW:Tree:=aBc 7 3 8 3 (aBL 10 7 11 9)
theorem amy (c:qp) (h:qZ):aA c h DU [.c (ci d),.l B,.c (ci 2),.l B',.c (cb false)]=aA c h afW [.c (ci d),.l B,.c (ci 2),.l B',.c (cb false),.c (cb false),.c (cb false),.c (cb true)]:=by kernel_rfl
def ac7:Tree:=aBc 7 3 10 3 (aBL 12 7 13 11)
theorem akd (c:qp) (h:qZ):aA c h D9 [.c (ci d),.l B,.c (ci 3),.l B',.c (cb true)]=aA c h ac7 [.c (ci d),.l B,.c (ci 3),.l B',.c (cb true),.c (cb false),.c (cb false),.c (cb false),.c (cb false),.c (cb true)]:=by kernel_rfl
def adh:Tree:=aBc 7 3 9 3 (aBL 11 7 12 10)
theorem alO (c:qp) (h:qZ):aA c h DU [.c (ci d),.l B,.c (ci 3),.l B',.c (cb false)]=aA c h adh [.c (ci d),.l B,.c (ci 3),.l B',.c (cb false),.c (cb false),.c (cb false),.c (cb false),.c (cb true)]:=by kernel_rfl
def afx:Tree:=aBZ [aBh,aBi] 11
theorem aki (c:qp) (h:qZ):aA c h D9 [.c (ci d),.l B,.c (ci 4),.l B',.c (cb true)]=aA c h afx [.c (ci d),.l B,.c (ci 4),.l B',.c (cb true),.c (cb false),.c (cb false),.c (cb false),.c (cb false),.c (cb false),.c (cb true)]:=by kernel_rfl
def acL:Tree:=aBZ [aBh,aBi] 10
theorem amg (c:qp) (h:qZ):aA c h DU [.c (ci d),.l B,.c (ci 4),.l B',.c (cb false)]=aA c h acL [.c (ci d),.l B,.c (ci 4),.l B',.c (cb false),.c (cb false),.c (cb false),.c (cb false),.c (cb false),.c (cb true)]:=by kernel_rfl
def ac2:Tree:=aBZ [aAN,aBj] 12
theorem amU (c:qp) (h:qZ):aA c h D9 [.c (ci d),.l B,.c (ci 5),.l B',.c (cb true)]=aA c h ac2 [.c (ci d),.l B,.c (ci 5),.l B',.c (cb true),.c (cb false),.c (cb false),.c (cb false),.c (cb false),.c (cb false),.c (cb false),.c (cb true)]:=by kernel_rfl
def acT:Tree:=aBZ [aAN,aBj] 11
theorem amJ (c:qp) (h:qZ):aA c h DU [.c (ci d),.l B,.c (ci 5),.l B',.c (cb false)]=aA c h acT [.c (ci d),.l B,.c (ci 5),.l B',.c (cb false),.c (cb false),.c (cb false),.c (cb false),.c (cb false),.c (cb false),.c (cb true)]:=by kernel_rfl
def ac6:Tree:=LG 3 3 (zI aAK (aA7 13) none (aBW (.v 15) (aB4 1) (zN 13 [qR 16] 2 (zN 152 [uT 17] 7 (.ret [.agg (.all 18)] [.all 14])))))
theorem alC (c:qp) (h:qZ):aA c h D9 [.c (ci d),.l B,.c (ci 6),.l B',.c (cb true)]=aA c h ac6 [.c (ci d),.l B,.c (ci 6),.l B',.c (cb true),.c (cb false),.c (cb false),.c (cb false),.c (cb false),.c (cb false),.c (cb false),.c (cb false),.c (cb true)]:=by kernel_rfl
def afP:Tree:=LG 3 3 (zI aAK (aA7 12) none (aBW (.v 14) (aB4 1) (zN 13 [qR 15] 2 (zN 152 [uT 16] 7 (.ret [.agg (.all 17)] [.all 13])))))
theorem akj (c:qp) (h:qZ):aA c h DU [.c (ci d),.l B,.c (ci 6),.l B',.c (cb false)]=aA c h afP [.c (ci d),.l B,.c (ci 6),.l B',.c (cb false),.c (cb false),.c (cb false),.c (cb false),.c (cb false),.c (cb false),.c (cb false),.c (cb true)]:=by kernel_rfl
def acN:Tree:=LG 3 3 (aBW aAY (aA7 14) (zN 160 [qR 16] 7 (.ret [.agg (.all 17)] [.all 15])))
theorem ak2 (c:qp) (h:qZ):aA c h D9 [.c (ci d),.l B,.c (ci 7),.l B',.c (cb true)]=aA c h acN [.c (ci d),.l B,.c (ci 7),.l B',.c (cb true),.c (cb false),.c (cb false),.c (cb false),.c (cb false),.c (cb false),.c (cb false),.c (cb false),.c (cb false),.c (cb true)]:=by kernel_rfl
def acI:Tree:=LG 3 3 (aBW aAY (aA7 13) (zN 160 [qR 15] 7 (.ret [.agg (.all 16)] [.all 14])))
theorem aj9 (c:qp) (h:qZ):aA c h DU [.c (ci d),.l B,.c (ci 7),.l B',.c (cb false)]=aA c h acI [.c (ci d),.l B,.c (ci 7),.l B',.c (cb false),.c (cb false),.c (cb false),.c (cb false),.c (cb false),.c (cb false),.c (cb false),.c (cb false),.c (cb true)]:=by kernel_rfl
def adr:Tree:=aB0 [sN 0] 15
theorem amK (c:qp) (h:qZ):aA c h D9 [.c (ci d),.l B,.c (ci 8),.l B',.c (cb true)]=aA c h adr [.c (ci d),.l B,.c (ci 8),.l B',.c (cb true),.c (cb false),.c (cb false),.c (cb false),.c (cb false),.c (cb false),.c (cb false),.c (cb false),.c (cb false),.c (cb false),.c (cb true)]:=by kernel_rfl
def afB:Tree:=aB0 [sN 0] 14
theorem akh (c:qp) (h:qZ):aA c h DU [.c (ci d),.l B,.c (ci 8),.l B',.c (cb false)]=aA c h afB [.c (ci d),.l B,.c (ci 8),.l B',.c (cb false),.c (cb false),.c (cb false),.c (cb false),.c (cb false),.c (cb false),.c (cb false),.c (cb false),.c (cb false),.c (cb true)]:=by kernel_rfl
def ac0:Tree:=aB0 [sN 1] 16
theorem alk (c:qp) (h:qZ):aA c h D9 [.c (ci d),.l B,.c (ci 9),.l B',.c (cb true)]=aA c h ac0 [.c (ci d),.l B,.c (ci 9),.l B',.c (cb true),.c (cb false),.c (cb false),.c (cb false),.c (cb false),.c (cb false),.c (cb false),.c (cb false),.c (cb false),.c (cb false),.c (cb false),.c (cb true)]:=by kernel_rfl
def adT:Tree:=aB0 [sN 1] 15
theorem alv (c:qp) (h:qZ):aA c h DU [.c (ci d),.l B,.c (ci 9),.l B',.c (cb false)]=aA c h adT [.c (ci d),.l B,.c (ci 9),.l B',.c (cb false),.c (cb false),.c (cb false),.c (cb false),.c (cb false),.c (cb false),.c (cb false),.c (cb false),.c (cb false),.c (cb false),.c (cb true)]:=by kernel_rfl
def acO:Tree:=aBc 7 3 10 3 (aBL 12 7 13 11)
theorem alg (c:qp) (h:qZ):aA c h D9 [.c (ci d),.l B,.c (ci 10),.l B',.c (cb true)]=aA c h acO [.c (ci d),.l B,.c (ci 10),.l B',.c (cb true),.c (cb true),.c (ci 2),.c (cb false),.c (cb false),.c (cb true)]:=by kernel_rfl
def afI:Tree:=aAr 4 3 0 [zY,Da,CG,pJ 17,CG,xD,xD,xD,xD,xD,zM,zM]
theorem ajX (c:qp) (h:qZ):aA c h DU [.c (ci d),.l B,.c (ci 10),.l B',.c (cb false)]=aA c h afI [.c (ci d),.l B,.c (ci 10),.l B',.c (cb false),.c (cb false),.c (cb false),.c (cb false),.c (cb false),.c (cb false),.c (cb false),.c (cb false),.c (cb false),.c (cb false),.c (cb false),.c (cb true)]:=by kernel_rfl
def adI:Tree:=aBc 7 3 11 3 (aBL 13 7 14 12)
theorem alW (c:qp) (h:qZ):aA c h D9 [.c (ci d),.l B,.c (ci 11),.l B',.c (cb true)]=aA c h adI [.c (ci d),.l B,.c (ci 11),.l B',.c (cb true),.c (cb true),.c (ci 3),.c (cb false),.c (cb false),.c (cb false),.c (cb true)]:=by kernel_rfl
def ad4:Tree:=aAr 4 3 0 [zY,Ct,CG,pJ 18,CG,xD,xD,xD,xD,xD,zM,zM]
theorem alh (c:qp) (h:qZ):aA c h DU [.c (ci d),.l B,.c (ci 11),.l B',.c (cb false)]=aA c h ad4 [.c (ci d),.l B,.c (ci 11),.l B',.c (cb false),.c (cb false),.c (cb false),.c (cb false),.c (cb false),.c (cb false),.c (cb false),.c (cb false),.c (cb false),.c (cb false),.c (cb false),.c (cb false),.c (cb true)]:=by kernel_rfl
def acH:Tree:=aBZ [aBh,aBi] 12
theorem ajV (c:qp) (h:qZ):aA c h D9 [.c (ci d),.l B,.c (ci 12),.l B',.c (cb true)]=aA c h acH [.c (ci d),.l B,.c (ci 12),.l B',.c (cb true),.c (cb true),.c (ci 4),.c (cb false),.c (cb false),.c (cb false),.c (cb false),.c (cb true)]:=by kernel_rfl
def afA:Tree:=aAr 4 3 0 [zY,zX,CG,pJ 19,CG,xD,xD,xD,xD,xD,zM,zM]
theorem alR (c:qp) (h:qZ):aA c h DU [.c (ci d),.l B,.c (ci 12),.l B',.c (cb false)]=aA c h afA [.c (ci d),.l B,.c (ci 12),.l B',.c (cb false),.c (cb false),.c (cb false),.c (cb false),.c (cb false),.c (cb false),.c (cb false),.c (cb false),.c (cb false),.c (cb false),.c (cb false),.c (cb false),.c (cb false),.c (cb true)]:=by kernel_rfl
def acY:Tree:=aBZ [aAN,aBj] 13
theorem amN (c:qp) (h:qZ):aA c h D9 [.c (ci d),.l B,.c (ci 13),.l B',.c (cb true)]=aA c h acY [.c (ci d),.l B,.c (ci 13),.l B',.c (cb true),.c (cb true),.c (ci 5),.c (cb false),.c (cb false),.c (cb false),.c (cb false),.c (cb false),.c (cb true)]:=by kernel_rfl
def aeg:Tree:=aAx 0 1 (aB3 (aBU 0 18) 3 7 [2] (aAx 0 1 (aB3 (aBU 0 21) 20 7 [2] (zN 162 [uT 19,uT 22] 7 (.ret [.agg (.all 24)] [.all 23])))))
theorem alZ (c:qp) (h:qZ):aA c h DU [.c (ci d),.l B,.c (ci 13),.l B',.c (cb false)]=aA c h aeg [.c (ci d),.l B,.c (ci 13),.l B',.c (cb false),.c (cb false),.c (cb false),.c (cb false),.c (cb false),.c (cb false),.c (cb false),.c (cb false),.c (cb false),.c (cb false),.c (cb false),.c (cb false),.c (cb false),.c (cb false)]:=by kernel_rfl
theorem aeN (hl:B.length=2) (hl':B'.length=2) (h8:bq (T nat).G 38 [.ref 0 0,.v (.one (ci 14))] [B]=some ([.one (ci 0)],[B'])):bq (T nat).G 103 [.ref 0 0,.v (.one (ci d))] [B]=some ([.agg (enc VH)],[B']):=by
 rw [iU hl hl' h8];by_cases hd:d < 1
 ·rw [C6 hd,amm];simp [afC,zS,h8,hd,amH,hl,hl',bF]
 ·rw [E0 hd,akN];simp [afq,zS,h8,hd,amH,hl,hl',bF]
theorem acC (hl:B.length=2) (hl':B'.length=2) (h8:bq (T nat).G 38 [.ref 0 0,.v (.one (ci 14))] [B]=some ([.one (ci 1)],[B'])):bq (T nat).G 103 [.ref 0 0,.v (.one (ci d))] [B]=some ([.agg (enc oT)],[B']):=by
 rw [iU hl hl' h8];by_cases hd:d < 1
 ·rw [C6 hd,alE];simp [acB,zS,h8,hd,x95,hl,hl',bF]
 ·rw [E0 hd,amY];simp [ad3,zS,h8,hd,x95,hl,hl',bF]
theorem aeK (hl:B.length=2) (hl':B'.length=2) (na:kN nat) (h8:bq (T nat).G 38 [.ref 0 0,.v (.one (ci 14))] [B]=some ([.one (ci 4)],[B'])):bq (T nat).G 103 [.ref 0 0,.v (.one (ci d))] [B]=some ([.agg (enc half)],[B']):=by
 rw [iU hl hl' h8];by_cases hd:d < 1
 ·rw [C6 hd,aki];simp [afx,zS,h8,hd,na.amS,hl,hl',bF]
 ·rw [E0 hd,amg];simp [acL,zS,h8,hd,na.amS,hl,hl',bF]
theorem ae4 (hl:B.length=2) (hl':B'.length=2) (na:kN nat) (h8:bq (T nat).G 38 [.ref 0 0,.v (.one (ci 14))] [B]=some ([.one (ci 5)],[B'])):bq (T nat).G 103 [.ref 0 0,.v (.one (ci d))] [B]=some ([.agg (enc less)],[B']):=by
 rw [iU hl hl' h8];by_cases hd:d < 1
 ·rw [C6 hd,amU];simp [ac2,zS,h8,hd,na.ake,hl,hl',bF]
 ·rw [E0 hd,amJ];simp [acT,zS,h8,hd,na.ake,hl,hl',bF]
theorem afh (hl:B.length=2) (hl':B'.length=2) (na:kN nat) (h8:bq (T nat).G 38 [.ref 0 0,.v (.one (ci 14))] [B]=some ([.one (ci 8)],[B'])):bq (T nat).G 103 [.ref 0 0,.v (.one (ci d))] [B]=some ([.agg (enc (Lj 0))],[B']):=by
 have hn:=na.v47 0 (by omega) (by omega)
 rw [iU hl hl' h8];by_cases hd:d < 1
 ·rw [C6 hd,amK];simp [adr,zS,h8,hd,hn,hl,hl',bF]
 ·rw [E0 hd,akh];simp [afB,zS,h8,hd,hn,hl,hl',bF]
theorem af4 (hl:B.length=2) (hl':B'.length=2) (na:kN nat) (h8:bq (T nat).G 38 [.ref 0 0,.v (.one (ci 14))] [B]=some ([.one (ci 9)],[B'])):bq (T nat).G 103 [.ref 0 0,.v (.one (ci d))] [B]=some ([.agg (enc (Lj 1))],[B']):=by
 have hn:=na.v47 1 (by omega) (by omega)
 rw [iU hl hl' h8];by_cases hd:d < 1
 ·rw [C6 hd,alk];simp [ac0,zS,h8,hd,hn,hl,hl',bF]
 ·rw [E0 hd,alv];simp [adT,zS,h8,hd,hn,hl,hl',bF]
theorem aez (hl:B.length=2) (hl':B'.length=2) (hl2:B2.length=2) {r:Int} (h1:0<=r) (h2:r < 7) (na:kN nat) (h8:bq (T nat).G 38 [.ref 0 0,.v (.one (ci 14))] [B]=some ([.one (ci 2)],[B'])) (Jh:bq (T nat).G 38 [.ref 0 0,.v (.one (ci 7))] [B']=some ([.one (ci r)],[B2])):bq (T nat).G 103 [.ref 0 0,.v (.one (ci d))] [B]=some ([.agg (enc (Lj (r - 3)))],[B2]):=by
 have hn:=na.v47 (r - 3) (by omega) (by omega)
 have hs:bW .sub false (ci r) (ci 3)=some (ci (r - 3)):=nQ (by omega) (by omega)
 rw [iU hl hl' h8];by_cases hd:d < 1
 ·rw [C6 hd,alc];simp [af6,zS,h8,Jh,hd,hn,hs,hl,hl',hl2,bF]
 ·rw [E0 hd,amy];simp [afW,zS,h8,Jh,hd,hn,hs,hl,hl',hl2,bF]
theorem aew (hl:B.length=2) (hl':B'.length=2) (hl2:B2.length=2) {r:Int} (h1:0<=r) (h2:r < 7) (na:kN nat) (h8:bq (T nat).G 38 [.ref 0 0,.v (.one (ci 14))] [B]=some ([.one (ci 3)],[B'])) (Jh:bq (T nat).G 38 [.ref 0 0,.v (.one (ci 7))] [B']=some ([.one (ci r)],[B2])):bq (T nat).G 103 [.ref 0 0,.v (.one (ci d))] [B]=some ([.agg (enc (Lj (r - 3)))],[B2]):=by
 have hn:=na.v47 (r - 3) (by omega) (by omega)
 have hs:bW .sub false (ci r) (ci 3)=some (ci (r - 3)):=nQ (by omega) (by omega)
 rw [iU hl hl' h8];by_cases hd:d < 1
 ·rw [C6 hd,akd];simp [ac7,zS,h8,Jh,hd,hn,hs,hl,hl',hl2,bF]
 ·rw [E0 hd,alO];simp [adh,zS,h8,Jh,hd,hn,hs,hl,hl',hl2,bF]
theorem ac5 (hl:B.length=2) (hl':B'.length=2) (hl2:B2.length=2) {r:Int} (h1:0<=r) (h2:r < 3) (h8:bq (T nat).G 38 [.ref 0 0,.v (.one (ci 14))] [B]=some ([.one (ci 6)],[B'])) (Jh:bq (T nat).G 38 [.ref 0 0,.v (.one (ci 3))] [B']=some ([.one (ci r)],[B2])):bq (T nat).G 103 [.ref 0 0,.v (.one (ci d))] [B]=some ([.agg (enc (.sy user (letter r)))],[B2]):=by
 obtain ⟨c,hc,hw⟩:=A1.1 (abJ h1 h2);rw [iU hl hl' h8];by_cases hd:d < 1
 ·rw [C6 hd,alC];simp [ac6,zS,h8,Jh,hd,hc,hw,x13,x152,ajS,hl,hl',hl2,bF]
 ·rw [E0 hd,akj];simp [afP,zS,h8,Jh,hd,hc,hw,x13,x152,ajS,hl,hl',hl2,bF]
theorem adq (hl:B.length=2) (hl':B'.length=2) (hl2:B2.length=2) {r:Int} (h1:0<=r) (h2:r < 3) (h8:bq (T nat).G 38 [.ref 0 0,.v (.one (ci 14))] [B]=some ([.one (ci 7)],[B'])) (Jh:bq (T nat).G 38 [.ref 0 0,.v (.one (ci 3))] [B']=some ([.one (ci r)],[B2])):bq (T nat).G 103 [.ref 0 0,.v (.one (ci d))] [B]=some ([.agg (enc (.st (word r)))],[B2]):=by
 have hw:=ah2 h1 h2;rw [iU hl hl' h8];by_cases hd:d < 1
 ·rw [C6 hd,ak2];simp [acN,zS,h8,Jh,hd,hw,x160,hl,hl',hl2,bF]
 ·rw [E0 hd,aj9];simp [acI,zS,h8,Jh,hd,hw,x160,hl,hl',hl2,bF]
theorem agD (hl:B.length=2) (hl':B'.length=2) (hd:d < 1) (hl2:B2.length=2) {r:Int} (h1:0<=r) (h2:r < 7) (na:kN nat) (h8:bq (T nat).G 38 [.ref 0 0,.v (.one (ci 14))] [B]=some ([.one (ci 10)],[B'])) (Jh:bq (T nat).G 38 [.ref 0 0,.v (.one (ci 7))] [B']=some ([.one (ci r)],[B2])):bq (T nat).G 103 [.ref 0 0,.v (.one (ci d))] [B]=some ([.agg (enc (Lj (r - 3)))],[B2]):=by
 have hj:bW .sub false (ci 10) (ci 8)=some (ci 2):=nQ (by omega) (by omega)
 have hn:=na.v47 (r - 3) (by omega) (by omega)
 have hs:bW .sub false (ci r) (ci 3)=some (ci (r - 3)):=nQ (by omega) (by omega)
 rw [iU hl hl' h8,C6 hd,alg];simp [acO,zS,h8,Jh,hd,hn,hs,hj,hl,hl',hl2,bF]
theorem aiF (hl:B.length=2) (hl':B'.length=2) (hd:d < 1) (hl2:B2.length=2) {r:Int} (h1:0<=r) (h2:r < 7) (na:kN nat) (h8:bq (T nat).G 38 [.ref 0 0,.v (.one (ci 14))] [B]=some ([.one (ci 11)],[B'])) (Jh:bq (T nat).G 38 [.ref 0 0,.v (.one (ci 7))] [B']=some ([.one (ci r)],[B2])):bq (T nat).G 103 [.ref 0 0,.v (.one (ci d))] [B]=some ([.agg (enc (Lj (r - 3)))],[B2]):=by
 have hj:bW .sub false (ci 11) (ci 8)=some (ci 3):=nQ (by omega) (by omega)
 have hn:=na.v47 (r - 3) (by omega) (by omega)
 have hs:bW .sub false (ci r) (ci 3)=some (ci (r - 3)):=nQ (by omega) (by omega)
 rw [iU hl hl' h8,C6 hd,alW];simp [adI,zS,h8,Jh,hd,hn,hs,hj,hl,hl',hl2,bF]
theorem ahQ (hl:B.length=2) (hl':B'.length=2) (hd:d < 1) (na:kN nat) (h8:bq (T nat).G 38 [.ref 0 0,.v (.one (ci 14))] [B]=some ([.one (ci 12)],[B'])):bq (T nat).G 103 [.ref 0 0,.v (.one (ci d))] [B]=some ([.agg (enc half)],[B']):=by
 have hj:bW .sub false (ci 12) (ci 8)=some (ci 4):=nQ (by omega) (by omega)
 rw [iU hl hl' h8,C6 hd,ajV];simp [acH,zS,h8,hd,hj,na.amS,hl,hl',bF]
theorem aiT (hl:B.length=2) (hl':B'.length=2) (hd:d < 1) (na:kN nat) (h8:bq (T nat).G 38 [.ref 0 0,.v (.one (ci 14))] [B]=some ([.one (ci 13)],[B'])):bq (T nat).G 103 [.ref 0 0,.v (.one (ci d))] [B]=some ([.agg (enc less)],[B']):=by
 have hj:bW .sub false (ci 13) (ci 8)=some (ci 5):=nQ (by omega) (by omega)
 rw [iU hl hl' h8,C6 hd,amN];simp [acY,zS,h8,hd,hj,na.ake,hl,hl',bF]
theorem aie (hl:B.length=2) (hl':B'.length=2) (hd:¬d < 1) (hl2:B2.length=2) {r:Int} (h8:bq (T nat).G 38 [.ref 0 0,.v (.one (ci 14))] [B]=some ([.one (ci 10)],[B'])) (Jh:bq (T nat).G 38 [.ref 0 0,.v (.one (ci 4))] [B']=some ([.one (ci r)],[B2])):bq (T nat).G 103 [.ref 0 0,.v (.one (ci d))] [B]=bR (T nat).G 103 0 [.c (ci d),.c (ci r),.c (ci 0),.l B2,.c (ci 0),.c ce,.c ce,.c ce,.c ce,.c ce,.c cz,.c cz]:=by rw [iU hl hl' h8,E0 hd,ajX];simp [afI,zZ,h8,Jh,hd,hl,hl',hl2]
theorem ah3 (hl:B.length=2) (hl':B'.length=2) (hd:¬d < 1) (hl2:B2.length=2) {r:Int} (h8:bq (T nat).G 38 [.ref 0 0,.v (.one (ci 14))] [B]=some ([.one (ci 11)],[B'])) (Jh:bq (T nat).G 38 [.ref 0 0,.v (.one (ci 4))] [B']=some ([.one (ci r)],[B2])):bq (T nat).G 103 [.ref 0 0,.v (.one (ci d))] [B]=bR (T nat).G 103 0 [.c (ci d),.c (ci r),.c (ci 0),.l B2,.c (ci 0),.c ce,.c ce,.c ce,.c ce,.c ce,.c cz,.c cz]:=by rw [iU hl hl' h8,E0 hd,alh];simp [ad4,zZ,h8,Jh,hd,hl,hl',hl2]
theorem aiM (hl:B.length=2) (hl':B'.length=2) (hd:¬d < 1) (hl2:B2.length=2) {r:Int} (h8:bq (T nat).G 38 [.ref 0 0,.v (.one (ci 14))] [B]=some ([.one (ci 12)],[B'])) (Jh:bq (T nat).G 38 [.ref 0 0,.v (.one (ci 4))] [B']=some ([.one (ci r)],[B2])):bq (T nat).G 103 [.ref 0 0,.v (.one (ci d))] [B]=bR (T nat).G 103 0 [.c (ci d),.c (ci r),.c (ci 0),.l B2,.c (ci 0),.c ce,.c ce,.c ce,.c ce,.c ce,.c cz,.c cz]:=by rw [iU hl hl' h8,E0 hd,alR];simp [afA,zZ,h8,Jh,hd,hl,hl',hl2]
theorem ahX (hl:B.length=2) (hl':B'.length=2) (hd:¬d < 1) (hd2:d < 100) (hl2:B2.length=2) {B3:List C} (hl3:B3.length=2) {a b:Ob} (h8:bq (T nat).G 38 [.ref 0 0,.v (.one (ci 14))] [B]=some ([.one (ci 13)],[B'])) (e1:bq (T nat).G 103 [.ref 0 0,.v (.one (ci (d - 1)))] [B']=some ([.agg (enc a)],[B2])) (e2:bq (T nat).G 103 [.ref 0 0,.v (.one (ci (d - 1)))] [B2]=some ([.agg (enc b)],[B3])):bq (T nat).G 103 [.ref 0 0,.v (.one (ci d))] [B]=some ([.agg (enc (.cons a b))],[B3]):=by
 have hs:bW .sub false (ci d) (ci 1)=some (ci (d - 1)):=nQ (by omega) (by omega)
 rw [iU hl hl' h8,E0 hd,alZ];simp [aeg,zZ,h8,e1,e2,hs,aoJ,hd,hl,hl',hl2,hl3,bF]
end
end Go.Ey.Pr
namespace Go.Ey.Pr
open Seat
def SZ:Nat->Nat
 |0=>1
 |d+1=>3 * (SZ d+1)+1
def Dr (d:Nat) (o:Ob):Prop:=Good o/\Gc o<=SZ d/\hO o<=d+1
theorem al6:∀d,1<=SZ d
 |0=>An _
 |d+1=>by simp only [SZ];omega
theorem fe {o:Ob} (d:Nat) (h:o∈atoms) (hc:Tu o=false):Dr d o:=by
 have:=al6 d
 cases o with
 |cons a b=>cases hc
 |num u v=>exact ⟨h,by simpa [Gc] using this,by simp [hO]⟩
 |sy u v=>exact ⟨h,by simpa [Gc] using this,by simp [hO]⟩
 |st u=>exact ⟨h,by simpa [Gc] using this,by simp [hO]⟩
theorem NN:∀{l:List Ob},(∀x∈l,Good x)->Good (xh l)
 |[],_=>by simp [xh,VH,Good,atoms]
 |x::l,h=>⟨h x (by simp),NN fun y hy=>h y (by simp [hy])⟩
theorem VY {k:Nat}:∀{l:List Ob},(∀x∈l,Gc x<=k)->Gc (xh l)<=l.length * (k+1)+1
 |[],_=>by simp [xh,VH,Gc]
 |x::l,h=>by
  have h1:=h x (by simp)
  have h2:=VY (l:=l) fun y hy=>h y (by simp [hy])
  simp only [xh,Gc,C5,G1];omega
theorem ZY {k:Nat}:∀{l:List Ob},(∀x∈l,hO x<=k)->hO (xh l)<=k+1
 |[],_=>by simp [xh,VH,hO]
 |x::l,h=>by
  have h1:=h x (by simp)
  have h2:=ZY (l:=l) fun y hy=>h y (by simp [hy])
  simp only [xh,hO];omega
theorem BL {n:Int} (h1:-3<=n) (h2:n<=3):Lj n∈atoms/\Tu (Lj n)=false:=by
 have h:n=-3\/n=-2\/n=-1\/n=0\/n=1\/n=2\/n=3:=by omega
 rcases h with rfl|rfl|rfl|rfl|rfl|rfl|rfl<;>simp [Lj,atoms,Tu]
theorem N8 {r:Int} (h1:0<=r) (h2:r < 3):Ob.sy user (letter r)∈atoms:=by
 have h:r=0\/r=1\/r=2:=by omega
 rcases h with rfl|rfl|rfl<;>simp [letter,atoms,user]
theorem Vh {r:Int} (h1:0<=r) (h2:r < 3):Ob.st (word r)∈atoms:=by
 have h:r=0\/r=1\/r=2:=by omega
 rcases h with rfl|rfl|rfl<;>simp [word,atoms]
section
variable {nat:Nat->List V->Option (List V)}
def Draws (nat:Nat->List V->Option (List V)) (bs:List UInt8) (d:Nat):Prop:=
 ∀pos,pos<=bs.length->∃(o:Ob) (pos':Nat),bq (T nat).G 103 [.ref 0 0,.v (.one (ci d))] [bx bs pos]=some ([.agg (enc o)],[bx bs pos'])/\Dr d o/\pos'<=bs.length
theorem Uy (bs:List UInt8) (d:Nat) (hd:d < 100) (ih:Draws nat bs d) (n:Nat) (hn:n<=3):∀(m i:Nat) (acc:List Ob) (pos:Nat),i+m=n->acc.length=i->(∀x∈acc,Dr d x)->pos<=bs.length->
  ∃(l:List Ob) (pos':Nat),bR (T nat).G 103 0 [.c (ci ((d+1:Nat):Int)),.c (ci n),.c (ci i),.l (bx bs pos),.c (ci 0),.c ce,.c ce,.c ce,.c ce,.c ce,.c cz,.c (rows enc acc)]=some ([.agg (enc (xh l))],[bx bs pos'])/\l.length=n/\(∀x∈l,Dr d x)/\pos'<=bs.length
 |0,i,acc,pos,hi,hc,ha,hp=>by
  have hlt:¬((i:Int) < (n:Int)):=by omega
  refine ⟨acc,pos,?_,by omega,ha,hp⟩
  rw [aF Nw (t:=Qa[0]) rfl];simp [Qa,zZ,hlt,aqW acc (by omega),zg,bF]
 |m+1,i,acc,pos,hi,hc,ha,hp=>by
  have hlt:((i:Int) < (n:Int)):=by omega
  obtain ⟨o,pos1,h1,h2,h3⟩:=ih pos hp;obtain ⟨l,pos2,g1,g2,g3,g4⟩:=Uy bs d hd ih n hn m (i+1) (acc++[o]) pos1 (by omega) (by simp [hc]) (fun x hx=>by
   rcases B0.1 hx with h|h
   ·exact ha x h
   ·simp only [B8] at h;subst h;exact h2) h3
  refine ⟨l,pos2,?_,g2,g3,g4⟩;have hs:bW .sub false (ci ((d+1:Nat):Int)) (ci 1)=some (ci (d:Int)):=by
   rw [nQ (by omega) (by omega)]
   exact E6 (fun x=>some (ci x)) (by omega)
  have hap:=arR (acc:=acc) (x:=o) (by omega)
  have hs2:=bn i (by omega)
  rw [aF Nw (t:=Qa[0]) rfl];simp [-Int.natCast_add,Qa,zZ,hlt,hs,h1,aoj,hap,hs2,g1,zg,bF]
theorem x103 (na:kN nat) (bs:List UInt8) (hb:bs.length<=80):∀d:Nat,d < 100->Draws nat bs d:=by
 intro d;induction d with
 |zero=>
  intro _ pos hp;obtain ⟨k,p1,h8,k0,k1,hp1⟩:=x38 (nat:=nat) bs pos hb hp 14 (by omega)
  have hk:k=0\/k=1\/k=2\/k=3\/k=4\/k=5\/k=6\/k=7\/k=8\/k=9\/k=10\/k=11\/k=12\/k=13:=by omega
  obtain ⟨r7,p7,h7,a7,b7,c7⟩:=x38 (nat:=nat) bs p1 hb hp1 7 (by omega)
  obtain ⟨r3,p3,h3,a3,b3,c3⟩:=x38 (nat:=nat) bs p1 hb hp1 3 (by omega)
  have hd:((0:Nat):Int) < 1:=by omega
  have hn:=BL (n:=r7 - 3) (by omega) (by omega)
  rcases hk with rfl|rfl|rfl|rfl|rfl|rfl|rfl|rfl|rfl|rfl|rfl|rfl|rfl|rfl
  ·exact ⟨_,_,aeN rfl rfl h8,fe _ (by simp [atoms]) rfl,hp1⟩
  ·exact ⟨_,_,acC rfl rfl h8,fe _ (by simp [atoms]) rfl,hp1⟩
  ·exact ⟨_,_,aez rfl rfl rfl a7 b7 na h8 h7,fe _ hn.1 hn.2,c7⟩
  ·exact ⟨_,_,aew rfl rfl rfl a7 b7 na h8 h7,fe _ hn.1 hn.2,c7⟩
  ·exact ⟨_,_,aeK rfl rfl na h8,fe _ (by simp [atoms,half]) rfl,hp1⟩
  ·exact ⟨_,_,ae4 rfl rfl na h8,fe _ (by simp [atoms,less]) rfl,hp1⟩
  ·exact ⟨_,_,ac5 rfl rfl rfl a3 b3 h8 h3,fe _ (N8 a3 b3) rfl,c3⟩
  ·exact ⟨_,_,adq rfl rfl rfl a3 b3 h8 h3,fe _ (Vh a3 b3) rfl,c3⟩
  ·exact ⟨_,_,afh rfl rfl na h8,fe _ (BL (by omega) (by omega)).1 rfl,hp1⟩
  ·exact ⟨_,_,af4 rfl rfl na h8,fe _ (BL (by omega) (by omega)).1 rfl,hp1⟩
  ·exact ⟨_,_,agD rfl rfl hd rfl a7 b7 na h8 h7,fe _ hn.1 hn.2,c7⟩
  ·exact ⟨_,_,aiF rfl rfl hd rfl a7 b7 na h8 h7,fe _ hn.1 hn.2,c7⟩
  ·exact ⟨_,_,ahQ rfl rfl hd na h8,fe _ (by simp [atoms,half]) rfl,hp1⟩
  ·exact ⟨_,_,aiT rfl rfl hd na h8,fe _ (by simp [atoms,less]) rfl,hp1⟩
 |succ d ih=>
  intro aui pos hp;have ih:=ih (by omega)
  obtain ⟨k,p1,h8,k0,k1,hp1⟩:=x38 (nat:=nat) bs pos hb hp 14 (by omega)
  have hk:k=0\/k=1\/k=2\/k=3\/k=4\/k=5\/k=6\/k=7\/k=8\/k=9\/k=10\/k=11\/k=12\/k=13:=by omega
  obtain ⟨r7,p7,h7,a7,b7,c7⟩:=x38 (nat:=nat) bs p1 hb hp1 7 (by omega)
  obtain ⟨r3,p3,h3,a3,b3,c3⟩:=x38 (nat:=nat) bs p1 hb hp1 3 (by omega)
  obtain ⟨r4,p4,h4,a4,b4,c4⟩:=x38 (nat:=nat) bs p1 hb hp1 4 (by omega)
  have hd:¬((d+1:Nat):Int) < 1:=by omega
  have hn:=BL (n:=r7 - 3) (by omega) (by omega)
  have hlist:∃(o:Ob) (pos':Nat),bR (T nat).G 103 0 [.c (ci ((d+1:Nat):Int)),.c (ci r4),.c (ci 0),.l (bx bs p4),.c (ci 0),.c ce,.c ce,.c ce,.c ce,.c ce,.c cz,.c cz]=some ([.agg (enc o)],[bx bs pos'])/\Dr (d+1) o/\pos'<=bs.length:=by
   obtain ⟨l,p',g1,g2,g3,g4⟩:=Uy bs d (by omega) ih r4.toNat (by omega) r4.toNat 0 [] p4 (by omega) rfl (fun x h=>by cases h) c4
   rw [Bt,Int.toNat_of_nonneg a4] at g1;refine ⟨xh l,p',g1,⟨NN fun x hx=>(g3 x hx).1,?_,ZY fun x hx=>(g3 x hx).2.2⟩,g4⟩
   have h1:=VY (l:=l) fun x hx=>(g3 x hx).2.1
   have h2:l.length * (SZ d+1)<=3 * (SZ d+1):=Cd _ (by omega)
   simp only [SZ];omega
  rcases hk with rfl|rfl|rfl|rfl|rfl|rfl|rfl|rfl|rfl|rfl|rfl|rfl|rfl|rfl
  ·exact ⟨_,_,aeN rfl rfl h8,fe _ (by simp [atoms]) rfl,hp1⟩
  ·exact ⟨_,_,acC rfl rfl h8,fe _ (by simp [atoms]) rfl,hp1⟩
  ·exact ⟨_,_,aez rfl rfl rfl a7 b7 na h8 h7,fe _ hn.1 hn.2,c7⟩
  ·exact ⟨_,_,aew rfl rfl rfl a7 b7 na h8 h7,fe _ hn.1 hn.2,c7⟩
  ·exact ⟨_,_,aeK rfl rfl na h8,fe _ (by simp [atoms,half]) rfl,hp1⟩
  ·exact ⟨_,_,ae4 rfl rfl na h8,fe _ (by simp [atoms,less]) rfl,hp1⟩
  ·exact ⟨_,_,ac5 rfl rfl rfl a3 b3 h8 h3,fe _ (N8 a3 b3) rfl,c3⟩
  ·exact ⟨_,_,adq rfl rfl rfl a3 b3 h8 h3,fe _ (Vh a3 b3) rfl,c3⟩
  ·exact ⟨_,_,afh rfl rfl na h8,fe _ (BL (by omega) (by omega)).1 rfl,hp1⟩
  ·exact ⟨_,_,af4 rfl rfl na h8,fe _ (BL (by omega) (by omega)).1 rfl,hp1⟩
  ·obtain ⟨o,p',g1,g2,g3⟩:=hlist;exact ⟨o,p',(aie rfl rfl hd rfl h8 h4).trans g1,g2,g3⟩
  ·obtain ⟨o,p',g1,g2,g3⟩:=hlist;exact ⟨o,p',(ah3 rfl rfl hd rfl h8 h4).trans g1,g2,g3⟩
  ·obtain ⟨o,p',g1,g2,g3⟩:=hlist;exact ⟨o,p',(aiM rfl rfl hd rfl h8 h4).trans g1,g2,g3⟩
  ·have he:(((d+1:Nat):Int) - 1)=(d:Int):=by omega
   obtain ⟨a,p2,e1,q1,q2⟩:=ih p1 hp1;obtain ⟨b,p3',e2,q3,q4⟩:=ih p2 q2;rw [<-he] at e1 e2;refine ⟨.cons a b,p3',ahX rfl rfl hd (by omega) rfl rfl h8 e1 e2,⟨⟨q1.1,q3.1⟩,?_,?_⟩,q4⟩
   ·have h1:=q1.2.1;have h2:=q3.2.1
    simp only [Gc,SZ];omega
   ·have h1:=q1.2.2;have h2:=q3.2.2
    simp only [hO];omega
end
section
variable {nat:Nat->List V->Option (List V)}
theorem gJ.length:∀{xs:List K} {cs:List C},gJ xs cs->cs.length=xs.length
 |_,_,.nil=>rfl
 |_,_,.cons _ h=>by simp [gJ.length h]
section
variable (hn:qd nat)
include hn
theorem kc2 {f n:Nat} {p:List PS} (hp:(T nat).ko f=some p) {ts:List TA} (hf:fits p ts=true) {ys:List KW} {us:List LA} (hr:RLs ts ys us) {x y:K} (hk:(jm ZC n).fn f ys []=.ret [.c x,.c y] []):
  ∃c d,RK x c/\RK y d/\bq (T nat).G f us []=some ([.one c,.one d],[]):=by
 obtain ⟨r1,g1,g2,g3⟩:=AO (NK hn) hp hf hr (zs:=[]) (css:=[]) trivial hk;obtain ⟨a1,b1⟩:=r1
 match a1,b1,g2,g3 with
 |[.one c1,.one d1],[],g2,_=>exact ⟨c1,d1,g2.1,g2.2.1,g1⟩
end
end
def kS (b:ByteArray):K:=.s b.data.toList.length (mq b.data.toList)
theorem Fj (b:ByteArray):RK (kS b) (cs b):=RK.s _ _ b (zT _).symm (LM _)
def kI (n:Int):K:=.i .i64 n
def kE:K:=.s 0 0
theorem JM:RK kE ce:=RK.s 0 0 ⟨#[]⟩ rfl (by decide)
theorem rkZ:RK kz cz:=RK.sl 0 [] 0 [] nO.nil rfl
def kO:Ob->List K
 |.num n d=>[kI 1,kS n,kS d,kE,kE,kE,kz]
 |.sy p s=>[kI 2,kE,kE,kS p,kS s,kE,kz]
 |.st t=>[kI 3,kE,kE,kE,kE,kS t,kz]
 |.cons _ _=>[]
theorem rkO {o:Ob} (h:Tu o=false):gJ (kO o) (enc o):=by
 cases o with
 |num n d=>exact .cons (RK.i _ _) (.cons (Fj n) (.cons (Fj d) (.cons JM (.cons JM (.cons JM (.cons rkZ .nil))))))
 |sy n d=>exact .cons (RK.i _ _) (.cons JM (.cons JM (.cons (Fj n) (.cons (Fj d) (.cons JM (.cons rkZ .nil))))))
 |st t=>exact .cons (RK.i _ _) (.cons JM (.cons JM (.cons JM (.cons JM (.cons (Fj t) (.cons rkZ .nil))))))
 |cons _ _=>cases h
def aus:bD->Bool
 |.ret [.c (.b true)] []=>true
 |_=>false
section
variable {nat:Nat->List V->Option (List V)}
theorem ahF:(T nat).ko 194=some [.one,.one]:=by kernel_rfl
def Zp (n d:ByteArray):bD->Bool
 |.ret [.c (.s a v),.c (.s b w)] []=>(a==n.data.toList.length) && (v==mq n.data.toList) && (b==d.data.toList.length) && (w==mq d.data.toList)
 |_=>false
theorem acn {n d:ByteArray} {a:bD} (h:Zp n d a=true):a=.ret [.c (kS n),.c (kS d)] []:=by
 unfold Zp at h;split at h
 ·simp only [A5,K1] at h;obtain ⟨⟨⟨rfl,rfl⟩,rfl⟩,rfl⟩:=h;rfl
 ·cases h
theorem Zy {b:ByteArray} {c:C} (h:RK (kS b) c):c=cs b:=by
 obtain ⟨b',h1,h2,h3⟩:=h.str;rw [zT] at h2;have:b'=b:=by obtain ⟨b'⟩:=b';obtain ⟨b⟩:=b;congr 1;exact Array.toList_inj.1 h2
 rw [h1,this];rfl
def small:List (ByteArray×ByteArray):=[(⟨#[48]⟩,⟨#[49]⟩),(⟨#[49]⟩,⟨#[49]⟩),(⟨#[50]⟩,⟨#[49]⟩),(⟨#[51]⟩,⟨#[49]⟩),(⟨#[45,49]⟩,⟨#[49]⟩),(⟨#[45,50]⟩,⟨#[49]⟩),(⟨#[45,51]⟩,⟨#[49]⟩),(⟨#[49]⟩,⟨#[50]⟩),(⟨#[45,53]⟩,⟨#[51]⟩)]
def ali:Bool:=small.all fun p=>Zp p.1 p.2 ((jm ZC 3000).fn 194 [.c (kS p.1),.c (kS p.2)] [])
theorem abF:ali=true:=by kernel_rfl
theorem aoI (hn:qd nat) {m:Nat} {p s:ByteArray} (h:Zp p s ((jm ZC m).fn 194 [.c (kS p),.c (kS s)] [])=true):bq (T nat).G 194 [.v (.one (cs p)),.v (.one (cs s))] []=some ([.one (cs p),.one (cs s)],[]):=by obtain ⟨c,d,b1,b2,e⟩:=kc2 hn ahF (ts:=[.v (.one (.v 0)),.v (.one (.v 0))]) rfl (ys:=[.c (kS p),.c (kS s)]) (us:=[.v (.one (cs p)),.v (.one (cs s))]) ⟨Fj p,Fj s,trivial⟩ (acn h);rw [Zy b1,Zy b2] at e;exact e
theorem arD (hn:qd nat) (p:ByteArray×ByteArray) (h:p∈small):bq (T nat).G 194 [.v (.one (cs p.1)),.v (.one (cs p.2))] []=some ([.one (cs p.1),.one (cs p.2)],[]):=
 aoI hn (D0.1 abF p h)
theorem x159 (hn:qd nat) (p:ByteArray×ByteArray) (h:p∈small):bq (T nat).G 159 [.v (.one (cs p.1)),.v (.one (cs p.2))] []=some ([.agg (enc (.num p.1 p.2))],[]):=by rw [aQ aiU];simp [t159,zS,arD hn p h,enc,ce]
end
end Go.Ey.Pr
end
