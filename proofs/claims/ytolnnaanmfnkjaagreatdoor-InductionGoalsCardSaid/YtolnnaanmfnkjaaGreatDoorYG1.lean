/- A part. -/
import Derived.Test.YtolnnaanmfnkjaaGreatDoorY35
import Derived.Test.YtolnnaanmfnkjaaGreatDoorY43
import Derived.Test.YtolnnaanmfnkjaaGreatDoorY44
import Derived.Below
import GoSem.Core.Region
import GoSem.Core.Layout
import GoSem.Op.Equal
import GoSem.Core.View
import GoSem.Op.String
import Derived.Test.YtolnnaanmfnkjaaGreatDoorChecked
import Derived.KernelRfl
import Derived.Orders
import Derived.MapKept
import Derived.Carry
import Derived.Laws.StructEq
import Derived.WalkKit
import Derived.Laws.Append
import Derived.Laws.OwnMore
import Derived.StillTailTactics
import Derived.Deep.AppendLies
import Derived.Deep.RegionHeld3
import Derived.Lib.LaidTab
import Derived.Shelf.LaysM
import Derived.Shelf.Strconv.Itoa3
import Derived.Shelf.Strconv.Quote
import Derived.Shelf.Strings.Builder1
import Derived.BigCall
import Derived.Shelf.Strings.BuilderF
import Derived.Shelf.Strings.BuilderK
import Derived.Lib.BufferKept
set_option linter.all false
namespace Go.Ey.Rt
open Go Go.Ey
@[simp] def vQ a:=At.n 46 a
@[simp] def yK a:=At.n 25 a
@[simp] def yU a:=qW 10 a
end Go.Ey.Rt
set_option maxHeartbeats 4000000
namespace Go.Ey.Pr
open Go.Ey Go.Ey.Rt Go.Ey.Seat
def t178:bO:=⟨uZ 7,[],wJ [jJ 2,pE,pE,tT 0,tT 1,tT 2,tT 3,tT 4,tT 5,tT 6,.z],[]⟩
def t179:bO:=⟨[],[],tZ 210 [tX [sJ,oV ⟨#[116]⟩]] 7 (yO 0),[]⟩
def t180:bO:=⟨[],[],tZ 210 [tX [sJ,oV ⟨#[110,105,108]⟩]] 7 (yO 0),[]⟩
def t181:bO:=⟨yG 2,[],wJ [jJ 3,tT 0,tT 1,uC,pE,pE,pE,pE,pE,.z,.v 1],[]⟩
def t210:bO:=⟨uZ 2,[],wJ [jJ 2,pE,pE,tT 0,tT 1,pE,.z],[]⟩
section
variable {nat:Nat->List V->Option (List V)}
theorem ail:(T nat).G.fn 178=some t178:=by kernel_rfl
theorem aiZ:(T nat).G.fn 179=some t179:=by kernel_rfl
theorem ahA:(T nat).G.fn 180=some t180:=by kernel_rfl
theorem ahu:(T nat).G.fn 181=some t181:=by kernel_rfl
theorem agR:(T nat).G.fn 210=some t210:=by kernel_rfl
end
end Go.Ey.Pr
set_option maxHeartbeats 4000000
namespace Go.Ey.Pr
open Go.Ey Go.Ey.Rt Go.Ey.Seat
set_option maxRecDepth 100000
section
variable {nat:Nat->List V->Option (List V)}
def t8:bO:=⟨xP,[],sV 9 [] (vI 1 2 (vB (qE .gtr 3 60 (qX 4 qV [] (sV 10 [kP (.k (.int .u32 0))] (.call 11 (uF wW 5) [.lit [.v 0,uC]] [none] [2] (oU 29 [pO 5,kP .z,pO 6] [yF,none] [] (zB 31 6 8 (zB 32 6 8 (xL 30 (pO 10) 11 (uW 12))))))))))),[]⟩
theorem anq:(T nat).G.fn 8=some t8:=by kernel_rfl
def t25:bO:=⟨uX 16 16,[],sV 59 (wS 0 1 1 1) (zA 2 3 [.z,.z,.z,uC,pE,pE,uC,pE,pE,pE,pE,pE,.z,.z,.z,uC] (sV 59 (wS 0 1 1 2) (yM 4 [.z,.z,.z,uC,pE,pE,uC,pE,pE,pE,pE,pE,.z,.z,.z,uC] (sV 59 (wS 1 1 0 2) (yM 5 [.z,.z,.z,uC,pE,pE,uC,pE,pE,pE,pE,pE,.z,.z,.z,uC] (yZ 0 (yZ 1 (vC 6 7 (yM 8 [.z,.z,.z,uC,pE,pE,uC,pE,pE,pE,pE,pE,.z,.z,.z,uC] (yQ .add 0 15 15 (pY 11 176 .z (tT 0) (pY 11 176 (.v 10) (wH 0) (sV 60 (wS 0 1 1 1) (sV 60 (wS 0 2 1 2) (qJ [rW,lI 0,lI 1,rM,rM,rM,rW,qQ,qQ,rW,qQ,qQ,qQ,qQ,qQ,rM,rM,rM,rW,sD,sK,qW 0 3,qW 0 4,qW 0 5,qW 0 6,qW 0 7,qW 0 8,qW 0 9,qW 0 10,qW 0 11,qW 0 12,qW 0 13,uD,rQ,rM]))))))))))))))),[yZ 1 (qC 0 35 36 (qY 2 1 14 0 (qY 2 2 14 0 (qO 37 0 (qO 38 0 (vC 39 40 (yM 41 [.z,.z,.z,uC,pE,pE,uC,pE,pE,pE,pE,pE,.z,.z,.z,uC] (qO 37 1 (qO 38 1 (vC 42 43 (yM 44 [.z,.z,.z,uC,pE,pE,uC,pE,pE,pE,pE,pE,.z,.z,.z,uC] (pY 11 176 .z (yR 37) (uI [qU,rW,lI 1,lI 2,uS,uN,uH,uG,uO,uP,uD,rP,rQ,sD,sK,sS,sP,sU,sW,tF,uL,uV,wM,vR,wF,vS,vT,vU,vN,wG,wN,wO,wP,wI,lI 37,lI 38,rM,vV,xH,aP 45])))))))))))) (sI [pQ [.v 33,.v 19,.v 20,.v 21,.v 22,.v 23,.v 24,.v 25,.v 26,.v 27,.v 28,.v 29,.v 30,.v 31,.v 34,.v 32],qV])),qO 34 0 (qC 1 40 41 (qY 11 34 0 1 (qY 11 35 0 1 (uM 49 42 43 (zA 44 45 [.z,.z,.z,uC,pE,pE,uC,pE,pE,pE,pE,pE,.z,.z,.z,uC] (rZ 1 1 [qU,aP 46,lI 2,yN,uN,uH,uG,uO,uP,uD,rP,rQ,sD,sK,sS,sP,sU,sW,tF,uL,uV,wM,vR,wF,vS,vT,vU,vN,wG,wN,wO,wP,wI,vV,lI 34,lI 35,yL,xY,xW,wZ]))))) (.goto 4 [qU,rW,lI 2,yN,uN,uH,uG,uO,uP,uD,rP,rQ,sD,sK,sS,sP,sU,sW,tF,uL,uV,wM,vR,wF,vS,vT,vU,vN,wG,wN,wO,wP,wI,vV,lI 34,lI 35,yL,xY,xW,wZ])),qO 34 1 (qC 1 40 41 (qY 1 34 1 1 (qY 1 35 1 1 (sV 61 (wS 42 0 43 0) (zA 44 45 [.z,.z,.z,uC,pE,pE,uC,pE,pE,pE,pE,pE,.z,.z,.z,uC] (qY 1 34 1 1 (pY 13 208 .z (vQ 0) (.goto 3 [qU,rR,rW,lI 2,yN,uN,uH,uG,uO,uP,uD,rP,rQ,sD,sK,sS,sP,sU,sW,tF,uL,uV,wM,vR,wF,vS,vT,vU,vN,wG,wN,wO,wP,wI,vV,lI 34,lI 35,aP 47,yL,xY,xW,wZ]))))))) (pW 2 1 [.v 38,.v 39] (tH 2 48 37 42 (xN 0 [aP 44,lI 2,yN,uN,uH,uG,uO,uP,uD,rP,rQ,sD,sK,sS,sP,sU,sW,tF,uL,uV,wM,vR,wF,vS,vT,vU,vN,wG,wN,wO,wP,wI,vV,yL,aP 43])))),qY 1 36 1 1 (qO 42 0 (qC 2 43 44 (qY 1 36 1 1 (qY 13 45 0 2 (sV 62 [pO 37,tX [vQ 0,vQ 1]] (qP 47 48 (pW 13 1 [vQ 0,vQ 1,vQ 2,vQ 3,vQ 4,vQ 5,vQ 6,vQ 7,vQ 8,vQ 9,sM 46,vQ 11,vQ 12] (tH 13 208 37 49 (rZ 2 3 [qU,rR,aP 51,yN,lI 4,uH,uG,uO,uP,uD,rP,rQ,sD,sK,sS,sP,sU,sW,tF,uL,uV,wM,vR,wF,vS,vT,vU,vN,wG,wN,wO,wP,wI,vV,xH,lI 35,lI 36,aP 50,xW,wZ,yT,yY]))) (rZ 2 3 [qU,rR,aP 49,yN,lI 4,uH,uG,uO,uP,uD,rP,rQ,sD,sK,sS,sP,sU,sW,tF,uL,uV,wM,vR,wF,vS,vT,vU,vN,wG,wN,wO,wP,wI,vV,xH,lI 35,lI 36,xY,xW,wZ,yT,yY]))))) (pW 1 1 [.v 37] (tH 1 24 41 45 (rZ 1 2 [qU,aP 47,yN,lI 4,uH,uG,uO,uP,uD,rP,rQ,sD,sK,sS,sP,sU,sW,tF,uL,uV,wM,vR,wF,vS,vT,vU,vN,wG,wN,wO,wP,wI,vV,xH,lI 35,lI 36,xW,wZ,yT,aP 46]))))),qO 34 1 (qC 1 40 41 (qY 1 34 1 1 (qY 1 35 1 1 (sV 61 (wS 42 0 43 0) (zA 44 45 [.z,.z,.z,uC,pE,pE,uC,pE,pE,pE,pE,pE,.z,.z,.z,uC] (qY 1 34 1 1 (pY 13 208 .z (vQ 0) (.goto 5 [qU,rR,rW,lI 2,yN,uN,uH,uG,uO,uP,uD,rP,rQ,sD,sK,sS,sP,sU,sW,tF,uL,uV,wM,vR,wF,vS,vT,vU,vN,wG,wN,wO,wP,wI,vV,lI 34,lI 35,yL,aP 47,xY,xW,wZ]))))))) (pW 2 1 [.v 39,.v 36] (tH 2 48 38 42 (xN 0 [aP 44,lI 2,yN,uN,uH,uG,uO,uP,uD,rP,rQ,sD,sK,sS,sP,sU,sW,tF,uL,uV,wM,vR,wF,vS,vT,vU,vN,wG,wN,wO,wP,wI,vV,xY,aP 43])))),qY 1 36 1 1 (qO 42 0 (qC 2 43 44 (qY 1 36 1 1 (qY 13 45 0 2 (sV 62 [pO 38,tX [vQ 0,vQ 1]] (qP 47 48 (pW 13 1 [vQ 0,vQ 1,vQ 2,vQ 3,vQ 4,vQ 5,vQ 6,vQ 7,vQ 8,vQ 9,sM 46,vQ 11,vQ 12] (tH 13 208 38 49 (rZ 2 5 [qU,rR,aP 51,yN,lI 4,uH,uG,uO,uP,uD,rP,rQ,sD,sK,sS,sP,sU,sW,tF,uL,uV,wM,vR,wF,vS,vT,vU,vN,wG,wN,wO,wP,wI,vV,xH,lI 35,lI 36,xY,aP 50,wZ,yT,yY]))) (rZ 2 5 [qU,rR,aP 49,yN,lI 4,uH,uG,uO,uP,uD,rP,rQ,sD,sK,sS,sP,sU,sW,tF,uL,uV,wM,vR,wF,vS,vT,vU,vN,wG,wN,wO,wP,wI,vV,xH,lI 35,lI 36,xY,xW,wZ,yT,yY]))))) (pW 1 1 [.v 38] (tH 1 24 37 45 (rZ 1 2 [qU,aP 47,yN,lI 4,uH,uG,uO,uP,uD,rP,rQ,sD,sK,sS,sP,sU,sW,tF,uL,uV,wM,vR,wF,vS,vT,vU,vN,wG,wN,wO,wP,wI,vV,xH,lI 35,lI 36,wZ,yT,yY,aP 46])))))]⟩
theorem iq:(T nat).G.fn 25=some t25:=by kernel_rfl
def t27:bO:=⟨uX 16 16,[],qJ (wV rW 0 1),[qO 2 1 (qC 0 3 4 (qY 2 2 1 0 (sV 65 [qL 1 1,pM 5] (vJ 6 7 0 0 (wV uP 1 2)))) (sV 59 (wS 2 2 1 1) (xK 5 [] (uI (wV rW 1 2))))),yZ 2 (rY 0 3 4 (xV [qU,wK,rW,lI 1,lI 2]) qV),yZ 3 (qC 2 5 6 (qP 1 7 (qY 2 3 14 2 (qY 2 4 14 0 (uM 66 8 9 (rZ 2 2 [qU,rP,rQ,yN,lI 4])))) (vJ 1 8 0 1 (wV uD 3 4))) (vJ 1 7 0 1 (wV uP 3 4)))]⟩
theorem o7:(T nat).G.fn 27=some t27:=by kernel_rfl
def t29:bO:=⟨[.one,.one,.one],[],sV 15 [pO 0,pO 1,pO 2] (qJ [uS,yV,rM,rM,rM,rW,qQ,qQ,rW,qQ,qQ,qQ,qQ,qQ,rM,rM,rM,rW]),[jQ 1 (oU 69 (wB 0) [none,none] [] (qJ [tF,uL,tJ,uS,uN,uH,uG,uO,uP,uD,rP,rQ,sD,sK,sS,sP,sU,sW])) (uI [qU,yV,tJ,uS,uN,uH,uG,uO,uP,uD,rP,rQ,sD,sK,sS,sP,sU,sW]),jQ 1 (oU 70 (wB 0) [none,none] [] (uI [tF,uL,tJ,uS,uN,uH,uG,uO,uP,uD,rP,rQ,sD,sK,sS,sP,sU,sW])) (xV [qU,rW,tJ,uS,uN,uH,uG,uO,uP,uD,rP,rQ,sD,sK,sS,sP,sU,sW,rM]),xU 1 19 20 (.goto 3 [qU,rR,wK,rW,tJ,uS,uN,uH,uG,uO,uP,uD,rP,rQ,sD,sK,sS,sP,sU,sW,tF]) (qD 18 (rD 21 0 22 (.goto 5 [qU,.c (jJ (-1)),rW,tJ,uS,uN,uH,uG,uO,uP,uD,rP,rQ,sD,sK,sS,sP,sU,sW]) (.goto 4 [.c (jJ (-1)),rW,tJ,uS,uN,uH,uG,uO,uP,uD,rP,rQ,sD,sK,sS,sP,sU,sW,tF]))),xU 3 21 22 (wX 2 3 3 [qU,rR,yV,wF,uN,uH,uG,uO,uP,uD,rP,rQ,sD,sK,sS,sP,sU,sW,tF,uL,uV] (vC 3 1 (jQ 23 (yB 1 (yB 3 (sV 59 (wS 24 1 25 2) (rZ 3 3 [qU,rR,vU,vN,uN,uH,uG,uO,uP,uD,rP,rQ,sD,sK,sS,sP,sU,sW,tF,uL,uV])))) (rZ 3 3 [qU,rR,wK,vS,uN,uH,uG,uO,uP,uD,rP,rQ,sD,sK,sS,sP,sU,sW,tF,uL,uV])))) (qP 2 23 (yB 1 (pW 16 1 [uY 0,uY 1,uY 2,uY 3,uY 4,uY 5,uY 6,uY 7,uY 8,uY 9,sM 24,uY 11,uY 12,uY 13,uY 14,uY 15] (tH 16 280 20 25 (rZ 1 2 [qU,vN,uN,uH,uG,uO,uP,uD,rP,rQ,sD,sK,sS,sP,sU,sW,tF,uL,vU])))) (rZ 1 2 [qU,vS,uN,uH,uG,uO,uP,uD,rP,rQ,sD,sK,sS,sP,sU,sW,tF,uL,uV])),qD 18 (qC 1 19 20 (xX 0 0 (wX 21 1 4 [rR,vR,tJ,uS,uN,uH,uG,uO,uP,uD,rP,rQ,sD,sK,sS,sP,sU,sW,tF] (tL 18 1 (tL 18 1 (tL 18 0 (tL 18 0 (rH .gtr 23 15 (yK 15) (wX 26 1 4 [rR,vN,tJ,uS,uN,uH,uG,uO,uP,uD,rP,rQ,sD,sK,sS,sP,sU,sW,tF] (tL 18 1 (tL 18 1 (tL 18 0 (tL 18 0 (rH .eql 28 15 (.n 30 15) (jQ 31 (tL 18 1 (tL 18 1 (qO 33 1 (tL 18 0 (tL 18 0 (qO 36 1 (pR .gtr 34 37 (wX 38 1 4 [rR,wZ,tJ,uS,uN,uH,uG,uO,uP,uD,rP,rQ,sD,sK,sS,sP,sU,sW,tF] (rZ 1 4 [qU,wZ,tJ,uS,uN,uH,uG,uO,uP,uD,rP,rQ,sD,sK,sS,sP,sU,sW,tF]))))))))) (rZ 1 4 [qU,wI,tJ,uS,uN,uH,uG,uO,uP,uD,rP,rQ,sD,sK,sS,sP,sU,sW,tF]))))))))))))))) (xX 0 0 (yM 21 [.z,.z,.z,uC,pE,pE,uC,pE,pE,pE,pE,pE,.z,.z,.z,uC] (tL 18 0 (tL 18 0 (sI [lG 23,qV])))))),xU 2 19 20 (xX 1 0 (wX 21 2 5 [qU,tJ,vR,uS,uN,uH,uG,uO,uP,uD,rP,rQ,sD,sK,sS,sP,sU,sW,tF] (yB 2 (yB 1 (rH .gtr 22 15 (.n 23 15) (wX 24 2 5 [qU,tJ,vT,uS,uN,uH,uG,uO,uP,uD,rP,rQ,sD,sK,sS,sP,sU,sW,tF] (yB 2 (yB 1 (rH .eql 25 15 (.n 26 15) (jQ 27 (yB 2 (qO 28 1 (yB 1 (qO 30 1 (pR .gtr 29 31 (wX 32 2 5 [qU,tJ,vV,uS,uN,uH,uG,uO,uP,uD,rP,rQ,sD,sK,sS,sP,sU,sW,tF] (rZ 2 5 [qU,rR,vV,uS,uN,uH,uG,uO,uP,uD,rP,rQ,sD,sK,sS,sP,sU,sW,tF]))))))) (rZ 2 5 [qU,rR,wG,uS,uN,uH,uG,uO,uP,uD,rP,rQ,sD,sK,sS,sP,sU,sW,tF]))))))))))) (xX 1 0 (yM 21 [.z,.z,.z,uC,pE,pE,uC,pE,pE,pE,pE,pE,.z,.z,.z,uC] (yB 1 (sI [lG 22,qV]))))]⟩
theorem ig:(T nat).G.fn 29=some t29:=by kernel_rfl
def t30:bO:=⟨vM,[],zF 1 (yD 2 3 4 [] (qJ [qU,rR,rW])),[vW 2 3 4 (pG 1 0 2 (pG 1 1 2 (sV 47 (wS 5 0 6 0) (vJ 7 8 2 0 [qU,rR,uD])))) qV]⟩
theorem XR:(T nat).G.fn 30=some t30:=by kernel_rfl
def t31:bO:=⟨vO 16,[],uE 71 (wB 0) (yZ 1 (qJ [qU,qW 1 14,uS,rW,lI 2,rM])),[rY 3 2 6 (pG 2 1 3 (qO 7 0 (uI [qU,rM,rR,tJ,uS,qW 7 0,uP,rW,lI 4,uH,lI 7]))) (qH 5),qC 7 6 11 (xJ 5 7 (yC 73 12 (yE 1 [uJ 0,uJ 1,uJ 2,uJ 3,uJ 4,uJ 5,uJ 6,uJ 7,uJ 8,uJ 9,sM 13] (xL 72 (pO 1) 14 (rZ 7 1 [qU,sP,tJ,uS,uN,uH,uG,sU,lI 8,uD,lI 10]))))) (qO 10 1 (xV [qU,rR,tJ,uS,uN,yU 1,sD,rW,lI 8,uD])),qC 7 6 10 (pG 1 5 7 (uE 74 [pM 8,qL 11 0] (yC 73 12 (yE 1 [uJ 0,uJ 1,uJ 2,uJ 3,uJ 4,uJ 5,uJ 6,uJ 7,uJ 8,uJ 9,sM 13] (xL 72 (pO 1) 14 (rZ 7 2 [qU,sP,tJ,uS,uN,uH,uG,sU,lI 8,uD])))))) (xL 72 (pO 1) 0 (pW 1 1 [.v 11] (tH 1 24 9 12 (xN 4 [qU,tJ,uS,sS,lI 8,sK]))))]⟩
theorem Dp:(T nat).G.fn 31=some t31:=by kernel_rfl
def t32:bO:=⟨vO 16,[],uE 75 (wB 0) (qJ [qU,rW,lI 1,lI 2,rM]),[yZ 2 (rY 1 5 6 (uI [qU,rR,rM,rW,lI 2,yN,uN]) (qH 4)),qY 2 4 14 1 (qO 7 0 (qC 3 8 9 (qY 2 4 14 1 (qY 11 10 0 3 (yC 76 11 (yE 1 [uB 0,uB 1,uB 2,uB 3,uB 4,uB 5,uB 6,uB 7,uB 8,uB 9,sM 12] (xL 41 (pO 2) 13 (rZ 3 1 [qU,rR,sS,sP,lI 4,lI 5,uG])))))) (xV [qU,rR,tJ,rW,lI 4,lI 5,uG]))),qY 2 4 14 1 (qO 7 1 (qC 3 8 9 (qY 2 4 14 1 (qY 1 10 1 3 (uE 77 [pM 5,qL 11 0] (yC 76 12 (yE 1 [uJ 0,uJ 1,uJ 2,uJ 3,uJ 4,uJ 5,uJ 6,uJ 7,uJ 8,uJ 9,sM 13] (xL 41 (pO 2) 14 (rZ 3 2 [qU,rR,sP,sU,lI 4,lI 5,uG]))))))) (xL 41 (pO 2) 0 (pW 1 1 [.v 10] (tH 1 24 6 11 (xN 1 [qU,sK,lI 4,lI 5,sD]))))))]⟩
theorem DU:(T nat).G.fn 32=some t32:=by kernel_rfl
def t47:bO:=⟨vM,[],zF 1 (yD 2 3 4 [] (qJ [qU,rR,rW])),[vW 2 3 4 (xJ 0 2 (xJ 1 2 (uM 49 5 6 (vJ 7 8 2 0 [qU,rR,uD])))) qV]⟩
theorem Ii:(T nat).G.fn 47=some t47:=by kernel_rfl
def t60:bO:=⟨vM,[],pY 2 32 .z (.v 0) (qJ [rR,rW,tJ]),[vW 1 3 4 (pG 2 0 1 (zB 65 2 5 (qP 6 7 (pG 2 0 1 (pW 2 1 [uU 0,uU 1] (tH 2 32 2 9 (xN 1 [qU,rQ,rP])))) (xN 1 [qU,uP,tJ])))) (qH 2)]⟩
theorem Hz:(T nat).G.fn 60=some t60:=by kernel_rfl
def t61:bO:=⟨vM,[],qJ [qU,rR,rW],[vW 2 3 4 (uI [qU,rR,tJ,rW]) qV,qD 1 (qC 3 4 5 (yA 0 2 (yA 1 3 (pU (xM [1,1] [yR 6,.n 6 1] [wL 0,wL 1]) 8 (yA 0 2 (yA 1 3 (sV 49 [tX [uR 2,uR 3,uR 4,uR 5,uR 6,uR 7,uR 8,uR 9,sM 9,uR 11,uR 12],tX [tV 2,tV 3,tV 4,tV 5,tV 6,tV 7,tV 8,tV 9,sM 10,tV 11,tV 12]] (vJ 11 12 3 1 [qU,rR,tJ,sK])))) (rZ 3 1 [qU,rR,tJ,uD])))) (xN 2 [qU,rR,uG]))]⟩
theorem AJ:(T nat).G.fn 61=some t61:=by kernel_rfl
def t62:bO:=⟨vO 2,[],qJ [qU,rW,lI 1],[vW 1 3 4 (yA 0 1 (pU (wE [1,1] [yR 5,.n 5 1] (.all 2)) 6 (rX qV) (xN 1 [qU,uO,lI 2]))) pF]⟩
theorem Iw:(T nat).G.fn 62=some t62:=by kernel_rfl
def t66:bO:=⟨uX 2 2,[],qJ (wV rW 0 1),[qO 2 0 (qC 0 3 4 (qY 11 2 0 0 (sV 129 [qL 1 0,pM 5] (vJ 6 7 0 0 (wV uP 1 2)))) (uI (wV rW 1 2))),qO 2 1 (rY 0 3 4 (xV [qU,wK,rW,lI 1,lI 2]) qV),qO 3 1 (qC 2 5 6 (qP 1 7 (qY 1 3 1 2 (qY 1 4 1 0 (sV 123 (wS 8 0 9 0) (rZ 2 2 [qU,rP,rQ,yN,lI 4])))) (vJ 1 8 0 1 (wV uD 3 4))) (vJ 1 7 0 1 (wV uP 3 4)))]⟩
theorem pX:(T nat).G.fn 66=some t66:=by kernel_rfl
def t69:bO:=⟨xP,[],qJ [qU,rW],[xU 1 2 3 (uI [qU,rR,rW]) (sI [qH 0,pF]),xU 2 3 4 (pR .eql 1 2 (wX 5 2 1 [qU,rR,uG] (yB 1 (yB 2 (uM 27 6 7 (qP 8 9 (rZ 2 1 [qU,rR,rP]) (yB 1 (pY 11 176 .z (tV 0) (yB 2 (pY 11 176 (.v 11) (uB 0) (yB 2 (rH .add 10 15 (.n 14 15) (xV [qU,rR,tJ,rW,yU 1,yU 2,yU 3,yU 4,yU 5,yU 6,yU 7,yU 8,yU 9,yU 10,yU 11,yU 12,yU 13,yU 14,sP,rM,sK]))))))))))))) (xN 1 [qU,uH]),xU 3 21 22 (pR .eql 3 1 (jQ 23 (pW 16 1 [.v 20,.v 4,.v 5,.v 6,.v 7,.v 8,.v 9,.v 10,.v 11,.v 12,.v 13,.v 14,.v 15,.v 16,.v 17,.v 18] (tH 16 280 19 24 (rZ 3 2 [qU,rR,tJ,vU,uN,uH,uG,uO,uP,uD,rP,rQ,sD,sK,sS,sP,sU,sW,tF,vT,uV]))) (pR .eql 3 2 (wX 24 3 2 [qU,rR,tJ,vT,uN,uH,uG,uO,uP,uD,rP,rQ,sD,sK,sS,sP,sU,sW,tF,uL,uV] (yB 3 (pW 16 1 [yK 0,yK 1,yK 2,yK 3,yK 4,yK 5,yK 6,yK 7,yK 8,yK 9,sM 25,yK 11,yK 12,yK 13,yK 14,yK 15] (tH 16 280 19 26 (rZ 3 2 [qU,rR,tJ,wG,uN,uH,uG,uO,uP,uD,rP,rQ,sD,sK,sS,sP,sU,sW,tF,vN,uV])))))))) (sI [qH 19,qV])]⟩
theorem FD:(T nat).G.fn 69=some t69:=by kernel_rfl
theorem Lp:(T nat).G.fn 70=some t70:=by kernel_rfl
def t71:bO:=⟨xP,[],vB (rD 1 0 2 (uE 131 [kP (nU false)] (yO 3)) (vB (vE 3 1 (xJ 0 4 (vB (.fG (.bin .sub false (.v 6) (jJ 2)) (.goto 0 [qU,uO,rW,qQ,qQ,rW,qQ,qQ,qQ,qQ,qQ,rM,rM,lI 5]))))))),[qE .geq 1 0 (jQ 14 (xJ 0 1 (uE 131 [kP (nU true)] (yE 3 [yR 15,.n 15 1,.n 15 2,.n 15 3,.n 15 4,.n 15 5,.n 15 6,.n 15 7,.n 15 8,.n 15 9,sM 15,yR 16,.n 16 1,.n 16 2,.n 16 3,.n 16 4,.n 16 5,.n 16 6,.n 16 7,.n 16 8,.n 16 9,sM 16,uJ 0,uJ 1,uJ 2,uJ 3,uJ 4,uJ 5,uJ 6,uJ 7,uJ 8,uJ 9,sM 13] (vK 132 (rE ⟨#[105,102]⟩) 17 (.fG (.bin .sub false (.v 1) (jJ 1)) (.goto 0 [qU,uL,tJ,uS,uN,uH,uG,uO,uP,uD,rP,rQ,sD,lI 18])))))) (yO 13))]⟩
theorem ZA:(T nat).G.fn 71=some t71:=by kernel_rfl
def t73:bO:=⟨uZ 11,[],sV 134 [pM 0,sO,rU 1] (jQ 1 (.row 11 (sM 0) uC (yO 2)) (yE 1 [tT 0,tT 1,tT 2,tT 3,tT 4,tT 5,tT 6,tT 7,tT 8,tT 9,sM 0] (vK 132 sO 2 (yO 3)))),[]⟩
theorem amx:(T nat).G.fn 73=some t73:=by kernel_rfl
def t74:bO:=⟨yG 11,[],xA 0 0 1 (jQ 2 (qD 1 (qJ [rR,uS,rW,lI 0,.l (.lit [.v 1]),rW,qQ,qQ,rW,qQ,qQ,qQ,qQ,qQ,rM,rM])) (.call 364 [pM 0,wW] [.lit [.v 1]] (pV 11) [1] (yO 3))),[qC 2 1 16 (yA 0 2 (pU (xM [1,1] [yR 17,.n 17 1] [.n 3 1,.n 3 2]) 18 (wJ [.n 17 2,.n 17 3,.n 17 4,.n 17 5,.n 17 6,.n 17 7,.n 17 8,.n 17 9,sM 17,.n 17 11,.n 17 12]) (xN 2 [qU,rR,uL,yN,lI 4,uH,uG,uO,uP,uD,rP,rQ,sD,sK,sS,sP]))) (.call 364 [pM 3,wW] (qF 4) (pV 11) [1] (yO 17))]⟩
theorem Yq:(T nat).G.fn 74=some t74:=by kernel_rfl
theorem Yi:(T nat).G.fn 75=some t75:=by kernel_rfl
def t76:bO:=⟨uZ 11,[],sV 92 [pM 0,sO,rU 1] (jQ 1 (.row 11 (sM 0) uC (yO 2)) (yE 1 [tT 0,tT 1,tT 2,tT 3,tT 4,tT 5,tT 6,tT 7,tT 8,tT 9,sM 0] (vK 52 sO 2 (yO 3)))),[]⟩
theorem akS:(T nat).G.fn 76=some t76:=by kernel_rfl
def t129:bO:=⟨vO 11,[],qJ [qU,rW,lI 1],[vW 1 3 4 (xJ 0 1 (uM 49 5 2 (qX 6 qV [] (xN 1 [qU,uO,lI 2])))) pF]⟩
theorem Dn:(T nat).G.fn 129=some t129:=by kernel_rfl
theorem aaa:(T nat).G.fn 131=some t131:=by kernel_rfl
def t132:bO:=⟨vM,[],vK 181 (tX [sJ,.v 0]) 1 (yO 2),[]⟩
theorem ahx:(T nat).G.fn 132=some t132:=by kernel_rfl
def t134:bO:=⟨[.agg 11,.one,.one],[],xA 0 0 3 (xI 3 (pU (xM [1,1] [tT 1,tT 2] [sJ,.v 1]) 4 (qO 0 10 (pR .eql 5 2 (uW 6))) (rX pF)) pF),[]⟩
theorem agV:(T nat).G.fn 134=some t134:=by kernel_rfl
def t136:bO:=⟨[.agg 11,.ref 0 0],[1],uA 74 [pM 0,qL 1 0] 11 2 1,[]⟩
theorem aiy:(T nat).G.fn 136=some t136:=by kernel_rfl
end
end Go.Ey.Pr
set_option maxHeartbeats 4000000
namespace Go.Ey.Pr
open Go.Ey Go.Ey.Seat
section
variable {nat:Nat->List V->Option (List V)}
theorem Gh {α:Type} {f:α->List C} {e:Nat} (hf:∀x,(f x).length=e):∀(k:Nat) (l:List α),(l.flatMap f).take (k * e)=(l.take k).flatMap f
 |0,l=>by simp
 |k+1,[]=>by simp
 |k+1,x::l=>by rw [D3,G2,Nat.add_comm,List.take_add,List.take_left' (hf x),List.drop_left' (hf x),Gh hf k l,Ly,D3]
theorem adV {α:Type} {f:α->List C} {e:Nat} (hf:∀x,(f x).length=e) {l:List α} {k:Nat} (h:k<=l.length):ER e none (some (ci k)) (rows f l)=some (rows f (l.take k)):=by
 simp only [ER,rows,loC,hiC,ci];have h1:(0:Int)<=(k:Int):=by omega
 rw [C4 h1];simp only [A4,Is];rw [C4 ⟨Ft _,h⟩];simp only [Nat.zero_mul,An,Nat.sub_zero];rw [Gh hf,Fo,Nat.min_eq_left h]
end
end Go.Ey.Pr
set_option maxHeartbeats 4000000
namespace Go.Ey.Pr
open Go.Ey Go.Ey.Seat
section
variable {nat:Nat->List V->Option (List V)}
theorem aom (p s:ByteArray):bz (T nat).G 210 [.v (.agg [cs p,cs s])] []=some ([.agg (enc (.sy p s))],[]):=by rw [aG agR];simp [t210,enc,ce,zS]
theorem asn:bz (T nat).G 180 [] []=some ([.agg (enc JK)],[]):=by rw [aG ahA];simp [t180,zS,aom,JK,bI]
theorem arH:bz (T nat).G 179 [] []=some ([.agg (enc oT)],[]):=by rw [aG aiZ];simp [t179,zS,aom,oT,bI]
end
end Go.Ey.Pr
set_option maxHeartbeats 4000000
namespace Go.Ey.Pr
open Go.Ey Go.Ey.Seat
theorem VM {α:Type} {f:α->List C} {e:Nat} (hf:∀x,(f x).length=e) {l:List α} {k:Nat} (h:k<=l.length):ER e (some (ci k)) none (rows f l)=some (rows f (l.drop k)):=by
 have h1:(0:Int)<=(k:Int):=by omega
 have h2:(l.drop k).flatMap f=(l.flatMap f).drop (k * e):=(CV hf k l).symm;have h3:(l.flatMap f).length=l.length * e:=oH hf l;simp only [ER,rows,loC,hiC,ci,C4 h1,A4,Is,B9,and_true,h,Ek,L7];rw [h2,K2 (by simp only [G0,h3,Nat.sub_mul];omega),G0]
section
variable {nat:Nat->List V->Option (List V)}
theorem ao3 (o:Ob):bz (T nat).G 178 [.v (.agg (enc o))] []=some ([.agg (af (.eG o))],[]):=by rw [aG ail];simp [t178,zZ,af,bI]
theorem atv (p s:ByteArray) (ts:List Tm):bz (T nat).G 181 [.v (.agg [cs p,cs s]),.v (.one (rows af ts))] []=some ([.agg (af (.app p s ts))],[]):=by rw [aG ahu];simp [t181,zZ,dw]
end
end Go.Ey.Pr
set_option maxHeartbeats 4000000
namespace Go.Ey.Pr
open Go Go.Ey Go.Ey.Seat Go.RowKit Go.Proofs
variable {nat:Nat->List V->Option (List V)}
def gZ:Tm->Tm
 |.app p s [t]=>cond (Kq j4 1 (.app p s [t])) t (.app dH j4 [.app p s [t]])
 |t=> .app dH j4 [t]
theorem asx (t:Tm) (s:ByteArray) (n:Nat):bz (T nat).G 134 [.v (.agg (af t)),.v (.one (cs s)),.v (.one (ci n))] []=some ([.one (cb (Kq s n t))],[]):=by
 rw [aG agV];cases t with
 |var p x=>simp [t134,zZ,af,Kq]
 |eG o=>cases o<;>simp [t134,zZ,af,enc,Kq]
 |app p x ts=>
  cases hp:decide (p=dH) && decide (x=s) with
  |true=>simp [t134,zZ,dw,Kq,hp,aa,Kk,aaq]
  |false=>simp [t134,zZ,dw,Kq,hp,aaq]
theorem apX (s:ByteArray) (ts:List Tm):bz (T nat).G 132 [.v (.one (cs s)),.v (.one (rows af ts))] []=some ([.agg (af (.app dH s ts))],[]):=by rw [aG ahx];simp [t132,zZ,aaq,atv,ah]
theorem Nc (x:Tm):gZ (.app dH j4 [x])=x:=by simp [gZ,Kq]
theorem Kg {t:Tm} (h:Kq j4 1 t=false):gZ t=.app dH j4 [t]:=by
 cases t with
 |var p x=>rfl
 |eG o=>rfl
 |app p x ts=>
  match ts with
  |[]=>rfl
  |[y]=>simp only [gZ,h];rfl
  |_::_::_=>rfl
theorem x73 (t:Tm):bz (T nat).G 73 [.v (.agg (af t))] []=some ([.agg (af (gZ t))],[]):=by
 rw [aG amx];have h1:=asx (nat:=nat) t j4 1;cases hi:Kq j4 1 t with
 |true=>
  rw [hi] at h1;obtain ⟨x,rfl⟩:=zL hi;have hr:eZ 11 (rows af [x]) (ci 0)=some (af x):=kg ah (k:=0) rfl;have e3:au (af (.app dH j4 [x])) 10=rows af [x]:=by rw [dw];rfl
  have XN:(⟨#[110,111,116]⟩:ByteArray)=j4:=rfl;simp only [Mp] at h1;simp [t73,zZ,XN,h1,e3,hr,Nc,ah]
 |false=>
  rw [hi] at h1;have hl:=kR t;simp only [j4] at h1;have h2:=apX (nat:=nat) j4 [t];simp only [j4,rows,D3,List.flatMap_nil,D0,Bm,F2] at h2;simp only [Mp] at h1;simp [t73,zZ,h1,hl,h2,Kg hi,j4,ah]
theorem x76 (t:Tm):bz (T nat).G 76 [.v (.agg (af t))] []=some ([.agg (af (gZ t))],[]):=by
 rw [aG akS];have h1:=x92 (nat:=nat) t j4 1;cases hi:Kq j4 1 t with
 |true=>
  rw [hi] at h1;obtain ⟨x,rfl⟩:=zL hi;have hr:eZ 11 (rows af [x]) (ci 0)=some (af x):=kg ah (k:=0) rfl;have e3:au (af (.app dH j4 [x])) 10=rows af [x]:=by rw [dw];rfl
  have XN:(⟨#[110,111,116]⟩:ByteArray)=j4:=rfl;simp only [Mp] at h1;simp [t76,zZ,XN,h1,e3,hr,Nc,ah]
 |false=>
  rw [hi] at h1;have hl:=kR t;simp only [j4] at h1;have h2:=x52 (nat:=nat) j4 [t];simp only [j4,rows,D3,List.flatMap_nil,D0,Bm,F2] at h2;simp only [Mp] at h1;simp [t76,zZ,h1,hl,h2,Kg hi,j4,ah]
end Go.Ey.Pr
set_option maxHeartbeats 4000000
namespace Go.Ey.Pr
open Go Go.Ey Go.Ey.Seat Go.RowKit Go.Proofs
theorem I7 (s:List cB):∀ts:List Tm,yu s ts=ts.map (iY s)
 |[]=>rfl
 |t::ts=>by rw [yu,I7 s ts];rfl
def ifB:ByteArray:=⟨#[105,102]⟩
def Ed:List Tm->Tm
 |[]=> .eG JK
 |[t]=>t
 |t::u::ts=> .app dH ifB [t,.eG oT,Ed (u::ts)]
def vD (g:List Tm):List C:=[rows af g]
def gT (g:List Tm) (ts:List Tm):List Tm:=ts.foldl (fun g t=>gX g (gZ t)) g
def gS (f:Tm) (g:List Tm) (ss:List (List cB)):List Tm:=ss.foldl (fun g s=>gX g (gZ (iY s f))) g
def tu (c:List Tm) (f:Tm) (k:Cs):List Tm:=c.foldl gX (gS f (gT [] k.tests) k.subs)
theorem OH {t:Tm} {ts:List Tm} (h:ts≠[]):Ed (t::ts)=.app dH ifB [t,.eG oT,Ed ts]:=by
 cases ts with
 |nil=>exact absurd rfl h
 |cons u ts=>rfl
theorem Pq (g:List Tm) (t:Tm):[t].foldl gX g=gX g t:=rfl
theorem vH (g:List Tm) (t:Tm):(gX g t).length<=g.length+1:=JC [t] g
theorem AO {g:List Tm} {t:Tm} (hg:Al g) (ht:PV t):Al (gX g t):=Oa (l:=[t]) (P:=PV) hg fun x hx=>by rw [By.1 hx];exact ht
section
variable {nat:Nat->List V->Option (List V)}
theorem aoC:bz (T nat).G 131 [.v (.one (cb true))] []=some ([.agg (af (.eG oT))],[]):=by rw [aG aaa];simp [t131,zZ,arH,ao3,bI,ah]
theorem an2:bz (T nat).G 131 [.v (.one (cb false))] []=some ([.agg (af (.eG JK))],[]):=by rw [aG aaa];simp [t131,zZ,asn,ao3,bI,ah]
theorem aba (c:List Tm) (hc:c.length < 100000):∀m:Nat,m < c.length->
  bn (T nat).G 71 0 [.c (rows af c),.c (ci ((m:Int) - 1)),.c (ci 0),.c ce,.c ce,.c (ci 0),.c ce,.c ce,.c ce,.c ce,.c ce,.c cz,.c cz,.l (af (Ed (c.drop m)))]=some ([.agg (af (Ed c))],[])
 |0,h=>by
  have hg:¬((0:Int)<=((0:Nat):Int) - 1):=by omega
  rw [ai ZA (t:=t71.heads[0]) rfl];simp only [An];simp [t71,zZ,ah]
 |m+1,h=>by
  have hm:m < c.length:=by omega
  have hr:=eH hm;have hg:((0:Int)<=(m:Int)):=by omega
  have e:((m+1:Nat):Int) - 1=(m:Int):=by omega
  have hs:cZ .sub false (ci (m:Int)) (ci 1)=some (ci ((m:Int) - 1)):=lJ (by omega) (by omega)
  have ih:=aba c hc m hm;have h1:=apX (nat:=nat) ifB [c[m],.eG oT,Ed (c.drop (m+1))];have hl:=kN c[m] (.eG oT) (Ed (c.drop (m+1)));have hf:Ed (c.drop m)=.app dH ifB [c[m],.eG oT,Ed (c.drop (m+1))]:=by rw [drop_at hm];exact OH fun h0=>by have:=F0 List.length h0;simp at this;omega
  have ifK:(⟨#[105,102]⟩:ByteArray)=ifB:=rfl;rw [hf] at ih;rw [e,ai ZA (t:=t71.heads[0]) rfl];simp [t71,zZ,ifK,hg,hr,aoC,hl,h1,hs,ih,ah]
theorem x71 (c:List Tm) (hc:c.length < 100000):bz (T nat).G 71 [.v (.one (rows af c))] []=some ([.agg (af (Ed c))],[]):=by
 rw [aG ZA];by_cases h0:c=[]
 ·subst h0;have hl:lN false (rows af ([]:List Tm))=some (ci 0):=rfl;simp [t71,zZ,hl,an2,Ed,ah]
 ·have hp:0 < c.length:=List.length_pos_iff.2 h0;have hz:((c.length:Int)==0)=false:=by simp;omega
  have h1:cZ .sub false (ci (c.length:Int)) (ci 1)=some (ci ((c.length - 1:Nat):Int)):=by rw [lJ (by omega) (by omega)];congr 2;omega
  have h2:cZ .sub false (ci (c.length:Int)) (ci 2)=some (ci (((c.length - 1:Nat):Int) - 1)):=by rw [lJ (by omega) (by omega)];congr 2;omega
  have hk:c.length - 1 < c.length:=by omega
  have hr:=eH hk;have ih:=aba (nat:=nat) c hc (c.length - 1) hk;rw [drop_at hk,aA (by omega)] at ih
  simp only [Ed] at ih;simp [t71,zZ,uk,hz,h1,h2,hr,ih,ah]
def O5 (nat:Nat->List V->Option (List V)):Prop:=∀cl ts:List Tm,Al cl->Al ts->cl.length+ts.length<=90000->bz (T nat).G 72 [.v (.one (rows af cl)),.v (.one (rows af ts))] []=some ([.one (rows af (ts.foldl gX cl))],[])
theorem appG {acc:List (List Tm)} {g:List Tm} (h:acc.length < 100000):iO 1 24 (.slice [rows af g] 1) (rows vD acc)=some (rows vD (acc++[g])):=
 BO (f:=vD) (x:=g) (fun _=>rfl) (by decide) (by simp only [aB];omega) (by simp only [aB];omega)
theorem anX (ha:O5 nat) (c:C) (f:C) (cf:List C) (kss nk ki out:C) (akd:List C) (ts:List Tm) (hl:ts.length < 10000) (hok:∀t∈ts,PV (gZ t)):∀(m j:Nat) (g:List Tm),j+m=ts.length->Al g->g.length<=j->
  bn (T nat).G 31 1 [.c c,.c (rows af g),.c kss,.c nk,.c ki,.c (rows af ts),.c (ci ts.length),.c (ci j),.l cf,.c out,.l akd]=bn (T nat).G 31 1 [.c c,.c (rows af (gT g (ts.drop j))),.c kss,.c nk,.c ki,.c (rows af ts),.c (ci ts.length),.c (ci ts.length),.l cf,.c out,.l akd]
 |0,j,g,hj,hg,hgl=>by
  obtain rfl:j=ts.length:=by omega
  rw [aA (by omega)]
  rfl
 |m+1,j,g,hj,hg,hgl=>by
  have hkr:j < ts.length:=by omega
  have hlt:((j:Int) < (ts.length:Int)):=by omega
  have hs:=ax j (by omega)
  have hr:=eH hkr;have ho:=hok ts[j] (A5 hkr);have h1:=x73 (nat:=nat) ts[j];have hl1:=kR (gZ ts[j]);have h2:=ha g [gZ ts[j]] hg (fun x hx=>by rw [By.1 hx];exact ho) (by simp;omega)
  rw [Pq] at h2;have h2':bz (T nat).G 72 [.v (.one (rows af g)),.v (.one (.slice (af (gZ ts[j])) 1))] []=some ([.one (rows af (gX g (gZ ts[j])))],[]):=by simpa [rows] using h2
  have ih:=anX ha c f cf kss nk ki out akd ts hl hok m (j+1) (gX g (gZ ts[j])) (by omega) (AO hg ho) (by have:=vH g (gZ ts[j]);omega)
  have e:gT g (ts.drop j)=gT (gX g (gZ ts[j])) (ts.drop (j+1)):=by rw [drop_at hkr];rfl
  rw [e,<-ih]
  conv=>lhs;rw [ai Dp (t:=t31.heads[1]) rfl]
  simp [-Int.natCast_add,t31,zZ,hlt,hr,h1,hl1,h2',hs,ah]
theorem ajr (x:C):fq 1 1 [x]=some (.slice [x] 1):=by simp [fq,aB]
theorem aaI:∀(ts g:List Tm),(∀t∈ts,PV (gZ t))->Al g->Al (gT g ts)/\(gT g ts).length<=g.length+ts.length
 |[],g,_,hg=>⟨hg,B9 _⟩
 |t::ts,g,h,hg=>by
  obtain ⟨h1,h2⟩:=aaI ts (gX g (gZ t)) (fun x hx=>h x (E2 _ hx)) (AO hg (h t Fm))
  have h3:=vH g (gZ t);exact ⟨h1,by simp only [gT,Hh,Bm] at h2 |-;omega⟩
theorem adb (f:Tm):∀(ss:List (List cB)) (g:List Tm),(∀s∈ss,PV (gZ (iY s f)))->Al g->Al (gS f g ss)/\(gS f g ss).length<=g.length+ss.length
 |[],g,_,hg=>⟨hg,B9 _⟩
 |s::ss,g,h,hg=>by
  obtain ⟨h1,h2⟩:=adb f ss (gX g (gZ (iY s f))) (fun x hx=>h x (E2 _ hx)) (AO hg (h s Fm))
  have h3:=vH g (gZ (iY s f));exact ⟨h1,by simp only [gS,Hh,Bm] at h2 |-;omega⟩
theorem apO (ha:O5 nat) (c kss nk ki out:C) (f:Tm) (ss:List (List cB)) (b:Nat) (hl:b+ss.length < 20000) (hok:∀s∈ss,PV (gZ (iY s f))) (hsb:∀s∈ss,bz (T nat).G 74 [.v (.agg (af f)),.v (.one (rows bu s))] []=some ([.agg (af (iY s f))],[])):∀(m j:Nat) (g:List Tm),j+m=ss.length->Al g->g.length<=b+j->
  bn (T nat).G 31 2 [.c c,.c (rows af g),.c kss,.c nk,.c ki,.c (rows encS ss),.c (ci ss.length),.c (ci j),.l (af f),.c out]=bn (T nat).G 31 2 [.c c,.c (rows af (gS f g (ss.drop j))),.c kss,.c nk,.c ki,.c (rows encS ss),.c (ci ss.length),.c (ci ss.length),.l (af f),.c out]
 |0,j,g,hj,hg,hgl=>by
  obtain rfl:j=ss.length:=by omega
  rw [aA (by omega)]
  rfl
 |m+1,j,g,hj,hg,hgl=>by
  have hkr:j < ss.length:=by omega
  have hlt:((j:Int) < (ss.length:Int)):=by omega
  have hs:=ax j (by omega)
  have hr:=jk hkr;have ho:=hok ss[j] (A5 hkr);have h0:=hsb ss[j] (A5 hkr);have h1:=x73 (nat:=nat) (iY ss[j] f);have hl1:=kR (gZ (iY ss[j] f));have h2:=ha g [gZ (iY ss[j] f)] hg (fun x hx=>by rw [By.1 hx];exact ho) (by simp;omega)
  rw [Pq] at h2;have h2':bz (T nat).G 72 [.v (.one (rows af g)),.v (.one (.slice (af (gZ (iY ss[j] f))) 1))] []=some ([.one (rows af (gX g (gZ (iY ss[j] f))))],[]):=by simpa [rows] using h2
  have ih:=apO ha c kss nk ki out f ss b hl hok hsb m (j+1) (gX g (gZ (iY ss[j] f))) (by omega) (AO hg ho) (by have:=vH g (gZ (iY ss[j] f));omega)
  have e:gS f g (ss.drop j)=gS f (gX g (gZ (iY ss[j] f))) (ss.drop (j+1)):=by rw [drop_at hkr];rfl
  rw [e,<-ih]
  conv=>lhs;rw [ai Dp (t:=t31.heads[2]) rfl]
  simp [-Int.natCast_add,t31,zZ,hlt,hr,h0,h1,hl1,h2',hs,ah]
structure apg (nat:Nat->List V->Option (List V)) (f:Tm) (k:Cs):Prop where
 tl:k.tests.length < 10000
 sl:k.subs.length < 10000
 ts:∀t∈k.tests,PV (gZ t)
 ss:∀s∈k.subs,PV (gZ (iY s f))/\bz (T nat).G 74 [.v (.agg (af f)),.v (.one (rows bu s))] []=some ([.agg (af (iY s f))],[])
theorem aaD (ha:O5 nat) (c:List Tm) (hc:c.length < 10000) (hcc:Al c) (f:Tm) (ks:List Cs) (hks:ks.length < 50000) (hk:∀k∈ks,apg nat f k):∀(m i:Nat) (out:List (List Tm)),i+m=ks.length->out.length=i->
  bn (T nat).G 31 0 [.c (rows af c),.c (rows aQ ks),.c (ci ks.length),.c (ci i),.l (af f),.c (rows vD out)]=some ([.one (rows vD (out++(ks.drop i).map (tu c f)))],[])
 |0,i,out,hi,ho=>by
  have hlt:¬((i:Int) < (ks.length:Int)):=by omega
  rw [ai Dp (t:=t31.heads[0]) rfl,aA (by omega)]
  simp [t31,zZ,hlt]
 |m+1,i,out,hi,ho=>by
  have hkr:i < ks.length:=by omega
  have hlt:((i:Int) < (ks.length:Int)):=by omega
  have hs:=ax i (by omega)
  have hr:=og hkr;have hq:=hk ks[i] (A5 hkr);obtain ⟨g1,g2⟩:=aaI ks[i].tests [] hq.ts (fun x hx=>by cases hx)
  obtain ⟨g3,g4⟩:=adb f ks[i].subs (gT [] ks[i].tests) (fun s hs=>(hq.ss s hs).1) g1
  simp only [F2,E1] at g2;have tl:=hq.tl;have sl:=hq.sl;have hA:=ha (gS f (gT [] ks[i].tests) ks[i].subs) c g3 hcc (by omega)
  have hap:=appG (acc:=out) (g:=tu c f ks[i]) (by omega)
  have ih:=aaD ha c hc hcc f ks hks hk m (i+1) (out++[tu c f ks[i]]) (by omega) (by simp;omega)
  have e:out++(ks.drop i).map (tu c f)=out++[tu c f ks[i]]++(ks.drop (i+1)).map (tu c f):=by rw [drop_at hkr,Cp,Bk];rfl
  have hlt1:¬((ks[i].tests.length:Int) < (ks[i].tests.length:Int)):=by omega
  have hlt2:¬((ks[i].subs.length:Int) < (ks[i].subs.length:Int)):=by omega
  have EN:lN false (rows af ks[i].tests)=some (ci (ks[i].tests.length:Int)):=rfl;have aqW:lN false (rows encS ks[i].subs)=some (ci (ks[i].subs.length:Int)):=rfl;have q2:bn (T nat).G 31 2 [.c (rows af c),.c (rows af (gS f (gT [] ks[i].tests) ks[i].subs)),.c (rows aQ ks),.c (ci ks.length),.c (ci i),.c (rows encS ks[i].subs),.c (ci ks[i].subs.length),.c (ci ks[i].subs.length),.l (af f),.c (rows vD out)]=some ([.one (rows vD (out++(ks.drop i).map (tu c f)))],[]):=by rw [ai Dp (t:=t31.heads[2]) rfl,e];have hA':bz (T nat).G 72 [.v (.one (rows af (gS f (gT [] ks[i].tests) ks[i].subs))),.v (.one (rows af c))] []=some ([.one (rows af (tu c f ks[i]))],[]):=hA;simp [-Int.natCast_add,t31,zZ,hlt2,hA',ajr,hap,hs,ih,ah]
  have b2:=apO ha (rows af c) (rows aQ ks) (ci ks.length) (ci i) (rows vD out) f ks[i].subs ks[i].tests.length (by omega) (fun s hs=>(hq.ss s hs).1) (fun s hs=>(hq.ss s hs).2) ks[i].subs.length 0 (gT [] ks[i].tests) (by omega) g1 (by omega)
  rw [An,q2] at b2;have q1:bn (T nat).G 31 1 [.c (rows af c),.c (rows af (gT [] ks[i].tests)),.c (rows aQ ks),.c (ci ks.length),.c (ci i),.c (rows af ks[i].tests),.c (ci ks[i].tests.length),.c (ci ks[i].tests.length),.l (af f),.c (rows vD out),.l [rows af ks[i].tests,rows encS ks[i].subs]]=some ([.one (rows vD (out++(ks.drop i).map (tu c f)))],[]):=by simp only [A6] at b2;rw [ai Dp (t:=t31.heads[1]) rfl];simp [-Int.natCast_add,t31,zZ,hlt1,aqW,b2,ah]
  have b1:=anX ha (rows af c) cz (af f) (rows aQ ks) (ci ks.length) (ci i) (rows vD out) [rows af ks[i].tests,rows encS ks[i].subs] ks[i].tests tl hq.ts ks[i].tests.length 0 [] (by omega) (fun x hx=>by cases hx) (Ft _)
  rw [An,q1] at b1;have b1':bn (T nat).G 31 1 [.c (rows af c),.c cz,.c (rows aQ ks),.c (ci ks.length),.c (ci i),.c (rows af ks[i].tests),.c (ci ks[i].tests.length),.c (ci 0),.l (af f),.c (rows vD out),.l [rows af ks[i].tests,rows encS ks[i].subs]]=some ([.one (rows vD (out++(ks.drop i).map (tu c f)))],[]):=b1;rw [ai Dp (t:=t31.heads[0]) rfl];simp [-Int.natCast_add,t31,zZ,hlt,hr,EN,b1',ah]
theorem Yf (c:bH):au (aj c) 14=rows aQ c.cases:=by
 have h:(af c.measure).length=11:=ah _
 match he:af c.measure,h with
 |[_,_,_,_,_,_,_,_,_,_,_],_=>simp [aj,he,au]
theorem Yt (c:bH):(aj c).length=16:=by simp [aj,ah]
theorem x31 (ha:O5 nat) (c:List Tm) (hc:c.length < 10000) (hcc:Al c) (cd:bH) (hks:cd.cases.length < 50000) (hk:∀k∈cd.cases,apg nat (Ed c) k):
  bz (T nat).G 31 [.v (.one (rows af c)),.v (.agg (aj cd))] []=some ([.one (rows vD (cd.cases.map (tu c (Ed c))))],[]):=by
 have h1:=x71 (nat:=nat) c (by omega)
 have h2:=aaD ha c hc hcc (Ed c) cd.cases hks hk cd.cases.length 0 [] (by omega) rfl
 simp only [An,A6,tO,D4] at h2;have hl:lN false (rows aQ cd.cases)=some (ci (cd.cases.length:Int)):=rfl;rw [aG Dp];simp [-Int.natCast_add,t31,zZ,h1,Yf,Yt,hl,h2,ah]
end
end Go.Ey.Pr
set_option maxHeartbeats 4000000
namespace Go.Ey.Pr
open Go.Ey Go.Ey.Rt Go.Ey.Seat
set_option maxRecDepth 100000
section
variable {nat:Nat->List V->Option (List V)}
def t364:bO:=⟨[.agg 11,.fD 136 [(0,0)]],[1],rH .neq 0 0 (jJ 3) (jQ 2 (oW (lG 0) (qF 1)) (qO 0 10 (.fG (.mk 11 176 [iW 0,gV,gV,iW 0,gV,gV,gV,gV,gV,.slice none 0 0,.slice none 0 0] (.v 3) (.v 3)) (qO 0 10 (qJ [qW 0 10,uH,rW,lI 1,lI 0,rW,qQ,qQ,rW,qQ,qQ,qQ,qQ,qQ,rM,rM,uN]))))),[qC 2 1 17 (xJ 0 2 (.call 136 [pM 18,wW] (qF 3) (pV 11) [1] (xJ 16 2 (.fG (.set 11 (.v 16) (.v 2) 0 [vP 0,vP 1,vP 2,vP 3,vP 4,vP 5,vP 6,vP 7,vP 8,vP 9,sM 19]) (xN 2 [qU,rR,wF,lI 20,lI 4,uH,uG,uO,uP,uD,rP,rQ,sD,sK,sS,sP,vR]))))) (oW (pQ [yR 4,.n 4 1,.n 4 2,.n 4 3,.n 4 4,.n 4 5,.n 4 6,.n 4 7,.n 4 8,.n 4 9,.v 16]) (qF 3))]⟩
theorem Tp:(T nat).G.fn 364=some t364:=by kernel_rfl
end
end Go.Ey.Pr
set_option maxHeartbeats 4000000
namespace Go.Ey.Pr
open Go Go.Ey Go.Ey.Seat Go.RowKit Go.Proofs
def encZ:Option Tm->List C
 |some t=>af t
 |none=>zTm
theorem Ja (z:Option Tm):(encZ z).length=11:=by
 cases z with
 |none=>rfl
 |some t=>exact ah t
theorem abF {α:Type} {f:α->List C} {e:Nat} (hf:∀x,(f x).length=e) (y:α) {l:List α} {k:Nat} (h:k < l.length):splice (l.flatMap f) (k * e) (f y)=(l.set k y).flatMap f:=by
 have h2:k * e+e=(k+1) * e:=by rw [G2]
 rw [splice,Gh hf,hf,h2,CV hf,List.set_eq_take_append_cons_drop,C4 h];simp
theorem apH {l:List (Option Tm)} {k:Nat} (h:k < l.length) (t:Tm):Zh 11 0 (af t) (rows encZ l) (ci k)=some (rows encZ (l.set k (some t))):=by
 have e:splice (l.flatMap encZ) (k * 11) (af t)=(l.set k (some t)).flatMap encZ:=abF Ja (some t) h;have h2:(l.flatMap encZ).length=l.length * 11:=oH Ja l;have h3:(k:Int) < (l.length:Int):=by omega
 have h4:(0:Int)<=(k:Int):=by omega
 simp [Zh,rows,ci,h2,h3,<-e,ah]
theorem aak:∀n:Nat,zeros [.int .i64 0,.string ⟨#[]⟩,.string ⟨#[]⟩,.int .i64 0,.string ⟨#[]⟩,.string ⟨#[]⟩,.string ⟨#[]⟩,.string ⟨#[]⟩,.string ⟨#[]⟩,.slice none 0 0,.slice none 0 0] n=(List.replicate n (none:Option Tm)).flatMap encZ
 |0=>rfl
 |n+1=>by
  have:=aak n
  simp only [zeros,List.replicate_succ,D3] at this |-;rw [<-this];rfl
theorem acs (ts:List Tm):rows encZ (ts.map some)=rows af ts:=by simp only [rows,Mz,Mn];rfl
theorem aoA {l:List (Option Tm)} {k:Nat} (h:k < l.length):eZ 11 (rows encZ l) (ci k)=some (encZ l[k]):=kg Ja (Ax h)
section
variable {nat:Nat->List V->Option (List V)}
theorem aq2 {s:List cB} {x:Tm} (h:bz (T nat).G 74 [.v (.agg (af x)),.v (.one (rows bu s))] []=some ([.agg (af (iY s x))],[])):bz (T nat).G 136 [.v (.agg (af x)),.ref 0 0] [[rows bu s]]=some ([.agg (af (iY s x))],[[rows bu s]]):=by rw [aG aiy];simp [t136,zZ,h,ah]
theorem UE (s:List cB) (p x:ByteArray) (ts:List Tm) (hn:ts.length < 100000) (ih:∀t∈ts,bz (T nat).G 74 [.v (.agg (af t)),.v (.one (rows bu s))] []=some ([.agg (af (iY s t))],[])):∀(m k:Nat),k+m=ts.length->
  bn (T nat).G 364 0 [.c (rows af ts),.c (ci ts.length),.c (ci k),.l [rows bu s],.l (af (.app p x ts)),.c (ci 0),.c ce,.c ce,.c (ci 0),.c ce,.c ce,.c ce,.c ce,.c ce,.c cz,.c cz,.c (rows encZ ((yu s (ts.take k)).map some++List.replicate m none))]=some ([.agg (af (.app p x (yu s ts)))],[[rows bu s]])
 |0,k,hk=>by
  have hlt:¬((k:Int) < (ts.length:Int)):=by omega
  have e:rows encZ ((yu s (ts.take k)).map some++List.replicate 0 none)=rows af (yu s ts):=by rw [K2 (by omega),List.replicate_zero,D0,acs]
  rw [ai Tp (t:=t364.heads[0]) rfl,e];simp [t364,zZ,hlt,dw]
 |m+1,k,hk'=>by
  have hkr:k < ts.length:=by omega
  have hlt:((k:Int) < (ts.length:Int)):=by omega
  have hs:=ax k (by omega)
  have hy:=aq2 (ih ts[k] (A5 hkr));have hl:(yu s (ts.take k)).length=k:=by rw [I7];simp;omega
  have hz:k < ((yu s (ts.take k)).map some++List.replicate (m+1) (none:Option Tm)).length:=by simp [hl]
  have hst:=apH hz (iY s ts[k]);have hrz:=aoA hz;have e:((yu s (ts.take k)).map some++List.replicate (m+1) (none:Option Tm)).set k (some (iY s ts[k]))=(yu s (ts.take (k+1))).map some++List.replicate m none:=by
   have h1:ts.take (k+1)=ts.take k++[ts[k]]:=by rw [List.take_succ,Ax hkr];rfl
   have h2:(yu s (ts.take (k+1))).map some=(yu s (ts.take k)).map some++[some (iY s ts[k])]:=by rw [h1,I7,I7,K1,K1];rfl
   rw [h2,List.set_append_right _ _ (by simp [hl]),Bk,Mn,hl,Nat.sub_self,List.replicate_succ]
   rfl
  rw [e] at hst;have h11:=kJ (iY s ts[k]);have hi:=UE s p x ts hn ih m (k+1) (by omega)
  rw [ai Tp (t:=t364.heads[0]) rfl];simp [-Int.natCast_add,-List.map_append,t364,zZ,hlt,eH hkr,hy,hrz,h11,hst,hs,hi,ah,Ja]
theorem amB (s:List cB) (t:Tm) (hn:(aN t).length < 100000) (ih:∀x∈aN t,bz (T nat).G 74 [.v (.agg (af x)),.v (.one (rows bu s))] []=some ([.agg (af (iY s x))],[])) (hv:Go.Proofs.kH t=1->lY s (bZ t)=none):
  bz (T nat).G 364 [.v (.agg (af t)),.ref 0 0] [[rows bu s]]=some ([.agg (af (iY s t))],[[rows bu s]]):=by
 rw [aG Tp];cases t with
 |var p x=>
  have h1:lY s (p,x)=none:=hv rfl;simp [t364,zZ,af,iY,h1]
 |eG o=>
  have e0:au (af (.eG o)) 0=ci 2:=by rw [mq];rfl
  simp [t364,zZ,e0,ah,iY]
 |app p x ts=>
  have hn':ts.length < 100000:=hn;have h1:=UE (nat:=nat) s p x ts hn' ih ts.length 0 (by omega)
  have hm:mkC 11 176 [.int .i64 0,.string ⟨#[]⟩,.string ⟨#[]⟩,.int .i64 0,.string ⟨#[]⟩,.string ⟨#[]⟩,.string ⟨#[]⟩,.string ⟨#[]⟩,.string ⟨#[]⟩,.slice none 0 0,.slice none 0 0] (ci ts.length) (ci ts.length)=some (rows encZ (List.replicate ts.length none)):=by
   have h2:ts.length * 176<=aB:=by simp only [aB];omega
   simp [mkC,ci,rows,aak];simp only [aB];omega
  simp only [List.take_zero,yu,Ln,D4,A6,dw] at h1;simp [t364,zZ,dw,uk,hm,h1,iY]
theorem ZY (s:List cB) (hm:s.length < 100000) (p x:ByteArray):∀(m k:Nat),k+m=s.length->lY s (p,x)=lY (s.drop k) (p,x)->
  bn (T nat).G 74 0 [.c (rows bu s),.c (ci s.length),.c (ci k),.l (af (.var p x)),.l [rows bu s],.c (ci 0),.c ce,.c ce,.c (ci 0),.c ce,.c ce,.c ce,.c ce,.c ce,.c cz,.c cz]=some ([.agg (af (iY s (.var p x)))],[])
 |0,k,hk,hq=>by
  have hlt:¬((k:Int) < (s.length:Int)):=by omega
  rw [aA (by omega)] at hq
  have h:=amB (nat:=nat) s (.var p x) (by simp [aN]) (fun y hy=>by simp [aN] at hy) (fun _=>hq)
  rw [ai Yq (t:=t74.heads[0]) rfl];simp [t74,zZ,hlt,h,ah]
 |m+1,k,hk',hq=>by
  have hkr:k < s.length:=by omega
  have hlt:((k:Int) < (s.length:Int)):=by omega
  have hs:=ax k (by omega)
  have he:wh [1,1] false [cs s[k].v.1,cs s[k].v.2] [cs p,cs x]=some (cb (jY s[k].v (p,x))):=jX false _ _ _ _;have hr:eZ 13 (rows bu s) (ci k)=some (cs s[k].v.1::cs s[k].v.2::af s[k].t):=fE hkr;have e1:au (af (.var p x)) 1=cs p:=rfl;have e2:au (af (.var p x)) 2=cs x:=rfl;rw [drop_at hkr,lY] at hq;rw [ai Yq (t:=t74.heads[0]) rfl];cases hb:jY s[k].v (p,x) with
  |true=>
   rw [hb] at he hq;have h11:=kJ s[k].t;have hsb:iY s (.var p x)=s[k].t:=by rw [iY,hq];rfl
   rw [hsb];simp [-Int.natCast_add,t74,zZ,hlt,hr,he,e1,e2,ah,h11]
  |false=>
   rw [hb,E4] at hq;rw [hb] at he;have ih:=ZY s hm p x m (k+1) (by omega) hq
   simp [-Int.natCast_add,t74,zZ,hlt,hr,he,e1,e2,hs,ih,ah]
theorem x74 (s:List cB) (hm:s.length < 100000):∀(n:Nat) (t:Tm),av t<=n->n<=3000->bz (T nat).G 74 [.v (.agg (af t)),.v (.one (rows bu s))] []=some ([.agg (af (iY s t))],[])
 |0,t,hn,_=>by have:=jf t;omega
 |n+1,t,hn,h3=>by
  rw [aG Yq];cases t with
  |var p x=>
   have h:=ZY (nat:=nat) s hm p x s.length 0 (by omega) (by rw [An])
   simp only [A6,af] at h;simp [t74,zZ,af,aa,h]
  |eG o=>
   have e0:au (af (.eG o)) 0=ci 2:=by rw [mq];rfl
   have h:=amB (nat:=nat) s (.eG o) (by simp [aN]) (fun y hy=>by simp [aN] at hy) (fun h=>by cases h)
   simp [t74,zZ,e0,h,ah]
  |app p x ts=>
   have hnd:av (.app p x ts)=1+aJ ts:=rfl;have hlen:=qd ts;have h:=amB (nat:=nat) s (.app p x ts) (by simp only [aN];omega) (fun y hy=>x74 s hm n y (by have:=nK (show y∈ts from hy);omega) (by omega)) (fun h=>by cases h)
   simp only [dw] at h;simp [t74,zZ,dw,ah,h]
end
end Go.Ey.Pr
set_option maxHeartbeats 4000000
namespace Go.Ey.Pr
open Go.Ey Go.Ey.Seat
theorem AL:∀a b:Ob,nZ a b=nZ b a
 |.num n d,b=>by cases b<;>simp [nZ,O2]
 |.sy p s,b=>by cases b<;>simp [nZ,O2]
 |.st t,b=>by cases b<;>simp [nZ,O2]
 |.cons a1 a2,b=>by
  cases b with
  |cons b1 b2=>simp only [nZ];rw [AL a1 b1,AL a2 b2]
  |_=>rfl
mutual
theorem Fb:∀a b:Tm,jb a b=jb b a
 |.var p s,b=>by cases b<;>simp [jb,O2]
 |.eG o,b=>by
  cases b with
  |eG o'=>simp only [jb];exact AL o o'
  |_=>simp [jb]
 |.app p s ts,b=>by
  cases b with
  |app p' s' ts'=>
   simp only [jb];rw [CR ts ts'];simp only [O2]
  |_=>simp [jb]
theorem CR:∀a b:List Tm,xB a b=xB b a
 |[],[]=>rfl
 |[],_::_=>rfl
 |_::_,[]=>rfl
 |x::a,y::b=>by simp only [xB];rw [Fb x y,CR a b]
end
def ZB (r s:List cB):Bool:=s.all fun a=>r.any fun b=>decide (b.v=a.v) && jb b.t a.t
theorem Td (r s:List cB):ZB r s=ext r s:=by simp only [ZB,ext,Fb,O2]
def jg:List cB->List cB->List cB
 |s,[]=>s
 |s,q::y=>jg (if (s.any fun p=>decide (p.v=q.v))=true then s else s++[q]) y
theorem o8:∀(y x z:List cB),(y.map cB.v).Nodup->(∀p∈z,p.v ∉ y.map cB.v)->jg (x++z) y=x++z++y.filter fun q=>!(x.any fun p=>decide (p.v=q.v))
 |[],x,z,_,_=>by simp [jg]
 |q::y,x,z,hn,hz=>by
  rw [Cp,K0] at hn;have hzq:(z.any fun p=>decide (p.v=q.v))=false:=by rw [List.any_eq_false];intro p hp hq;exact hz p hp (by rw [Cp];simp only [F1] at hq;rw [hq];exact Fm)
  have hz':∀p∈z,p.v ∉ y.map cB.v:=fun p hp h=>hz p hp (by rw [Cp];exact E2 _ h)
  rw [jg,List.any_append,hzq,Bool.or_false];cases hb:(x.any fun p=>decide (p.v=q.v)) with
  |true=>
   rw [C4 rfl,o8 y x z hn.2 hz',List.filter_cons_of_neg (by simp [hb])]
  |false=>
   rw [Dd (by simp),Bk,o8 y x (z++[q]) hn.2 (fun p hp=>by
    rcases Bx.1 hp with hp|hp
    ·exact hz' p hp
    ·simp only [By] at hp;subst hp;exact hn.1),List.filter_cons_of_pos (by simp [hb])]
   simp
theorem Cw (x:List cB) {y:List cB} (hn:(y.map cB.v).Nodup):jg x y=gY x y:=by
 have:=o8 y x [] hn (fun p h=>by cases h)
 simpa [gY] using this
open Go Go.RowKit Go.Proofs
theorem Sz (a b:List cB):Ig a b=ext a b:=by rw [<-Td];simp only [Ig,Du,ZB,BN];rfl
theorem si (a b:List bq):jS a b=!apart a b:=by
 rw [Hx,It,<-Bool.not_eq_true,Af];simp only [jS,I3,BC];constructor
 ·rintro ⟨x,h1,h2⟩ h;exact h x h1 h2
 ·intro h;apply L1;intro h2;exact h fun s hs hb=>h2 ⟨s,hs,hb⟩
section
variable {nat:Nat->List V->Option (List V)}
theorem ES (xs:List Tm) (hm:xs.length < 100000) (ho:Al xs) (t:Tm):∀(m k:Nat),k+m=xs.length->
  bn (T nat).G 129 0 [.c (rows af xs),.c (ci k),.l (af t)]=some ([.one (cb (inT (xs.drop k) t))],[])
 |0,k,hk=>by
  have hlt:¬((k:Int) < (xs.length:Int)):=by omega
  rw [ai Dn (t:=t129.heads[0]) rfl,aA (by omega:¬k < xs.length)]
  simp [-Int.natCast_add,t129,zZ,hlt,aa,inT]
 |m+1,k,hk=>by
  have hkr:k < xs.length:=by omega
  have hlt:((k:Int) < (xs.length:Int)):=by omega
  have hs:=ax k (by omega)
  have ih:=ES xs hm ho t m (k+1) (by omega)
  have hoa:=ho _ (A5 hkr);have CY:=ZZ (nat:=nat) hoa.g hoa t;have hd:inT (xs.drop k) t=(jb xs[k] t||inT (xs.drop (k+1)) t):=by rw [drop_at hkr];rfl
  rw [hd,ai Dn (t:=t129.heads[0]) rfl];cases hq:jb xs[k] t<;>rw [hq] at CY<;>simp [-Int.natCast_add,t129,zZ,hlt,aa,eH hkr,CY,hs,ih,ah]
theorem akk (xs:List Tm) (hm:xs.length < 100000) (ho:Al xs) (t:Tm):bz (T nat).G 129 [.v (.one (rows af xs)),.v (.agg (af t))] []=some ([.one (cb (inT xs t))],[]):=by
 have h:=ES (nat:=nat) xs hm ho t xs.length 0 (by omega)
 simp only [An,A6] at h;rw [aG Dn];simp [t129,zZ,h,ah]
theorem afw (x y:Cs) (hx:iK x) (hy:iK y):∀(m k:Nat),k+m=y.tests.length->
  bn (T nat).G 66 0 [.c (ci k),.l (aQ x),.l (aQ y)]=cond ((y.tests.drop k).all (inT x.tests)) (bn (T nat).G 66 1 [.c (ci 0),.l (aQ x),.l (aQ y)]) (some ([.one (cb false)],[]))
 |0,k,hk=>by
  have hlt:¬((k:Int) < (y.tests.length:Int)):=by omega
  rw [ai pX (t:=t66.heads[0]) rfl,aA (by omega:¬k < y.tests.length)]
  simp [-Int.natCast_add,t66,zZ,hlt,aQ,aa]
 |m+1,k,hk=>by
  have hkr:k < y.tests.length:=by omega
  have hlt:((k:Int) < (y.tests.length:Int)):=by omega
  have htl:=hy.tl;have hs:=ax k (by omega)
  have ih:=afw x y hx hy m (k+1) (by omega)
  have h1:=akk (nat:=nat) x.tests hx.tl hx.ts y.tests[k];have hd:(y.tests.drop k).all (inT x.tests)=(inT x.tests y.tests[k] && (y.tests.drop (k+1)).all (inT x.tests)):=by rw [drop_at hkr];rfl
  simp only [aQ] at ih |-;rw [hd,ai pX (t:=t66.heads[0]) rfl];cases hq:inT x.tests y.tests[k]<;>rw [hq] at h1<;>simp [-Int.natCast_add,t66,zZ,hlt,aa,eH hkr,h1,hs,ih,ah]
theorem Xd (x y:Cs) (hx:iK x) (hy:iK y) (i:Nat) (hi:i < y.subs.length):∀(m k:Nat) (fd:Bool),k+m=x.subs.length->
  bn (T nat).G 66 2 [.c (ci i),.c (cb fd),.c (ci k),.l (aQ x),.l (aQ y)]=
  cond (fd||(x.subs.drop k).any fun r=>ext r y.subs[i]) (bn (T nat).G 66 1 [.c (ci ((i+1:Nat):Int)),.l (aQ x),.l (aQ y)]) (some ([.one (cb false)],[]))
 |0,k,fd,hk=>by
  have hlt:¬((k:Int) < (x.subs.length:Int)):=by omega
  have hsl:=hy.sl;have hs:=ax i (by omega)
  rw [ai pX (t:=t66.heads[2]) rfl,aA (by omega:¬k < x.subs.length)]
  cases fd<;>simp [-Int.natCast_add,t66,zZ,hlt,aQ,aa,hs]
 |m+1,k,fd,hk=>by
  have hkr:k < x.subs.length:=by omega
  have hlt:((k:Int) < (x.subs.length:Int)):=by omega
  have hsl:=hx.sl;have hs:=ax k (by omega)
  have aqK:=hy.sl;have hsi:=ax i (by omega)
  have ih2:=fun fd=>Xd x y hx hy i hi m (k+1) fd (by omega)
  have i1:=ih2 true;have i2:=ih2 false;have hxo:=hx.ok _ (A5 hkr);have Jr:=hy.ok _ (A5 hi);have h1:=aib (nat:=nat) x.subs[k] y.subs[i] Jr.1 hxo.1 hxo.2;rw [Sz] at h1;have hd:((x.subs.drop k).any fun r=>ext r y.subs[i])=(ext x.subs[k] y.subs[i]||(x.subs.drop (k+1)).any fun r=>ext r y.subs[i]):=by rw [drop_at hkr];rfl
  simp only [aQ] at i1 i2 |-;rw [hd,ai pX (t:=t66.heads[2]) rfl];cases fd with
  |true=>simp [-Int.natCast_add,t66,zZ,hlt,aa,hsi]
  |false=>cases hq:ext x.subs[k] y.subs[i]<;>rw [hq] at h1<;>simp [-Int.natCast_add,t66,zZ,hlt,aa,jk hkr,jk hi,h1,hs,i1,i2]
theorem adx (x y:Cs) (hx:iK x) (hy:iK y):∀(m k:Nat),k+m=y.subs.length->
  bn (T nat).G 66 1 [.c (ci k),.l (aQ x),.l (aQ y)]=some ([.one (cb ((y.subs.drop k).all fun s=>x.subs.any fun r=>ext r s))],[])
 |0,k,hk=>by
  have hlt:¬((k:Int) < (y.subs.length:Int)):=by omega
  rw [ai pX (t:=t66.heads[1]) rfl,aA (by omega:¬k < y.subs.length)]
  simp [-Int.natCast_add,t66,zZ,hlt,aQ,aa]
 |m+1,k,hk=>by
  have hkr:k < y.subs.length:=by omega
  have hlt:((k:Int) < (y.subs.length:Int)):=by omega
  have ih:=adx x y hx hy m (k+1) (by omega)
  have h1:=Xd (nat:=nat) x y hx hy k hkr x.subs.length 0 false (by omega)
  simp only [An,A6,G1,aQ] at h1;have hd:((y.subs.drop k).all fun s=>x.subs.any fun r=>ext r s)=((x.subs.any fun r=>ext r y.subs[k]) && (y.subs.drop (k+1)).all fun s=>x.subs.any fun r=>ext r s):=by rw [drop_at hkr];rfl
  simp only [aQ] at ih |-;rw [hd,ai pX (t:=t66.heads[1]) rfl];cases hq:(x.subs.any fun r=>ext r y.subs[k])<;>rw [hq] at h1<;>simp [-Int.natCast_add,t66,zZ,hlt,aa,h1,ih]
theorem x66 (x y:Cs) (hx:iK x) (hy:iK y):bz (T nat).G 66 [.v (.agg (aQ x)),.v (.agg (aQ y))] []=some ([.one (cb (covers x y))],[]):=by
 have h1:=afw (nat:=nat) x y hx hy y.tests.length 0 (by omega)
 have h2:=adx (nat:=nat) x y hx hy y.subs.length 0 (by omega)
 simp only [An,A6,aQ] at h1 h2;rw [aG pX,Gp];rw [h2] at h1;cases hq:y.tests.all (inT x.tests)<;>rw [hq] at h1<;>simp [t66,zZ,aQ,h1]
theorem WT (a b:bH) (ha:kU a) (hb:kU b) (i:Nat) (hi:i < b.cases.length):∀(m k:Nat) (fd:Bool),k+m=a.cases.length->
  bn (T nat).G 27 2 [.c (ci i),.c (cb fd),.c (ci k),.l (aj a),.l (aj b)]=
  cond (fd||(a.cases.drop k).any fun x=>covers x b.cases[i]) (bn (T nat).G 27 1 [.c (ci ((i+1:Nat):Int)),.l (aj a),.l (aj b)]) (some ([.one (cb false)],[]))
 |0,k,fd,hk=>by
  have hlt:¬((k:Int) < (a.cases.length:Int)):=by omega
  have hl:=hb.kl;have hs:=ax i (by omega)
  have e14:=bX a;rw [ai o7 (t:=t27.heads[2]) rfl,aA (by omega:¬k < a.cases.length)]
  cases fd<;>simp [-Int.natCast_add,t27,zZ,hlt,e14,aa,hs,ak]
 |m+1,k,fd,hk=>by
  have hkr:k < a.cases.length:=by omega
  have hlt:((k:Int) < (a.cases.length:Int)):=by omega
  have hl:=ha.kl;have hlb:=hb.kl;have hs:=ax k (by omega)
  have hsi:=ax i (by omega)
  have e14:=bX a;have f14:=bX b;have ih:=fun fd=>WT a b ha hb i hi m (k+1) fd (by omega)
  have i1:=ih true;have i2:=ih false;have h1:=x66 (nat:=nat) a.cases[k] b.cases[i] (ha.ks _ (A5 hkr)) (hb.ks _ (A5 hi));have hr:=og hkr;have hrb:=og hi;have hd:((a.cases.drop k).any fun x=>covers x b.cases[i])=(covers a.cases[k] b.cases[i]||(a.cases.drop (k+1)).any fun x=>covers x b.cases[i]):=by rw [drop_at hkr];rfl
  simp only [aQ] at h1;rw [hd,ai o7 (t:=t27.heads[2]) rfl];cases fd with
  |true=>simp [-Int.natCast_add,t27,zZ,hlt,e14,aa,hsi,ak]
  |false=>cases hq:covers a.cases[k] b.cases[i]<;>rw [hq] at h1<;>simp [-Int.natCast_add,t27,zZ,hlt,e14,f14,aa,hr,hrb,h1,hs,i1,i2,ak]
theorem aeX (a b:bH) (ha:kU a) (hb:kU b):∀(m k:Nat),k+m=b.cases.length->
  bn (T nat).G 27 1 [.c (ci k),.l (aj a),.l (aj b)]=some ([.one (cb ((b.cases.drop k).all fun y=>a.cases.any fun x=>covers x y))],[])
 |0,k,hk=>by
  have hlt:¬((k:Int) < (b.cases.length:Int)):=by omega
  have f14:=bX b;rw [ai o7 (t:=t27.heads[1]) rfl,aA (by omega:¬k < b.cases.length)]
  simp [-Int.natCast_add,t27,zZ,hlt,f14,aa,ak]
 |m+1,k,hk=>by
  have hkr:k < b.cases.length:=by omega
  have hlt:((k:Int) < (b.cases.length:Int)):=by omega
  have ih:=aeX a b ha hb m (k+1) (by omega)
  have h1:=WT (nat:=nat) a b ha hb k hkr a.cases.length 0 false (by omega)
  have f14:=bX b;simp only [An,A6,G1] at h1;have hd:((b.cases.drop k).all fun y=>a.cases.any fun x=>covers x y)=((a.cases.any fun x=>covers x b.cases[k]) && (b.cases.drop (k+1)).all fun y=>a.cases.any fun x=>covers x y):=by rw [drop_at hkr];rfl
  rw [hd,ai o7 (t:=t27.heads[1]) rfl];cases hq:(a.cases.any fun x=>covers x b.cases[k])<;>rw [hq] at h1<;>simp [-Int.natCast_add,t27,zZ,hlt,f14,aa,h1,ih,ak]
theorem adD (a b:bH) (ha:kU a) (hb:kU b):∀(m k:Nat),k+m=b.changed.length->
  bn (T nat).G 27 0 [.c (ci k),.l (aj a),.l (aj b)]=some ([.one (cb (within (b.changed.drop k) a.changed && apart b.fixed a.changed && b.cases.all fun y=>a.cases.any fun x=>covers x y))],[])
 |0,k,hk=>by
  have hlt:¬((k:Int) < (b.changed.length:Int)):=by omega
  have Y3:=x59 (nat:=nat) b.fixed a.changed hb.fx ha.ch;have h1:=aeX (nat:=nat) a b ha hb b.cases.length 0 (by omega)
  simp only [An,A6] at h1;rw [si] at Y3;rw [ai o7 (t:=t27.heads[0]) rfl,aA (by omega:¬k < b.changed.length)]
  cases hq:apart b.fixed a.changed<;>rw [hq] at Y3<;>simp [-Int.natCast_add,t27,zZ,hlt,dU,fu,aa,within,Y3,h1,ak]
 |m+1,k,hk=>by
  have hkr:k < b.changed.length:=by omega
  have hlt:((k:Int) < (b.changed.length:Int)):=by omega
  have hbl:=hb.ch;have hs:=ax k (by omega)
  have hr:eZ 2 (rows bW b.changed) (ci k)=some [cs b.changed[k].1,cs b.changed[k].2]:=kC hkr;have ih:=adD a b ha hb m (k+1) (by omega)
  have h1:=x65 (nat:=nat) a.changed ha.ch b.changed[k];have hd:within (b.changed.drop k) a.changed=(kF a.changed b.changed[k] && within (b.changed.drop (k+1)) a.changed):=by rw [drop_at hkr,<-oM];rfl
  simp only [bW] at h1;rw [hd,ai o7 (t:=t27.heads[0]) rfl];cases hq:kF a.changed b.changed[k]<;>rw [hq] at h1<;>simp [-Int.natCast_add,t27,zZ,hlt,dU,aa,hr,h1,hs,ih,ak]
theorem x27 (a b:bH) (ha:kU a) (hb:kU b):bz (T nat).G 27 [.v (.agg (aj a)),.v (.agg (aj b))] []=some ([.one (cb (lg a b))],[]):=by
 have h:=adD (nat:=nat) a b ha hb b.changed.length 0 (by omega)
 simp only [An,A6] at h;rw [aG o7,lg];simp [t27,zZ,h,ak]
end
end Go.Ey.Pr
set_option maxHeartbeats 4000000
namespace Go.Ey.Pr
open Go Go.Ey Go.Ey.Seat Go.RowKit Go.Proofs
section
variable {nat:Nat->List V->Option (List V)}
theorem x47 (ts:List Tm) (hm:ts.length < 100000) (ho:∀t∈ts,GA t):bz (T nat).G 47 [.v (.one (rows af ts)),.v (.one (rows af ts))] []=some yes:=by
 have hl:∀(m k:Nat),k+m=ts.length->bn (T nat).G 47 0 [.c (rows af ts),.c (rows af ts),.c (ci k)]=some yes:=by
  intro m;induction m with
  |zero=>
   intro k hk;have hlt:¬((k:Int) < (ts.length:Int)):=by omega
   rw [ai Ii (t:=t47.heads[0]) rfl];simp [-Int.natCast_add,t47,zZ,hlt,aa,yes]
  |succ m ih=>
   intro k hk;have hkr:k < ts.length:=by omega
   have hlt:((k:Int) < (ts.length:Int)):=by omega
   have hs:=ax k (by omega)
   have ih:=ih (k+1) (by omega)
   have hoa:=ho _ (A5 hkr);have CY:=ZZ (nat:=nat) hoa.1 hoa.2 ts[k];rw [ze] at CY;rw [ai Ii (t:=t47.heads[0]) rfl];simp [-Int.natCast_add,t47,zZ,hlt,aa,eH hkr,CY,hs,ih,ah]
 have h:=hl ts.length 0 (by omega)
 simp only [A6] at h;rw [aG Ii];simp [t47,zZ,aa,h]
end
end Go.Ey.Pr
