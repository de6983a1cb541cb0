/- A part. -/
import Derived.Test.YtolnnaanmfnkjaaGreatDoorY47
import Derived.Below
import GoSem.Core.Region
import GoSem.Core.Layout
import GoSem.Op.Equal
import GoSem.Core.View
import GoSem.Op.String
import Derived.Test.YtolnnaanmfnkjaaGreatDoorChecked
import Derived.KernelRfl
import Derived.Orders
import Derived.MapKept
import Derived.Carry
import Derived.Laws.StructEq
import Derived.WalkKit
import Derived.Laws.Append
import Derived.Laws.OwnMore
import Derived.StillTailTactics
import Derived.Deep.AppendLies
import Derived.Deep.RegionHeld3
import Derived.Lib.LaidTab
import Derived.Shelf.LaysM
import Derived.Shelf.Strconv.Itoa3
import Derived.Shelf.Strconv.Quote
import Derived.Shelf.Strings.Builder1
import Derived.BigCall
import Derived.Shelf.Strings.BuilderF
import Derived.Shelf.Strings.BuilderK
import Derived.Lib.BufferKept
set_option linter.all false
namespace Go.Ey.Rt
open Go Go.Ey
@[simp] def vQ a:=At.n 46 a
end Go.Ey.Rt
set_option maxHeartbeats 4000000
namespace Go.Ey.Pr
open Go.Ey Go.Ey.Rt Go.Ey.Seat
set_option maxRecDepth 100000
section
variable {nat:Nat->List V->Option (List V)}
theorem Nr:(T nat).G.fn 5=some t5:=by kernel_rfl
def t16:bO:=⟨uX 16 16,[],yQ .neq 0 15 15 (xK 2 [] (yZ 0 (yZ 1 (yD 3 4 5 [] (qJ (wV rW 0 1)))))),[yZ 1 (qC 0 3 4 (qY 2 1 14 0 (qY 2 2 14 0 (uM 46 5 6 (vJ 7 8 0 0 (wV uD 1 2))))) (sV 47 (wS 1 0 2 0) (xI 5 (sV 48 (wS 1 1 2 1) (xI 6 (sV 48 (wS 1 2 2 2) (xI 7 (sV 49 [tX [wH 3,wH 4,wH 5,wH 6,wH 7,wH 8,wH 9,sM 1,wH 11,wH 12,wH 13],tX [.n 2 3,.n 2 4,.n 2 5,.n 2 6,.n 2 7,.n 2 8,.n 2 9,sM 2,.n 2 11,.n 2 12,.n 2 13]] (uW 8)) pF)) pF)) pF)))]⟩
theorem Ox:(T nat).G.fn 16=some t16:=by kernel_rfl
def t23:bO:=⟨xP,[],sV 10 [kP (.k (.int .u32 0))] (qJ [rM,rW,rR,.l (.lit [.v 0,uC])]),[xX 1 3 (jQ 4 (.call 11 (uF wW 2) (qF 3) [none] [2] (sV 15 [pO 2,kP .z,pO 5] (tH 16 280 0 7 (rZ 1 1 [uD,tJ,lI 6,uP])))) (uW 0)),xX 0 3 (jQ 4 (.call 11 (uF wW 1) (qF 2) [none] [2] (sV 15 [pO 1,kP .z,pO 5] (tH 16 280 3 7 (rZ 0 1 [uD,rR,lI 6,uP])))) (uW 3))]⟩
theorem Di:(T nat).G.fn 23=some t23:=by kernel_rfl
def t24:bO:=⟨uX 16 16,[],sV 55 (wS 0 1 1 1) (yM 2 [.z,.z,.z,uC,pE,pE,uC,pE,pE,pE,pE,pE,.z,.z,.z,uC] (sV 55 (wS 0 1 1 2) (zA 3 4 [.z,.z,.z,uC,pE,pE,uC,pE,pE,pE,pE,pE,.z,.z,.z,uC] (sV 55 (wS 1 1 0 2) (zA 5 6 [.z,.z,.z,uC,pE,pE,uC,pE,pE,pE,pE,pE,.z,.z,.z,uC] (yZ 0 (yZ 1 (vC 7 8 (yM 9 [.z,.z,.z,uC,pE,pE,uC,pE,pE,pE,pE,pE,.z,.z,.z,uC] (yZ 0 (qJ [rP,rW,lI 0,lI 1,rM,rM,rM,rW,qQ,qQ,rW,qQ,qQ,qQ,qQ,qQ,rM,rM,rM,rW,rM,rM,rM,rW,qQ,qQ,rW,qQ,qQ,qQ,qQ,qQ,rM,rM,rM,rW]))))))))))),[qC 1 0 36 (qY 2 2 14 1 (qY 2 3 14 1 (sV 56 (wS 37 0 38 0) (zA 39 40 [.v 20,.v 21,.v 22,.v 23,.v 24,.v 25,.v 26,.v 27,.v 28,.v 29,.v 30,.v 31,.v 32,.v 33,.v 34,.v 35] (qO 37 1 (qO 38 1 (vC 41 42 (yM 43 [.v 20,.v 21,.v 22,.v 23,.v 24,.v 25,.v 26,.v 27,.v 28,.v 29,.v 30,.v 31,.v 32,.v 33,.v 34,.v 35] (qO 37 1 (uI [qU,rR,aP 44,rW,lI 2,yN,uN,uH,uG,uO,uP,uD,rP,rQ,sD,sK,sS,sP,sU,sW,tF,uL,uV,wM,vR,wF,vS,vT,vU,vN,wG,wN,wO,wP,wI,vV,xH,yS,lI 37,lI 38])))))))))) (pY 11 176 .z (yR 2) (pY 11 176 (.v 37) (yR 3) (sV 58 (wS 2 1 3 1) (sV 58 (wS 2 2 3 2) (rH .add 2 15 (.n 3 15) (yZ 2 (xV [aP 42,rW,lI 2,yN,uN,uH,uG,uO,uP,uD,rP,rQ,sD,sK,sS,sP,sU,sW,tF,uL,wZ,yT,qW 2 3,qW 2 4,qW 2 5,qW 2 6,qW 2 7,qW 2 8,qW 2 9,qW 2 10,qW 2 11,qW 2 12,qW 2 13,yY,xW,rM]))))))),qC 3 2 40 (qY 1 38 1 3 (qY 1 39 1 3 (sV 57 (wS 41 0 42 0) (zA 43 44 [.v 22,.v 23,.v 24,.v 25,.v 26,.v 27,.v 28,.v 29,.v 30,.v 31,.v 32,.v 33,.v 34,.v 35,.v 36,.v 37] (rZ 3 1 [qU,rR,tJ,aP 45,lI 4,lI 5,uG,uO,uP,uD,rP,rQ,sD,sK,sS,sP,sU,sW,tF,uL,uV,wM,vR,wF,vS,vT,vU,vN,wG,wN,wO,wP,wI,vV,xH,yS,yL,xY,lI 38,lI 39]))))) (xN 1 [qU,yY,lI 4,lI 5,uG,uO,uP,uD,rP,rQ,sD,sK,sS,sP,sU,sW,tF,uL,uV,wM,vR,wF,vS,vT,vU,vN,wG,wN,wO,wP,wI,vV,xH,yS,yL,xY]),qC 1 0 36 (qY 2 2 14 1 (qY 2 3 14 1 (pY 11 176 .z (yR 37) (qO 37 1 (.goto 3 [qU,rR,yT,rW,lI 2,yN,uN,uH,uG,uO,uP,uD,rP,rQ,sD,sK,sS,sP,sU,sW,tF,uL,uV,wM,vR,wF,vS,vT,vU,vN,wG,wN,wO,wP,wI,vV,lI 37,lI 38,xH,yS,wZ,rM]))))) (sI [pQ [.v 34,.v 20,.v 21,.v 22,.v 23,.v 24,.v 25,.v 26,.v 27,.v 28,.v 29,.v 30,.v 31,.v 32,.v 35,.v 33],qV]),qC 3 2 42 (qY 1 36 1 3 (pY 13 208 .z (yR 43) (qY 1 37 1 3 (qO 45 0 (.goto 4 [uS,qU,rR,tJ,uS,qW 45 0,aP 46,rW,lI 4,lI 5,uG,uO,uP,uD,rP,rQ,sD,sK,sS,sP,sU,sW,tF,uL,uV,wM,vR,wF,vS,vT,vU,vN,wG,wN,wO,wP,wI,vV,xH,yS,lI 36,lI 37,aP 44,xW,wZ,yT,yY]))))) (pW 2 1 [.v 40,.v 41] (tH 2 48 39 43 (rZ 1 2 [qU,aP 45,lI 4,lI 5,uG,uO,uP,uD,rP,rQ,sD,sK,sS,sP,sU,sW,tF,uL,uV,wM,vR,wF,vS,vT,vU,vN,wG,wN,wO,wP,wI,vV,xH,yS,xW,aP 44]))),qC 7 6 47 (yA 5 7 (qY 1 40 1 0 (qO 49 0 (.goto 5 [qU,wK,rR,tJ,uS,uN,uH,uG,uO,qW 49 0,aP 50,rW,lI 8,lI 9,rP,rQ,sD,sK,sS,sP,sU,sW,tF,uL,uV,wM,vR,wF,vS,vT,vU,vN,wG,wN,wO,wP,wI,vV,xH,yS,yL,xY,xW,wZ,lI 40,lI 41,aP 42,lI 48,aP 43,aP 44,aP 45,aP 46])))) (pW 1 1 [.v 42] (tH 1 24 46 48 (rZ 4 3 [rR,tJ,uS,aP 50,lI 8,lI 9,rP,rQ,sD,sK,sS,sP,sU,sW,tF,uL,uV,wM,vR,wF,vS,vT,vU,vN,wG,wN,wO,wP,wI,vV,xH,yS,yL,xY,xW,wZ,lI 40,lI 41,aP 43,aP 44,aP 45,aP 49]))),qC 11 10 52 (yA 9 11 (wX 1 11 5 [qU,yV,tJ,uS,uN,uH,uG,uO,uP,uD,rP,aP 54,lI 12,lI 13,sS,sP,sU,sW,tF,uL,uV,wM,vR,wF,vS,vT,vU,vN,wG,wN,wO,wP,wI,vV,xH,yS,yL,xY,xW,wZ,yT,yY,aP 42,aP 43,lI 44,lI 45,aP 46,lI 47,aP 48,aP 49,aP 50,aP 51] (.fG (xM [1,1] [yR 53,.n 53 1] [yR 47,.n 47 1]) (rZ 11 5 [qU,aP 54,tJ,uS,uN,uH,uG,uO,uP,uD,rP,aP 55,lI 12,lI 13,sS,sP,sU,sW,tF,uL,uV,wM,vR,wF,vS,vT,vU,vN,wG,wN,wO,wP,wI,vV,xH,yS,yL,xY,xW,wZ,yT,yY,aP 42,aP 43,lI 44,lI 45,aP 46,lI 47,aP 48,aP 49,aP 50,aP 51])))) (qP 1 53 (pW 13 1 [yR 47,.n 47 1,.n 47 2,.n 47 3,.n 47 4,.n 47 5,.n 47 6,.n 47 7,.n 47 8,.n 47 9,sM 47,.n 47 11,.n 47 12] (tH 13 208 46 54 (rZ 8 4 [qU,tJ,uS,uN,uH,uG,uO,aP 56,lI 12,lI 13,sS,sP,sU,sW,tF,uL,uV,wM,vR,wF,vS,vT,vU,vN,wG,wN,wO,wP,wI,vV,xH,yS,yL,xY,xW,wZ,yT,yY,aP 42,aP 43,lI 44,lI 45,aP 55,aP 48,aP 49,aP 50,aP 51]))) (rZ 8 4 [qU,tJ,uS,uN,uH,uG,uO,aP 54,lI 12,lI 13,sS,sP,sU,sW,tF,uL,uV,wM,vR,wF,vS,vT,vU,vN,wG,wN,wO,wP,wI,vV,xH,yS,yL,xY,xW,wZ,yT,yY,aP 42,aP 43,lI 44,lI 45,aP 46,aP 48,aP 49,aP 50,aP 51]))]⟩
theorem gy:(T nat).G.fn 24=some t24:=by kernel_rfl
def t25:bO:=⟨uX 16 16,[],sV 59 (wS 0 1 1 1) (zA 2 3 [.z,.z,.z,uC,pE,pE,uC,pE,pE,pE,pE,pE,.z,.z,.z,uC] (sV 59 (wS 0 1 1 2) (yM 4 [.z,.z,.z,uC,pE,pE,uC,pE,pE,pE,pE,pE,.z,.z,.z,uC] (sV 59 (wS 1 1 0 2) (yM 5 [.z,.z,.z,uC,pE,pE,uC,pE,pE,pE,pE,pE,.z,.z,.z,uC] (yZ 0 (yZ 1 (vC 6 7 (yM 8 [.z,.z,.z,uC,pE,pE,uC,pE,pE,pE,pE,pE,.z,.z,.z,uC] (yQ .add 0 15 15 (pY 11 176 .z (tT 0) (pY 11 176 (.v 10) (wH 0) (sV 60 (wS 0 1 1 1) (sV 60 (wS 0 2 1 2) (qJ [rW,lI 0,lI 1,rM,rM,rM,rW,qQ,qQ,rW,qQ,qQ,qQ,qQ,qQ,rM,rM,rM,rW,sD,sK,qW 0 3,qW 0 4,qW 0 5,qW 0 6,qW 0 7,qW 0 8,qW 0 9,qW 0 10,qW 0 11,qW 0 12,qW 0 13,uD,rQ,rM]))))))))))))))),[yZ 1 (qC 0 35 36 (qY 2 1 14 0 (qY 2 2 14 0 (qO 37 0 (qO 38 0 (vC 39 40 (yM 41 [.z,.z,.z,uC,pE,pE,uC,pE,pE,pE,pE,pE,.z,.z,.z,uC] (qO 37 1 (qO 38 1 (vC 42 43 (yM 44 [.z,.z,.z,uC,pE,pE,uC,pE,pE,pE,pE,pE,.z,.z,.z,uC] (pY 11 176 .z (yR 37) (uI [qU,rW,lI 1,lI 2,uS,uN,uH,uG,uO,uP,uD,rP,rQ,sD,sK,sS,sP,sU,sW,tF,uL,uV,wM,vR,wF,vS,vT,vU,vN,wG,wN,wO,wP,wI,lI 37,lI 38,rM,vV,xH,aP 45])))))))))))) (sI [pQ [.v 33,.v 19,.v 20,.v 21,.v 22,.v 23,.v 24,.v 25,.v 26,.v 27,.v 28,.v 29,.v 30,.v 31,.v 34,.v 32],qV])),qO 34 0 (qC 1 40 41 (qY 11 34 0 1 (qY 11 35 0 1 (uM 49 42 43 (zA 44 45 [.z,.z,.z,uC,pE,pE,uC,pE,pE,pE,pE,pE,.z,.z,.z,uC] (rZ 1 1 [qU,aP 46,lI 2,yN,uN,uH,uG,uO,uP,uD,rP,rQ,sD,sK,sS,sP,sU,sW,tF,uL,uV,wM,vR,wF,vS,vT,vU,vN,wG,wN,wO,wP,wI,vV,lI 34,lI 35,yL,xY,xW,wZ]))))) (.goto 4 [qU,rW,lI 2,yN,uN,uH,uG,uO,uP,uD,rP,rQ,sD,sK,sS,sP,sU,sW,tF,uL,uV,wM,vR,wF,vS,vT,vU,vN,wG,wN,wO,wP,wI,vV,lI 34,lI 35,yL,xY,xW,wZ])),qO 34 1 (qC 1 40 41 (qY 1 34 1 1 (qY 1 35 1 1 (sV 61 (wS 42 0 43 0) (zA 44 45 [.z,.z,.z,uC,pE,pE,uC,pE,pE,pE,pE,pE,.z,.z,.z,uC] (qY 1 34 1 1 (pY 13 208 .z (vQ 0) (.goto 3 [qU,rR,rW,lI 2,yN,uN,uH,uG,uO,uP,uD,rP,rQ,sD,sK,sS,sP,sU,sW,tF,uL,uV,wM,vR,wF,vS,vT,vU,vN,wG,wN,wO,wP,wI,vV,lI 34,lI 35,aP 47,yL,xY,xW,wZ]))))))) (pW 2 1 [.v 38,.v 39] (tH 2 48 37 42 (xN 0 [aP 44,lI 2,yN,uN,uH,uG,uO,uP,uD,rP,rQ,sD,sK,sS,sP,sU,sW,tF,uL,uV,wM,vR,wF,vS,vT,vU,vN,wG,wN,wO,wP,wI,vV,yL,aP 43])))),qY 1 36 1 1 (qO 42 0 (qC 2 43 44 (qY 1 36 1 1 (qY 13 45 0 2 (sV 62 [pO 37,tX [vQ 0,vQ 1]] (qP 47 48 (pW 13 1 [vQ 0,vQ 1,vQ 2,vQ 3,vQ 4,vQ 5,vQ 6,vQ 7,vQ 8,vQ 9,sM 46,vQ 11,vQ 12] (tH 13 208 37 49 (rZ 2 3 [qU,rR,aP 51,yN,lI 4,uH,uG,uO,uP,uD,rP,rQ,sD,sK,sS,sP,sU,sW,tF,uL,uV,wM,vR,wF,vS,vT,vU,vN,wG,wN,wO,wP,wI,vV,xH,lI 35,lI 36,aP 50,xW,wZ,yT,yY]))) (rZ 2 3 [qU,rR,aP 49,yN,lI 4,uH,uG,uO,uP,uD,rP,rQ,sD,sK,sS,sP,sU,sW,tF,uL,uV,wM,vR,wF,vS,vT,vU,vN,wG,wN,wO,wP,wI,vV,xH,lI 35,lI 36,xY,xW,wZ,yT,yY]))))) (pW 1 1 [.v 37] (tH 1 24 41 45 (rZ 1 2 [qU,aP 47,yN,lI 4,uH,uG,uO,uP,uD,rP,rQ,sD,sK,sS,sP,sU,sW,tF,uL,uV,wM,vR,wF,vS,vT,vU,vN,wG,wN,wO,wP,wI,vV,xH,lI 35,lI 36,xW,wZ,yT,aP 46]))))),qO 34 1 (qC 1 40 41 (qY 1 34 1 1 (qY 1 35 1 1 (sV 61 (wS 42 0 43 0) (zA 44 45 [.z,.z,.z,uC,pE,pE,uC,pE,pE,pE,pE,pE,.z,.z,.z,uC] (qY 1 34 1 1 (pY 13 208 .z (vQ 0) (.goto 5 [qU,rR,rW,lI 2,yN,uN,uH,uG,uO,uP,uD,rP,rQ,sD,sK,sS,sP,sU,sW,tF,uL,uV,wM,vR,wF,vS,vT,vU,vN,wG,wN,wO,wP,wI,vV,lI 34,lI 35,yL,aP 47,xY,xW,wZ]))))))) (pW 2 1 [.v 39,.v 36] (tH 2 48 38 42 (xN 0 [aP 44,lI 2,yN,uN,uH,uG,uO,uP,uD,rP,rQ,sD,sK,sS,sP,sU,sW,tF,uL,uV,wM,vR,wF,vS,vT,vU,vN,wG,wN,wO,wP,wI,vV,xY,aP 43])))),qY 1 36 1 1 (qO 42 0 (qC 2 43 44 (qY 1 36 1 1 (qY 13 45 0 2 (sV 62 [pO 38,tX [vQ 0,vQ 1]] (qP 47 48 (pW 13 1 [vQ 0,vQ 1,vQ 2,vQ 3,vQ 4,vQ 5,vQ 6,vQ 7,vQ 8,vQ 9,sM 46,vQ 11,vQ 12] (tH 13 208 38 49 (rZ 2 5 [qU,rR,aP 51,yN,lI 4,uH,uG,uO,uP,uD,rP,rQ,sD,sK,sS,sP,sU,sW,tF,uL,uV,wM,vR,wF,vS,vT,vU,vN,wG,wN,wO,wP,wI,vV,xH,lI 35,lI 36,xY,aP 50,wZ,yT,yY]))) (rZ 2 5 [qU,rR,aP 49,yN,lI 4,uH,uG,uO,uP,uD,rP,rQ,sD,sK,sS,sP,sU,sW,tF,uL,uV,wM,vR,wF,vS,vT,vU,vN,wG,wN,wO,wP,wI,vV,xH,lI 35,lI 36,xY,xW,wZ,yT,yY]))))) (pW 1 1 [.v 38] (tH 1 24 37 45 (rZ 1 2 [qU,aP 47,yN,lI 4,uH,uG,uO,uP,uD,rP,rQ,sD,sK,sS,sP,sU,sW,tF,uL,uV,wM,vR,wF,vS,vT,vU,vN,wG,wN,wO,wP,wI,vV,xH,lI 35,lI 36,wZ,yT,yY,aP 46])))))]⟩
theorem iq:(T nat).G.fn 25=some t25:=by kernel_rfl
def t26:bO:=⟨uX 16 16,[],sV 63 (wS 1 1 0 1) (vI 2 3 (sV 55 (wS 1 2 0 1) (vI 4 5 (yZ 1 (qJ [qW 1 14,uG,rW,lI 0]))))),[rY 2 1 4 (pG 2 0 2 (yZ 3 (uI [wK,qU,rR,tJ,qW 3 14,uG,rW,yN,lI 5]))) qV,qC 6 5 9 (pG 2 4 6 (wX 0 6 1 [yV,rR,tJ,uS,uN,uH,rQ,lI 7,lI 8] (uM 64 10 8 (rZ 6 1 [rQ,rR,tJ,uS,uN,uH,sD,lI 7,lI 8])))) (vJ 0 10 3 0 [rR,tJ,rQ,lI 7])]⟩
theorem Ar:(T nat).G.fn 26=some t26:=by kernel_rfl
def t27:bO:=⟨uX 16 16,[],qJ (wV rW 0 1),[qO 2 1 (qC 0 3 4 (qY 2 2 1 0 (sV 65 [qL 1 1,pM 5] (vJ 6 7 0 0 (wV uP 1 2)))) (sV 59 (wS 2 2 1 1) (xK 5 [] (uI (wV rW 1 2))))),yZ 2 (rY 0 3 4 (xV [qU,wK,rW,lI 1,lI 2]) qV),yZ 3 (qC 2 5 6 (qP 1 7 (qY 2 3 14 2 (qY 2 4 14 0 (uM 66 8 9 (rZ 2 2 [qU,rP,rQ,yN,lI 4])))) (vJ 1 8 0 1 (wV uD 3 4))) (vJ 1 7 0 1 (wV uP 3 4)))]⟩
theorem o7:(T nat).G.fn 27=some t27:=by kernel_rfl
theorem Zv:(T nat).G.fn 46=some t46:=by kernel_rfl
def t47:bO:=⟨vM,[],zF 1 (yD 2 3 4 [] (qJ [qU,rR,rW])),[vW 2 3 4 (xJ 0 2 (xJ 1 2 (uM 49 5 6 (vJ 7 8 2 0 [qU,rR,uD])))) qV]⟩
theorem Ii:(T nat).G.fn 47=some t47:=by kernel_rfl
def t48:bO:=⟨vM,[],zF 1 (yD 2 3 4 [] (qJ [qU,rR,rW])),[vW 2 3 4 (pG 2 0 2 (pG 2 1 2 (pU (yJ [1,1] true 5 (.all 6)) 7 (rX pF) (xN 2 [qU,rR,uP])))) qV]⟩
theorem Zq:(T nat).G.fn 48=some t48:=by kernel_rfl
def t55:bO:=⟨vM,[],wY [rR,qU,tJ,rW],[rY 3 2 4 (pG 2 1 3 (zB 111 0 5 (xK 6 [] (xN 3 [qU,rR,tJ,uO])))) qV]⟩
theorem Io:(T nat).G.fn 55=some t55:=by kernel_rfl
def t56:bO:=⟨vM,[],zF 1 (yD 2 3 4 [] (wY [qU,rR,uH,rW])),[rY 3 2 4 (xJ 0 3 (xJ 1 3 (uM 114 5 6 (vJ 7 8 3 0 [qU,rR,tJ,uD])))) qV]⟩
theorem Il:(T nat).G.fn 56=some t56:=by kernel_rfl
def t57:bO:=⟨vM,[],wY [rR,qU,tJ,rW],[rY 3 2 4 (yA 1 3 (vB (uI [qU,rR,tJ,uS,qU,uG,rW,lI 5]))) qV,qC 6 5 8 (yA 4 6 (pU (xM [1,1] [wL 0,wL 1] [uR 0,uR 1]) 10 (sV 114 [tX [wL 2,wL 3,wL 4,wL 5,wL 6,wL 7,wL 8,wL 9,sM 7,wL 11,wL 12],tX [uR 2,uR 3,uR 4,uR 5,uR 6,uR 7,uR 8,uR 9,sM 9,uR 11,uR 12]] (vJ 11 12 6 1 [qU,rR,tJ,uS,uN,uH,sK,lI 7])) (rZ 6 1 [qU,rR,tJ,uS,uN,uH,rQ,lI 7]))) (xN 3 [qU,rR,tJ,uD])]⟩
theorem Ay:(T nat).G.fn 57=some t57:=by kernel_rfl
def t58:bO:=⟨vM,[],pY 2 32 .z (.v 0) (qD 1 (qJ [rR,uS,rW,tJ])),[rY 2 1 4 (pG 2 0 2 (zB 111 3 5 (qP 6 7 (pW 2 1 [yR 5,.n 5 1] (tH 2 32 3 8 (xN 2 [qU,rR,rP,uD]))) (xN 2 [qU,rR,uP,uS])))) (qH 3)]⟩
theorem H7:(T nat).G.fn 58=some t58:=by kernel_rfl
def t60:bO:=⟨vM,[],pY 2 32 .z (.v 0) (qJ [rR,rW,tJ]),[vW 1 3 4 (pG 2 0 1 (zB 65 2 5 (qP 6 7 (pG 2 0 1 (pW 2 1 [uU 0,uU 1] (tH 2 32 2 9 (xN 1 [qU,rQ,rP])))) (xN 1 [qU,uP,tJ])))) (qH 2)]⟩
theorem Hz:(T nat).G.fn 60=some t60:=by kernel_rfl
def t61:bO:=⟨vM,[],qJ [qU,rR,rW],[vW 2 3 4 (uI [qU,rR,tJ,rW]) qV,qD 1 (qC 3 4 5 (yA 0 2 (yA 1 3 (pU (xM [1,1] [yR 6,.n 6 1] [wL 0,wL 1]) 8 (yA 0 2 (yA 1 3 (sV 49 [tX [uR 2,uR 3,uR 4,uR 5,uR 6,uR 7,uR 8,uR 9,sM 9,uR 11,uR 12],tX [tV 2,tV 3,tV 4,tV 5,tV 6,tV 7,tV 8,tV 9,sM 10,tV 11,tV 12]] (vJ 11 12 3 1 [qU,rR,tJ,sK])))) (rZ 3 1 [qU,rR,tJ,uD])))) (xN 2 [qU,rR,uG]))]⟩
theorem AJ:(T nat).G.fn 61=some t61:=by kernel_rfl
def t62:bO:=⟨vO 2,[],qJ [qU,rW,lI 1],[vW 1 3 4 (yA 0 1 (pU (wE [1,1] [yR 5,.n 5 1] (.all 2)) 6 (rX qV) (xN 1 [qU,uO,lI 2]))) pF]⟩
theorem Iw:(T nat).G.fn 62=some t62:=by kernel_rfl
def t63:bO:=⟨vM,[],wY [rR,qU,tJ,rW],[rY 3 2 4 (pG 2 1 3 (zB 111 0 5 (vJ 6 7 3 0 [qU,rR,tJ,uP]))) qV]⟩
theorem Iy:(T nat).G.fn 63=some t63:=by kernel_rfl
def t64:bO:=⟨uX 2 2,[],qO 1 0 (qJ [qW 1 0,tJ,rW,lI 0,lI 1]),[qC 2 1 5 (xJ 0 2 (sV 127 [qL 3 0,pM 6] (vJ 7 8 2 0 [qU,rR,uD,yN,lI 4]))) (qO 4 1 (uI [qW 4 1,uG,rW,yN])),rY 2 1 4 (pG 1 0 2 (qO 3 1 (xV [qW 5 0,wK,qU,rR,tJ,qW 3 1,uG,rW,yN]))) qV,qC 7 6 9 (pG 1 5 7 (wX 1 7 2 [qU,yV,tJ,uS,uN,uH,uG,rQ,lI 8] (xL 128 (qL 10 0) 0 (rZ 7 2 [qU,rQ,tJ,uS,uN,uH,uG,sD,lI 8])))) (vJ 1 10 4 1 [tJ,uS,rQ,lI 8])]⟩
theorem p9:(T nat).G.fn 64=some t64:=by kernel_rfl
def t66:bO:=⟨uX 2 2,[],qJ (wV rW 0 1),[qO 2 0 (qC 0 3 4 (qY 11 2 0 0 (sV 129 [qL 1 0,pM 5] (vJ 6 7 0 0 (wV uP 1 2)))) (uI (wV rW 1 2))),qO 2 1 (rY 0 3 4 (xV [qU,wK,rW,lI 1,lI 2]) qV),qO 3 1 (qC 2 5 6 (qP 1 7 (qY 1 3 1 2 (qY 1 4 1 0 (sV 123 (wS 8 0 9 0) (rZ 2 2 [qU,rP,rQ,yN,lI 4])))) (vJ 1 8 0 1 (wV uD 3 4))) (vJ 1 7 0 1 (wV uP 3 4)))]⟩
theorem pX:(T nat).G.fn 66=some t66:=by kernel_rfl
def t111:bO:=⟨vO 2,[],wY [qU,tJ,rW,lI 1],[rY 2 1 4 (pG 2 0 2 (pU (yJ [1,1] false 5 (.all 3)) 6 (rX qV) (xN 2 [qU,rR,uO,yN]))) pF]⟩
theorem Dv:(T nat).G.fn 111=some t111:=by kernel_rfl
def t128:bO:=⟨vM,[],qD 1 (qJ [qU,rR,tJ,rW]),[rY 3 2 4 (yA 1 3 (vB (uI [qU,wK,rR,tJ,uS,qU,uG,rW,lI 5]))) qV,qC 7 6 9 (yA 5 7 (wX 1 7 1 [qU,yV,tJ,uS,uN,uH,uG,rQ,lI 8] (pU (xM [1,1] [uU 0,uU 1] [tV 0,tV 1]) 11 (sV 114 [tX [uU 2,uU 3,uU 4,uU 5,uU 6,uU 7,uU 8,uU 9,sM 8,uU 11,uU 12],tX [tV 2,tV 3,tV 4,tV 5,tV 6,tV 7,tV 8,tV 9,sM 10,tV 11,tV 12]] (rZ 7 1 [qU,sD,tJ,uS,uN,uH,uG,sK,lI 8])) (rZ 7 1 [qU,wK,tJ,uS,uN,uH,uG,sD,lI 8])))) (vJ 1 10 4 0 [qU,tJ,uS,rQ])]⟩
theorem ru:(T nat).G.fn 128=some t128:=by kernel_rfl
def t129:bO:=⟨vO 11,[],qJ [qU,rW,lI 1],[vW 1 3 4 (xJ 0 1 (uM 49 5 2 (qX 6 qV [] (xN 1 [qU,uO,lI 2])))) pF]⟩
theorem Dn:(T nat).G.fn 129=some t129:=by kernel_rfl
end
end Go.Ey.Pr
set_option maxHeartbeats 4000000
namespace Go.Ey.Pr
open Go Go.Ey Go.Ey.Seat Go.RowKit Go.Proofs
section
variable {nat:Nat->List V->Option (List V)}
theorem Fy (xs:List bq) (hm:xs.length < 100000) (p:bq):∀(m k:Nat),k+m=xs.length->
  bn (T nat).G 111 0 [.c (rows bW xs),.c (ci xs.length),.c (ci k),.l (bW p)]=some ([.one (cb (kF (xs.drop k) p))],[])
 |0,k,hk=>by
  have hlt:¬((k:Int) < (xs.length:Int)):=by omega
  rw [ai Dv (t:=t111.heads[0]) rfl,aA (by omega:¬k < xs.length)]
  simp [-Int.natCast_add,t111,zZ,hlt,kF,bW]
 |m+1,k,hk=>by
  have hkr:k < xs.length:=by omega
  have hlt:((k:Int) < (xs.length:Int)):=by omega
  have hs:=ax k (by omega)
  have hr:eZ 2 (rows bW xs) (ci k)=some [cs xs[k].1,cs xs[k].2]:=kC hkr;have ih:=Fy xs hm p m (k+1) (by omega)
  have he:wh [1,1] false [cs xs[k].1,cs xs[k].2] [cs p.1,cs p.2]=some (cb (jY xs[k] p)):=jX false _ _ _ _;have hd:kF (xs.drop k) p=(jY xs[k] p||kF (xs.drop (k+1)) p):=by rw [drop_at hkr,Pt];rfl
  simp only [bW] at ih |-;rw [hd,ai Dv (t:=t111.heads[0]) rfl];cases hq:jY xs[k] p<;>rw [hq] at he<;>simp [-Int.natCast_add,t111,zZ,hlt,hr,he,hs,ih]
theorem YD (xs:List bq) (hm:xs.length < 100000) (p:bq):bz (T nat).G 111 [.v (.one (rows bW xs)),.v (.agg (bW p))] []=some ([.one (cb (kF xs p))],[]):=by
 have h:=Fy (nat:=nat) xs hm p xs.length 0 (by omega)
 simp only [An,A6,bW] at h;rw [aG Dv];simp [t111,zZ,fo,bW,h]
theorem JN (a b:List bq) (ha:a.length < 100000) (hb:b.length < 100000):∀(m k:Nat),k+m=a.length->
  bn (T nat).G 63 0 [.c (rows bW b),.c (rows bW a),.c (ci a.length),.c (ci k)]=some ([.one (cb (within (a.drop k) b))],[])
 |0,k,hk=>by
  have hlt:¬((k:Int) < (a.length:Int)):=by omega
  rw [ai Iy (t:=t63.heads[0]) rfl,aA (by omega:¬k < a.length)]
  simp [-Int.natCast_add,t63,zZ,hlt,within]
 |m+1,k,hk=>by
  have hkr:k < a.length:=by omega
  have hlt:((k:Int) < (a.length:Int)):=by omega
  have hs:=ax k (by omega)
  have hr:eZ 2 (rows bW a) (ci k)=some [cs a[k].1,cs a[k].2]:=kC hkr;have ih:=JN a b ha hb m (k+1) (by omega)
  have h1:=YD (nat:=nat) b hb a[k];have hd:within (a.drop k) b=(kF b a[k] && within (a.drop (k+1)) b):=by rw [drop_at hkr,<-oM];rfl
  simp only [bW] at h1;rw [hd,ai Iy (t:=t63.heads[0]) rfl];cases hq:kF b a[k]<;>rw [hq] at h1<;>simp [-Int.natCast_add,t63,zZ,hlt,hr,h1,hs,ih]
theorem x63 (a b:List bq) (ha:a.length < 100000) (hb:b.length < 100000):bz (T nat).G 63 [.v (.one (rows bW a)),.v (.one (rows bW b))] []=some ([.one (cb (within a b))],[]):=by
 have h:=JN (nat:=nat) a b ha hb a.length 0 (by omega)
 simp only [An,A6] at h;rw [aG Iy];simp [t63,zZ,fo,h]
theorem JI (a b:List bq) (ha:a.length < 100000) (hb:b.length < 100000):∀(m k:Nat),k+m=a.length->
  bn (T nat).G 55 0 [.c (rows bW b),.c (rows bW a),.c (ci a.length),.c (ci k)]=some ([.one (cb (apart (a.drop k) b))],[])
 |0,k,hk=>by
  have hlt:¬((k:Int) < (a.length:Int)):=by omega
  rw [ai Io (t:=t55.heads[0]) rfl,aA (by omega:¬k < a.length)]
  simp [-Int.natCast_add,t55,zZ,hlt,apart]
 |m+1,k,hk=>by
  have hkr:k < a.length:=by omega
  have hlt:((k:Int) < (a.length:Int)):=by omega
  have hs:=ax k (by omega)
  have hr:eZ 2 (rows bW a) (ci k)=some [cs a[k].1,cs a[k].2]:=kC hkr;have ih:=JI a b ha hb m (k+1) (by omega)
  have h1:=YD (nat:=nat) b hb a[k];have hd:apart (a.drop k) b=(!kF b a[k] && apart (a.drop (k+1)) b):=by rw [drop_at hkr,<-oM];rfl
  simp only [bW] at h1;rw [hd,ai Io (t:=t55.heads[0]) rfl];cases hq:kF b a[k]<;>rw [hq] at h1<;>simp [-Int.natCast_add,t55,zZ,hlt,hr,h1,hs,ih]
theorem x55 (a b:List bq) (ha:a.length < 100000) (hb:b.length < 100000):bz (T nat).G 55 [.v (.one (rows bW a)),.v (.one (rows bW b))] []=some ([.one (cb (apart a b))],[]):=by
 have h:=JI (nat:=nat) a b ha hb a.length 0 (by omega)
 simp only [An,A6] at h;rw [aG Io];simp [t55,zZ,fo,h]
def BS (r:List cB) (x:cB):Bool:=r.any fun b=>jY x.v b.v && jb x.t b.t
theorem ext_eq (r s:List cB):ext r s=s.all (BS r):=by simp only [ext,BN];rfl
theorem PI (r s:List cB) (i:Nat) (hi:i < s.length) (hr:r.length < 100000) (hs:s.length < 100000) (hok:Ac s):∀(m k:Nat) (fd:Bool),k+m=r.length->
  bn (T nat).G 128 1 [.c (rows bu r),.c (cb fd),.c (rows bu s),.c (ci s.length),.c (ci i),.c (rows bu r),.c (ci r.length),.c (ci k),.l (bu s[i])]=cond (fd||BS (r.drop k) s[i]) (bn (T nat).G 128 0 [.c (rows bu r),.c (rows bu s),.c (ci s.length),.c (ci ((i+1:Nat):Int))]) (some ([.one (cb false)],[]))
 |0,k,fd,hk=>by
  have hlt:¬((k:Int) < (r.length:Int)):=by omega
  have hsi:=ax i (by omega)
  rw [ai ru (t:=t128.heads[1]) rfl,aA (by omega:¬k < r.length)]
  cases fd<;>simp [-Int.natCast_add,t128,zZ,hlt,BS,hsi,mg]
 |m+1,k,fd,hk=>by
  have hkr:k < r.length:=by omega
  have hlt:((k:Int) < (r.length:Int)):=by omega
  have hsk:=ax k (by omega)
  have ih:=fun fd=>PI r s i hi hr hs hok m (k+1) fd (by omega)
  have he:wh [1,1] false [cs s[i].v.1,cs s[i].v.2] [cs r[k].v.1,cs r[k].v.2]=some (cb (jY s[i].v r[k].v)):=jX false _ _ _ _;have hoa:=hok s[i] (A5 hi);have FQ:=x114 (nat:=nat) hoa.1 hoa.2 r[k].t;have n1:=kJ s[i].t;have n2:=kJ r[k].t;have hd:BS (r.drop k) s[i]=((jY s[i].v r[k].v && jb s[i].t r[k].t)||BS (r.drop (k+1)) s[i]):=by rw [drop_at hkr];rfl
  have ih1:=ih true;have ih2:=ih false;simp only [bu] at ih1 ih2 |-;rw [hd,ai ru (t:=t128.heads[1]) rfl];cases fd with
  |true=>simp [-Int.natCast_add,t128,zZ,hlt,fE hkr,hsk,ih1,ah]
  |false=>
   cases hq:jY s[i].v r[k].v with
   |false=>
    rw [hq] at he;simp [-Int.natCast_add,t128,zZ,hlt,fE hkr,he,hsk,ih2,ah]
   |true=>
    rw [hq] at he;cases hq2:jb s[i].t r[k].t<;>rw [hq2] at FQ<;>
     simp [-Int.natCast_add,t128,zZ,hlt,fE hkr,he,hsk,n1,n2,FQ,ih1,ih2,ah]
theorem Fx (r s:List cB) (hr:r.length < 100000) (hs:s.length < 100000) (hok:Ac s):∀(m k:Nat),k+m=s.length->
  bn (T nat).G 128 0 [.c (rows bu r),.c (rows bu s),.c (ci s.length),.c (ci k)]=some ([.one (cb ((s.drop k).all (BS r)))],[])
 |0,k,hk=>by
  have hlt:¬((k:Int) < (s.length:Int)):=by omega
  rw [ai ru (t:=t128.heads[0]) rfl,aA (by omega:¬k < s.length)]
  simp [-Int.natCast_add,t128,zZ,hlt]
 |m+1,k,hk=>by
  have hkr:k < s.length:=by omega
  have hlt:((k:Int) < (s.length:Int)):=by omega
  have ih:=Fx r s hr hs hok m (k+1) (by omega)
  have h1:=PI (nat:=nat) r s k hkr hr hs hok r.length 0 false (by omega)
  simp only [An,A6,G1,bu] at h1;have hd:(s.drop k).all (BS r)=(BS r s[k] && (s.drop (k+1)).all (BS r)):=by rw [drop_at hkr];rfl
  rw [hd,ai ru (t:=t128.heads[0]) rfl];cases hq:BS r s[k]<;>rw [hq] at h1<;>simp [-Int.natCast_add,t128,zZ,hlt,fE hkr,aa,h1,ih,ah]
theorem akK (r s:List cB) (hr:r.length < 100000) (hs:s.length < 100000) (hok:Ac s):bz (T nat).G 128 [.v (.one (rows bu r)),.v (.one (rows bu s))] []=some ([.one (cb (ext r s))],[]):=by
 have h:=Fx (nat:=nat) r s hr hs hok s.length 0 (by omega)
 simp only [An,A6] at h;rw [aG ru,ext_eq];simp [t128,zZ,aa,h]
theorem agf (x y:Cs) (hx:iK x) (hy:iK y):∀(m k:Nat),k+m=y.tests.length->
  bn (T nat).G 64 0 [.c (rows af y.tests),.c (ci y.tests.length),.c (ci k),.l (aQ x),.l (aQ y)]=cond ((y.tests.drop k).all (inT x.tests)) (bn (T nat).G 64 1 [.c (rows encS y.subs),.c (ci y.subs.length),.c (ci 0),.l (aQ x)]) (some ([.one (cb false)],[]))
 |0,k,hk=>by
  have hlt:¬((k:Int) < (y.tests.length:Int)):=by omega
  rw [ai p9 (t:=t64.heads[0]) rfl,aA (by omega:¬k < y.tests.length)]
  simp [-Int.natCast_add,t64,zZ,hlt,aQ,aa]
 |m+1,k,hk=>by
  have hkr:k < y.tests.length:=by omega
  have hlt:((k:Int) < (y.tests.length:Int)):=by omega
  have htl:=hy.tl;have hs:=ax k (by omega)
  have ih:=agf x y hx hy m (k+1) (by omega)
  have h1:=alN (nat:=nat) x.tests hx.tl hx.ts y.tests[k];have hd:(y.tests.drop k).all (inT x.tests)=(inT x.tests y.tests[k] && (y.tests.drop (k+1)).all (inT x.tests)):=by rw [drop_at hkr];rfl
  simp only [aQ] at ih |-;rw [hd,ai p9 (t:=t64.heads[0]) rfl];cases hq:inT x.tests y.tests[k]<;>rw [hq] at h1<;>simp [-Int.natCast_add,t64,zZ,hlt,eH hkr,h1,hs,ih,ah]
theorem PO (x y:Cs) (hx:iK x) (hy:iK y) (i:Nat) (hi:i < y.subs.length):∀(m k:Nat) (fd:Bool),k+m=x.subs.length->
  bn (T nat).G 64 2 [.c (rows bu y.subs[i]),.c (cb fd),.c (rows encS y.subs),.c (ci y.subs.length),.c (ci i),.c (rows encS x.subs),.c (ci x.subs.length),.c (ci k),.l (aQ x)]=
  cond (fd||(x.subs.drop k).any fun r=>ext r y.subs[i]) (bn (T nat).G 64 1 [.c (rows encS y.subs),.c (ci y.subs.length),.c (ci ((i+1:Nat):Int)),.l (aQ x)]) (some ([.one (cb false)],[]))
 |0,k,fd,hk=>by
  have hlt:¬((k:Int) < (x.subs.length:Int)):=by omega
  have hsl:=hy.sl;have hs:=ax i (by omega)
  rw [ai p9 (t:=t64.heads[2]) rfl,aA (by omega:¬k < x.subs.length)]
  cases fd<;>simp [-Int.natCast_add,t64,zZ,hlt,aQ,hs]
 |m+1,k,fd,hk=>by
  have hkr:k < x.subs.length:=by omega
  have hlt:((k:Int) < (x.subs.length:Int)):=by omega
  have hsl:=hx.sl;have hs:=ax k (by omega)
  have ih1:=PO x y hx hy i hi m (k+1) true (by omega)
  have ih2:=PO x y hx hy i hi m (k+1) false (by omega)
  have hxo:=hx.ok _ (A5 hkr);have Jr:=hy.ok _ (A5 hi);have h1:=akK (nat:=nat) x.subs[k] y.subs[i] hxo.1 Jr.1 Jr.2;have hd:((x.subs.drop k).any fun r=>ext r y.subs[i])=(ext x.subs[k] y.subs[i]||(x.subs.drop (k+1)).any fun r=>ext r y.subs[i]):=by rw [drop_at hkr];rfl
  simp only [aQ] at ih1 ih2 |-;rw [hd,ai p9 (t:=t64.heads[2]) rfl];cases fd with
  |true=>simp [-Int.natCast_add,t64,zZ,hlt,jk hkr,hs,ih1]
  |false=>cases hq:ext x.subs[k] y.subs[i]<;>rw [hq] at h1<;>simp [-Int.natCast_add,t64,zZ,hlt,jk hkr,h1,hs,ih1,ih2]
theorem afS (x y:Cs) (hx:iK x) (hy:iK y):∀(m k:Nat),k+m=y.subs.length->
  bn (T nat).G 64 1 [.c (rows encS y.subs),.c (ci y.subs.length),.c (ci k),.l (aQ x)]=some ([.one (cb ((y.subs.drop k).all fun s=>x.subs.any fun r=>ext r s))],[])
 |0,k,hk=>by
  have hlt:¬((k:Int) < (y.subs.length:Int)):=by omega
  rw [ai p9 (t:=t64.heads[1]) rfl,aA (by omega:¬k < y.subs.length)]
  simp [-Int.natCast_add,t64,zZ,hlt,aQ]
 |m+1,k,hk=>by
  have hkr:k < y.subs.length:=by omega
  have hlt:((k:Int) < (y.subs.length:Int)):=by omega
  have ih:=afS x y hx hy m (k+1) (by omega)
  have h1:=PO (nat:=nat) x y hx hy k hkr x.subs.length 0 false (by omega)
  simp only [An,A6,G1,aQ] at h1;have hd:((y.subs.drop k).all fun s=>x.subs.any fun r=>ext r s)=((x.subs.any fun r=>ext r y.subs[k]) && (y.subs.drop (k+1)).all fun s=>x.subs.any fun r=>ext r s):=by rw [drop_at hkr];rfl
  simp only [aQ] at ih |-;rw [hd,ai p9 (t:=t64.heads[1]) rfl];cases hq:(x.subs.any fun r=>ext r y.subs[k])<;>rw [hq] at h1<;>simp [-Int.natCast_add,t64,zZ,hlt,jk hkr,aa,h1,ih]
theorem x64 (x y:Cs) (hx:iK x) (hy:iK y):bz (T nat).G 64 [.v (.agg (aQ x)),.v (.agg (aQ y))] []=some ([.one (cb (covers x y))],[]):=by
 have h1:=agf (nat:=nat) x y hx hy y.tests.length 0 (by omega)
 have h2:=afS (nat:=nat) x y hx hy y.subs.length 0 (by omega)
 simp only [An,A6,aQ] at h1 h2;rw [aG p9,Gp];rw [h2] at h1;cases hq:y.tests.all (inT x.tests)<;>rw [hq] at h1<;>simp [t64,zZ,aa,aQ,h1]
theorem Px (a b:bH) (ha:kU a) (hb:kU b) (i:Nat) (hi:i < b.cases.length):∀(m k:Nat) (fd:Bool),k+m=a.cases.length->
  bn (T nat).G 26 1 [.c (cb fd),.c (rows aQ b.cases),.c (ci b.cases.length),.c (ci i),.c (rows aQ a.cases),.c (ci a.cases.length),.c (ci k),.l (aj a),.l (aQ b.cases[i])]=
  cond (fd||(a.cases.drop k).any fun x=>covers x b.cases[i]) (bn (T nat).G 26 0 [.c (rows aQ b.cases),.c (ci b.cases.length),.c (ci ((i+1:Nat):Int)),.l (aj a)]) (some ([.one (cb false)],[]))
 |0,k,fd,hk=>by
  have hlt:¬((k:Int) < (a.cases.length:Int)):=by omega
  have hl:=hb.kl;have hs:=ax i (by omega)
  rw [ai Ar (t:=t26.heads[1]) rfl,aA (by omega:¬k < a.cases.length)]
  cases fd<;>simp [-Int.natCast_add,t26,zZ,hlt,hs,ak,bM]
 |m+1,k,fd,hk=>by
  have hkr:k < a.cases.length:=by omega
  have hlt:((k:Int) < (a.cases.length:Int)):=by omega
  have hl:=ha.kl;have hs:=ax k (by omega)
  have ih1:=Px a b ha hb i hi m (k+1) true (by omega)
  have ih2:=Px a b ha hb i hi m (k+1) false (by omega)
  have h1:=x64 (nat:=nat) a.cases[k] b.cases[i] (ha.ks _ (A5 hkr)) (hb.ks _ (A5 hi));have hr:=og hkr;have hd:((a.cases.drop k).any fun x=>covers x b.cases[i])=(covers a.cases[k] b.cases[i]||(a.cases.drop (k+1)).any fun x=>covers x b.cases[i]):=by rw [drop_at hkr];rfl
  simp only [aQ] at h1 ih1 ih2 |-;rw [hd,ai Ar (t:=t26.heads[1]) rfl];cases fd with
  |true=>simp [-Int.natCast_add,t26,zZ,hlt,hr,hs,ih1,ak]
  |false=>cases hq:covers a.cases[k] b.cases[i]<;>rw [hq] at h1<;>simp [-Int.natCast_add,t26,zZ,hlt,hr,h1,hs,ih1,ih2,ak]
theorem Jl (a b:bH) (ha:kU a) (hb:kU b):∀(m k:Nat),k+m=b.cases.length->
  bn (T nat).G 26 0 [.c (rows aQ b.cases),.c (ci b.cases.length),.c (ci k),.l (aj a)]=some ([.one (cb ((b.cases.drop k).all fun y=>a.cases.any fun x=>covers x y))],[])
 |0,k,hk=>by
  have hlt:¬((k:Int) < (b.cases.length:Int)):=by omega
  rw [ai Ar (t:=t26.heads[0]) rfl,aA (by omega:¬k < b.cases.length)]
  simp [-Int.natCast_add,t26,zZ,hlt,ak]
 |m+1,k,hk=>by
  have hkr:k < b.cases.length:=by omega
  have hlt:((k:Int) < (b.cases.length:Int)):=by omega
  have ih:=Jl a b ha hb m (k+1) (by omega)
  have h1:=Px (nat:=nat) a b ha hb k hkr a.cases.length 0 false (by omega)
  have e14:=bX a;have hr:=og hkr;simp only [An,A6,G1,aQ] at h1;have hd:((b.cases.drop k).all fun y=>a.cases.any fun x=>covers x y)=((a.cases.any fun x=>covers x b.cases[k]) && (b.cases.drop (k+1)).all fun y=>a.cases.any fun x=>covers x y):=by rw [drop_at hkr];rfl
  rw [hd,ai Ar (t:=t26.heads[0]) rfl];cases hq:(a.cases.any fun x=>covers x b.cases[k])<;>rw [hq] at h1<;>simp [-Int.natCast_add,t26,zZ,hlt,hr,e14,aa,h1,ih,ak]
theorem x26 (a b:bH) (ha:kU a) (hb:kU b):bz (T nat).G 26 [.v (.agg (aj a)),.v (.agg (aj b))] []=some ([.one (cb (lg a b))],[]):=by
 have h:=Jl (nat:=nat) a b ha hb b.cases.length 0 (by omega)
 simp only [An,A6] at h;have h63:=x63 (nat:=nat) b.changed a.changed hb.ch ha.ch;have h55:=x55 (nat:=nat) b.fixed a.changed hb.fx ha.ch;rw [aG Ar,lg];cases hq:within b.changed a.changed<;>rw [hq] at h63
 ·simp [t26,zZ,dU,fu,bX,h63,ak]
 ·cases hq2:apart b.fixed a.changed<;>rw [hq2] at h55<;>simp [t26,zZ,dU,fu,bX,h63,h55,aa,h,ak]
end
end Go.Ey.Pr
set_option maxHeartbeats 4000000
namespace Go.Ey.Pr
open Go Go.Ey Go.Ey.Seat Go.RowKit Go.Proofs
section
variable {nat:Nat->List V->Option (List V)}
theorem IP (a b:List Tm) (hl:a.length=b.length) (hm:a.length < 100000) (ho:Al a):∀(m k:Nat),k+m=a.length->
  bn (T nat).G 56 0 [.c (rows af a),.c (rows af b),.c (ci a.length),.c (ci k)]=some ([.one (cb (jv (a.drop k) (b.drop k)))],[])
 |0,k,hk=>by
  have hlt:¬((k:Int) < (a.length:Int)):=by omega
  rw [ai Il (t:=t56.heads[0]) rfl,aA (by omega:¬k < a.length),aA (by omega:¬k < b.length)]
  simp [-Int.natCast_add,t56,zZ,hlt,jv]
 |m+1,k,hk=>by
  have hka:k < a.length:=by omega
  have hkb:k < b.length:=by omega
  have hlt:((k:Int) < (a.length:Int)):=by omega
  have hs:=ax k (by omega)
  have ih:=IP a b hl hm ho m (k+1) (by omega)
  have hoa:=ho _ (A5 hka);have FQ:=x114 (nat:=nat) hoa.g hoa b[k];rw [drop_at hka,drop_at hkb,jv,ai Il (t:=t56.heads[0]) rfl];cases hq:jb a[k] b[k]<;>rw [hq] at FQ<;>simp [-Int.natCast_add,t56,zZ,hlt,eH hka,eH hkb,FQ,hs,ih,ah]
theorem x56 (a b:List Tm) (ha:a.length < 100000) (hb:b.length < 100000) (ho:Al a):bz (T nat).G 56 [.v (.one (rows af a)),.v (.one (rows af b))] []=some ([.one (cb (jv a b))],[]):=by
 rw [aG Il];by_cases hl:a.length=b.length
 ·have h:=IP (nat:=nat) a b hl ha ho a.length 0 (by omega)
  simp only [An,A6] at h;simp [t56,zZ,aa,<-hl,h]
 ·have hne:((a.length:Int)==(b.length:Int))=false:=C1.2 (by omega)
  rw [Av hl];simp [t56,zZ,aa,hne]
theorem W9 (a b:List cB) (i:Nat) (hi:i < a.length) (ha:a.length < 100000) (hb:b.length < 100000) (hok:Ac a):∀(m k:Nat),k+m=b.length->
  bn (T nat).G 57 1 [.c (rows bu b),.c (rows bu a),.c (ci a.length),.c (ci i),.c (rows bu b),.c (ci b.length),.c (ci k),.l (bu a[i])]=cond (dV a[i] (b.drop k)) (bn (T nat).G 57 0 [.c (rows bu b),.c (rows bu a),.c (ci a.length),.c (ci ((i+1:Nat):Int))]) (some ([.one (cb false)],[]))
 |0,k,hk=>by
  have hlt:¬((k:Int) < (b.length:Int)):=by omega
  have hsi:=ax i (by omega)
  rw [ai Ay (t:=t57.heads[1]) rfl,aA (by omega:¬k < b.length)]
  simp [-Int.natCast_add,t57,zZ,hlt,dV,hsi,mg]
 |m+1,k,hk=>by
  have hkr:k < b.length:=by omega
  have hlt:((k:Int) < (b.length:Int)):=by omega
  have hsk:=ax k (by omega)
  have ih:=W9 a b i hi ha hb hok m (k+1) (by omega)
  have he:wh [1,1] false [cs a[i].v.1,cs a[i].v.2] [cs b[k].v.1,cs b[k].v.2]=some (cb (jY a[i].v b[k].v)):=jX false _ _ _ _;have hoa:=hok a[i] (A5 hi);have FQ:=x114 (nat:=nat) hoa.1 hoa.2 b[k].t;have n1:=kJ a[i].t;have n2:=kJ b[k].t;have hd:dV a[i] (b.drop k)=(!(jY a[i].v b[k].v && !jb a[i].t b[k].t) && dV a[i] (b.drop (k+1))):=by rw [drop_at hkr];rfl
  simp only [bu] at ih |-;rw [hd,ai Ay (t:=t57.heads[1]) rfl];cases hq:jY a[i].v b[k].v with
  |false=>
   rw [hq] at he;simp [-Int.natCast_add,t57,zZ,hlt,fE hkr,he,hsk,ih,ah]
  |true=>
   rw [hq] at he;cases hq2:jb a[i].t b[k].t<;>rw [hq2] at FQ<;>
    simp [-Int.natCast_add,t57,zZ,hlt,fE hkr,he,hsk,n1,n2,FQ,ih,ah]
theorem IZ (a b:List cB) (ha:a.length < 100000) (hb:b.length < 100000) (hok:Ac a):∀(m k:Nat),k+m=a.length->
  bn (T nat).G 57 0 [.c (rows bu b),.c (rows bu a),.c (ci a.length),.c (ci k)]=some ([.one (cb ((a.drop k).all fun x=>dV x b))],[])
 |0,k,hk=>by
  have hlt:¬((k:Int) < (a.length:Int)):=by omega
  rw [ai Ay (t:=t57.heads[0]) rfl,aA (by omega:¬k < a.length)]
  simp [-Int.natCast_add,t57,zZ,hlt]
 |m+1,k,hk=>by
  have hkr:k < a.length:=by omega
  have hlt:((k:Int) < (a.length:Int)):=by omega
  have ih:=IZ a b ha hb hok m (k+1) (by omega)
  have h1:=W9 (nat:=nat) a b k hkr ha hb hok b.length 0 (by omega)
  simp only [An,A6,bu] at h1;have hd:((a.drop k).all fun x=>dV x b)=(dV a[k] b && (a.drop (k+1)).all fun x=>dV x b):=by rw [drop_at hkr];rfl
  rw [hd,ai Ay (t:=t57.heads[0]) rfl];cases hq:dV a[k] b<;>rw [hq] at h1<;>simp [-Int.natCast_add,t57,zZ,hlt,fE hkr,aa,h1,ih,ah]
theorem x57 (a b:List cB) (ha:a.length < 100000) (hb:b.length < 100000) (hok:Ac a):bz (T nat).G 57 [.v (.one (rows bu a)),.v (.one (rows bu b))] []=some ([.one (cb (agree a b))],[]):=by
 have h:=IZ (nat:=nat) a b ha hb hok a.length 0 (by omega)
 simp only [An,A6] at h;rw [aG Ay,JW];simp [t57,zZ,aa,h]
theorem Dk (b:List bq) (hb:b.length < 50000):∀(m k:Nat) (acc:List bq),k+m=b.length->acc.length+m < 100000->
  bn (T nat).G 58 0 [.c (rows bW b),.c (ci b.length),.c (ci k),.c (rows bW acc)]=some ([.one (rows bW (dX acc (b.drop k)))],[])
 |0,k,acc,hk,ha=>by
  have hlt:¬((k:Int) < (b.length:Int)):=by omega
  rw [ai H7 (t:=t58.heads[0]) rfl,aA (by omega:¬k < b.length)]
  simp [-Int.natCast_add,t58,zZ,hlt,dX]
 |m+1,k,acc,hk,ha=>by
  have hkr:k < b.length:=by omega
  have hlt:((k:Int) < (b.length:Int)):=by omega
  have hs:=ax k (by omega)
  have hr:eZ 2 (rows bW b) (ci k)=some [cs b[k].1,cs b[k].2]:=kC hkr;have h1:=YD (nat:=nat) acc (by omega) b[k]
  have hl2:fq 2 1 [cs b[k].1,cs b[k].2]=some (.slice (bW b[k]) 1):=Fq _ _;have ha2:=qm (acc:=acc) (x:=b[k]) (by omega)
  simp only [bW] at h1;rw [drop_at hkr,dX,oM,ai H7 (t:=t58.heads[0]) rfl];cases hq:kF acc b[k] with
  |true=>
   rw [hq] at h1;have ih:=Dk b hb m (k+1) acc (by omega) (by omega)
   simp [-Int.natCast_add,t58,zZ,hlt,hr,h1,hs,ih]
  |false=>
   rw [hq] at h1;have ih:=Dk b hb m (k+1) (acc++[b[k]]) (by omega) (by simp;omega)
   simp [-Int.natCast_add,t58,zZ,hlt,hr,h1,hl2,ha2,hs,ih]
theorem x58 (a b:List bq) (ha:a.length < 50000) (hb:b.length < 50000):bz (T nat).G 58 [.v (.one (rows bW a)),.v (.one (rows bW b))] []=some ([.one (rows bW (dX a b))],[]):=by
 have h:=Dk (nat:=nat) b hb b.length 0 a (by omega) (by omega)
 have hz:iO 2 32 (rows bW a) cz=some (rows bW a):=fe jw (by decide) (by simp only [aB];omega) (by simp only [aB];omega)
 simp only [An,A6] at h;rw [aG H7];simp [t58,zZ,fo,hz,h]
end
theorem FM:∀(xs ys:List Cs),rq xs ys=true->∀(i:Nat) (h1:i < xs.length) (h2:i < ys.length),xs[i].subs.length=ys[i].subs.length
 |x::xs,y::ys,h,0,_,_=>by simp only [rq,ok2,As,F1] at h;exact h.1.2.1
 |x::xs,y::ys,h,i+1,h1,h2=>by simp only [rq,As] at h;exact FM xs ys h.2 i (by simpa using h1) (by simpa using h2)
 |[],_,_,_,h1,_=>absurd h1 (N0 _)
 |_::_,[],_,_,_,h2=>absurd h2 (N0 _)
def g0 (a b:bH) (i:Nat):List W:=.c (ci (a.cases.length)):: .c (ci i):: .l (aj a):: .l (aj b)::dG (dG ([]))
section
variable {nat:Nat->List V->Option (List V)}
theorem adW (a b:bH) (i:Nat) (x y:Cs) (hx:iK x) (hy:iK y) (hl:x.subs.length=y.subs.length) (hi:i < 100000):∀(m k:Nat),k+m=x.subs.length->
  bn (T nat).G 24 1 (g1 a b i x y k)=cond (uj (x.subs.drop k) (y.subs.drop k)) (bn (T nat).G 24 0 (g0 a b (i+1))) (some (bT,[]))
 |0,k,hk=>by
  have hlt:¬((k:Int) < (x.subs.length:Int)):=by omega
  have hs:=ax i (by omega)
  rw [ai gy (t:=t24.heads[1]) rfl,aA (by omega:¬k < x.subs.length)]
  simp [-Int.natCast_add,g1,g0,t24,zZ,hlt,uj,hs,ak,bM]
 |m+1,k,hk=>by
  have hkx:k < x.subs.length:=by omega
  have oC:k < y.subs.length:=by omega
  have hlt:((k:Int) < (x.subs.length:Int)):=by omega
  have hxl:=hx.sl;have hs:=ax k (by omega)
  have ih:=adW a b i x y hx hy hl hi m (k+1) (by omega)
  have hxo:=hx.ok _ (A5 hkx);have Jr:=hy.ok _ (A5 oC);have h57:=x57 (nat:=nat) x.subs[k] y.subs[k] hxo.1 Jr.1 hxo.2;have e1:au (aQ x) 1=rows encS x.subs:=rfl;have e2:au (aQ y) 1=rows encS y.subs:=rfl;rw [drop_at hkx,drop_at oC,uj];simp only [g1,dG] at ih |-;rw [ai gy (t:=t24.heads[1]) rfl];cases hq:agree x.subs[k] y.subs[k]<;>rw [hq] at h57<;>simp [-Int.natCast_add,t24,zZ,hlt,e1,e2,jk hkx,jk oC,h57,hs,ih,bT,ak,bM]
theorem aey (a b:bH) (h:okM a b):∀(m i:Nat),i+m=a.cases.length->
  bn (T nat).G 24 0 (g0 a b i)=cond (rq (a.cases.drop i) (b.cases.drop i)) (bn (T nat).G 24 2 (g2 a b 0 [])) (some (bT,[]))
 |0,i,hi=>by
  have hlt:¬((i:Int) < (a.cases.length:Int)):=by omega
  have h1:=h.ca;have hz:iO 11 176 (rows af a.calls) cz=some (rows af a.calls):=fe ah (by decide) (by simp only [aB];omega) (by simp only [aB];omega)
  have hab:iO 11 176 (rows af b.calls) (rows af a.calls)=some (rows af (a.calls++b.calls)):=oD ah (by decide) (by simp only [aB];omega) (by simp only [aB];omega)
  have hc:=x58 (nat:=nat) a.changed b.changed h.ch.1 h.ch.2;have hf:=x58 (nat:=nat) a.fixed b.fixed h.fx.1 h.fx.2;have hsa:=h.sa;have hsb:=h.sb;have hsc:cZ .add false (ci a.score) (ci b.score)=some (ci ((a.score:Int)+b.score)):=eO (by omega) (by omega)
  have ek:rows aQ []=cz:=rfl;rw [ai gy (t:=t24.heads[0]) rfl,aA (by omega:¬i < a.cases.length)]
  simp [-Int.natCast_add,g0,g2,t24,zZ,hlt,rq,Lm,dU,fu,bX,BI,hz,hab,hc,hf,hsc,aa,ek,ak]
 |m+1,i,hi=>by
  have hia:i < a.cases.length:=by omega
  have hib:i < b.cases.length:=by have:=h.len;omega
  have hlt:((i:Int) < (a.cases.length:Int)):=by omega
  have hkl:=h.oa.kl;have ih:=aey a b h m (i+1) (by omega)
  have hx:=h.oa.ks _ (A5 hia);have hy:=h.ob.ks _ (A5 hib);have hra:=og hia;have hrb:=og hib;have ea:=bX a;have eb:=bX b;have h56:=x56 (nat:=nat) a.cases[i].tests b.cases[i].tests hx.tl hy.tl hx.ts;have hk1:=fun (hl:a.cases[i].subs.length=b.cases[i].subs.length)=>adW (nat:=nat) a b i a.cases[i] b.cases[i] hx hy hl (by omega) a.cases[i].subs.length 0 (by omega)
  simp only [An] at hk1;rw [drop_at hia,drop_at hib,rq,ok2];simp only [g0,g1,dG,aQ,A6] at hk1 |-;simp only [g0,dG] at ih;rw [ai gy (t:=t24.heads[0]) rfl];cases hq:jv a.cases[i].tests b.cases[i].tests with
  |false=>
   rw [hq] at h56;simp [-Int.natCast_add,t24,zZ,hlt,ea,eb,hra,hrb,h56,bT,ak]
  |true=>
   rw [hq] at h56;by_cases hl:a.cases[i].subs.length=b.cases[i].subs.length
   ·have hle:((a.cases[i].subs.length:Int)=(b.cases[i].subs.length:Int)):=by omega
    have hk2:=hk1 hl;rw [ih] at hk2;cases hq2:uj a.cases[i].subs b.cases[i].subs<;>rw [hq2] at hk2<;>simp [-Int.natCast_add,t24,zZ,hlt,ea,eb,hra,hrb,h56,aa,<-hl,hk2,ak]
   ·have hle:((a.cases[i].subs.length:Int)==(b.cases[i].subs.length:Int))=false:=C1.2 (by omega)
    simp [-Int.natCast_add,t24,zZ,hlt,ea,eb,hra,hrb,h56,aa,hle,hl,bT,ak]
theorem afO (a b:bH) (i:Nat) (x y:Cs) (k:Nat) (q:List cB) (j:Nat) (hj:j < q.length) (p:List cB) (s:List cB) (out:List Cs) (acc:List (List cB)) (hp:p.length < 100000) (hq:q.length < 100000) (hs:s.length < 500000):∀(m l:Nat) (there:Bool),l+m=p.length->
  bn (T nat).G 24 5 (g5 a b i x y k q j there p l q[j] s out acc)=bn (T nat).G 24 4 (g4 a b i x y k q (j+1) (cond (there||xO (p.drop l) q[j]) s (s++[q[j]])) out acc)
 |0,l,there,hl=>by
  have hlt:¬((l:Int) < (p.length:Int)):=by omega
  have hsj:=ax j (by omega)
  have om:=rJ q[j].v q[j].t;have ni:=AA (acc:=s) (x:=q[j]) (by omega)
  rw [ai gy (t:=t24.heads[5]) rfl,aA (by omega:¬l < p.length)]
  simp only [g5,g4,dG,mw,bu] at ni |-;cases there<;>simp [-Int.natCast_add,t24,zZ,hlt,xO,hsj,om,ni,bu,ak,bM,ah]
 |m+1,l,there,hl=>by
  have hlp:l < p.length:=by omega
  have hlt:((l:Int) < (p.length:Int)):=by omega
  have hsl:=ax l (by omega)
  have he:wh [1,1] false [cs p[l].v.1,cs p[l].v.2] [cs q[j].v.1,cs q[j].v.2]=some (cb (jY p[l].v q[j].v)):=jX false _ _ _ _;have hd:xO (p.drop l) q[j]=(jY p[l].v q[j].v||xO (p.drop (l+1)) q[j]):=by rw [drop_at hlp];rfl
  have ih:=fun t=>afO a b i x y k q j hj p s out acc hp hq hs m (l+1) t (by omega)
  have ih1:=ih true;have ih2:=ih (jY p[l].v q[j].v);rw [hd];cases there with
  |true=>
   simp only [Bool.true_or] at ih1 |-;rw [<-ih1,ai gy (t:=t24.heads[5]) (ws:=g5 a b i x y k q j true p l q[j] s out acc) rfl];simp [-Int.natCast_add,g5,t24,zZ,hlt,fE hlp,hsl,bu,ak,bM,ah]
  |false=>
   simp only [G1] at |-;rw [<-ih2,ai gy (t:=t24.heads[5]) (ws:=g5 a b i x y k q j false p l q[j] s out acc) rfl];simp [-Int.natCast_add,g5,t24,zZ,hlt,fE hlp,he,hsl,bu,ak,bM,ah]
theorem aec (a b:bH) (i:Nat) (x y:Cs) (k:Nat) (hk:k < x.subs.length) (q:List cB) (out:List Cs) (acc:List (List cB)) (hxk:x.subs[k].length < 100000) (hq:q.length < 100000) (hkx:k < 100000) (hac:acc.length < 100000):∀(m j:Nat) (s:List cB),j+m=q.length->s.length+m < 300000->
  bn (T nat).G 24 4 (g4 a b i x y k q j s out acc)=bn (T nat).G 24 3 (g3 a b i x y (k+1) out (acc++[s++(q.drop j).filter fun c=>!xO x.subs[k] c]))
 |0,j,s,hj,hsl=>by
  have hlt:¬((j:Int) < (q.length:Int)):=by omega
  have hsk:=ax k (by omega)
  have hl1:=F7 s;have ha1:=L9 (acc:=acc) (x:=s) (by omega)
  rw [ai gy (t:=t24.heads[4]) rfl,aA (by omega:¬j < q.length)]
  simp [-Int.natCast_add,g4,g3,t24,zZ,hlt,hsk,hl1,ha1,ak,bM]
 |m+1,j,s,hj,hsl=>by
  have hjq:j < q.length:=by omega
  have hlt:((j:Int) < (q.length:Int)):=by omega
  have e1:au (aQ x) 1=rows encS x.subs:=rfl;have h5:=afO (nat:=nat) a b i x y k q j hjq x.subs[k] s out acc hxk hq (by omega) x.subs[k].length 0 false (by omega)
  have ih:=aec a b i x y k hk q out acc hxk hq hkx hac m (j+1) (cond (xO x.subs[k] q[j]) s (s++[q[j]])) (by omega) (by cases xO x.subs[k] q[j]<;>simp<;>omega)
  simp only [An,G1] at h5;rw [ih] at h5;have e:s++(q.drop j).filter (fun c=>!xO x.subs[k] c)=cond (xO x.subs[k] q[j]) s (s++[q[j]])++(q.drop (j+1)).filter fun c=>!xO x.subs[k] c:=by rw [drop_at hjq,List.filter_cons];cases xO x.subs[k] q[j]<;>simp
  rw [e,<-h5,ai gy (t:=t24.heads[4]) rfl];simp [-Int.natCast_add,g4,g5,t24,zZ,hlt,fE hjq,e1,jk hk,aa,bu,ak,bM,ah]
theorem aeB (a b:bH) (i:Nat) (hi:i < 100000) (x y:Cs) (hx:iK x) (hy:iK y) (hl:x.subs.length=y.subs.length) (out:List Cs) (ho:out.length < 100000):∀(m k:Nat) (acc:List (List cB)),k+m=x.subs.length->acc.length<=k->
  bn (T nat).G 24 3 (g3 a b i x y k out acc)=bn (T nat).G 24 2 (g2 a b (i+1) (out++[⟨x.tests,acc++ko (x.subs.drop k) (y.subs.drop k)⟩]))
 |0,k,acc,hk,hac=>by
  have hlt:¬((k:Int) < (x.subs.length:Int)):=by omega
  have hsi:=ax i (by omega)
  have hl2:=KH x.tests acc;have ha2:=Mg (acc:=out) (x:=⟨x.tests,acc⟩) (by omega)
  rw [ai gy (t:=t24.heads[3]) rfl,aA (by omega:¬k < x.subs.length)]
  simp [-Int.natCast_add,g3,g2,t24,zZ,hlt,hsi,hl2,ha2,ko,ak,bM]
 |m+1,k,acc,hk,hac=>by
  have hkx:k < x.subs.length:=by omega
  have oC:k < y.subs.length:=by omega
  have hlt:((k:Int) < (x.subs.length:Int)):=by omega
  have hxl:=hx.sl;have e1:au (aQ x) 1=rows encS x.subs:=rfl;have e2:au (aQ y) 1=rows encS y.subs:=rfl;have hxo:=hx.ok _ (A5 hkx);have Jr:=hy.ok _ (A5 oC);have hz:iO 13 208 (rows bu x.subs[k]) cz=some (rows bu x.subs[k]):=fe mg (by decide) (by simp only [aB];omega) (by simp only [aB];omega)
  have h4:=aec (nat:=nat) a b i x y k hkx y.subs[k] out acc hxo.1 Jr.1 (by omega) (by omega) y.subs[k].length 0 x.subs[k] (by omega) (by omega)
  have ih:=aeB a b i hi x y hx hy hl out ho m (k+1) (acc++[gY x.subs[k] y.subs[k]]) (by omega) (by simp;omega)
  simp only [An,<-CP] at h4;rw [ih] at h4;rw [drop_at hkx,drop_at oC,ko];rw [show acc++gY x.subs[k] y.subs[k]::ko (x.subs.drop (k+1)) (y.subs.drop (k+1))=acc++[gY x.subs[k] y.subs[k]]++ko (x.subs.drop (k+1)) (y.subs.drop (k+1)) by simp]
  rw [<-h4,ai gy (t:=t24.heads[3]) rfl];simp [-Int.natCast_add,g3,g4,t24,zZ,hlt,e1,e2,jk hkx,jk oC,hz,aa,ak,bM]
theorem ad2 (a b:bH) (h:okM a b) (hok:rq a.cases b.cases=true):∀(m i:Nat) (out:List Cs),i+m=a.cases.length->out.length<=i->
  bn (T nat).G 24 2 (g2 a b i out)=some ([.agg (aj (GK a b (out++uh (a.cases.drop i) (b.cases.drop i)))),.one (cb true)],[])
 |0,i,out,hi,ho=>by
  have hlt:¬((i:Int) < (a.cases.length:Int)):=by omega
  have hm:=OE a;have e:aj (GK a b out)=rows af (a.calls++b.calls)::rows bW (dX a.changed b.changed)::rows bW (dX a.fixed b.fixed)::([au (aj a) 3,au (aj a) 4,au (aj a) 5,au (aj a) 6,au (aj a) 7,au (aj a) 8,au (aj a) 9,au (aj a) 10,au (aj a) 11,au (aj a) 12,au (aj a) 13]++[rows aQ out,ci ((a.score:Int)+b.score)]):=by rw [hm];simp [aj,GK]
  rw [ai gy (t:=t24.heads[2]) rfl,aA (by omega:¬i < a.cases.length)]
  simp [-Int.natCast_add,g2,t24,zZ,hlt,uh,e,ak]
 |m+1,i,out,hi,ho=>by
  have hia:i < a.cases.length:=by omega
  have hib:i < b.cases.length:=by have:=h.len;omega
  have hlt:((i:Int) < (a.cases.length:Int)):=by omega
  have hkl:=h.oa.kl;have hx:=h.oa.ks _ (A5 hia);have hy:=h.ob.ks _ (A5 hib);have hra:=og hia;have hrb:=og hib;have ea:=bX a;have eb:=bX b;have htl:=hx.tl;have hz:iO 11 176 (rows af a.cases[i].tests) cz=some (rows af a.cases[i].tests):=fe ah (by decide) (by simp only [aB];omega) (by simp only [aB];omega)
  have hl:a.cases[i].subs.length=b.cases[i].subs.length:=FM a.cases b.cases hok i hia hib;have h3:=aeB (nat:=nat) a b i (by omega) a.cases[i] b.cases[i] hx hy hl out (by omega) a.cases[i].subs.length 0 [] (by omega) (by simp)
  have ih:=ad2 a b h hok m (i+1) (out++[Uu a.cases[i] b.cases[i]]) (by omega) (by simp;omega)
  simp only [An,D4] at h3;rw [show (⟨a.cases[i].tests,ko a.cases[i].subs b.cases[i].subs⟩:Cs)=Uu a.cases[i] b.cases[i] from rfl,ih] at h3
  have es:rows encS []=cz:=rfl;rw [drop_at hia,drop_at hib,uh];rw [show out++Uu a.cases[i] b.cases[i]::uh (a.cases.drop (i+1)) (b.cases.drop (i+1))=out++[Uu a.cases[i] b.cases[i]]++uh (a.cases.drop (i+1)) (b.cases.drop (i+1)) by simp]
  rw [<-h3,ai gy (t:=t24.heads[2]) rfl];simp [-Int.natCast_add,g2,g3,t24,zZ,hlt,ea,eb,hra,hrb,hz,aa,es,aQ,ak]
theorem x24 (a b:bH) (ha:kU a) (hb:kU b) (sa:a.score < 100000) (sb:b.score < 100000) (hch:a.changed.length < 50000/\b.changed.length < 50000) (hfx:a.fixed.length < 50000/\b.fixed.length < 50000) (hca:a.calls.length < 50000/\b.calls.length < 50000):
  bz (T nat).G 24 [.v (.agg (aj a)),.v (.agg (aj b))] []=some ((match merge a b with|none=>bT|some c=>[.agg (aj c),.one (cb true)]),[]):=by
 have h1:=x55 (nat:=nat) a.changed b.changed ha.ch hb.ch;have h2:=x55 (nat:=nat) a.changed b.fixed ha.ch hb.fx;have h3:=x55 (nat:=nat) b.changed a.fixed hb.ch ha.fx;have ea:=bX a;have eb:=bX b;rw [aG gy,merge,xe];cases hq1:apart a.changed b.changed<;>rw [hq1] at h1
 ·cases hq2:apart a.changed b.fixed<;>rw [hq2] at h2
  ·simp [t24,zZ,dU,fu,h1,h2,bT,ak]
  ·cases hq3:apart b.changed a.fixed<;>rw [hq3] at h3
   ·simp [t24,zZ,dU,fu,h1,h2,h3,bT,ak]
   ·by_cases hl:a.cases.length=b.cases.length
    ·have hle:((a.cases.length:Int)=(b.cases.length:Int)):=by omega
     have hp:=aey (nat:=nat) a b ⟨ha,hb,sa,sb,hl,hch,hfx,hca⟩ a.cases.length 0 (by omega)
     simp only [An] at hp;cases hq4:rq a.cases b.cases with
     |false=>
      rw [hq4] at hp;simp only [g0,dG,A6,E4] at hp;simp [t24,zZ,dU,fu,ea,eb,h1,h2,h3,aa,<-hl,hp,ak]
     |true=>
      have h2':=ad2 (nat:=nat) a b ⟨ha,hb,sa,sb,hl,hch,hfx,hca⟩ hq4 a.cases.length 0 [] (by omega) (by simp)
      rw [hq4,Fi,h2'] at hp;simp only [g0,dG,A6,An,D4] at hp;simp [t24,zZ,dU,fu,ea,eb,h1,h2,h3,aa,<-hl,hp,ak,GK]
    ·have hle:((a.cases.length:Int)==(b.cases.length:Int))=false:=C1.2 (by omega)
     simp [t24,zZ,dU,fu,ea,eb,h1,h2,h3,aa,hle,hl,bT,ak]
 ·simp [t24,zZ,dU,fu,h1,bT,ak]
end
end Go.Ey.Pr
set_option maxHeartbeats 4000000
namespace Go.Ey.Pr
open Go Go.Ey Go.Ey.Seat Go.RowKit Go.Proofs
theorem akA {nat:Nat->List V->Option (List V)} {a b:bH} {n m:Nat} (ha:okW n a) (hb:okW m b) (hn:n<=40000) (hm:m<=40000):bz (T nat).G 24 [.v (.agg (aj a)),.v (.agg (aj b))] []=some ((match merge a b with|none=>bT|some c=>[.agg (aj c),.one (cb true)]),[]):=
 x24 a b (ha.cd hn) (hb.cd hm) (by have:=ha.sc;omega) (by have:=hb.sc;omega) ⟨by have:=ha.ch;omega,by have:=hb.ch;omega⟩ ⟨by have:=ha.fx;omega,by have:=hb.fx;omega⟩ ⟨by have:=ha.ca;omega,by have:=hb.ca;omega⟩
theorem amY {nat:Nat->List V->Option (List V)} {a b:bH} (ha:Ck a) (hb:Ck b):bz (T nat).G 24 [.v (.agg (aj a)),.v (.agg (aj b))] []=some ((match merge a b with|none=>bT|some c=>[.agg (aj c),.one (cb true)]),[]):=akA ha.w hb.w (by omega) (by omega)
section
variable {nat:Nat->List V->Option (List V)}
theorem OA {acc l:List bH} (h:acc.length+l.length < 100000):iO 16 280 (rows aj l) (rows aj acc)=some (rows aj (acc++l)):=oD o9 (by decide) (by simp only [aB];omega) (by simp only [aB];omega)
theorem Jz (na:jq nat) (hn:nS nat) {w:C} (hw:RK Hr w) {P:bH->Prop} (hsg:U2 nat w P) (bs:List UInt8) (hb:bs.length<=80):∀(m i:Nat) (pos:Nat) (out:List bH),i+m=3->pos<=bs.length->out.length<=1000 * i->(∀x∈out,P x)->
  ∃l:List bH,bn (T nat).G 23 1 [.c (ci i),.c w,.l (bx bs pos),.c (rows aj out)]=some ([.one (rows aj l)],[])/\l.length<=3000/\∀x∈l,P x
 |0,i,pos,out,hi,hp,ho,hP=>by
  have hlt:¬((i:Int) < 3):=by omega
  refine ⟨out,?_,by omega,hP⟩
  rw [ai Di (t:=t23.heads[1]) rfl];simp [-Int.natCast_add,t23,zZ,hlt,mP]
 |m+1,i,pos,out,hi,hp,ho,hP=>by
  have hlt:((i:Int) < 3):=by omega
  have hs:=ax i (by omega)
  obtain ⟨c,p1,h11,hc,hp1⟩:=x11 na hn hw bs hb pos hp;obtain ⟨l,h15,hl,hlP⟩:=hsg c hc;have ha:=OA (acc:=out) (l:=l) (by omega)
  obtain ⟨r,g1,g2,g3⟩:=Jz na hn hw hsg bs hb m (i+1) p1 (out++l) (by omega) hp1 (by simp;omega) (fun x hx=>(Bx.1 hx).elim (hP x) (hlP x))
  refine ⟨r,?_,g2,g3⟩;rw [ai Di (t:=t23.heads[1]) rfl];simp [-Int.natCast_add,t23,zZ,hlt,h11,h15,ha,hs,g1,mP]
theorem x23 (na:jq nat) (hn:nS nat) {w:C} (hw:RK Hr w) (GG:bz (T nat).G 10 [.v (.one (.lit (.int .u32 0)))] []=some ([.one w],[])) {P:bH->Prop} (hsg:U2 nat w P) (bs:List UInt8) (hb:bs.length<=80):
  ∃l:List bH,bz (T nat).G 23 [.v (.one (rows wQ bs))] []=some ([.one (rows aj l)],[])/\l.length<=3000/\∀x∈l,P x:=by
 obtain ⟨c,p1,h11,hc,hp1⟩:=x11 na hn hw bs hb 0 (Ft _);obtain ⟨l,h15,hl,hlP⟩:=hsg c hc;have ha:iO 16 280 (rows aj l) cz=some (rows aj l):=OA (acc:=[]) (l:=l) (by simp;omega)
 obtain ⟨r,g1,g2,g3⟩:=Jz na hn hw hsg bs hb 2 1 p1 l (by omega) hp1 (by omega) hlP
 refine ⟨r,?_,g2,g3⟩;have hs:cZ .add false (ci 0) (ci 1)=some (ci 1):=eO (by omega) (by omega)
 have h0:bn (T nat).G 23 0 [.c cz,.c (ci 0),.c w,.l (bx bs 0)]=some ([.one (rows aj r)],[]):=by simp only [Mp] at g1;rw [ai Di (t:=t23.heads[0]) rfl];simp [t23,zZ,h11,h15,ha,hs,g1,mP]
 simp only [bx,A6] at h0;rw [aG Di];simp [t23,zZ,GG,h0]
end
end Go.Ey.Pr
set_option maxHeartbeats 4000000
namespace Go.Ey.Pr
open Go.Ey Go.Ey.Seat
theorem AL:∀a b:Ob,nZ a b=nZ b a
 |.num n d,b=>by cases b<;>simp [nZ,O2]
 |.sy p s,b=>by cases b<;>simp [nZ,O2]
 |.st t,b=>by cases b<;>simp [nZ,O2]
 |.cons a1 a2,b=>by
  cases b with
  |cons b1 b2=>simp only [nZ];rw [AL a1 b1,AL a2 b2]
  |_=>rfl
mutual
theorem Fb:∀a b:Tm,jb a b=jb b a
 |.var p s,b=>by cases b<;>simp [jb,O2]
 |.eG o,b=>by
  cases b with
  |eG o'=>simp only [jb];exact AL o o'
  |_=>simp [jb]
 |.app p s ts,b=>by
  cases b with
  |app p' s' ts'=>
   simp only [jb];rw [CR ts ts'];simp only [O2]
  |_=>simp [jb]
theorem CR:∀a b:List Tm,xB a b=xB b a
 |[],[]=>rfl
 |[],_::_=>rfl
 |_::_,[]=>rfl
 |x::a,y::b=>by simp only [xB];rw [Fb x y,CR a b]
end
def ZB (r s:List cB):Bool:=s.all fun a=>r.any fun b=>decide (b.v=a.v) && jb b.t a.t
theorem Td (r s:List cB):ZB r s=ext r s:=by simp only [ZB,ext,Fb,O2]
def jg:List cB->List cB->List cB
 |s,[]=>s
 |s,q::y=>jg (if (s.any fun p=>decide (p.v=q.v))=true then s else s++[q]) y
theorem o8:∀(y x z:List cB),(y.map cB.v).Nodup->(∀p∈z,p.v ∉ y.map cB.v)->jg (x++z) y=x++z++y.filter fun q=>!(x.any fun p=>decide (p.v=q.v))
 |[],x,z,_,_=>by simp [jg]
 |q::y,x,z,hn,hz=>by
  rw [Cp,K0] at hn;have hzq:(z.any fun p=>decide (p.v=q.v))=false:=by rw [List.any_eq_false];intro p hp hq;exact hz p hp (by rw [Cp];simp only [F1] at hq;rw [hq];exact Fm)
  have hz':∀p∈z,p.v ∉ y.map cB.v:=fun p hp h=>hz p hp (by rw [Cp];exact E2 _ h)
  rw [jg,List.any_append,hzq,Bool.or_false];cases hb:(x.any fun p=>decide (p.v=q.v)) with
  |true=>
   rw [C4 rfl,o8 y x z hn.2 hz',List.filter_cons_of_neg (by simp [hb])]
  |false=>
   rw [Dd (by simp),Bk,o8 y x (z++[q]) hn.2 (fun p hp=>by
    rcases Bx.1 hp with hp|hp
    ·exact hz' p hp
    ·simp only [By] at hp;subst hp;exact hn.1),List.filter_cons_of_pos (by simp [hb])]
   simp
theorem Cw (x:List cB) {y:List cB} (hn:(y.map cB.v).Nodup):jg x y=gY x y:=by
 have:=o8 y x [] hn (fun p h=>by cases h)
 simpa [gY] using this
end Go.Ey.Pr
