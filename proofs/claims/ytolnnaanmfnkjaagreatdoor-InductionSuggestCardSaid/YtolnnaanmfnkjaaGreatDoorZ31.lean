import Derived.Test.YtolnnaanmfnkjaaGreatDoorZ30
set_option linter.all false
set_option maxHeartbeats 0
set_option maxRecDepth 100000
namespace Go.Ey.Pr
open Rt Seat
section
variable {nat:Nat->List V->Option (List V)}
def t4:cB:=⟨[.one,.one,.one],[],sV 9 [] (vI 3 4 (vB (qE .gtr 5 60 (qX 6 qV [] (sV 10 [kP (.k (.int .u32 0))] (.call 17 [wW,pO 7,rU 4] [.lit [.v 0,uC]] (pV 37) [2] (uE 19 [rE ⟨#[120]⟩] (yE 1 [tV 0,tV 1,tV 2,tV 3,tV 4,tV 5,tV 6,tV 7,tV 8,tV 9,sM 10] (vK 18 (rE ⟨#[99,111,117,110,116]⟩) 11 (sV 20 [pO 7,tX [uU 0,uU 1,uU 2,uU 3,uU 4,uU 5,uU 6,uU 7,uU 8,uU 9,sM 8,uU 11,uU 12,uU 13,uU 14,uU 15,uU 16,uU 17,uU 18,uU 19,uU 20,uU 21,uU 22,uU 23,uU 24,uU 25,uB 0,uB 1,uB 2,uB 3,uB 4,uB 5,uB 6,uB 7,uB 8,uB 9,sM 12]] (pW 1 3 [oV ⟨#[120]⟩,oV ⟨#[121]⟩,oV ⟨#[122]⟩] (.dG (.conv .i64 (.v 1)) (qE .rem 15 3 (pG 1 14 16 (pG 1 14 16 (uE 19 [qL 18 0] (.dG (.conv .i64 (.v 2)) (qE .rem 20 3 (pG 1 14 21 (pG 1 14 21 (uE 19 [qL 23 0] (.dG (.bin .geq false (.v 2) (.k (.int .u8 128))) (jQ 25 (yE 1 [uY 0,uY 1,uY 2,uY 3,uY 4,uY 5,uY 6,uY 7,uY 8,uY 9,sM 24] (vK 18 sO 26 (yE 2 [vP 0,vP 1,vP 2,vP 3,vP 4,vP 5,vP 6,vP 7,vP 8,vP 9,sM 19,xQ 0,xQ 1,xQ 2,xQ 3,xQ 4,xQ 5,xQ 6,xQ 7,xQ 8,xQ 9,sM 27] (vK 21 (rE ⟨#[102]⟩) 28 (.call 22 [wW] (qF 9) (pV 11) [2] (yE 2 [yR 29,.n 29 1,.n 29 2,.n 29 3,.n 29 4,.n 29 5,.n 29 6,.n 29 7,.n 29 8,.n 29 9,sM 29,yR 30,.n 30 1,.n 30 2,.n 30 3,.n 30 4,.n 30 5,.n 30 6,.n 30 7,.n 30 8,.n 30 9,sM 30] (vK 18 vG 32 (yE 1 [yR 33,.n 33 1,.n 33 2,.n 33 3,.n 33 4,.n 33 5,.n 33 6,.n 33 7,.n 33 8,.n 33 9,sM 33] (sV 14 [pO 13,kP .z,pO 34] (sV 15 [pO 13,kP .z,pO 34] (qD 35 (qD 36 (yD 37 38 39 [] (qJ [yS,yL,rW])))))))))))))) (yE 2 [vP 0,vP 1,vP 2,vP 3,vP 4,vP 5,vP 6,vP 7,vP 8,vP 9,sM 19,uY 0,uY 1,uY 2,uY 3,uY 4,uY 5,uY 6,uY 7,uY 8,uY 9,sM 24] (vK 21 (rE ⟨#[102]⟩) 26 (.call 22 [wW] (qF 9) (pV 11) [2] (yE 2 [xQ 0,xQ 1,xQ 2,xQ 3,xQ 4,xQ 5,xQ 6,xQ 7,xQ 8,xQ 9,sM 27,yR 28,.n 28 1,.n 28 2,.n 28 3,.n 28 4,.n 28 5,.n 28 6,.n 28 7,.n 28 8,.n 28 9,sM 28] (vK 18 vG 30 (yE 1 [yR 31,.n 31 1,.n 31 2,.n 31 3,.n 31 4,.n 31 5,.n 31 6,.n 31 7,.n 31 8,.n 31 9,sM 31] (sV 14 [pO 13,kP .z,pO 32] (sV 15 [pO 13,kP .z,pO 32] (qD 33 (qD 34 (yD 35 36 37 [] (qJ [vV,xH,rW]))))))))))))))))))))))))))))))))))),[vW 2 3 4 (yB 2 (tL 1 2 (uM 16 5 6 (vJ 7 8 2 0 [qU,rR,uD])))) qV]⟩
def t5:cB:=⟨xP,[],sV 9 [] (vI 1 2 (vB (qE .gtr 3 60 (qX 4 qV [] (sV 23 (wB 0) (qJ [uH,rW])))))),[vW 1 2 3 (xX 1 6 (xI 4 (uI [qU,rR,rW]) qV)) qV,xU 2 3 4 (xX 2 6 (jQ 5 (yB 1 (yB 2 (oU 24 (tQ 6 7) [yF,none] [] (yB 1 (yB 2 (oU 25 (tQ 10 11) [yF,none] [] (.dG (.bin .neq true (.v 9) (.v 13)) (xK 14 [] (uM 16 8 12 (vI 15 16 (yB 1 (yB 2 (uM 26 17 18 (yB 1 (yB 2 (uM 27 20 21 (.dG (.bin .neq true (.v 19) (.v 22)) (xK 23 [] (rZ 2 1 [qU,rR,vS]))))))))))))))))))) (xN 1 [qU,uG]))) (xN 1 [qU,uH])]⟩
def t14:cB:=⟨[.one,.one,.one],[],sV 42 (wB 2) (qD 3 (qJ [qU,rR,uS,uN,rW,rM])),[rY 4 3 6 (xJ 2 4 (rH .neq 7 0 (jJ 3) (wX 8 4 0 [qU,rR,tJ,uS,uD,uH] (oU 43 [pO 0,pO 1,pM 7] [yF,none] [] (jQ 10 (pW 16 1 [uR 0,uR 1,uR 2,uR 3,uR 4,uR 5,uR 6,uR 7,uR 8,uR 9,sM 9,uR 11,uR 12,uR 13,uR 14,uR 15] (tH 16 280 5 11 (xN 4 [qU,rR,tJ,uS,sK,sD]))) (xN 4 [qU,rR,tJ,uS,rQ,uH])))))) (qH 5)]⟩
theorem Nb:(T nat).G.fn 14=some t14:=by kernel_rfl
def t15:cB:=⟨[.one,.one,.one],[],sV 44 (wB 2) (qJ [qU,rR,uS,rW,rM]),[qD 2 (rY 3 5 6 (xJ 2 3 (rH .neq 7 0 (jJ 3) (wX 8 3 0 [qU,rR,tJ,uD,uN] (xJ 2 3 (oU 45 [pO 0,pO 1,pM 9] [yF,none] [] (jQ 11 (pW 16 1 [tV 0,tV 1,tV 2,tV 3,tV 4,tV 5,tV 6,tV 7,tV 8,tV 9,sM 10,tV 11,tV 12,tV 13,tV 14,tV 15] (tH 16 280 4 12 (xN 3 [qU,rR,tJ,sS,sK]))) (xN 3 [qU,rR,tJ,sD,uN]))))))) (qH 4))]⟩
theorem Nf:(T nat).G.fn 15=some t15:=by kernel_rfl
def t16:cB:=⟨uX 16 16,[],yQ .neq 0 15 15 (xK 2 [] (yZ 0 (yZ 1 (yD 3 4 5 [] (qJ (wV rW 0 1)))))),[yZ 1 (qC 0 3 4 (qY 2 1 14 0 (qY 2 2 14 0 (uM 46 5 6 (vJ 7 8 0 0 (wV uD 1 2))))) (sV 47 (wS 1 0 2 0) (xI 5 (sV 48 (wS 1 1 2 1) (xI 6 (sV 48 (wS 1 2 2 2) (xI 7 (sV 49 [tX [wH 3,wH 4,wH 5,wH 6,wH 7,wH 8,wH 9,sM 1,wH 11,wH 12,wH 13],tX [.n 2 3,.n 2 4,.n 2 5,.n 2 6,.n 2 7,.n 2 8,.n 2 9,sM 2,.n 2 11,.n 2 12,.n 2 13]] (uW 8)) pF)) pF)) pF)))]⟩
theorem Yn:(T nat).G.fn 16=some t16:=by kernel_rfl
def t46:cB:=⟨uX 2 2,[],sV 47 (wS 0 0 1 0) (vI 2 3 (qO 0 1 (qO 1 1 (yD 4 5 6 [] (qJ (wV rW 0 1)))))),[qO 1 1 (rY 0 3 4 (qY 1 1 1 0 (qY 1 2 1 0 (sV 124 (wS 5 0 6 0) (vJ 7 8 0 0 (wV uD 1 2))))) qV)]⟩
theorem YN:(T nat).G.fn 46=some t46:=by kernel_rfl
def t47:cB:=⟨vM,[],zF 1 (yD 2 3 4 [] (qJ [qU,rR,rW])),[vW 2 3 4 (xJ 0 2 (xJ 1 2 (uM 49 5 6 (vJ 7 8 2 0 [qU,rR,uD])))) qV]⟩
theorem XI:(T nat).G.fn 47=some t47:=by kernel_rfl
def t48:cB:=⟨vM,[],zF 1 (yD 2 3 4 [] (qJ [qU,rR,rW])),[vW 2 3 4 (pG 2 0 2 (pG 2 1 2 (pU (yJ [1,1] true 5 (.all 6)) 7 (rX pF) (xN 2 [qU,rR,uP])))) qV]⟩
theorem Yk:(T nat).G.fn 48=some t48:=by kernel_rfl
def t59:cB:=⟨vM,[],qJ [qU,rR,rW],[vW 2 3 4 (pG 2 0 2 (zB 65 1 5 (qX 6 qV [] (xN 2 [qU,rR,uO])))) pF]⟩
theorem Xq:(T nat).G.fn 59=some t59:=by kernel_rfl
def t65:cB:=⟨vO 2,[],qJ [qU,rW,lI 1],[vW 1 3 4 (pG 2 0 1 (pU (yJ [1,1] false 5 (.all 2)) 6 (rX qV) (xN 1 [qU,uO,lI 2]))) pF]⟩
theorem X0:(T nat).G.fn 65=some t65:=by kernel_rfl
def t70:cB:=⟨xP,[],qJ [qU,rW],[xU 1 2 3 (rZ 1 1 [qU,rR,uN]) (sI [qH 0,pF]),xU 2 3 4 (yB 1 (yB 2 (oU 25 (tQ 5 6) [yF,none] [] (qP 8 9 (rZ 2 1 [qU,rR,rP]) (yX 16 (.v 0) none (uQ 1) (pY 16 280 .z (.v 10) (pW 16 1 [wL 0,wL 1,wL 2,wL 3,wL 4,wL 5,wL 6,wL 7,wL 8,wL 9,sM 7,wL 11,wL 12,wL 13,wL 14,wL 15] (tH 16 280 11 12 (qE .add 1 1 (yX 16 (.v 0) (uQ 14) (uQ 2) (tH 16 280 13 15 (qE .add 2 1 (yX 16 (.v 0) (uQ 17) none (tH 16 280 16 18 (sI [qH 19,qV]))))))))))))))) (xN 1 [qU,uH])]⟩
def t74:cB:=⟨yG 11,[],xA 0 0 1 (jQ 2 (qD 1 (qJ [rR,uS,rW,lI 0,.l (.lit [.v 1]),rW,qQ,qQ,rW,qQ,qQ,qQ,qQ,qQ,rM,rM])) (.call 364 [pM 0,wW] [.lit [.v 1]] (pV 11) [1] (yO 3))),[qC 2 1 16 (yA 0 2 (pU (xM [1,1] [yR 17,.n 17 1] [.n 3 1,.n 3 2]) 18 (wJ [.n 17 2,.n 17 3,.n 17 4,.n 17 5,.n 17 6,.n 17 7,.n 17 8,.n 17 9,sM 17,.n 17 11,.n 17 12]) (xN 2 [qU,rR,uL,yN,lI 4,uH,uG,uO,uP,uD,rP,rQ,sD,sK,sS,sP]))) (.call 364 [pM 3,wW] (qF 4) (pV 11) [1] (yO 17))]⟩
theorem Y1:(T nat).G.fn 74=some t74:=by kernel_rfl
def t75:cB:=⟨xP,[],vB (rD 1 0 2 (tZ 137 [] 7 (yC 94 3 (yO 4))) (vB (rD 3 1 4 (.row 11 (.v 0) uC (yO 5)) (.row 11 (.v 0) uC (tZ 95 [] 7 (yC 94 6 (yX 11 (.v 0) (zC 1) none (uE 75 (wB 8) (yE 3 [yR 5,.n 5 1,.n 5 2,.n 5 3,.n 5 4,.n 5 5,.n 5 6,.n 5 7,.n 5 8,.n 5 9,sM 5,wL 0,wL 1,wL 2,wL 3,wL 4,wL 5,wL 6,wL 7,wL 8,wL 9,sM 7,uR 0,uR 1,uR 2,uR 3,uR 4,uR 5,uR 6,uR 7,uR 8,uR 9,sM 9] (vK 52 (rE ⟨#[105,102]⟩) 10 (yO 11))))))))))),[]⟩
def t77:cB:=⟨yG 11,[],xA 0 0 1 (jQ 2 (oU 138 [pO 1,tX [tT 1,tT 2]] [some 11,none] [] (jQ 4 (yO 3) (yO 0))) (xA 0 0 3 (jQ 3 (xL 139 (qL 0 10) 1 (vK 54 (tX [tT 1,tT 2]) 4 (yO 5))) (yO 0)))),[]⟩
theorem aly:(T nat).G.fn 77=some t77:=by kernel_rfl
def t90:cB:=⟨xP,[],qJ [qU,rW,rM],[vW 1 3 4 (xJ 0 1 (xA 5 0 1 (jQ 6 (xJ 0 1 (pW 2 1 [wL 1,wL 2] (uI [qU,rR,rW,tJ,uP]))) (xJ 0 1 (sV 150 (wT 7) (sV 90 (wB 8) (xV [qU,rR,uD,rW,tJ]))))))) (qH 2),qD 4 (qC 2 5 6 (pG 2 4 2 (pG 2 4 2 (zB 151 3 8 (qP 9 10 (pG 2 4 2 (pG 2 4 2 (pW 2 1 [uB 0,uB 1] (tH 2 32 3 13 (rZ 2 1 [qU,rR,sP,sS,uN]))))) (rZ 2 1 [qU,rR,rQ,uS,uN]))))) (xN 1 [qU,uO,uS])),qD 2 (qC 3 5 6 (pG 2 2 3 (zB 151 4 7 (qP 8 9 (pG 2 2 3 (pW 2 1 [tV 0,tV 1] (tH 2 32 4 11 (rZ 3 2 [qU,rR,tJ,sK,sD])))) (rZ 3 2 [qU,rR,tJ,rP,uN])))) (xN 1 [qU,uO,uN]))]⟩
theorem Cu:(T nat).G.fn 90=some t90:=by kernel_rfl
def t92:cB:=⟨[.agg 11,.one,.one],[],xA 0 0 3 (xI 3 (tZ 80 (wB 1) 2 (pU (wE [1,1] [tT 1,tT 2] (.all 4)) 5 (qO 0 10 (pR .eql 6 2 (uW 7))) (rX pF))) pF),[]⟩
theorem amX:(T nat).G.fn 92=some t92:=by kernel_rfl
def t111:cB:=⟨vO 2,[],wY [qU,tJ,rW,lI 1],[rY 2 1 4 (pG 2 0 2 (pU (yJ [1,1] false 5 (.all 3)) 6 (rX qV) (xN 2 [qU,rR,uO,yN]))) pF]⟩
theorem Ro:(T nat).G.fn 111=some t111:=by kernel_rfl
def t117:cB:=⟨uZ 11,[],qJ [lI 0,rW,qQ,qQ,rW,qQ,qQ,qQ,qQ,qQ,rM,rM],[sV 172 [pM 0,sO,rU 1] (jQ 12 (.row 11 (sM 0) uC (sV 172 [pM 13,sO,rU 1] (jQ 14 (.row 11 (sM 0) uC (.row 11 (sM 15) uC (qJ [lI 16,rR,tJ,uS,uN,uH,uG,uO,uP,uD,rP,rQ]))) (yO 0)))) (yO 0))]⟩
theorem L8:(T nat).G.fn 117=some t117:=by kernel_rfl
def t118:cB:=⟨vM,[],wY [rR,qU,tJ,rW],[rY 3 2 4 (pG 1 1 3 (xL 173 (qL 5 0) 0 (qX 6 qV [] (xN 3 [qU,rR,tJ,uO])))) pF]⟩
theorem Sa:(T nat).G.fn 118=some t118:=by kernel_rfl
def t122:cB:=⟨yG 37,[],qO 0 2 (.dG (.mk 1 1 [.bool false] (.v 2) (.v 2)) (qJ [rR,rW,lI 0,uS])),[vW 1 4 5 (uI [qU,rR,rW,lI 2,uS]) (qH 3),pG 2 0 1 (qO 5 1 (qC 2 6 7 (pG 2 0 1 (qY 1 8 1 2 (xV [qU,rR,tJ,qW 9 0,rW,yN,uN]))) (xN 1 [qU,uP,yN,uN]))),qO 5 2 (qC 4 7 8 (qY 2 5 2 4 (yC 53 9 (vK 77 (pM 10) 3 (pG 1 6 4 (pG 1 6 4 (.ite (uJ 0) (pG 1 6 4 (.dG (.set 1 (.v 6) (.v 4) 0 [nU true]) (rZ 4 2 [qU,rR,tJ,uS,sU,lI 5,sP]))) (qY 2 5 2 4 (yC 53 14 (uM 49 11 15 (.dG (.un .not (.v 16)) (pG 1 6 4 (.dG (.set 1 (.v 6) (.v 4) 0 [.v 17]) (rZ 4 2 [qU,rR,tJ,uS,uV,lI 5,uL]))))))))))))) (rZ 2 1 [qU,rR,uD,lI 5,uG]))]⟩
theorem Co:(T nat).G.fn 122=some t122:=by kernel_rfl
def t123:cB:=⟨vM,[],qJ [qU,rR,rW],[qD 1 (rY 2 3 4 (uI [qU,rR,tJ,wK,rW]) qV),xU 4 5 6 (qP 3 7 (yA 0 4 (yA 1 2 (pU (xM [1,1] [uU 0,uU 1] [uR 0,uR 1]) 10 (yA 0 4 (yA 1 2 (sV 49 [tX [.n 11 2,.n 11 3,.n 11 4,.n 11 5,.n 11 6,.n 11 7,.n 11 8,.n 11 9,sM 11,.n 11 11,.n 11 12],tX [uB 2,uB 3,uB 4,uB 5,uB 6,uB 7,uB 8,uB 9,sM 12,uB 11,uB 12]] (rZ 4 1 [qU,rR,tJ,sK,sS])))) (rZ 4 1 [qU,rR,tJ,wK,rQ])))) (vJ 3 8 2 0 [qU,rR,uD])) (vJ 3 7 2 0 [qU,rR,uP])]⟩
theorem Fb:(T nat).G.fn 123=some t123:=by kernel_rfl
def t131:cB:=⟨xP,[],jQ 0 (tZ 179 [] 7 (yC 178 1 (yO 2))) (tZ 180 [] 7 (yC 178 1 (yO 2))),[]⟩
def t136:cB:=⟨[.agg 11,.ref 0 0],[1],uA 74 [pM 0,qL 1 0] 11 2 1,[]⟩
theorem agB:(T nat).G.fn 136=some t136:=by kernel_rfl
def t138:cB:=⟨vO 2,[],qJ [qU,rW,lI 1,rW,qQ,qQ,rW,qQ,qQ,qQ,qQ,qQ,rM,rM],[xU 1 14 15 (yA 0 1 (pU (wE [1,1] [yR 16,.n 16 1] (.all 2)) 17 (yA 0 1 (sI [pQ [.n 18 2,.n 18 3,.n 18 4,.n 18 5,.n 18 6,.n 18 7,.n 18 8,.n 18 9,sM 18,.n 18 11,.n 18 12],qV])) (xN 1 [qU,tF,lI 2,uS,uN,uH,uG,uO,uP,uD,rP,rQ,sD,sK]))) (sI [pQ [uC,pE,pE,uC,pE,pE,pE,pE,pE,.z,.z],pF])]⟩
theorem SN:(T nat).G.fn 138=some t138:=by kernel_rfl
def t139:cB:=⟨vM,[],qJ [qU,rR,rW,rM],[vW 2 4 5 (xJ 0 2 (vK 77 (pM 6) 1 (yE 1 [wL 0,wL 1,wL 2,wL 3,wL 4,wL 5,wL 6,wL 7,wL 8,wL 9,sM 7] (tH 11 176 3 8 (xN 2 [qU,rR,rP,uD]))))) (qH 3)]⟩
theorem Tx:(T nat).G.fn 139=some t139:=by kernel_rfl
def t150:cB:=⟨uZ 11,[],rH .neq 0 0 (jJ 3) (vF 1 .z [] (rX (.one (sM 0)))),[]⟩
theorem Z4:(T nat).G.fn 150=some t150:=by kernel_rfl
def t151:cB:=⟨vO 2,[],qJ [qU,rW,lI 1],[vW 1 3 4 (pG 2 0 1 (pU (yJ [1,1] false 5 (.all 2)) 6 (rX qV) (xN 1 [qU,uO,lI 2]))) pF]⟩
theorem TK:(T nat).G.fn 151=some t151:=by kernel_rfl
def t173:cB:=⟨vM,[],zF 1 (yD 2 3 4 [] (wY [qU,rR,uH,rW])),[rY 3 2 4 (yA 0 3 (yA 1 3 (pU (.eqs [1,1] true (.lit [yR 5,.n 5 1]) (.lit [yR 6,.n 6 1])) 7 (rX pF) (yA 0 3 (yA 1 3 (sV 114 [tX [uU 2,uU 3,uU 4,uU 5,uU 6,uU 7,uU 8,uU 9,sM 8,uU 11,uU 12],tX [uR 2,uR 3,uR 4,uR 5,uR 6,uR 7,uR 8,uR 9,sM 9,uR 11,uR 12]] (vJ 10 11 3 0 [qU,rR,tJ,sD]))))))) qV]⟩
theorem Tn:(T nat).G.fn 173=some t173:=by kernel_rfl
def t21:cB:=⟨vM,[],tZ 13 (wB 0) 2 (vK 54 (pM 2) 1 (yO 3)),[]⟩
end
end Go.Ey.Pr
namespace Go.Ey.Pr
open Seat
abbrev Sm:=ByteArray×ByteArray
structure cu where
 v:Sm
 t:Tm
structure Cs where
 tests:List Tm
 subs:List (List cu)
structure gX where
 calls:List Tm
 changed:List Sm
 fixed:List Sm
 cases:List Cs
 measure:Tm
 score:Nat
def agh (l:List Sm) (s:Sm):Bool:=l.any fun x=>decide (x=s)
def apart (a b:List Sm):Bool:=a.all fun s=>!agh b s
def ext (r s:List cu):Bool:=s.all fun a=>r.any fun b=>decide (a.v=b.v) && nR a.t b.t
def Xr:List Sm->List Sm->List Sm
 |a,[]=>a
 |a,s::b=>Xr (if agh a s then a else a++[s]) b
theorem acP {l:List Sm} {s:Sm}:agh l s=true↔s∈l:=by simp [agh]
theorem ab5 {a b:List Sm}:apart a b=true↔∀s∈a,s ∉ b:=by simp only [apart,D0,L1,<-Bool.not_eq_true,acP]
end Go.Ey.Pr
namespace Go.Proofs
open RowKit Ey Ey.Pr Ey.Seat
def ar0:Nat->List V->Option (List V):=fun _ _=>none
theorem Wz (nat:Nat->List V->Option (List V)):(T nat).P.funcs.all (fun fn=>!(fn.name== "runtime.NumGoroutine"))=true:=by kernel_rfl
theorem ajy:(T ar0).OK:=⟨fun _ _ _=>rfl,(fun _ _ _ h=>by cases h),Wz _,Tryz.mixed⟩
theorem aqi {a b:Tm} (hg:CW a) (hn:ah a<=3000):nY PP 49 [.agg (aa a),.agg (aa b)] [.one (cb (nR a b))]:=ajy.fn (by kernel_rfl) (x49 hg hn b)
theorem Tryz.wEq {B:Nat} {a b:Tm} {us vs:List Value} {w:World} (hg:CW a) (hn:ah a<=3000) (hk:keeps.Inv w.heap.size w) (hu:Ey.av (RB w B) (aa a) us) (hv:Ey.av (RB w B) (aa b) vs):
  Calls Tryz.prog 49 #[.agg us.toArray,.agg vs.toArray] w fun e w'=>e=.returned (.bool (nR a b))/\Below w.heap.size w w':=by
 refine ((aqi hg hn).2 (fun k _=>k < B) w [.agg us.toArray,.agg vs.toArray] hk ⟨⟨us,rfl,hu⟩,⟨vs,rfl,hv⟩,trivial⟩).mono ?_
 rintro e w' ⟨v,rfl,hr,hb⟩;have:v=.bool (nR a b):=hr.1
 subst this;exact ⟨rfl,hb⟩
theorem JE {l:List Tm} {k:Nat} {x t:Tm} (h:l[k]?=some x):memT (l.take (k+1)) t=(memT (l.take k) t||nR x t):=by rw [List.take_add_one,h];simp [memT]
theorem Cv {l:List Tm} {k:Nat} {t:Tm} (h:memT (l.take k) t=true):memT l t=true:=by simp only [memT,Ix] at h |-;obtain ⟨x,hx,h2⟩:=h;exact ⟨x,Hs hx,h2⟩
theorem fC (B:Nat) (w:World):Below B w ({ heap:=w.heap,tape:=w.tape,drawn:=w.drawn+1,os:=w.os,output:=w.output}:World):=⟨rfl,rfl,rfl,An _,fun _ _=>rfl⟩
def Gq (t:Tm):Prop:=CW t/\ah t<=3000
theorem zf {p s:ByteArray} {ts:List Tm} (h:Gq (.app p s ts)):∀x∈ts,Gq x:=fun x hx=>by
 have h1:∀(l:List Tm),x∈l->ah x<=au l:=fun l=>by
  induction l with
  |nil=>simp
  |cons y l ih=>
   intro hm;simp only [au];rcases D2.1 hm with rfl|hm
   ·omega
   ·have:=ih hm;omega
 have h2:=h1 ts hx;have h3:=h.2;simp only [ah] at h3;exact ⟨by cases h.1 with|app hg=>exact hg x hx,by omega⟩
theorem IG {l:List Tm} {t:Tm} (hl:∀x∈l,Gq x) (ht:Gq t):∀x∈l++[t],Gq x:=fun x hx=>by
 rcases B0.1 hx with h|h
 ·exact hl x h
 ·obtain rfl:x=t:=by simpa using h
  exact ht
mutual
theorem aiA:∀{t:Tm} {l:List Tm},(∀x∈l,Gq x)->Gq t->∀x∈lg l t,Gq x
 |.var p s,l,hl,ht=>by
  rw [lg];cases memT l (.var p s) with
  |true=>exact hl
  |false=>exact IG hl ht
 |.dV o,l,hl,ht=>by
  rw [lg];cases memT l (.dV o) with
  |true=>exact hl
  |false=>exact IG hl ht
 |.app p s ts,l,hl,ht=>by
  rw [lg];refine Bo ?_ (zf ht);cases memT l (.app p s ts) with
  |true=>exact hl
  |false=>exact IG hl ht
theorem Bo:∀{ts l:List Tm},(∀x∈l,Gq x)->(∀x∈ts,Gq x)->∀x∈fG l ts,Gq x
 |[],l,hl,_=>by rw [fG];exact hl
 |t::ts,l,hl,ht=>by rw [fG];exact Bo (aiA hl (ht t (by simp))) fun x hx=>ht x (by simp [hx])
end
mutual
theorem adE:∀(t:Tm) (l:List Tm),(lg l t).length<=l.length+ah t
 |.var p s,l=>by rw [lg,ah];cases memT l (.var p s)<;>simp
 |.dV o,l=>by
  have:=BX o
  rw [lg,ah];cases memT l (.dV o)<;>simp
  omega
 |.app p s ts,l=>by rw [lg,ah];refine E1 (rT ts _) ?_;cases memT l (.app p s ts)<;>simp<;>omega
theorem rT:∀(ts l:List Tm),(fG l ts).length<=l.length+au ts
 |[],l=>by simp [fG,au]
 |t::ts,l=>by rw [fG,au];have h1:=rT ts (lg l t);have h2:=adE t l;omega
end
theorem Ab:∀(ts l:List Tm) (t:Tm),fG l (ts++[t])=lg (fG l ts) t
 |[],l,t=>by simp [fG]
 |x::ts,l,t=>by simp only [E3,fG];exact Ab ts _ t
theorem oI:∀(a b:List Tm),au (a++b)=au a+au b
 |[],b=>by simp [au]
 |x::a,b=>by simp only [E3,au,oI a b];omega
theorem lZ:∀ts:List Tm,ts.length<=au ts
 |[]=>by simp [au]
 |t::ts=>by have:=lZ ts;have:=dY t;simp only [au,C5];omega
theorem jD {l:List Tm} {k:Nat} {x:Tm} (h:l[k]?=some x):l.take (k+1)=l.take k++[x]:=by rw [List.take_add_one,h];rfl
theorem mg {l:List Tm} {k:Nat} {x:Tm} (h:l[k]?=some x):au (l.take k)+ah x<=au l:=by
 have e:=Iv (k+1) l;have h1:au l=au (l.take (k+1))+au (l.drop (k+1)):=by rw [<-oI,e]
 rw [jD h,oI] at h1;simp only [au] at h1;omega
def Oi (B:Nat) (S:Nat->Nat->Prop) (t:Tm):Prop:=∀(v:Value) (l:List Tm) (us:List Value) (w:World),gB B S v l w->keeps.Inv B w->(∀x∈l,Gq x)->Gq t->l.length+ah t<=100000->Ey.av (RQ w B S) (aa t) us->
    Calls Tryz.prog 119 #[v,.agg us.toArray] w fun e w'=>∃v',e=.returned v'/\gB B S v' (lg l t) w'/\SK v v' w w'
theorem Oi.use {B:Nat} {S:Nat->Nat->Prop} {t:Tm} (h:Oi B S t) {v:Value} {l:List Tm} {us:List Value} {w:World} (h1:gB B S v l w) (h2:keeps.Inv B w) (h3:∀x∈l,Gq x) (h4:Gq t) (h5:l.length+ah t<=100000) (h6:Ey.av (RQ w B S) (aa t) us):
  Calls Tryz.prog 119 #[v,.agg us.toArray] w fun e w'=>∃v',e=.returned v'/\gB B S v' (lg l t) w'/\SK v v' w w':=h v l us w h1 h2 h3 h4 h5 h6
structure su (B:Nat) (S:Nat->Nat->Prop) (ts:List Tm) (q:Option Addr) (w:World):Prop where
 at':0 < ts.length->∃bk o vs,q=some ⟨bk,o,none⟩/\Ey.av (RQ w B S) (eZ ts) vs/\Row w B bk o vs
theorem argsAt {B:Nat} {S:Nat->Nat->Prop} {ts:List Tm} {q:Option Addr} {m d:Nat} {w:World} (h:RQ w B S (.slice (eZ ts) ts.length) (.slice q m d)):m=ts.length/\su B S ts q w:=by
 rcases h with ⟨e,h0,_⟩|⟨a,cap,e,hcap,hsp,hcells⟩
 ·injection e with e1 e2 e3;exact ⟨by omega,⟨fun hp=>by omega⟩⟩
 ·injection e with e1 e2 e3;subst e1;refine ⟨e2,⟨fun hp=>?_⟩⟩
  obtain ⟨bk,o,sp⟩:=a;have Tk:sp=none:=hsp (by
   intro e;cases ts with
   |nil=>simp at hp
   |cons t ts=>have:=E6 List.length e;simp [eZ,af] at this)
  subst Tk;obtain ⟨vs,hv1,hv2⟩:=aex hcells;exact ⟨bk,o,vs,rfl,hv1,hv2⟩
theorem su.get {B:Nat} {S:Nat->Nat->Prop} {ts:List Tm} {q:Option Addr} {w w':World} (h:su B S ts q w) (hb:Below B w w') {k:Nat} {x:Tm} (hk:ts[k]?=some x):
  ∃bk o us,q=some ⟨bk,o,none⟩/\Ey.av (RQ w' B S) (aa x) us/\∀j u,us[j]?=some u->w'.cell? ⟨bk,o+(k * 11+j),none⟩=some u:=by
 obtain ⟨bk,o,vs,rfl,h1,h2⟩:=h.at' (by have:=(As.1 hk).1;omega)
 obtain ⟨us,_,e2,e3⟩:=JD h1 hk;exact ⟨bk,o,us,rfl,qx.keep hb e2,fun j u hj=>(h2.keep hb).cell _ _ (e3 j u hj)⟩
theorem Tryz.akZ (B:Nat) (S:Nat->Nat->Prop) (p s:ByteArray):Oi B S (.var p s):=by
 intro v l us w hr hk hl hok hsz hu;have hu0:=hu;obtain ⟨k0,k1,k2,k3,k4,k5,k6,k7,k8,kp,kl,kc,kq,km,kd,rfl⟩:=bL (qx.rb hu);obtain rfl:k0=1:=by (have:=(RQ.rb hu.1).i;simpa using this)
 obtain ⟨ao,cap,rfl,hao⟩:=hr.shape;obtain ⟨w1,hw1⟩:∃w1,w1=w.alloc (.cells #[.int .i64 1,.string k1,.string k2,.int .i64 k3,.string k4,.string k5,.string k6,.string k7,.string k8,.slice kp kl kc,.slice kq km kd] 44):=⟨_,rfl⟩;have b1:Below w.heap.size w w1:=by rw [hw1];exact (Below.refl _ w).alloc (An _) _
 have hs1:w1.heap.size=w.heap.size+1:=by rw [hw1];simp
 have hc:w1.heap[w.heap.size]?=some (.cells #[.int .i64 1,.string k1,.string k2,.int .i64 k3,.string k4,.string k5,.string k6,.string k7,.string k8,.slice kp kl kc,.slice kq km kd] 44):=by
  rw [hw1];show (w.heap.push _)[w.heap.size]?=_
  simp
 have hn:l.length<=100000:=by omega
 go_enter Tryz.func119,Tryz.ntmps119;go_wp2;rw [<-hw1];go_loopw [5,6] (fun fd i wr=>∃k:Nat,k<=l.length/\i=.int .i64 k/\fd=.bool (memT (l.take k) (.var p s))/\Below w1.heap.size w1 wr) (fun _ i _=>l.length - (intOf i).toNat)
 case atStart=>exact ⟨0,Fl _,rfl,rfl,Below.refl _ _⟩
 case round=>
  obtain ⟨k,hkl,rfl,rfl,hb⟩:=hrel;have hrw:=hr.kept (b1.trans (hb.mono b1.size));have hbB:Below B w wr:=(b1.trans (hb.mono b1.size)).mono hr.le;have hcb:∀j:Nat,wr.cell? ⟨w.heap.size,j,none⟩=w1.cell? ⟨w.heap.size,j,none⟩:=fun j=>hb.cell (show w.heap.size < w1.heap.size by omega)
  obtain ⟨hc0,hc1,hc2,hc3,hc4,hc5,hc6,hc7,hc8,hc9,abf⟩:=ahP hcb hc;clear hcb;by_cases hx:k < l.length
  ·obtain ⟨x,hxk⟩:∃x,l[k]?=some x:=⟨_,A6 hx⟩;obtain ⟨g,rfl⟩:=hao (by omega)
   cases hM:memT (l.take k) (.var p s) with
   |false=>
    obtain ⟨us,Wv,hcx⟩:=hrw.get hxk;obtain ⟨x0,x1,x2,x3,x4,x5,x6,x7,x8,xp,xl,xc,xq,xm,xd,rfl⟩:=bL (qx.rb Wv);obtain ⟨f0,f1,f2,f3,f4,f5,f6,f7,f8,f9,f10⟩:=(c11 (o:=k * 11) hcx);clear hcx;have hx0:=hl x (C3 hxk);have hinv:keeps.Inv wr.heap.size wr:=keeps.mono hrw.le (keeps.keep hbB hk);have hinv':=keeps.keep (fC _ wr) hinv;have ce:=Tryz.wEq (B:=B) hx0.1 hx0.2 hinv' (qx.rb (qx.keep (fC B wr) Wv)) (qx.rb (qx.keep (fC B wr) (qx.keep hbB hu0)));go_wp2;go_still_tail 5,Tryz.mixed;go_wp2_with (go_at_call 49;refine ce.mono ?_);rintro e w2 ⟨rfl,hb2⟩;go_wp2;go_roundw
    case rel=>exact ⟨k+1,by omega,by simp,by rw [JE hxk,hM,L2],hb.trans ((fC _ wr).trans (hb2.mono hb.size))⟩
    case measure=>simp [intOf];omega
   |true=>
    have hM:=Cv hM;go_wp2;go_ret;refine ⟨_,rfl,?_,(SK.dJ b1).trans (SK.dJ hb)⟩;rw [lg,hM];exact hrw
  ·obtain rfl:k=l.length:=by omega
   rw [Ge];cases hM:memT l (.var p s) with
   |true=>
    go_wp2;go_ret;refine ⟨_,rfl,?_,(SK.dJ b1).trans (SK.dJ hb)⟩;rw [lg,hM];exact hrw
   |false=>
    obtain ⟨i0,hi,hz0,hz1,hz2⟩:=info_parts Tryz.J8;obtain ⟨xs,ho,hxs⟩:=hrw.row;have U1:=hb.block w.heap.size (by omega)
    rw [hc] at U1;go_wp2_with (first
     |(at_builtin;refine wpList_append_lies _ rfl _ _ 27 rfl B 44 i0 _ 11 176 Tryz.underlying27 hi hz0 hz1 hz2 rfl (by decide) _ _ xs rfl (ho.alloc _) ⟨wr.heap.size,0,none⟩ 1 1 [.int .i64 1,.string k1,.string k2,.int .i64 k3,.string k4,.string k5,.string k6,.string k7,.string k8,.slice kp kl kc,.slice kq km kd] rfl rfl ?c1 ?c2 (by omega) ?c3 ?c4 ?c5 _ rfl ?_)
     |go_in)
    case c1=>exact World.news_of_block (cs:=#[.int .i64 1,.string k1,.string k2,.int .i64 k3,.string k4,.string k5,.string k6,.string k7,.string k8,.slice kp kl kc,.slice kq km kd]) (t:=44) (fr:=(0,0)) (heap_alloc_new wr _)
    case c2=>
     intro u hu;simp only [D2,List.mem_nil_iff,or_false] at hu;rcases hu with rfl|rfl|rfl|rfl|rfl|rfl|rfl|rfl|rfl|rfl|rfl<;>rfl
    case c3=>unfold maxLen;omega
    case c4=>omega
    case c5=>have:=hrw.le;simp;omega
    ·intro g' cap' w' ho' hg' hat hlt;obtain ⟨ht,hk'⟩:=gB.pushed hrw hxs (qx.keep hbB hu0) ho' hg' hat;have hown:=hr.own;have hcw:w'.heap[w.heap.size]?=some (.cells #[.int .i64 1,.string k1,.string k2,.int .i64 k3,.string k4,.string k5,.string k6,.string k7,.string k8,.slice kp kl kc,.slice kq km kd] 44):=by
      rw [hk'.block w.heap.size (by have:=hb.size;omega) fun e=>by have:=(hown _ e.symm).2;omega]
      exact U1
     have hz0:w'.cell? ⟨w.heap.size,0,none⟩=some (.int .i64 1):=by simp only [World.cell?,hcw];rfl
     clear hcw ho' hg' hat;go_wp2;go_ret;refine ⟨_,rfl,?_,(SK.dJ b1).trans ((SK.dJ hb).trans hk')⟩;rw [lg,hM];exact ht
theorem Tryz.amB (B:Nat) (S:Nat->Nat->Prop) (ob:Ob):Oi B S (.dV ob):=by
 intro v l us w hr hk hl hok hsz hu;have hu0:=hu;obtain ⟨k0,k1,k2,k3,k4,k5,k6,k7,k8,kp,kl,kc,kq,km,kd,rfl⟩:=bL (qx.rb hu);obtain rfl:k0=2:=by cases ob<;>(have:=(RQ.rb hu.1).i;simpa using this)
 obtain ⟨ao,cap,rfl,hao⟩:=hr.shape;obtain ⟨w1,hw1⟩:∃w1,w1=w.alloc (.cells #[.int .i64 2,.string k1,.string k2,.int .i64 k3,.string k4,.string k5,.string k6,.string k7,.string k8,.slice kp kl kc,.slice kq km kd] 44):=⟨_,rfl⟩;have b1:Below w.heap.size w w1:=by rw [hw1];exact (Below.refl _ w).alloc (An _) _
 have hs1:w1.heap.size=w.heap.size+1:=by rw [hw1];simp
 have hc:w1.heap[w.heap.size]?=some (.cells #[.int .i64 2,.string k1,.string k2,.int .i64 k3,.string k4,.string k5,.string k6,.string k7,.string k8,.slice kp kl kc,.slice kq km kd] 44):=by
  rw [hw1];show (w.heap.push _)[w.heap.size]?=_
  simp
 have hn:l.length<=100000:=by omega
 go_enter Tryz.func119,Tryz.ntmps119;go_wp2;rw [<-hw1];go_loopw [5,6] (fun fd i wr=>∃k:Nat,k<=l.length/\i=.int .i64 k/\fd=.bool (memT (l.take k) (.dV ob))/\Below w1.heap.size w1 wr) (fun _ i _=>l.length - (intOf i).toNat)
 case atStart=>exact ⟨0,Fl _,rfl,rfl,Below.refl _ _⟩
 case round=>
  obtain ⟨k,hkl,rfl,rfl,hb⟩:=hrel;have hrw:=hr.kept (b1.trans (hb.mono b1.size));have hbB:Below B w wr:=(b1.trans (hb.mono b1.size)).mono hr.le;have hcb:∀j:Nat,wr.cell? ⟨w.heap.size,j,none⟩=w1.cell? ⟨w.heap.size,j,none⟩:=fun j=>hb.cell (show w.heap.size < w1.heap.size by omega)
  obtain ⟨hc0,hc1,hc2,hc3,hc4,hc5,hc6,hc7,hc8,hc9,abf⟩:=ahP hcb hc;clear hcb;by_cases hx:k < l.length
  ·obtain ⟨x,hxk⟩:∃x,l[k]?=some x:=⟨_,A6 hx⟩;obtain ⟨g,rfl⟩:=hao (by omega)
   cases hM:memT (l.take k) (.dV ob) with
   |false=>
    obtain ⟨us,Wv,hcx⟩:=hrw.get hxk;obtain ⟨x0,x1,x2,x3,x4,x5,x6,x7,x8,xp,xl,xc,xq,xm,xd,rfl⟩:=bL (qx.rb Wv);obtain ⟨f0,f1,f2,f3,f4,f5,f6,f7,f8,f9,f10⟩:=(c11 (o:=k * 11) hcx);clear hcx;have hx0:=hl x (C3 hxk);have hinv:keeps.Inv wr.heap.size wr:=keeps.mono hrw.le (keeps.keep hbB hk);have hinv':=keeps.keep (fC _ wr) hinv;have ce:=Tryz.wEq (B:=B) hx0.1 hx0.2 hinv' (qx.rb (qx.keep (fC B wr) Wv)) (qx.rb (qx.keep (fC B wr) (qx.keep hbB hu0)));go_wp2;go_still_tail 5,Tryz.mixed;go_wp2_with (go_at_call 49;refine ce.mono ?_);rintro e w2 ⟨rfl,hb2⟩;go_wp2;go_roundw
    case rel=>exact ⟨k+1,by omega,by simp,by rw [JE hxk,hM,L2],hb.trans ((fC _ wr).trans (hb2.mono hb.size))⟩
    case measure=>simp [intOf];omega
   |true=>
    have hM:=Cv hM;go_wp2;go_ret;refine ⟨_,rfl,?_,(SK.dJ b1).trans (SK.dJ hb)⟩;rw [lg,hM];exact hrw
  ·obtain rfl:k=l.length:=by omega
   rw [Ge];cases hM:memT l (.dV ob) with
   |true=>
    go_wp2;go_ret;refine ⟨_,rfl,?_,(SK.dJ b1).trans (SK.dJ hb)⟩;rw [lg,hM];exact hrw
   |false=>
    obtain ⟨i0,hi,hz0,hz1,hz2⟩:=info_parts Tryz.J8;obtain ⟨xs,ho,hxs⟩:=hrw.row;have U1:=hb.block w.heap.size (by omega)
    rw [hc] at U1;go_wp2_with (first
     |(at_builtin;refine wpList_append_lies _ rfl _ _ 27 rfl B 44 i0 _ 11 176 Tryz.underlying27 hi hz0 hz1 hz2 rfl (by decide) _ _ xs rfl (ho.alloc _) ⟨wr.heap.size,0,none⟩ 1 1 [.int .i64 2,.string k1,.string k2,.int .i64 k3,.string k4,.string k5,.string k6,.string k7,.string k8,.slice kp kl kc,.slice kq km kd] rfl rfl ?c1 ?c2 (by omega) ?c3 ?c4 ?c5 _ rfl ?_)
     |go_in)
    case c1=>exact World.news_of_block (cs:=#[.int .i64 2,.string k1,.string k2,.int .i64 k3,.string k4,.string k5,.string k6,.string k7,.string k8,.slice kp kl kc,.slice kq km kd]) (t:=44) (fr:=(0,0)) (heap_alloc_new wr _)
    case c2=>
     intro u hu;simp only [D2,List.mem_nil_iff,or_false] at hu;rcases hu with rfl|rfl|rfl|rfl|rfl|rfl|rfl|rfl|rfl|rfl|rfl<;>rfl
    case c3=>unfold maxLen;omega
    case c4=>omega
    case c5=>have:=hrw.le;simp;omega
    ·intro g' cap' w' ho' hg' hat hlt;obtain ⟨ht,hk'⟩:=gB.pushed hrw hxs (qx.keep hbB hu0) ho' hg' hat;have hown:=hr.own;have hcw:w'.heap[w.heap.size]?=some (.cells #[.int .i64 2,.string k1,.string k2,.int .i64 k3,.string k4,.string k5,.string k6,.string k7,.string k8,.slice kp kl kc,.slice kq km kd] 44):=by
      rw [hk'.block w.heap.size (by have:=hb.size;omega) fun e=>by have:=(hown _ e.symm).2;omega]
      exact U1
     have hz0:w'.cell? ⟨w.heap.size,0,none⟩=some (.int .i64 2):=by simp only [World.cell?,hcw];rfl
     clear hcw ho' hg' hat;go_wp2;go_ret;refine ⟨_,rfl,?_,(SK.dJ b1).trans ((SK.dJ hb).trans hk')⟩;rw [lg,hM];exact ht
theorem Tryz.amv (B:Nat) (S:Nat->Nat->Prop) (p s:ByteArray) (ts:List Tm) (ih:∀x∈ts,Oi B S x):Oi B S (.app p s ts):=by
 intro v l us w hr hk hl hok hsz hu;have hu0:=hu;obtain ⟨k0,k1,k2,k3,k4,k5,k6,k7,k8,kp,kl,kc,kq,km,kd,rfl⟩:=bL (qx.rb hu);obtain rfl:k0=3:=by (have:=(RQ.rb hu.1).i;simpa using this)
 obtain ⟨rfl,hargs⟩:=argsAt hu.2.2.2.2.2.2.2.2.2.2.1;have hnt:ts.length<=3000:=by have h1:=lZ ts;have h2:=hok.2;simp only [ah] at h2;omega
 obtain ⟨ao,cap,rfl,hao⟩:=hr.shape;obtain ⟨w1,hw1⟩:∃w1,w1=w.alloc (.cells #[.int .i64 3,.string k1,.string k2,.int .i64 k3,.string k4,.string k5,.string k6,.string k7,.string k8,.slice kp kl kc,.slice kq ts.length kd] 44):=⟨_,rfl⟩;have b1:Below w.heap.size w w1:=by rw [hw1];exact (Below.refl _ w).alloc (An _) _
 have hs1:w1.heap.size=w.heap.size+1:=by rw [hw1];simp
 have hc:w1.heap[w.heap.size]?=some (.cells #[.int .i64 3,.string k1,.string k2,.int .i64 k3,.string k4,.string k5,.string k6,.string k7,.string k8,.slice kp kl kc,.slice kq ts.length kd] 44):=by
  rw [hw1];show (w.heap.push _)[w.heap.size]?=_
  simp
 have hn:l.length<=100000:=by omega
 go_enter Tryz.func119,Tryz.ntmps119;go_wp2;rw [<-hw1];go_loopw [5,6] (fun fd i wr=>∃k:Nat,k<=l.length/\i=.int .i64 k/\fd=.bool (memT (l.take k) (.app p s ts))/\Below w1.heap.size w1 wr) (fun _ i _=>l.length - (intOf i).toNat)
 case atStart=>exact ⟨0,Fl _,rfl,rfl,Below.refl _ _⟩
 case round=>
  obtain ⟨k,hkl,rfl,rfl,hb⟩:=hrel;have hrw:=hr.kept (b1.trans (hb.mono b1.size));have hbB:Below B w wr:=(b1.trans (hb.mono b1.size)).mono hr.le;have hcb:∀j:Nat,wr.cell? ⟨w.heap.size,j,none⟩=w1.cell? ⟨w.heap.size,j,none⟩:=fun j=>hb.cell (show w.heap.size < w1.heap.size by omega)
  obtain ⟨hc0,hc1,hc2,hc3,hc4,hc5,hc6,hc7,hc8,hc9,abf⟩:=ahP hcb hc;clear hcb;by_cases hx:k < l.length
  ·obtain ⟨x,hxk⟩:∃x,l[k]?=some x:=⟨_,A6 hx⟩;obtain ⟨g,rfl⟩:=hao (by omega)
   cases hM:memT (l.take k) (.app p s ts) with
   |false=>
    obtain ⟨us,Wv,hcx⟩:=hrw.get hxk;obtain ⟨x0,x1,x2,x3,x4,x5,x6,x7,x8,xp,xl,xc,xq,xm,xd,rfl⟩:=bL (qx.rb Wv);obtain ⟨f0,f1,f2,f3,f4,f5,f6,f7,f8,f9,f10⟩:=(c11 (o:=k * 11) hcx);clear hcx;have hx0:=hl x (C3 hxk);have hinv:keeps.Inv wr.heap.size wr:=keeps.mono hrw.le (keeps.keep hbB hk);have hinv':=keeps.keep (fC _ wr) hinv;have ce:=Tryz.wEq (B:=B) hx0.1 hx0.2 hinv' (qx.rb (qx.keep (fC B wr) Wv)) (qx.rb (qx.keep (fC B wr) (qx.keep hbB hu0)));go_wp2;go_still_tail 5,Tryz.mixed;go_wp2_with (go_at_call 49;refine ce.mono ?_);rintro e w2 ⟨rfl,hb2⟩;go_wp2;go_roundw
    case rel=>exact ⟨k+1,by omega,by simp,by rw [JE hxk,hM,L2],hb.trans ((fC _ wr).trans (hb2.mono hb.size))⟩
    case measure=>simp [intOf];omega
   |true=>
    have hM:=Cv hM;obtain ⟨wo,hwo⟩:∃wo:World,wo=wr:=⟨_,rfl⟩;obtain ⟨vo,V7⟩:∃vo:Value,vo=(.slice (some ⟨g,0,none⟩) l.length cap):=⟨_,rfl⟩;obtain ⟨L0,hL0⟩:∃L0:List Tm,L0=l:=⟨_,rfl⟩;have tr0:gB B S vo L0 wo:=by rw [V7,hwo,hL0];exact hrw
    have UK:SK (.slice (some ⟨g,0,none⟩) l.length cap) vo w1 wo:=by rw [V7,hwo];exact SK.dJ hb
    have okL:∀x∈L0,Gq x:=by rw [hL0];exact hl
    have aqG:L0.length<=l.length+1:=by rw [hL0];simp
    have hne:∀j,vo.ownBlock=some j->j≠w.heap.size:=fun j hj=>by
     rcases UK.new j hj with h|h
     ·have:=(hr.own j h).2;omega
     ·omega
    have Vd:wo.heap[w.heap.size]?=some (.cells #[.int .i64 3,.string k1,.string k2,.int .i64 k3,.string k4,.string k5,.string k6,.string k7,.string k8,.slice kp kl kc,.slice kq ts.length kd] 44):=by rw [UK.block w.heap.size (by omega) fun e=>by have:=(hr.own _ e.symm).2;omega];exact hc
    have apj:=UK.size;have hz0':wr.cell? ⟨w.heap.size,0,none⟩=some (.int .i64 3):=by rw [<-hwo];simp only [World.cell?,Vd];rfl
    go_wp2;rw [<-hwo];go_loopw [0,7] (fun vz i wy=>∃kk:Nat,kk<=ts.length/\i=.int .i64 kk/\gB B S vz (fG L0 (ts.take kk)) wy/\SK vo vz wo wy) (fun _ i _=>ts.length - (intOf i).toNat)
    case atStart=>
     refine ⟨0,Fl _,rfl,?_,?_⟩
     ·rw [<-V7];exact tr0
     ·rw [<-V7];exact SK.refl _ _
    case round=>
     obtain ⟨kk,hkk,rfl,J9,Po⟩:=hrel;have hcy:wr.heap[w.heap.size]?=some (.cells #[.int .i64 3,.string k1,.string k2,.int .i64 k3,.string k4,.string k5,.string k6,.string k7,.string k8,.slice kp kl kc,.slice kq ts.length kd] 44):=by rw [Po.block w.heap.size (by omega) fun e=>hne _ e.symm rfl];exact Vd
     have apP:wr.cell? ⟨w.heap.size,10,none⟩=some (.slice kq ts.length kd):=by simp only [World.cell?,hcy];rfl
     have yj:Below B w wr:=((SK.dJ b1).trans (UK.trans Po)).below hr.le fun j hj=>(hr.own j hj).1
     clear hcy;by_cases hx2:kk < ts.length
     ·obtain ⟨y,hyk⟩:∃y,ts[kk]?=some y:=⟨_,A6 hx2⟩;have hym:=C3 hyk;obtain ⟨bk,o,Fp,rfl,hyu,KQ⟩:=hargs.get yj hyk;obtain ⟨y0,y1,y2,y3,y4,y5,y6,y7,y8,yp,yl,yc,yq,ym,yd,rfl⟩:=bL (qx.rb hyu);obtain ⟨e0,e1,e2,e3,e4,e5,e6,e7,e8,e9,e10⟩:=SY KQ;clear KQ;have hn1:=mg hyk;have hn2:=rT (ts.take kk) L0;have hn3:ah (.app p s ts)=1+au ts:=rfl;have c2:=(ih y hym).use J9 (keeps.keep yj hk) (Bo okL fun x hx=>zf hok x (Hs hx)) (zf hok y hym) (by omega) hyu
      go_wp2_with (go_at_call 119;refine c2.mono ?_);rintro e w3 ⟨v3,rfl,t3,s3⟩;go_wp2;go_roundw
      case rel=>exact ⟨kk+1,by omega,by simp,by rw [jD hyk,Ab];exact t3,Po.trans s3⟩
      case measure=>simp [intOf];omega
     ·obtain rfl:kk=ts.length:=by omega
      rw [Ge] at J9;go_wp2;go_ret;refine ⟨_,rfl,?_,(SK.dJ b1).trans (UK.trans Po)⟩;rw [lg,hM];rw [hL0] at J9;exact J9
  ·obtain rfl:k=l.length:=by omega
   rw [Ge];cases hM:memT l (.app p s ts) with
   |true=>
    obtain ⟨wo,hwo⟩:∃wo:World,wo=wr:=⟨_,rfl⟩;obtain ⟨vo,V7⟩:∃vo:Value,vo=(.slice ao l.length cap):=⟨_,rfl⟩;obtain ⟨L0,hL0⟩:∃L0:List Tm,L0=l:=⟨_,rfl⟩;have tr0:gB B S vo L0 wo:=by rw [V7,hwo,hL0];exact hrw
    have UK:SK (.slice ao l.length cap) vo w1 wo:=by rw [V7,hwo];exact SK.dJ hb
    have okL:∀x∈L0,Gq x:=by rw [hL0];exact hl
    have aqG:L0.length<=l.length+1:=by rw [hL0];simp
    have hne:∀j,vo.ownBlock=some j->j≠w.heap.size:=fun j hj=>by
     rcases UK.new j hj with h|h
     ·have:=(hr.own j h).2;omega
     ·omega
    have Vd:wo.heap[w.heap.size]?=some (.cells #[.int .i64 3,.string k1,.string k2,.int .i64 k3,.string k4,.string k5,.string k6,.string k7,.string k8,.slice kp kl kc,.slice kq ts.length kd] 44):=by rw [UK.block w.heap.size (by omega) fun e=>by have:=(hr.own _ e.symm).2;omega];exact hc
    have apj:=UK.size;have hz0':wr.cell? ⟨w.heap.size,0,none⟩=some (.int .i64 3):=by rw [<-hwo];simp only [World.cell?,Vd];rfl
    go_wp2;rw [<-hwo];go_loopw [0,7] (fun vz i wy=>∃kk:Nat,kk<=ts.length/\i=.int .i64 kk/\gB B S vz (fG L0 (ts.take kk)) wy/\SK vo vz wo wy) (fun _ i _=>ts.length - (intOf i).toNat)
    case atStart=>
     refine ⟨0,Fl _,rfl,?_,?_⟩
     ·rw [<-V7];exact tr0
     ·rw [<-V7];exact SK.refl _ _
    case round=>
     obtain ⟨kk,hkk,rfl,J9,Po⟩:=hrel;have hcy:wr.heap[w.heap.size]?=some (.cells #[.int .i64 3,.string k1,.string k2,.int .i64 k3,.string k4,.string k5,.string k6,.string k7,.string k8,.slice kp kl kc,.slice kq ts.length kd] 44):=by rw [Po.block w.heap.size (by omega) fun e=>hne _ e.symm rfl];exact Vd
     have apP:wr.cell? ⟨w.heap.size,10,none⟩=some (.slice kq ts.length kd):=by simp only [World.cell?,hcy];rfl
     have yj:Below B w wr:=((SK.dJ b1).trans (UK.trans Po)).below hr.le fun j hj=>(hr.own j hj).1
     clear hcy;by_cases hx2:kk < ts.length
     ·obtain ⟨y,hyk⟩:∃y,ts[kk]?=some y:=⟨_,A6 hx2⟩;have hym:=C3 hyk;obtain ⟨bk,o,Fp,rfl,hyu,KQ⟩:=hargs.get yj hyk;obtain ⟨y0,y1,y2,y3,y4,y5,y6,y7,y8,yp,yl,yc,yq,ym,yd,rfl⟩:=bL (qx.rb hyu);obtain ⟨e0,e1,e2,e3,e4,e5,e6,e7,e8,e9,e10⟩:=SY KQ;clear KQ;have hn1:=mg hyk;have hn2:=rT (ts.take kk) L0;have hn3:ah (.app p s ts)=1+au ts:=rfl;have c2:=(ih y hym).use J9 (keeps.keep yj hk) (Bo okL fun x hx=>zf hok x (Hs hx)) (zf hok y hym) (by omega) hyu
      go_wp2_with (go_at_call 119;refine c2.mono ?_);rintro e w3 ⟨v3,rfl,t3,s3⟩;go_wp2;go_roundw
      case rel=>exact ⟨kk+1,by omega,by simp,by rw [jD hyk,Ab];exact t3,Po.trans s3⟩
      case measure=>simp [intOf];omega
     ·obtain rfl:kk=ts.length:=by omega
      rw [Ge] at J9;go_wp2;go_ret;refine ⟨_,rfl,?_,(SK.dJ b1).trans (UK.trans Po)⟩;rw [lg,hM];rw [hL0] at J9;exact J9
   |false=>
    obtain ⟨i0,hi,hz0,hz1,hz2⟩:=info_parts Tryz.J8;obtain ⟨xs,ho,hxs⟩:=hrw.row;have U1:=hb.block w.heap.size (by omega)
    rw [hc] at U1;go_wp2_with (first
     |(at_builtin;refine wpList_append_lies _ rfl _ _ 27 rfl B 44 i0 _ 11 176 Tryz.underlying27 hi hz0 hz1 hz2 rfl (by decide) _ _ xs rfl (ho.alloc _) ⟨wr.heap.size,0,none⟩ 1 1 [.int .i64 3,.string k1,.string k2,.int .i64 k3,.string k4,.string k5,.string k6,.string k7,.string k8,.slice kp kl kc,.slice kq ts.length kd] rfl rfl ?c1 ?c2 (by omega) ?c3 ?c4 ?c5 _ rfl ?_)
     |go_in)
    case c1=>exact World.news_of_block (cs:=#[.int .i64 3,.string k1,.string k2,.int .i64 k3,.string k4,.string k5,.string k6,.string k7,.string k8,.slice kp kl kc,.slice kq ts.length kd]) (t:=44) (fr:=(0,0)) (heap_alloc_new wr _)
    case c2=>
     intro u hu;simp only [D2,List.mem_nil_iff,or_false] at hu;rcases hu with rfl|rfl|rfl|rfl|rfl|rfl|rfl|rfl|rfl|rfl|rfl<;>rfl
    case c3=>unfold maxLen;omega
    case c4=>omega
    case c5=>have:=hrw.le;simp;omega
    ·intro g' cap' w' ho' hg' hat hlt;obtain ⟨ht,hk'⟩:=gB.pushed hrw hxs (qx.keep hbB hu0) ho' hg' hat;have hown:=hr.own;have hcw:w'.heap[w.heap.size]?=some (.cells #[.int .i64 3,.string k1,.string k2,.int .i64 k3,.string k4,.string k5,.string k6,.string k7,.string k8,.slice kp kl kc,.slice kq ts.length kd] 44):=by
      rw [hk'.block w.heap.size (by have:=hb.size;omega) fun e=>by have:=(hown _ e.symm).2;omega]
      exact U1
     have hz0:w'.cell? ⟨w.heap.size,0,none⟩=some (.int .i64 3):=by simp only [World.cell?,hcw];rfl
     have auC:w'.cell? ⟨w.heap.size,10,none⟩=some (.slice kq ts.length kd):=by simp only [World.cell?,hcw];rfl
     clear hcw ho' hg' hat;obtain ⟨wo,hwo⟩:∃wo:World,wo=w':=⟨_,rfl⟩;obtain ⟨vo,V7⟩:∃vo:Value,vo=(.slice (some ⟨g',0,none⟩) (l.length+1) cap'):=⟨_,rfl⟩;obtain ⟨L0,hL0⟩:∃L0:List Tm,L0=(l++[(.app p s ts)]):=⟨_,rfl⟩;have tr0:gB B S vo L0 wo:=by rw [V7,hwo,hL0];exact ht
     have UK:SK (.slice ao l.length cap) vo w1 wo:=by rw [V7,hwo];exact (SK.dJ hb).trans hk'
     have okL:∀x∈L0,Gq x:=by rw [hL0];exact IG hl hok
     have aqG:L0.length<=l.length+1:=by rw [hL0];simp
     have hne:∀j,vo.ownBlock=some j->j≠w.heap.size:=fun j hj=>by
      rcases UK.new j hj with h|h
      ·have:=(hr.own j h).2;omega
      ·omega
     have Vd:wo.heap[w.heap.size]?=some (.cells #[.int .i64 3,.string k1,.string k2,.int .i64 k3,.string k4,.string k5,.string k6,.string k7,.string k8,.slice kp kl kc,.slice kq ts.length kd] 44):=by rw [UK.block w.heap.size (by omega) fun e=>by have:=(hr.own _ e.symm).2;omega];exact hc
     have apj:=UK.size;have hz0':w'.cell? ⟨w.heap.size,0,none⟩=some (.int .i64 3):=by rw [<-hwo];simp only [World.cell?,Vd];rfl
     go_wp2;rw [<-hwo];go_loopw [0,7] (fun vz i wy=>∃kk:Nat,kk<=ts.length/\i=.int .i64 kk/\gB B S vz (fG L0 (ts.take kk)) wy/\SK vo vz wo wy) (fun _ i _=>ts.length - (intOf i).toNat)
     case atStart=>
      refine ⟨0,Fl _,rfl,?_,?_⟩
      ·rw [<-V7];exact tr0
      ·rw [<-V7];exact SK.refl _ _
     case round=>
      obtain ⟨kk,hkk,rfl,J9,Po⟩:=hrel;have hcy:wr.heap[w.heap.size]?=some (.cells #[.int .i64 3,.string k1,.string k2,.int .i64 k3,.string k4,.string k5,.string k6,.string k7,.string k8,.slice kp kl kc,.slice kq ts.length kd] 44):=by rw [Po.block w.heap.size (by omega) fun e=>hne _ e.symm rfl];exact Vd
      have apP:wr.cell? ⟨w.heap.size,10,none⟩=some (.slice kq ts.length kd):=by simp only [World.cell?,hcy];rfl
      have yj:Below B w wr:=((SK.dJ b1).trans (UK.trans Po)).below hr.le fun j hj=>(hr.own j hj).1
      clear hcy;by_cases hx2:kk < ts.length
      ·obtain ⟨y,hyk⟩:∃y,ts[kk]?=some y:=⟨_,A6 hx2⟩;have hym:=C3 hyk;obtain ⟨bk,o,Fp,rfl,hyu,KQ⟩:=hargs.get yj hyk;obtain ⟨y0,y1,y2,y3,y4,y5,y6,y7,y8,yp,yl,yc,yq,ym,yd,rfl⟩:=bL (qx.rb hyu);obtain ⟨e0,e1,e2,e3,e4,e5,e6,e7,e8,e9,e10⟩:=SY KQ;clear KQ;have hn1:=mg hyk;have hn2:=rT (ts.take kk) L0;have hn3:ah (.app p s ts)=1+au ts:=rfl;have c2:=(ih y hym).use J9 (keeps.keep yj hk) (Bo okL fun x hx=>zf hok x (Hs hx)) (zf hok y hym) (by omega) hyu
       go_wp2_with (go_at_call 119;refine c2.mono ?_);rintro e w3 ⟨v3,rfl,t3,s3⟩;go_wp2;go_roundw
       case rel=>exact ⟨kk+1,by omega,by simp,by rw [jD hyk,Ab];exact t3,Po.trans s3⟩
       case measure=>simp [intOf];omega
      ·obtain rfl:kk=ts.length:=by omega
       rw [Ge] at J9;go_wp2;go_ret;refine ⟨_,rfl,?_,(SK.dJ b1).trans (UK.trans Po)⟩;rw [lg,hM];rw [hL0] at J9;exact J9
end Go.Proofs
namespace Go.Ey.Pr
open Rt Seat
section
variable {nat:Nat->List V->Option (List V)}
def t364:cB:=⟨[.agg 11,.fq 136 [(0,0)]],[1],rH .neq 0 0 (jJ 3) (jQ 2 (oW (lG 0) (qF 1)) (qO 0 10 (.dG (.mk 11 176 [iW 0,gV,gV,iW 0,gV,gV,gV,gV,gV,.slice none 0 0,.slice none 0 0] (.v 3) (.v 3)) (qO 0 10 (qJ [qW 0 10,uH,rW,lI 1,lI 0,rW,qQ,qQ,rW,qQ,qQ,qQ,qQ,qQ,rM,rM,uN]))))),[qC 2 1 17 (xJ 0 2 (.call 136 [pM 18,wW] (qF 3) (pV 11) [1] (xJ 16 2 (.dG (.set 11 (.v 16) (.v 2) 0 [vP 0,vP 1,vP 2,vP 3,vP 4,vP 5,vP 6,vP 7,vP 8,vP 9,sM 19]) (xN 2 [qU,rR,wF,lI 20,lI 4,uH,uG,uO,uP,uD,rP,rQ,sD,sK,sS,sP,vR]))))) (oW (pQ [yR 4,.n 4 1,.n 4 2,.n 4 3,.n 4 4,.n 4 5,.n 4 6,.n 4 7,.n 4 8,.n 4 9,.v 16]) (qF 3))]⟩
theorem R6:(T nat).G.fn 364=some t364:=by kernel_rfl
end
end Go.Ey.Pr
