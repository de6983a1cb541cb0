/- A part. -/
import Derived.Test.YtolnnaanmfnkjaaGreatDoorY32
set_option linter.all false
set_option maxHeartbeats 4000000
namespace Go.Ey.Pr
open Go.Ey Go.Ey.Rt Go.Ey.Seat
set_option maxRecDepth 100000
section
variable {nat:Nat->List V->Option (List V)}
def t4:bO:=⟨[.one,.one,.one],[],sV 9 [] (vI 3 4 (vB (qE .gtr 5 60 (qX 6 qV [] (sV 10 [kP (.k (.int .u32 0))] (.call 17 [wW,pO 7,rU 4] [.lit [.v 0,uC]] (pV 37) [2] (uE 19 [rE ⟨#[120]⟩] (yE 1 [tV 0,tV 1,tV 2,tV 3,tV 4,tV 5,tV 6,tV 7,tV 8,tV 9,sM 10] (vK 18 (rE ⟨#[99,111,117,110,116]⟩) 11 (sV 20 [pO 7,tX [uU 0,uU 1,uU 2,uU 3,uU 4,uU 5,uU 6,uU 7,uU 8,uU 9,sM 8,uU 11,uU 12,uU 13,uU 14,uU 15,uU 16,uU 17,uU 18,uU 19,uU 20,uU 21,uU 22,uU 23,uU 24,uU 25,uB 0,uB 1,uB 2,uB 3,uB 4,uB 5,uB 6,uB 7,uB 8,uB 9,sM 12]] (pW 1 3 [oV ⟨#[120]⟩,oV ⟨#[121]⟩,oV ⟨#[122]⟩] (.fG (.conv .i64 (.v 1)) (qE .rem 15 3 (pG 1 14 16 (pG 1 14 16 (uE 19 [qL 18 0] (.fG (.conv .i64 (.v 2)) (qE .rem 20 3 (pG 1 14 21 (pG 1 14 21 (uE 19 [qL 23 0] (.fG (.bin .geq false (.v 2) (.k (.int .u8 128))) (jQ 25 (yE 1 [uY 0,uY 1,uY 2,uY 3,uY 4,uY 5,uY 6,uY 7,uY 8,uY 9,sM 24] (vK 18 sO 26 (yE 2 [vP 0,vP 1,vP 2,vP 3,vP 4,vP 5,vP 6,vP 7,vP 8,vP 9,sM 19,xQ 0,xQ 1,xQ 2,xQ 3,xQ 4,xQ 5,xQ 6,xQ 7,xQ 8,xQ 9,sM 27] (vK 21 (rE ⟨#[102]⟩) 28 (.call 22 [wW] (qF 9) (pV 11) [2] (yE 2 [yR 29,.n 29 1,.n 29 2,.n 29 3,.n 29 4,.n 29 5,.n 29 6,.n 29 7,.n 29 8,.n 29 9,sM 29,yR 30,.n 30 1,.n 30 2,.n 30 3,.n 30 4,.n 30 5,.n 30 6,.n 30 7,.n 30 8,.n 30 9,sM 30] (vK 18 vG 32 (yE 1 [yR 33,.n 33 1,.n 33 2,.n 33 3,.n 33 4,.n 33 5,.n 33 6,.n 33 7,.n 33 8,.n 33 9,sM 33] (sV 14 [pO 13,kP .z,pO 34] (sV 15 [pO 13,kP .z,pO 34] (qD 35 (qD 36 (yD 37 38 39 [] (qJ [yS,yL,rW])))))))))))))) (yE 2 [vP 0,vP 1,vP 2,vP 3,vP 4,vP 5,vP 6,vP 7,vP 8,vP 9,sM 19,uY 0,uY 1,uY 2,uY 3,uY 4,uY 5,uY 6,uY 7,uY 8,uY 9,sM 24] (vK 21 (rE ⟨#[102]⟩) 26 (.call 22 [wW] (qF 9) (pV 11) [2] (yE 2 [xQ 0,xQ 1,xQ 2,xQ 3,xQ 4,xQ 5,xQ 6,xQ 7,xQ 8,xQ 9,sM 27,yR 28,.n 28 1,.n 28 2,.n 28 3,.n 28 4,.n 28 5,.n 28 6,.n 28 7,.n 28 8,.n 28 9,sM 28] (vK 18 vG 30 (yE 1 [yR 31,.n 31 1,.n 31 2,.n 31 3,.n 31 4,.n 31 5,.n 31 6,.n 31 7,.n 31 8,.n 31 9,sM 31] (sV 14 [pO 13,kP .z,pO 32] (sV 15 [pO 13,kP .z,pO 32] (qD 33 (qD 34 (yD 35 36 37 [] (qJ [vV,xH,rW]))))))))))))))))))))))))))))))))))),[vW 2 3 4 (yB 2 (tL 1 2 (uM 16 5 6 (vJ 7 8 2 0 [qU,rR,uD])))) qV]⟩
def t5:bO:=⟨xP,[],sV 9 [] (vI 1 2 (vB (qE .gtr 3 60 (qX 4 qV [] (sV 23 (wB 0) (qJ [uH,rW])))))),[vW 1 2 3 (xX 1 6 (xI 4 (uI [qU,rR,rW]) qV)) qV,xU 2 3 4 (xX 2 6 (jQ 5 (yB 1 (yB 2 (oU 24 (tQ 6 7) [yF,none] [] (yB 1 (yB 2 (oU 25 (tQ 10 11) [yF,none] [] (.fG (.bin .neq true (.v 9) (.v 13)) (xK 14 [] (uM 16 8 12 (vI 15 16 (yB 1 (yB 2 (uM 26 17 18 (yB 1 (yB 2 (uM 27 20 21 (.fG (.bin .neq true (.v 19) (.v 22)) (xK 23 [] (rZ 2 1 [qU,rR,vS]))))))))))))))))))) (xN 1 [qU,uG]))) (xN 1 [qU,uH])]⟩
def t15:bO:=⟨[.one,.one,.one],[],sV 44 (wB 2) (qJ [qU,rR,uS,rW,rM]),[qD 2 (rY 3 5 6 (xJ 2 3 (rH .neq 7 0 (jJ 3) (wX 8 3 0 [qU,rR,tJ,uD,uN] (xJ 2 3 (oU 45 [pO 0,pO 1,pM 9] [yF,none] [] (jQ 11 (pW 16 1 [tV 0,tV 1,tV 2,tV 3,tV 4,tV 5,tV 6,tV 7,tV 8,tV 9,sM 10,tV 11,tV 12,tV 13,tV 14,tV 15] (tH 16 280 4 12 (xN 3 [qU,rR,tJ,sS,sK]))) (xN 3 [qU,rR,tJ,sD,uN]))))))) (qH 4))]⟩
theorem Oi:(T nat).G.fn 15=some t15:=by kernel_rfl
def t46:bO:=⟨uX 2 2,[],sV 47 (wS 0 0 1 0) (vI 2 3 (qO 0 1 (qO 1 1 (yD 4 5 6 [] (qJ (wV rW 0 1)))))),[qO 1 1 (rY 0 3 4 (qY 1 1 1 0 (qY 1 2 1 0 (sV 124 (wS 5 0 6 0) (vJ 7 8 0 0 (wV uD 1 2))))) qV)]⟩
def t59:bO:=⟨vM,[],qJ [qU,rR,rW],[vW 2 3 4 (pG 2 0 2 (zB 65 1 5 (qX 6 qV [] (xN 2 [qU,rR,uO])))) pF]⟩
theorem Za:(T nat).G.fn 59=some t59:=by kernel_rfl
def t65:bO:=⟨vO 2,[],qJ [qU,rW,lI 1],[vW 1 3 4 (pG 2 0 1 (pU (yJ [1,1] false 5 (.all 2)) 6 (rX qV) (xN 1 [qU,uO,lI 2]))) pF]⟩
theorem YU:(T nat).G.fn 65=some t65:=by kernel_rfl
def t70:bO:=⟨xP,[],qJ [qU,rW],[xU 1 2 3 (rZ 1 1 [qU,rR,uN]) (sI [qH 0,pF]),xU 2 3 4 (yB 1 (yB 2 (oU 25 (tQ 5 6) [yF,none] [] (qP 8 9 (rZ 2 1 [qU,rR,rP]) (yX 16 (.v 0) none (uQ 1) (pY 16 280 .z (.v 10) (pW 16 1 [wL 0,wL 1,wL 2,wL 3,wL 4,wL 5,wL 6,wL 7,wL 8,wL 9,sM 7,wL 11,wL 12,wL 13,wL 14,wL 15] (tH 16 280 11 12 (qE .add 1 1 (yX 16 (.v 0) (uQ 14) (uQ 2) (tH 16 280 13 15 (qE .add 2 1 (yX 16 (.v 0) (uQ 17) none (tH 16 280 16 18 (sI [qH 19,qV]))))))))))))))) (xN 1 [qU,uH])]⟩
def t75:bO:=⟨xP,[],vB (rD 1 0 2 (tZ 137 [] 7 (yC 94 3 (yO 4))) (vB (rD 3 1 4 (.row 11 (.v 0) uC (yO 5)) (.row 11 (.v 0) uC (tZ 95 [] 7 (yC 94 6 (yX 11 (.v 0) (zC 1) none (uE 75 (wB 8) (yE 3 [yR 5,.n 5 1,.n 5 2,.n 5 3,.n 5 4,.n 5 5,.n 5 6,.n 5 7,.n 5 8,.n 5 9,sM 5,wL 0,wL 1,wL 2,wL 3,wL 4,wL 5,wL 6,wL 7,wL 8,wL 9,sM 7,uR 0,uR 1,uR 2,uR 3,uR 4,uR 5,uR 6,uR 7,uR 8,uR 9,sM 9] (vK 52 (rE ⟨#[105,102]⟩) 10 (yO 11))))))))))),[]⟩
def t77:bO:=⟨yG 11,[],xA 0 0 1 (jQ 2 (oU 138 [pO 1,tX [tT 1,tT 2]] [some 11,none] [] (jQ 4 (yO 3) (yO 0))) (xA 0 0 3 (jQ 3 (xL 139 (qL 0 10) 1 (vK 54 (tX [tT 1,tT 2]) 4 (yO 5))) (yO 0)))),[]⟩
theorem amR:(T nat).G.fn 77=some t77:=by kernel_rfl
def t90:bO:=⟨xP,[],qJ [qU,rW,rM],[vW 1 3 4 (xJ 0 1 (xA 5 0 1 (jQ 6 (xJ 0 1 (pW 2 1 [wL 1,wL 2] (uI [qU,rR,rW,tJ,uP]))) (xJ 0 1 (sV 150 (wT 7) (sV 90 (wB 8) (xV [qU,rR,uD,rW,tJ]))))))) (qH 2),qD 4 (qC 2 5 6 (pG 2 4 2 (pG 2 4 2 (zB 151 3 8 (qP 9 10 (pG 2 4 2 (pG 2 4 2 (pW 2 1 [uB 0,uB 1] (tH 2 32 3 13 (rZ 2 1 [qU,rR,sP,sS,uN]))))) (rZ 2 1 [qU,rR,rQ,uS,uN]))))) (xN 1 [qU,uO,uS])),qD 2 (qC 3 5 6 (pG 2 2 3 (zB 151 4 7 (qP 8 9 (pG 2 2 3 (pW 2 1 [tV 0,tV 1] (tH 2 32 4 11 (rZ 3 2 [qU,rR,tJ,sK,sD])))) (rZ 3 2 [qU,rR,tJ,rP,uN])))) (xN 1 [qU,uO,uN]))]⟩
theorem Dx:(T nat).G.fn 90=some t90:=by kernel_rfl
def t92:bO:=⟨[.agg 11,.one,.one],[],xA 0 0 3 (xI 3 (tZ 80 (wB 1) 2 (pU (wE [1,1] [tT 1,tT 2] (.all 4)) 5 (qO 0 10 (pR .eql 6 2 (uW 7))) (rX pF))) pF),[]⟩
theorem alj:(T nat).G.fn 92=some t92:=by kernel_rfl
def t122:bO:=⟨yG 37,[],qO 0 2 (.fG (.mk 1 1 [.bool false] (.v 2) (.v 2)) (qJ [rR,rW,lI 0,uS])),[vW 1 4 5 (uI [qU,rR,rW,lI 2,uS]) (qH 3),pG 2 0 1 (qO 5 1 (qC 2 6 7 (pG 2 0 1 (qY 1 8 1 2 (xV [qU,rR,tJ,qW 9 0,rW,yN,uN]))) (xN 1 [qU,uP,yN,uN]))),qO 5 2 (qC 4 7 8 (qY 2 5 2 4 (yC 53 9 (vK 77 (pM 10) 3 (pG 1 6 4 (pG 1 6 4 (.ite (uJ 0) (pG 1 6 4 (.fG (.set 1 (.v 6) (.v 4) 0 [nU true]) (rZ 4 2 [qU,rR,tJ,uS,sU,lI 5,sP]))) (qY 2 5 2 4 (yC 53 14 (uM 49 11 15 (.fG (.un .not (.v 16)) (pG 1 6 4 (.fG (.set 1 (.v 6) (.v 4) 0 [.v 17]) (rZ 4 2 [qU,rR,tJ,uS,uV,lI 5,uL]))))))))))))) (rZ 2 1 [qU,rR,uD,lI 5,uG]))]⟩
theorem Dt:(T nat).G.fn 122=some t122:=by kernel_rfl
def t123:bO:=⟨vM,[],qJ [qU,rR,rW],[qD 1 (rY 2 3 4 (uI [qU,rR,tJ,wK,rW]) qV),xU 4 5 6 (qP 3 7 (yA 0 4 (yA 1 2 (pU (xM [1,1] [uU 0,uU 1] [uR 0,uR 1]) 10 (yA 0 4 (yA 1 2 (sV 49 [tX [.n 11 2,.n 11 3,.n 11 4,.n 11 5,.n 11 6,.n 11 7,.n 11 8,.n 11 9,sM 11,.n 11 11,.n 11 12],tX [uB 2,uB 3,uB 4,uB 5,uB 6,uB 7,uB 8,uB 9,sM 12,uB 11,uB 12]] (rZ 4 1 [qU,rR,tJ,sK,sS])))) (rZ 4 1 [qU,rR,tJ,wK,rQ])))) (vJ 3 8 2 0 [qU,rR,uD])) (vJ 3 7 2 0 [qU,rR,uP])]⟩
theorem Ga:(T nat).G.fn 123=some t123:=by kernel_rfl
def t131:bO:=⟨xP,[],jQ 0 (tZ 179 [] 7 (yC 178 1 (yO 2))) (tZ 180 [] 7 (yC 178 1 (yO 2))),[]⟩
def t138:bO:=⟨vO 2,[],qJ [qU,rW,lI 1,rW,qQ,qQ,rW,qQ,qQ,qQ,qQ,qQ,rM,rM],[xU 1 14 15 (yA 0 1 (pU (wE [1,1] [yR 16,.n 16 1] (.all 2)) 17 (yA 0 1 (sI [pQ [.n 18 2,.n 18 3,.n 18 4,.n 18 5,.n 18 6,.n 18 7,.n 18 8,.n 18 9,sM 18,.n 18 11,.n 18 12],qV])) (xN 1 [qU,tF,lI 2,uS,uN,uH,uG,uO,uP,uD,rP,rQ,sD,sK]))) (sI [pQ [uC,pE,pE,uC,pE,pE,pE,pE,pE,.z,.z],pF])]⟩
theorem TE:(T nat).G.fn 138=some t138:=by kernel_rfl
def t139:bO:=⟨vM,[],qJ [qU,rR,rW,rM],[vW 2 4 5 (xJ 0 2 (vK 77 (pM 6) 1 (yE 1 [wL 0,wL 1,wL 2,wL 3,wL 4,wL 5,wL 6,wL 7,wL 8,wL 9,sM 7] (tH 11 176 3 8 (xN 2 [qU,rR,rP,uD]))))) (qH 3)]⟩
theorem Ty:(T nat).G.fn 139=some t139:=by kernel_rfl
def t150:bO:=⟨uZ 11,[],rH .neq 0 0 (jJ 3) (vF 1 .z [] (rX (.one (sM 0)))),[]⟩
theorem aaQ:(T nat).G.fn 150=some t150:=by kernel_rfl
def t151:bO:=⟨vO 2,[],qJ [qU,rW,lI 1],[vW 1 3 4 (pG 2 0 1 (pU (yJ [1,1] false 5 (.all 2)) 6 (rX qV) (xN 1 [qU,uO,lI 2]))) pF]⟩
theorem R3:(T nat).G.fn 151=some t151:=by kernel_rfl
def t173:bO:=⟨vM,[],zF 1 (yD 2 3 4 [] (wY [qU,rR,uH,rW])),[rY 3 2 4 (yA 0 3 (yA 1 3 (pU (.eqs [1,1] true (.lit [yR 5,.n 5 1]) (.lit [yR 6,.n 6 1])) 7 (rX pF) (yA 0 3 (yA 1 3 (sV 114 [tX [uU 2,uU 3,uU 4,uU 5,uU 6,uU 7,uU 8,uU 9,sM 8,uU 11,uU 12],tX [uR 2,uR 3,uR 4,uR 5,uR 6,uR 7,uR 8,uR 9,sM 9,uR 11,uR 12]] (vJ 10 11 3 0 [qU,rR,tJ,sD]))))))) qV]⟩
def t21:bO:=⟨vM,[],tZ 13 (wB 0) 2 (vK 54 (pM 2) 1 (yO 3)),[]⟩
end
end Go.Ey.Pr
set_option maxHeartbeats 4000000
namespace Go.Ey.Pr
open Go.Ey Go.Ey.Seat
def al4:List ByteArray:=⟨#[109,101,109,98,101,114,45,101,113,117,97,108]⟩::⟨#[110,116,104]⟩::heads
def aos:List ByteArray:=⟨#[97,100,100]⟩::owns
def names:List (ByteArray×ByteArray):=al4.map (fun s=>(dH,s))++aos.map (fun s=>(usr,s))
def akz:List ByteArray:=[⟨#[120]⟩,⟨#[121]⟩,⟨#[122]⟩]
mutual
def okD:Tm->Prop
 |.var p s=>p=usr/\s∈akz
 |.eG o=>Good o
 |.app p s ts=>(p,s)∈names/\aeN ts
def aeN:List Tm->Prop
 |[]=>True
 |t::ts=>okD t/\aeN ts
end
theorem Ng:∀{ts:List Tm},aeN ts↔∀t∈ts,okD t
 |[]=>by simp [aeN]
 |t::ts=>by simp [aeN,Ng (ts:=ts)]
structure DT (q:Nat) (t:Tm):Prop where
 ok:okD t
 sz:av t<=q
theorem DT.mono {q q':Nat} {t:Tm} (h:DT q t) (hq:q<=q'):DT q' t:=⟨h.ok,Dg h.sz hq⟩
theorem DT.okt {q:Nat} {t:Tm} (h:DT q t) (hq:q<=3000):PV t:=Dg h.sz hq
theorem akw {s:ByteArray} (h:s∈akz):DT 1 (.var usr s):=⟨⟨rfl,h⟩,B9 _⟩
theorem akX {o:Ob} {q:Nat} (h:Good o) (hq:GD o<=q):DT q (.eG o):=⟨h,hq⟩
theorem PT {q:Nat}:∀{ts:List Tm},(∀t∈ts,av t<=q)->aJ ts<=ts.length * q
 |[],_=>by simp [aJ]
 |t::ts,h=>by
  have h1:=h t (by simp)
  have h2:=PT (ts:=ts) fun x hx=>h x (by simp [hx])
  simp only [aJ,Bm,G2];omega
theorem amV {p s:ByteArray} {ts:List Tm} {q:Nat} (hs:(p,s)∈names) (h:∀t∈ts,DT q t):DT (ts.length * q+1) (.app p s ts):=by
 refine ⟨⟨hs,Ng.2 fun t ht=>(h t ht).ok⟩,?_⟩
 have:=PT fun t ht=>(h t ht).sz
 simp only [av];omega
def gX (c:List Tm) (t:Tm):List Tm:=if inT c t=true then c else c++[t]
structure DC (n q:Nat) (c:List Tm):Prop where
 len:c.length<=n
 all:∀t∈c,DT q t
theorem DC.add {n q:Nat} {c:List Tm} {t:Tm} (h:DC n q c) (ht:DT q t):DC (n+1) q (gX c t):=by
 unfold gX;split
 ·exact ⟨Nat.le_succ_of_le h.len,h.all⟩
 ·refine ⟨by have:=h.len;simp;omega,fun x hx=>?_⟩
  rcases Bx.1 hx with hx|hx
  ·exact h.all x hx
  ·simp only [By] at hx;subst hx;exact ht
theorem DC.okc {n q:Nat} {c:List Tm} (h:DC n q c) (hq:q<=3000):Al c:=fun t ht=>(h.all t ht).okt hq
section
variable {nat:Nat->List V->Option (List V)}
theorem x12 (s:ByteArray):bz (T nat).G 12 [.v (.one (cs s))] []=some ([.agg [cs dH,cs s]],[]):=by rw [aG alX];simp [t12,zS]
theorem x52 (s:ByteArray) (ts:List Tm):bz (T nat).G 52 [.v (.one (cs s)),.v (.one (rows af ts))] []=some ([.agg (af (.app dH s ts))],[]):=by rw [aG amX];simp [t52,zS,x80,x54,ah]
theorem TU (s:ByteArray) (ts:List Tm):bz (T nat).G 18 [.v (.one (cs s)),.v (.one (rows af ts))] []=some ([.agg (af (.app dH s ts))],[]):=by rw [aG alU];simp [t18,zS,x52,ah]
theorem aky (s:ByteArray):bz (T nat).G 13 [.v (.one (cs s))] []=some ([.agg [cs usr,cs s]],[]):=x13 s
theorem x19 (s:ByteArray):bz (T nat).G 19 [.v (.one (cs s))] []=some ([.agg (af (.var usr s))],[]):=by rw [aG alr];simp [t19,zS,aky,x53,ah]
theorem am1 (t:Tm):fq 11 1 (af t)=some (rows af [t]):=by simp [fq,ah,aB,rows]
theorem x41 (c:List Tm) (hm:c.length < 1000) (hk:Al c) (t:Tm):bz (T nat).G 41 [.v (.one (rows af c)),.v (.one (rows af [t]))] []=some ([.one (rows af (gX c t))],[]):=by
 have hl1:lN false (rows af [t])=some (ci 1):=rfl;have hs:cZ .add false (ci c.length) (ci 1)=some (ci ((c.length+1:Nat):Int)):=ax _ (by omega)
 have hmk:mkC 11 176 [.int .i64 0,.string ⟨#[]⟩,.string ⟨#[]⟩,.int .i64 0,.string ⟨#[]⟩,.string ⟨#[]⟩,.string ⟨#[]⟩,.string ⟨#[]⟩,.string ⟨#[]⟩,.slice none 0 0,.slice none 0 0] (ci 0) (ci ((c.length+1:Nat):Int))=some cz:=by
  simp only [mkC,ci];rw [C4 ⟨by omega,by omega,by simp only [Is,aB];omega,by simp only [Is,aB];omega,rfl,by decide⟩]
  rfl
 have happ:iO 11 176 (rows af c) cz=some (rows af c):=by
  have h1:(c.flatMap af).length=c.length * 11:=oH ah c;simp only [iO,cz,rows,Lb];rw [C4 h1];simp only [A4];rw [C4 ⟨h1,rfl,by simp only [aB];omega,by decide,by simp only [aB];omega⟩]
  simp
 have hs0:cZ .add false (ci 0) (ci 1)=some (ci 1):=eO (by omega) (by omega)
 have hrow:eZ 11 (rows af [t]) (ci 0)=some (af t):=eH (ts:=[t]) (k:=0) (by simp)
 have asc:=D8 (acc:=c) (x:=t) (by omega)
 have hc:=x107 (nat:=nat) c (by omega) hk t
 have e1:∀c':List Tm,bn (T nat).G 41 0 [.c (rows af [t]),.c (ci 1),.c (rows af c')]=some ([.one (rows af c')],[]):=fun c'=>by rw [ai Kj (t:=t41.heads[0]) rfl];simp [t41,zZ,hl1]
 have e0:bn (T nat).G 41 0 [.c (rows af [t]),.c (ci 0),.c (rows af c)]=some ([.one (rows af (gX c t))],[]):=by rw [ai Kj (t:=t41.heads[0]) rfl];cases hb:inT c t<;>rw [hb] at hc<;>simp [t41,zZ,hl1,hrow,hc,hs0,e1,kR,asc,gX,hb,ah]
 rw [aG Kj];simp only [t41];simp [-Int.natCast_add,zZ,uk,hl1,hs,hmk,happ,e0]
end
end Go.Ey.Pr
set_option maxHeartbeats 4000000
namespace Go.Ey.Pr
open Go.Ey Go.Ey.Seat
abbrev Sm:=ByteArray×ByteArray
structure cB where
 v:Sm
 t:Tm
structure Cs where
 tests:List Tm
 subs:List (List cB)
structure bH where
 calls:List Tm
 changed:List Sm
 fixed:List Sm
 cases:List Cs
 measure:Tm
 score:Nat
def Xt (l:List Sm) (s:Sm):Bool:=l.any fun x=>decide (x=s)
def within (a b:List Sm):Bool:=a.all fun s=>Xt b s
def apart (a b:List Sm):Bool:=a.all fun s=>!Xt b s
def ext (r s:List cB):Bool:=s.all fun a=>r.any fun b=>decide (a.v=b.v) && jb a.t b.t
def covers (x y:Cs):Bool:=(y.tests.all fun t=>x.tests.any fun u=>jb u t) && y.subs.all fun s=>x.subs.any fun r=>ext r s
def lg (a b:bH):Bool:=within b.changed a.changed && apart b.fixed a.changed && b.cases.all fun y=>a.cases.any fun x=>covers x y
def jv:List Tm->List Tm->Bool
 |[],[]=>true
 |t::a,u::b=>jb t u && jv a b
 |_,_=>false
def agree (a b:List cB):Bool:=a.all fun x=>b.all fun y=>!(decide (x.v=y.v) && !jb x.t y.t)
def gY (x y:List cB):List cB:=x++y.filter fun q=>!(x.any fun p=>decide (p.v=q.v))
def BJ:List (List cB)->List (List cB)->Option (List (List cB))
 |[],[]=>some []
 |x::xs,y::ys=>if agree x y then (BJ xs ys).map fun r=>gY x y::r else none
 |_,_=>none
def BH:List Cs->List Cs->Option (List Cs)
 |[],[]=>some []
 |x::xs,y::ys=>if jv x.tests y.tests then (BJ x.subs y.subs).bind fun s=>(BH xs ys).map fun r=>⟨x.tests,s⟩::r else none
 |_,_=>none
def dX:List Sm->List Sm->List Sm
 |a,[]=>a
 |a,s::b=>dX (if Xt a s then a else a++[s]) b
def merge (a b:bH):Option bH:=
 if apart a.changed b.changed||!apart a.changed b.fixed||!apart b.changed a.fixed then none
 else (BH a.cases b.cases).map fun cs=>⟨a.calls++b.calls,dX a.changed b.changed,dX a.fixed b.fixed,cs,a.measure,a.score+b.score⟩
theorem JX {l:List Sm} {s:Sm}:Xt l s=true↔s∈l:=by simp [Xt]
theorem Af {a b:List Sm}:apart a b=true↔∀s∈a,s ∉ b:=by simp only [apart,E0,It,<-Bool.not_eq_true,JX]
open Go
theorem UG {a b c d:List C} (h1:a.length=7) (h2:c.length=7) (h:a++b=c++d):a=c/\b=d:=List.append_inj h (by rw [h1,h2])
theorem DJ {a b:ByteArray} (h:cs a=cs b):a=b:=by simpa [cs] using h
theorem Sw:∀{a b:Ob},enc a=enc b->a=b
 |.num n d,.num n' d',h=>by simp only [enc,E6,and_true,L7] at h;rw [DJ h.1,DJ h.2]
 |.sy p s,.sy p' s',h=>by simp only [enc,E6,and_true,L7] at h;rw [DJ h.1,DJ h.2]
 |.st t,.st t',h=>by simp only [enc,E6,and_true,L7] at h;rw [DJ h]
 |.cons a b,.cons a' b',h=>by simp only [enc,E6,C.slice.injEq,and_true,L7] at h;obtain ⟨h1,h2⟩:=UG (bI a) (bI a') h;rw [Sw h1,Sw h2]
 |.num ..,.sy ..,h=>by simp [enc,ci] at h
 |.num ..,.st ..,h=>by simp [enc,ci] at h
 |.num ..,.cons ..,h=>by simp [enc,ci] at h
 |.sy ..,.num ..,h=>by simp [enc,ci] at h
 |.sy ..,.st ..,h=>by simp [enc,ci] at h
 |.sy ..,.cons ..,h=>by simp [enc,ci] at h
 |.st ..,.num ..,h=>by simp [enc,ci] at h
 |.st ..,.sy ..,h=>by simp [enc,ci] at h
 |.st ..,.cons ..,h=>by simp [enc,ci] at h
 |.cons ..,.num ..,h=>by simp [enc,ci] at h
 |.cons ..,.sy ..,h=>by simp [enc,ci] at h
 |.cons ..,.st ..,h=>by simp [enc,ci] at h
theorem mq (o:Ob):af (.eG o)=[ci 2,ce,ce]++(enc o++[cz]):=by cases o<;>rfl
mutual
theorem agc:∀{a b:Tm},af a=af b->a=b
 |.var p s,.var p' s',h=>by simp only [af,E6,and_true,L7] at h;rw [DJ h.1,DJ h.2]
 |.eG o,.eG o',h=>by rw [mq,mq] at h;have h1:=(UG (bI o) (bI o') (List.append_cancel_left h)).1;rw [Sw h1]
 |.app p s ts,.app p' s' ts',h=>by simp only [af,E6,C.slice.injEq,and_true,L7] at h;rw [DJ h.1,DJ h.2.1,Lh h.2.2.1]
 |.var ..,.eG ..,h=>by rw [mq] at h;simp [af,ci] at h
 |.var ..,.app ..,h=>by simp [af,ci] at h
 |.eG ..,.var ..,h=>by rw [mq] at h;simp [af,ci] at h
 |.eG ..,.app ..,h=>by rw [mq] at h;simp [af,ci] at h
 |.app ..,.var ..,h=>by simp [af,ci] at h
 |.app ..,.eG ..,h=>by rw [mq] at h;simp [af,ci] at h
theorem Lh:∀{a b:List Tm},fF a=fF b->a=b
 |[],[],_=>rfl
 |[],t::ts,h=>by have:=F0 List.length h;simp [fF,ah] at this;omega
 |t::ts,[],h=>by have:=F0 List.length h;simp [fF,ah] at this
 |t::ts,t'::ts',h=>by
  simp only [fF] at h;obtain ⟨h1,h2⟩:=List.append_inj h (by rw [ah,ah])
  rw [agc h1,Lh h2]
end
theorem KQ {a b:List Tm} (h:rows af a=rows af b):a=b:=by simp only [rows,C.slice.injEq] at h;refine Lh ?_;rw [jG,jG];exact h.1
def adU:bN->Bool
 |.ret [.c (.i .i64 (.ofNat a)),.c (.b _)] []=>a<=3
 |_=>false
theorem ah0 {x:bN} (h:adU x=true):∃(a:Nat) (b:Bool),a<=3/\x=.ret [.c (.i .i64 (.ofNat a)),.c (.b b)] []:=by
 unfold adU at h;split at h
 ·exact ⟨_,_,by simpa using h,rfl⟩
 ·cases h
noncomputable def ala:Bool:=heads.all fun s=>adU ((mE kgD 3000).fn 106 [.c Hr,.l 2 [kS dH,kS s]] [])
theorem abJ:ala=true:=by kernel_rfl
noncomputable def alf:Bool:=owns.all fun s=>adU ((mE kgD 3000).fn 106 [.c Hr,.l 2 [kS usr,kS s]] [])
theorem abq:alf=true:=by kernel_rfl
theorem ag9 {s:ByteArray} (h:s∈heads):(dH,s)∈names:=
 J0 _ (Kf.2 ⟨s,E2 _ (E2 _ h),rfl⟩)
theorem aml {s:ByteArray} (h:s∈owns):(usr,s)∈names:=
 Kx _ (Kf.2 ⟨s,E2 _ h,rfl⟩)
def xyz (r:Int):ByteArray:=if r=0 then ⟨#[120]⟩ else if r=1 then ⟨#[121]⟩ else ⟨#[122]⟩
theorem akR {r:Int} (h1:0<=r) (h2:r < 3):((LU (some (ci r)) none (cs ⟨#[120,121,122]⟩)).bind fun c=>LU none (some (ci 1)) c)=some (cs (xyz r)):=by
 have h:r=0\/r=1\/r=2:=by omega
 rcases h with rfl|rfl|rfl<;>rfl
theorem ak0 {r:Int} (h1:0<=r) (h2:r < 3):DT 1 (.var usr (xyz r)):=by
 have h:r=0\/r=1\/r=2:=by omega
 rcases h with rfl|rfl|rfl<;>exact akw (by simp [xyz,akz])
def enS (s:ByteArray):List C:=[cs s]
theorem Si (s:ByteArray):(enS s).length=1:=rfl
theorem ajS {l:List ByteArray} {k:Nat} (h:k < l.length):eZ 1 (rows enS l) (ci k)=some (enS l[k]):=kg (f:=enS) Si (Ax h)
def QT:Nat->Nat
 |0=>7
 |d+1=>3 * QT d+1
theorem Yp:∀d,7<=QT d
 |0=>B9 _
 |d+1=>by have:=Yp d;simp only [QT];omega
theorem lF (t u:Tm):fq 11 2 [au (af t) 0,au (af t) 1,au (af t) 2,au (af t) 3,au (af t) 4,au (af t) 5,au (af t) 6,au (af t) 7,au (af t) 8,au (af t) 9,au (af t) 10,au (af u) 0,au (af u) 1,au (af u) 2,au (af u) 3,au (af u) 4,au (af u) 5,au (af u) 6,au (af u) 7,au (af u) 8,au (af u) 9,au (af u) 10]=some (rows af [t,u]):=by
 have h:∀{a b:List C},a=af t->b=af u->fq 11 2 (a++b)=some (rows af [t,u]):=by rintro _ _ rfl rfl;simp [fq,ah,aB,rows]
 exact h (kJ t) (kJ u)
theorem jR (t:Tm):fq 11 1 [au (af t) 0,au (af t) 1,au (af t) 2,au (af t) 3,au (af t) 4,au (af t) 5,au (af t) 6,au (af t) 7,au (af t) 8,au (af t) 9,au (af t) 10]=some (rows af [t]):=by rw [kJ,am1]
section
variable {nat:Nat->List V->Option (List V)}
theorem agv:(T nat).oL 106=some [.one,.agg 2]:=by kernel_rfl
theorem f78 (hn:nS nat) {cw:C} (hw:RK Hr cw) {m:Nat} {p s:ByteArray} (h:adU ((mE kgD m).fn 106 [.c Hr,.l 2 [kS p,kS s]] [])=true):∃(a:Nat) (c:C),a<=3/\bz (T nat).G 106 [.v (.one cw),.v (.agg [cs p,cs s])] []=some ([.one (ci a),.one c],[]):=by obtain ⟨a,b,ha,e⟩:=ah0 h;obtain ⟨c,d,b1,b2,e2⟩:=kc2 hn agv (ts:=[.v (.one (.v 0)),.v (.agg (.all 0))]) rfl (ys:=[.c Hr,.l 2 [kS p,kS s]]) (us:=[.v (.one cw),.v (.agg [cs p,cs s])]) ⟨hw,⟨lU.cons (Qe p) (lU.cons (Qe s) lU.nil),rfl⟩,trivial⟩ e;rw [b1.int] at e2;exact ⟨a,d,ha,e2⟩
theorem x104:bz (T nat).G 104 [] []=some ([.one (rows enS heads)],[]):=by rw [aG ahV];rfl
theorem x105:bz (T nat).G 105 [] []=some ([.one (rows enS owns)],[]):=by rw [aG aij];rfl
theorem x22 (bs:List UInt8) (pos:Nat) (hb:bs.length<=80) (hp:pos<=bs.length):
  ∃(t:Tm) (pos':Nat),bz (T nat).G 22 [.ref 0 0] [bx bs pos]=some ([.agg (af t)],[bx bs pos'])/\DT 1 t/\pos'<=bs.length:=by
 obtain ⟨r,p1,h8,r0,r1,hp1⟩:=x38 (nat:=nat) bs pos hb hp 3 (by omega)
 obtain ⟨c,hc,hw⟩:=A1.1 (akR r0 r1);refine ⟨_,p1,?_,ak0 r0 r1,hp1⟩;rw [aG amZ];simp [t22,zS,h8,hc,hw,x19,mP,ah]
variable {B B1 B2 B3 B4:List C} {cw:C} {d r:Int}
theorem aoi (l0:B.length=2) (l1:B1.length=2) (l2:B2.length=2) {t:Tm} (hr:r < 3) (h8:bz (T nat).G 38 [.ref 0 0,.v (.one (ci 12))] [B]=some ([.one (ci r)],[B1])) (h1:bz (T nat).G 22 [.ref 0 0] [B1]=some ([.agg (af t)],[B2])):
  bz (T nat).G 39 [.ref 0 0,.v (.one cw),.v (.one (ci d))] [B]=some ([.agg (af t)],[B2]):=by
 have h3:¬3 < r:=by omega
 rw [aG Bt];by_cases hd:d < 1<;>simp [u39,af4,NY,zS,h8,hd,h3,hr,h1,l0,l1,l2,ah]
theorem arU (l0:B.length=2) (l1:B1.length=2) (l2:B2.length=2) {t:Tm} (hd:d < 1) (hr:3 < r) (hm:r.tmod 4 < 3) (h8:bz (T nat).G 38 [.ref 0 0,.v (.one (ci 12))] [B]=some ([.one (ci r)],[B1])) (h1:bz (T nat).G 22 [.ref 0 0] [B1]=some ([.agg (af t)],[B2])):
  bz (T nat).G 39 [.ref 0 0,.v (.one cw),.v (.one (ci d))] [B]=some ([.agg (af t)],[B2]):=by
 have hq:cZ .rem false (ci r) (ci 4)=some (ci (r.tmod 4)):=ZF (by omega)
 rw [aG Bt];simp [u39,ac7,zS,h8,hd,hr,hq,hm,h1,l0,l1,l2,ah]
theorem anb (l0:B.length=2) (l1:B1.length=2) (l2:B2.length=2) {o:Ob} (h8:bz (T nat).G 38 [.ref 0 0,.v (.one (ci 12))] [B]=some ([.one (ci 3)],[B1])) (h1:bz (T nat).G 103 [.ref 0 0,.v (.one (ci 1))] [B1]=some ([.agg (enc o)],[B2])):
  bz (T nat).G 39 [.ref 0 0,.v (.one cw),.v (.one (ci d))] [B]=some ([.agg (af (.eG o))],[B2]):=by
 rw [aG Bt];by_cases hd:d < 1<;>simp [u39,af4,ajy,NY,aez,zS,h8,hd,h1,x94,l0,l1,l2,ah,bI]
theorem ar2 (l0:B.length=2) (l1:B1.length=2) (l2:B2.length=2) {o:Ob} (hd:d < 1) (hr:3 < r) (hm:r.tmod 4=3) (h8:bz (T nat).G 38 [.ref 0 0,.v (.one (ci 12))] [B]=some ([.one (ci r)],[B1])) (h1:bz (T nat).G 103 [.ref 0 0,.v (.one (ci 1))] [B1]=some ([.agg (enc o)],[B2])):
  bz (T nat).G 39 [.ref 0 0,.v (.one cw),.v (.one (ci d))] [B]=some ([.agg (af (.eG o))],[B2]):=by
 have hq:cZ .rem false (ci r) (ci 4)=some (ci 3):=by rw [ZF (by omega),hm]
 rw [aG Bt];simp [u39,ac7,ajF,zS,h8,hd,hr,hq,h1,x94,l0,l1,l2,ah,bI]
theorem asY (l0:B.length=2) (l1:B1.length=2) (l2:B2.length=2) (l3:B3.length=2) {q n:Int} {k:Nat} {x:C} {L M:List ByteArray} (e1:bz (T nat).G 104 [] []=some ([.one (rows enS L)],[])) (e2:bz (T nat).G 105 [] []=some ([.one (rows enS M)],[])) (hd:¬d < 1) (hr:3 < r) (hq:q < 3) (hk:k < L.length) (h8:bz (T nat).G 38 [.ref 0 0,.v (.one (ci 12))] [B]=some ([.one (ci r)],[B1])) (J7:bz (T nat).G 38 [.ref 0 0,.v (.one (ci 4))] [B1]=some ([.one (ci q)],[B2])) (h8b:bz (T nat).G 38 [.ref 0 0,.v (.one (ci L.length))] [B2]=some ([.one (ci k)],[B3]))
  (ha:bz (T nat).G 106 [.v (.one cw),.v (.agg [cs dH,cs L[k]])] []=some ([.one (ci n),.one x],[])):
  bz (T nat).G 39 [.ref 0 0,.v (.one cw),.v (.one (ci d))] [B]=bn (T nat).G 39 0 [.c cw,.c (ci d),.c (ci n),.c (ci 0),.l B3,.c (ci 0),.c ce,.c ce,.c (ci 0),.c ce,.c ce,.c ce,.c ce,.c ce,.c cz,.c cz,.l [cs dH,cs L[k]],.c cz]:=by
 have h3:¬r < 3:=by omega
 have h4:(r==3)=false:=C1.2 (by omega)
 have hl:lN false (rows enS L)=some (ci L.length):=rfl;have hx:au (enS L[k]) 0=cs L[k]:=rfl;rw [aG Bt];simp (config := { maxSteps := 2000000 }) [u39,NY,YF,ae3,zZ,h8,hd,h3,h4,e1,e2,J7,hq,hl,h8b,ajS hk,hx,x12,ha,l0,l1,l2,l3,Si]
theorem asJ (l0:B.length=2) (l1:B1.length=2) (l2:B2.length=2) (l3:B3.length=2) {q n:Int} {k:Nat} {x:C} {L M:List ByteArray} (e1:bz (T nat).G 104 [] []=some ([.one (rows enS L)],[])) (e2:bz (T nat).G 105 [] []=some ([.one (rows enS M)],[])) (hd:¬d < 1) (hr:3 < r) (hq:¬q < 3) (hk:k < M.length) (h8:bz (T nat).G 38 [.ref 0 0,.v (.one (ci 12))] [B]=some ([.one (ci r)],[B1])) (J7:bz (T nat).G 38 [.ref 0 0,.v (.one (ci 4))] [B1]=some ([.one (ci q)],[B2])) (h8b:bz (T nat).G 38 [.ref 0 0,.v (.one (ci M.length))] [B2]=some ([.one (ci k)],[B3]))
  (ha:bz (T nat).G 106 [.v (.one cw),.v (.agg [cs usr,cs M[k]])] []=some ([.one (ci n),.one x],[])):
  bz (T nat).G 39 [.ref 0 0,.v (.one cw),.v (.one (ci d))] [B]=bn (T nat).G 39 0 [.c cw,.c (ci d),.c (ci n),.c (ci 0),.l B3,.c (ci 0),.c ce,.c ce,.c (ci 0),.c ce,.c ce,.c ce,.c ce,.c ce,.c cz,.c cz,.l [cs usr,cs M[k]],.c cz]:=by
 have h3:¬r < 3:=by omega
 have h4:(r==3)=false:=C1.2 (by omega)
 have hl:lN false (rows enS M)=some (ci M.length):=rfl;have hx:au (enS M[k]) 0=cs M[k]:=rfl;rw [aG Bt];simp (config := { maxSteps := 2000000 }) [u39,NY,YF,ael,zZ,h8,hd,h3,h4,e1,e2,J7,hq,hl,h8b,ajS hk,hx,aky,ha,l0,l1,l2,l3,Si]
end
end Go.Ey.Pr
set_option maxHeartbeats 4000000
namespace Go.Ey.Pr
open Go.Ey Go.Ey.Seat
section
variable {nat:Nat->List V->Option (List V)}
def ajs (nat:Nat->List V->Option (List V)) (bs:List UInt8) (cw:C) (d:Nat):Prop:=
 ∀pos,pos<=bs.length->∃(t:Tm) (pos':Nat),bz (T nat).G 39 [.ref 0 0,.v (.one cw),.v (.one (ci d))] [bx bs pos]=some ([.agg (af t)],[bx bs pos'])/\DT (QT d) t/\pos'<=bs.length
theorem Sl (bs:List UInt8) (cw:C) (d:Nat) (hd:d < 100) (ih:ajs nat bs cw d) (p s:ByteArray) (n:Nat) (hn:n<=3):∀(m i:Nat) (acc:List Tm) (pos:Nat),i+m=n->acc.length=i->(∀x∈acc,DT (QT d) x)->pos<=bs.length->
  ∃(l:List Tm) (pos':Nat),bn (T nat).G 39 0 [.c cw,.c (ci ((d+1:Nat):Int)),.c (ci n),.c (ci i),.l (bx bs pos),.c (ci 0),.c ce,.c ce,.c (ci 0),.c ce,.c ce,.c ce,.c ce,.c ce,.c cz,.c cz,.l [cs p,cs s],.c (rows af acc)]=some ([.agg (af (.app p s l))],[bx bs pos'])/\l.length=n/\(∀x∈l,DT (QT d) x)/\pos'<=bs.length
 |0,i,acc,pos,hi,hc,ha,hp=>by
  have hlt:¬((i:Int) < (n:Int)):=by omega
  refine ⟨acc,pos,?_,by omega,ha,hp⟩
  rw [ai Bt (t:=aer[0]) rfl];simp [aer,zZ,hlt,x54,mP,ah]
 |m+1,i,acc,pos,hi,hc,ha,hp=>by
  have hlt:((i:Int) < (n:Int)):=by omega
  obtain ⟨t,pos1,h1,h2,h3⟩:=ih pos hp;obtain ⟨l,pos2,g1,g2,g3,g4⟩:=Sl bs cw d hd ih p s n hn m (i+1) (acc++[t]) pos1 (by omega) (by simp [hc]) (fun x hx=>by
   rcases Bx.1 hx with h|h
   ·exact ha x h
   ·simp only [By] at h;subst h;exact h2) h3
  refine ⟨l,pos2,?_,g2,g3,g4⟩;have hs:cZ .sub false (ci ((d+1:Nat):Int)) (ci 1)=some (ci (d:Int)):=by
   rw [lJ (by omega) (by omega)]
   exact F0 (fun x=>some (ci x)) (by omega)
  have hap:=D8 (acc:=acc) (x:=t) (by omega)
  have hs2:=ax i (by omega)
  rw [ai Bt (t:=aer[0]) rfl];simp [-Int.natCast_add,aer,zZ,hlt,hs,h1,kR,hap,hs2,g1,mP,ah]
theorem Zp {o:Ob} {d:Nat} (h:Dr 1 o):DT (QT d) (.eG o):=akX h.1 (Dg h.2.1 (Yp d))
theorem amW {t:Tm} {d:Nat} (h:DT 1 t):DT (QT d) t:=h.mono (by have:=Yp d;omega)
theorem ajx {p s:ByteArray} {l:List Tm} {d:Nat} (hs:(p,s)∈names) (hl:l.length<=3) (h:∀t∈l,DT (QT d) t):DT (QT (d+1)) (.app p s l):=by
 refine (amV hs h).mono ?_;have:=Cl (QT d) hl
 simp only [QT];omega
theorem x39 (na:jq nat) (hi:nS nat) {cw:C} (hw:RK Hr cw) (bs:List UInt8) (hb:bs.length<=80):∀d:Nat,d < 100->ajs nat bs cw d:=by
 intro d;induction d with
 |zero=>
  intro _ pos hp;obtain ⟨r,p1,h8,r0,r1,hp1⟩:=x38 (nat:=nat) bs pos hb hp 12 (by omega)
  obtain ⟨v,p2,hv,dv,hp2⟩:=x22 (nat:=nat) bs p1 hb hp1;obtain ⟨o,p3,ho,dro,hp3⟩:=x103 (nat:=nat) na bs hb 1 (by omega) p1 hp1
  have hd:((0:Nat):Int) < 1:=by omega
  by_cases h3:r < 3
  ·exact ⟨v,p2,aoi rfl rfl rfl h3 h8 hv,amW dv,hp2⟩
  ·by_cases h4:r=3
   ·subst h4;exact ⟨.eG o,p3,anb rfl rfl rfl h8 ho,Zp dro,hp3⟩
   ·have hm0:0<=r.tmod 4:=Int.tmod_nonneg _ (by omega)
    have hm1:r.tmod 4 < 4:=Int.tmod_lt_of_pos _ (by omega)
    by_cases h5:r.tmod 4 < 3
    ·exact ⟨v,p2,arU rfl rfl rfl hd (by omega) h5 h8 hv,amW dv,hp2⟩
    ·exact ⟨.eG o,p3,ar2 rfl rfl rfl hd (by omega) (by omega) h8 ho,Zp dro,hp3⟩
 |succ d ih=>
  intro hd' pos hp;have ih:=ih (by omega)
  obtain ⟨r,p1,h8,r0,r1,hp1⟩:=x38 (nat:=nat) bs pos hb hp 12 (by omega)
  have hd:¬((d+1:Nat):Int) < 1:=by omega
  by_cases h3:r < 3
  ·obtain ⟨v,p2,hv,dv,hp2⟩:=x22 (nat:=nat) bs p1 hb hp1;exact ⟨v,p2,aoi rfl rfl rfl h3 h8 hv,amW dv,hp2⟩
  ·by_cases h4:r=3
   ·subst h4;obtain ⟨o,p3,ho,dro,hp3⟩:=x103 (nat:=nat) na bs hb 1 (by omega) p1 hp1
    exact ⟨.eG o,p3,anb rfl rfl rfl h8 ho,Zp dro,hp3⟩
   ·obtain ⟨q,p2,J7,q0,q1,hp2⟩:=x38 (nat:=nat) bs p1 hb hp1 4 (by omega)
    by_cases h5:q < 3
    ·obtain ⟨k,p3,h8b,k0,k1,hp3⟩:=x38 (nat:=nat) bs p2 hb hp2 (heads.length:Nat) (by decide)
     obtain ⟨k,rfl⟩:=Int.eq_ofNat_of_zero_le k0;have hk:k < heads.length:=by omega
     obtain ⟨n,x,hn,ha⟩:=f78 hi hw (E0.1 abJ heads[k] (A5 hk));have e:=asY rfl rfl rfl rfl x104 x105 hd (by omega) h5 hk h8 J7 h8b ha
     obtain ⟨l,p4,g1,g2,g3,g4⟩:=Sl bs cw d (by omega) ih dH heads[k] n hn n 0 [] p3 (by omega) rfl (fun x hx=>by cases hx) hp3
     exact ⟨_,p4,e.trans g1,ajx (ag9 (A5 hk)) (by omega) g3,g4⟩
    ·obtain ⟨k,p3,h8b,k0,k1,hp3⟩:=x38 (nat:=nat) bs p2 hb hp2 (owns.length:Nat) (by decide)
     obtain ⟨k,rfl⟩:=Int.eq_ofNat_of_zero_le k0;have hk:k < owns.length:=by omega
     obtain ⟨n,x,hn,ha⟩:=f78 hi hw (E0.1 abq owns[k] (A5 hk));have e:=asJ rfl rfl rfl rfl x104 x105 hd (by omega) h5 hk h8 J7 h8b ha
     obtain ⟨l,p4,g1,g2,g3,g4⟩:=Sl bs cw d (by omega) ih usr owns[k] n hn n 0 [] p3 (by omega) rfl (fun x hx=>by cases hx) hp3
     exact ⟨_,p4,e.trans g1,ajx (aml (A5 hk)) (by omega) g3,g4⟩
end
end Go.Ey.Pr
