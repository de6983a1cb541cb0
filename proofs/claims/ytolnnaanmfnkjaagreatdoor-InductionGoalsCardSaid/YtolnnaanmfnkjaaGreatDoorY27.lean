/- A part. -/
import Derived.Test.YtolnnaanmfnkjaaGreatDoorY25
import Derived.Test.YtolnnaanmfnkjaaGreatDoorY26
set_option linter.all false
namespace Go.Ey.Pr
open Go.Ey Go.Ey.Seat
section
variable {nat:Nat->List V->Option (List V)}
theorem aex:(T nat).oL 34=some []:=by kernel_rfl
theorem world (hn:nS nat):∃us,aF Uw [.c wpK] us/\bz (T nat).G 34 [] []=some (us,[]):=by
 obtain ⟨v0,e0,l0,h0⟩:=K3 (E9 hn) (p:=[]) aex (ts:=[]) rfl (ys:=[]) (us:=[]) trivial (zs:=[]) (css:=[]) trivial wd0;obtain ⟨v1,e1,l1,h1⟩:=je (E9 hn) 12 e0 l0 wd1;obtain ⟨v2,e2,l2,h2⟩:=je (E9 hn) 6 e1 l1 wd2;obtain ⟨v3,e3,l3,h3⟩:=je (E9 hn) 4 e2 l2 wd3;obtain ⟨v4,e4,l4,h4⟩:=je (E9 hn) 3 e3 l3 wd4;obtain ⟨v5,e5,l5,h5⟩:=je (E9 hn) 3 e4 l4 wd5;obtain ⟨r,hr,hv,hb⟩:=TD (E9 hn) (f:=34) (h:=0) e5 (by rw [l5];exact wd6)
 have h9:r.2=[]:=by obtain ⟨r1,r2⟩:=r;cases r2 with|nil=>rfl|cons _ _=>exact hb.elim
 refine ⟨r.1,hv,?_⟩;rw [h0,h1,h2,h3,h4,h5,hr,<-h9]
noncomputable def aeY:GI:=⟨[],[],.ret [.one (.k wpK)] [],[]⟩
theorem Xq (hn:nS nat):AX (T nat).G (T nat).oL 34 aeY:=by obtain ⟨us,h1,h2⟩:=world hn;exact IK aex (ws:=[.c wpK]) h1 (fun _ _=>rfl) h2
noncomputable def kgD:KG:=.node 34 aeY kgC kgC
theorem Yz (hn:nS nat):Cy (T nat).G (T nat).oL kgD:=ae6 (E9 hn) (Xq hn)
end
end Go.Ey.Pr
namespace Go.Ey.Pr
open Go.Ey Go.Ey.Rc
noncomputable def arq:List K:=ou 0x5d5c67836fa3882319e0dbe8e33d43e40eb9a4e739d523ae691a3789a319cdd00954
noncomputable def asG:List K:=ou 0x5d5b2a08b280320402336aa6beb919c031110c59977aeb3ead705903ae1f9664e3b7e6e76307b78f79b331a249a7634f7d34d26331a8cfe40cfcd7edf9b1179a00b2e
noncomputable def arX:List K:=ou 0x5d5cfe08cff3d59b89e7478eb79dbf09f19f17
noncomputable def atw:List K:=ou 0x5d5ef4f409402094cd11c2f910338fecf4e1a8ef7289fb88094cdef77ef08470be44a9b28e6a7e9e4f5
noncomputable def arL:List K:=ou 0x5d5cee08cef7e3ebaac1a40cef286a33b82f881172e
noncomputable def arT:List K:=ou 0x5d5eec01823bb8fecff0bbb007286a3bc82f881172e
noncomputable def ari:List K:=ou 0x5d5efa08efb3df0bbeb1b7d34e79c15443110478f9a00b2e
noncomputable def atF:List K:=ou 0x5d5c653909490823194e4252433db0dc3df5c39e554
noncomputable def atb:List K:=ou 0x5d5ef208ef37e920d7e739c00954
noncomputable def wlE:List (List K):=[arq,asG,arX,atw,arL,arT,ari,atF,atb]++wmE
noncomputable def Hr:K:=.sl 32 wlE 38
theorem wl0:(mE kgD 3000).fn 10 [.c (.i .u32 0)] []=.ret [.c Hr] []:=by kernel_rfl
open Go.Ey.Seat
section
variable {nat:Nat->List V->Option (List V)}
theorem akb:(T nat).oL 10=some [.one]:=by kernel_rfl
theorem SN (hn:nS nat):∃c,RK Hr c/\bz (T nat).G 10 [.v (.one (.lit (.int .u32 0)))] []=some ([.one c],[]):=by
 obtain ⟨r1,g1,g2,g3⟩:=JG (Yz hn) akb (ts:=[.v (.one (.v 0))]) rfl (ys:=[.c (.i .u32 0)]) (us:=[.v (.one (.lit (.int .u32 0)))]) ⟨RK.i _ _,trivial⟩ (zs:=[]) (css:=[]) trivial wl0;obtain ⟨a1,b1⟩:=r1
 match a1,b1,g2,g3 with
 |[.one c1],[],g2,_=>exact ⟨c1,g2.1,g1⟩
end
end Go.Ey.Pr
namespace Go.Ey.Rt
open Go Go.Ey
@[simp] def aP a:=TW.c (.v a)
@[simp] def gV:=Value.string ⟨#[]⟩
@[simp] def iW a:=Value.int .i64 a
@[simp] def jJ a:=At.k (iW a)
@[simp] def jQ a b c:=Tree.ite (.v a) b c
@[simp] def kP a:=TA.v (.one a)
@[simp] def lG a:=TV.agg (.all a)
@[simp] def lI a:=TW.l (.all a)
@[simp] def nU a:=At.k (.bool a)
@[simp] def oU a b c d e:=Tree.call a b [] c d e
@[simp] def oV a:=At.k (.string a)
@[simp] def oW a b:=Tree.ret [a] b
@[simp] def pE:=At.k gV
@[simp] def pF:=TV.one (nU false)
@[simp] def pG a b c d:=Tree.row a (.v b) (.v c) d
@[simp] def pM a:=TA.v (lG a)
@[simp] def pO a:=kP (.v a)
@[simp] def pQ a:=TV.agg (.lit a)
@[simp] def pR a b c d:=Tree.fG (.bin a false (.v b) (.v c)) d
@[simp] def pU a b c d:=Tree.fG a (jQ b c d)
@[simp] def pV (a:Nat):List (Option Nat):=[some a]
@[simp] def pW a b c d:=Tree.fG (.lits a b c) d
@[simp] def pY a b c d e:=Tree.fG (.app a b c d) e
@[simp] def qC a b c d e:=pR .lss a b (jQ c d e)
@[simp] def qD a b:=Tree.fG (.len false (.v a)) b
@[simp] def qE a b c d:=Tree.fG (.bin a false (.v b) (jJ c)) d
@[simp] def qF (a:Nat):List SL:=[.all a]
@[simp] def qH a:=TV.one (.v a)
@[simp] def qJ a:=Tree.goto 0 a
@[simp] def qL a b:=kP (.n a b)
@[simp] def qO a b c:=Tree.fG (.len false (.n a b)) c
@[simp] def qP a b c d:=pU (.un .not (.v a)) b c d
@[simp] def qQ:=TW.c pE
@[simp] def qU:=aP 0
@[simp] def qV:=TV.one (nU true)
@[simp] def qW a b:=TW.c (.n a b)
@[simp] def qX a b c d:=jQ a (oW b c) d
@[simp] def qY a b c d e:=Tree.row a (.n b c) (.v d) e
@[simp] def rD a b c d e:=qE .eql a b (jQ c d e)
@[simp] def rE a:=kP (oV a)
@[simp] def rH a b c d e:=Tree.fG (.bin a false (.n b c) d) e
@[simp] def rM:=TW.c .z
@[simp] def rP:=aP 10
@[simp] def rQ:=aP 11
@[simp] def rR:=aP 1
@[simp] def rU a:=kP (jJ a)
@[simp] def rW:=TW.c (jJ 0)
@[simp] def rX a:=oW a []
@[simp] def rY a b c d e:=qC a b c d (rX e)
@[simp] def rZ a b c:=Tree.fG (.bin .add false (.v a) (jJ 1)) (.goto b c)
@[simp] def sD:=aP 12
@[simp] def sI a:=Tree.ret a []
@[simp] def sJ:=oV ⟨#[108,105,115,112]⟩
@[simp] def sK:=aP 13
@[simp] def sM a:=At.n a 10
@[simp] def sO:=rE ⟨#[110,111,116]⟩
@[simp] def sP:=aP 15
@[simp] def sS:=aP 14
@[simp] def sU:=aP 16
@[simp] def sV a b c:=oU a b [none] [] c
@[simp] def sW:=aP 17
@[simp] def tF:=aP 18
@[simp] def tH a b c d e:=pY a b (.v c) (.v d) e
@[simp] def tJ:=aP 2
@[simp] def tL a b c:=pG 16 a b c
@[simp] def tQ (a b:Nat):List TA:=[pM a,pM b]
@[simp] def tT a:=At.n 0 a
@[simp] def tV a:=At.n 10 a
@[simp] def tX a:=TA.v (pQ a)
@[simp] def tZ a b c d:=oU a b (pV c) [] d
@[simp] def uA a b c d e:=tZ a b c (oW (lG d) (qF e))
@[simp] def uB a:=At.n 12 a
@[simp] def uC:=jJ 0
@[simp] def uD:=aP 9
@[simp] def uE a b c:=tZ a b 11 c
@[simp] def uF (a:TA) (b:Nat):List TA:=[a,pO b]
@[simp] def uG:=aP 6
@[simp] def uH:=aP 5
@[simp] def uI a:=Tree.goto 1 a
@[simp] def uJ a:=At.n 13 a
@[simp] def uK a b c d:=Tree.fG (.Mq a b c) d
@[simp] def uL:=aP 19
@[simp] def uM a b c d:=sV a (tQ b c) d
@[simp] def uN:=aP 4
@[simp] def uO:=aP 7
@[simp] def uP:=aP 8
@[simp] def uQ (a:Nat):Option At:=some (.v a)
@[simp] def uR a:=At.n 9 a
@[simp] def uS:=aP 3
@[simp] def uU a:=At.n 8 a
@[simp] def uV:=aP 20
@[simp] def uW a:=rX (qH a)
@[simp] def uX (a b:Nat):List PS:=[.agg a,.agg b]
@[simp] def uY a:=At.n 24 a
@[simp] def uZ (a:Nat):List PS:=[.agg a]
@[simp] def vB a:=qD 0 a
@[simp] def vC a b c:=pR .neq a b c
@[simp] def vE a b c:=qE .sub a b c
@[simp] def vF a b c d:=qX a (.one b) c d
@[simp] def vG:=rE ⟨#[101,113,117,97,108]⟩
@[simp] def vI a b c:=qP a b (rX pF) c
@[simp] def vJ a b c d e:=vI a b (rZ c d e)
@[simp] def vK a b c d:=uE a (uF b c) d
@[simp] def vM:List PS:=[.one,.one]
@[simp] def vN:=aP 27
@[simp] def vO (a:Nat):List PS:=[.one,.agg a]
@[simp] def vP a:=At.n 19 a
@[simp] def vR:=aP 22
@[simp] def vS:=aP 24
@[simp] def vT:=aP 25
@[simp] def vU:=aP 26
@[simp] def vV:=aP 33
@[simp] def vW a b c d e:=vB (rY a b c d e)
@[simp] def wB (a:Nat):List TA:=[pO a]
@[simp] def wE a b c:=OpC.eqs a false (.lit b) c
@[simp] def wF:=aP 23
@[simp] def wG:=aP 28
@[simp] def wH a:=At.n 1 a
@[simp] def wI:=aP 32
@[simp] def wJ a:=rX (pQ a)
@[simp] def wK:=TW.c (nU false)
@[simp] def wL a:=At.n 7 a
@[simp] def wM:=aP 21
@[simp] def wN:=aP 29
@[simp] def wO:=aP 30
@[simp] def wP:=aP 31
@[simp] def wS (a b c d:Nat):List TA:=[qL a b,qL c d]
@[simp] def wT (a:Nat):List TA:=[pM a]
@[simp] def wV (a:TW) (b c:Nat):List TW:=[a,lI b,lI c]
@[simp] def wW:=TA.ref 0 0
@[simp] def wX a b c d e:=jQ a (rZ b c d) e
@[simp] def wY a:=vB (qJ a)
@[simp] def wZ:=aP 39
@[simp] def xA a b c d:=rH .eql a b (jJ c) d
@[simp] def xH:=aP 34
@[simp] def xI a b c:=jQ a b (rX c)
@[simp] def xJ a b c:=pG 11 a b c
@[simp] def xK a b c:=qX a pF b c
@[simp] def xL a b c d:=sV a (uF b c) d
@[simp] def xM a b c:=wE a b (.lit c)
@[simp] def xN a b:=rZ a 0 b
@[simp] def xP:List PS:=[.one]
@[simp] def xQ a:=At.n 27 a
@[simp] def xR:=oV ⟨#[97,98,99]⟩
@[simp] def xU a b c d e:=vB (qC a b c d e)
@[simp] def xV a:=Tree.goto 2 a
@[simp] def xW:=aP 38
@[simp] def xX a b c:=qE .lss a b c
@[simp] def xY:=aP 37
@[simp] def xZ:=oV ⟨#[112,113]⟩
@[simp] def yA a b c:=pG 13 a b c
@[simp] def yB a b:=tL 0 a b
@[simp] def yC a b c:=uE a (wT b) c
@[simp] def yD a b c d e:=vC a b (xK c d e)
@[simp] def yE a b c:=pW 11 a b c
@[simp] def yF:Option Nat:=some 16
@[simp] def yG (a:Nat):List PS:=[.agg a,.one]
@[simp] def yH a b c d:=Tree.call 38 [wW,rU a] (qF b) [none] c d
@[simp] def yI:=rE ⟨#[49]⟩
@[simp] def yJ a b c d:=OpC.eqs a b (.all c) d
@[simp] def yL:=aP 36
@[simp] def yM a b c:=jQ a (sI [pQ b,pF]) c
@[simp] def yN:=lI 3
@[simp] def yO a:=oW (lG a) []
@[simp] def yP:=rE ⟨#[45,53]⟩
@[simp] def yQ a b c d e:=rH a b c (wH d) e
@[simp] def yR a:=At.n a 0
@[simp] def yS:=aP 35
@[simp] def yT:=aP 40
@[simp] def yV:=TW.c (nU true)
@[simp] def yX a b c d e:=Tree.fG (.sub a b c d) e
@[simp] def yY:=aP 41
@[simp] def yZ a b:=qO a 14 b
@[simp] def zA a b c d:=qP a b (sI [pQ c,pF]) d
@[simp] def zB a b c d:=sV a [pO b,pM c] d
@[simp] def zC (a:Int):Option At:=some (jJ a)
@[simp] def zD a b c d e:=uA a (wB b) c d e
@[simp] def zF a b:=vB (qD a b)
end Go.Ey.Rt
set_option maxHeartbeats 4000000
namespace Go.Ey.Pr
open Go.Ey Go.Ey.Rt Go.Ey.Seat
def t12:bO:=⟨xP,[],wJ [sJ,.v 0],[]⟩
def t13:bO:=⟨xP,[],wJ [oV ⟨#[117,115,101,114]⟩,.v 0],[]⟩
def t18:bO:=⟨vM,[],vK 52 (pO 0) 1 (yO 2),[]⟩
def t19:bO:=⟨xP,[],tZ 13 (wB 0) 2 (yC 53 1 (yO 2)),[]⟩
def t22:bO:=⟨[.ref 0 0],[2],yH 3 0 [2] (uK (oV ⟨#[120,121,122]⟩) (uQ 1) none (uK (.v 3) none (zC 1) (zD 19 4 11 5 2))),[]⟩
def t38:bO:=⟨[.ref 0 0,.one],[2],qO 1 0 (rH .geq 1 1 (.v 2) (vF 3 uC (qF 1) (xX 0 1 (vF 4 uC (qF 1) (rH .add 1 1 (jJ 1) (vE 5 1 (qY 1 1 0 6 (.fG (.conv .i64 (wL 0)) (pR .rem 8 0 (oW (qH 9) [.lit [wH 0,.v 5]])))))))))),[]⟩
def t41:bO:=⟨vM,[],zF 1 (pR .add 2 3 (.fG (.mk 11 176 [iW 0,gV,gV,iW 0,gV,gV,gV,gV,gV,.slice none 0 0,.slice none 0 0] uC (.v 4)) (tH 11 176 5 0 (qJ [rR,rW,uG])))),[vW 1 3 4 (xJ 0 1 (zB 107 2 5 (qP 6 7 (xJ 0 1 (yE 1 [uU 0,uU 1,uU 2,uU 3,uU 4,uU 5,uU 6,uU 7,uU 8,uU 9,sM 8] (tH 11 176 2 9 (xN 1 [qU,rQ,rP])))) (xN 1 [qU,uP,tJ])))) (qH 2)]⟩
def t49:bO:=⟨uX 11 11,[],yQ .eql 0 0 0 (xI 2 (pU (xM [1,1] [tT 1,tT 2] [wH 1,wH 2]) 3 (sV 125 [tX [tT 3,tT 4,tT 5,tT 6,tT 7,tT 8,tT 9],tX [wH 3,wH 4,wH 5,wH 6,wH 7,wH 8,wH 9]] (xI 4 (sV 126 (wS 0 10 1 10) (uW 5)) pF)) (rX pF)) pF),[]⟩
def t52:bO:=⟨vM,[],tZ 80 (wB 0) 2 (vK 54 (pM 2) 1 (yO 3)),[]⟩
def t53:bO:=⟨uZ 2,[],wJ [jJ 1,tT 0,tT 1,uC,pE,pE,pE,pE,pE,.z,.z],[]⟩
def t54:bO:=⟨yG 2,[],wJ [jJ 3,tT 0,tT 1,uC,pE,pE,pE,pE,pE,.z,.v 1],[]⟩
def t80:bO:=⟨xP,[],wJ [sJ,.v 0],[]⟩
def t94:bO:=⟨uZ 7,[],wJ [jJ 2,pE,pE,tT 0,tT 1,tT 2,tT 3,tT 4,tT 5,tT 6,.z],[]⟩
def t95:bO:=⟨[],[],tZ 80 [rE ⟨#[116]⟩] 2 (tZ 152 (wT 0) 7 (yO 1)),[]⟩
def t103:bO:=⟨[.ref 0 0,.one],[2],yH 14 1 [2] (xX 0 1 (jQ 4 (qE .gtr 2 9 (jQ 5 (vE 2 8 (rD 6 0 7 (uA 137 [] 7 8 3) (rD 6 1 8 (uA 95 [] 7 9 3) (rD 6 2 9 (yH 7 3 [2] (vE 10 3 (zD 147 12 7 13 11))) (rD 6 3 10 (yH 7 3 [2] (vE 11 3 (zD 147 13 7 14 12))) (rD 6 4 11 (uA 159 [yI,rE ⟨#[50]⟩] 7 12 3) (rD 6 5 12 (uA 159 [yP,rE ⟨#[51]⟩] 7 13 3) (rD 6 6 13 (yH 3 3 [2] (uK xR (uQ 14) none (uK (.v 16) none (zC 1) (tZ 13 (wB 17) 2 (uA 152 (wT 18) 7 19 15))))) (rD 6 7 14 (yH 3 3 [2] (uK xZ none (uQ 15) (zD 160 17 7 18 16))) (rD 6 8 15 (uA 147 [rU 0] 7 16 3) (rD 6 9 16 (uA 147 [rU 1] 7 17 3) (rD 6 10 17 (yH 4 3 [2] (qJ [qU,tF,rW,lI 19,rW,qQ,qQ,qQ,qQ,qQ,rM,rM])) (rD 6 11 18 (yH 4 3 [2] (qJ [qU,uL,rW,lI 20,rW,qQ,qQ,qQ,qQ,qQ,rM,rM])) (rD 6 12 19 (yH 4 3 [2] (qJ [qU,uV,rW,lI 21,rW,qQ,qQ,qQ,qQ,qQ,rM,rM])) (vE 0 1 (.call 103 (uF wW 20) (qF 3) (pV 7) [2] (vE 0 1 (.call 103 (uF wW 23) (qF 22) (pV 7) [2] (uA 162 (tQ 21 24) 7 26 25))))))))))))))))))) (rD 2 0 6 (uA 137 [] 7 7 3) (rD 2 1 7 (uA 95 [] 7 8 3) (rD 2 2 8 (yH 7 3 [2] (vE 9 3 (zD 147 11 7 12 10))) (rD 2 3 9 (yH 7 3 [2] (vE 10 3 (zD 147 12 7 13 11))) (rD 2 4 10 (uA 159 [yI,rE ⟨#[50]⟩] 7 11 3) (rD 2 5 11 (uA 159 [yP,rE ⟨#[51]⟩] 7 12 3) (rD 2 6 12 (yH 3 3 [2] (uK xR (uQ 13) none (uK (.v 15) none (zC 1) (tZ 13 (wB 16) 2 (uA 152 (wT 17) 7 18 14))))) (rD 2 7 13 (yH 3 3 [2] (uK xZ none (uQ 14) (zD 160 16 7 17 15))) (rD 2 8 14 (uA 147 [rU 0] 7 15 3) (rD 2 9 15 (uA 147 [rU 1] 7 16 3) (rD 2 10 16 (yH 4 3 [2] (qJ [qU,sW,rW,lI 18,rW,qQ,qQ,qQ,qQ,qQ,rM,rM])) (rD 2 11 17 (yH 4 3 [2] (qJ [qU,tF,rW,lI 19,rW,qQ,qQ,qQ,qQ,qQ,rM,rM])) (rD 2 12 18 (yH 4 3 [2] (qJ [qU,uL,rW,lI 20,rW,qQ,qQ,qQ,qQ,qQ,rM,rM])) (vE 0 1 (.call 103 (uF wW 19) (qF 3) (pV 7) [2] (vE 0 1 (.call 103 (uF wW 22) (qF 21) (pV 7) [2] (uA 162 (tQ 20 23) 7 25 24)))))))))))))))))))) (rD 2 0 5 (uA 137 [] 7 6 3) (rD 2 1 6 (uA 95 [] 7 7 3) (rD 2 2 7 (yH 7 3 [2] (vE 8 3 (zD 147 10 7 11 9))) (rD 2 3 8 (yH 7 3 [2] (vE 9 3 (zD 147 11 7 12 10))) (rD 2 4 9 (uA 159 [yI,rE ⟨#[50]⟩] 7 10 3) (rD 2 5 10 (uA 159 [yP,rE ⟨#[51]⟩] 7 11 3) (rD 2 6 11 (yH 3 3 [2] (uK xR (uQ 12) none (uK (.v 14) none (zC 1) (tZ 13 (wB 15) 2 (uA 152 (wT 16) 7 17 13))))) (rD 2 7 12 (yH 3 3 [2] (uK xZ none (uQ 13) (zD 160 15 7 16 14))) (rD 2 8 13 (uA 147 [rU 0] 7 14 3) (rD 2 9 14 (uA 147 [rU 1] 7 15 3) (rD 2 10 15 (yH 4 3 [2] (qJ [qU,sU,rW,lI 17,rW,qQ,qQ,qQ,qQ,qQ,rM,rM])) (rD 2 11 16 (yH 4 3 [2] (qJ [qU,sW,rW,lI 18,rW,qQ,qQ,qQ,qQ,qQ,rM,rM])) (rD 2 12 17 (yH 4 3 [2] (qJ [qU,tF,rW,lI 19,rW,qQ,qQ,qQ,qQ,qQ,rM,rM])) (vE 0 1 (.call 103 (uF wW 18) (qF 3) (pV 7) [2] (vE 0 1 (.call 103 (uF wW 21) (qF 20) (pV 7) [2] (uA 162 (tQ 19 22) 7 24 23)))))))))))))))))))),[qC 2 1 12 (vE 0 1 (.call 103 (uF wW 13) (qF 3) (pV 7) [2] (pW 7 1 [yR 14,.n 14 1,.n 14 2,.n 14 3,.n 14 4,.n 14 5,.n 14 6] (tH 7 112 11 16 (xN 2 [qU,rR,tF,lI 15,uN,uH,uG,uO,uP,uD,rP,sW]))))) (zD 161 11 7 13 3)]⟩
def t104:bO:=⟨[],[],pW 1 25 [oV ⟨#[99,97,114]⟩,oV ⟨#[99,100,114]⟩,oV ⟨#[99,111,110,115]⟩,oV ⟨#[99,111,110,115,112]⟩,oV ⟨#[110,111,116]⟩,oV ⟨#[101,113,117,97,108]⟩,oV ⟨#[105,102]⟩,oV ⟨#[98,105,110,97,114,121,45,43]⟩,oV ⟨#[60]⟩,oV ⟨#[105,110,116,101,103,101,114,112]⟩,oV ⟨#[108,101,110]⟩,oV ⟨#[98,105,110,97,114,121,45,97,112,112,101,110,100]⟩,oV ⟨#[114,101,118]⟩,oV ⟨#[116,114,117,101,45,108,105,115,116,112]⟩,oV ⟨#[110,97,116,112]⟩,oV ⟨#[112,111,115,112]⟩,oV ⟨#[117,110,97,114,121,45,45]⟩,oV ⟨#[98,105,110,97,114,121,45,42]⟩,oV ⟨#[105,109,112,108,105,101,115]⟩,oV ⟨#[115,121,109,98,111,108,112]⟩,oV ⟨#[114,97,116,105,111,110,97,108,112]⟩,oV ⟨#[102,105,120]⟩,oV ⟨#[105,102,102]⟩,oV ⟨#[110,102,105,120]⟩,oV ⟨#[122,112]⟩] (uW 0),[]⟩
def t105:bO:=⟨[],[],pW 1 8 [oV ⟨#[100,117,98]⟩,oV ⟨#[115,97,109,101,45,108,101,110]⟩,oV ⟨#[112,97,105,114,115]⟩,oV ⟨#[100,117,98,115]⟩,oV ⟨#[116,114,101,101]⟩,oV ⟨#[101,118,101,110,115]⟩,oV ⟨#[111,100,100,115]⟩,oV ⟨#[120,111,114,50]⟩] (uW 0),[]⟩
def t107:bO:=⟨vO 11,[],qJ [qU,rW,lI 1],[vW 1 3 4 (xJ 0 1 (uM 49 5 2 (qX 6 qV [] (xN 1 [qU,uO,lI 2])))) pF]⟩
def t114:bO:=⟨uX 11 11,[],yQ .eql 0 0 0 (xI 2 (pU (xM [1,1] [tT 1,tT 2] [wH 1,wH 2]) 3 (sV 169 [tX [tT 3,tT 4,tT 5,tT 6,tT 7,tT 8,tT 9],tX [wH 3,wH 4,wH 5,wH 6,wH 7,wH 8,wH 9]] (xI 4 (sV 365 [qL 0 10,qL 1 10,wW] (uW 5)) pF)) (rX pF)) pF),[]⟩
def t125:bO:=⟨uX 7 7,[],yQ .neq 0 0 0 (xK 2 [] (yQ .neq 0 1 1 (xK 3 [] (yQ .neq 0 2 2 (xK 4 [] (pU (.eqs [1,1] true (.lit [tT 3,tT 4]) (.lit [wH 3,wH 4])) 5 (rX pF) (yQ .neq 0 5 5 (xK 6 [] (qO 0 6 (qO 1 6 (yD 7 8 9 [] (qJ (wV rW 0 1))))))))))))),[qO 1 6 (rY 0 3 4 (qY 7 1 6 0 (qY 7 2 6 0 (uM 125 5 6 (vJ 7 8 0 0 (wV uD 1 2))))) qV)]⟩
def t126:bO:=⟨vM,[],zF 1 (yD 2 3 4 [] (qJ [qU,rR,rW])),[vW 2 3 4 (xJ 0 2 (xJ 1 2 (uM 49 5 6 (vJ 7 8 2 0 [qU,rR,uD])))) qV]⟩
def t127:bO:=⟨vO 11,[],.call 366 [pO 0,wW] (qF 1) [none] [11] (uW 2),[]⟩
def t137:bO:=⟨[],[],tZ 80 [rE ⟨#[110,105,108]⟩] 2 (tZ 152 (wT 0) 7 (yO 1)),[]⟩
def t147:bO:=⟨xP,[],sV 191 (wB 0) (tZ 159 [pO 1,yI] 7 (yO 2)),[]⟩
def t152:bO:=⟨uZ 2,[],wJ [jJ 2,pE,pE,tT 0,tT 1,pE,.z],[]⟩
def t159:bO:=⟨vM,[],oU 194 (uF (pO 0) 1) [none,none] [] (wJ [jJ 1,.v 2,.v 3,pE,pE,pE,.z]),[]⟩
def t160:bO:=⟨xP,[],wJ [jJ 3,pE,pE,pE,pE,.v 0,.z],[]⟩
def t161:bO:=⟨xP,[],tZ 137 [] 7 (vB (.fG (.bin .sub false (.v 2) (jJ 1)) (.goto 0 [qU,uS,rW,qQ,qQ,qQ,qQ,qQ,rM,lI 1]))),[qE .geq 1 0 (jQ 10 (pG 7 0 1 (tZ 162 (tQ 11 9) 7 (.fG (.bin .sub false (.v 1) (jJ 1)) (.goto 0 [qU,sK,tJ,uS,uN,uH,uG,uO,uP,lI 12])))) (yO 9))]⟩
def t162:bO:=⟨[.agg 7,.agg 7],[],
 .fG (.lits 7 2 [(.n 0 0),(.n 0 1),(.n 0 2),(.n 0 3),(.n 0 4),(.n 0 5),(.n 0 6),(.n 1 0),(.n 1 1),(.n 1 2),(.n 1 3),(.n 1 4),(.n 1 5),(.n 1 6)]) <|
 .ret [(.agg (.lit [(.k (.int .i64 4)),(.k (.string ⟨#[]⟩)),(.k (.string ⟨#[]⟩)),(.k (.string ⟨#[]⟩)),(.k (.string ⟨#[]⟩)),(.k (.string ⟨#[]⟩)),(.v 2)]))] [],
 []⟩
def t169:bO:=⟨uX 7 7,[],qJ [lI 0,lI 1],[yQ .neq 0 0 0 (xK 2 [] (yQ .neq 0 1 1 (xK 3 [] (yQ .neq 0 2 2 (xK 4 [] (pU (.eqs [1,1] true (.lit [tT 3,tT 4]) (.lit [wH 3,wH 4])) 5 (rX pF) (yQ .neq 0 5 5 (xK 6 [] (qO 0 6 (qO 1 6 (yD 7 8 9 [] (qO 0 6 (qE .eql 10 0 (qX 11 qV [] (.fG (.bin .sub false (.v 10) (jJ 1)) (.goto 1 [rP,sD,rW,lI 0,lI 1])))))))))))))))),qC 2 1 5 (qY 7 3 6 2 (qY 7 4 6 2 (uM 169 6 7 (vJ 8 9 2 1 [qU,rR,rP,yN,lI 4])))) (vE 0 1 (qY 7 3 6 6 (vE 0 1 (qY 7 4 6 8 (qJ [lI 7,lI 9])))))]⟩
def t177:bO:=⟨[.agg 11,.ref 0 0],[11],uM 114 0 1 (oW (qH 2) (qF 1)),[]⟩
def t365:bO:=⟨[.one,.one,.fD 114 []],[],zF 1 (yD 2 3 4 [] (wY [rR,qU,uH,rW])),[rY 3 2 4 (xJ 1 3 (xJ 0 3 (uM 114 5 6 (vJ 7 8 3 0 [qU,rR,tJ,uD])))) qV]⟩
def t366:bO:=⟨[.one,.fD 177 [(0,0)]],[11],.call 371 [pO 0,wW] (qF 1) [none] [11] (qE .geq 2 0 (oW (qH 4) (qF 3))),[]⟩
def t371:bO:=⟨[.one,.fD 177 [(0,0)]],[11],wY [qU,tJ,rW,lI 1],[qC 2 1 4 (xJ 0 2 (.call 177 [pM 5,wW] (qF 3) [none] [11] (qX 6 (qH 2) (qF 7) (xN 2 [qU,rR,uP,lI 7])))) (oW (.one (jJ (-1))) (qF 3))]⟩
def apf:Tree:=.fG (.len false (.v 10)) <|
 .call 38 [(.ref 0 0),(.v (.one (.v 15)))] [(.all 13)] [none] [2] <|
 .row 1 (.v 10) (.v 16) <|
 .call 12 [(.v (.one (.n 18 0)))] [] [(some 2)] [] <|
 .call 106 [(.v (.one (.v 0))),(.v (.agg (.all 19)))] [] [none,none] [] <|
 .goto 0 [(.c (.v 0)),(.c (.v 1)),(.c (.v 20)),(.c (.k (.int .i64 0))),(.l (.all 17)),(.c (.k (.int .i64 0))),(.c (.k (.string ⟨#[]⟩))),(.c (.k (.string ⟨#[]⟩))),(.c (.k (.int .i64 0))),(.c (.k (.string ⟨#[]⟩))),(.c (.k (.string ⟨#[]⟩))),(.c (.k (.string ⟨#[]⟩))),(.c (.k (.string ⟨#[]⟩))),(.c (.k (.string ⟨#[]⟩))),(.c .z),(.c .z),(.l (.all 19)),(.c .z)]
def ao7:Tree:=.fG (.len false (.v 11)) <|
 .call 38 [(.ref 0 0),(.v (.one (.v 15)))] [(.all 13)] [none] [2] <|
 .row 1 (.v 11) (.v 16) <|
 .call 13 [(.v (.one (.n 18 0)))] [] [(some 2)] [] <|
 .call 106 [(.v (.one (.v 0))),(.v (.agg (.all 19)))] [] [none,none] [] <|
 .goto 0 [(.c (.v 0)),(.c (.v 1)),(.c (.v 20)),(.c (.k (.int .i64 0))),(.l (.all 17)),(.c (.k (.int .i64 0))),(.c (.k (.string ⟨#[]⟩))),(.c (.k (.string ⟨#[]⟩))),(.c (.k (.int .i64 0))),(.c (.k (.string ⟨#[]⟩))),(.c (.k (.string ⟨#[]⟩))),(.c (.k (.string ⟨#[]⟩))),(.c (.k (.string ⟨#[]⟩))),(.c (.k (.string ⟨#[]⟩))),(.c .z),(.c .z),(.l (.all 19)),(.c .z)]
def ajF:Tree:=.call 103 [(.ref 0 0),(.v (.one (.k (.int .i64 1))))] [(.all 4)] [(some 7)] [2] <|
 .call 94 [(.v (.agg (.all 10)))] [] [(some 11)] [] <|
 .ret [(.agg (.all 12))] [(.all 11)]
def an4:Tree:=.call 104 [] [] [none] [] <|
 .call 105 [] [] [none] [] <|
 .call 38 [(.ref 0 0),(.v (.one (.k (.int .i64 4))))] [(.all 4)] [none] [2] <|
 .fG (.bin .lss false (.v 12) (.k (.int .i64 3))) <|
 .ite (.v 14) apf ao7
def an6:Tree:=.fG (.len false (.v 9)) <|
 .call 38 [(.ref 0 0),(.v (.one (.v 14)))] [(.all 12)] [none] [2] <|
 .row 1 (.v 9) (.v 15) <|
 .call 12 [(.v (.one (.n 17 0)))] [] [(some 2)] [] <|
 .call 106 [(.v (.one (.v 0))),(.v (.agg (.all 18)))] [] [none,none] [] <|
 .goto 0 [(.c (.v 0)),(.c (.v 1)),(.c (.v 19)),(.c (.k (.int .i64 0))),(.l (.all 16)),(.c (.k (.int .i64 0))),(.c (.k (.string ⟨#[]⟩))),(.c (.k (.string ⟨#[]⟩))),(.c (.k (.int .i64 0))),(.c (.k (.string ⟨#[]⟩))),(.c (.k (.string ⟨#[]⟩))),(.c (.k (.string ⟨#[]⟩))),(.c (.k (.string ⟨#[]⟩))),(.c (.k (.string ⟨#[]⟩))),(.c .z),(.c .z),(.l (.all 18)),(.c .z)]
def ap9:Tree:=.fG (.len false (.v 10)) <|
 .call 38 [(.ref 0 0),(.v (.one (.v 14)))] [(.all 12)] [none] [2] <|
 .row 1 (.v 10) (.v 15) <|
 .call 13 [(.v (.one (.n 17 0)))] [] [(some 2)] [] <|
 .call 106 [(.v (.one (.v 0))),(.v (.agg (.all 18)))] [] [none,none] [] <|
 .goto 0 [(.c (.v 0)),(.c (.v 1)),(.c (.v 19)),(.c (.k (.int .i64 0))),(.l (.all 16)),(.c (.k (.int .i64 0))),(.c (.k (.string ⟨#[]⟩))),(.c (.k (.string ⟨#[]⟩))),(.c (.k (.int .i64 0))),(.c (.k (.string ⟨#[]⟩))),(.c (.k (.string ⟨#[]⟩))),(.c (.k (.string ⟨#[]⟩))),(.c (.k (.string ⟨#[]⟩))),(.c (.k (.string ⟨#[]⟩))),(.c .z),(.c .z),(.l (.all 18)),(.c .z)]
def ajy:Tree:=.call 103 [(.ref 0 0),(.v (.one (.k (.int .i64 1))))] [(.all 4)] [(some 7)] [2] <|
 .call 94 [(.v (.agg (.all 9)))] [] [(some 11)] [] <|
 .ret [(.agg (.all 11))] [(.all 10)]
def apu:Tree:=.call 104 [] [] [none] [] <|
 .call 105 [] [] [none] [] <|
 .call 38 [(.ref 0 0),(.v (.one (.k (.int .i64 4))))] [(.all 4)] [none] [2] <|
 .fG (.bin .lss false (.v 11) (.k (.int .i64 3))) <|
 .ite (.v 13) an6 ap9
def ac7:Tree:=.fG (.bin .rem false (.v 3) (.k (.int .i64 4))) <|
 .fG (.bin .lss false (.v 7) (.k (.int .i64 3))) <|
 .ite (.v 8) (.call 22 [(.ref 0 0)] [(.all 4)] [(some 11)] [2] <|
 .ret [(.agg (.all 9))] [(.all 10)]) (.fG (.bin .eql false (.v 7) (.k (.int .i64 3))) <|
 .ite (.v 9) ajF an4)
def af4:Tree:=.fG (.bin .lss false (.v 3) (.k (.int .i64 3))) <|
 .ite (.v 7) (.call 22 [(.ref 0 0)] [(.all 4)] [(some 11)] [2] <|
 .ret [(.agg (.all 8))] [(.all 9)]) (.fG (.bin .eql false (.v 3) (.k (.int .i64 3))) <|
 .ite (.v 8) ajy apu)
def ae3:Tree:=.fG (.len false (.v 8)) <|
 .call 38 [(.ref 0 0),(.v (.one (.v 13)))] [(.all 11)] [none] [2] <|
 .row 1 (.v 8) (.v 14) <|
 .call 12 [(.v (.one (.n 16 0)))] [] [(some 2)] [] <|
 .call 106 [(.v (.one (.v 0))),(.v (.agg (.all 17)))] [] [none,none] [] <|
 .goto 0 [(.c (.v 0)),(.c (.v 1)),(.c (.v 18)),(.c (.k (.int .i64 0))),(.l (.all 15)),(.c (.k (.int .i64 0))),(.c (.k (.string ⟨#[]⟩))),(.c (.k (.string ⟨#[]⟩))),(.c (.k (.int .i64 0))),(.c (.k (.string ⟨#[]⟩))),(.c (.k (.string ⟨#[]⟩))),(.c (.k (.string ⟨#[]⟩))),(.c (.k (.string ⟨#[]⟩))),(.c (.k (.string ⟨#[]⟩))),(.c .z),(.c .z),(.l (.all 17)),(.c .z)]
def ael:Tree:=.fG (.len false (.v 9)) <|
 .call 38 [(.ref 0 0),(.v (.one (.v 13)))] [(.all 11)] [none] [2] <|
 .row 1 (.v 9) (.v 14) <|
 .call 13 [(.v (.one (.n 16 0)))] [] [(some 2)] [] <|
 .call 106 [(.v (.one (.v 0))),(.v (.agg (.all 17)))] [] [none,none] [] <|
 .goto 0 [(.c (.v 0)),(.c (.v 1)),(.c (.v 18)),(.c (.k (.int .i64 0))),(.l (.all 15)),(.c (.k (.int .i64 0))),(.c (.k (.string ⟨#[]⟩))),(.c (.k (.string ⟨#[]⟩))),(.c (.k (.int .i64 0))),(.c (.k (.string ⟨#[]⟩))),(.c (.k (.string ⟨#[]⟩))),(.c (.k (.string ⟨#[]⟩))),(.c (.k (.string ⟨#[]⟩))),(.c (.k (.string ⟨#[]⟩))),(.c .z),(.c .z),(.l (.all 17)),(.c .z)]
def aez:Tree:=.call 103 [(.ref 0 0),(.v (.one (.k (.int .i64 1))))] [(.all 4)] [(some 7)] [2] <|
 .call 94 [(.v (.agg (.all 8)))] [] [(some 11)] [] <|
 .ret [(.agg (.all 10))] [(.all 9)]
def YF:Tree:=.call 104 [] [] [none] [] <|
 .call 105 [] [] [none] [] <|
 .call 38 [(.ref 0 0),(.v (.one (.k (.int .i64 4))))] [(.all 4)] [none] [2] <|
 .fG (.bin .lss false (.v 10) (.k (.int .i64 3))) <|
 .ite (.v 12) ae3 ael
def NY:Tree:=.fG (.bin .lss false (.v 3) (.k (.int .i64 3))) <|
 .ite (.v 6) (.call 22 [(.ref 0 0)] [(.all 4)] [(some 11)] [2] <|
 .ret [(.agg (.all 7))] [(.all 8)]) (.fG (.bin .eql false (.v 3) (.k (.int .i64 3))) <|
 .ite (.v 7) aez YF)
def aer:List Tree:=[.fG (.bin .lss false (.v 3) (.v 2)) <|
 .ite (.v 18)
 (.fG (.bin .sub false (.v 1) (.k (.int .i64 1))) <|
 .call 39 [(.ref 0 0),(.v (.one (.v 0))),(.v (.one (.v 19)))] [(.all 4)] [(some 11)] [2] <|
 .fG (.lits 11 1 [(.n 20 0),(.n 20 1),(.n 20 2),(.n 20 3),(.n 20 4),(.n 20 5),(.n 20 6),(.n 20 7),(.n 20 8),(.n 20 9),(.n 20 10)]) <|
 .fG (.app 11 176 (.v 17) (.v 22)) <|
 .fG (.bin .add false (.v 3) (.k (.int .i64 1))) <|
 .goto 0 [(.c (.v 0)),(.c (.v 1)),(.c (.v 2)),(.c (.v 24)),(.l (.all 21)),(.c (.v 5)),(.c (.v 6)),(.c (.v 7)),(.c (.v 8)),(.c (.v 9)),(.c (.v 10)),(.c (.v 11)),(.c (.v 12)),(.c (.v 13)),(.c (.v 14)),(.c (.v 15)),(.l (.all 16)),(.c (.v 23))])
 (.call 54 [(.v (.agg (.all 16))),(.v (.one (.v 17)))] [] [(some 11)] [] <|
 .ret [(.agg (.all 19))] [(.all 4)])]
def u39:bO:=⟨[.ref 0 0,.one,.one],[2],.call 38 [(.ref 0 0),(.v (.one (.k (.int .i64 12))))] [(.all 2)] [none] [2] <|
 .fG (.bin .lss false (.v 1) (.k (.int .i64 1))) <|
 .ite (.v 5) (.fG (.bin .gtr false (.v 3) (.k (.int .i64 3))) <|
 .ite (.v 6) ac7 af4) NY,aer⟩
section
variable {nat:Nat->List V->Option (List V)}
theorem alX:(T nat).G.fn 12=some t12:=by kernel_rfl
theorem alV:(T nat).G.fn 13=some t13:=by kernel_rfl
theorem alU:(T nat).G.fn 18=some t18:=by kernel_rfl
theorem alr:(T nat).G.fn 19=some t19:=by kernel_rfl
theorem amZ:(T nat).G.fn 22=some t22:=by kernel_rfl
theorem aeR:(T nat).G.fn 38=some t38:=by kernel_rfl
theorem Kj:(T nat).G.fn 41=some t41:=by kernel_rfl
theorem Ua:(T nat).G.fn 49=some t49:=by kernel_rfl
theorem amX:(T nat).G.fn 52=some t52:=by kernel_rfl
theorem alE:(T nat).G.fn 53=some t53:=by kernel_rfl
theorem akc:(T nat).G.fn 54=some t54:=by kernel_rfl
theorem amF:(T nat).G.fn 80=some t80:=by kernel_rfl
theorem al5:(T nat).G.fn 94=some t94:=by kernel_rfl
theorem ajZ:(T nat).G.fn 95=some t95:=by kernel_rfl
theorem aiH:(T nat).G.fn 103=some t103:=by kernel_rfl
theorem ahV:(T nat).G.fn 104=some t104:=by kernel_rfl
theorem aij:(T nat).G.fn 105=some t105:=by kernel_rfl
theorem TT:(T nat).G.fn 107=some t107:=by kernel_rfl
theorem Su:(T nat).G.fn 114=some t114:=by kernel_rfl
theorem oZ:(T nat).G.fn 125=some t125:=by kernel_rfl
theorem Ui:(T nat).G.fn 126=some t126:=by kernel_rfl
theorem aht:(T nat).G.fn 127=some t127:=by kernel_rfl
theorem ajd:(T nat).G.fn 137=some t137:=by kernel_rfl
theorem ahC:(T nat).G.fn 147=some t147:=by kernel_rfl
theorem ai0:(T nat).G.fn 152=some t152:=by kernel_rfl
theorem ahg:(T nat).G.fn 159=some t159:=by kernel_rfl
theorem aiC:(T nat).G.fn 160=some t160:=by kernel_rfl
theorem Uk:(T nat).G.fn 161=some t161:=by kernel_rfl
theorem ah7:(T nat).G.fn 162=some t162:=by kernel_rfl
theorem xw:(T nat).G.fn 169=some t169:=by kernel_rfl
theorem ahL:(T nat).G.fn 177=some t177:=by kernel_rfl
theorem SY:(T nat).G.fn 365=some t365:=by kernel_rfl
theorem ahZ:(T nat).G.fn 366=some t366:=by kernel_rfl
theorem MV:(T nat).G.fn 371=some t371:=by kernel_rfl
theorem Bt:(T nat).G.fn 39=some u39:=by kernel_rfl
end
end Go.Ey.Pr
