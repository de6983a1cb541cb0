/- A part. -/
import Derived.Test.YtolnnaanmfnkjaaGreatDoorY33
set_option linter.all false
set_option maxHeartbeats 4000000
namespace Go.Ey.Pr
open Go.Ey Go.Ey.Rz Go.Ey.Seat
set_option maxRecDepth 100000
def apM:bO:=⟨[.agg 11,.agg 11],[],Y8 2 [zV 0,zW 0,zQ 0,qj 0,qx 0,qp 0,qo 0,qy 0,qA 0,qz 0,wU 0,zV 1,zW 1,zQ 1,qj 1,qx 1,qp 1,qo 1,qy 1,qA 1,qz 1,wU 1] (aBe 18 (xE ⟨#[98,105,110,97,114,121,45,97,112,112,101,110,100]⟩) 2 (aAP [.agg (.all 3)])),[]⟩
def aqm:bO:=⟨[.one,.one],[],zN 13 [qR 0] 2 (aBe 54 (uT 2) 1 (aAP [.agg (.all 3)])),[]⟩
def ajW:Tree:=QL 17 (QL 20 (aBO 40 19 21 11 (Y8 2 [zV 15,zW 15,zQ 15,qj 15,qx 15,qp 15,qo 15,qy 15,qA 15,qz 15,wU 15,zV 23,zW 23,zQ 23,qj 23,qx 23,qp 23,qo 23,qy 23,qA 23,qz 23,wU 23] (aBQ 18 sH 24 (Uz [zV 25,zW 25,zQ 25,qj 25,qx 25,qp 25,qo 25,qy 25,qA 25,qz 25,wU 25] 1 26 [] [zY,Eh,zG,Er,pJ 22])))))
def ajl:Tree:=Uz [zV 15,zW 15,zQ 15,qj 15,qx 15,qp 15,qo 15,qy 15,qA 15,qz 15,wU 15] 1 19 [] [zY,ED,zG,P8,pJ 17]
def ajE:Tree:=QL 20 (QL 23 (aBO 40 22 24 11 (Y8 2 [zV 18,zW 18,zQ 18,qj 18,qx 18,qp 18,qo 18,qy 18,qA 18,qz 18,wU 18,zV 26,zW 26,zQ 26,qj 26,qx 26,qp 26,qo 26,qy 26,qA 26,qz 26,wU 26] (aBQ 18 sH 27 (Uz [zV 28,zW 28,zQ 28,qj 28,qx 28,qp 28,qo 28,qy 28,qA 28,qz 28,wU 28] 1 29 [] [zY,EK,zG,EA,pJ 25])))))
def ajv:Tree:=Uz [zV 18,zW 18,zQ 18,qj 18,qx 18,qp 18,qo 18,qy 18,qA 18,qz 18,wU 18] 1 22 [] [zY,OC,zG,He,pJ 20]
def ajU:Tree:=QL 20 (QL 23 (aBO 40 22 24 11 (Y8 2 [zV 18,zW 18,zQ 18,qj 18,qx 18,qp 18,qo 18,qy 18,qA 18,qz 18,wU 18,zV 26,zW 26,zQ 26,qj 26,qx 26,qp 26,qo 26,qy 26,qA 26,qz 26,wU 26] (aBQ 18 sH 27 (Uz [zV 28,zW 28,zQ 28,qj 28,qx 28,qp 28,qo 28,qy 28,qA 28,qz 28,wU 28] 1 29 [] [zY,EK,zG,EA,pJ 25])))))
def ajj:Tree:=Uz [zV 18,zW 18,zQ 18,qj 18,qx 18,qp 18,qo 18,qy 18,qA 18,qz 18,wU 18] 1 22 [] [zY,OC,zG,He,pJ 20]
def aji:Tree:=QL 21 (QL 24 (aBO 40 23 25 11 (Y8 2 [zV 19,zW 19,zQ 19,qj 19,qx 19,qp 19,qo 19,qy 19,qA 19,qz 19,wU 19,zV 27,zW 27,zQ 27,qj 27,qx 27,qp 27,qo 27,qy 27,qA 27,qz 27,wU 27] (aBQ 18 sH 28 (Uz [zV 29,zW 29,zQ 29,qj 29,qx 29,qp 29,qo 29,qy 29,qA 29,qz 29,wU 29] 1 30 [] [zY,EA,zG,EC,pJ 26])))))
def ajJ:Tree:=Uz [zV 19,zW 19,zQ 19,qj 19,qx 19,qp 19,qo 19,qy 19,qA 19,qz 19,wU 19] 1 23 [] [zY,He,zG,EF,UB]
def ajt:Tree:=QL 22 (QL 25 (aBO 40 24 26 11 (Y8 2 [zV 20,zW 20,zQ 20,qj 20,qx 20,qp 20,qo 20,qy 20,qA 20,qz 20,wU 20,zV 28,zW 28,zQ 28,qj 28,qx 28,qp 28,qo 28,qy 28,qA 28,qz 28,wU 28] (aBQ 18 sH 29 (Uz [zV 30,zW 30,zQ 30,qj 30,qx 30,qp 30,qo 30,qy 30,qA 30,qz 30,wU 30] 1 31 [] [zY,EC,zG,EB,pJ 27])))))
def ajT:Tree:=Uz [zV 20,zW 20,zQ 20,qj 20,qx 20,qp 20,qo 20,qy 20,qA 20,qz 20,wU 20] 1 24 [] [zY,EF,zG,Ep,pJ 22]
def afN:Tree:=QL 23 (QL 26 (aBO 40 25 27 11 (Y8 2 [zV 21,zW 21,zQ 21,qj 21,qx 21,qp 21,qo 21,qy 21,qA 21,qz 21,wU 21,zV 29,zW 29,zQ 29,qj 29,qx 29,qp 29,qo 29,qy 29,qA 29,qz 29,wU 29] (aBQ 18 sH 30 (Uz [zV 31,zW 31,zQ 31,qj 31,qx 31,qp 31,qo 31,qy 31,qA 31,qz 31,wU 31] 1 32 [] [zY,EB,zG,Ew,pJ 28])))))
def afL:Tree:=Uz [zV 21,zW 21,zQ 21,qj 21,qx 21,qp 21,qo 21,qy 21,qA 21,qz 21,wU 21] 1 25 [] [zY,Ep,zG,Eh,pJ 23]
def adh:Tree:=QL 24 (QL 27 (aBO 40 26 28 11 (Y8 2 [zV 22,zW 22,zQ 22,qj 22,qx 22,qp 22,qo 22,qy 22,qA 22,qz 22,wU 22,zV 30,zW 30,zQ 30,qj 30,qx 30,qp 30,qo 30,qy 30,qA 30,qz 30,wU 30] (aBQ 18 sH 31 (Uz [zV 32,zW 32,zQ 32,qj 32,qx 32,qp 32,qo 32,qy 32,qA 32,qz 32,wU 32] 1 33 [] [zY,Ew,zG,EJ,pJ 29])))))
def adG:Tree:=Uz [zV 22,zW 22,zQ 22,qj 22,qx 22,qp 22,qo 22,qy 22,qA 22,qz 22,wU 22] 1 26 [] [zY,Eh,zG,Er,pJ 24]
def adq:Tree:=QL 25 (QL 28 (aBO 40 27 29 11 (Y8 2 [zV 23,zW 23,zQ 23,qj 23,qx 23,qp 23,qo 23,qy 23,qA 23,qz 23,wU 23,zV 31,zW 31,zQ 31,qj 31,qx 31,qp 31,qo 31,qy 31,qA 31,qz 31,wU 31] (aBQ 18 sH 32 (Uz [zV 33,zW 33,zQ 33,qj 33,qx 33,qp 33,qo 33,qy 33,qA 33,qz 33,wU 33] 1 34 [] [zY,EJ,zG,F3,pJ 30])))))
def acO:Tree:=Uz [zV 23,zW 23,zQ 23,qj 23,qx 23,qp 23,qo 23,qy 23,qA 23,qz 23,wU 23] 1 27 [] [zY,Er,zG,FO,pJ 25]
def adT:Tree:=QL 23 (QL 26 (aBO 40 25 27 11 (Y8 2 [zV 6,zW 6,zQ 6,qj 6,qx 6,qp 6,qo 6,qy 6,qA 6,qz 6,wU 6,zV 29,zW 29,zQ 29,qj 29,qx 29,qp 29,qo 29,qy 29,qA 29,qz 29,wU 29] (aBQ 18 sH 30 (Uz [zV 31,zW 31,zQ 31,qj 31,qx 31,qp 31,qo 31,qy 31,qA 31,qz 31,wU 31] 1 32 [] [zY,EB,zG,Ew,pJ 28])))))
def adv:Tree:=Uz [zV 6,zW 6,zQ 6,qj 6,qx 6,qp 6,qo 6,qy 6,qA 6,qz 6,wU 6] 1 25 [] [zY,Ep,zG,Eh,pJ 23]
def YL:Tree:=aA9 [zV 8,zW 8,zQ 8,qj 8,qx 8,qp 8,qo 8,qy 8,qA 8,qz 8,wU 8] (aBe 21 (xE ⟨#[101,118,101,110,115]⟩) 22 (M6 2 13 (tY 24 0 26 adq acO)))
def Y6:Tree:=M6 2 13 (tY 22 0 24 adT adv)
def X6:Tree:=Y8 2 [zV 8,zW 8,zQ 8,qj 8,qx 8,qp 8,qo 8,qy 8,qA 8,qz 8,wU 8,zV 10,zW 10,zQ 10,qj 10,qx 10,qp 10,qo 10,qy 10,qA 10,qz 10,wU 10] (aBe 18 (xE ⟨#[110,116,104]⟩) 21 (M6 2 13 (tY 23 0 25 adh adG)))
def Zc:Tree:=Y8 2 [zV 8,zW 8,zQ 8,qj 8,qx 8,qp 8,qo 8,qy 8,qA 8,qz 8,wU 8,zV 10,zW 10,zQ 10,qj 10,qx 10,qp 10,qo 10,qy 10,qA 10,qz 10,wU 10] (aBe 18 (xE ⟨#[109,101,109,98,101,114,45,101,113,117,97,108]⟩) 20 (M6 2 13 (tY 22 0 24 afN afL)))
def G8:Tree:=tY 12 6 20 X6 (tY 12 7 21 YL Y6)
def Yo:Tree:=aA9 [zV 8,zW 8,zQ 8,qj 8,qx 8,qp 8,qo 8,qy 8,qA 8,qz 8,wU 8] (aBe 21 (xE ⟨#[116,114,101,101]⟩) 19 (M6 2 13 (tY 21 0 23 ajt ajT)))
def XQ:Tree:=Y8 3 [zV 8,zW 8,zQ 8,qj 8,qx 8,qp 8,qo 8,qy 8,qA 8,qz 8,wU 8,zV 10,zW 10,zQ 10,qj 10,qx 10,qp 10,qo 10,qy 10,qA 10,qz 10,wU 10,zV 6,zW 6,zQ 6,qj 6,qx 6,qp 6,qo 6,qy 6,qA 6,qz 6,wU 6] (aBe 21 (xE ⟨#[97,100,100]⟩) 18 (M6 2 13 (tY 20 0 22 aji ajJ)))
def Ap:Tree:=tY 12 4 18 Yo (tY 12 5 19 Zc G8)
def Y2:Tree:=Y8 2 [zV 8,zW 8,zQ 8,qj 8,qx 8,qp 8,qo 8,qy 8,qA 8,qz 8,wU 8,zV 10,zW 10,zQ 10,qj 10,qx 10,qp 10,qo 10,qy 10,qA 10,qz 10,wU 10] (aBe 21 (xE ⟨#[112,97,105,114,115]⟩) 17 (M6 2 13 (tY 19 0 21 ajU ajj)))
def Yg:Tree:=aBO 40 8 10 11 (aA9 [zV 16,zW 16,zQ 16,qj 16,qx 16,qp 16,qo 16,qy 16,qA 16,qz 16,wU 16] (aBe 18 (xE ⟨#[114,101,118]⟩) 17 (M6 2 13 (tY 19 0 21 ajE ajv))))
def pz:Tree:=tY 12 2 16 Y2 (tY 12 3 17 XQ Ap)
def Zt:Tree:=aBO 40 8 6 11 (M6 2 13 (tY 16 0 18 ajW ajl))
def lH:Tree:=.call 39 [.ref 0 0,qR 0,sN 1] [.all 4] [some 11] [2] (QL 7 (QL 9 (M6 9 11 (tY 12 0 14 Zt (tY 12 1 15 Yg pz)))))
def lD:Tree:=pI .lss (.v 3) (.v 2) (pK 5 lH (.ret [aBC 1] [.all 4]))
def u11:bO:=⟨[.ref 0 0,.one],[2],M6 3 1 (pI .add (oP 1) (.v 2) (.goto 0 [zY,zM,iP 4,En,pJ 3])),[lD]⟩
def agh:ByteArray:=⟨#[98,105,110,97,114,121,45,97,112,112,101,110,100]⟩
def CO:ByteArray:=⟨#[101,113,117,97,108]⟩
def abW:ByteArray:=⟨#[114,101,118]⟩
def abI:ByteArray:=⟨#[109,101,109,98,101,114,45,101,113,117,97,108]⟩
def acr:ByteArray:=⟨#[110,116,104]⟩
def abP:ByteArray:=⟨#[112,97,105,114,115]⟩
def ace:ByteArray:=⟨#[97,100,100]⟩
def abx:ByteArray:=⟨#[116,114,101,101]⟩
def abT:ByteArray:=⟨#[101,118,101,110,115]⟩
def bL (r:Nat) (t x y:Tm):Tm:=match r with
 |0=> .app dH agh [x,t]
 |1=> .app dH abW [.app dH agh [x,y]]
 |2=> .app usr abP [x,y]
 |3=> .app usr ace [x,y,t]
 |4=> .app usr abx [x]
 |5=> .app dH abI [x,y]
 |6=> .app dH acr [x,y]
 |7=> .app usr abT [x]
 |_=>t
def jL (b u v:Tm):Tm:=.app dH CO [b,.app dH agh [u,v]]
theorem kN (t u v:Tm):fq 11 3 [au (af t) 0,au (af t) 1,au (af t) 2,au (af t) 3,au (af t) 4,au (af t) 5,au (af t) 6,au (af t) 7,au (af t) 8,au (af t) 9,au (af t) 10,au (af u) 0,au (af u) 1,au (af u) 2,au (af u) 3,au (af u) 4,au (af u) 5,au (af u) 6,au (af u) 7,au (af u) 8,au (af u) 9,au (af u) 10,au (af v) 0,au (af v) 1,au (af v) 2,au (af v) 3,au (af v) 4,au (af v) 5,au (af v) 6,au (af v) 7,au (af v) 8,au (af v) 9,au (af v) 10]=some (rows af [t,u,v]):=by
 have h:∀{a b c:List C},a=af t->b=af u->c=af v->fq 11 3 (a++(b++c))=some (rows af [t,u,v]):=by rintro _ _ _ rfl rfl rfl;simp [fq,ah,aB,rows]
 exact h (kJ t) (kJ u) (kJ v)
section
variable {nat:Nat->List V->Option (List V)}
theorem aiM:(T nat).G.fn 40=some apM:=by kernel_rfl
theorem ah9:(T nat).G.fn 21=some aqm:=by kernel_rfl
theorem ja:(T nat).G.fn 11=some u11:=by kernel_rfl
theorem x40 (a b:Tm):bz (T nat).G 40 [.v (.agg (af a)),.v (.agg (af b))] []=some ([.agg (af (.app dH agh [a,b]))],[]):=by rw [aG aiM];simp [apM,zS,lF,TU,ah];rfl
theorem Ux (s:ByteArray) (ts:List Tm):bz (T nat).G 21 [.v (.one (cs s)),.v (.one (rows af ts))] []=some ([.agg (af (.app usr s ts))],[]):=by rw [aG ah9];simp [aqm,zS,aky,x54,ah]
variable {B B1 B2 B3 B4 B5 B6 B7:List C} {cw:C} {t x y u v:Tm} {n i:Int} {c:List Tm}
def EH (nat:Nat->List V->Option (List V)) (cw:C) (n i:Int) (c:List Tm) (B:List C) (t:Tm) (B':List C):Prop:=bn (T nat).G 11 0 [.c cw,.c (rows af c),.c (ci n),.c (ci i),.l B]=bn (T nat).G 11 0 [.c cw,.c (rows af (gX c t)),.c (ci n),.c (ci (i+1)),.l B']
variable (l0:B.length=2) (l1:B1.length=2) (l2:B2.length=2) (l3:B3.length=2) (l4:B4.length=2) (l5:B5.length=2) (hlt:i < n) (hi:-1000 < i/\i < 1000) (hc:c.length < 1000) (hk:Al c) (h1:bz (T nat).G 39 [.ref 0 0,.v (.one cw),.v (.one (ci 1))] [B]=some ([.agg (af t)],[B1])) (h2:bz (T nat).G 22 [.ref 0 0] [B1]=some ([.agg (af x)],[B2])) (h3:bz (T nat).G 22 [.ref 0 0] [B2]=some ([.agg (af y)],[B3]))
include l0 l1 l2 l3 l4 l5 hlt hi hc hk h1 h2 h3
section
variable (l6:B6.length=2) (l7:B7.length=2) (h5:bz (T nat).G 38 [.ref 0 0,.v (.one (ci 2))] [B4]=some ([.one (ci 0)],[B5])) (h6:bz (T nat).G 22 [.ref 0 0] [B5]=some ([.agg (af u)],[B6])) (h7:bz (T nat).G 22 [.ref 0 0] [B6]=some ([.agg (af v)],[B7]))
include l6 l7 h5 h6 h7
theorem ag6 (h4:bz (T nat).G 38 [.ref 0 0,.v (.one (ci 9))] [B3]=some ([.one (ci 0)],[B4])):EH nat cw n i c B ((jL (bL 0 t x y) u v)) B7:=by
 unfold EH;have hs:cZ .add false (ci i) (ci 1)=some (ci (i+1)):=eO (by omega) (by omega)
 have ha:=x41 (nat:=nat) c hc hk (jL (bL 0 t x y) u v);simp only [jL,bL,CO] at ha;rw [ai ja (t:=lD) rfl];simp (config := { maxSteps := 3000000 }) [lD,lH,Zt,ajW,zS,hlt,h1,h2,h3,h4,h5,h6,h7,hs,x40,TU,Ux,jR,lF,kN,ha,l0,l1,l2,l3,l4,l5,l6,l7,ah,jL,bL,CO]
theorem agG (h4:bz (T nat).G 38 [.ref 0 0,.v (.one (ci 9))] [B3]=some ([.one (ci 1)],[B4])):EH nat cw n i c B ((jL (bL 1 t x y) u v)) B7:=by
 unfold EH;have hs:cZ .add false (ci i) (ci 1)=some (ci (i+1)):=eO (by omega) (by omega)
 have ha:=x41 (nat:=nat) c hc hk (jL (bL 1 t x y) u v);simp only [jL,bL,CO,abW] at ha;rw [ai ja (t:=lD) rfl];simp (config := { maxSteps := 3000000 }) [lD,lH,Yg,ajE,zS,hlt,h1,h2,h3,h4,h5,h6,h7,hs,x40,TU,Ux,jR,lF,kN,ha,l0,l1,l2,l3,l4,l5,l6,l7,ah,jL,bL,CO,abW]
theorem ahs (h4:bz (T nat).G 38 [.ref 0 0,.v (.one (ci 9))] [B3]=some ([.one (ci 2)],[B4])):EH nat cw n i c B ((jL (bL 2 t x y) u v)) B7:=by
 unfold EH;have hs:cZ .add false (ci i) (ci 1)=some (ci (i+1)):=eO (by omega) (by omega)
 have ha:=x41 (nat:=nat) c hc hk (jL (bL 2 t x y) u v);simp only [jL,bL,CO,abP] at ha;rw [ai ja (t:=lD) rfl];simp (config := { maxSteps := 3000000 }) [lD,lH,pz,Y2,ajU,zS,hlt,h1,h2,h3,h4,h5,h6,h7,hs,x40,TU,Ux,jR,lF,kN,ha,l0,l1,l2,l3,l4,l5,l6,l7,ah,jL,bL,CO,abP]
theorem agI (h4:bz (T nat).G 38 [.ref 0 0,.v (.one (ci 9))] [B3]=some ([.one (ci 3)],[B4])):EH nat cw n i c B ((jL (bL 3 t x y) u v)) B7:=by
 unfold EH;have hs:cZ .add false (ci i) (ci 1)=some (ci (i+1)):=eO (by omega) (by omega)
 have ha:=x41 (nat:=nat) c hc hk (jL (bL 3 t x y) u v);simp only [jL,bL,CO,ace] at ha;rw [ai ja (t:=lD) rfl];simp (config := { maxSteps := 3000000 }) [lD,lH,pz,XQ,aji,zS,hlt,h1,h2,h3,h4,h5,h6,h7,hs,x40,TU,Ux,jR,lF,kN,ha,l0,l1,l2,l3,l4,l5,l6,l7,ah,jL,bL,CO,ace]
theorem ahi (h4:bz (T nat).G 38 [.ref 0 0,.v (.one (ci 9))] [B3]=some ([.one (ci 4)],[B4])):EH nat cw n i c B ((jL (bL 4 t x y) u v)) B7:=by
 unfold EH;have hs:cZ .add false (ci i) (ci 1)=some (ci (i+1)):=eO (by omega) (by omega)
 have ha:=x41 (nat:=nat) c hc hk (jL (bL 4 t x y) u v);simp only [jL,bL,CO,abx] at ha;rw [ai ja (t:=lD) rfl];simp (config := { maxSteps := 3000000 }) [lD,lH,pz,Ap,Yo,ajt,zS,hlt,h1,h2,h3,h4,h5,h6,h7,hs,x40,TU,Ux,jR,lF,kN,ha,l0,l1,l2,l3,l4,l5,l6,l7,ah,jL,bL,CO,abx]
theorem agy (h4:bz (T nat).G 38 [.ref 0 0,.v (.one (ci 9))] [B3]=some ([.one (ci 5)],[B4])):EH nat cw n i c B ((jL (bL 5 t x y) u v)) B7:=by
 unfold EH;have hs:cZ .add false (ci i) (ci 1)=some (ci (i+1)):=eO (by omega) (by omega)
 have ha:=x41 (nat:=nat) c hc hk (jL (bL 5 t x y) u v);simp only [jL,bL,CO,abI] at ha;rw [ai ja (t:=lD) rfl];simp (config := { maxSteps := 3000000 }) [lD,lH,pz,Ap,Zc,afN,zS,hlt,h1,h2,h3,h4,h5,h6,h7,hs,x40,TU,Ux,jR,lF,kN,ha,l0,l1,l2,l3,l4,l5,l6,l7,ah,jL,bL,CO,abI]
theorem aiE (h4:bz (T nat).G 38 [.ref 0 0,.v (.one (ci 9))] [B3]=some ([.one (ci 6)],[B4])):EH nat cw n i c B ((jL (bL 6 t x y) u v)) B7:=by
 unfold EH;have hs:cZ .add false (ci i) (ci 1)=some (ci (i+1)):=eO (by omega) (by omega)
 have ha:=x41 (nat:=nat) c hc hk (jL (bL 6 t x y) u v);simp only [jL,bL,CO,acr] at ha;rw [ai ja (t:=lD) rfl];simp (config := { maxSteps := 3000000 }) [lD,lH,pz,Ap,G8,X6,adh,zS,hlt,h1,h2,h3,h4,h5,h6,h7,hs,x40,TU,Ux,jR,lF,kN,ha,l0,l1,l2,l3,l4,l5,l6,l7,ah,jL,bL,CO,acr]
theorem ahJ (h4:bz (T nat).G 38 [.ref 0 0,.v (.one (ci 9))] [B3]=some ([.one (ci 7)],[B4])):EH nat cw n i c B ((jL (bL 7 t x y) u v)) B7:=by
 unfold EH;have hs:cZ .add false (ci i) (ci 1)=some (ci (i+1)):=eO (by omega) (by omega)
 have ha:=x41 (nat:=nat) c hc hk (jL (bL 7 t x y) u v);simp only [jL,bL,CO,abT] at ha;rw [ai ja (t:=lD) rfl];simp (config := { maxSteps := 3000000 }) [lD,lH,pz,Ap,G8,YL,adq,zS,hlt,h1,h2,h3,h4,h5,h6,h7,hs,x40,TU,Ux,jR,lF,kN,ha,l0,l1,l2,l3,l4,l5,l6,l7,ah,jL,bL,CO,abT]
theorem aiI {r:Int} (hr:r=8) (h4:bz (T nat).G 38 [.ref 0 0,.v (.one (ci 9))] [B3]=some ([.one (ci r)],[B4])):EH nat cw n i c B ((jL (bL 8 t x y) u v)) B7:=by
 unfold EH;have hs:cZ .add false (ci i) (ci 1)=some (ci (i+1)):=eO (by omega) (by omega)
 have ha:=x41 (nat:=nat) c hc hk (jL (bL 8 t x y) u v);subst hr;simp only [jL,bL,CO] at ha;rw [ai ja (t:=lD) rfl];simp (config := { maxSteps := 3000000 }) [lD,lH,pz,Ap,G8,Y6,adT,zS,hlt,h1,h2,h3,h4,h5,h6,h7,hs,x40,TU,Ux,jR,lF,kN,ha,l0,l1,l2,l3,l4,l5,l6,l7,ah,jL,bL,CO]
end
section
variable {b:Int} (hb:b≠0) (h5:bz (T nat).G 38 [.ref 0 0,.v (.one (ci 2))] [B4]=some ([.one (ci b)],[B5]))
include hb h5
theorem agS (h4:bz (T nat).G 38 [.ref 0 0,.v (.one (ci 9))] [B3]=some ([.one (ci 0)],[B4])):EH nat cw n i c B ((bL 0 t x y)) B5:=by
 unfold EH;have hs:cZ .add false (ci i) (ci 1)=some (ci (i+1)):=eO (by omega) (by omega)
 have ha:=x41 (nat:=nat) c hc hk (bL 0 t x y);have hb0:(b==0)=false:=C1.2 hb;simp only [bL] at ha;rw [ai ja (t:=lD) rfl];simp (config := { maxSteps := 3000000 }) [lD,lH,Zt,ajl,zS,hlt,h1,h2,h3,h4,h5,hb0,hs,x40,TU,Ux,jR,lF,kN,ha,l0,l1,l2,l3,l4,l5,ah,bL]
theorem ahf (h4:bz (T nat).G 38 [.ref 0 0,.v (.one (ci 9))] [B3]=some ([.one (ci 1)],[B4])):EH nat cw n i c B ((bL 1 t x y)) B5:=by
 unfold EH;have hs:cZ .add false (ci i) (ci 1)=some (ci (i+1)):=eO (by omega) (by omega)
 have ha:=x41 (nat:=nat) c hc hk (bL 1 t x y);have hb0:(b==0)=false:=C1.2 hb;simp only [bL,abW] at ha;rw [ai ja (t:=lD) rfl];simp (config := { maxSteps := 3000000 }) [lD,lH,Yg,ajv,zS,hlt,h1,h2,h3,h4,h5,hb0,hs,x40,TU,Ux,jR,lF,kN,ha,l0,l1,l2,l3,l4,l5,ah,bL,abW]
theorem ahD (h4:bz (T nat).G 38 [.ref 0 0,.v (.one (ci 9))] [B3]=some ([.one (ci 2)],[B4])):EH nat cw n i c B ((bL 2 t x y)) B5:=by
 unfold EH;have hs:cZ .add false (ci i) (ci 1)=some (ci (i+1)):=eO (by omega) (by omega)
 have ha:=x41 (nat:=nat) c hc hk (bL 2 t x y);have hb0:(b==0)=false:=C1.2 hb;simp only [bL,abP] at ha;rw [ai ja (t:=lD) rfl];simp (config := { maxSteps := 3000000 }) [lD,lH,pz,Y2,ajj,zS,hlt,h1,h2,h3,h4,h5,hb0,hs,x40,TU,Ux,jR,lF,kN,ha,l0,l1,l2,l3,l4,l5,ah,bL,abP]
theorem ahw (h4:bz (T nat).G 38 [.ref 0 0,.v (.one (ci 9))] [B3]=some ([.one (ci 3)],[B4])):EH nat cw n i c B ((bL 3 t x y)) B5:=by
 unfold EH;have hs:cZ .add false (ci i) (ci 1)=some (ci (i+1)):=eO (by omega) (by omega)
 have ha:=x41 (nat:=nat) c hc hk (bL 3 t x y);have hb0:(b==0)=false:=C1.2 hb;simp only [bL,ace] at ha;rw [ai ja (t:=lD) rfl];simp (config := { maxSteps := 3000000 }) [lD,lH,pz,XQ,ajJ,zS,hlt,h1,h2,h3,h4,h5,hb0,hs,x40,TU,Ux,jR,lF,kN,ha,l0,l1,l2,l3,l4,l5,ah,bL,ace]
theorem aio (h4:bz (T nat).G 38 [.ref 0 0,.v (.one (ci 9))] [B3]=some ([.one (ci 4)],[B4])):EH nat cw n i c B ((bL 4 t x y)) B5:=by
 unfold EH;have hs:cZ .add false (ci i) (ci 1)=some (ci (i+1)):=eO (by omega) (by omega)
 have ha:=x41 (nat:=nat) c hc hk (bL 4 t x y);have hb0:(b==0)=false:=C1.2 hb;simp only [bL,abx] at ha;rw [ai ja (t:=lD) rfl];simp (config := { maxSteps := 3000000 }) [lD,lH,pz,Ap,Yo,ajT,zS,hlt,h1,h2,h3,h4,h5,hb0,hs,x40,TU,Ux,jR,lF,kN,ha,l0,l1,l2,l3,l4,l5,ah,bL,abx]
theorem aiV (h4:bz (T nat).G 38 [.ref 0 0,.v (.one (ci 9))] [B3]=some ([.one (ci 5)],[B4])):EH nat cw n i c B ((bL 5 t x y)) B5:=by
 unfold EH;have hs:cZ .add false (ci i) (ci 1)=some (ci (i+1)):=eO (by omega) (by omega)
 have ha:=x41 (nat:=nat) c hc hk (bL 5 t x y);have hb0:(b==0)=false:=C1.2 hb;simp only [bL,abI] at ha;rw [ai ja (t:=lD) rfl];simp (config := { maxSteps := 3000000 }) [lD,lH,pz,Ap,Zc,afL,zS,hlt,h1,h2,h3,h4,h5,hb0,hs,x40,TU,Ux,jR,lF,kN,ha,l0,l1,l2,l3,l4,l5,ah,bL,abI]
theorem ajf (h4:bz (T nat).G 38 [.ref 0 0,.v (.one (ci 9))] [B3]=some ([.one (ci 6)],[B4])):EH nat cw n i c B ((bL 6 t x y)) B5:=by
 unfold EH;have hs:cZ .add false (ci i) (ci 1)=some (ci (i+1)):=eO (by omega) (by omega)
 have ha:=x41 (nat:=nat) c hc hk (bL 6 t x y);have hb0:(b==0)=false:=C1.2 hb;simp only [bL,acr] at ha;rw [ai ja (t:=lD) rfl];simp (config := { maxSteps := 3000000 }) [lD,lH,pz,Ap,G8,X6,adG,zS,hlt,h1,h2,h3,h4,h5,hb0,hs,x40,TU,Ux,jR,lF,kN,ha,l0,l1,l2,l3,l4,l5,ah,bL,acr]
theorem ais (h4:bz (T nat).G 38 [.ref 0 0,.v (.one (ci 9))] [B3]=some ([.one (ci 7)],[B4])):EH nat cw n i c B ((bL 7 t x y)) B5:=by
 unfold EH;have hs:cZ .add false (ci i) (ci 1)=some (ci (i+1)):=eO (by omega) (by omega)
 have ha:=x41 (nat:=nat) c hc hk (bL 7 t x y);have hb0:(b==0)=false:=C1.2 hb;simp only [bL,abT] at ha;rw [ai ja (t:=lD) rfl];simp (config := { maxSteps := 3000000 }) [lD,lH,pz,Ap,G8,YL,acO,zS,hlt,h1,h2,h3,h4,h5,hb0,hs,x40,TU,Ux,jR,lF,kN,ha,l0,l1,l2,l3,l4,l5,ah,bL,abT]
theorem ahN {r:Int} (hr:r=8) (h4:bz (T nat).G 38 [.ref 0 0,.v (.one (ci 9))] [B3]=some ([.one (ci r)],[B4])):EH nat cw n i c B ((bL 8 t x y)) B5:=by
 unfold EH;have hs:cZ .add false (ci i) (ci 1)=some (ci (i+1)):=eO (by omega) (by omega)
 have ha:=x41 (nat:=nat) c hc hk (bL 8 t x y);have hb0:(b==0)=false:=C1.2 hb;subst hr;simp only [bL] at ha;rw [ai ja (t:=lD) rfl];simp (config := { maxSteps := 3000000 }) [lD,lH,pz,Ap,G8,Y6,adv,zS,hlt,h1,h2,h3,h4,h5,hb0,hs,x40,TU,Ux,jR,lF,kN,ha,l0,l1,l2,l3,l4,l5,ah,bL]
end
end
end Go.Ey.Pr
