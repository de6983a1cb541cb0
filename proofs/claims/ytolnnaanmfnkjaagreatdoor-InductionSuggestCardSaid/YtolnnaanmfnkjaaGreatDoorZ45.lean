import Derived.Test.YtolnnaanmfnkjaaGreatDoorZ43
set_option linter.all false
set_option maxHeartbeats 0
set_option maxRecDepth 100000
noncomputable section
namespace Go.Ey.Pr
open Rz Seat
def apY:cB:=⟨[.agg 11,.agg 11],[],Ye 2 [zV 0,zW 0,zQ 0,oM 0,o8 0,o7 0,o9 0,pq 0,pz 0,pg 0,wU 0,zV 1,zW 1,zQ 1,oM 1,o8 1,o7 1,o9 1,pq 1,pz 1,pg 1,wU 1] (ZE 18 (xE ⟨#[98,105,110,97,114,121,45,97,112,112,101,110,100]⟩) 2 (aAP [.agg (.all 3)])),[]⟩
def aqn:cB:=⟨[.one,.one],[],zN 13 [qR 0] 2 (ZE 54 (uT 2) 1 (aAP [.agg (.all 3)])),[]⟩
def ajz:Tree:=Py 17 (Py 20 (aBO 40 19 21 11 (Ye 2 [zV 15,zW 15,zQ 15,oM 15,o8 15,o7 15,o9 15,pq 15,pz 15,pg 15,wU 15,zV 23,zW 23,zQ 23,oM 23,o8 23,o7 23,o9 23,pq 23,pz 23,pg 23,wU 23] (aBQ 18 sH 24 (TZ [zV 25,zW 25,zQ 25,oM 25,o8 25,o7 25,o9 25,pq 25,pz 25,pg 25,wU 25] 1 26 [] [zY,CQ,xe,Db,pJ 22])))))
def ajF:Tree:=TZ [zV 15,zW 15,zQ 15,oM 15,o8 15,o7 15,o9 15,pq 15,pz 15,pg 15,wU 15] 1 19 [] [zY,DD,xe,Pp,pJ 17]
def ajP:Tree:=Py 20 (Py 23 (aBO 40 22 24 11 (Ye 2 [zV 18,zW 18,zQ 18,oM 18,o8 18,o7 18,o9 18,pq 18,pz 18,pg 18,wU 18,zV 26,zW 26,zQ 26,oM 26,o8 26,o7 26,o9 26,pq 26,pz 26,pg 26,wU 26] (aBQ 18 sH 27 (TZ [zV 28,zW 28,zQ 28,oM 28,o8 28,o7 28,o9 28,pq 28,pz 28,pg 28,wU 28] 1 29 [] [zY,Dn,xe,Dh,pJ 25])))))
def ajO:Tree:=TZ [zV 18,zW 18,zQ 18,oM 18,o8 18,o7 18,o9 18,pq 18,pz 18,pg 18,wU 18] 1 22 [] [zY,Mm,xe,GN,pJ 20]
def ajh:Tree:=Py 20 (Py 23 (aBO 40 22 24 11 (Ye 2 [zV 18,zW 18,zQ 18,oM 18,o8 18,o7 18,o9 18,pq 18,pz 18,pg 18,wU 18,zV 26,zW 26,zQ 26,oM 26,o8 26,o7 26,o9 26,pq 26,pz 26,pg 26,wU 26] (aBQ 18 sH 27 (TZ [zV 28,zW 28,zQ 28,oM 28,o8 28,o7 28,o9 28,pq 28,pz 28,pg 28,wU 28] 1 29 [] [zY,Dn,xe,Dh,pJ 25])))))
def ajw:Tree:=TZ [zV 18,zW 18,zQ 18,oM 18,o8 18,o7 18,o9 18,pq 18,pz 18,pg 18,wU 18] 1 22 [] [zY,Mm,xe,GN,pJ 20]
def ajm:Tree:=Py 21 (Py 24 (aBO 40 23 25 11 (Ye 2 [zV 19,zW 19,zQ 19,oM 19,o8 19,o7 19,o9 19,pq 19,pz 19,pg 19,wU 19,zV 27,zW 27,zQ 27,oM 27,o8 27,o7 27,o9 27,pq 27,pz 27,pg 27,wU 27] (aBQ 18 sH 28 (TZ [zV 29,zW 29,zQ 29,oM 29,o8 29,o7 29,o9 29,pq 29,pz 29,pg 29,wU 29] 1 30 [] [zY,Dh,xe,Dy,pJ 26])))))
def ajs:Tree:=TZ [zV 19,zW 19,zQ 19,oM 19,o8 19,o7 19,o9 19,pq 19,pz 19,pg 19,wU 19] 1 23 [] [zY,GN,xe,Dq,TR]
def ajH:Tree:=Py 22 (Py 25 (aBO 40 24 26 11 (Ye 2 [zV 20,zW 20,zQ 20,oM 20,o8 20,o7 20,o9 20,pq 20,pz 20,pg 20,wU 20,zV 28,zW 28,zQ 28,oM 28,o8 28,o7 28,o9 28,pq 28,pz 28,pg 28,wU 28] (aBQ 18 sH 29 (TZ [zV 30,zW 30,zQ 30,oM 30,o8 30,o7 30,o9 30,pq 30,pz 30,pg 30,wU 30] 1 31 [] [zY,Dy,xe,Dk,pJ 27])))))
def ajB:Tree:=TZ [zV 20,zW 20,zQ 20,oM 20,o8 20,o7 20,o9 20,pq 20,pz 20,pg 20,wU 20] 1 24 [] [zY,Dq,xe,Di,pJ 22]
def adP:Tree:=Py 23 (Py 26 (aBO 40 25 27 11 (Ye 2 [zV 21,zW 21,zQ 21,oM 21,o8 21,o7 21,o9 21,pq 21,pz 21,pg 21,wU 21,zV 29,zW 29,zQ 29,oM 29,o8 29,o7 29,o9 29,pq 29,pz 29,pg 29,wU 29] (aBQ 18 sH 30 (TZ [zV 31,zW 31,zQ 31,oM 31,o8 31,o7 31,o9 31,pq 31,pz 31,pg 31,wU 31] 1 32 [] [zY,Dk,xe,De,pJ 28])))))
def ae2:Tree:=TZ [zV 21,zW 21,zQ 21,oM 21,o8 21,o7 21,o9 21,pq 21,pz 21,pg 21,wU 21] 1 25 [] [zY,Di,xe,CQ,pJ 23]
def acS:Tree:=Py 24 (Py 27 (aBO 40 26 28 11 (Ye 2 [zV 22,zW 22,zQ 22,oM 22,o8 22,o7 22,o9 22,pq 22,pz 22,pg 22,wU 22,zV 30,zW 30,zQ 30,oM 30,o8 30,o7 30,o9 30,pq 30,pz 30,pg 30,wU 30] (aBQ 18 sH 31 (TZ [zV 32,zW 32,zQ 32,oM 32,o8 32,o7 32,o9 32,pq 32,pz 32,pg 32,wU 32] 1 33 [] [zY,De,xe,Dv,pJ 29])))))
def aeA:Tree:=TZ [zV 22,zW 22,zQ 22,oM 22,o8 22,o7 22,o9 22,pq 22,pz 22,pg 22,wU 22] 1 26 [] [zY,CQ,xe,Db,pJ 24]
def afm:Tree:=Py 25 (Py 28 (aBO 40 27 29 11 (Ye 2 [zV 23,zW 23,zQ 23,oM 23,o8 23,o7 23,o9 23,pq 23,pz 23,pg 23,wU 23,zV 31,zW 31,zQ 31,oM 31,o8 31,o7 31,o9 31,pq 31,pz 31,pg 31,wU 31] (aBQ 18 sH 32 (TZ [zV 33,zW 33,zQ 33,oM 33,o8 33,o7 33,o9 33,pq 33,pz 33,pg 33,wU 33] 1 34 [] [zY,Dv,xe,DZ,pJ 30])))))
def adK:Tree:=TZ [zV 23,zW 23,zQ 23,oM 23,o8 23,o7 23,o9 23,pq 23,pz 23,pg 23,wU 23] 1 27 [] [zY,Db,xe,ED,pJ 25]
def afT:Tree:=Py 23 (Py 26 (aBO 40 25 27 11 (Ye 2 [zV 6,zW 6,zQ 6,oM 6,o8 6,o7 6,o9 6,pq 6,pz 6,pg 6,wU 6,zV 29,zW 29,zQ 29,oM 29,o8 29,o7 29,o9 29,pq 29,pz 29,pg 29,wU 29] (aBQ 18 sH 30 (TZ [zV 31,zW 31,zQ 31,oM 31,o8 31,o7 31,o9 31,pq 31,pz 31,pg 31,wU 31] 1 32 [] [zY,Dk,xe,De,pJ 28])))))
def adG:Tree:=TZ [zV 6,zW 6,zQ 6,oM 6,o8 6,o7 6,o9 6,pq 6,pz 6,pg 6,wU 6] 1 25 [] [zY,Di,xe,CQ,pJ 23]
def Zk:Tree:=aA9 [zV 8,zW 8,zQ 8,oM 8,o8 8,o7 8,o9 8,pq 8,pz 8,pg 8,wU 8] (ZE 21 (xE ⟨#[101,118,101,110,115]⟩) 22 (LG 2 13 (tY 24 0 26 afm adK)))
def Zi:Tree:=LG 2 13 (tY 22 0 24 afT adG)
def Xh:Tree:=Ye 2 [zV 8,zW 8,zQ 8,oM 8,o8 8,o7 8,o9 8,pq 8,pz 8,pg 8,wU 8,zV 10,zW 10,zQ 10,oM 10,o8 10,o7 10,o9 10,pq 10,pz 10,pg 10,wU 10] (ZE 18 (xE ⟨#[110,116,104]⟩) 21 (LG 2 13 (tY 23 0 25 acS aeA)))
def XL:Tree:=Ye 2 [zV 8,zW 8,zQ 8,oM 8,o8 8,o7 8,o9 8,pq 8,pz 8,pg 8,wU 8,zV 10,zW 10,zQ 10,oM 10,o8 10,o7 10,o9 10,pq 10,pz 10,pg 10,wU 10] (ZE 18 (xE ⟨#[109,101,109,98,101,114,45,101,113,117,97,108]⟩) 20 (LG 2 13 (tY 22 0 24 adP ae2)))
def Gs:Tree:=tY 12 6 20 Xh (tY 12 7 21 Zk Zi)
def XO:Tree:=aA9 [zV 8,zW 8,zQ 8,oM 8,o8 8,o7 8,o9 8,pq 8,pz 8,pg 8,wU 8] (ZE 21 (xE ⟨#[116,114,101,101]⟩) 19 (LG 2 13 (tY 21 0 23 ajH ajB)))
def X7:Tree:=Ye 3 [zV 8,zW 8,zQ 8,oM 8,o8 8,o7 8,o9 8,pq 8,pz 8,pg 8,wU 8,zV 10,zW 10,zQ 10,oM 10,o8 10,o7 10,o9 10,pq 10,pz 10,pg 10,wU 10,zV 6,zW 6,zQ 6,oM 6,o8 6,o7 6,o9 6,pq 6,pz 6,pg 6,wU 6] (ZE 21 (xE ⟨#[97,100,100]⟩) 18 (LG 2 13 (tY 20 0 22 ajm ajs)))
def zn:Tree:=tY 12 4 18 XO (tY 12 5 19 XL Gs)
def Yb:Tree:=Ye 2 [zV 8,zW 8,zQ 8,oM 8,o8 8,o7 8,o9 8,pq 8,pz 8,pg 8,wU 8,zV 10,zW 10,zQ 10,oM 10,o8 10,o7 10,o9 10,pq 10,pz 10,pg 10,wU 10] (ZE 21 (xE ⟨#[112,97,105,114,115]⟩) 17 (LG 2 13 (tY 19 0 21 ajh ajw)))
def X8:Tree:=aBO 40 8 10 11 (aA9 [zV 16,zW 16,zQ 16,oM 16,o8 16,o7 16,o9 16,pq 16,pz 16,pg 16,wU 16] (ZE 18 (xE ⟨#[114,101,118]⟩) 17 (LG 2 13 (tY 19 0 21 ajP ajO))))
def oC:Tree:=tY 12 2 16 Yb (tY 12 3 17 X7 zn)
def Xn:Tree:=aBO 40 8 6 11 (LG 2 13 (tY 16 0 18 ajz ajF))
def jU:Tree:=.call 39 [.ref 0 0,qR 0,sN 1] [.all 4] [some 11] [2] (Py 7 (Py 9 (LG 9 11 (tY 12 0 14 Xn (tY 12 1 15 X8 oC)))))
def jN:Tree:=pI .lss (.v 3) (.v 2) (pK 5 jU (.ret [aBC 1] [.all 4]))
def u11:cB:=⟨[.ref 0 0,.one],[2],LG 3 1 (pI .add (oP 1) (.v 2) (.goto 0 [zY,zM,iP 4,CG,pJ 3])),[jN]⟩
def aey:ByteArray:=⟨#[98,105,110,97,114,121,45,97,112,112,101,110,100]⟩
def BG:ByteArray:=⟨#[101,113,117,97,108]⟩
def abZ:ByteArray:=⟨#[114,101,118]⟩
def abq:ByteArray:=⟨#[109,101,109,98,101,114,45,101,113,117,97,108]⟩
def abI:ByteArray:=⟨#[110,116,104]⟩
def ab6:ByteArray:=⟨#[112,97,105,114,115]⟩
def abL:ByteArray:=⟨#[97,100,100]⟩
def abk:ByteArray:=⟨#[116,114,101,101]⟩
def ab7:ByteArray:=⟨#[101,118,101,110,115]⟩
def bz (r:Nat) (t x y:Tm):Tm:=match r with
 |0=> .app dw aey [x,t]
 |1=> .app dw abZ [.app dw aey [x,y]]
 |2=> .app usr ab6 [x,y]
 |3=> .app usr abL [x,y,t]
 |4=> .app usr abk [x]
 |5=> .app dw abq [x,y]
 |6=> .app dw abI [x,y]
 |7=> .app usr ab7 [x]
 |_=>t
def iI (b u v:Tm):Tm:=.app dw BG [b,.app dw aey [u,v]]
theorem kY (t u v:Tm):fK 11 3 [ak (aa t) 0,ak (aa t) 1,ak (aa t) 2,ak (aa t) 3,ak (aa t) 4,ak (aa t) 5,ak (aa t) 6,ak (aa t) 7,ak (aa t) 8,ak (aa t) 9,ak (aa t) 10,ak (aa u) 0,ak (aa u) 1,ak (aa u) 2,ak (aa u) 3,ak (aa u) 4,ak (aa u) 5,ak (aa u) 6,ak (aa u) 7,ak (aa u) 8,ak (aa u) 9,ak (aa u) 10,ak (aa v) 0,ak (aa v) 1,ak (aa v) 2,ak (aa v) 3,ak (aa v) 4,ak (aa v) 5,ak (aa v) 6,ak (aa v) 7,ak (aa v) 8,ak (aa v) 9,ak (aa v) 10]=some (rows aa [t,u,v]):=by
 have h:∀{a b c:List C},a=aa t->b=aa u->c=aa v->fK 11 3 (a++(b++c))=some (rows aa [t,u,v]):=by rintro _ _ _ rfl rfl rfl;simp [fK,af,bg,rows]
 exact h (nH t) (nH u) (nH v)
section
variable {nat:Nat->List V->Option (List V)}
theorem aia:(T nat).G.fn 40=some apY:=by kernel_rfl
theorem ahc:(T nat).G.fn 21=some aqn:=by kernel_rfl
theorem gq:(T nat).G.fn 11=some u11:=by kernel_rfl
theorem x40 (a b:Tm):bq (T nat).G 40 [.v (.agg (aa a)),.v (.agg (aa b))] []=some ([.agg (aa (.app dw aey [a,b]))],[]):=by rw [aQ aia];simp [apY,zS,jO,RY,af];rfl
theorem TM (s:ByteArray) (ts:List Tm):bq (T nat).G 21 [.v (.one (cs s)),.v (.one (rows aa ts))] []=some ([.agg (aa (.app usr s ts))],[]):=by rw [aQ ahc];simp [aqn,zS,akk,x54,af]
variable {B B1 B2 B3 B4 B5 B6 B7:List C} {cw:C} {t x y u v:Tm} {n i:Int} {c:List Tm}
def Dx (nat:Nat->List V->Option (List V)) (cw:C) (n i:Int) (c:List Tm) (B:List C) (t:Tm) (B':List C):Prop:=bR (T nat).G 11 0 [.c cw,.c (rows aa c),.c (ci n),.c (ci i),.l B]=bR (T nat).G 11 0 [.c cw,.c (rows aa (xz c t)),.c (ci n),.c (ci (i+1)),.l B']
variable (l0:B.length=2) (l1:B1.length=2) (l2:B2.length=2) (l3:B3.length=2) (l4:B4.length=2) (l5:B5.length=2) (hlt:i < n) (hi:-1000 < i/\i < 1000) (hc:c.length < 1000) (hk:Um c) (h1:bq (T nat).G 39 [.ref 0 0,.v (.one cw),.v (.one (ci 1))] [B]=some ([.agg (aa t)],[B1])) (h2:bq (T nat).G 22 [.ref 0 0] [B1]=some ([.agg (aa x)],[B2])) (h3:bq (T nat).G 22 [.ref 0 0] [B2]=some ([.agg (aa y)],[B3]))
include l0 l1 l2 l3 l4 l5 hlt hi hc hk h1 h2 h3
section
variable (l6:B6.length=2) (l7:B7.length=2) (h5:bq (T nat).G 38 [.ref 0 0,.v (.one (ci 2))] [B4]=some ([.one (ci 0)],[B5])) (h6:bq (T nat).G 22 [.ref 0 0] [B5]=some ([.agg (aa u)],[B6])) (h7:bq (T nat).G 22 [.ref 0 0] [B6]=some ([.agg (aa v)],[B7]))
include l6 l7 h5 h6 h7
theorem aib (h4:bq (T nat).G 38 [.ref 0 0,.v (.one (ci 9))] [B3]=some ([.one (ci 0)],[B4])):Dx nat cw n i c B ((iI (bz 0 t x y) u v)) B7:=by
 unfold Dx;have hs:bW .add false (ci i) (ci 1)=some (ci (i+1)):=gN (by omega) (by omega)
 have ha:=x41 (nat:=nat) c hc hk (iI (bz 0 t x y) u v);simp only [iI,bz,BG] at ha;rw [aF gq (t:=jN) rfl];simp (config := { maxSteps := 3000000 }) [jN,jU,Xn,ajz,zS,hlt,h1,h2,h3,h4,h5,h6,h7,hs,x40,RY,TM,iT,jO,kY,ha,l0,l1,l2,l3,l4,l5,l6,l7,af,iI,bz,BG]
theorem aix (h4:bq (T nat).G 38 [.ref 0 0,.v (.one (ci 9))] [B3]=some ([.one (ci 1)],[B4])):Dx nat cw n i c B ((iI (bz 1 t x y) u v)) B7:=by
 unfold Dx;have hs:bW .add false (ci i) (ci 1)=some (ci (i+1)):=gN (by omega) (by omega)
 have ha:=x41 (nat:=nat) c hc hk (iI (bz 1 t x y) u v);simp only [iI,bz,BG,abZ] at ha;rw [aF gq (t:=jN) rfl];simp (config := { maxSteps := 3000000 }) [jN,jU,X8,ajP,zS,hlt,h1,h2,h3,h4,h5,h6,h7,hs,x40,RY,TM,iT,jO,kY,ha,l0,l1,l2,l3,l4,l5,l6,l7,af,iI,bz,BG,abZ]
theorem aiW (h4:bq (T nat).G 38 [.ref 0 0,.v (.one (ci 9))] [B3]=some ([.one (ci 2)],[B4])):Dx nat cw n i c B ((iI (bz 2 t x y) u v)) B7:=by
 unfold Dx;have hs:bW .add false (ci i) (ci 1)=some (ci (i+1)):=gN (by omega) (by omega)
 have ha:=x41 (nat:=nat) c hc hk (iI (bz 2 t x y) u v);simp only [iI,bz,BG,ab6] at ha;rw [aF gq (t:=jN) rfl];simp (config := { maxSteps := 3000000 }) [jN,jU,oC,Yb,ajh,zS,hlt,h1,h2,h3,h4,h5,h6,h7,hs,x40,RY,TM,iT,jO,kY,ha,l0,l1,l2,l3,l4,l5,l6,l7,af,iI,bz,BG,ab6]
theorem ag9 (h4:bq (T nat).G 38 [.ref 0 0,.v (.one (ci 9))] [B3]=some ([.one (ci 3)],[B4])):Dx nat cw n i c B ((iI (bz 3 t x y) u v)) B7:=by
 unfold Dx;have hs:bW .add false (ci i) (ci 1)=some (ci (i+1)):=gN (by omega) (by omega)
 have ha:=x41 (nat:=nat) c hc hk (iI (bz 3 t x y) u v);simp only [iI,bz,BG,abL] at ha;rw [aF gq (t:=jN) rfl];simp (config := { maxSteps := 3000000 }) [jN,jU,oC,X7,ajm,zS,hlt,h1,h2,h3,h4,h5,h6,h7,hs,x40,RY,TM,iT,jO,kY,ha,l0,l1,l2,l3,l4,l5,l6,l7,af,iI,bz,BG,abL]
theorem agS (h4:bq (T nat).G 38 [.ref 0 0,.v (.one (ci 9))] [B3]=some ([.one (ci 4)],[B4])):Dx nat cw n i c B ((iI (bz 4 t x y) u v)) B7:=by
 unfold Dx;have hs:bW .add false (ci i) (ci 1)=some (ci (i+1)):=gN (by omega) (by omega)
 have ha:=x41 (nat:=nat) c hc hk (iI (bz 4 t x y) u v);simp only [iI,bz,BG,abk] at ha;rw [aF gq (t:=jN) rfl];simp (config := { maxSteps := 3000000 }) [jN,jU,oC,zn,XO,ajH,zS,hlt,h1,h2,h3,h4,h5,h6,h7,hs,x40,RY,TM,iT,jO,kY,ha,l0,l1,l2,l3,l4,l5,l6,l7,af,iI,bz,BG,abk]
theorem ahf (h4:bq (T nat).G 38 [.ref 0 0,.v (.one (ci 9))] [B3]=some ([.one (ci 5)],[B4])):Dx nat cw n i c B ((iI (bz 5 t x y) u v)) B7:=by
 unfold Dx;have hs:bW .add false (ci i) (ci 1)=some (ci (i+1)):=gN (by omega) (by omega)
 have ha:=x41 (nat:=nat) c hc hk (iI (bz 5 t x y) u v);simp only [iI,bz,BG,abq] at ha;rw [aF gq (t:=jN) rfl];simp (config := { maxSteps := 3000000 }) [jN,jU,oC,zn,XL,adP,zS,hlt,h1,h2,h3,h4,h5,h6,h7,hs,x40,RY,TM,iT,jO,kY,ha,l0,l1,l2,l3,l4,l5,l6,l7,af,iI,bz,BG,abq]
theorem age (h4:bq (T nat).G 38 [.ref 0 0,.v (.one (ci 9))] [B3]=some ([.one (ci 6)],[B4])):Dx nat cw n i c B ((iI (bz 6 t x y) u v)) B7:=by
 unfold Dx;have hs:bW .add false (ci i) (ci 1)=some (ci (i+1)):=gN (by omega) (by omega)
 have ha:=x41 (nat:=nat) c hc hk (iI (bz 6 t x y) u v);simp only [iI,bz,BG,abI] at ha;rw [aF gq (t:=jN) rfl];simp (config := { maxSteps := 3000000 }) [jN,jU,oC,zn,Gs,Xh,acS,zS,hlt,h1,h2,h3,h4,h5,h6,h7,hs,x40,RY,TM,iT,jO,kY,ha,l0,l1,l2,l3,l4,l5,l6,l7,af,iI,bz,BG,abI]
theorem aiq (h4:bq (T nat).G 38 [.ref 0 0,.v (.one (ci 9))] [B3]=some ([.one (ci 7)],[B4])):Dx nat cw n i c B ((iI (bz 7 t x y) u v)) B7:=by
 unfold Dx;have hs:bW .add false (ci i) (ci 1)=some (ci (i+1)):=gN (by omega) (by omega)
 have ha:=x41 (nat:=nat) c hc hk (iI (bz 7 t x y) u v);simp only [iI,bz,BG,ab7] at ha;rw [aF gq (t:=jN) rfl];simp (config := { maxSteps := 3000000 }) [jN,jU,oC,zn,Gs,Zk,afm,zS,hlt,h1,h2,h3,h4,h5,h6,h7,hs,x40,RY,TM,iT,jO,kY,ha,l0,l1,l2,l3,l4,l5,l6,l7,af,iI,bz,BG,ab7]
theorem ag6 {r:Int} (hr:r=8) (h4:bq (T nat).G 38 [.ref 0 0,.v (.one (ci 9))] [B3]=some ([.one (ci r)],[B4])):Dx nat cw n i c B ((iI (bz 8 t x y) u v)) B7:=by
 unfold Dx;have hs:bW .add false (ci i) (ci 1)=some (ci (i+1)):=gN (by omega) (by omega)
 have ha:=x41 (nat:=nat) c hc hk (iI (bz 8 t x y) u v);subst hr;simp only [iI,bz,BG] at ha;rw [aF gq (t:=jN) rfl];simp (config := { maxSteps := 3000000 }) [jN,jU,oC,zn,Gs,Zi,afT,zS,hlt,h1,h2,h3,h4,h5,h6,h7,hs,x40,RY,TM,iT,jO,kY,ha,l0,l1,l2,l3,l4,l5,l6,l7,af,iI,bz,BG]
end
section
variable {b:Int} (hb:b≠0) (h5:bq (T nat).G 38 [.ref 0 0,.v (.one (ci 2))] [B4]=some ([.one (ci b)],[B5]))
include hb h5
theorem agY (h4:bq (T nat).G 38 [.ref 0 0,.v (.one (ci 9))] [B3]=some ([.one (ci 0)],[B4])):Dx nat cw n i c B ((bz 0 t x y)) B5:=by
 unfold Dx;have hs:bW .add false (ci i) (ci 1)=some (ci (i+1)):=gN (by omega) (by omega)
 have ha:=x41 (nat:=nat) c hc hk (bz 0 t x y);have hb0:(b==0)=false:=Dd.2 hb;simp only [bz] at ha;rw [aF gq (t:=jN) rfl];simp (config := { maxSteps := 3000000 }) [jN,jU,Xn,ajF,zS,hlt,h1,h2,h3,h4,h5,hb0,hs,x40,RY,TM,iT,jO,kY,ha,l0,l1,l2,l3,l4,l5,af,bz]
theorem af8 (h4:bq (T nat).G 38 [.ref 0 0,.v (.one (ci 9))] [B3]=some ([.one (ci 1)],[B4])):Dx nat cw n i c B ((bz 1 t x y)) B5:=by
 unfold Dx;have hs:bW .add false (ci i) (ci 1)=some (ci (i+1)):=gN (by omega) (by omega)
 have ha:=x41 (nat:=nat) c hc hk (bz 1 t x y);have hb0:(b==0)=false:=Dd.2 hb;simp only [bz,abZ] at ha;rw [aF gq (t:=jN) rfl];simp (config := { maxSteps := 3000000 }) [jN,jU,X8,ajO,zS,hlt,h1,h2,h3,h4,h5,hb0,hs,x40,RY,TM,iT,jO,kY,ha,l0,l1,l2,l3,l4,l5,af,bz,abZ]
theorem ag3 (h4:bq (T nat).G 38 [.ref 0 0,.v (.one (ci 9))] [B3]=some ([.one (ci 2)],[B4])):Dx nat cw n i c B ((bz 2 t x y)) B5:=by
 unfold Dx;have hs:bW .add false (ci i) (ci 1)=some (ci (i+1)):=gN (by omega) (by omega)
 have ha:=x41 (nat:=nat) c hc hk (bz 2 t x y);have hb0:(b==0)=false:=Dd.2 hb;simp only [bz,ab6] at ha;rw [aF gq (t:=jN) rfl];simp (config := { maxSteps := 3000000 }) [jN,jU,oC,Yb,ajw,zS,hlt,h1,h2,h3,h4,h5,hb0,hs,x40,RY,TM,iT,jO,kY,ha,l0,l1,l2,l3,l4,l5,af,bz,ab6]
theorem ait (h4:bq (T nat).G 38 [.ref 0 0,.v (.one (ci 9))] [B3]=some ([.one (ci 3)],[B4])):Dx nat cw n i c B ((bz 3 t x y)) B5:=by
 unfold Dx;have hs:bW .add false (ci i) (ci 1)=some (ci (i+1)):=gN (by omega) (by omega)
 have ha:=x41 (nat:=nat) c hc hk (bz 3 t x y);have hb0:(b==0)=false:=Dd.2 hb;simp only [bz,abL] at ha;rw [aF gq (t:=jN) rfl];simp (config := { maxSteps := 3000000 }) [jN,jU,oC,X7,ajs,zS,hlt,h1,h2,h3,h4,h5,hb0,hs,x40,RY,TM,iT,jO,kY,ha,l0,l1,l2,l3,l4,l5,af,bz,abL]
theorem ah8 (h4:bq (T nat).G 38 [.ref 0 0,.v (.one (ci 9))] [B3]=some ([.one (ci 4)],[B4])):Dx nat cw n i c B ((bz 4 t x y)) B5:=by
 unfold Dx;have hs:bW .add false (ci i) (ci 1)=some (ci (i+1)):=gN (by omega) (by omega)
 have ha:=x41 (nat:=nat) c hc hk (bz 4 t x y);have hb0:(b==0)=false:=Dd.2 hb;simp only [bz,abk] at ha;rw [aF gq (t:=jN) rfl];simp (config := { maxSteps := 3000000 }) [jN,jU,oC,zn,XO,ajB,zS,hlt,h1,h2,h3,h4,h5,hb0,hs,x40,RY,TM,iT,jO,kY,ha,l0,l1,l2,l3,l4,l5,af,bz,abk]
theorem ai0 (h4:bq (T nat).G 38 [.ref 0 0,.v (.one (ci 9))] [B3]=some ([.one (ci 5)],[B4])):Dx nat cw n i c B ((bz 5 t x y)) B5:=by
 unfold Dx;have hs:bW .add false (ci i) (ci 1)=some (ci (i+1)):=gN (by omega) (by omega)
 have ha:=x41 (nat:=nat) c hc hk (bz 5 t x y);have hb0:(b==0)=false:=Dd.2 hb;simp only [bz,abq] at ha;rw [aF gq (t:=jN) rfl];simp (config := { maxSteps := 3000000 }) [jN,jU,oC,zn,XL,ae2,zS,hlt,h1,h2,h3,h4,h5,hb0,hs,x40,RY,TM,iT,jO,kY,ha,l0,l1,l2,l3,l4,l5,af,bz,abq]
theorem ahJ (h4:bq (T nat).G 38 [.ref 0 0,.v (.one (ci 9))] [B3]=some ([.one (ci 6)],[B4])):Dx nat cw n i c B ((bz 6 t x y)) B5:=by
 unfold Dx;have hs:bW .add false (ci i) (ci 1)=some (ci (i+1)):=gN (by omega) (by omega)
 have ha:=x41 (nat:=nat) c hc hk (bz 6 t x y);have hb0:(b==0)=false:=Dd.2 hb;simp only [bz,abI] at ha;rw [aF gq (t:=jN) rfl];simp (config := { maxSteps := 3000000 }) [jN,jU,oC,zn,Gs,Xh,aeA,zS,hlt,h1,h2,h3,h4,h5,hb0,hs,x40,RY,TM,iT,jO,kY,ha,l0,l1,l2,l3,l4,l5,af,bz,abI]
theorem agF (h4:bq (T nat).G 38 [.ref 0 0,.v (.one (ci 9))] [B3]=some ([.one (ci 7)],[B4])):Dx nat cw n i c B ((bz 7 t x y)) B5:=by
 unfold Dx;have hs:bW .add false (ci i) (ci 1)=some (ci (i+1)):=gN (by omega) (by omega)
 have ha:=x41 (nat:=nat) c hc hk (bz 7 t x y);have hb0:(b==0)=false:=Dd.2 hb;simp only [bz,ab7] at ha;rw [aF gq (t:=jN) rfl];simp (config := { maxSteps := 3000000 }) [jN,jU,oC,zn,Gs,Zk,adK,zS,hlt,h1,h2,h3,h4,h5,hb0,hs,x40,RY,TM,iT,jO,kY,ha,l0,l1,l2,l3,l4,l5,af,bz,ab7]
theorem ahK {r:Int} (hr:r=8) (h4:bq (T nat).G 38 [.ref 0 0,.v (.one (ci 9))] [B3]=some ([.one (ci r)],[B4])):Dx nat cw n i c B ((bz 8 t x y)) B5:=by
 unfold Dx;have hs:bW .add false (ci i) (ci 1)=some (ci (i+1)):=gN (by omega) (by omega)
 have ha:=x41 (nat:=nat) c hc hk (bz 8 t x y);have hb0:(b==0)=false:=Dd.2 hb;subst hr;simp only [bz] at ha;rw [aF gq (t:=jN) rfl];simp (config := { maxSteps := 3000000 }) [jN,jU,oC,zn,Gs,Zi,adG,zS,hlt,h1,h2,h3,h4,h5,hb0,hs,x40,RY,TM,iT,jO,kY,ha,l0,l1,l2,l3,l4,l5,af,bz]
end
end
end Go.Ey.Pr
end
