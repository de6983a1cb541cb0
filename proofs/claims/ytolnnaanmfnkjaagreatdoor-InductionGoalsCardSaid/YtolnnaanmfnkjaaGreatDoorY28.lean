/- A part. -/
import Derived.Test.YtolnnaanmfnkjaaGreatDoorY27
set_option linter.all false
set_option maxHeartbeats 4000000
namespace Go.Ey.Pr
open Go.Ey Go.Ey.Seat
section
variable {nat:Nat->List V->Option (List V)}
def cs (b:ByteArray):C:=.lit (.string b)
def ci (n:Int):C:=.lit (.int .i64 n)
def cb (b:Bool):C:=.lit (.bool b)
def ce:C:=cs ⟨#[]⟩
def cz:C:=.slice [] 0
inductive Ob where
 |num (n d:ByteArray)
 |sy (p s:ByteArray)
 |st (t:ByteArray)
 |cons (a b:Ob)
def enc:Ob->List C
 |.num n d=>[ci 1,cs n,cs d,ce,ce,ce,cz]
 |.sy p s=>[ci 2,ce,ce,cs p,cs s,ce,cz]
 |.st t=>[ci 3,ce,ce,ce,ce,cs t,cz]
 |.cons a b=>[ci 4,ce,ce,ce,ce,ce,.slice (enc a++enc b) 2]
theorem bI (o:Ob):(enc o).length=7:=by cases o<;>rfl
def rows {α:Type} (f:α->List C) (l:List α):C:=.slice (l.flatMap f) l.length
theorem oH {α:Type} {f:α->List C} {e:Nat} (hf:∀x,(f x).length=e):∀l:List α,(l.flatMap f).length=l.length * e
 |[]=>by simp
 |x::l=>by rw [D3,B8,hf,oH hf l,Bm,G2];omega
theorem CV {α:Type} {f:α->List C} {e:Nat} (hf:∀x,(f x).length=e):∀(k:Nat) (l:List α),(l.flatMap f).drop (k * e)=(l.drop k).flatMap f
 |0,l=>by simp
 |k+1,[]=>by simp
 |k+1,x::l=>by rw [D3,G2,Nat.add_comm,<-List.drop_drop,List.drop_left' (hf x),CV hf k l,Lz]
theorem kg {α:Type} {f:α->List C} {e:Nat} (hf:∀x,(f x).length=e) {l:List α} {k:Nat} {x:α} (h:l[k]?=some x):eZ e (rows f l) (ci k)=some (f x):=by
 have hk:k < l.length:=(B0.1 h).1;have h1:(k+1) * e<=(l.flatMap f).length:=by rw [oH hf];exact Cl e hk
 simp only [eZ,rows,ci];have h2:(0:Int)<=(k:Int)/\(k:Int) < (l.length:Int)/\((k:Int).toNat+1) * e<=(l.flatMap f).length:=by refine ⟨by omega,by omega,by simpa using h1⟩
 rw [C4 h2];have h3:l.drop k=x::l.drop (k+1):=by rw [Gk hk];congr 1;rw [Ax hk] at h;injection h
 rw [Is,CV hf,h3,D3,List.take_left' (hf x)]
theorem Z7 (a b:List C) (ha:a.length=7) (hb:b.length=7):eZ 7 (.slice (a++b) 2) (ci 0)=some a/\eZ 7 (.slice (a++b) 2) (ci 1)=some b:=by
 constructor
 ·simp [eZ,ci,ha,hb]
 ·simp [eZ,ci,ha,hb];exact K2 (by omega)
theorem BO {α:Type} {f:α->List C} {e bytes:Nat} (hf:∀x,(f x).length=e) (he:0 < e) {l:List α} {x:α} (hb:(l.length+1) * bytes<=aB) (hl:l.length+1<=aB):iO e bytes (.slice (f x) 1) (rows f l)=some (rows f (l++[x])):=by
 have h1:(f x).length=1 * e:=by rw [hf];omega
 have h2:(l.flatMap f).length=l.length * e:=oH hf l;simp only [iO,rows,Lb];rw [C4 h1];simp only [A4];rw [C4 ⟨h1,h2,hb,he,hl⟩];simp
theorem aa {α:Type} {f:α->List C} (l:List α):lN false (rows f l)=some (ci l.length):=rfl
theorem tO {α:Type} {f:α->List C}:rows f []=cz:=rfl
theorem ad6 {n:Int} (h1:-9223372036854775808<=n) (h2:n<=9223372036854775807):IntKind.i64.wrap n=n:=by
 show (if (true && decide (n % 18446744073709551616>=9223372036854775808))=true then n % 18446744073709551616 - 18446744073709551616 else n % 18446744073709551616)=n
 by_cases h:n % 18446744073709551616>=9223372036854775808
 ·rw [C4 (by simpa using h)];omega
 ·rw [Dd (by simpa using h)];omega
theorem eO {a b:Int} (h1:-9223372036854775808<=a+b) (h2:a+b<=9223372036854775807):cZ .add false (ci a) (ci b)=some (ci (a+b)):=by simp [cZ,ci,wR,jr,lQ,ad6 h1 h2]
theorem lJ {a b:Int} (h1:-9223372036854775808<=a - b) (h2:a - b<=9223372036854775807):cZ .sub false (ci a) (ci b)=some (ci (a - b)):=by simp [cZ,ci,wR,jr,lQ,ad6 h1 h2]
theorem akT (a b:Int):cZ .lss false (ci a) (ci b)=some (cb (decide (a < b))):=by simp [cZ,ci,cb,wR,jr,lQ]
theorem ame (a b:Int):cZ .leq false (ci a) (ci b)=some (cb (decide (a<=b))):=by simp [cZ,ci,cb,wR,jr,lQ]
theorem alc (a b:Int):cZ .gtr false (ci a) (ci b)=some (cb (decide (a > b))):=by simp [cZ,ci,cb,wR,jr,lQ]
theorem al3 (a b:Int):cZ .geq false (ci a) (ci b)=some (cb (decide (a>=b))):=by simp [cZ,ci,cb,wR,jr,lQ]
theorem ama (a b:Int):cZ .eql false (ci a) (ci b)=some (cb (a==b)):=by simp [cZ,ci,cb,wR,jr,lQ]
theorem akO (a b:Int):cZ .neq false (ci a) (ci b)=some (cb (!(a==b))):=by simp [cZ,ci,cb,wR,jr,lQ];rfl
theorem akI (b:Bool):unC .not (cb b)=some (cb (!b)):=rfl
theorem aoe {α:Type} (t e:Option α):FV (cb true) t e=t:=rfl
theorem apF {α:Type} (t e:Option α):FV (cb false) t e=e:=rfl
theorem Ip (a b:ByteArray):(a.toList==b.toList)=decide (a=b):=by
 rw [MM,MM];by_cases h:a=b
 ·subst h;simp
 ·have:a.data.toList≠b.data.toList:=fun e=>h (by
   obtain ⟨a⟩:=a;obtain ⟨b⟩:=b;congr 1;exact Array.toList_inj.1 e)
  rw [decide_eq_false h];exact C1.2 this
theorem Tf (a b:ByteArray):cZ .eql false (cs a) (cs b)=some (cb (decide (a=b))):=by simp only [cZ,cs,wR,Fz,C2,Cd,A4,cb,Ip]
theorem SS (a b:ByteArray):cZ .neq false (cs a) (cs b)=some (cb (!decide (a=b))):=by simp only [cZ,cs,wR,Fz,C2,Cd,A4,cb,Ip]
theorem jX (neg:Bool) (a b a' b':ByteArray):wh [1,1] neg [cs a,cs b] [cs a',cs b']=some (cb (if neg then !(decide (a=a') && decide (b=b')) else decide (a=a') && decide (b=b'))):=by simp only [wh,DD,Kt,cs,cb,A4,Ip,Bool.and_true]
theorem ams (a b:Bool):cZ .eql true (cb a) (cb b)=some (cb (a==b)):=rfl
theorem alv (a b:Bool):cZ .neq true (cb a) (cb b)=some (cb (!(a==b))):=rfl
theorem aj5 (a:ByteArray):lN true (cs a)=some (ci a.size):=rfl
theorem abX (l:List C) (n:Nat):lN false (.slice l n)=some (ci n):=rfl
theorem akC (o:Ob):[au (enc o) 0,au (enc o) 1,au (enc o) 2,au (enc o) 3,au (enc o) 4,au (enc o) 5,au (enc o) 6]=enc o:=by cases o<;>rfl
end
end Go.Ey.Pr
set_option maxHeartbeats 4000000
namespace Go.Ey.Pr
open Go.Ey Go.Ey.Seat
section
variable {nat:Nat->List V->Option (List V)}
theorem arW (n:Int):C.lit (.int .i64 n)=ci n:=rfl
theorem ap5 (b:Bool):C.lit (.bool b)=cb b:=rfl
theorem aqs (b:ByteArray):C.lit (.string b)=cs b:=rfl
theorem kZ:C.slice [] 0=cz:=rfl
theorem akg:lN false cz=some (ci 0):=rfl
theorem ai2 (x:List C) (h:x.length=7):fq 7 1 x=some (.slice x 1):=by simp [fq,h,aB]
def dH:ByteArray:=⟨#[108,105,115,112]⟩
def alz:ByteArray:=⟨#[110,105,108]⟩
def tB:ByteArray:=⟨#[116]⟩
def aon:ByteArray:=⟨#[113,117,111,116,101]⟩
theorem aaq:(⟨#[108,105,115,112]⟩:ByteArray)=dH:=rfl
theorem atn:(⟨#[110,105,108]⟩:ByteArray)=alz:=rfl
theorem tK:(⟨#[116]⟩:ByteArray)=tB:=rfl
theorem arJ:(⟨#[113,117,111,116,101]⟩:ByteArray)=aon:=rfl
def zS:=And.intro @Ef.eq_1 (And.intro @di.eq_1 (And.intro @di.eq_2 (And.intro @di.eq_3 (And.intro @di.eq_4 (And.intro @di.eq_5 (And.intro @di.eq_6 (And.intro @iD.eq_1 (And.intro @iD.eq_2 (And.intro @iD.eq_3 (And.intro @aR.eq_1 (And.intro @aR.eq_2 (And.intro @aR.eq_3 (And.intro @aR.eq_4 (And.intro @aR.eq_5 (And.intro @aR.eq_6 (And.intro @aR.eq_7 (And.intro @wC.eq_1 (And.intro @wC.eq_2 (And.intro @YX.eq_1 (And.intro @YX.eq_2 (And.intro @Es.eq_1 (And.intro @Es.eq_2 (And.intro @Wn.eq_1 (And.intro @Wn.eq_2 (And.intro @TF.eq_1 (And.intro @TF.eq_2 (And.intro @FL.eq_1 (And.intro @FL.eq_2 (And.intro @dW.eq_1 (And.intro @dW.eq_2 (And.intro @dW.eq_3 (And.intro @dW.eq_4 (And.intro @nI.eq_1 (And.intro @nI.eq_2 (And.intro @MS.eq_1 (And.intro @MS.eq_2 (And.intro @eF.eq_1 (And.intro @eF.eq_2 (And.intro @eF.eq_3 (And.intro @eF.eq_4 (And.intro @eF.eq_5 (And.intro @eF.eq_6 (And.intro @eF.eq_7 (And.intro @eF.eq_8 (And.intro @eF.eq_9 (And.intro @eF.eq_10 (And.intro @eF.eq_11 (And.intro @eF.eq_12 (And.intro @eF.eq_13 (And.intro @eF.eq_14 (And.intro @eF.eq_15 (And.intro @eF.eq_16 (And.intro @eF.eq_17 (And.intro @jm.eq_1 (And.intro @jm.eq_2 (And.intro @jm.eq_3 (And.intro @iA.eq_1 (And.intro @iA.eq_2 (And.intro @twD.eq_1 (And.intro @twD.eq_2 (And.intro @sized.eq_1 (And.intro @gm.eq_1 (And.intro @gm.eq_2 (And.intro @gm.eq_3 (And.intro @jo.eq_1 (And.intro @jo.eq_2 (And.intro @getOne.eq_1 (And.intro @NK.eq_1 (And.intro @Sq.eq_1 (And.intro @au.eq_1 (And.intro @au.eq_2 (And.intro @au.eq_3 (And.intro @arW (And.intro @ap5 (And.intro @aqs (And.intro @kZ (And.intro @ama (And.intro @akO (And.intro @akT (And.intro @ame (And.intro @alc (And.intro @al3 (And.intro @Tf (And.intro @SS (And.intro @jX (And.intro @ams (And.intro @alv (And.intro @akI (And.intro @aoe (And.intro @apF (And.intro @aj5 (And.intro @abX (And.intro @akg (And.intro @aaq (And.intro @atn (And.intro @tK (@arJ)))))))))))))))))))))))))))))))))))))))))))))))))))))))))))))))))))))))))))))))))))))))))))))))))
def JK:Ob:=.sy dH alz
def oT:Ob:=.sy dH tB
def S9:Ob->Bool
 |.cons _ _=>true
 |_=>false
def aq8:Ob->Bool
 |.sy p s=>decide (p=dH) && decide (s=alz)
 |_=>false
theorem x80 (s:ByteArray):bz (T nat).G 80 [.v (.one (cs s))] []=some ([.agg [cs dH,cs s]],[]):=by rw [aG amF];simp [t80,zS]
theorem x152 (p s:ByteArray):bz (T nat).G 152 [.v (.agg [cs p,cs s])] []=some ([.agg (enc (.sy p s))],[]):=by rw [aG ai0];simp [t152,enc,ce,zS]
theorem ah6:bz (T nat).G 137 [] []=some ([.agg (enc JK)],[]):=by rw [aG ajd];simp [t137,zS,x80,x152,JK,bI]
theorem x95:bz (T nat).G 95 [] []=some ([.agg (enc oT)],[]):=by rw [aG ajZ];simp [t95,zS,x80,x152,oT,bI]
theorem an0 (a b:Ob):[au (enc a) 0,au (enc a) 1,au (enc a) 2,au (enc a) 3,au (enc a) 4,au (enc a) 5,au (enc a) 6,au (enc b) 0,au (enc b) 1,au (enc b) 2,au (enc b) 3,au (enc b) 4,au (enc b) 5,au (enc b) 6]=enc a++enc b:=by cases a<;>cases b<;>rfl
theorem aes (x:List C) (h:x.length=14):fq 7 2 x=some (.slice x 2):=by simp [fq,h,aB]
theorem anB (a b:Ob):bz (T nat).G 162 [.v (.agg (enc a)),.v (.agg (enc b))] []=some ([.agg (enc (.cons a b))],[]):=by
 rw [aG ah7];simp only [t162,di,bI,Ek,Ef,iD,aR,eF,nI,dW,jm,D4,E3,A4,an0];rw [aes _ (by simp [bI])]
 simp [zS,enc,ce]
theorem x160 (s:ByteArray):bz (T nat).G 160 [.v (.one (cs s))] []=some ([.agg (enc (.st s))],[]):=by rw [aG aiC];simp [t160,enc,ce,zS]
theorem x13 (s:ByteArray):bz (T nat).G 13 [.v (.one (cs s))] []=some ([.agg [cs ⟨#[117,115,101,114]⟩,cs s]],[]):=by rw [aG alV];simp [t13,zS]
def GD:Ob->Nat
 |.cons a b=>GD a+GD b+1
 |_=>1
theorem aeV (a b:Ob):eZ 7 (au (enc (.cons a b)) 6) (ci 0)=some (enc a):=(Z7 _ _ (bI a) (bI b)).1
theorem ac5 (a b:Ob):eZ 7 (au (enc (.cons a b)) 6) (ci 1)=some (enc b):=(Z7 _ _ (bI a) (bI b)).2
theorem apW (o:Ob):fq 7 1 [au (enc o) 0,au (enc o) 1,au (enc o) 2,au (enc o) 3,au (enc o) 4,au (enc o) 5,au (enc o) 6]=some (.slice (enc o) 1):=by rw [akC];exact ai2 _ (bI o)
theorem asC {acc:List Ob} {x:Ob} (h:acc.length < 1000000):iO 7 112 (.slice (enc x) 1) (rows enc acc)=some (rows enc (acc++[x])):=
 BO bI (by decide) (by simp only [aB];omega) (by simp only [aB];omega)
def nZ:Ob->Ob->Bool
 |.num n d,.num n' d'=>decide (n=n') && decide (d=d')
 |.sy p s,.sy p' s'=>decide (p=p') && decide (s=s')
 |.st t,.st t'=>decide (t=t')
 |.cons a b,.cons a' b'=>nZ a a' && nZ b b'
 |_,_=>false
theorem OG:∀o:Ob,nZ o o=true
 |.num _ _=>by simp [nZ]
 |.sy _ _=>by simp [nZ]
 |.st _=>by simp [nZ]
 |.cons a b=>by simp [nZ,OG a,OG b]
theorem ax (k:Nat) (h:k < 1000000):cZ .add false (ci k) (ci 1)=some (ci ((k+1:Nat):Int)):=by rw [eO (by omega) (by omega)];simp
theorem Y1 (a b:Ob):lN false (au (enc (.cons a b)) 6)=some (ci 2):=rfl
theorem M8 (a b c d e f:C) (y:List C):bn (T nat).G 125 0 [.c (ci 0),.l [a,b,c,d,e,f,cz],.l y]=some ([.one (cb true)],[]):=by rw [ai oZ (t:=t125.heads[0]) rfl];simp [t125,zS]
theorem asy (a:Ob):∀b:Ob,bz (T nat).G 125 [.v (.agg (enc a)),.v (.agg (enc b))] []=some ([.one (cb (nZ a b))],[]):=by
 induction a with
 |num n d=>
  intro b;rw [aG oZ];cases b with
  |num n' d'=>by_cases h1:n=n'<;>by_cases h2:d=d'<;>simp [t125,zS,enc,ce,nZ,h1,h2,M8]
  |_=>simp [t125,zS,enc,ce,nZ]
 |sy p s=>
  intro b;rw [aG oZ];cases b with
  |sy p' s'=>by_cases h1:p=p'<;>by_cases h2:s=s'<;>simp [t125,zS,enc,ce,nZ,h1,h2,M8]
  |_=>simp [t125,zS,enc,ce,nZ]
 |st t=>
  intro b;rw [aG oZ];cases b with
  |st t'=>by_cases h1:t=t'<;>simp [t125,zS,enc,ce,nZ,h1,M8]
  |_=>simp [t125,zS,enc,ce,nZ]
 |cons a1 a2 ih1 ih2=>
  intro b;cases b with
  |cons b1 b2=>
   have e2:bn (T nat).G 125 0 [.c (ci 2),.l (enc (.cons a1 a2)),.l (enc (.cons b1 b2))]=some ([.one (cb true)],[]):=by rw [ai oZ (t:=t125.heads[0]) rfl];simp [t125,zS,Y1]
   have e1:bn (T nat).G 125 0 [.c (ci 1),.l (enc (.cons a1 a2)),.l (enc (.cons b1 b2))]=some ([.one (cb (nZ a2 b2))],[]):=by rw [ai oZ (t:=t125.heads[0]) rfl];cases h:nZ a2 b2<;>simp [t125,zS,ac5,ih2,h,e2,Y1,eO]
   have e0:bn (T nat).G 125 0 [.c (ci 0),.l (enc (.cons a1 a2)),.l (enc (.cons b1 b2))]=some ([.one (cb (nZ a1 b1 && nZ a2 b2))],[]):=by rw [ai oZ (t:=t125.heads[0]) rfl];cases h:nZ a1 b1<;>simp [t125,zS,aeV,ih1,h,e1,Y1,eO]
   rw [aG oZ];have q0:au (enc (.cons a1 a2)) 0=ci 4:=rfl;have q1:∀k,k=1\/k=2\/k=3\/k=4\/k=5->au (enc (.cons a1 a2)) k=cs ⟨#[]⟩:=by rintro k (rfl|rfl|rfl|rfl|rfl)<;>rfl
   have p0:au (enc (.cons b1 b2)) 0=ci 4:=rfl;have p1:∀k,k=1\/k=2\/k=3\/k=4\/k=5->au (enc (.cons b1 b2)) k=cs ⟨#[]⟩:=by rintro k (rfl|rfl|rfl|rfl|rfl)<;>rfl
   simp [t125,zS,nZ,e0,bI,Y1,q0,q1,p0,p1]
  |_=>
   rw [aG oZ];simp [t125,zS,enc,ce,nZ]
end
end Go.Ey.Pr
set_option maxHeartbeats 4000000
namespace Go.Ey.Pr
open Go.Ey Go.Ey.Seat
inductive Tm where
 |var (p s:ByteArray)
 |eG (o:Ob)
 |app (p s:ByteArray) (ts:List Tm)
mutual
def af:Tm->List C
 |.var p s=>[ci 1,cs p,cs s,ci 0,ce,ce,ce,ce,ce,cz,cz]
 |.eG o=>[ci 2,ce,ce,au (enc o) 0,au (enc o) 1,au (enc o) 2,au (enc o) 3,au (enc o) 4,au (enc o) 5,au (enc o) 6,cz]
 |.app p s ts=>[ci 3,cs p,cs s,ci 0,ce,ce,ce,ce,ce,cz,.slice (fF ts) ts.length]
def fF:List Tm->List C
 |[]=>[]
 |t::ts=>af t++fF ts
end
theorem jG:∀l:List Tm,fF l=l.flatMap af
 |[]=>rfl
 |t::ts=>by rw [fF,D3,jG ts]
theorem ah (t:Tm):(af t).length=11:=by cases t<;>rfl
theorem dw (p s:ByteArray) (ts:List Tm):af (.app p s ts)=[ci 3,cs p,cs s,ci 0,ce,ce,ce,ce,ce,cz,rows af ts]:=by simp [af,rows,jG]
theorem kJ (t:Tm):[au (af t) 0,au (af t) 1,au (af t) 2,au (af t) 3,au (af t) 4,au (af t) 5,au (af t) 6,au (af t) 7,au (af t) 8,au (af t) 9,au (af t) 10]=af t:=by cases t<;>rfl
theorem kR (t:Tm):fq 11 1 [au (af t) 0,au (af t) 1,au (af t) 2,au (af t) 3,au (af t) 4,au (af t) 5,au (af t) 6,au (af t) 7,au (af t) 8,au (af t) 9,au (af t) 10]=some (.slice (af t) 1):=by rw [kJ];simp [fq,ah,aB]
theorem D8 {acc:List Tm} {x:Tm} (h:acc.length < 1000000):iO 11 176 (.slice (af x) 1) (rows af acc)=some (rows af (acc++[x])):=
 BO ah (by decide) (by simp only [aB];omega) (by simp only [aB];omega)
def eB:ByteArray:=⟨#[]⟩
theorem emK:cs ⟨#[]⟩=ce:=rfl
theorem agK (b:ByteArray):cZ .eql false ce (cs b)=some (cb (decide (eB=b))):=Tf _ _
theorem aiU (b:ByteArray):cZ .eql false (cs b) ce=some (cb (decide (b=eB))):=Tf _ _
theorem agQ (b:ByteArray):cZ .neq false ce (cs b)=some (cb (!decide (eB=b))):=SS _ _
theorem ajb (b:ByteArray):cZ .neq false (cs b) ce=some (cb (!decide (b=eB))):=SS _ _
theorem ahz:cZ .eql false ce ce=some (cb true):=by simp [ce,Tf]
theorem ag4:cZ .neq false ce ce=some (cb false):=by simp [ce,SS]
theorem ai9 (neg:Bool) (a b:ByteArray):wh [1,1] neg [ce,ce] [cs a,cs b]=some (cb (if neg then !(decide (eB=a) && decide (eB=b)) else decide (eB=a) && decide (eB=b))):=jX _ _ _ _ _
theorem aim (neg:Bool) (a b:ByteArray):wh [1,1] neg [cs a,cs b] [ce,ce]=some (cb (if neg then !(decide (a=eB) && decide (b=eB)) else decide (a=eB) && decide (b=eB))):=jX _ _ _ _ _
theorem aie (neg:Bool):wh [1,1] neg [ce,ce] [ce,ce]=some (cb (!neg)):=by cases neg<;>simp [ce,jX]
def zZ:=And.intro zS (And.intro @emK (And.intro @agK (And.intro @aiU (And.intro @agQ (And.intro @ajb (And.intro @ahz (And.intro @ag4 (And.intro @ai9 (And.intro @aim (@aie))))))))))
section
variable {nat:Nat->List V->Option (List V)}
theorem x53 (p s:ByteArray):bz (T nat).G 53 [.v (.agg [cs p,cs s])] []=some ([.agg (af (.var p s))],[]):=by rw [aG alE];simp [t53,zZ,af]
theorem x94 (o:Ob):bz (T nat).G 94 [.v (.agg (enc o))] []=some ([.agg (af (.eG o))],[]):=by rw [aG al5];simp [t94,zZ,af,bI]
theorem x54 (p s:ByteArray) (ts:List Tm):bz (T nat).G 54 [.v (.agg [cs p,cs s]),.v (.one (rows af ts))] []=some ([.agg (af (.app p s ts))],[]):=by rw [aG akc];simp [t54,zZ,dw]
end
end Go.Ey.Pr
set_option maxHeartbeats 4000000
namespace Go.Ey.Pr
open Go.Ey Go.Ey.Seat
def heads:List ByteArray:=[⟨#[99,97,114]⟩,⟨#[99,100,114]⟩,⟨#[99,111,110,115]⟩,⟨#[99,111,110,115,112]⟩,⟨#[110,111,116]⟩,⟨#[101,113,117,97,108]⟩,⟨#[105,102]⟩,⟨#[98,105,110,97,114,121,45,43]⟩,⟨#[60]⟩,⟨#[105,110,116,101,103,101,114,112]⟩,⟨#[108,101,110]⟩,⟨#[98,105,110,97,114,121,45,97,112,112,101,110,100]⟩,⟨#[114,101,118]⟩,⟨#[116,114,117,101,45,108,105,115,116,112]⟩,⟨#[110,97,116,112]⟩,⟨#[112,111,115,112]⟩,⟨#[117,110,97,114,121,45,45]⟩,⟨#[98,105,110,97,114,121,45,42]⟩,⟨#[105,109,112,108,105,101,115]⟩,⟨#[115,121,109,98,111,108,112]⟩,⟨#[114,97,116,105,111,110,97,108,112]⟩,⟨#[102,105,120]⟩,⟨#[105,102,102]⟩,⟨#[110,102,105,120]⟩,⟨#[122,112]⟩]
def owns:List ByteArray:=[⟨#[100,117,98]⟩,⟨#[115,97,109,101,45,108,101,110]⟩,⟨#[112,97,105,114,115]⟩,⟨#[100,117,98,115]⟩,⟨#[116,114,101,101]⟩,⟨#[101,118,101,110,115]⟩,⟨#[111,100,100,115]⟩,⟨#[120,111,114,50]⟩]
def usr:ByteArray:=⟨#[117,115,101,114]⟩
def more:List Ob:=(aon::heads).map (Ob.sy dH)++(⟨#[120]⟩::⟨#[121]⟩::⟨#[122]⟩::owns).map (Ob.sy usr)
def atoms:List Ob:=[JK,oT,
 .num ⟨#[48]⟩ ⟨#[49]⟩,.num ⟨#[49]⟩ ⟨#[49]⟩,.num ⟨#[50]⟩ ⟨#[49]⟩,.num ⟨#[51]⟩ ⟨#[49]⟩,.num ⟨#[45,49]⟩ ⟨#[49]⟩,.num ⟨#[45,50]⟩ ⟨#[49]⟩,.num ⟨#[45,51]⟩ ⟨#[49]⟩,
 .num ⟨#[49]⟩ ⟨#[50]⟩,.num ⟨#[45,53]⟩ ⟨#[51]⟩,
 .sy ⟨#[117,115,101,114]⟩ ⟨#[97]⟩,.sy ⟨#[117,115,101,114]⟩ ⟨#[98]⟩,.sy ⟨#[117,115,101,114]⟩ ⟨#[99]⟩,
 .st ⟨#[]⟩,.st ⟨#[112]⟩,.st ⟨#[112,113]⟩]++more
def Good:Ob->Prop
 |.cons a b=>Good a/\Good b
 |o=>o∈atoms
def yes:R:=([.one (cb true)],[])
theorem Dc (o:Ob):1<=GD o:=by cases o<;>simp [GD]
mutual
def av:Tm->Nat
 |.var _ _=>1
 |.eG o=>GD o
 |.app _ _ ts=>1+aJ ts
def aJ:List Tm->Nat
 |[]=>0
 |t::ts=>av t+aJ ts
end
inductive Ee:Tm->Prop where
 |var {p s}:Ee (.var p s)
 |eG {o}:GD o<=3000->Ee (.eG o)
 |app {p s ts}:(∀t∈ts,Ee t)->Ee (.app p s ts)
theorem jf (t:Tm):1<=av t:=by
 cases t with
 |eG o=>simpa [av] using Dc o
 |_=>simp [av]
theorem drop_at {α:Type} {l:List α} {k:Nat} (h:k < l.length):l.drop k=l[k]::l.drop (k+1):=Gk h
theorem aA {α:Type} {l:List α} {k:Nat} (h:¬k < l.length):l.drop k=[]:=List.drop_eq_nil_of_le (by omega)
theorem eH {ts:List Tm} {k:Nat} (h:k < ts.length):eZ 11 (rows af ts) (ci k)=some (af ts[k]):=kg ah (Ax h)
theorem uk (ts:List Tm):lN false (rows af ts)=some (ci ts.length):=rfl
mutual
theorem ae2:∀t:Tm,av t<=3000->Ee t
 |.var _ _,_=> .var
 |.eG o,h=> .eG (by simpa [av] using h)
 |.app p s ts,h=> .app (aeq ts (by simp only [av] at h;omega))
theorem aeq:∀ts:List Tm,aJ ts<=3000->∀t∈ts,Ee t
 |[],_=>fun t ht=>by cases ht
 |x::ts,h=>by
  simp only [aJ] at h;have h1:=ae2 x (by omega)
  have h2:=aeq ts (by omega)
  intro t ht;rcases D1.1 ht with rfl|ht
  ·exact h1
  ·exact h2 t ht
end
theorem qd:∀ts:List Tm,ts.length<=aJ ts
 |[]=>B9 _
 |t::ts=>by have:=jf t;have:=qd ts;simp only [Bm,aJ];omega
theorem nK {t:Tm}:∀{ts:List Tm},t∈ts->av t<=aJ ts
 |x::ts,h=>by
  simp only [aJ];rcases D1.1 h with rfl|h
  ·omega
  ·have:=nK h;omega
mutual
def jb:Tm->Tm->Bool
 |.var p s,.var p' s'=>decide (p=p') && decide (s=s')
 |.eG o,.eG o'=>nZ o o'
 |.app p s ts,.app p' s' ts'=>decide (p=p') && decide (s=s') && xB ts ts'
 |_,_=>false
def xB:List Tm->List Tm->Bool
 |[],[]=>true
 |t::ts,t'::ts'=>jb t t' && xB ts ts'
 |_,_=>false
end
theorem Om:∀{a b:List Tm},a.length≠b.length->xB a b=false
 |[],[],h=>absurd rfl h
 |[],_::_,_=>rfl
 |_::_,[],_=>rfl
 |x::a,y::b,h=>by rw [xB,Om (a:=a) (b:=b) (by simpa using h),Bool.and_false]
section
variable {nat:Nat->List V->Option (List V)}
theorem ajB (a b:Ob):bz (T nat).G 169 [.v (.agg (enc a)),.v (.agg (enc b))] []=bn (T nat).G 169 0 [.l (enc a),.l (enc b)]:=by rw [aG xw];simp [t169,zS,bI]
theorem anr (a:Ob):∀b:Ob,bn (T nat).G 169 0 [.l (enc a),.l (enc b)]=some ([.one (cb (nZ a b))],[]):=by
 induction a with
 |num n d=>
  intro b;rw [ai xw (t:=t169.heads[0]) rfl];cases b with
  |num n' d'=>by_cases h1:n=n'<;>by_cases h2:d=d'<;>simp [t169,zZ,enc,nZ,h1,h2]
  |_=>simp [t169,zZ,enc,nZ]
 |sy p s=>
  intro b;rw [ai xw (t:=t169.heads[0]) rfl];cases b with
  |sy p' s'=>by_cases h1:p=p'<;>by_cases h2:s=s'<;>simp [t169,zZ,enc,nZ,h1,h2]
  |_=>simp [t169,zZ,enc,nZ]
 |st t=>
  intro b;rw [ai xw (t:=t169.heads[0]) rfl];cases b with
  |st t'=>by_cases h1:t=t'<;>simp [t169,zZ,enc,nZ,h1]
  |_=>simp [t169,zZ,enc,nZ]
 |cons a1 a2 ih1 ih2=>
  intro b;cases b with
  |cons b1 b2=>
   have e1:bn (T nat).G 169 1 [.c (ci 2),.c (ci 1),.c (ci 1),.l (enc (.cons a1 a2)),.l (enc (.cons b1 b2))]=some ([.one (cb (nZ a2 b2))],[]):=by
    have hs:cZ .sub false (ci 2) (ci 1)=some (ci 1):=lJ (by omega) (by omega)
    rw [ai xw (t:=t169.heads[1]) rfl];simp [t169,zZ,aeV,ac5,hs,ih2,Y1,bI]
   have e0:bn (T nat).G 169 1 [.c (ci 2),.c (ci 1),.c (ci 0),.l (enc (.cons a1 a2)),.l (enc (.cons b1 b2))]=some ([.one (cb (nZ a1 b1 && nZ a2 b2))],[]):=by
    have hs:cZ .add false (ci 0) (ci 1)=some (ci 1):=eO (by omega) (by omega)
    rw [ai xw (t:=t169.heads[1]) rfl];cases h:nZ a1 b1<;>simp [t169,zZ,aeV,ac5,ajB,ih1,h,hs,e1,Y1,bI]
   have hs:cZ .sub false (ci 2) (ci 1)=some (ci 1):=lJ (by omega) (by omega)
   have q0:au (enc (.cons a1 a2)) 0=ci 4:=rfl;have q1:au (enc (.cons a1 a2)) 1=ce:=rfl;have q2:au (enc (.cons a1 a2)) 2=ce:=rfl;have q3:au (enc (.cons a1 a2)) 3=ce:=rfl;have q4:au (enc (.cons a1 a2)) 4=ce:=rfl;have q5:au (enc (.cons a1 a2)) 5=ce:=rfl;have p0:au (enc (.cons b1 b2)) 0=ci 4:=rfl;have p1:au (enc (.cons b1 b2)) 1=ce:=rfl;have p2:au (enc (.cons b1 b2)) 2=ce:=rfl;have p3:au (enc (.cons b1 b2)) 3=ce:=rfl;have p4:au (enc (.cons b1 b2)) 4=ce:=rfl;have p5:au (enc (.cons b1 b2)) 5=ce:=rfl;rw [ai xw (t:=t169.heads[0]) rfl];simp [t169,zZ,nZ,e0,bI,Y1,hs,q0,q1,q2,q3,q4,q5,p0,p1,p2,p3,p4,p5]
  |_=>
   rw [ai xw (t:=t169.heads[0]) rfl];simp [t169,zZ,enc,nZ]
theorem arz (a b:Ob):bz (T nat).G 169 [.v (.agg (enc a)),.v (.agg (enc b))] []=some ([.one (cb (nZ a b))],[]):=by rw [ajB,anr]
theorem ajO:bz (T nat).G 169 [.v (.agg [ci 0,ce,ce,ce,ce,ce,cz]),.v (.agg [ci 0,ce,ce,ce,ce,ce,cz])] []=some yes:=by rw [aG xw];simp [t169,zZ,yes];rw [ai xw (t:=t169.heads[0]) rfl];simp [t169,zZ,yes]
theorem ajP:bz (T nat).G 125 [.v (.agg [ci 0,ce,ce,ce,ce,ce,cz]),.v (.agg [ci 0,ce,ce,ce,ce,ce,cz])] []=some yes:=by rw [aG oZ];simp [t125,zZ,yes,M8]
theorem UJ (us bs:List Tm) (hm:us.length < 100000) (he:us.length=bs.length) (ih:∀a∈us,∀b,bz (T nat).G 114 [.v (.agg (af a)),.v (.agg (af b))] []=some ([.one (cb (jb a b))],[])):∀(m k:Nat),k+m=us.length->
  bn (T nat).G 365 0 [.c (rows af bs),.c (rows af us),.c (ci us.length),.c (ci k)]=some ([.one (cb (xB (us.drop k) (bs.drop k)))],[])
 |0,k,hk=>by
  have hlt:¬((k:Int) < (us.length:Int)):=by omega
  rw [ai SY (t:=t365.heads[0]) rfl,aA (by omega),aA (by omega)]
  simp [t365,zZ,hlt,xB]
 |m+1,k,hk=>by
  have hkr:k < us.length:=by omega
  have hkb:k < bs.length:=by omega
  have hlt:((k:Int) < (us.length:Int)):=by omega
  have hc:=ih us[k] (A5 hkr) bs[k];have hs:=ax k (by omega)
  have hi:=UJ us bs hm he ih m (k+1) (by omega)
  rw [drop_at hkr,drop_at hkb,ai SY (t:=t365.heads[0]) rfl];cases hb:jb us[k] bs[k]<;>rw [hb] at hc<;>simp [-Int.natCast_add,t365,zZ,hlt,xB,eH hkr,eH hkb,hc,hs,hi,ah,hb]
theorem aoV (us bs:List Tm) (hm:us.length < 100000) (ih:∀a∈us,∀b,bz (T nat).G 114 [.v (.agg (af a)),.v (.agg (af b))] []=some ([.one (cb (jb a b))],[])):
  bz (T nat).G 365 [.v (.one (rows af us)),.v (.one (rows af bs)),.ref 0 0] []=some ([.one (cb (xB us bs))],[]):=by
 rw [aG SY];by_cases he:us.length=bs.length
 ·have h3:=UJ us bs hm he ih us.length 0 (by omega)
  simp only [An,A6] at h3;rw [he] at h3;have hb:(((us.length:Int))==(bs.length:Int))=true:=by rw [he];exact beq_self_eq_true _
  simp [t365,zZ,uk,he,h3]
 ·have hb:((us.length:Int)==(bs.length:Int))=false:=C1.2 (by omega)
  simp [t365,zZ,uk,hb,Om he]
theorem ajL:bz (T nat).G 365 [.v (.one cz),.v (.one cz),.ref 0 0] []=some yes:=by
 have:=aoV (nat:=nat) [] [] (by simp) (fun a h=>by cases h)
 simpa [tO,xB,yes] using this
theorem x114 {a:Tm} (hg:Ee a) (hn:av a<=3000):∀b,bz (T nat).G 114 [.v (.agg (af a)),.v (.agg (af b))] []=some ([.one (cb (jb a b))],[]):=by
 induction hg with
 |@var p s=>
  intro b;rw [aG Su];cases b with
  |var p' s'=>cases h1:(decide (p=p') && decide (s=s'))<;>simp [t114,zZ,af,jb,ajO,yes,ajL,h1]
  |eG o=>simp [t114,zZ,af,jb]
  |app p' s' ts'=>simp [t114,zZ,dw,jb];simp [af,zZ]
 |@eG o ho=>
  intro b;rw [aG Su];cases b with
  |eG o'=>
   simp only [af];cases h1:nZ o o'<;>simp [t114,zZ,jb,arz,yes,ajL,h1,akC]
  |var p' s'=>simp [t114,zZ,af,jb]
  |app p' s' ts'=>simp [t114,zZ,dw,jb];simp [af,zZ]
 |@app p s ts hs ih=>
  intro b;simp only [av] at hn;have hl:=qd ts;rw [aG Su,dw];cases b with
  |app p' s' ts'=>
   have h3:=aoV (nat:=nat) ts ts' (by omega) (fun t ht=>ih t ht (by have:=nK ht;omega))
   rw [dw];cases h1:(decide (p=p') && decide (s=s'))<;>simp [t114,zZ,jb,ajO,yes,h3,h1]
  |var p' s'=>simp [t114,zZ,af,jb]
  |eG o=>simp [t114,zZ,af,jb]
theorem WU (us bs:List Tm) (hm:us.length < 100000) (he:us.length=bs.length) (ih:∀a∈us,∀b,bz (T nat).G 49 [.v (.agg (af a)),.v (.agg (af b))] []=some ([.one (cb (jb a b))],[])):∀(m k:Nat),k+m=us.length->
  bn (T nat).G 126 0 [.c (rows af us),.c (rows af bs),.c (ci k)]=some ([.one (cb (xB (us.drop k) (bs.drop k)))],[])
 |0,k,hk=>by
  have hlt:¬((k:Int) < (us.length:Int)):=by omega
  rw [ai Ui (t:=t126.heads[0]) rfl,aA (by omega),aA (by omega)]
  simp [t126,zZ,hlt,xB,uk]
 |m+1,k,hk=>by
  have hkr:k < us.length:=by omega
  have hkb:k < bs.length:=by omega
  have hlt:((k:Int) < (us.length:Int)):=by omega
  have hc:=ih us[k] (A5 hkr) bs[k];have hs:=ax k (by omega)
  have hi:=WU us bs hm he ih m (k+1) (by omega)
  rw [drop_at hkr,drop_at hkb,ai Ui (t:=t126.heads[0]) rfl];cases hb:jb us[k] bs[k]<;>rw [hb] at hc<;>simp [-Int.natCast_add,t126,zZ,hlt,uk,xB,eH hkr,eH hkb,hc,hs,hi,ah,hb]
theorem apG (us bs:List Tm) (hm:us.length < 100000) (ih:∀a∈us,∀b,bz (T nat).G 49 [.v (.agg (af a)),.v (.agg (af b))] []=some ([.one (cb (jb a b))],[])):
  bz (T nat).G 126 [.v (.one (rows af us)),.v (.one (rows af bs))] []=some ([.one (cb (xB us bs))],[]):=by
 rw [aG Ui];by_cases he:us.length=bs.length
 ·have h3:=WU us bs hm he ih us.length 0 (by omega)
  simp only [An,A6] at h3;simp [t126,zZ,uk,he,h3]
 ·have hb:((us.length:Int)==(bs.length:Int))=false:=C1.2 (by omega)
  simp [t126,zZ,uk,hb,Om he]
theorem af1:bz (T nat).G 126 [.v (.one cz),.v (.one cz)] []=some yes:=by
 have:=apG (nat:=nat) [] [] (by simp) (fun a h=>by cases h)
 simpa [tO,xB,yes] using this
theorem ZZ {a:Tm} (hg:Ee a) (hn:av a<=3000):∀b,bz (T nat).G 49 [.v (.agg (af a)),.v (.agg (af b))] []=some ([.one (cb (jb a b))],[]):=by
 induction hg with
 |@var p s=>
  intro b;rw [aG Ua];cases b with
  |var p' s'=>cases h1:(decide (p=p') && decide (s=s'))<;>simp [t49,zZ,af,jb,ajP,yes,af1,h1]
  |eG o=>simp [t49,zZ,af,jb]
  |app p' s' ts'=>simp [t49,zZ,dw,jb];simp [af,zZ]
 |@eG o ho=>
  intro b;rw [aG Ua];cases b with
  |eG o'=>
   simp only [af];cases h1:nZ o o'<;>simp [t49,zZ,jb,asy,yes,af1,h1,akC]
  |var p' s'=>simp [t49,zZ,af,jb]
  |app p' s' ts'=>simp [t49,zZ,dw,jb];simp [af,zZ]
 |@app p s ts hs ih=>
  intro b;simp only [av] at hn;have hl:=qd ts;rw [aG Ua,dw];cases b with
  |app p' s' ts'=>
   have h3:=apG (nat:=nat) ts ts' (by omega) (fun t ht=>ih t ht (by have:=nK ht;omega))
   rw [dw];cases h1:(decide (p=p') && decide (s=s'))<;>simp [t49,zZ,jb,ajP,yes,h3,h1]
  |var p' s'=>simp [t49,zZ,af,jb]
  |eG o=>simp [t49,zZ,af,jb]
end
end Go.Ey.Pr
set_option maxHeartbeats 4000000
namespace Go.Ey.Pr
open Go.Ey Go.Ey.Seat
def inT:List Tm->Tm->Bool
 |[],_=>false
 |x::xs,t=>jb x t||inT xs t
def PV (t:Tm):Prop:=av t<=3000
theorem PV.g {t:Tm} (h:PV t):Ee t:=ae2 t h
def Al (ts:List Tm):Prop:=∀t∈ts,PV t
section
variable {nat:Nat->List V->Option (List V)}
theorem aq5 {x:Tm} (h:PV x) (t:Tm):bz (T nat).G 177 [.v (.agg (af x)),.ref 0 0] [af t]=some ([.one (cb (jb x t))],[af t]):=by rw [aG ahL];simp [t177,zZ,x114 h.g h t,ah]
theorem UH (ts:List Tm) (hm:ts.length < 100000) (hk:Al ts) (t:Tm):∀(m k:Nat),k+m=ts.length->
  ∃r:Int,bn (T nat).G 371 0 [.c (rows af ts),.c (ci ts.length),.c (ci k),.l (af t)]=some ([.one (ci r)],[af t])/\decide (0<=r)=inT (ts.drop k) t
 |0,k,hk=>by
  have hlt:¬((k:Int) < (ts.length:Int)):=by omega
  refine ⟨-1,?_,?_⟩
  ·rw [ai MV (t:=t371.heads[0]) rfl];simp [t371,zZ,hlt,ah]
  ·rw [aA (by omega)];simp [inT]
 |m+1,k,hk'=>by
  have hkr:k < ts.length:=by omega
  have hlt:((k:Int) < (ts.length:Int)):=by omega
  have hc:=aq5 (nat:=nat) (hk ts[k] (A5 hkr)) t;have hs:=ax k (by omega)
  rw [drop_at hkr];simp only [inT];cases hb:jb ts[k] t with
  |true=>
   rw [hb] at hc;refine ⟨k,?_,by simp⟩
   rw [ai MV (t:=t371.heads[0]) rfl];simp [t371,zZ,hlt,eH hkr,hc,ah]
  |false=>
   rw [hb] at hc;obtain ⟨r,h1,h2⟩:=UH ts hm hk t m (k+1) (by omega)
   refine ⟨r,?_,by simpa using h2⟩
   rw [ai MV (t:=t371.heads[0]) rfl];simp [-Int.natCast_add,t371,zZ,hlt,eH hkr,hc,hs,h1,ah]
theorem alN (ts:List Tm) (hm:ts.length < 100000) (hk:Al ts) (t:Tm):bz (T nat).G 127 [.v (.one (rows af ts)),.v (.agg (af t))] []=some ([.one (cb (inT ts t))],[]):=by
 obtain ⟨r,h1,h2⟩:=UH (nat:=nat) ts hm hk t ts.length 0 (by omega)
 simp only [An,A6] at h1 h2;have h3:bz (T nat).G 371 [.v (.one (rows af ts)),.ref 0 0] [af t]=some ([.one (ci r)],[af t]):=by rw [aG MV];simp [t371,zZ,uk,h1,ah]
 have h4:bz (T nat).G 366 [.v (.one (rows af ts)),.ref 0 0] [af t]=some ([.one (cb (inT ts t))],[af t]):=by rw [aG ahZ];simp only [t366];simp [zZ,h3,h2,ah]
 rw [aG aht];simp [t127,zZ,h4,ah]
theorem Vn (ts:List Tm) (hm:ts.length < 100000) (hk:Al ts) (t:Tm):∀(m k:Nat),k+m=ts.length->
  bn (T nat).G 107 0 [.c (rows af ts),.c (ci k),.l (af t)]=some ([.one (cb (inT (ts.drop k) t))],[])
 |0,k,hk=>by
  have hlt:¬((k:Int) < (ts.length:Int)):=by omega
  rw [ai TT (t:=t107.heads[0]) rfl,aA (by omega)]
  simp [t107,zZ,hlt,uk,inT]
 |m+1,k,hk'=>by
  have hkr:k < ts.length:=by omega
  have hlt:((k:Int) < (ts.length:Int)):=by omega
  have ho:=hk ts[k] (A5 hkr);have hc:=ZZ (nat:=nat) ho.g ho t;have hs:=ax k (by omega)
  have hi:=Vn ts hm hk t m (k+1) (by omega)
  rw [drop_at hkr,ai TT (t:=t107.heads[0]) rfl];cases hb:jb ts[k] t<;>rw [hb] at hc<;>simp [-Int.natCast_add,t107,zZ,hlt,uk,inT,eH hkr,hc,hs,hi,ah,hb]
theorem x107 (ts:List Tm) (hm:ts.length < 100000) (hk:Al ts) (t:Tm):bz (T nat).G 107 [.v (.one (rows af ts)),.v (.agg (af t))] []=some ([.one (cb (inT ts t))],[]):=by
 have h3:=Vn (nat:=nat) ts hm hk t ts.length 0 (by omega)
 simp only [An,A6] at h3;rw [aG TT];simp [t107,zZ,h3,ah]
end
end Go.Ey.Pr
set_option maxHeartbeats 4000000
namespace Go.Ey.Pr
open Go.Ey Go.Ey.Seat
mutual
theorem ze:∀t:Tm,jb t t=true
 |.var p s=>by simp [jb]
 |.eG o=>by simp [jb,OG]
 |.app p s ts=>by simp [jb,QN ts]
theorem QN:∀ts:List Tm,xB ts ts=true
 |[]=>rfl
 |t::ts=>by simp [xB,ze t,QN ts]
end
section
variable {nat:Nat->List V->Option (List V)}
theorem arK {l:List Ob} {k:Nat} (h:k < l.length):eZ 7 (rows enc l) (ci k)=some (enc l[k]):=kg bI (Ax h)
theorem aqT (l:List Ob):lN false (rows enc l)=some (ci l.length):=rfl
def hO:Ob->Nat
 |.cons a b=>max (hO a+1) (hO b)
 |_=>1
def zH:List Ob->Ob
 |[]=>JK
 |x::xs=> .cons x (zH xs)
theorem Xc (l:List Ob) (hm:l.length < 100000):∀(k:Nat),k<=l.length->
  bn (T nat).G 161 0 [.c (rows enc l),.c (ci ((k:Int) - 1)),.c (ci 0),.c ce,.c ce,.c ce,.c ce,.c ce,.c cz,.l (enc (zH (l.drop k)))]=some ([.agg (enc (zH l))],[])
 |0,_=>by rw [ai Uk (t:=t161.heads[0]) rfl];simp [t161,zZ,bI]
 |k+1,hk=>by
  have hkr:k < l.length:=by omega
  have he:(((k+1:Nat):Int) - 1)=(k:Int):=by omega
  have hs:cZ .sub false (ci (k:Int)) (ci 1)=some (ci ((k:Int) - 1)):=lJ (by omega) (by omega)
  have hi:=Xc l hm k (by omega)
  rw [drop_at hkr,zH] at hi;rw [he,ai Uk (t:=t161.heads[0]) rfl];simp [-Int.natCast_add,t161,zZ,arK hkr,anB,hs,hi,bI]
theorem ary (l:List Ob) (hm:l.length < 100000):bz (T nat).G 161 [.v (.one (rows enc l))] []=some ([.agg (enc (zH l))],[]):=by
 have h3:=Xc (nat:=nat) l hm l.length (B9 _);rw [aA (by omega),zH] at h3
 have hs:cZ .sub false (ci (l.length:Int)) (ci 1)=some (ci ((l.length:Int) - 1)):=lJ (by omega) (by omega)
 rw [aG Uk];simp [t161,zZ,ah6,aqT,hs,h3,bI]
end
end Go.Ey.Pr
set_option maxHeartbeats 4000000
namespace Go.Ey.Pr
open Go.Ey Go.Ey.Seat
def wQ (b:UInt8):List C:=[.lit (.int .u8 (b.toNat:Int))]
theorem VP (b:UInt8):(wQ b).length=1:=rfl
def bx (bs:List UInt8) (pos:Nat):List C:=[rows wQ bs,ci pos]
theorem mP (bs:List UInt8) (pos:Nat):(bx bs pos).length=2:=rfl
theorem bx0 (bs:List UInt8) (pos:Nat):au (bx bs pos) 0=rows wQ bs:=rfl
theorem bx1 (bs:List UInt8) (pos:Nat):au (bx bs pos) 1=ci pos:=rfl
theorem am3 (l:List UInt8):lN false (rows wQ l)=some (ci l.length):=rfl
theorem asH {l:List UInt8} {k:Nat} (h:k < l.length):eZ 1 (rows wQ l) (ci k)=some (wQ l[k]):=kg (f:=wQ) VP (Ax h)
theorem anF (b:UInt8):WH .i64 (au (wQ b) 0)=some (ci (b.toNat:Int)):=by have h:=b.toNat_lt;simp only [wQ,au,List.getD_cons_zero,WH,ci];rw [ad6 (by omega) (by omega)]
theorem ZF {a b:Int} (h:b≠0):cZ .rem false (ci a) (ci b)=some (ci (a.tmod b)):=by simp [cZ,ci,wR,jr,lQ,h]
section
variable {nat:Nat->List V->Option (List V)}
theorem x38 (bs:List UInt8) (pos:Nat) (hb:bs.length<=80) (hp:pos<=bs.length) (n:Int) (hn:1<=n):
  ∃(r:Int) (pos':Nat),bz (T nat).G 38 [.ref 0 0,.v (.one (ci n))] [bx bs pos]=some ([.one (ci r)],[bx bs pos'])/\0<=r/\r < n/\pos'<=bs.length:=by
 by_cases h:pos < bs.length
 ·have hlt:¬(bs.length:Int)<=pos:=by omega
  have hn1:¬n < 1:=by omega
  have hs:cZ .add false (ci (pos:Int)) (ci 1)=some (ci ((pos+1:Nat):Int)):=ax pos (by omega)
  have hs2:cZ .sub false (ci ((pos+1:Nat):Int)) (ci 1)=some (ci (pos:Int)):=by
   rw [lJ (by omega) (by omega)]
   exact F0 (fun x=>some (ci x)) (by omega)
  have hr:cZ .rem false (ci (bs[pos].toNat:Int)) (ci n)=some (ci ((bs[pos].toNat:Int).tmod n)):=ZF (by omega)
  refine ⟨(bs[pos].toNat:Int).tmod n,pos+1,?_,Int.tmod_nonneg _ (by omega),Int.tmod_lt_of_pos _ (by omega),by omega⟩
  rw [aG aeR];simp only [t38];simp [-Int.natCast_add,zZ,mP,bx0,bx1,am3,hlt,hn1,hs,hs2,hr,asH h,anF,VP];rfl
 ·have hlt:(bs.length:Int)<=pos:=by omega
  refine ⟨0,pos,?_,by omega,by omega,hp⟩
  rw [aG aeR];simp [t38,zZ,mP,bx0,bx1,am3,hlt]
end
end Go.Ey.Pr
