import Derived.Test.YtolnnaanmfnkjaaGreatDoorZ25
set_option linter.all false
set_option maxHeartbeats 0
set_option maxRecDepth 100000
namespace Go.Ey.Pr
open Seat
section
variable {nat:Nat->List V->Option (List V)}
def cs (b:ByteArray):C:=.lit (.string b)
def ci (n:Int):C:=.lit (.int .i64 n)
def cb (b:Bool):C:=.lit (.bool b)
def ce:C:=cs ⟨#[]⟩
def cz:C:=.slice [] 0
inductive Ob where
 |num (n d:ByteArray)
 |sy (p s:ByteArray)
 |st (t:ByteArray)
 |cons (a b:Ob)
def enc:Ob->List C
 |.num n d=>[ci 1,cs n,cs d,ce,ce,ce,cz]
 |.sy p s=>[ci 2,ce,ce,cs p,cs s,ce,cz]
 |.st t=>[ci 3,ce,ce,ce,ce,cs t,cz]
 |.cons a b=>[ci 4,ce,ce,ce,ce,ce,.slice (enc a++enc b) 2]
theorem bF (o:Ob):(enc o).length=7:=by cases o<;>rfl
def rows {α:Type} (f:α->List C) (l:List α):C:=.slice (l.flatMap f) l.length
theorem yU {α:Type} {f:α->List C} {e:Nat} (hf:∀x,(f x).length=e):∀l:List α,(l.flatMap f).length=l.length * e
 |[]=>by simp
 |x::l=>by rw [D3,Ax,hf,yU hf l,C5,G1];omega
theorem Ka {α:Type} {f:α->List C} {e:Nat} (hf:∀x,(f x).length=e):∀(k:Nat) (l:List α),(l.flatMap f).drop (k * e)=(l.drop k).flatMap f
 |0,l=>by simp
 |k+1,[]=>by simp
 |k+1,x::l=>by rw [D3,G1,Nat.add_comm,<-List.drop_drop,List.drop_left' (hf x),Ka hf k l,List.drop_succ_cons]
theorem QF {α:Type} {f:α->List C} {e:Nat} (hf:∀x,(f x).length=e):∀(k:Nat) (l:List α),(l.flatMap f).take (k * e)=(l.take k).flatMap f
 |0,l=>by simp
 |k+1,[]=>by simp
 |k+1,x::l=>by rw [D3,G1,Nat.add_comm,List.take_add,List.take_left' (hf x),List.drop_left' (hf x),QF hf k l,L3,D3]
theorem jE {α:Type} {f:α->List C} {e:Nat} (hf:∀x,(f x).length=e) {l:List α} {k:Nat} {x:α} (h:l[k]?=some x):fI e (rows f l) (ci k)=some (f x):=by
 have hk:k < l.length:=(As.1 h).1;have h1:(k+1) * e<=(l.flatMap f).length:=by rw [yU hf];exact Cd e hk
 simp only [fI,rows,ci];have h2:(0:Int)<=(k:Int)/\(k:Int) < (l.length:Int)/\((k:Int).toNat+1) * e<=(l.flatMap f).length:=by refine ⟨by omega,by omega,by simpa using h1⟩
 rw [C6 h2];have h3:l.drop k=x::l.drop (k+1):=by rw [Hh hk];congr 1;rw [A6 hk] at h;injection h
 rw [Int.toNat_natCast,Ka hf,h3,D3,List.take_left' (hf x)]
theorem aaO (a b:List C) (ha:a.length=7) (hb:b.length=7):fI 7 (.slice (a++b) 2) (ci 0)=some a/\fI 7 (.slice (a++b) 2) (ci 1)=some b:=by
 constructor
 ·simp [fI,ci,ha,hb]
 ·simp [fI,ci,ha,hb];exact Jx (by omega)
theorem BR {α:Type} {f:α->List C} {e bytes:Nat} (hf:∀x,(f x).length=e) (he:0 < e) {l:List α} {x:α} (hb:(l.length+1) * bytes<=bg) (hl:l.length+1<=bg):Fq e bytes (.slice (f x) 1) (rows f l)=some (rows f (l++[x])):=by
 have h1:(f x).length=1 * e:=by rw [hf];omega
 have h2:(l.flatMap f).length=l.length * e:=yU hf l;simp only [Fq,rows,LB];rw [C6 h1];simp only [A4];rw [C6 ⟨h1,h2,hb,he,hl⟩];simp
theorem aG {α:Type} {f:α->List C} (l:List α):jk false (rows f l)=some (ci l.length):=rfl
theorem Bt {α:Type} {f:α->List C}:rows f []=cz:=rfl
theorem aeC {n:Int} (h1:-9223372036854775808<=n) (h2:n<=9223372036854775807):IntKind.i64.wrap n=n:=by
 show (if (true && decide (n % 18446744073709551616>=9223372036854775808))=true then n % 18446744073709551616 - 18446744073709551616 else n % 18446744073709551616)=n
 by_cases h:n % 18446744073709551616>=9223372036854775808
 ·rw [C6 (by simpa using h)];omega
 ·rw [E0 (by simpa using h)];omega
theorem gN {a b:Int} (h1:-9223372036854775808<=a+b) (h2:a+b<=9223372036854775807):bW .add false (ci a) (ci b)=some (ci (a+b)):=by simp [bW,ci,r9,gM,jV,aeC h1 h2]
theorem nQ {a b:Int} (h1:-9223372036854775808<=a - b) (h2:a - b<=9223372036854775807):bW .sub false (ci a) (ci b)=some (ci (a - b)):=by simp [bW,ci,r9,gM,jV,aeC h1 h2]
theorem al7 (a b:Int):bW .lss false (ci a) (ci b)=some (cb (decide (a < b))):=by simp [bW,ci,cb,r9,gM,jV]
theorem akI (a b:Int):bW .leq false (ci a) (ci b)=some (cb (decide (a<=b))):=by simp [bW,ci,cb,r9,gM,jV]
theorem amM (a b:Int):bW .gtr false (ci a) (ci b)=some (cb (decide (a > b))):=by simp [bW,ci,cb,r9,gM,jV]
theorem am4 (a b:Int):bW .geq false (ci a) (ci b)=some (cb (decide (a>=b))):=by simp [bW,ci,cb,r9,gM,jV]
theorem akw (a b:Int):bW .eql false (ci a) (ci b)=some (cb (a==b)):=by simp [bW,ci,cb,r9,gM,jV]
theorem akG (a b:Int):bW .neq false (ci a) (ci b)=some (cb (!(a==b))):=by simp [bW,ci,cb,r9,gM,jV];rfl
theorem ajW (b:Bool):unC .not (cb b)=some (cb (!b)):=rfl
theorem aqj {α:Type} (t e:Option α):DI (cb true) t e=t:=rfl
theorem aqN {α:Type} (t e:Option α):DI (cb false) t e=e:=rfl
theorem Ci (a b:ByteArray):(a.toList==b.toList)=decide (a=b):=by
 rw [Mh,Mh];by_cases h:a=b
 ·subst h;simp
 ·have:a.data.toList≠b.data.toList:=fun e=>h (by
   obtain ⟨a⟩:=a;obtain ⟨b⟩:=b;congr 1;exact Array.toList_inj.1 e)
  rw [decide_eq_false h];exact Dd.2 this
theorem Tj (a b:ByteArray):bW .eql false (cs a) (cs b)=some (cb (decide (a=b))):=by simp only [bW,cs,r9,DJ,C2,C7,A4,cb,Ci]
theorem TG (a b:ByteArray):bW .neq false (cs a) (cs b)=some (cb (!decide (a=b))):=by simp only [bW,cs,r9,DJ,C2,C7,A4,cb,Ci]
theorem wM (neg:Bool) (a b a' b':ByteArray):Ea [1,1] neg [cs a,cs b] [cs a',cs b']=some (cb (if neg then !(decide (a=a') && decide (b=b')) else decide (a=a') && decide (b=b'))):=by simp only [Ea,Cj,Jd,cs,cb,A4,Ci,Bool.and_true]
theorem amL (a b:Bool):bW .eql true (cb a) (cb b)=some (cb (a==b)):=rfl
theorem ang (a b:Bool):bW .neq true (cb a) (cb b)=some (cb (!(a==b))):=rfl
theorem alT (a:ByteArray):jk true (cs a)=some (ci a.size):=rfl
theorem ab4 (l:List C) (n:Nat):jk false (.slice l n)=some (ci n):=rfl
theorem alb (o:Ob):[ak (enc o) 0,ak (enc o) 1,ak (enc o) 2,ak (enc o) 3,ak (enc o) 4,ak (enc o) 5,ak (enc o) 6]=enc o:=by cases o<;>rfl
end
section
variable {nat:Nat->List V->Option (List V)}
theorem asr (n:Int):C.lit (.int .i64 n)=ci n:=rfl
theorem aoh (b:Bool):C.lit (.bool b)=cb b:=rfl
theorem atw (b:ByteArray):C.lit (.string b)=cs b:=rfl
theorem kZ:C.slice [] 0=cz:=rfl
theorem alG:jk false cz=some (ci 0):=rfl
theorem agd (x:List C) (h:x.length=7):fK 7 1 x=some (.slice x 1):=by simp [fK,h,bg]
def dw:ByteArray:=⟨#[108,105,115,112]⟩
def ahG:ByteArray:=⟨#[110,105,108]⟩
def tB:ByteArray:=⟨#[116]⟩
def akV:ByteArray:=⟨#[113,117,111,116,101]⟩
theorem ajA:(⟨#[108,105,115,112]⟩:ByteArray)=dw:=rfl
theorem aq8:(⟨#[110,105,108]⟩:ByteArray)=ahG:=rfl
theorem tK:(⟨#[116]⟩:ByteArray)=tB:=rfl
theorem arL:(⟨#[113,117,111,116,101]⟩:ByteArray)=akV:=rfl
def zS:=And.intro @CZ.eq_1 (And.intro @bS.eq_1 (And.intro @bS.eq_2 (And.intro @bS.eq_3 (And.intro @bS.eq_4 (And.intro @bS.eq_5 (And.intro @bS.eq_6 (And.intro @fV.eq_1 (And.intro @fV.eq_2 (And.intro @fV.eq_3 (And.intro @aA.eq_1 (And.intro @aA.eq_2 (And.intro @aA.eq_3 (And.intro @aA.eq_4 (And.intro @aA.eq_5 (And.intro @aA.eq_6 (And.intro @aA.eq_7 (And.intro @sj.eq_1 (And.intro @sj.eq_2 (And.intro @XY.eq_1 (And.intro @XY.eq_2 (And.intro @Dl.eq_1 (And.intro @Dl.eq_2 (And.intro @Ua.eq_1 (And.intro @Ua.eq_2 (And.intro @Tt.eq_1 (And.intro @Tt.eq_2 (And.intro @DK.eq_1 (And.intro @DK.eq_2 (And.intro @dH.eq_1 (And.intro @dH.eq_2 (And.intro @dH.eq_3 (And.intro @dH.eq_4 (And.intro @nA.eq_1 (And.intro @nA.eq_2 (And.intro @LU.eq_1 (And.intro @LU.eq_2 (And.intro @dP.eq_1 (And.intro @dP.eq_2 (And.intro @dP.eq_3 (And.intro @dP.eq_4 (And.intro @dP.eq_5 (And.intro @dP.eq_6 (And.intro @dP.eq_7 (And.intro @dP.eq_8 (And.intro @dP.eq_9 (And.intro @dP.eq_10 (And.intro @dP.eq_11 (And.intro @dP.eq_12 (And.intro @dP.eq_13 (And.intro @dP.eq_14 (And.intro @dP.eq_15 (And.intro @dP.eq_16 (And.intro @dP.eq_17 (And.intro @gG.eq_1 (And.intro @gG.eq_2 (And.intro @gG.eq_3 (And.intro @fQ.eq_1 (And.intro @fQ.eq_2 (And.intro @Z8.eq_1 (And.intro @Z8.eq_2 (And.intro @sized.eq_1 (And.intro @fE.eq_1 (And.intro @fE.eq_2 (And.intro @fE.eq_3 (And.intro @gL.eq_1 (And.intro @gL.eq_2 (And.intro @getOne.eq_1 (And.intro @MO.eq_1 (And.intro @Q5.eq_1 (And.intro @ak.eq_1 (And.intro @ak.eq_2 (And.intro @ak.eq_3 (And.intro @asr (And.intro @aoh (And.intro @atw (And.intro @kZ (And.intro @akw (And.intro @akG (And.intro @al7 (And.intro @akI (And.intro @amM (And.intro @am4 (And.intro @Tj (And.intro @TG (And.intro @wM (And.intro @amL (And.intro @ang (And.intro @ajW (And.intro @aqj (And.intro @aqN (And.intro @alT (And.intro @ab4 (And.intro @alG (And.intro @ajA (And.intro @aq8 (And.intro @tK (@arL)))))))))))))))))))))))))))))))))))))))))))))))))))))))))))))))))))))))))))))))))))))))))))))))))
def VH:Ob:=.sy dw ahG
def oT:Ob:=.sy dw tB
def Tu:Ob->Bool
 |.cons _ _=>true
 |_=>false
def atM:Ob->Bool
 |.sy p s=>decide (p=dw) && decide (s=ahG)
 |_=>false
theorem x80 (s:ByteArray):bq (T nat).G 80 [.v (.one (cs s))] []=some ([.agg [cs dw,cs s]],[]):=by rw [aQ am6];simp [t80,zS]
theorem x152 (p s:ByteArray):bq (T nat).G 152 [.v (.agg [cs p,cs s])] []=some ([.agg (enc (.sy p s))],[]):=by rw [aQ ahE];simp [t152,enc,ce,zS]
theorem amH:bq (T nat).G 137 [] []=some ([.agg (enc VH)],[]):=by rw [aQ ahZ];simp [t137,zS,x80,x152,VH,bF]
theorem x95:bq (T nat).G 95 [] []=some ([.agg (enc oT)],[]):=by rw [aQ ajZ];simp [t95,zS,x80,x152,oT,bF]
theorem anN (a b:Ob):[ak (enc a) 0,ak (enc a) 1,ak (enc a) 2,ak (enc a) 3,ak (enc a) 4,ak (enc a) 5,ak (enc a) 6,ak (enc b) 0,ak (enc b) 1,ak (enc b) 2,ak (enc b) 3,ak (enc b) 4,ak (enc b) 5,ak (enc b) 6]=enc a++enc b:=by cases a<;>cases b<;>rfl
theorem aeT (x:List C) (h:x.length=14):fK 7 2 x=some (.slice x 2):=by simp [fK,h,bg]
theorem aoJ (a b:Ob):bq (T nat).G 162 [.v (.agg (enc a)),.v (.agg (enc b))] []=some ([.agg (enc (.cons a b))],[]):=by
 rw [aQ aiO];simp only [t162,bS,bF,E7,CZ,fV,aA,dP,nA,dH,gG,E2,E3,A4,anN];rw [aeT _ (by simp [bF])]
 simp [zS,enc,ce]
theorem x160 (s:ByteArray):bq (T nat).G 160 [.v (.one (cs s))] []=some ([.agg (enc (.st s))],[]):=by rw [aQ agv];simp [t160,enc,ce,zS]
theorem x13 (s:ByteArray):bq (T nat).G 13 [.v (.one (cs s))] []=some ([.agg [cs ⟨#[117,115,101,114]⟩,cs s]],[]):=by rw [aQ alN];simp [t13,zS]
def Gc:Ob->Nat
 |.cons a b=>Gc a+Gc b+1
 |_=>1
theorem adf (a b:Ob):fI 7 (ak (enc (.cons a b)) 6) (ci 0)=some (enc a):=(aaO _ _ (bF a) (bF b)).1
theorem aeY (a b:Ob):fI 7 (ak (enc (.cons a b)) 6) (ci 1)=some (enc b):=(aaO _ _ (bF a) (bF b)).2
theorem aoj (o:Ob):fK 7 1 [ak (enc o) 0,ak (enc o) 1,ak (enc o) 2,ak (enc o) 3,ak (enc o) 4,ak (enc o) 5,ak (enc o) 6]=some (.slice (enc o) 1):=by rw [alb];exact agd _ (bF o)
theorem arR {acc:List Ob} {x:Ob} (h:acc.length < 1000000):Fq 7 112 (.slice (enc x) 1) (rows enc acc)=some (rows enc (acc++[x])):=
 BR bF (by decide) (by simp only [bg];omega) (by simp only [bg];omega)
def tu:Ob->Ob->Bool
 |.num n d,.num n' d'=>decide (n=n') && decide (d=d')
 |.sy p s,.sy p' s'=>decide (p=p') && decide (s=s')
 |.st t,.st t'=>decide (t=t')
 |.cons a b,.cons a' b'=>tu a a' && tu b b'
 |_,_=>false
theorem MC:∀o:Ob,tu o o=true
 |.num _ _=>by simp [tu]
 |.sy _ _=>by simp [tu]
 |.st _=>by simp [tu]
 |.cons a b=>by simp [tu,MC a,MC b]
theorem bn (k:Nat) (h:k < 1000000):bW .add false (ci k) (ci 1)=some (ci ((k+1:Nat):Int)):=by rw [gN (by omega) (by omega)];simp
theorem Yu (a b:Ob):jk false (ak (enc (.cons a b)) 6)=some (ci 2):=rfl
theorem LZ (a b c d e f:C) (y:List C):bR (T nat).G 125 0 [.c (ci 0),.l [a,b,c,d,e,f,cz],.l y]=some ([.one (cb true)],[]):=by rw [aF uf (t:=t125.heads[0]) rfl];simp [t125,zS]
theorem atx (a:Ob):∀b:Ob,bq (T nat).G 125 [.v (.agg (enc a)),.v (.agg (enc b))] []=some ([.one (cb (tu a b))],[]):=by
 induction a with
 |num n d=>
  intro b;rw [aQ uf];cases b with
  |num n' d'=>by_cases h1:n=n'<;>by_cases h2:d=d'<;>simp [t125,zS,enc,ce,tu,h1,h2,LZ]
  |_=>simp [t125,zS,enc,ce,tu]
 |sy p s=>
  intro b;rw [aQ uf];cases b with
  |sy p' s'=>by_cases h1:p=p'<;>by_cases h2:s=s'<;>simp [t125,zS,enc,ce,tu,h1,h2,LZ]
  |_=>simp [t125,zS,enc,ce,tu]
 |st t=>
  intro b;rw [aQ uf];cases b with
  |st t'=>by_cases h1:t=t'<;>simp [t125,zS,enc,ce,tu,h1,LZ]
  |_=>simp [t125,zS,enc,ce,tu]
 |cons a1 a2 ih1 ih2=>
  intro b;cases b with
  |cons b1 b2=>
   have e2:bR (T nat).G 125 0 [.c (ci 2),.l (enc (.cons a1 a2)),.l (enc (.cons b1 b2))]=some ([.one (cb true)],[]):=by rw [aF uf (t:=t125.heads[0]) rfl];simp [t125,zS,Yu]
   have e1:bR (T nat).G 125 0 [.c (ci 1),.l (enc (.cons a1 a2)),.l (enc (.cons b1 b2))]=some ([.one (cb (tu a2 b2))],[]):=by rw [aF uf (t:=t125.heads[0]) rfl];cases h:tu a2 b2<;>simp [t125,zS,aeY,ih2,h,e2,Yu,gN]
   have e0:bR (T nat).G 125 0 [.c (ci 0),.l (enc (.cons a1 a2)),.l (enc (.cons b1 b2))]=some ([.one (cb (tu a1 b1 && tu a2 b2))],[]):=by rw [aF uf (t:=t125.heads[0]) rfl];cases h:tu a1 b1<;>simp [t125,zS,adf,ih1,h,e1,Yu,gN]
   rw [aQ uf];have q0:ak (enc (.cons a1 a2)) 0=ci 4:=rfl;have q1:∀k,k=1\/k=2\/k=3\/k=4\/k=5->ak (enc (.cons a1 a2)) k=cs ⟨#[]⟩:=by rintro k (rfl|rfl|rfl|rfl|rfl)<;>rfl
   have p0:ak (enc (.cons b1 b2)) 0=ci 4:=rfl;have p1:∀k,k=1\/k=2\/k=3\/k=4\/k=5->ak (enc (.cons b1 b2)) k=cs ⟨#[]⟩:=by rintro k (rfl|rfl|rfl|rfl|rfl)<;>rfl
   simp [t125,zS,tu,e0,bF,Yu,q0,q1,p0,p1]
  |_=>
   rw [aQ uf];simp [t125,zS,enc,ce,tu]
end
inductive Tm where
 |var (p s:ByteArray)
 |dV (o:Ob)
 |app (p s:ByteArray) (ts:List Tm)
mutual
def aa:Tm->List C
 |.var p s=>[ci 1,cs p,cs s,ci 0,ce,ce,ce,ce,ce,cz,cz]
 |.dV o=>[ci 2,ce,ce,ak (enc o) 0,ak (enc o) 1,ak (enc o) 2,ak (enc o) 3,ak (enc o) 4,ak (enc o) 5,ak (enc o) 6,cz]
 |.app p s ts=>[ci 3,cs p,cs s,ci 0,ce,ce,ce,ce,ce,cz,.slice (eZ ts) ts.length]
def eZ:List Tm->List C
 |[]=>[]
 |t::ts=>aa t++eZ ts
end
theorem iG:∀l:List Tm,eZ l=l.flatMap aa
 |[]=>rfl
 |t::ts=>by rw [eZ,D3,iG ts]
theorem af (t:Tm):(aa t).length=11:=by cases t<;>rfl
theorem di (p s:ByteArray) (ts:List Tm):aa (.app p s ts)=[ci 3,cs p,cs s,ci 0,ce,ce,ce,ce,ce,cz,rows aa ts]:=by simp [aa,rows,iG]
theorem nH (t:Tm):[ak (aa t) 0,ak (aa t) 1,ak (aa t) 2,ak (aa t) 3,ak (aa t) 4,ak (aa t) 5,ak (aa t) 6,ak (aa t) 7,ak (aa t) 8,ak (aa t) 9,ak (aa t) 10]=aa t:=by cases t<;>rfl
theorem ku (t:Tm):fK 11 1 [ak (aa t) 0,ak (aa t) 1,ak (aa t) 2,ak (aa t) 3,ak (aa t) 4,ak (aa t) 5,ak (aa t) 6,ak (aa t) 7,ak (aa t) 8,ak (aa t) 9,ak (aa t) 10]=some (.slice (aa t) 1):=by rw [nH];simp [fK,af,bg]
theorem BB {acc:List Tm} {x:Tm} (h:acc.length < 1000000):Fq 11 176 (.slice (aa x) 1) (rows aa acc)=some (rows aa (acc++[x])):=
 BR af (by decide) (by simp only [bg];omega) (by simp only [bg];omega)
def eB:ByteArray:=⟨#[]⟩
theorem emK:cs ⟨#[]⟩=ce:=rfl
theorem aiJ (b:ByteArray):bW .eql false ce (cs b)=some (cb (decide (eB=b))):=Tj _ _
theorem ahd (b:ByteArray):bW .eql false (cs b) ce=some (cb (decide (b=eB))):=Tj _ _
theorem agk (b:ByteArray):bW .neq false ce (cs b)=some (cb (!decide (eB=b))):=TG _ _
theorem agj (b:ByteArray):bW .neq false (cs b) ce=some (cb (!decide (b=eB))):=TG _ _
theorem aha:bW .eql false ce ce=some (cb true):=by simp [ce,Tj]
theorem ai4:bW .neq false ce ce=some (cb false):=by simp [ce,TG]
theorem ai6 (neg:Bool) (a b:ByteArray):Ea [1,1] neg [ce,ce] [cs a,cs b]=some (cb (if neg then !(decide (eB=a) && decide (eB=b)) else decide (eB=a) && decide (eB=b))):=wM _ _ _ _ _
theorem ail (neg:Bool) (a b:ByteArray):Ea [1,1] neg [cs a,cs b] [ce,ce]=some (cb (if neg then !(decide (a=eB) && decide (b=eB)) else decide (a=eB) && decide (b=eB))):=wM _ _ _ _ _
theorem ahU (neg:Bool):Ea [1,1] neg [ce,ce] [ce,ce]=some (cb (!neg)):=by cases neg<;>simp [ce,wM]
def zZ:=And.intro zS (And.intro @emK (And.intro @aiJ (And.intro @ahd (And.intro @agk (And.intro @agj (And.intro @aha (And.intro @ai4 (And.intro @ai6 (And.intro @ail (@ahU))))))))))
section
variable {nat:Nat->List V->Option (List V)}
theorem x115 (p s:ByteArray):bq (T nat).G 115 [.v (.agg [cs p,cs s])] []=some ([.agg (aa (.var p s))],[]):=by rw [aQ aiD];simp [t115,zZ,aa]
theorem x53 (p s:ByteArray):bq (T nat).G 53 [.v (.agg [cs p,cs s])] []=some ([.agg (aa (.var p s))],[]):=by rw [aQ akr];simp [t53,zZ,aa]
theorem x94 (o:Ob):bq (T nat).G 94 [.v (.agg (enc o))] []=some ([.agg (aa (.dV o))],[]):=by rw [aQ amw];simp [t94,zZ,aa,bF]
theorem x54 (p s:ByteArray) (ts:List Tm):bq (T nat).G 54 [.v (.agg [cs p,cs s]),.v (.one (rows aa ts))] []=some ([.agg (aa (.app p s ts))],[]):=by rw [aQ amI];simp [t54,zZ,di]
end
def heads:List ByteArray:=[⟨#[99,97,114]⟩,⟨#[99,100,114]⟩,⟨#[99,111,110,115]⟩,⟨#[99,111,110,115,112]⟩,⟨#[110,111,116]⟩,⟨#[101,113,117,97,108]⟩,⟨#[105,102]⟩,⟨#[98,105,110,97,114,121,45,43]⟩,⟨#[60]⟩,⟨#[105,110,116,101,103,101,114,112]⟩,⟨#[108,101,110]⟩,⟨#[98,105,110,97,114,121,45,97,112,112,101,110,100]⟩,⟨#[114,101,118]⟩,⟨#[116,114,117,101,45,108,105,115,116,112]⟩,⟨#[110,97,116,112]⟩,⟨#[112,111,115,112]⟩,⟨#[117,110,97,114,121,45,45]⟩,⟨#[98,105,110,97,114,121,45,42]⟩,⟨#[105,109,112,108,105,101,115]⟩,⟨#[115,121,109,98,111,108,112]⟩,⟨#[114,97,116,105,111,110,97,108,112]⟩,⟨#[102,105,120]⟩,⟨#[105,102,102]⟩,⟨#[110,102,105,120]⟩,⟨#[122,112]⟩]
def owns:List ByteArray:=[⟨#[100,117,98]⟩,⟨#[115,97,109,101,45,108,101,110]⟩,⟨#[112,97,105,114,115]⟩,⟨#[100,117,98,115]⟩,⟨#[116,114,101,101]⟩,⟨#[101,118,101,110,115]⟩,⟨#[111,100,100,115]⟩,⟨#[120,111,114,50]⟩]
def usr:ByteArray:=⟨#[117,115,101,114]⟩
def more:List Ob:=(akV::heads).map (Ob.sy dw)++(⟨#[120]⟩::⟨#[121]⟩::⟨#[122]⟩::owns).map (Ob.sy usr)
def atoms:List Ob:=[VH,oT,
 .num ⟨#[48]⟩ ⟨#[49]⟩,.num ⟨#[49]⟩ ⟨#[49]⟩,.num ⟨#[50]⟩ ⟨#[49]⟩,.num ⟨#[51]⟩ ⟨#[49]⟩,.num ⟨#[45,49]⟩ ⟨#[49]⟩,.num ⟨#[45,50]⟩ ⟨#[49]⟩,.num ⟨#[45,51]⟩ ⟨#[49]⟩,
 .num ⟨#[49]⟩ ⟨#[50]⟩,.num ⟨#[45,53]⟩ ⟨#[51]⟩,
 .sy ⟨#[117,115,101,114]⟩ ⟨#[97]⟩,.sy ⟨#[117,115,101,114]⟩ ⟨#[98]⟩,.sy ⟨#[117,115,101,114]⟩ ⟨#[99]⟩,
 .st ⟨#[]⟩,.st ⟨#[112]⟩,.st ⟨#[112,113]⟩]++more
def Good:Ob->Prop
 |.cons a b=>Good a/\Good b
 |o=>o∈atoms
def yes:R:=([.one (cb true)],[])
theorem BX (o:Ob):1<=Gc o:=by cases o<;>simp [Gc]
mutual
def ah:Tm->Nat
 |.var _ _=>1
 |.dV o=>Gc o
 |.app _ _ ts=>1+au ts
def au:List Tm->Nat
 |[]=>0
 |t::ts=>ah t+au ts
end
inductive CW:Tm->Prop where
 |var {p s}:CW (.var p s)
 |dV {o}:Gc o<=3000->CW (.dV o)
 |app {p s ts}:(∀t∈ts,CW t)->CW (.app p s ts)
theorem dY (t:Tm):1<=ah t:=by
 cases t with
 |dV o=>simpa [ah] using BX o
 |_=>simp [ah]
theorem drop_at {α:Type} {l:List α} {k:Nat} (h:k < l.length):l.drop k=l[k]::l.drop (k+1):=Hh h
theorem bG {α:Type} {l:List α} {k:Nat} (h:¬k < l.length):l.drop k=[]:=List.drop_eq_nil_of_le (by omega)
theorem jd {ts:List Tm} {k:Nat} (h:k < ts.length):fI 11 (rows aa ts) (ci k)=some (aa ts[k]):=jE af (A6 h)
theorem wm (ts:List Tm):jk false (rows aa ts)=some (ci ts.length):=rfl
mutual
theorem ad7:∀t:Tm,ah t<=3000->CW t
 |.var _ _,_=> .var
 |.dV o,h=> .dV (by simpa [ah] using h)
 |.app p s ts,h=> .app (aeW ts (by simp only [ah] at h;omega))
theorem aeW:∀ts:List Tm,au ts<=3000->∀t∈ts,CW t
 |[],_=>fun t ht=>by cases ht
 |x::ts,h=>by
  simp only [au] at h;have h1:=ad7 x (by omega)
  have h2:=aeW ts (by omega)
  intro t ht;rcases D2.1 ht with rfl|ht
  ·exact h1
  ·exact h2 t ht
end
theorem nD:∀ts:List Tm,ts.length<=au ts
 |[]=>An _
 |t::ts=>by have:=dY t;have:=nD ts;simp only [C5,au];omega
theorem nC {t:Tm}:∀{ts:List Tm},t∈ts->ah t<=au ts
 |x::ts,h=>by
  simp only [au];rcases D2.1 h with rfl|h
  ·omega
  ·have:=nC h;omega
mutual
def nR:Tm->Tm->Bool
 |.var p s,.var p' s'=>decide (p=p') && decide (s=s')
 |.dV o,.dV o'=>tu o o'
 |.app p s ts,.app p' s' ts'=>decide (p=p') && decide (s=s') && Bp ts ts'
 |_,_=>false
def Bp:List Tm->List Tm->Bool
 |[],[]=>true
 |t::ts,t'::ts'=>nR t t' && Bp ts ts'
 |_,_=>false
end
theorem M3:∀{a b:List Tm},a.length≠b.length->Bp a b=false
 |[],[],h=>absurd rfl h
 |[],_::_,_=>rfl
 |_::_,[],_=>rfl
 |x::a,y::b,h=>by rw [Bp,M3 (a:=a) (b:=b) (by simpa using h),Bool.and_false]
section
variable {nat:Nat->List V->Option (List V)}
theorem ajE (a b:Ob):bq (T nat).G 169 [.v (.agg (enc a)),.v (.agg (enc b))] []=bR (T nat).G 169 0 [.l (enc a),.l (enc b)]:=by rw [aQ ug];simp [t169,zS,bF]
theorem aog (a:Ob):∀b:Ob,bR (T nat).G 169 0 [.l (enc a),.l (enc b)]=some ([.one (cb (tu a b))],[]):=by
 induction a with
 |num n d=>
  intro b;rw [aF ug (t:=t169.heads[0]) rfl];cases b with
  |num n' d'=>by_cases h1:n=n'<;>by_cases h2:d=d'<;>simp [t169,zZ,enc,tu,h1,h2]
  |_=>simp [t169,zZ,enc,tu]
 |sy p s=>
  intro b;rw [aF ug (t:=t169.heads[0]) rfl];cases b with
  |sy p' s'=>by_cases h1:p=p'<;>by_cases h2:s=s'<;>simp [t169,zZ,enc,tu,h1,h2]
  |_=>simp [t169,zZ,enc,tu]
 |st t=>
  intro b;rw [aF ug (t:=t169.heads[0]) rfl];cases b with
  |st t'=>by_cases h1:t=t'<;>simp [t169,zZ,enc,tu,h1]
  |_=>simp [t169,zZ,enc,tu]
 |cons a1 a2 ih1 ih2=>
  intro b;cases b with
  |cons b1 b2=>
   have e1:bR (T nat).G 169 1 [.c (ci 2),.c (ci 1),.c (ci 1),.l (enc (.cons a1 a2)),.l (enc (.cons b1 b2))]=some ([.one (cb (tu a2 b2))],[]):=by
    have hs:bW .sub false (ci 2) (ci 1)=some (ci 1):=nQ (by omega) (by omega)
    rw [aF ug (t:=t169.heads[1]) rfl];simp [t169,zZ,adf,aeY,hs,ih2,Yu,bF]
   have e0:bR (T nat).G 169 1 [.c (ci 2),.c (ci 1),.c (ci 0),.l (enc (.cons a1 a2)),.l (enc (.cons b1 b2))]=some ([.one (cb (tu a1 b1 && tu a2 b2))],[]):=by
    have hs:bW .add false (ci 0) (ci 1)=some (ci 1):=gN (by omega) (by omega)
    rw [aF ug (t:=t169.heads[1]) rfl];cases h:tu a1 b1<;>simp [t169,zZ,adf,aeY,ajE,ih1,h,hs,e1,Yu,bF]
   have hs:bW .sub false (ci 2) (ci 1)=some (ci 1):=nQ (by omega) (by omega)
   have q0:ak (enc (.cons a1 a2)) 0=ci 4:=rfl;have q1:ak (enc (.cons a1 a2)) 1=ce:=rfl;have q2:ak (enc (.cons a1 a2)) 2=ce:=rfl;have q3:ak (enc (.cons a1 a2)) 3=ce:=rfl;have q4:ak (enc (.cons a1 a2)) 4=ce:=rfl;have q5:ak (enc (.cons a1 a2)) 5=ce:=rfl;have p0:ak (enc (.cons b1 b2)) 0=ci 4:=rfl;have p1:ak (enc (.cons b1 b2)) 1=ce:=rfl;have p2:ak (enc (.cons b1 b2)) 2=ce:=rfl;have p3:ak (enc (.cons b1 b2)) 3=ce:=rfl;have p4:ak (enc (.cons b1 b2)) 4=ce:=rfl;have p5:ak (enc (.cons b1 b2)) 5=ce:=rfl;rw [aF ug (t:=t169.heads[0]) rfl];simp [t169,zZ,tu,e0,bF,Yu,hs,q0,q1,q2,q3,q4,q5,p0,p1,p2,p3,p4,p5]
  |_=>
   rw [aF ug (t:=t169.heads[0]) rfl];simp [t169,zZ,enc,tu]
theorem asZ (a b:Ob):bq (T nat).G 169 [.v (.agg (enc a)),.v (.agg (enc b))] []=some ([.one (cb (tu a b))],[]):=by rw [ajE,aog]
theorem ajC:bq (T nat).G 169 [.v (.agg [ci 0,ce,ce,ce,ce,ce,cz]),.v (.agg [ci 0,ce,ce,ce,ce,ce,cz])] []=some yes:=by rw [aQ ug];simp [t169,zZ,yes];rw [aF ug (t:=t169.heads[0]) rfl];simp [t169,zZ,yes]
theorem ajc:bq (T nat).G 125 [.v (.agg [ci 0,ce,ce,ce,ce,ce,cz]),.v (.agg [ci 0,ce,ce,ce,ce,ce,cz])] []=some yes:=by rw [aQ uf];simp [t125,zZ,yes,LZ]
theorem UR (us bs:List Tm) (hm:us.length < 100000) (he:us.length=bs.length) (ih:∀a∈us,∀b,bq (T nat).G 114 [.v (.agg (aa a)),.v (.agg (aa b))] []=some ([.one (cb (nR a b))],[])):∀(m k:Nat),k+m=us.length->
  bR (T nat).G 365 0 [.c (rows aa bs),.c (rows aa us),.c (ci us.length),.c (ci k)]=some ([.one (cb (Bp (us.drop k) (bs.drop k)))],[])
 |0,k,hk=>by
  have hlt:¬((k:Int) < (us.length:Int)):=by omega
  rw [aF RU (t:=t365.heads[0]) rfl,bG (by omega),bG (by omega)]
  simp [t365,zZ,hlt,Bp]
 |m+1,k,hk=>by
  have hkr:k < us.length:=by omega
  have hkb:k < bs.length:=by omega
  have hlt:((k:Int) < (us.length:Int)):=by omega
  have hc:=ih us[k] (By hkr) bs[k];have hs:=bn k (by omega)
  have hi:=UR us bs hm he ih m (k+1) (by omega)
  rw [drop_at hkr,drop_at hkb,aF RU (t:=t365.heads[0]) rfl];cases hb:nR us[k] bs[k]<;>rw [hb] at hc<;>simp [-Int.natCast_add,t365,zZ,hlt,Bp,jd hkr,jd hkb,hc,hs,hi,af,hb]
theorem apl (us bs:List Tm) (hm:us.length < 100000) (ih:∀a∈us,∀b,bq (T nat).G 114 [.v (.agg (aa a)),.v (.agg (aa b))] []=some ([.one (cb (nR a b))],[])):
  bq (T nat).G 365 [.v (.one (rows aa us)),.v (.one (rows aa bs)),.ref 0 0] []=some ([.one (cb (Bp us bs))],[]):=by
 rw [aQ RU];by_cases he:us.length=bs.length
 ·have h3:=UR us bs hm he ih us.length 0 (by omega)
  simp only [C4,D1] at h3;rw [he] at h3;have hb:(((us.length:Int))==(bs.length:Int))=true:=by rw [he];exact beq_self_eq_true _
  simp [t365,zZ,wm,he,h3]
 ·have hb:((us.length:Int)==(bs.length:Int))=false:=Dd.2 (by omega)
  simp [t365,zZ,wm,hb,M3 he]
theorem ajU:bq (T nat).G 365 [.v (.one cz),.v (.one cz),.ref 0 0] []=some yes:=by
 have:=apl (nat:=nat) [] [] (by simp) (fun a h=>by cases h)
 simpa [Bt,Bp,yes] using this
theorem x114 {a:Tm} (hg:CW a) (hn:ah a<=3000):∀b,bq (T nat).G 114 [.v (.agg (aa a)),.v (.agg (aa b))] []=some ([.one (cb (nR a b))],[]):=by
 induction hg with
 |@var p s=>
  intro b;rw [aQ Sz];cases b with
  |var p' s'=>cases h1:(decide (p=p') && decide (s=s'))<;>simp [t114,zZ,aa,nR,ajC,yes,ajU,h1]
  |dV o=>simp [t114,zZ,aa,nR]
  |app p' s' ts'=>simp [t114,zZ,di,nR];simp [aa,zZ]
 |@dV o ho=>
  intro b;rw [aQ Sz];cases b with
  |dV o'=>
   simp only [aa];cases h1:tu o o'<;>simp [t114,zZ,nR,asZ,yes,ajU,h1,alb]
  |var p' s'=>simp [t114,zZ,aa,nR]
  |app p' s' ts'=>simp [t114,zZ,di,nR];simp [aa,zZ]
 |@app p s ts hs ih=>
  intro b;simp only [ah] at hn;have hl:=nD ts;rw [aQ Sz,di];cases b with
  |app p' s' ts'=>
   have h3:=apl (nat:=nat) ts ts' (by omega) (fun t ht=>ih t ht (by have:=nC ht;omega))
   rw [di];cases h1:(decide (p=p') && decide (s=s'))<;>simp [t114,zZ,nR,ajC,yes,h3,h1]
  |var p' s'=>simp [t114,zZ,aa,nR]
  |dV o=>simp [t114,zZ,aa,nR]
theorem WQ (us bs:List Tm) (hm:us.length < 100000) (he:us.length=bs.length) (ih:∀a∈us,∀b,bq (T nat).G 49 [.v (.agg (aa a)),.v (.agg (aa b))] []=some ([.one (cb (nR a b))],[])):∀(m k:Nat),k+m=us.length->
  bR (T nat).G 126 0 [.c (rows aa us),.c (rows aa bs),.c (ci k)]=some ([.one (cb (Bp (us.drop k) (bs.drop k)))],[])
 |0,k,hk=>by
  have hlt:¬((k:Int) < (us.length:Int)):=by omega
  rw [aF R5 (t:=t126.heads[0]) rfl,bG (by omega),bG (by omega)]
  simp [t126,zZ,hlt,Bp,wm]
 |m+1,k,hk=>by
  have hkr:k < us.length:=by omega
  have hkb:k < bs.length:=by omega
  have hlt:((k:Int) < (us.length:Int)):=by omega
  have hc:=ih us[k] (By hkr) bs[k];have hs:=bn k (by omega)
  have hi:=WQ us bs hm he ih m (k+1) (by omega)
  rw [drop_at hkr,drop_at hkb,aF R5 (t:=t126.heads[0]) rfl];cases hb:nR us[k] bs[k]<;>rw [hb] at hc<;>simp [-Int.natCast_add,t126,zZ,hlt,wm,Bp,jd hkr,jd hkb,hc,hs,hi,af,hb]
theorem ao0 (us bs:List Tm) (hm:us.length < 100000) (ih:∀a∈us,∀b,bq (T nat).G 49 [.v (.agg (aa a)),.v (.agg (aa b))] []=some ([.one (cb (nR a b))],[])):
  bq (T nat).G 126 [.v (.one (rows aa us)),.v (.one (rows aa bs))] []=some ([.one (cb (Bp us bs))],[]):=by
 rw [aQ R5];by_cases he:us.length=bs.length
 ·have h3:=WQ us bs hm he ih us.length 0 (by omega)
  simp only [C4,D1] at h3;simp [t126,zZ,wm,he,h3]
 ·have hb:((us.length:Int)==(bs.length:Int))=false:=Dd.2 (by omega)
  simp [t126,zZ,wm,hb,M3 he]
theorem ajK:bq (T nat).G 126 [.v (.one cz),.v (.one cz)] []=some yes:=by
 have:=ao0 (nat:=nat) [] [] (by simp) (fun a h=>by cases h)
 simpa [Bt,Bp,yes] using this
theorem x49 {a:Tm} (hg:CW a) (hn:ah a<=3000):∀b,bq (T nat).G 49 [.v (.agg (aa a)),.v (.agg (aa b))] []=some ([.one (cb (nR a b))],[]):=by
 induction hg with
 |@var p s=>
  intro b;rw [aQ X3];cases b with
  |var p' s'=>cases h1:(decide (p=p') && decide (s=s'))<;>simp [t49,zZ,aa,nR,ajc,yes,ajK,h1]
  |dV o=>simp [t49,zZ,aa,nR]
  |app p' s' ts'=>simp [t49,zZ,di,nR];simp [aa,zZ]
 |@dV o ho=>
  intro b;rw [aQ X3];cases b with
  |dV o'=>
   simp only [aa];cases h1:tu o o'<;>simp [t49,zZ,nR,atx,yes,ajK,h1,alb]
  |var p' s'=>simp [t49,zZ,aa,nR]
  |app p' s' ts'=>simp [t49,zZ,di,nR];simp [aa,zZ]
 |@app p s ts hs ih=>
  intro b;simp only [ah] at hn;have hl:=nD ts;rw [aQ X3,di];cases b with
  |app p' s' ts'=>
   have h3:=ao0 (nat:=nat) ts ts' (by omega) (fun t ht=>ih t ht (by have:=nC ht;omega))
   rw [di];cases h1:(decide (p=p') && decide (s=s'))<;>simp [t49,zZ,nR,ajc,yes,h3,h1]
  |var p' s'=>simp [t49,zZ,aa,nR]
  |dV o=>simp [t49,zZ,aa,nR]
end
def inT:List Tm->Tm->Bool
 |[],_=>false
 |x::xs,t=>nR x t||inT xs t
def OKT (t:Tm):Prop:=ah t<=3000
theorem OKT.g {t:Tm} (h:OKT t):CW t:=ad7 t h
def Um (ts:List Tm):Prop:=∀t∈ts,OKT t
section
variable {nat:Nat->List V->Option (List V)}
theorem art {x:Tm} (h:OKT x) (t:Tm):bq (T nat).G 177 [.v (.agg (aa x)),.ref 0 0] [aa t]=some ([.one (cb (nR x t))],[aa t]):=by rw [aQ ahL];simp [t177,zZ,x114 h.g h t,af]
theorem U6 (ts:List Tm) (hm:ts.length < 100000) (hk:Um ts) (t:Tm):∀(m k:Nat),k+m=ts.length->
  ∃r:Int,bR (T nat).G 371 0 [.c (rows aa ts),.c (ci ts.length),.c (ci k),.l (aa t)]=some ([.one (ci r)],[aa t])/\decide (0<=r)=inT (ts.drop k) t
 |0,k,hk=>by
  have hlt:¬((k:Int) < (ts.length:Int)):=by omega
  refine ⟨-1,?_,?_⟩
  ·rw [aF LK (t:=t371.heads[0]) rfl];simp [t371,zZ,hlt,af]
  ·rw [bG (by omega)];simp [inT]
 |m+1,k,hk'=>by
  have hkr:k < ts.length:=by omega
  have hlt:((k:Int) < (ts.length:Int)):=by omega
  have hc:=art (nat:=nat) (hk ts[k] (By hkr)) t;have hs:=bn k (by omega)
  rw [drop_at hkr];simp only [inT];cases hb:nR ts[k] t with
  |true=>
   rw [hb] at hc;refine ⟨k,?_,by simp⟩
   rw [aF LK (t:=t371.heads[0]) rfl];simp [t371,zZ,hlt,jd hkr,hc,af]
  |false=>
   rw [hb] at hc;obtain ⟨r,h1,h2⟩:=U6 ts hm hk t m (k+1) (by omega)
   refine ⟨r,?_,by simpa using h2⟩
   rw [aF LK (t:=t371.heads[0]) rfl];simp [-Int.natCast_add,t371,zZ,hlt,jd hkr,hc,hs,h1,af]
theorem asK (ts:List Tm) (hm:ts.length < 100000) (hk:Um ts) (t:Tm):bq (T nat).G 127 [.v (.one (rows aa ts)),.v (.agg (aa t))] []=some ([.one (cb (inT ts t))],[]):=by
 obtain ⟨r,h1,h2⟩:=U6 (nat:=nat) ts hm hk t ts.length 0 (by omega)
 simp only [C4,D1] at h1 h2;have h3:bq (T nat).G 371 [.v (.one (rows aa ts)),.ref 0 0] [aa t]=some ([.one (ci r)],[aa t]):=by rw [aQ LK];simp [t371,zZ,wm,h1,af]
 have h4:bq (T nat).G 366 [.v (.one (rows aa ts)),.ref 0 0] [aa t]=some ([.one (cb (inT ts t))],[aa t]):=by rw [aQ ahY];simp only [t366];simp [zZ,h3,h2,af]
 rw [aQ aiB];simp [t127,zZ,h4,af]
theorem Vy (ts:List Tm) (hm:ts.length < 100000) (hk:Um ts) (t:Tm):∀(m k:Nat),k+m=ts.length->
  bR (T nat).G 107 0 [.c (rows aa ts),.c (ci k),.l (aa t)]=some ([.one (cb (inT (ts.drop k) t))],[])
 |0,k,hk=>by
  have hlt:¬((k:Int) < (ts.length:Int)):=by omega
  rw [aF Q9 (t:=t107.heads[0]) rfl,bG (by omega)]
  simp [t107,zZ,hlt,wm,inT]
 |m+1,k,hk'=>by
  have hkr:k < ts.length:=by omega
  have hlt:((k:Int) < (ts.length:Int)):=by omega
  have ho:=hk ts[k] (By hkr);have hc:=x49 (nat:=nat) ho.g ho t;have hs:=bn k (by omega)
  have hi:=Vy ts hm hk t m (k+1) (by omega)
  rw [drop_at hkr,aF Q9 (t:=t107.heads[0]) rfl];cases hb:nR ts[k] t<;>rw [hb] at hc<;>simp [-Int.natCast_add,t107,zZ,hlt,wm,inT,jd hkr,hc,hs,hi,af,hb]
theorem x107 (ts:List Tm) (hm:ts.length < 100000) (hk:Um ts) (t:Tm):bq (T nat).G 107 [.v (.one (rows aa ts)),.v (.agg (aa t))] []=some ([.one (cb (inT ts t))],[]):=by
 have h3:=Vy (nat:=nat) ts hm hk t ts.length 0 (by omega)
 simp only [C4,D1] at h3;rw [aQ Q9];simp [t107,zZ,h3,af]
end
mutual
theorem zh:∀t:Tm,nR t t=true
 |.var p s=>by simp [nR]
 |.dV o=>by simp [nR,MC]
 |.app p s ts=>by simp [nR,Ql ts]
theorem Ql:∀ts:List Tm,Bp ts ts=true
 |[]=>rfl
 |t::ts=>by simp [Bp,zh t,Ql ts]
end
section
variable {nat:Nat->List V->Option (List V)}
theorem arO {l:List Ob} {k:Nat} (h:k < l.length):fI 7 (rows enc l) (ci k)=some (enc l[k]):=jE bF (A6 h)
theorem aqT (l:List Ob):jk false (rows enc l)=some (ci l.length):=rfl
def hO:Ob->Nat
 |.cons a b=>max (hO a+1) (hO b)
 |_=>1
def xh:List Ob->Ob
 |[]=>VH
 |x::xs=> .cons x (xh xs)
theorem Ui (l:List Ob) (hm:l.length < 100000):∀(k:Nat),k<=l.length->
  bR (T nat).G 161 0 [.c (rows enc l),.c (ci ((k:Int) - 1)),.c (ci 0),.c ce,.c ce,.c ce,.c ce,.c ce,.c cz,.l (enc (xh (l.drop k)))]=some ([.agg (enc (xh l))],[])
 |0,_=>by rw [aF SC (t:=t161.heads[0]) rfl];simp [t161,zZ,bF]
 |k+1,hk=>by
  have hkr:k < l.length:=by omega
  have he:(((k+1:Nat):Int) - 1)=(k:Int):=by omega
  have hs:bW .sub false (ci (k:Int)) (ci 1)=some (ci ((k:Int) - 1)):=nQ (by omega) (by omega)
  have hi:=Ui l hm k (by omega)
  rw [drop_at hkr,xh] at hi;rw [he,aF SC (t:=t161.heads[0]) rfl];simp [-Int.natCast_add,t161,zZ,arO hkr,aoJ,hs,hi,bF]
theorem aqW (l:List Ob) (hm:l.length < 100000):bq (T nat).G 161 [.v (.one (rows enc l))] []=some ([.agg (enc (xh l))],[]):=by
 have h3:=Ui (nat:=nat) l hm l.length (An _);rw [bG (by omega),xh] at h3
 have hs:bW .sub false (ci (l.length:Int)) (ci 1)=some (ci ((l.length:Int) - 1)):=nQ (by omega) (by omega)
 rw [aQ SC];simp [t161,zZ,amH,aqT,hs,h3,bF]
end
def DY (b:UInt8):List C:=[.lit (.int .u8 (b.toNat:Int))]
theorem WK (b:UInt8):(DY b).length=1:=rfl
def bx (bs:List UInt8) (pos:Nat):List C:=[rows DY bs,ci pos]
theorem zg (bs:List UInt8) (pos:Nat):(bx bs pos).length=2:=rfl
theorem bx0 (bs:List UInt8) (pos:Nat):ak (bx bs pos) 0=rows DY bs:=rfl
theorem bx1 (bs:List UInt8) (pos:Nat):ak (bx bs pos) 1=ci pos:=rfl
theorem apw (l:List UInt8):jk false (rows DY l)=some (ci l.length):=rfl
theorem ar3 {l:List UInt8} {k:Nat} (h:k < l.length):fI 1 (rows DY l) (ci k)=some (DY l[k]):=jE (f:=DY) WK (A6 h)
theorem anw (b:UInt8):VM .i64 (ak (DY b) 0)=some (ci (b.toNat:Int)):=by have h:=b.toNat_lt;simp only [DY,ak,List.getD_cons_zero,VM,ci];rw [aeC (by omega) (by omega)]
theorem Y3 {a b:Int} (h:b≠0):bW .rem false (ci a) (ci b)=some (ci (a.tmod b)):=by simp [bW,ci,r9,gM,jV,h]
section
variable {nat:Nat->List V->Option (List V)}
theorem x38 (bs:List UInt8) (pos:Nat) (hb:bs.length<=80) (hp:pos<=bs.length) (n:Int) (hn:1<=n):
  ∃(r:Int) (pos':Nat),bq (T nat).G 38 [.ref 0 0,.v (.one (ci n))] [bx bs pos]=some ([.one (ci r)],[bx bs pos'])/\0<=r/\r < n/\pos'<=bs.length:=by
 by_cases h:pos < bs.length
 ·have hlt:¬(bs.length:Int)<=pos:=by omega
  have hn1:¬n < 1:=by omega
  have hs:bW .add false (ci (pos:Int)) (ci 1)=some (ci ((pos+1:Nat):Int)):=bn pos (by omega)
  have hs2:bW .sub false (ci ((pos+1:Nat):Int)) (ci 1)=some (ci (pos:Int)):=by
   rw [nQ (by omega) (by omega)]
   exact E6 (fun x=>some (ci x)) (by omega)
  have hr:bW .rem false (ci (bs[pos].toNat:Int)) (ci n)=some (ci ((bs[pos].toNat:Int).tmod n)):=Y3 (by omega)
  refine ⟨(bs[pos].toNat:Int).tmod n,pos+1,?_,Int.tmod_nonneg _ (by omega),Int.tmod_lt_of_pos _ (by omega),by omega⟩
  rw [aQ adQ];simp only [t38];simp [-Int.natCast_add,zZ,zg,bx0,bx1,apw,hlt,hn1,hs,hs2,hr,ar3 h,anw,WK];rfl
 ·have hlt:(bs.length:Int)<=pos:=by omega
  refine ⟨0,pos,?_,by omega,by omega,hp⟩
  rw [aQ adQ];simp [t38,zZ,zg,bx0,bx1,apw,hlt]
end
theorem UM {a b c d:List C} (h1:a.length=7) (h2:c.length=7) (h:a++b=c++d):a=c/\b=d:=List.append_inj h (by rw [h1,h2])
theorem Cr {a b:ByteArray} (h:cs a=cs b):a=b:=by simpa [cs] using h
theorem SA:∀{a b:Ob},enc a=enc b->a=b
 |.num n d,.num n' d',h=>by simp only [enc,Dg,and_true,L4] at h;rw [Cr h.1,Cr h.2]
 |.sy p s,.sy p' s',h=>by simp only [enc,Dg,and_true,L4] at h;rw [Cr h.1,Cr h.2]
 |.st t,.st t',h=>by simp only [enc,Dg,and_true,L4] at h;rw [Cr h]
 |.cons a b,.cons a' b',h=>by simp only [enc,Dg,C.slice.injEq,and_true,L4] at h;obtain ⟨h1,h2⟩:=UM (bF a) (bF a') h;rw [SA h1,SA h2]
 |.num ..,.sy ..,h=>by simp [enc,ci] at h
 |.num ..,.st ..,h=>by simp [enc,ci] at h
 |.num ..,.cons ..,h=>by simp [enc,ci] at h
 |.sy ..,.num ..,h=>by simp [enc,ci] at h
 |.sy ..,.st ..,h=>by simp [enc,ci] at h
 |.sy ..,.cons ..,h=>by simp [enc,ci] at h
 |.st ..,.num ..,h=>by simp [enc,ci] at h
 |.st ..,.sy ..,h=>by simp [enc,ci] at h
 |.st ..,.cons ..,h=>by simp [enc,ci] at h
 |.cons ..,.num ..,h=>by simp [enc,ci] at h
 |.cons ..,.sy ..,h=>by simp [enc,ci] at h
 |.cons ..,.st ..,h=>by simp [enc,ci] at h
theorem kg (o:Ob):aa (.dV o)=[ci 2,ce,ce]++(enc o++[cz]):=by cases o<;>rfl
mutual
theorem aei:∀{a b:Tm},aa a=aa b->a=b
 |.var p s,.var p' s',h=>by simp only [aa,Dg,and_true,L4] at h;rw [Cr h.1,Cr h.2]
 |.dV o,.dV o',h=>by rw [kg,kg] at h;have h1:=(UM (bF o) (bF o') (List.append_cancel_left h)).1;rw [SA h1]
 |.app p s ts,.app p' s' ts',h=>by simp only [aa,Dg,C.slice.injEq,and_true,L4] at h;rw [Cr h.1,Cr h.2.1,KF h.2.2.1]
 |.var ..,.dV ..,h=>by rw [kg] at h;simp [aa,ci] at h
 |.var ..,.app ..,h=>by simp [aa,ci] at h
 |.dV ..,.var ..,h=>by rw [kg] at h;simp [aa,ci] at h
 |.dV ..,.app ..,h=>by rw [kg] at h;simp [aa,ci] at h
 |.app ..,.var ..,h=>by simp [aa,ci] at h
 |.app ..,.dV ..,h=>by rw [kg] at h;simp [aa,ci] at h
theorem KF:∀{a b:List Tm},eZ a=eZ b->a=b
 |[],[],_=>rfl
 |[],t::ts,h=>by have:=E6 List.length h;simp [eZ,af] at this;omega
 |t::ts,[],h=>by have:=E6 List.length h;simp [eZ,af] at this
 |t::ts,t'::ts',h=>by
  simp only [eZ] at h;obtain ⟨h1,h2⟩:=List.append_inj h (by rw [af,af])
  rw [aei h1,KF h2]
end
theorem Kl {a b:List Tm} (h:rows aa a=rows aa b):a=b:=by simp only [rows,C.slice.injEq] at h;refine KF ?_;rw [iG,iG];exact h.1
variable {nat:Nat->List V->Option (List V)}
def t172:cB:=⟨[.agg 11,.one,.one],[],
 .dG (.bin .eql false (.n 0 0) (.k (.int .i64 3))) <|
 .ite (.v 3)
 (.dG (.bin .eql false (.n 0 1) (.k (.string ⟨#[108,105,115,112]⟩))) <|
 .ite (.v 4)
 (.dG (.bin .eql false (.n 0 2) (.v 1)) <|
 .ite (.v 5)
 (.dG (.len false (.n 0 10)) <|
 .dG (.bin .eql false (.v 6) (.v 2)) <|
 .ret [(.one (.v 7))] [])
 (.ret [(.one (.k (.bool false)))] []))
 (.ret [(.one (.k (.bool false)))] []))
 (.ret [(.one (.k (.bool false)))] []),
 []⟩
theorem aho:(T nat).G.fn 172=some t172:=by kernel_rfl
def t3:cB:=⟨[.one,.one],[],
 .call 9 [] [] [none] [] <|
 .dG (.un .not (.v 2)) <|
 .ite (.v 3)
 (.ret [(.one (.k (.bool false)))] [])
 (.dG (.len false (.v 0)) <|
 .dG (.bin .gtr false (.v 4) (.k (.int .i64 60))) <|
 .ite (.v 5)
 (.ret [(.one (.k (.bool true)))] [])
 (.call 10 [(.v (.one (.k (.int .u32 0))))] [] [none] [] <|
 .call 11 [(.ref 0 0),(.v (.one (.v 6)))] [(.lit [(.v 0),(.k (.int .i64 0))])] [none] [2] <|
 .dG (.bin .rem false (.v 1) (.k (.int .u8 4))) <|
 .dG (.bin .eql false (.v 9) (.k (.int .u8 1))) <|
 .ite (.v 10)
 (.call 12 [(.v (.one (.k (.string ⟨#[98,105,110,97,114,121,45,97,112,112,101,110,100]⟩))))] [] [(some 2)] [] <|
 .call 13 [(.v (.one (.k (.string ⟨#[112,97,105,114,115]⟩))))] [] [(some 2)] [] <|
 .dG (.lits 2 2 [(.n 11 0),(.n 11 1),(.n 12 0),(.n 12 1)]) <|
 .call 14 [(.v (.one (.v 6))),(.v (.one (.v 13))),(.v (.one (.v 7)))] [] [none] [] <|
 .call 15 [(.v (.one (.v 6))),(.v (.one (.v 13))),(.v (.one (.v 7)))] [] [none] [] <|
 .dG (.len false (.v 14)) <|
 .dG (.len false (.v 15)) <|
 .dG (.bin .neq false (.v 16) (.v 17)) <|
 .ite (.v 18)
 (.ret [(.one (.k (.bool false)))] [])
 (.goto 0 [(.c (.v 14)),(.c (.v 15)),(.c (.k (.int .i64 0)))]))
 (.call 14 [(.v (.one (.v 6))),(.v (.one .z)),(.v (.one (.v 7)))] [] [none] [] <|
 .call 15 [(.v (.one (.v 6))),(.v (.one .z)),(.v (.one (.v 7)))] [] [none] [] <|
 .dG (.len false (.v 11)) <|
 .dG (.len false (.v 12)) <|
 .dG (.bin .neq false (.v 13) (.v 14)) <|
 .ite (.v 15)
 (.ret [(.one (.k (.bool false)))] [])
 (.goto 0 [(.c (.v 11)),(.c (.v 12)),(.c (.k (.int .i64 0)))])))),
 [.dG (.len false (.v 0)) <|
 .dG (.bin .lss false (.v 2) (.v 3)) <|
 .ite (.v 4)
 (.row 16 (.v 0) (.v 2) <|
 .row 16 (.v 1) (.v 2) <|
 .call 16 [(.v (.agg (.all 5))),(.v (.agg (.all 6)))] [] [none] [] <|
 .dG (.un .not (.v 7)) <|
 .ite (.v 8)
 (.ret [(.one (.k (.bool false)))] [])
 (.dG (.bin .add false (.v 2) (.k (.int .i64 1))) <|
 .goto 0 [(.c (.v 0)),(.c (.v 1)),(.c (.v 9))]))
 (.ret [(.one (.k (.bool true)))] [])]⟩
theorem ade:(T nat).G.fn 3=some t3:=by kernel_rfl
end Go.Ey.Pr
