/- InductionPairs: for every input the law returns true, and its argument reads as before. No condition beyond the tables of the card. -/
import Derived.Test.YtolnnaanmfnkjaaGreatDoorY48
import Derived.Test.YtolnnaanmfnkjaaGreatDoorYP1
import Derived.Below
import GoSem.Core.Region
import GoSem.Core.Layout
import GoSem.Op.Equal
import GoSem.Core.View
import GoSem.Op.String
import Derived.Test.YtolnnaanmfnkjaaGreatDoorChecked
import Derived.KernelRfl
import Derived.Orders
import Derived.MapKept
import Derived.Carry
import Derived.Laws.StructEq
import Derived.WalkKit
import Derived.Laws.Append
import Derived.Laws.OwnMore
import Derived.StillTailTactics
import Derived.Deep.AppendLies
import Derived.Deep.RegionHeld3
import Derived.Lib.LaidTab
import Derived.Shelf.LaysM
import Derived.Shelf.Strconv.Itoa3
import Derived.Shelf.Strconv.Quote
import Derived.Shelf.Strings.Builder1
import Derived.BigCall
import Derived.Shelf.Strings.BuilderF
import Derived.Shelf.Strings.BuilderK
import Derived.Lib.BufferKept
import Derived.Laws.EntriesVeiled
import Derived.Deep.DeepCutAuto
import Derived.Deep.DrawnRows
import Derived.Maps.Own
import Derived.Maps.OwnSet
import Derived.Test.YtolnnaanmfnkjaaGreatDoorCards
import Derived.SevenTiedAt
import Derived.JoinedOf
import Derived.Test.YtolnnaanmfnkjaaGreatDoorTie
import Derived.Lay
import Derived.Test.YtolnnaanmfnkjaaGreatDoorRows
import Derived.LaidMore
import Derived.Lib.LaidPrint
import Derived.ProofKit
import Derived.OpenShut
import Derived.Stop.Joined
import Derived.ChangeOld
import Derived.Deep.Slices
set_option linter.all false
set_option maxHeartbeats 4000000
namespace Go.Ey.Pr
open Go Go.Ey Go.Ey.Seat Go.RowKit Go.Proofs
theorem Sz (a b:List cB):Ig a b=ext a b:=by rw [<-Td];simp only [Ig,Du,ZB,BN];rfl
theorem si (a b:List bq):jS a b=!apart a b:=by
 rw [Hx,It,<-Bool.not_eq_true,Af];simp only [jS,I3,BC];constructor
 ·rintro ⟨x,h1,h2⟩ h;exact h x h1 h2
 ·intro h;apply L1;intro h2;exact h fun s hs hb=>h2 ⟨s,hs,hb⟩
section
variable {nat:Nat->List V->Option (List V)}
theorem ES (xs:List Tm) (hm:xs.length < 100000) (ho:Al xs) (t:Tm):∀(m k:Nat),k+m=xs.length->
  bn (T nat).G 129 0 [.c (rows af xs),.c (ci k),.l (af t)]=some ([.one (cb (inT (xs.drop k) t))],[])
 |0,k,hk=>by
  have hlt:¬((k:Int) < (xs.length:Int)):=by omega
  rw [ai Dn (t:=t129.heads[0]) rfl,aA (by omega:¬k < xs.length)]
  simp [-Int.natCast_add,t129,zZ,hlt,aa,inT]
 |m+1,k,hk=>by
  have hkr:k < xs.length:=by omega
  have hlt:((k:Int) < (xs.length:Int)):=by omega
  have hs:=ax k (by omega)
  have ih:=ES xs hm ho t m (k+1) (by omega)
  have hoa:=ho _ (A5 hkr);have CY:=ZZ (nat:=nat) hoa.g hoa t;have hd:inT (xs.drop k) t=(jb xs[k] t||inT (xs.drop (k+1)) t):=by rw [drop_at hkr];rfl
  rw [hd,ai Dn (t:=t129.heads[0]) rfl];cases hq:jb xs[k] t<;>rw [hq] at CY<;>simp [-Int.natCast_add,t129,zZ,hlt,aa,eH hkr,CY,hs,ih,ah]
theorem akk (xs:List Tm) (hm:xs.length < 100000) (ho:Al xs) (t:Tm):bz (T nat).G 129 [.v (.one (rows af xs)),.v (.agg (af t))] []=some ([.one (cb (inT xs t))],[]):=by
 have h:=ES (nat:=nat) xs hm ho t xs.length 0 (by omega)
 simp only [An,A6] at h;rw [aG Dn];simp [t129,zZ,h,ah]
theorem afw (x y:Cs) (hx:iK x) (hy:iK y):∀(m k:Nat),k+m=y.tests.length->
  bn (T nat).G 66 0 [.c (ci k),.l (aQ x),.l (aQ y)]=cond ((y.tests.drop k).all (inT x.tests)) (bn (T nat).G 66 1 [.c (ci 0),.l (aQ x),.l (aQ y)]) (some ([.one (cb false)],[]))
 |0,k,hk=>by
  have hlt:¬((k:Int) < (y.tests.length:Int)):=by omega
  rw [ai pX (t:=t66.heads[0]) rfl,aA (by omega:¬k < y.tests.length)]
  simp [-Int.natCast_add,t66,zZ,hlt,aQ,aa]
 |m+1,k,hk=>by
  have hkr:k < y.tests.length:=by omega
  have hlt:((k:Int) < (y.tests.length:Int)):=by omega
  have htl:=hy.tl;have hs:=ax k (by omega)
  have ih:=afw x y hx hy m (k+1) (by omega)
  have h1:=akk (nat:=nat) x.tests hx.tl hx.ts y.tests[k];have hd:(y.tests.drop k).all (inT x.tests)=(inT x.tests y.tests[k] && (y.tests.drop (k+1)).all (inT x.tests)):=by rw [drop_at hkr];rfl
  simp only [aQ] at ih |-;rw [hd,ai pX (t:=t66.heads[0]) rfl];cases hq:inT x.tests y.tests[k]<;>rw [hq] at h1<;>simp [-Int.natCast_add,t66,zZ,hlt,aa,eH hkr,h1,hs,ih,ah]
theorem Xd (x y:Cs) (hx:iK x) (hy:iK y) (i:Nat) (hi:i < y.subs.length):∀(m k:Nat) (fd:Bool),k+m=x.subs.length->
  bn (T nat).G 66 2 [.c (ci i),.c (cb fd),.c (ci k),.l (aQ x),.l (aQ y)]=
  cond (fd||(x.subs.drop k).any fun r=>ext r y.subs[i]) (bn (T nat).G 66 1 [.c (ci ((i+1:Nat):Int)),.l (aQ x),.l (aQ y)]) (some ([.one (cb false)],[]))
 |0,k,fd,hk=>by
  have hlt:¬((k:Int) < (x.subs.length:Int)):=by omega
  have hsl:=hy.sl;have hs:=ax i (by omega)
  rw [ai pX (t:=t66.heads[2]) rfl,aA (by omega:¬k < x.subs.length)]
  cases fd<;>simp [-Int.natCast_add,t66,zZ,hlt,aQ,aa,hs]
 |m+1,k,fd,hk=>by
  have hkr:k < x.subs.length:=by omega
  have hlt:((k:Int) < (x.subs.length:Int)):=by omega
  have hsl:=hx.sl;have hs:=ax k (by omega)
  have aqK:=hy.sl;have hsi:=ax i (by omega)
  have ih2:=fun fd=>Xd x y hx hy i hi m (k+1) fd (by omega)
  have i1:=ih2 true;have i2:=ih2 false;have hxo:=hx.ok _ (A5 hkr);have Jr:=hy.ok _ (A5 hi);have h1:=aib (nat:=nat) x.subs[k] y.subs[i] Jr.1 hxo.1 hxo.2;rw [Sz] at h1;have hd:((x.subs.drop k).any fun r=>ext r y.subs[i])=(ext x.subs[k] y.subs[i]||(x.subs.drop (k+1)).any fun r=>ext r y.subs[i]):=by rw [drop_at hkr];rfl
  simp only [aQ] at i1 i2 |-;rw [hd,ai pX (t:=t66.heads[2]) rfl];cases fd with
  |true=>simp [-Int.natCast_add,t66,zZ,hlt,aa,hsi]
  |false=>cases hq:ext x.subs[k] y.subs[i]<;>rw [hq] at h1<;>simp [-Int.natCast_add,t66,zZ,hlt,aa,jk hkr,jk hi,h1,hs,i1,i2]
theorem adx (x y:Cs) (hx:iK x) (hy:iK y):∀(m k:Nat),k+m=y.subs.length->
  bn (T nat).G 66 1 [.c (ci k),.l (aQ x),.l (aQ y)]=some ([.one (cb ((y.subs.drop k).all fun s=>x.subs.any fun r=>ext r s))],[])
 |0,k,hk=>by
  have hlt:¬((k:Int) < (y.subs.length:Int)):=by omega
  rw [ai pX (t:=t66.heads[1]) rfl,aA (by omega:¬k < y.subs.length)]
  simp [-Int.natCast_add,t66,zZ,hlt,aQ,aa]
 |m+1,k,hk=>by
  have hkr:k < y.subs.length:=by omega
  have hlt:((k:Int) < (y.subs.length:Int)):=by omega
  have ih:=adx x y hx hy m (k+1) (by omega)
  have h1:=Xd (nat:=nat) x y hx hy k hkr x.subs.length 0 false (by omega)
  simp only [An,A6,G1,aQ] at h1;have hd:((y.subs.drop k).all fun s=>x.subs.any fun r=>ext r s)=((x.subs.any fun r=>ext r y.subs[k]) && (y.subs.drop (k+1)).all fun s=>x.subs.any fun r=>ext r s):=by rw [drop_at hkr];rfl
  simp only [aQ] at ih |-;rw [hd,ai pX (t:=t66.heads[1]) rfl];cases hq:(x.subs.any fun r=>ext r y.subs[k])<;>rw [hq] at h1<;>simp [-Int.natCast_add,t66,zZ,hlt,aa,h1,ih]
theorem x66 (x y:Cs) (hx:iK x) (hy:iK y):bz (T nat).G 66 [.v (.agg (aQ x)),.v (.agg (aQ y))] []=some ([.one (cb (covers x y))],[]):=by
 have h1:=afw (nat:=nat) x y hx hy y.tests.length 0 (by omega)
 have h2:=adx (nat:=nat) x y hx hy y.subs.length 0 (by omega)
 simp only [An,A6,aQ] at h1 h2;rw [aG pX,Gp];rw [h2] at h1;cases hq:y.tests.all (inT x.tests)<;>rw [hq] at h1<;>simp [t66,zZ,aQ,h1]
theorem WT (a b:bH) (ha:kU a) (hb:kU b) (i:Nat) (hi:i < b.cases.length):∀(m k:Nat) (fd:Bool),k+m=a.cases.length->
  bn (T nat).G 27 2 [.c (ci i),.c (cb fd),.c (ci k),.l (aj a),.l (aj b)]=
  cond (fd||(a.cases.drop k).any fun x=>covers x b.cases[i]) (bn (T nat).G 27 1 [.c (ci ((i+1:Nat):Int)),.l (aj a),.l (aj b)]) (some ([.one (cb false)],[]))
 |0,k,fd,hk=>by
  have hlt:¬((k:Int) < (a.cases.length:Int)):=by omega
  have hl:=hb.kl;have hs:=ax i (by omega)
  have e14:=bX a;rw [ai o7 (t:=t27.heads[2]) rfl,aA (by omega:¬k < a.cases.length)]
  cases fd<;>simp [-Int.natCast_add,t27,zZ,hlt,e14,aa,hs,ak]
 |m+1,k,fd,hk=>by
  have hkr:k < a.cases.length:=by omega
  have hlt:((k:Int) < (a.cases.length:Int)):=by omega
  have hl:=ha.kl;have hlb:=hb.kl;have hs:=ax k (by omega)
  have hsi:=ax i (by omega)
  have e14:=bX a;have f14:=bX b;have ih:=fun fd=>WT a b ha hb i hi m (k+1) fd (by omega)
  have i1:=ih true;have i2:=ih false;have h1:=x66 (nat:=nat) a.cases[k] b.cases[i] (ha.ks _ (A5 hkr)) (hb.ks _ (A5 hi));have hr:=og hkr;have hrb:=og hi;have hd:((a.cases.drop k).any fun x=>covers x b.cases[i])=(covers a.cases[k] b.cases[i]||(a.cases.drop (k+1)).any fun x=>covers x b.cases[i]):=by rw [drop_at hkr];rfl
  simp only [aQ] at h1;rw [hd,ai o7 (t:=t27.heads[2]) rfl];cases fd with
  |true=>simp [-Int.natCast_add,t27,zZ,hlt,e14,aa,hsi,ak]
  |false=>cases hq:covers a.cases[k] b.cases[i]<;>rw [hq] at h1<;>simp [-Int.natCast_add,t27,zZ,hlt,e14,f14,aa,hr,hrb,h1,hs,i1,i2,ak]
theorem aeX (a b:bH) (ha:kU a) (hb:kU b):∀(m k:Nat),k+m=b.cases.length->
  bn (T nat).G 27 1 [.c (ci k),.l (aj a),.l (aj b)]=some ([.one (cb ((b.cases.drop k).all fun y=>a.cases.any fun x=>covers x y))],[])
 |0,k,hk=>by
  have hlt:¬((k:Int) < (b.cases.length:Int)):=by omega
  have f14:=bX b;rw [ai o7 (t:=t27.heads[1]) rfl,aA (by omega:¬k < b.cases.length)]
  simp [-Int.natCast_add,t27,zZ,hlt,f14,aa,ak]
 |m+1,k,hk=>by
  have hkr:k < b.cases.length:=by omega
  have hlt:((k:Int) < (b.cases.length:Int)):=by omega
  have ih:=aeX a b ha hb m (k+1) (by omega)
  have h1:=WT (nat:=nat) a b ha hb k hkr a.cases.length 0 false (by omega)
  have f14:=bX b;simp only [An,A6,G1] at h1;have hd:((b.cases.drop k).all fun y=>a.cases.any fun x=>covers x y)=((a.cases.any fun x=>covers x b.cases[k]) && (b.cases.drop (k+1)).all fun y=>a.cases.any fun x=>covers x y):=by rw [drop_at hkr];rfl
  rw [hd,ai o7 (t:=t27.heads[1]) rfl];cases hq:(a.cases.any fun x=>covers x b.cases[k])<;>rw [hq] at h1<;>simp [-Int.natCast_add,t27,zZ,hlt,f14,aa,h1,ih,ak]
theorem adD (a b:bH) (ha:kU a) (hb:kU b):∀(m k:Nat),k+m=b.changed.length->
  bn (T nat).G 27 0 [.c (ci k),.l (aj a),.l (aj b)]=some ([.one (cb (within (b.changed.drop k) a.changed && apart b.fixed a.changed && b.cases.all fun y=>a.cases.any fun x=>covers x y))],[])
 |0,k,hk=>by
  have hlt:¬((k:Int) < (b.changed.length:Int)):=by omega
  have Y3:=x59 (nat:=nat) b.fixed a.changed hb.fx ha.ch;have h1:=aeX (nat:=nat) a b ha hb b.cases.length 0 (by omega)
  simp only [An,A6] at h1;rw [si] at Y3;rw [ai o7 (t:=t27.heads[0]) rfl,aA (by omega:¬k < b.changed.length)]
  cases hq:apart b.fixed a.changed<;>rw [hq] at Y3<;>simp [-Int.natCast_add,t27,zZ,hlt,dU,fu,aa,within,Y3,h1,ak]
 |m+1,k,hk=>by
  have hkr:k < b.changed.length:=by omega
  have hlt:((k:Int) < (b.changed.length:Int)):=by omega
  have hbl:=hb.ch;have hs:=ax k (by omega)
  have hr:eZ 2 (rows bW b.changed) (ci k)=some [cs b.changed[k].1,cs b.changed[k].2]:=kC hkr;have ih:=adD a b ha hb m (k+1) (by omega)
  have h1:=x65 (nat:=nat) a.changed ha.ch b.changed[k];have hd:within (b.changed.drop k) a.changed=(kF a.changed b.changed[k] && within (b.changed.drop (k+1)) a.changed):=by rw [drop_at hkr,<-oM];rfl
  simp only [bW] at h1;rw [hd,ai o7 (t:=t27.heads[0]) rfl];cases hq:kF a.changed b.changed[k]<;>rw [hq] at h1<;>simp [-Int.natCast_add,t27,zZ,hlt,dU,aa,hr,h1,hs,ih,ak]
theorem x27 (a b:bH) (ha:kU a) (hb:kU b):bz (T nat).G 27 [.v (.agg (aj a)),.v (.agg (aj b))] []=some ([.one (cb (lg a b))],[]):=by
 have h:=adD (nat:=nat) a b ha hb b.changed.length 0 (by omega)
 simp only [An,A6] at h;rw [aG o7,lg];simp [t27,zZ,h,ak]
end
end Go.Ey.Pr
set_option maxHeartbeats 4000000
namespace Go.Ey.Pr
open Go Go.Ey Go.Ey.Seat Go.RowKit Go.Proofs
section
variable {nat:Nat->List V->Option (List V)}
theorem VB (a b:List cB) (i:Nat) (hi:i < a.length) (ha:a.length < 100000) (hb:b.length < 100000) (hok:Ac a):∀(m k:Nat),k+m=b.length->
  bn (T nat).G 61 1 [.c (rows bu a),.c (rows bu b),.c (ci i),.c (ci k)]=cond (dV a[i] (b.drop k)) (bn (T nat).G 61 0 [.c (rows bu a),.c (rows bu b),.c (ci ((i+1:Nat):Int))]) (some ([.one (cb false)],[]))
 |0,k,hk=>by
  have hlt:¬((k:Int) < (b.length:Int)):=by omega
  have hsi:=ax i (by omega)
  rw [ai AJ (t:=t61.heads[1]) rfl,aA (by omega:¬k < b.length)]
  simp [-Int.natCast_add,t61,zZ,hlt,dV,hsi,aa]
 |m+1,k,hk=>by
  have hkr:k < b.length:=by omega
  have hlt:((k:Int) < (b.length:Int)):=by omega
  have hsk:=ax k (by omega)
  have ih:=VB a b i hi ha hb hok m (k+1) (by omega)
  have he:wh [1,1] false [cs a[i].v.1,cs a[i].v.2] [cs b[k].v.1,cs b[k].v.2]=some (cb (jY a[i].v b[k].v)):=jX false _ _ _ _;have hoa:=hok a[i] (A5 hi);have CY:=ZZ (nat:=nat) hoa.1 hoa.2 b[k].t;have n1:=kJ a[i].t;have n2:=kJ b[k].t;have hd:dV a[i] (b.drop k)=(!(jY a[i].v b[k].v && !jb a[i].t b[k].t) && dV a[i] (b.drop (k+1))):=by rw [drop_at hkr];rfl
  rw [hd,ai AJ (t:=t61.heads[1]) rfl];cases hq:jY a[i].v b[k].v with
  |false=>
   rw [hq] at he;simp [-Int.natCast_add,t61,zZ,hlt,aa,fE hi,fE hkr,he,hsk,ih,ah]
  |true=>
   rw [hq] at he;cases hq2:jb a[i].t b[k].t<;>rw [hq2] at CY<;>
    simp [-Int.natCast_add,t61,zZ,hlt,aa,fE hi,fE hkr,he,hsk,n1,n2,CY,ih,ah]
theorem IE (a b:List cB) (ha:a.length < 100000) (hb:b.length < 100000) (hok:Ac a):∀(m k:Nat),k+m=a.length->
  bn (T nat).G 61 0 [.c (rows bu a),.c (rows bu b),.c (ci k)]=some ([.one (cb ((a.drop k).all fun x=>dV x b))],[])
 |0,k,hk=>by
  have hlt:¬((k:Int) < (a.length:Int)):=by omega
  rw [ai AJ (t:=t61.heads[0]) rfl,aA (by omega:¬k < a.length)]
  simp [-Int.natCast_add,t61,zZ,hlt,aa]
 |m+1,k,hk=>by
  have hkr:k < a.length:=by omega
  have hlt:((k:Int) < (a.length:Int)):=by omega
  have ih:=IE a b ha hb hok m (k+1) (by omega)
  have h1:=VB (nat:=nat) a b k hkr ha hb hok b.length 0 (by omega)
  simp only [An,A6] at h1;have hd:((a.drop k).all fun x=>dV x b)=(dV a[k] b && (a.drop (k+1)).all fun x=>dV x b):=by rw [drop_at hkr];rfl
  rw [hd,ai AJ (t:=t61.heads[0]) rfl];cases hq:dV a[k] b<;>rw [hq] at h1<;>simp [-Int.natCast_add,t61,zZ,hlt,aa,h1,ih]
theorem x61 (a b:List cB) (ha:a.length < 100000) (hb:b.length < 100000) (hok:Ac a):bz (T nat).G 61 [.v (.one (rows bu a)),.v (.one (rows bu b))] []=some ([.one (cb (agree a b))],[]):=by
 have h:=IE (nat:=nat) a b ha hb hok a.length 0 (by omega)
 simp only [An,A6] at h;rw [aG AJ,JW];simp [t61,zZ,h]
theorem JP (s:List cB) (hm:s.length < 1000000) (v:bq):∀(m k:Nat),k+m=s.length->
  bn (T nat).G 62 0 [.c (rows bu s),.c (ci k),.l (bW v)]=some ([.one (cb ((s.drop k).any fun x=>jY x.v v))],[])
 |0,k,hk=>by
  have hlt:¬((k:Int) < (s.length:Int)):=by omega
  rw [ai Iw (t:=t62.heads[0]) rfl,aA (by omega:¬k < s.length)]
  simp [-Int.natCast_add,t62,zZ,hlt,aa]
 |m+1,k,hk=>by
  have hkr:k < s.length:=by omega
  have hlt:((k:Int) < (s.length:Int)):=by omega
  have hs:=ax k (by omega)
  have ih:=JP s hm v m (k+1) (by omega)
  have he:wh [1,1] false [cs s[k].v.1,cs s[k].v.2] [cs v.1,cs v.2]=some (cb (jY s[k].v v)):=jX false _ _ _ _;have hd:((s.drop k).any fun x=>jY x.v v)=(jY s[k].v v||(s.drop (k+1)).any fun x=>jY x.v v):=by rw [drop_at hkr];rfl
  simp only [bW] at ih |-;rw [hd,ai Iw (t:=t62.heads[0]) rfl];cases hq:jY s[k].v v<;>rw [hq] at he<;>simp [-Int.natCast_add,t62,zZ,hlt,aa,fE hkr,he,hs,ih]
theorem x62 (s:List cB) (hm:s.length < 1000000) (v:bq):bz (T nat).G 62 [.v (.one (rows bu s)),.v (.agg [cs v.1,cs v.2])] []=some ([.one (cb (s.any fun x=>jY x.v v))],[]):=by
 have h:=JP (nat:=nat) s hm v s.length 0 (by omega)
 simp only [An,A6,bW] at h;rw [aG Iw];simp [t62,zZ,h]
theorem Dz (b:List bq) (hb:b.length < 50000):∀(m k:Nat) (acc:List bq),k+m=b.length->acc.length+m < 100000->
  bn (T nat).G 60 0 [.c (rows bW b),.c (ci k),.c (rows bW acc)]=some ([.one (rows bW (dX acc (b.drop k)))],[])
 |0,k,acc,hk,ha=>by
  have hlt:¬((k:Int) < (b.length:Int)):=by omega
  rw [ai Hz (t:=t60.heads[0]) rfl,aA (by omega:¬k < b.length)]
  simp [-Int.natCast_add,t60,zZ,hlt,aa,dX]
 |m+1,k,acc,hk,ha=>by
  have hkr:k < b.length:=by omega
  have hlt:((k:Int) < (b.length:Int)):=by omega
  have hs:=ax k (by omega)
  have hr:eZ 2 (rows bW b) (ci k)=some [cs b[k].1,cs b[k].2]:=kC hkr;have h1:=x65 (nat:=nat) acc (by omega) b[k]
  have hl2:fq 2 1 [cs b[k].1,cs b[k].2]=some (.slice (bW b[k]) 1):=Fq _ _;have ha2:=qm (acc:=acc) (x:=b[k]) (by omega)
  simp only [bW] at h1;rw [drop_at hkr,dX,oM,ai Hz (t:=t60.heads[0]) rfl];cases hq:kF acc b[k] with
  |true=>
   rw [hq] at h1;have ih:=Dz b hb m (k+1) acc (by omega) (by omega)
   simp [-Int.natCast_add,t60,zZ,hlt,aa,hr,h1,hs,ih]
  |false=>
   rw [hq] at h1;have ih:=Dz b hb m (k+1) (acc++[b[k]]) (by omega) (by simp;omega)
   simp [-Int.natCast_add,t60,zZ,hlt,aa,hr,h1,hl2,ha2,hs,ih]
theorem x60 (a b:List bq) (ha:a.length < 50000) (hb:b.length < 50000):bz (T nat).G 60 [.v (.one (rows bW a)),.v (.one (rows bW b))] []=some ([.one (rows bW (dX a b))],[]):=by
 have h:=Dz (nat:=nat) b hb b.length 0 a (by omega) (by omega)
 have hz:iO 2 32 (rows bW a) cz=some (rows bW a):=fe jw (by decide) (by simp only [aB];omega) (by simp only [aB];omega)
 simp only [An,A6] at h;rw [aG Hz];simp [t60,zZ,hz,h]
end
def q0 (a b:bH) (i:Nat) (out:List Cs):List W:=.c (ci i):: .l (aj a):: .l (aj b)::dG (mw a b [.c (rows af (a.calls++b.calls)),.c (rows aQ out)])
def Ci (a b:bH) (i k:Nat) (x y:Cs) (r:List W):List W:=.c (ci i):: .c (ci k):: .l (aj a):: .l (aj b)::dG (mw a b (.l (aQ x):: .l (aQ y)::r))
def Qm (a b:bH) (i k j:Nat) (x y:Cs) (r:List W):List W:=.c (ci i):: .c (ci k):: .c (ci j):: .l (aj a):: .l (aj b)::dG (mw a b (.l (aQ x):: .l (aQ y)::r))
theorem xz (s:List cB) (q:cB) (y:List cB):jg s (q::y)=jg (cond (s.any fun x=>jY x.v q.v) s (s++[q])) y:=by rw [jg];simp only [BN];cases s.any fun x=>jY x.v q.v<;>rfl
theorem A9 (s:List cB):jg s []=s:=by rw [jg]
section
variable {nat:Nat->List V->Option (List V)}
theorem UX (a b:bH) (i k:Nat) (hk:k < 100000) (x y:Cs) (out:List Cs) (acc:List (List cB)) (hac:acc.length < 100000) (oC:k < y.subs.length) (hy:y.subs[k].length < 100000):∀(m j:Nat) (s:List cB),j+m=y.subs[k].length->s.length+m < 300000->
  bn (T nat).G 25 5 (Qm a b i k j x y [.c (rows encS acc),.c (rows bu s),.c (rows af (a.calls++b.calls)),.c (rows aQ out),.c (rows af x.tests)])=
  bn (T nat).G 25 2 (Ci a b i (k+1) x y [.c (rows af (a.calls++b.calls)),.c (rows aQ out),.c (rows af x.tests),.c (rows encS (acc++[jg s (y.subs[k].drop j)]))])
 |0,j,s,hj,hsl=>by
  have hlt:¬((j:Int) < (y.subs[k].length:Int)):=by omega
  have hsk:=ax k (by omega)
  have hl1:=F7 s;have ha1:=L9 (acc:=acc) (x:=s) (by omega)
  have e2:au (aQ y) 1=rows encS y.subs:=rfl;rw [ai iq (t:=t25.heads[5]) rfl,aA (by omega:¬j < y.subs[k].length),A9]
  simp [-Int.natCast_add,Ci,Qm,t25,zZ,hlt,e2,jk oC,aa,hsk,hl1,ha1,ak,bM]
 |m+1,j,s,hj,hsl=>by
  have hjq:j < y.subs[k].length:=by omega
  have hlt:((j:Int) < (y.subs[k].length:Int)):=by omega
  have hsj:=ax j (by omega)
  have e2:au (aQ y) 1=rows encS y.subs:=rfl;have h62:=x62 (nat:=nat) s (by omega) y.subs[k][j].v
  have ih:=UX a b i k hk x y out acc hac oC hy m (j+1) (cond (s.any fun x=>jY x.v y.subs[k][j].v) s (s++[y.subs[k][j]])) (by omega) (by cases s.any fun x=>jY x.v y.subs[k][j].v<;>simp<;>omega)
  have om:=rJ y.subs[k][j].v y.subs[k][j].t;have ni:=AA (acc:=s) (x:=y.subs[k][j]) (by omega)
  simp only [bu] at ni om;rw [drop_at hjq,xz,ai iq (t:=t25.heads[5]) rfl];cases hq:s.any fun x=>jY x.v y.subs[k][j].v<;>rw [hq] at h62 ih<;>simp only [Ci,Qm,dG,mw,Fi,E4] at ih<;>
   simp [-Int.natCast_add,Ci,Qm,t25,zZ,hlt,e2,jk oC,fE hjq,aa,h62,hsj,om,ni,ih,bu,ak,bM,ah]
theorem UW (a b:bH) (i k:Nat) (hk:k < 100000) (x y:Cs) (out:List Cs) (acc:List (List cB)) (hac:acc.length < 100000) (oC:k < y.subs.length) (hy:y.subs[k].length < 100000):∀(m j:Nat) (s:List cB),j+m=y.subs[k].length->s.length+m < 300000->
  bn (T nat).G 25 3 (Qm a b i k j x y [.c (rows bu s),.c (rows af (a.calls++b.calls)),.c (rows aQ out),.c (rows af x.tests),.c (rows encS acc)])=
  bn (T nat).G 25 2 (Ci a b i (k+1) x y [.c (rows af (a.calls++b.calls)),.c (rows aQ out),.c (rows af x.tests),.c (rows encS (acc++[jg s (y.subs[k].drop j)]))])
 |0,j,s,hj,hsl=>by
  have hlt:¬((j:Int) < (y.subs[k].length:Int)):=by omega
  have hsk:=ax k (by omega)
  have hl1:=F7 s;have ha1:=L9 (acc:=acc) (x:=s) (by omega)
  have e2:au (aQ y) 1=rows encS y.subs:=rfl;rw [ai iq (t:=t25.heads[3]) rfl,aA (by omega:¬j < y.subs[k].length),A9]
  simp [-Int.natCast_add,Ci,Qm,t25,zZ,hlt,e2,jk oC,aa,hsk,hl1,ha1,ak,bM]
 |m+1,j,s,hj,hsl=>by
  have hjq:j < y.subs[k].length:=by omega
  have hlt:((j:Int) < (y.subs[k].length:Int)):=by omega
  have hsj:=ax j (by omega)
  have e2:au (aQ y) 1=rows encS y.subs:=rfl;have h62:=x62 (nat:=nat) s (by omega) y.subs[k][j].v
  have ih:=UW a b i k hk x y out acc hac oC hy m (j+1) (cond (s.any fun x=>jY x.v y.subs[k][j].v) s (s++[y.subs[k][j]])) (by omega) (by cases s.any fun x=>jY x.v y.subs[k][j].v<;>simp<;>omega)
  have om:=rJ y.subs[k][j].v y.subs[k][j].t;have ni:=AA (acc:=s) (x:=y.subs[k][j]) (by omega)
  simp only [bu] at ni om;rw [drop_at hjq,xz,ai iq (t:=t25.heads[3]) rfl];cases hq:s.any fun x=>jY x.v y.subs[k][j].v<;>rw [hq] at h62 ih<;>simp only [Ci,Qm,dG,mw,Fi,E4] at ih<;>
   simp [-Int.natCast_add,Ci,Qm,t25,zZ,hlt,e2,jk oC,fE hjq,aa,h62,hsj,om,ni,ih,bu,ak,bM,ah]
def ndS (y:Cs):Prop:=∀s∈y.subs,(s.map cB.v).Nodup
theorem acM (a b:bH) (i:Nat) (hi:i < 100000) (x y:Cs) (hx:iK x) (hy:iK y) (hn:ndS y) (hl:x.subs.length=y.subs.length) (out:List Cs) (ho:out.length < 100000):∀(m k:Nat) (acc:List (List cB)),k+m=x.subs.length->acc.length<=k->
  bn (T nat).G 25 2 (Ci a b i k x y [.c (rows af (a.calls++b.calls)),.c (rows aQ out),.c (rows af x.tests),.c (rows encS acc)])=
  cond (uj (x.subs.drop k) (y.subs.drop k)) (bn (T nat).G 25 0 (q0 a b (i+1) (out++[⟨x.tests,acc++ko (x.subs.drop k) (y.subs.drop k)⟩]))) (some (bT,[]))
 |0,k,acc,hk,hac=>by
  have hlt:¬((k:Int) < (x.subs.length:Int)):=by omega
  have hsi:=ax i (by omega)
  have hl2:=KH x.tests acc;have ha2:=Mg (acc:=out) (x:=⟨x.tests,acc⟩) (by omega)
  have e1:au (aQ x) 1=rows encS x.subs:=rfl;rw [ai iq (t:=t25.heads[2]) rfl,aA (by omega:¬k < x.subs.length)]
  simp [-Int.natCast_add,Ci,q0,t25,zZ,hlt,e1,aa,hsi,hl2,ha2,uj,ko,ak,bM]
 |m+1,k,acc,hk,hac=>by
  have hkx:k < x.subs.length:=by omega
  have oC:k < y.subs.length:=by omega
  have hlt:((k:Int) < (x.subs.length:Int)):=by omega
  have hxl:=hx.sl;have e1:au (aQ x) 1=rows encS x.subs:=rfl;have e2:au (aQ y) 1=rows encS y.subs:=rfl;have hxo:=hx.ok _ (A5 hkx);have Jr:=hy.ok _ (A5 oC);have hz:iO 13 208 (rows bu x.subs[k]) cz=some (rows bu x.subs[k]):=fe mg (by decide) (by simp only [aB];omega) (by simp only [aB];omega)
  have YA:=x61 (nat:=nat) x.subs[k] y.subs[k] hxo.1 Jr.1 hxo.2;have h3:=UW (nat:=nat) a b i k (by omega) x y out acc (by omega) oC Jr.1 y.subs[k].length 0 x.subs[k] (by omega) (by omega)
  have ih:=acM a b i hi x y hx hy hn hl out ho m (k+1) (acc++[gY x.subs[k] y.subs[k]]) (by omega) (by simp;omega)
  simp only [An,Cw _ (hn _ (A5 oC)),A6,Qm] at h3;rw [ih] at h3;rw [drop_at hkx,drop_at oC,uj,ko];rw [show acc++gY x.subs[k] y.subs[k]::ko (x.subs.drop (k+1)) (y.subs.drop (k+1))=acc++[gY x.subs[k] y.subs[k]]++ko (x.subs.drop (k+1)) (y.subs.drop (k+1)) by simp]
  rw [ai iq (t:=t25.heads[2]) rfl];cases hq:agree x.subs[k] y.subs[k]<;>rw [hq] at YA
  ·simp [-Int.natCast_add,Ci,t25,zZ,hlt,e1,e2,jk hkx,jk oC,YA,aa,bT,ak,bM]
  ·simp only [dG,mw] at h3;simp [-Int.natCast_add,Ci,t25,zZ,hlt,e1,e2,jk hkx,jk oC,YA,hz,h3,aa,ak,bM]
theorem akW (a b:bH) (i:Nat) (hi:i < 100000) (x y:Cs) (hx:iK x) (hy:iK y) (hn:ndS y) (hl:x.subs.length=y.subs.length) (out:List Cs) (ho:out.length < 100000) (k:Nat):
  bn (T nat).G 25 4 (Ci a b i k x y [.c cz,.c (rows af (a.calls++b.calls)),.c (rows aQ out),.c (rows af x.tests)])=
  cond (uj (x.subs.drop k) (y.subs.drop k)) (bn (T nat).G 25 0 (q0 a b (i+1) (out++[⟨x.tests,ko (x.subs.drop k) (y.subs.drop k)⟩]))) (some (bT,[])):=by
 have e1:au (aQ x) 1=rows encS x.subs:=rfl;have e2:au (aQ y) 1=rows encS y.subs:=rfl;have hsi:=ax i (by omega)
 have es:rows encS []=cz:=rfl;by_cases h0:k < x.subs.length
 ·have oC:k < y.subs.length:=by omega
  have hlt:((k:Int) < (x.subs.length:Int)):=by omega
  have hxl:=hx.sl;have hxo:=hx.ok _ (A5 h0);have Jr:=hy.ok _ (A5 oC);have hz:iO 13 208 (rows bu x.subs[k]) cz=some (rows bu x.subs[k]):=fe mg (by decide) (by simp only [aB];omega) (by simp only [aB];omega)
  have YA:=x61 (nat:=nat) x.subs[k] y.subs[k] hxo.1 Jr.1 hxo.2;have h3:=UX (nat:=nat) a b i k (by omega) x y out [] (by simp) oC Jr.1 y.subs[k].length 0 x.subs[k] (by omega) (by omega)
  have ih:=acM (nat:=nat) a b i hi x y hx hy hn hl out ho (x.subs.length - (k+1)) (k+1) [gY x.subs[k] y.subs[k]] (by omega) (by simp)
  simp only [An,Cw _ (hn _ (A5 oC)),A6,Qm,D4,es] at h3;rw [ih] at h3;rw [drop_at h0,drop_at oC,uj,ko];rw [show gY x.subs[k] y.subs[k]::ko (x.subs.drop (k+1)) (y.subs.drop (k+1))=[gY x.subs[k] y.subs[k]]++ko (x.subs.drop (k+1)) (y.subs.drop (k+1)) by simp]
  rw [ai iq (t:=t25.heads[4]) rfl];cases hq:agree x.subs[k] y.subs[k]<;>rw [hq] at YA
  ·simp [-Int.natCast_add,Ci,t25,zZ,hlt,e1,e2,jk h0,jk oC,YA,aa,bT,ak,bM]
  ·simp only [dG,mw] at h3;simp [-Int.natCast_add,-List.cons_append,Ci,t25,zZ,hlt,e1,e2,jk h0,jk oC,YA,hz,h3,aa,ak,bM]
 ·have hlt:¬((k:Int) < (x.subs.length:Int)):=by omega
  have hl2:=Zi x.tests;have ha2:=Mg (acc:=out) (x:=⟨x.tests,[]⟩) (by omega)
  rw [ai iq (t:=t25.heads[4]) rfl,aA (by omega:¬k < x.subs.length)]
  simp [-Int.natCast_add,Ci,q0,t25,zZ,hlt,e1,aa,hsi,hl2,ha2,uj,ko,ak,bM]
theorem aft (a b:bH) (i:Nat) (x y:Cs) (hx:iK x) (hl:x.tests.length=y.tests.length) (out:List Cs):∀(m k:Nat),k+m=x.tests.length->
  bn (T nat).G 25 1 (Ci a b i k x y [.c cz,.c (rows af (a.calls++b.calls)),.c (rows aQ out),.c (rows af x.tests)])=
  cond (jv (x.tests.drop k) (y.tests.drop k)) (bn (T nat).G 25 4 (Ci a b i 0 x y [.c cz,.c (rows af (a.calls++b.calls)),.c (rows aQ out),.c (rows af x.tests)])) (some (bT,[]))
 |0,k,hk=>by
  have hlt:¬((k:Int) < (x.tests.length:Int)):=by omega
  have e1:au (aQ x) 0=rows af x.tests:=rfl;rw [ai iq (t:=t25.heads[1]) rfl,aA (by omega:¬k < x.tests.length),aA (by omega:¬k < y.tests.length)]
  simp [-Int.natCast_add,Ci,t25,zZ,hlt,e1,aa,jv,ak,bM]
 |m+1,k,hk=>by
  have hkx:k < x.tests.length:=by omega
  have oC:k < y.tests.length:=by omega
  have hlt:((k:Int) < (x.tests.length:Int)):=by omega
  have htl:=hx.tl;have hs:=ax k (by omega)
  have e1:au (aQ x) 0=rows af x.tests:=rfl;have e2:au (aQ y) 0=rows af y.tests:=rfl;have hoa:=hx.ts _ (A5 hkx);have CY:=ZZ (nat:=nat) hoa.g hoa y.tests[k];have ih:=aft a b i x y hx hl out m (k+1) (by omega)
  rw [drop_at hkx,drop_at oC,jv];simp only [Ci,dG,mw] at ih |-;rw [ai iq (t:=t25.heads[1]) rfl];cases hq:jb x.tests[k] y.tests[k]<;>rw [hq] at CY<;>simp [-Int.natCast_add,t25,zZ,hlt,e1,e2,eH hkx,eH oC,CY,hs,ih,aa,bT,ak,bM,ah]
theorem J5 (a b:bH) (h:okM a b) (hn:∀y∈b.cases,ndS y):∀(m i:Nat) (out:List Cs),i+m=a.cases.length->out.length<=i->
  bn (T nat).G 25 0 (q0 a b i out)=cond (rq (a.cases.drop i) (b.cases.drop i)) (some ([.agg (aj (GK a b (out++uh (a.cases.drop i) (b.cases.drop i)))),.one (cb true)],[])) (some (bT,[]))
 |0,i,out,hi,ho=>by
  have hlt:¬((i:Int) < (a.cases.length:Int)):=by omega
  have hm:=OE a;have ea:=bX a;have e:aj (GK a b out)=rows af (a.calls++b.calls)::rows bW (dX a.changed b.changed)::rows bW (dX a.fixed b.fixed)::([au (aj a) 3,au (aj a) 4,au (aj a) 5,au (aj a) 6,au (aj a) 7,au (aj a) 8,au (aj a) 9,au (aj a) 10,au (aj a) 11,au (aj a) 12,au (aj a) 13]++[rows aQ out,ci ((a.score:Int)+b.score)]):=by rw [hm];simp [aj,GK]
  rw [ai iq (t:=t25.heads[0]) rfl,aA (by omega:¬i < a.cases.length)]
  simp [-Int.natCast_add,q0,t25,zZ,hlt,ea,aa,rq,uh,e,ak]
 |m+1,i,out,hi,ho=>by
  have hia:i < a.cases.length:=by omega
  have hib:i < b.cases.length:=by have:=h.len;omega
  have hlt:((i:Int) < (a.cases.length:Int)):=by omega
  have hkl:=h.oa.kl;have hx:=h.oa.ks _ (A5 hia);have hy:=h.ob.ks _ (A5 hib);have hra:=og hia;have hrb:=og hib;have ea:=bX a;have eb:=bX b;have htl:=hx.tl;have hz:iO 11 176 (rows af a.cases[i].tests) cz=some (rows af a.cases[i].tests):=fe ah (by decide) (by simp only [aB];omega) (by simp only [aB];omega)
  have ih:=J5 a b h hn m (i+1) (out++[Uu a.cases[i] b.cases[i]]) (by omega) (by simp;omega)
  rw [drop_at hia,drop_at hib,rq,uh,ok2];rw [show out++Uu a.cases[i] b.cases[i]::uh (a.cases.drop (i+1)) (b.cases.drop (i+1))=out++[Uu a.cases[i] b.cases[i]]++uh (a.cases.drop (i+1)) (b.cases.drop (i+1)) by simp]
  rw [ai iq (t:=t25.heads[0]) rfl];by_cases ht:a.cases[i].tests.length=b.cases[i].tests.length
  ·by_cases hl:a.cases[i].subs.length=b.cases[i].subs.length
   ·have h1:=aft (nat:=nat) a b i a.cases[i] b.cases[i] hx ht out a.cases[i].tests.length 0 (by omega)
    have h4:=akW (nat:=nat) a b i (by omega) a.cases[i] b.cases[i] hx hy (hn _ (A5 hib)) hl out (by omega) 0
    simp only [An] at h4;rw [show (⟨a.cases[i].tests,ko a.cases[i].subs b.cases[i].subs⟩:Cs)=Uu a.cases[i] b.cases[i] from rfl,ih] at h4
    simp only [An] at h1;rw [h4] at h1;have hle:((a.cases[i].tests.length:Int)=(b.cases[i].tests.length:Int)):=by omega
    simp only [Ci,dG,mw,aQ,A6] at h1;cases hq:jv a.cases[i].tests b.cases[i].tests<;>cases hq2:uj a.cases[i].subs b.cases[i].subs<;>rw [hq,hq2] at h1<;>
     simp [-Int.natCast_add,q0,t25,zZ,hlt,ea,eb,hra,hrb,aa,<-ht,<-hl,hz,h1,bT,ak]
   ·have hle:((a.cases[i].subs.length:Int)==(b.cases[i].subs.length:Int))=false:=C1.2 (by omega)
    simp [-Int.natCast_add,q0,t25,zZ,hlt,ea,eb,hra,hrb,aa,<-ht,hle,hl,bT,ak]
  ·have hle:((a.cases[i].tests.length:Int)==(b.cases[i].tests.length:Int))=false:=C1.2 (by omega)
   simp [-Int.natCast_add,q0,t25,zZ,hlt,ea,eb,hra,hrb,aa,hle,Av ht,bT,ak]
theorem x25 (a b:bH) (ha:kU a) (hb:kU b) (sa:a.score < 100000) (sb:b.score < 100000) (hch:a.changed.length < 50000/\b.changed.length < 50000) (hfx:a.fixed.length < 50000/\b.fixed.length < 50000) (hca:a.calls.length < 50000/\b.calls.length < 50000) (hn:∀y∈b.cases,ndS y):
  bz (T nat).G 25 [.v (.agg (aj a)),.v (.agg (aj b))] []=some ((match merge a b with|none=>bT|some c=>[.agg (aj c),.one (cb true)]),[]):=by
 have h1:=x59 (nat:=nat) a.changed b.changed ha.ch hb.ch;have h2:=x59 (nat:=nat) a.changed b.fixed ha.ch hb.fx;have h3:=x59 (nat:=nat) b.changed a.fixed hb.ch ha.fx;have ea:=bX a;have eb:=bX b;have hz:iO 11 176 (rows af a.calls) cz=some (rows af a.calls):=fe ah (by decide) (by simp only [aB];omega) (by simp only [aB];omega)
 have hab:iO 11 176 (rows af b.calls) (rows af a.calls)=some (rows af (a.calls++b.calls)):=oD ah (by decide) (by simp only [aB];omega) (by simp only [aB];omega)
 have hc:=x60 (nat:=nat) a.changed b.changed hch.1 hch.2;have hf:=x60 (nat:=nat) a.fixed b.fixed hfx.1 hfx.2;have hsc:cZ .add false (ci a.score) (ci b.score)=some (ci ((a.score:Int)+b.score)):=eO (by omega) (by omega)
 rw [si] at h1 h2 h3;rw [aG iq,merge,xe];cases hq1:apart a.changed b.changed<;>rw [hq1] at h1
 ·cases hq2:apart a.changed b.fixed<;>rw [hq2] at h2
  ·simp [t25,zZ,dU,fu,h1,h2,bT,ak]
  ·cases hq3:apart b.changed a.fixed<;>rw [hq3] at h3
   ·simp [t25,zZ,dU,fu,h1,h2,h3,bT,ak]
   ·by_cases hl:a.cases.length=b.cases.length
    ·have hp:=J5 (nat:=nat) a b ⟨ha,hb,sa,sb,hl,hch,hfx,hca⟩ hn a.cases.length 0 [] (by omega) (by simp)
     simp only [An,D4,q0,dG,mw,A6,show rows aQ []=cz from rfl] at hp
     cases hq4:rq a.cases b.cases<;>rw [hq4] at hp<;>
      simp [t25,zZ,Lm,dU,fu,BI,ea,eb,h1,h2,h3,aa,<-hl,hz,hab,hc,hf,hsc,hp,ak,GK]
    ·have hle:((a.cases.length:Int)==(b.cases.length:Int))=false:=C1.2 (by omega)
     simp [t25,zZ,dU,fu,ea,eb,h1,h2,h3,aa,hle,hl,bT,ak]
 ·simp [t25,zZ,dU,fu,h1,bT,ak]
end
end Go.Ey.Pr
set_option maxHeartbeats 4000000
namespace Go.Ey.Pr
open Go.Ey Go.Ey.Seat
set_option maxRecDepth 100000
section
variable {nat:Nat->List V->Option (List V)}
def t124:bO:=⟨[.one,.one],[],
 .fG (.len false (.v 0)) <|
 .fG (.len false (.v 1)) <|
 .fG (.bin .neq false (.v 2) (.v 3)) <|
 .ite (.v 4)
 (.ret [(.one (.k (.bool false)))] [])
 (.goto 0 [(.c (.v 0)),(.c (.v 1)),(.c (.k (.int .i64 0)))]),
 [.fG (.len false (.v 0)) <|
 .fG (.bin .lss false (.v 2) (.v 3)) <|
 .ite (.v 4)
 (.row 13 (.v 0) (.v 2) <|
 .row 13 (.v 1) (.v 2) <|
 .fG (.eqs [1,1] true (.lit [(.n 5 0),(.n 5 1)]) (.lit [(.n 6 0),(.n 6 1)])) <|
 .ite (.v 7)
 (.ret [(.one (.k (.bool false)))] [])
 (.row 13 (.v 0) (.v 2) <|
 .row 13 (.v 1) (.v 2) <|
 .call 49 [(.v (.agg (.lit [(.n 8 2),(.n 8 3),(.n 8 4),(.n 8 5),(.n 8 6),(.n 8 7),(.n 8 8),(.n 8 9),(.n 8 10),(.n 8 11),(.n 8 12)]))),(.v (.agg (.lit [(.n 9 2),(.n 9 3),(.n 9 4),(.n 9 5),(.n 9 6),(.n 9 7),(.n 9 8),(.n 9 9),(.n 9 10),(.n 9 11),(.n 9 12)])))] [] [none] [] <|
 .fG (.un .not (.v 10)) <|
 .ite (.v 11)
 (.ret [(.one (.k (.bool false)))] [])
 (.fG (.bin .add false (.v 2) (.k (.int .i64 1))) <|
 .goto 0 [(.c (.v 0)),(.c (.v 1)),(.c (.v 12))])))
 (.ret [(.one (.k (.bool true)))] [])]⟩
theorem SA:(T nat).G.fn 124=some t124:=by kernel_rfl
end
end Go.Ey.Pr
set_option maxHeartbeats 4000000
namespace Go.Ey.Pr
open Go Go.Ey Go.Ey.Seat Go.RowKit Go.Proofs
section
variable {nat:Nat->List V->Option (List V)}
theorem x47 (ts:List Tm) (hm:ts.length < 100000) (ho:∀t∈ts,GA t):bz (T nat).G 47 [.v (.one (rows af ts)),.v (.one (rows af ts))] []=some yes:=by
 have hl:∀(m k:Nat),k+m=ts.length->bn (T nat).G 47 0 [.c (rows af ts),.c (rows af ts),.c (ci k)]=some yes:=by
  intro m;induction m with
  |zero=>
   intro k hk;have hlt:¬((k:Int) < (ts.length:Int)):=by omega
   rw [ai Ii (t:=t47.heads[0]) rfl];simp [-Int.natCast_add,t47,zZ,hlt,aa,yes]
  |succ m ih=>
   intro k hk;have hkr:k < ts.length:=by omega
   have hlt:((k:Int) < (ts.length:Int)):=by omega
   have hs:=ax k (by omega)
   have ih:=ih (k+1) (by omega)
   have hoa:=ho _ (A5 hkr);have CY:=ZZ (nat:=nat) hoa.1 hoa.2 ts[k];rw [ze] at CY;rw [ai Ii (t:=t47.heads[0]) rfl];simp [-Int.natCast_add,t47,zZ,hlt,aa,eH hkr,CY,hs,ih,ah]
 have h:=hl ts.length 0 (by omega)
 simp only [A6] at h;rw [aG Ii];simp [t47,zZ,aa,h]
theorem x48 (xs:List bq) (hm:xs.length < 100000):bz (T nat).G 48 [.v (.one (rows bW xs)),.v (.one (rows bW xs))] []=some yes:=by
 have hl:∀(m k:Nat),k+m=xs.length->bn (T nat).G 48 0 [.c (rows bW xs),.c (rows bW xs),.c (ci k)]=some yes:=by
  intro m;induction m with
  |zero=>
   intro k hk;have hlt:¬((k:Int) < (xs.length:Int)):=by omega
   rw [ai Zq (t:=t48.heads[0]) rfl];simp [-Int.natCast_add,t48,zZ,hlt,aa,yes]
  |succ m ih=>
   intro k hk;have hkr:k < xs.length:=by omega
   have hlt:((k:Int) < (xs.length:Int)):=by omega
   have hs:=ax k (by omega)
   have ih:=ih (k+1) (by omega)
   have hr:eZ 2 (rows bW xs) (ci k)=some [cs xs[k].1,cs xs[k].2]:=kC hkr;have he:wh [1,1] true [cs xs[k].1,cs xs[k].2] [cs xs[k].1,cs xs[k].2]=some (cb false):=by rw [jX];simp
   rw [ai Zq (t:=t48.heads[0]) rfl];simp [-Int.natCast_add,t48,zZ,hlt,aa,hr,he,hs,ih]
 have h:=hl xs.length 0 (by omega)
 simp only [A6] at h;rw [aG Zq];simp [t48,zZ,aa,h]
theorem asf (s:List cB) (hm:s.length < 100000) (ho:Ac s):bz (T nat).G 124 [.v (.one (rows bu s)),.v (.one (rows bu s))] []=some yes:=by
 have hl:∀(m k:Nat),k+m=s.length->bn (T nat).G 124 0 [.c (rows bu s),.c (rows bu s),.c (ci k)]=some yes:=by
  intro m;induction m with
  |zero=>
   intro k hk;have hlt:¬((k:Int) < (s.length:Int)):=by omega
   rw [ai SA (t:=t124.heads[0]) rfl];simp [-Int.natCast_add,t124,zZ,hlt,aa,yes]
  |succ m ih=>
   intro k hk;have hkr:k < s.length:=by omega
   have hlt:((k:Int) < (s.length:Int)):=by omega
   have hs:=ax k (by omega)
   have ih:=ih (k+1) (by omega)
   have hoa:=ho _ (A5 hkr);have CY:=ZZ (nat:=nat) hoa.1 hoa.2 s[k].t;rw [ze] at CY;have n1:=kJ s[k].t;have he:∀b,wh [1,1] b [cs s[k].v.1,cs s[k].v.2] [cs s[k].v.1,cs s[k].v.2]=some (cb (!b)):=fun b=>by rw [jX];cases b<;>simp
   rw [ai SA (t:=t124.heads[0]) rfl];simp [-Int.natCast_add,t124,zZ,hlt,aa,fE hkr,he,n1,CY,hs,ih,ah]
 have h:=hl s.length 0 (by omega)
 simp only [A6] at h;rw [aG SA];simp [t124,zZ,aa,h]
theorem al2 {l:List Tm} (h:Al l):∀t∈l,GA t:=fun t ht=>C8 (h t ht)
theorem x46 (x:Cs) (hx:iK x):bz (T nat).G 46 [.v (.agg (aQ x)),.v (.agg (aQ x))] []=some yes:=by
 have hl:∀(m k:Nat),k+m=x.subs.length->bn (T nat).G 46 0 [.c (ci k),.l (aQ x),.l (aQ x)]=some yes:=by
  intro m;induction m with
  |zero=>
   intro k hk;have hlt:¬((k:Int) < (x.subs.length:Int)):=by omega
   rw [ai Zv (t:=t46.heads[0]) rfl];simp [-Int.natCast_add,t46,zZ,hlt,aQ,aa,yes]
  |succ m ih=>
   intro k hk;have hkr:k < x.subs.length:=by omega
   have hlt:((k:Int) < (x.subs.length:Int)):=by omega
   have hsl:=hx.sl;have hs:=ax k (by omega)
   have ih:=ih (k+1) (by omega)
   have hxo:=hx.ok _ (A5 hkr);have h1:=asf (nat:=nat) x.subs[k] hxo.1 hxo.2;simp only [yes] at h1;simp only [aQ] at ih |-;rw [ai Zv (t:=t46.heads[0]) rfl];simp [-Int.natCast_add,t46,zZ,hlt,aa,jk hkr,h1,hs,ih]
 have h:=hl x.subs.length 0 (by omega)
 have h47:=x47 (nat:=nat) x.tests hx.tl (al2 hx.ts);simp only [yes] at h47;simp only [A6,aQ] at h;rw [aG Zv];simp [t46,zZ,aQ,aa,h47,h]
theorem x16 (c:bH) (hc:kU c) (ho:∀t∈c.calls,GA t) (hm:GA c.measure):bz (T nat).G 16 [.v (.agg (aj c)),.v (.agg (aj c))] []=some yes:=by
 have e14:=bX c;have eM:=OE c;have hl:∀(m k:Nat),k+m=c.cases.length->bn (T nat).G 16 0 [.c (ci k),.l (aj c),.l (aj c)]=some yes:=by
  intro m;induction m with
  |zero=>
   intro k hk;have hlt:¬((k:Int) < (c.cases.length:Int)):=by omega
   have h47:=x47 (nat:=nat) c.calls hc.ca ho;have h48:=x48 (nat:=nat) c.changed hc.ch;have h48':=x48 (nat:=nat) c.fixed hc.fx;have CY:=ZZ (nat:=nat) hm.1 hm.2 c.measure;rw [ze] at CY;simp only [yes] at h47 h48 h48';rw [ai Ox (t:=t16.heads[0]) rfl];simp [-Int.natCast_add,t16,zZ,hlt,e14,Lm,dU,fu,eM,h47,h48,h48',CY,aa,yes,ak]
  |succ m ih=>
   intro k hk;have hkr:k < c.cases.length:=by omega
   have hlt:((k:Int) < (c.cases.length:Int)):=by omega
   have hkl:=hc.kl;have hs:=ax k (by omega)
   have ih:=ih (k+1) (by omega)
   have h1:=x46 (nat:=nat) c.cases[k] (hc.ks _ (A5 hkr));simp only [yes,aQ] at h1;rw [ai Ox (t:=t16.heads[0]) rfl];simp [-Int.natCast_add,t16,zZ,hlt,e14,aa,og hkr,h1,hs,ih,ak]
 have h:=hl c.cases.length 0 (by omega)
 simp only [A6] at h;rw [aG Ox];simp [t16,zZ,e14,BI,aa,h,ak]
end
end Go.Ey.Pr
set_option maxHeartbeats 4000000
namespace Go.Ey.Pr
open Go Go.Ey Go.Ey.Seat Go.RowKit Go.Proofs
section
variable {nat:Nat->List V->Option (List V)}
theorem aq0 {a b:bH} {n m:Nat} (ha:okW n a) (hb:okW m b) (hn:n<=40000) (hm:m<=40000):bz (T nat).G 25 [.v (.agg (aj a)),.v (.agg (aj b))] []=some ((match merge a b with|none=>bT|some c=>[.agg (aj c),.one (cb true)]),[]):=
 x25 a b (ha.cd hn) (hb.cd hm) (by have:=ha.sc;omega) (by have:=hb.sc;omega) ⟨by have:=ha.ch;omega,by have:=hb.ch;omega⟩ ⟨by have:=ha.fx;omega,by have:=hb.fx;omega⟩ ⟨by have:=ha.ca;omega,by have:=hb.ca;omega⟩ fun y hy s hs=>((hb.ks y hy).ok s hs).2.1
theorem ast {a b:bH} (ha:Ck a) (hb:Ck b):bz (T nat).G 25 [.v (.agg (aj a)),.v (.agg (aj b))] []=some ((match merge a b with|none=>bT|some c=>[.agg (aj c),.one (cb true)]),[]):=
 aq0 ha.w hb.w (by omega) (by omega)
theorem asM:bz (T nat).G 49 [.v (.agg zTm),.v (.agg zTm)] []=some yes:=by
 have aoy:bz (T nat).G 125 [.v (.agg [ci 0,ce,ce,ce,ce,ce,cz]),.v (.agg [ci 0,ce,ce,ce,ce,ce,cz])] []=some yes:=by
  have h0:bn (T nat).G 125 0 [.c (ci 0),.l [ci 0,ce,ce,ce,ce,ce,cz],.l [ci 0,ce,ce,ce,ce,ce,cz]]=some yes:=by rw [ai oZ (t:=t125.heads[0]) rfl];simp [t125,zZ,yes]
  simp only [yes] at h0;rw [aG oZ];simp [t125,zZ,h0,yes]
 have anE:=af1 (nat:=nat);simp only [yes] at aoy anE;rw [aG Ua];simp [t49,zZ,zTm,aoy,anE,yes]
theorem aqO:bz (T nat).G 16 [.v (.agg [cz,cz,cz,ci 0,ce,ce,ci 0,ce,ce,ce,ce,ce,cz,cz,cz,ci 0]),.v (.agg [cz,cz,cz,ci 0,ce,ce,ci 0,ce,ce,ce,ce,ce,cz,cz,cz,ci 0])] []=some yes:=by
 have h47:=x47 (nat:=nat) [] (by simp) (fun t ht=>by cases ht)
 have h48:=x48 (nat:=nat) [] (by simp)
 have CY:=asM (nat:=nat);simp only [show rows af []=cz from rfl,show rows bW []=cz from rfl,yes,zTm] at h47 h48 CY
 have h0:bn (T nat).G 16 0 [.c (ci 0),.l [cz,cz,cz,ci 0,ce,ce,ci 0,ce,ce,ce,ce,ce,cz,cz,cz,ci 0],.l [cz,cz,cz,ci 0,ce,ce,ci 0,ce,ce,ce,ce,ce,cz,cz,cz,ci 0]]=some yes:=by rw [ai Ox (t:=t16.heads[0]) rfl];simp [t16,zZ,h47,h48,CY,yes]
 rw [aG Ox];simp [t16,zZ,h0]
theorem aop (l:List bH) (hl:l.length < 100000) (h:∀c∈l,Ck c) (i:Nat) (hi:i < l.length):∀(m k:Nat),k+m=l.length->
  bn (T nat).G 5 1 [.c (rows aj l),.c (ci i),.c (ci k)]=bn (T nat).G 5 0 [.c (rows aj l),.c (ci ((i+1:Nat):Int))]
 |0,k,hk=>by
  have hlt:¬((k:Int) < (l.length:Int)):=by omega
  have hs:=ax i (by omega)
  rw [ai Nr (t:=t5.heads[1]) rfl];simp [-Int.natCast_add,t5,zZ,hlt,aa,hs]
 |m+1,k,hk=>by
  have hkr:k < l.length:=by omega
  have hlt:((k:Int) < (l.length:Int)):=by omega
  have hs:=ax i (by omega)
  have hsk:=ax k (by omega)
  have ha:=h _ (A5 hi);have hb:=h _ (A5 hkr);by_cases h6:((k:Int) < 6)
  ·have h24:=amY (nat:=nat) ha hb;have h25:=ast (nat:=nat) ha hb;have h26:=x26 (nat:=nat) l[i] l[k] ha.cd hb.cd;have h27:=x27 (nat:=nat) l[i] l[k] ha.cd hb.cd;have hne:∀b:Bool,cZ .neq true (cb b) (cb b)=some (cb false):=fun b=>by cases b<;>rfl
   have ih:=aop l hl h i hi m (k+1) (by omega)
   cases hm:merge l[i] l[k] with
   |none=>
    rw [hm] at h24 h25;have h16:=aqO (nat:=nat);simp only [bT] at h24 h25;simp only [yes] at h16;rw [ai Nr (t:=t5.heads[1]) rfl];simp [-Int.natCast_add,t5,zZ,hlt,h6,aa,gp hi,gp hkr,h24,h25,h16,h26,h27,hne,hsk,ih,ak]
   |some c=>
    rw [hm] at h24 h25;have hw:=Tk ha.w hb.w hm;have h16:=x16 (nat:=nat) c (hw.cd (by omega)) hw.co hw.mo
    simp only [yes] at h16;rw [ai Nr (t:=t5.heads[1]) rfl];simp [-Int.natCast_add,t5,zZ,hlt,h6,aa,gp hi,gp hkr,h24,h25,h16,h26,h27,hne,hsk,ih,ak]
  ·rw [ai Nr (t:=t5.heads[1]) rfl];simp [-Int.natCast_add,t5,zZ,hlt,h6,aa,hs]
theorem adC (l:List bH) (hl:l.length < 100000) (h:∀c∈l,Ck c):∀(m i:Nat),i+m=l.length->bn (T nat).G 5 0 [.c (rows aj l),.c (ci i)]=some yes
 |0,i,hi=>by
  have hlt:¬((i:Int) < (l.length:Int)):=by omega
  rw [ai Nr (t:=t5.heads[0]) rfl];simp [-Int.natCast_add,t5,zZ,hlt,aa,yes]
 |m+1,i,hi=>by
  have hir:i < l.length:=by omega
  have hlt:((i:Int) < (l.length:Int)):=by omega
  have ih:=adC l hl h m (i+1) (by omega)
  have hin:=aop (nat:=nat) l hl h i hir l.length 0 (by omega)
  simp only [A6] at hin;rw [ai Nr (t:=t5.heads[0]) rfl];by_cases h6:((i:Int) < 6)
  ·simp [-Int.natCast_add,t5,zZ,hlt,h6,aa,hin,ih]
  ·simp [-Int.natCast_add,t5,zZ,hlt,h6,aa,yes]
theorem x5 (na:jq nat) (hn:nS nat) {w:C} (hw:RK Hr w) (GG:bz (T nat).G 10 [.v (.one (.lit (.int .u32 0)))] []=some ([.one w],[])) (hsg:U2 nat w Ck) (h9:bz (T nat).G 9 [] []=some yes) (bs:List UInt8):
  bz (T nat).G 5 [.v (.one (rows wQ bs))] []=some yes:=by
 simp only [yes] at h9;have hlen:lN false (rows wQ bs)=some (ci bs.length):=rfl;rw [aG Nr];by_cases hb:(60:Int) < (bs.length:Int)
 ·simp [t5,zZ,h9,hlen,hb,yes]
 ·obtain ⟨l,h23,hl,hP⟩:=x23 na hn hw GG hsg bs (by omega)
  have h0:=adC (nat:=nat) l (by omega) hP l.length 0 (by omega)
  simp only [A6] at h0;simp [t5,zZ,h9,hlen,hb,h23,h0]
end
end Go.Ey.Pr
set_option maxHeartbeats 4000000
namespace Go.Ey.Pr
open Go Go.Ey Go.Ey.Seat Go.RowKit Go.Proofs
theorem aqP (bs:List UInt8):oq PP 5 [.one (rows wQ bs)] [.one (cb true)]:=by
 have hn:=agr Bi fun h=> .inl h
 obtain ⟨w,hw,GG⟩:=SN hn;exact Bi.seat.fn (by kernel_rfl) (x5 (Oh Bi id) hn hw GG (akM hn (Sc Bi id) (OM Bi id) hw) (amc Bi id) bs)
end Go.Ey.Pr
namespace Go.Proofs.YtolnnaanmfnkjaaGreatDoor.OB
open Go.Proofs.YtolnnaanmfnkjaaGreatDoor
open Go
set_option linter.unusedVariables false
theorem fD:Tryz.prog.closure 5=[5,9,10,34,78,141,142,140,182,183,211,246,247,212,248,249,275,285,250,251,252,253,254,194,228,267,229,230,268,269,270,231,255,184,160,213,256,152,80,161,137,162,214,185,215,79,143,186,187,125,95,94,144,188,216,257,276,138,53,217,258,151,218,259,277,219,220,221,222,260,278,279,280,147,191,227,266,283,289,290,298,297,299,291,292,300,301,318,319,159,262,261,281,286,106,155,190,101,156,157,92,287,288,295,307,308,309,323,310,311,324,312,313,325,296,314,327,329,326,315,316,328,330,331,332,333,317,265,282,223,54,189,224,263,150,225,264,226,145,81,146,35,19,13,18,52,82,83,85,50,21,84,86,36,87,88,148,93,37,89,149,192,49,126,90,91,96,153,97,154,193,98,99,44,119,100,102,158,33,40,28,14,42,108,109,163,195,232,271,196,234,272,284,293,302,294,303,320,321,304,305,322,306,233,197,164,43,110,165,166,199,198,111,112,113,167,200,236,171,205,206,242,204,237,235,273,168,201,202,73,134,132,181,203,238,239,240,114,169,170,241,274,115,116,74,136,135,117,172,118,173,67,26,63,55,64,127,177,176,209,128,130,68,24,56,57,58,31,71,131,179,210,178,180,72,133,23,11,38,39,22,103,104,105,12,41,107,15,45,65,120,121,174,207,243,175,76,208,244,245,122,77,139,59,123,25,60,61,62,16,46,47,124,48,27,66,129]:=by kernel_rfl
abbrev c:OpenClaim:=Rows.inductionPairsRow
abbrev s:ChangeSpec:=Rows.inductionPairsSpec
theorem unf:Tryz.prog.unfollowed 5=true:=by unfold Program.unfollowed;rw [fD];kernel_rfl
theorem inp:Tryz.prog.inPlace 5=["internal/abi.NoEscape"]:=by unfold Program.inPlace;rw [fD];kernel_rfl
theorem recs:Tryz.prog.recurses 5=true:=by unfold Program.recurses;rw [unf];rfl
theorem vars:Tryz.prog.varsNamed 5=["internal/strconv.uint64pow10", "math/bits.deBruijn32tab", "math/bits.deBruijn64tab", "unicode/utf8.first", "unicode/utf8.acceptRanges", "strconv.isPrint16", "strconv.isNotPrint16", "strconv.isPrint32", "strconv.isNotPrint32", "strconv.isGraphic"]:=by unfold Program.varsNamed;rw [fD];kernel_rfl
theorem named:Tryz.prog.funcNamed "lispprover/lispproverlaw37.InductionPairs"=some 5:=by kernel_rfl
theorem adg:Tryz.prog.goes 5=false:=by unfold Program.goes;rw [fD,unf];kernel_rfl
theorem goesBy:c.goesBy Tryz.prog=false:=by
 unfold OpenClaim.goesBy Program.goesAt Program.goesFrom;show ((Tryz.prog.funcNamed "lispprover/lispproverlaw37.InductionPairs").any Tryz.prog.goes||false)=false
 rw [named,Option.any_some,adg];rfl
theorem closed:joinedFacts Tryz.prog 5 Tryz.f5 s c=true:=by
 unfold joinedFacts;rw [inp,unf,recs,vars];simp only [As];refine ⟨⟨⟨⟨⟨⟨⟨⟨⟨⟨⟨⟨⟨⟨⟨⟨⟨⟨⟨⟨⟨⟨⟨⟨⟨⟨⟨⟨⟨⟨⟨?_,?_⟩,?_⟩,?_⟩,?_⟩,?_⟩,?_⟩,?_⟩,?_⟩,?_⟩,?_⟩,?_⟩,?_⟩,?_⟩,?_⟩,?_⟩,?_⟩,?_⟩,?_⟩,?_⟩,?_⟩,?_⟩,?_⟩,?_⟩,?_⟩,?_⟩,?_⟩,?_⟩,?_⟩,?_⟩,?_⟩,?_⟩
 all_goals kernel_rfl
end Go.Proofs.YtolnnaanmfnkjaaGreatDoor.OB
namespace Go.Proofs.YtolnnaanmfnkjaaGreatDoor.inductionPairs
open Go.Proofs.YtolnnaanmfnkjaaGreatDoor
open Go Go.Ey Go.Ey.Pr Go.ChangeShapes Go.WideShapes Go.ChangeAt Go.RowKit
set_option linter.unusedVariables false
theorem own:ownKnob Tryz.prog.godebug=none:=by kernel_rfl
theorem laidOut:laidOutB Tryz.prog=true:=by kernel_rfl
theorem looks:false=Tryz.prog.looks []:=by kernel_rfl
theorem mainIs:Tryz.prog.mainIs=some (true,("553e0069a973972142efee23b9f5ec7bad0651dc19b133852792b5bb8afd5c39":String).toList):=by kernel_rfl
theorem Jn:Rows.inductionPairsRow.laid=[("math/bits.deBruijn32tab",Rows.laid_math_bits_deBruijn32tab),("math/bits.deBruijn64tab",Rows.laid_math_bits_deBruijn64tab),("internal/strconv.uint64pow10",Lib.tabData .u64 Lib.pow10Tab),("unicode/utf8.acceptRanges",Lib.acceptData),("strconv.isGraphic",Rows.laid_strconv_isGraphic),("strconv.isNotPrint16",Lib.sliceData .u16 Lib.goPrintTabs.n16),("strconv.isNotPrint32",Lib.sliceData .u16 Lib.goPrintTabs.n32),("strconv.isPrint16",Lib.sliceData .u16 Lib.goPrintTabs.p16),("strconv.isPrint32",Lib.sliceData .u32 Lib.goPrintTabs.p32),("unicode/utf8.first",Lib.firstData)]:=by kernel_rfl
theorem inv (W:World) (h:laidMetH Tryz.prog Rows.inductionPairsRow.laid W):lV.Inv W.heap.size W:=by
 rw [MakeChecks.laidMetH_plain _ _ _ (by kernel_rfl),Jn] at h
 exact inv_of h
set_option maxRecDepth 100000 in
theorem lifted (os:Os) (started:os.Started) (H:Type) (enc:TypeId×Value->H):
  ReturnsInHanded {} Tryz.checked os 5 .any (fun w args=>(Rows.inductionPairsSpec.pre enc Tryz.prog Tryz.f5 [] false w args/\laidMetH Tryz.prog Rows.inductionPairsRow.laid w)/\sizedMet enc Tryz.prog Tryz.f5 (OpenSpec.ofChange Rows.inductionPairsSpec) false w args)
   (Rows.inductionPairsSpec.post enc Tryz.prog Tryz.f5 false true false false):=by
 refine returnsInHanded_of_change_and (C:=Tryz.checked) (X:=fun w _=>laidMetH Tryz.prog Rows.inductionPairsRow.laid w) (fun _ _ _ hh h=>h.of_heap hh) own started (by kernel_rfl) Tryz.func5
  (ChangeSpec.witness_shaped (enc:=enc) (C:=Tryz.checked) (os:=os) (X:=fun w _=>laidMetH Tryz.prog Rows.inductionPairsRow.laid w) false (World.laidAll Tryz.prog os Rows.inductionPairsRow.laid) #[.slice none 0 0] 8 (World.laidAll_os _ _ _) (World.shaped_of_ZipB (by kernel_rfl) (by kernel_rfl)) (by kernel_rfl) (by kernel_rfl) (by kernel_rfl)
   (by rw [MakeChecks.laidMetH_plain _ _ _ (by kernel_rfl)];exact laidMet_laidAll _ (by kernel_rfl) (by kernel_rfl))) ?_
 intro W base args ds gs before hval0 hW _ _ hL _;have hval:∀(j:Nat) t v,Tryz.f5.params[j]?=some t->args[j]?=some v->Value.okWide Tryz.prog W .any base t v:=hval0;have hW':=hW;obtain ⟨p,q,hA0,hV,rfl,hfz,hnd⟩:=hW;have hA:DataW.TrodAll enc Tryz.prog W 0 (fun _=>true) true Tryz.f5.params.toList args.toList ds p:=hA0
 rw [Tryz.params5] at hA hval;obtain ⟨v0,d0,hargs,rfl,h0⟩:=trodAll_one hA;obtain rfl:args=#[v0]:=by cases args;simp_all
 obtain ⟨rfl,rfl⟩:=trodVars_none hV;obtain ⟨a0,V3,cap0,rfl⟩:=okWide_slice Tryz.underlying22 (hval 0 22 v0 rfl rfl);have k0:=h0;have lt0:∀x∈p,x.block < W.heap.size:=by obtain ⟨m,hm⟩:=k0;exact DataW.trod_lt m _ _ _ hm
 obtain ⟨bs,hrep⟩:∃bs,gQ W (fun _ _=>True) (.one (rows wQ bs)) (.slice a0 V3 cap0):=by obtain ⟨fuel,hf⟩:=h0;obtain ⟨ccs,ha,ht⟩:=Aq 3 22 Zb fuel _ _ hf;obtain ⟨bs,rfl,_⟩:=FN ht;exact ⟨bs,ha.1⟩
 clear hA0 hval0;refine ((aqP bs).2 (fun _ _=>True) W [.slice a0 V3 cap0] (inv W hL) ⟨hrep,trivial⟩).mono fun e W' ⟨v,he,hv,Cr⟩=>?_
 subst he;have hb:v=.bool true:=hv.1;subst hb;exact ⟨_,rfl,_,_,_,[],_,[],hW',trodAll_mk1 (shut_bool Tryz.underlying4 _),(trodAll_mk1 (Below.trod laidOut (by kernel_rfl) (J1 (by kernel_rfl)) k0 Cr lt0)),rfl,Cr.frame _,fun h=>by cases h⟩
theorem over:Rows.InductionPairsSaid:=
 OpenClaim.holds_of_wide (p:=Tryz.pinned) 5 Tryz.f5 rfl rfl rfl rfl rfl rfl rfl ⟨rfl,rfl,rfl,rfl,rfl⟩ rfl rfl rfl rfl rfl OB.named Tryz.func5 OB.closed
  (J1 (by kernel_rfl)) (by unfold Func.isWrapper;first|(rw [C4 (by decide+kernel)];kernel_rfl)|(rw [Dd (by decide+kernel)];exact ⟨rfl,rfl⟩))
  (fun os started H enc _=>lifted os started H enc)
theorem params (f:FuncId) (fn:Func) (hf:Tryz.prog.funcNamed "lispprover/lispproverlaw37.InductionPairs"=some f) (hfn:Tryz.prog.funcs[f]?=some fn):false=Tryz.prog.looks []/\∀(j:Nat) t,fn.params[j]?=some t->Tryz.prog.wantsStandIn t=false:=by
 obtain rfl:f=5:=(Jx (OB.named.symm.trans hf)).symm;obtain rfl:fn=Tryz.f5:=(Jx (Tryz.func5.symm.trans hfn)).symm;refine ⟨looks,fun j t ht=>?_⟩
 rw [Tryz.params5] at ht;have h3:t=22:=by
  rcases j with _|j
  ·simpa using ht.symm
  ·simp at ht
 subst h3;exact (show Tryz.prog.wantsStandIn 22=false by kernel_rfl)
theorem proved:Rows.InductionPairsCardSaid:=
 Claim7.holds_tied_plain_at (p:=Tryz.pinned) (c:=Rows.inductionPairsRow) .later [] [.data,.data,.data,.data,.pinned,.pinned,.pinned,.pinned,.pinned,.pinned] true (true, "553e0069a973972142efee23b9f5ec7bad0651dc19b133852792b5bb8afd5c39") false
  over (fun _ h=>by cases h) (by kernel_rfl) (fun _ h=>by cases h) inductionPairs_row_tie rfl ⟨rfl,rfl⟩ mainIs rfl
  params OB.goesBy.symm
end Go.Proofs.YtolnnaanmfnkjaaGreatDoor.inductionPairs
