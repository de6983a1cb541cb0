/- A part of the proof. -/
import Derived.Test.YtpginbppmgdndaaGreatDoorY26
import Derived.Lib.LaidTab
import Derived.Shelf.LaysM
import Derived.Shelf.Strconv.Itoa3
import Derived.Shelf.Pu.ParseUintPublic10
import Derived.Lib.AtoiErrMem
set_option linter.all false
set_option maxHeartbeats 4000000
namespace Go.Ey.Pr
open Go.Ey Go.Ey.Seat
section
variable {nat:Nat→List V→Option (List V)}
theorem kInt (n:Int):C.lit (.int .i64 n)=ci n:=rfl
theorem kBool (b:Bool):C.lit (.bool b)=cb b:=rfl
theorem kStr (b:ByteArray):C.lit (.string b)=cs b:=rfl
theorem kZ:C.slice [] 0=cz:=rfl
theorem len_cz:lenC false cz=some (ci 0):=rfl
def lispB:ByteArray:=⟨#[108,105,115,112]⟩
def nilB:ByteArray:=⟨#[110,105,108]⟩
def tB:ByteArray:=⟨#[116]⟩
def quoB:ByteArray:=⟨#[113,117,111,116,101]⟩
theorem lispK:(⟨#[108,105,115,112]⟩:ByteArray)=lispB:=rfl
theorem nilK:(⟨#[110,105,108]⟩:ByteArray)=nilB:=rfl
theorem tK:(⟨#[116]⟩:ByteArray)=tB:=rfl
theorem quoK:(⟨#[113,117,111,116,101]⟩:ByteArray)=quoB:=rfl
def zS:=And.intro @bodyT.eq_1 (And.intro @entryA.eq_1 (And.intro @entryA.eq_2 (And.intro @entryA.eq_3 (And.intro @entryA.eq_4 (And.intro @entryA.eq_5 (And.intro @entryA.eq_6 (And.intro @entryB.eq_1 (And.intro @entryB.eq_2 (And.intro @entryB.eq_3 (And.intro @denT.eq_1 (And.intro @denT.eq_2 (And.intro @denT.eq_3 (And.intro @denT.eq_4 (And.intro @denT.eq_5 (And.intro @denT.eq_6 (And.intro @denT.eq_7 (And.intro @taDs.eq_1 (And.intro @taDs.eq_2 (And.intro @taD.eq_1 (And.intro @taD.eq_2 (And.intro @tvDs.eq_1 (And.intro @tvDs.eq_2 (And.intro @tvD.eq_1 (And.intro @tvD.eq_2 (And.intro @slD.eq_1 (And.intro @slD.eq_2 (And.intro @slDs.eq_1 (And.intro @slDs.eq_2 (And.intro @atC.eq_1 (And.intro @atC.eq_2 (And.intro @atC.eq_3 (And.intro @atC.eq_4 (And.intro @atCs.eq_1 (And.intro @atCs.eq_2 (And.intro @atO.eq_1 (And.intro @atO.eq_2 (And.intro @opcD.eq_1 (And.intro @opcD.eq_2 (And.intro @opcD.eq_3 (And.intro @opcD.eq_4 (And.intro @opcD.eq_5 (And.intro @opcD.eq_6 (And.intro @opcD.eq_7 (And.intro @opcD.eq_8 (And.intro @opcD.eq_9 (And.intro @opcD.eq_10 (And.intro @opcD.eq_11 (And.intro @opcD.eq_12 (And.intro @opcD.eq_13 (And.intro @opcD.eq_14 (And.intro @opcD.eq_15 (And.intro @opcD.eq_16 (And.intro @opcD.eq_17 (And.intro @getW.eq_1 (And.intro @getW.eq_2 (And.intro @getW.eq_3 (And.intro @twDs.eq_1 (And.intro @twDs.eq_2 (And.intro @twD.eq_1 (And.intro @twD.eq_2 (And.intro @sized.eq_1 (And.intro @bindVs.eq_1 (And.intro @bindVs.eq_2 (And.intro @bindVs.eq_3 (And.intro @bindBs.eq_1 (And.intro @bindBs.eq_2 (And.intro @getOne.eq_1 (And.intro @getAgg.eq_1 (And.intro @getBox.eq_1 (And.intro @nthC.eq_1 (And.intro @nthC.eq_2 (And.intro @nthC.eq_3 (And.intro @kInt (And.intro @kBool (And.intro @kStr (And.intro @kZ (And.intro @eql_ci (And.intro @neq_ci (And.intro @lss_ci (And.intro @leq_ci (And.intro @gtr_ci (And.intro @geq_ci (And.intro @eql_cs (And.intro @neq_cs (And.intro @eqs_cs (And.intro @eql_cb (And.intro @neq_cb (And.intro @not_cb (And.intro @ite_t (And.intro @ite_f (And.intro @len_cs (And.intro @len_slice (And.intro @len_cz (And.intro @lispK (And.intro @nilK (And.intro @tK (@quoK)))))))))))))))))))))))))))))))))))))))))))))))))))))))))))))))))))))))))))))))))))))))))))))))))
def oNil:Ob:=.sy lispB nilB
def oT:Ob:=.sy lispB tB
def isCons:Ob→Bool
 |.cons _ _=>true
 |_=>false
def isNilO:Ob→Bool
 |.sy p s=>decide (p=lispB) && decide (s=nilB)
 |_=>false
theorem x94 (s:ByteArray):fnT (T nat).G 94 [.v (.one (cs s))] []=some ([.agg [cs lispB,cs s]],[]):=by
 rw [fnT_eq tree94]
 simp [t94,zS]
theorem x49 (p s:ByteArray):fnT (T nat).G 49 [.v (.agg [cs p,cs s])] []=some ([.agg (enc (.sy p s))],[]):=by
 rw [fnT_eq tree49]
 simp [t49,enc,ce,zS]
theorem x119 (p s:ByteArray):fnT (T nat).G 119 [.v (.agg [cs p,cs s])] []=some ([.agg (enc (.sy p s))],[]):=by
 rw [fnT_eq tree119]
 simp [t119,enc,ce,zS]
theorem x44:fnT (T nat).G 44 [] []=some ([.agg (enc oNil)],[]):=by
 rw [fnT_eq tree44]
 simp [t44,zS,x94,x49,oNil,enc_len]
theorem x46:fnT (T nat).G 46 [] []=some ([.agg (enc oT)],[]):=by
 rw [fnT_eq tree46]
 simp [t46,zS,x94,x49,oT,enc_len]
theorem x121:fnT (T nat).G 121 [] []=some ([.agg (enc oNil)],[]):=by
 rw [fnT_eq tree121]
 simp [t121,zS,x119,oNil,enc_len]
theorem x145:fnT (T nat).G 145 [] []=some ([.agg (enc oT)],[]):=by
 rw [fnT_eq tree145]
 simp [t145,zS,x119,oT,enc_len]
theorem x19 (s:ByteArray):fnT (T nat).G 19 [.v (.one (cs s))] []=some ([.agg [cs ⟨#[117,115,101,114]⟩,cs s]],[]):=by
 rw [fnT_eq tree19]
 simp [t19,zS]
def szO:Ob→Nat
 |.cons a b=>szO a+szO b+1
 |_=>1
theorem pair0 (a b:Ob):rowC 7 (nthC (enc (.cons a b)) 6) (ci 0)=some (enc a):=(row_two _ _ (enc_len a) (enc_len b)).1
theorem pair1 (a b:Ob):rowC 7 (nthC (enc (.cons a b)) 6) (ci 1)=some (enc b):=(row_two _ _ (enc_len a) (enc_len b)).2
def eqO:Ob→Ob→Bool
 |.num n d,.num n' d'=>decide (n=n') && decide (d=d')
 |.sy p s,.sy p' s'=>decide (p=p') && decide (s=s')
 |.st t,.st t'=>decide (t=t')
 |.cons a b,.cons a' b'=>eqO a a' && eqO b b'
 |_,_=>false
theorem eqO_refl:∀o:Ob,eqO o o=true
 |.num _ _=>by simp [eqO]
 |.sy _ _=>by simp [eqO]
 |.st _=>by simp [eqO]
 |.cons a b=>by simp [eqO,eqO_refl a,eqO_refl b]
theorem add_nat (k:Nat) (h:k < 1000000):binC .add false (ci k) (ci 1)=some (ci ((k+1:Nat):Int)):=by
 rw [add_ci (by omega) (by omega)];simp
theorem len6 (a b:Ob):lenC false (nthC (enc (.cons a b)) 6)=some (ci 2):=rfl
theorem x11end (a b c d e f:C) (y:List C):hdT (T nat).G 11 0 [.c (ci 0),.l [a,b,c,d,e,f,cz],.l y]=some ([.one (cb true)],[]):=by
 rw [hdT_eq tree11 (t:=t11.heads[0]) rfl]
 simp [t11,zS]
theorem x11 (a:Ob):∀b:Ob,fnT (T nat).G 11 [.v (.agg (enc a)),.v (.agg (enc b))] []=some ([.one (cb (eqO a b))],[]):=by
 induction a with
 |num n d=>
  intro b
  rw [fnT_eq tree11]
  cases b with
  |num n' d'=>by_cases h1:n=n'<;>by_cases h2:d=d'<;>simp [t11,zS,enc,ce,eqO,h1,h2,x11end]
  |_=>simp [t11,zS,enc,ce,eqO]
 |sy p s=>
  intro b
  rw [fnT_eq tree11]
  cases b with
  |sy p' s'=>by_cases h1:p=p'<;>by_cases h2:s=s'<;>simp [t11,zS,enc,ce,eqO,h1,h2,x11end]
  |_=>simp [t11,zS,enc,ce,eqO]
 |st t=>
  intro b
  rw [fnT_eq tree11]
  cases b with
  |st t'=>by_cases h1:t=t'<;>simp [t11,zS,enc,ce,eqO,h1,x11end]
  |_=>simp [t11,zS,enc,ce,eqO]
 |cons a1 a2 ih1 ih2=>
  intro b
  cases b with
  |cons b1 b2=>
   have e2:hdT (T nat).G 11 0 [.c (ci 2),.l (enc (.cons a1 a2)),.l (enc (.cons b1 b2))]=some ([.one (cb true)],[]):=by
    rw [hdT_eq tree11 (t:=t11.heads[0]) rfl]
    simp [t11,zS,len6]
   have e1:hdT (T nat).G 11 0 [.c (ci 1),.l (enc (.cons a1 a2)),.l (enc (.cons b1 b2))]=some ([.one (cb (eqO a2 b2))],[]):=by
    rw [hdT_eq tree11 (t:=t11.heads[0]) rfl]
    cases h:eqO a2 b2<;>simp [t11,zS,pair1,ih2,h,e2,len6,add_ci]
   have e0:hdT (T nat).G 11 0 [.c (ci 0),.l (enc (.cons a1 a2)),.l (enc (.cons b1 b2))]=some ([.one (cb (eqO a1 b1 && eqO a2 b2))],[]):=by
    rw [hdT_eq tree11 (t:=t11.heads[0]) rfl]
    cases h:eqO a1 b1<;>simp [t11,zS,pair0,ih1,h,e1,len6,add_ci]
   rw [fnT_eq tree11]
   have q0:nthC (enc (.cons a1 a2)) 0=ci 4:=rfl
   have q1:∀k,k=1∨k=2∨k=3∨k=4∨k=5→nthC (enc (.cons a1 a2)) k=cs ⟨#[]⟩:=by rintro k (rfl|rfl|rfl|rfl|rfl)<;>rfl
   have p0:nthC (enc (.cons b1 b2)) 0=ci 4:=rfl
   have p1:∀k,k=1∨k=2∨k=3∨k=4∨k=5→nthC (enc (.cons b1 b2)) k=cs ⟨#[]⟩:=by rintro k (rfl|rfl|rfl|rfl|rfl)<;>rfl
   simp [t11,zS,eqO,e0,enc_len,len6,q0,q1,p0,p1]
  |_=>
   rw [fnT_eq tree11]
   simp [t11,zS,enc,ce,eqO]
end
end Go.Ey.Pr

set_option maxHeartbeats 4000000
namespace Go.Ey.Pr
open Go.Ey Go.Ey.Seat
inductive Tm where
 |var (p s:ByteArray)
 |con (o:Ob)
 |app (p s:ByteArray) (ts:List Tm)
mutual
def encT:Tm→List C
 |.var p s=>[ci 1,cs p,cs s,ci 0,ce,ce,ce,ce,ce,cz,cz]
 |.con o=>[ci 2,ce,ce,nthC (enc o) 0,nthC (enc o) 1,nthC (enc o) 2,nthC (enc o) 3,nthC (enc o) 4,nthC (enc o) 5,nthC (enc o) 6,cz]
 |.app p s ts=>[ci 3,cs p,cs s,ci 0,ce,ce,ce,ce,ce,cz,.slice (encTs ts) ts.length]
def encTs:List Tm→List C
 |[]=>[]
 |t::ts=>encT t++encTs ts
end
theorem encTs_flat:∀l:List Tm,encTs l=l.flatMap encT
 |[]=>rfl
 |t::ts=>by rw [encTs,List.flatMap_cons,encTs_flat ts]
theorem encT_len (t:Tm):(encT t).length=11:=by cases t<;>rfl
theorem encT_app (p s:ByteArray) (ts:List Tm):encT (.app p s ts)=[ci 3,cs p,cs s,ci 0,ce,ce,ce,ce,ce,cz,rows encT ts]:=by
 simp [encT,rows,encTs_flat]
def zT:List C:=[ci 0,ce,ce,ci 0,ce,ce,ce,ce,ce,cz,cz]
theorem nth11 (t:Tm):[nthC (encT t) 0,nthC (encT t) 1,nthC (encT t) 2,nthC (encT t) 3,nthC (encT t) 4,nthC (encT t) 5,nthC (encT t) 6,nthC (encT t) 7,nthC (encT t) 8,nthC (encT t) 9,nthC (encT t) 10]=encT t:=by cases t<;>rfl
theorem lits11 (t:Tm):litsC 11 1 [nthC (encT t) 0,nthC (encT t) 1,nthC (encT t) 2,nthC (encT t) 3,nthC (encT t) 4,nthC (encT t) 5,nthC (encT t) 6,nthC (encT t) 7,nthC (encT t) 8,nthC (encT t) 9,nthC (encT t) 10]=some (.slice (encT t) 1):=by
 rw [nth11];simp [litsC,encT_len,roomMax]
theorem app11 {acc:List Tm} {x:Tm} (h:acc.length < 1000000):appC 11 176 (.slice (encT x) 1) (rows encT acc)=some (rows encT (acc++[x])):=
 app_row encT_len (by decide) (by simp only [roomMax];omega) (by simp only [roomMax];omega)
def eB:ByteArray:=⟨#[]⟩
theorem emK:cs ⟨#[]⟩=ce:=rfl
theorem eql_ce1 (b:ByteArray):binC .eql false ce (cs b)=some (cb (decide (eB=b))):=eql_cs _ _
theorem eql_ce2 (b:ByteArray):binC .eql false (cs b) ce=some (cb (decide (b=eB))):=eql_cs _ _
theorem neq_ce1 (b:ByteArray):binC .neq false ce (cs b)=some (cb (!decide (eB=b))):=neq_cs _ _
theorem neq_ce2 (b:ByteArray):binC .neq false (cs b) ce=some (cb (!decide (b=eB))):=neq_cs _ _
theorem eql_cee:binC .eql false ce ce=some (cb true):=by simp [ce,eql_cs]
theorem neq_cee:binC .neq false ce ce=some (cb false):=by simp [ce,neq_cs]
theorem eqs_ce1 (neg:Bool) (a b:ByteArray):eqsC [1,1] neg [ce,ce] [cs a,cs b]=some (cb (if neg then !(decide (eB=a) && decide (eB=b)) else decide (eB=a) && decide (eB=b))):=eqs_cs _ _ _ _ _
theorem eqs_ce2 (neg:Bool) (a b:ByteArray):eqsC [1,1] neg [cs a,cs b] [ce,ce]=some (cb (if neg then !(decide (a=eB) && decide (b=eB)) else decide (a=eB) && decide (b=eB))):=eqs_cs _ _ _ _ _
theorem eqs_ce3 (neg:Bool):eqsC [1,1] neg [ce,ce] [ce,ce]=some (cb (!neg)):=by cases neg<;>simp [ce,eqs_cs]
def zZ:=And.intro zS (And.intro @emK (And.intro @eql_ce1 (And.intro @eql_ce2 (And.intro @neq_ce1 (And.intro @neq_ce2 (And.intro @eql_cee (And.intro @neq_cee (And.intro @eqs_ce1 (And.intro @eqs_ce2 (@eqs_ce3))))))))))
section
variable {nat:Nat→List V→Option (List V)}
theorem x169 (p s:ByteArray):fnT (T nat).G 169 [.v (.agg [cs p,cs s])] []=some ([.agg (encT (.var p s))],[]):=by
 rw [fnT_eq tree169]
 simp [t169,zZ,encT]
theorem x87 (p s:ByteArray):fnT (T nat).G 87 [.v (.agg [cs p,cs s])] []=some ([.agg (encT (.var p s))],[]):=by
 rw [fnT_eq tree87]
 simp [t87,zZ,encT]
theorem x151 (o:Ob):fnT (T nat).G 151 [.v (.agg (enc o))] []=some ([.agg (encT (.con o))],[]):=by
 rw [fnT_eq tree151]
 simp [t151,zZ,encT,enc_len]
theorem x83 (o:Ob):fnT (T nat).G 83 [.v (.agg (enc o))] []=some ([.agg (encT (.con o))],[]):=by
 rw [fnT_eq tree83]
 simp [t83,zZ,encT,enc_len]
theorem x136 (p s:ByteArray) (ts:List Tm):fnT (T nat).G 136 [.v (.agg [cs p,cs s]),.v (.one (rows encT ts))] []=some ([.agg (encT (.app p s ts))],[]):=by
 rw [fnT_eq tree136]
 simp [t136,zZ,encT_app]
theorem x72 (p s:ByteArray) (ts:List Tm):fnT (T nat).G 72 [.v (.agg [cs p,cs s]),.v (.one (rows encT ts))] []=some ([.agg (encT (.app p s ts))],[]):=by
 rw [fnT_eq tree72]
 simp [t72,zZ,encT_app]
end
end Go.Ey.Pr

set_option maxHeartbeats 4000000
namespace Go.Ey.Pr
open Go.Ey Go.Ey.Seat
section
variable {nat:Nat→List V→Option (List V)}
end
end Go.Ey.Pr

set_option maxHeartbeats 4000000
namespace Go.Ey.Pr
open Go.Ey Go.Ey.Seat
def heads:List ByteArray:=[⟨#[99,97,114]⟩,⟨#[99,100,114]⟩,⟨#[99,111,110,115]⟩,⟨#[99,111,110,115,112]⟩,⟨#[110,111,116]⟩,⟨#[101,113,117,97,108]⟩,⟨#[105,102]⟩,⟨#[98,105,110,97,114,121,45,43]⟩,⟨#[60]⟩,⟨#[105,110,116,101,103,101,114,112]⟩,⟨#[108,101,110]⟩,⟨#[98,105,110,97,114,121,45,97,112,112,101,110,100]⟩,⟨#[114,101,118]⟩,⟨#[116,114,117,101,45,108,105,115,116,112]⟩,⟨#[110,97,116,112]⟩,⟨#[112,111,115,112]⟩,⟨#[117,110,97,114,121,45,45]⟩,⟨#[98,105,110,97,114,121,45,42]⟩,⟨#[105,109,112,108,105,101,115]⟩,⟨#[115,121,109,98,111,108,112]⟩,⟨#[114,97,116,105,111,110,97,108,112]⟩,⟨#[102,105,120]⟩,⟨#[105,102,102]⟩,⟨#[110,102,105,120]⟩,⟨#[122,112]⟩]
def owns:List ByteArray:=[⟨#[100,117,98]⟩,⟨#[115,97,109,101,45,108,101,110]⟩,⟨#[112,97,105,114,115]⟩,⟨#[100,117,98,115]⟩,⟨#[116,114,101,101]⟩,⟨#[101,118,101,110,115]⟩,⟨#[111,100,100,115]⟩,⟨#[120,111,114,50]⟩]
def usr:ByteArray:=⟨#[117,115,101,114]⟩
def yes:R:=([.one (cb true)],[])
theorem szO_pos (o:Ob):1≤szO o:=by cases o<;>simp [szO]
section
variable {nat:Nat→List V→Option (List V)}
end
end Go.Ey.Pr

set_option maxHeartbeats 4000000
namespace Go.Ey.Pr
open Go.Ey Go.Ey.Seat
mutual
def nodesT:Tm→Nat
 |.var _ _=>1
 |.con o=>szO o
 |.app _ _ ts=>1+nodesTs ts
def nodesTs:List Tm→Nat
 |[]=>0
 |t::ts=>nodesT t+nodesTs ts
end
theorem nodesT_pos (t:Tm):1≤nodesT t:=by
 cases t with
 |con o=>simpa [nodesT] using szO_pos o
 |_=>simp [nodesT]
theorem drop_at {α:Type} {l:List α} {k:Nat} (h:k < l.length):l.drop k=l[k]::l.drop (k+1):=List.drop_eq_getElem_cons h
theorem drop_end {α:Type} {l:List α} {k:Nat} (h:¬k < l.length):l.drop k=[]:=List.drop_eq_nil_of_le (by omega)
theorem row11 {ts:List Tm} {k:Nat} (h:k < ts.length):rowC 11 (rows encT ts) (ci k)=some (encT ts[k]):=row_at encT_len (List.getElem?_eq_getElem h)
theorem len11 (ts:List Tm):lenC false (rows encT ts)=some (ci ts.length):=rfl
section
variable {nat:Nat→List V→Option (List V)}
theorem len_nodes:∀ts:List Tm,ts.length≤nodesTs ts
 |[]=>Nat.zero_le _
 |t::ts=>by
  have:=nodesT_pos t
  have:=len_nodes ts
  simp only [List.length_cons,nodesTs]
  omega
theorem mem_nodes:∀{ts:List Tm} {t:Tm},t∈ts→nodesT t≤nodesTs ts
 |x::ts,t,h=>by
  simp only [nodesTs]
  rcases List.mem_cons.1 h with rfl|h
  ·omega
  ·have:=mem_nodes h;omega
end
end Go.Ey.Pr

set_option maxHeartbeats 4000000
namespace Go.Ey.Pr
open Go.Ey Go.Ey.Seat
section
variable {nat:Nat→List V→Option (List V)}
theorem x11z:fnT (T nat).G 11 [.v (.agg [ci 0,ce,ce,ce,ce,ce,cz]),.v (.agg [ci 0,ce,ce,ce,ce,ce,cz])] []=some yes:=by
 rw [fnT_eq tree11]
 simp [t11,zZ,yes,x11end]
end
end Go.Ey.Pr

set_option maxHeartbeats 4000000
namespace Go.Ey.Pr
open Go.Ey Go.Ey.Seat
mutual
def eqT:Tm→Tm→Bool
 |.var p s,.var p' s'=>decide (p=p') && decide (s=s')
 |.con o,.con o'=>eqO o o'
 |.app p s ts,.app p' s' ts'=>decide (p=p') && decide (s=s') && eqTs ts ts'
 |_,_=>false
def eqTs:List Tm→List Tm→Bool
 |[],[]=>true
 |t::ts,t'::ts'=>eqT t t' && eqTs ts ts'
 |_,_=>false
end
theorem eqTs_len:∀{a b:List Tm},a.length≠b.length→eqTs a b=false
 |[],[],h=>absurd rfl h
 |[],_::_,_=>rfl
 |_::_,[],_=>rfl
 |x::a,y::b,h=>by
  rw [eqTs,eqTs_len (a:=a) (b:=b) (by simpa using h),Bool.and_false]
section
variable {nat:Nat→List V→Option (List V)}
theorem x146loop (us bs:List Tm) (hm:us.length < 100000) (he:us.length=bs.length) (ih:∀a∈us,∀b,fnT (T nat).G 84 [.v (.agg (encT a)),.v (.agg (encT b))] []=some ([.one (cb (eqT a b))],[])):∀(m k:Nat),k+m=us.length→
  hdT (T nat).G 146 0 [.c (rows encT us),.c (rows encT bs),.c (ci k)]=some ([.one (cb (eqTs (us.drop k) (bs.drop k)))],[])
 |0,k,hk=>by
  have hlt:¬((k:Int) < (us.length:Int)):=by omega
  rw [hdT_eq tree146 (t:=t146.heads[0]) rfl,drop_end (by omega),drop_end (by omega)]
  simp [t146,zZ,hlt,eqTs,len11]
 |m+1,k,hk=>by
  have hkr:k < us.length:=by omega
  have hkb:k < bs.length:=by omega
  have hlt:((k:Int) < (us.length:Int)):=by omega
  have hc:=ih us[k] (List.getElem_mem hkr) bs[k]
  have hs:=add_nat k (by omega)
  have hi:=x146loop us bs hm he ih m (k+1) (by omega)
  rw [drop_at hkr,drop_at hkb,hdT_eq tree146 (t:=t146.heads[0]) rfl]
  cases hb:eqT us[k] bs[k]<;>rw [hb] at hc<;>simp [-Int.natCast_add,t146,zZ,hlt,len11,eqTs,row11 hkr,row11 hkb,hc,hs,hi,encT_len,hb]
theorem x146 (us bs:List Tm) (hm:us.length < 100000) (ih:∀a∈us,∀b,fnT (T nat).G 84 [.v (.agg (encT a)),.v (.agg (encT b))] []=some ([.one (cb (eqT a b))],[])):
  fnT (T nat).G 146 [.v (.one (rows encT us)),.v (.one (rows encT bs))] []=some ([.one (cb (eqTs us bs))],[]):=by
 rw [fnT_eq tree146]
 by_cases he:us.length=bs.length
 ·have h3:=x146loop us bs hm he ih us.length 0 (by omega)
  simp only [List.drop_zero,Int.natCast_zero] at h3
  simp [t146,zZ,len11,he,h3]
 ·have hb:((us.length:Int)==(bs.length:Int))=false:=beq_eq_false_iff_ne.2 (by omega)
  simp [t146,zZ,len11,hb,eqTs_len he]
theorem x146n:fnT (T nat).G 146 [.v (.one cz),.v (.one cz)] []=some yes:=by
 have:=x146 (nat:=nat) [] [] (by simp) (fun a h=>by cases h)
 simpa [rows_nil,eqTs,yes] using this
end
end Go.Ey.Pr

set_option maxHeartbeats 4000000
namespace Go.Ey.Pr
open Go.Ey Go.Ey.Seat
section
variable {nat:Nat→List V→Option (List V)}
end
end Go.Ey.Pr

set_option maxHeartbeats 4000000
namespace Go.Ey.Pr
open Go.Ey Go.Ey.Seat
section
variable {nat:Nat→List V→Option (List V)}
end
end Go.Ey.Pr

set_option maxHeartbeats 4000000
namespace Go.Ey.Pr
open Go.Ey Go.Ey.Seat
mutual
theorem eqT_refl:∀t:Tm,eqT t t=true
 |.var p s=>by simp [eqT]
 |.con o=>by simp [eqT,eqO_refl]
 |.app p s ts=>by simp [eqT,eqTs_refl ts]
theorem eqTs_refl:∀ts:List Tm,eqTs ts ts=true
 |[]=>rfl
 |t::ts=>by simp [eqTs,eqT_refl t,eqTs_refl ts]
end
section
variable {nat:Nat→List V→Option (List V)}
end
end Go.Ey.Pr

set_option maxHeartbeats 4000000
namespace Go.Ey.Pr
open Go.Ey Go.Ey.Seat
def encB (b:UInt8):List C:=[.lit (.int .u8 (b.toNat:Int))]
theorem encB_len (b:UInt8):(encB b).length=1:=rfl
theorem lenB (l:List UInt8):lenC false (rows encB l)=some (ci l.length):=rfl
theorem rowB {l:List UInt8} {k:Nat} (h:k < l.length):rowC 1 (rows encB l) (ci k)=some (encB l[k]):=row_at (f:=encB) encB_len (List.getElem?_eq_getElem h)
theorem convB (b:UInt8):convC .i64 (nthC (encB b) 0)=some (ci (b.toNat:Int)):=by
 have h:=b.toNat_lt
 simp only [encB,nthC,List.getD_cons_zero,convC,ci]
 rw [wrapS (by omega) (by omega)]
theorem rem_ci {a b:Int} (h:b≠0):binC .rem false (ci a) (ci b)=some (ci (a.tmod b)):=by
 simp [binC,ci,binV,isShift,intBin,h]
section
variable {nat:Nat→List V→Option (List V)}
end
end Go.Ey.Pr

set_option maxHeartbeats 4000000
namespace Go.Ey.Pr
open Go.Ey Go.Ey.Seat
def user:ByteArray:=⟨#[117,115,101,114]⟩
section
variable {nat:Nat→List V→Option (List V)} {B B' B2:List C} {d:Int}
end
end Go.Ey.Pr

set_option maxHeartbeats 4000000
namespace Go.Ey.Pr
open Go.Ey Go.Ey.Seat
section
variable {nat:Nat→List V→Option (List V)}
end
end Go.Ey.Pr

set_option maxHeartbeats 4000000
namespace Go.Ey.Pr
open Go.Ey Go.Ey.Seat
section
variable {nat:Nat→List V→Option (List V)}
end
end Go.Ey.Pr

set_option maxHeartbeats 4000000
namespace Go.Ey.Pr
open Go.Ey Go.Ey.Seat
def kS (b:ByteArray):K:=.s b.data.toList.length (packL b.data.toList)
theorem rkS (b:ByteArray):RK (kS b) (cs b):=RK.s _ _ b (strOf_pack _).symm (pack_lt _)
def kI (n:Int):K:=.i .i64 n
def kE:K:=.s 0 0
theorem rkE:RK kE ce:=RK.s 0 0 ⟨#[]⟩ rfl (by decide)
theorem rkZ:RK kz cz:=RK.sl 0 [] 0 [] RKr.nil rfl
def kO:Ob→List K
 |.num n d=>[kI 1,kS n,kS d,kE,kE,kE,kz]
 |.sy p s=>[kI 2,kE,kE,kS p,kS s,kE,kz]
 |.st t=>[kI 3,kE,kE,kE,kE,kS t,kz]
 |.cons _ _=>[]
theorem rkO {o:Ob} (h:isCons o=false):RKs (kO o) (enc o):=by
 cases o with
 |num n d=>exact .cons (RK.i _ _) (.cons (rkS n) (.cons (rkS d) (.cons rkE (.cons rkE (.cons rkE (.cons rkZ .nil))))))
 |sy n d=>exact .cons (RK.i _ _) (.cons rkE (.cons rkE (.cons (rkS n) (.cons (rkS d) (.cons rkE (.cons rkZ .nil))))))
 |st t=>exact .cons (RK.i _ _) (.cons rkE (.cons rkE (.cons rkE (.cons rkE (.cons (rkS t) (.cons rkZ .nil))))))
 |cons _ _=>cases h
def isYes:Ans→Bool
 |.ret [.c (.b true)] []=>true
 |_=>false
theorem isYes_eq {a:Ans} (h:isYes a=true):a=.ret [.c (.b true)] []:=by
 unfold isYes at h
 split at h
 ·rfl
 ·cases h
section
variable {nat:Nat→List V→Option (List V)}
end
end Go.Ey.Pr

set_option maxHeartbeats 4000000
namespace Go.Ey.Pr
open Go.Ey Go.Ey.Seat
def strN (n:Int):ByteArray:=
 if n=0 then ⟨#[48]⟩ else if n=1 then ⟨#[49]⟩ else if n=2 then ⟨#[50]⟩ else if n=3 then ⟨#[51]⟩ else if n=-1 then ⟨#[45,49]⟩ else if n=-2 then ⟨#[45,50]⟩ else ⟨#[45,51]⟩
def NatF (nat:Nat→List V→Option (List V)):Prop:=
 ∀n:Int,-3≤n→n≤3→nat 238 [.one (ci n),.one (ci 10)]=some [.one (cs (strN n))]
theorem NatF.i {nat:Nat→List V→Option (List V)} (h:NatF nat):NatI nat:=⟨h 0 (by omega) (by omega),h 1 (by omega) (by omega)⟩
section
variable {nat:Nat→List V→Option (List V)}
end
end Go.Ey.Pr

namespace Go.Ey
open Go
@[reducible] def tabKeeps (P:Program) (l:List (String×IntKind×List Int)):Keeps where
  Inv B w:=∀t∈l,∃g,P.globalNamed t.1=some g∧g < B∧Lib.TabIs P w t.1 t.2.1 t.2.2
  keep:=fun {B w w'} hb h t ht=>by
   obtain ⟨g,h1,h2,h3⟩:=h t ht
   refine ⟨g,h1,h2,?_⟩
   unfold Lib.TabIs World.var? at h3 ⊢
   rw [h1] at h3 ⊢
   simp only [Option.bind_some] at h3 ⊢
   rw [hb.block g h2]
   exact h3
  mono:=fun hB h t ht=>by
   obtain ⟨g,h1,h2,h3⟩:=h t ht
   exact ⟨g,h1,Nat.lt_of_lt_of_le h2 hB,h3⟩
theorem tabKeeps_at {P:Program} {l:List (String×IntKind×List Int)} {B:Nat} {w:World} (h:(tabKeeps P l).Inv B w) {t:String×IntKind×List Int} (ht:t∈l):Lib.TabIs P w t.1 t.2.1 t.2.2:=by
 obtain ⟨_,_,_,h3⟩:=h t ht
 exact h3
end Go.Ey

namespace Go.Proofs
open Go.Shelf Go.RowKit
def Tryz.laysM246R:Go.Shelf.Ren:=⟨fun|246=>238|283=>264|284=>265|285=>266|286=>267|129=>291|317=>290|318=>292|319=>293|320=>294|337=>322|338=>323|n=>n,fun|171=>264|53=>82|37=>22|173=>267|212=>285|51=>26|213=>286|46=>288|232=>318|233=>319|n=>n,fun|17=>0|18=>1|19=>2|n=>n⟩
theorem Tryz.laysM246:LaysM.n246 Tryz.prog Tryz.laysM246R where
 mixed:=by kernel_rfl
 f129:=Tryz.func291.trans (congrArg some (by kernel_rfl))
 f246:=Tryz.func238.trans (congrArg some (by kernel_rfl))
 f283:=Tryz.func264.trans (congrArg some (by kernel_rfl))
 f284:=Tryz.func265.trans (congrArg some (by kernel_rfl))
 f285:=Tryz.func266.trans (congrArg some (by kernel_rfl))
 f286:=Tryz.func267.trans (congrArg some (by kernel_rfl))
 f317:=Tryz.func290.trans (congrArg some (by kernel_rfl))
 f318:=Tryz.func292.trans (congrArg some (by kernel_rfl))
 f319:=Tryz.func293.trans (congrArg some (by kernel_rfl))
 f320:=Tryz.func294.trans (congrArg some (by kernel_rfl))
 f337:=Tryz.func322.trans (congrArg some (by kernel_rfl))
 f338:=Tryz.func323.trans (congrArg some (by kernel_rfl))
 t0:=Tryz.underlying0
 a0:=Tryz.isAgg0
 z0:=Tryz.sizeOf0
 v0:=Tryz.zeroValue0
 t2:=Tryz.underlying2
 a2:=Tryz.isAgg2
 z2:=Tryz.sizeOf2
 v2:=Tryz.zeroValue2
 t3:=Tryz.underlying3
 a3:=Tryz.isAgg3
 z3:=Tryz.sizeOf3
 v3:=Tryz.zeroValue3
 t4:=Tryz.underlying4
 a4:=Tryz.isAgg4
 z4:=Tryz.sizeOf4
 v4:=Tryz.zeroValue4
 t5:=Tryz.underlying5
 a5:=Tryz.isAgg5
 z5:=Tryz.sizeOf5
 v5:=Tryz.zeroValue5
 t9:=Tryz.underlying9
 a9:=Tryz.isAgg9
 z9:=Tryz.sizeOf9
 v9:=Tryz.zeroValue9
 t20:=Tryz.underlying20
 a20:=Tryz.isAgg20
 z20:=Tryz.sizeOf20
 v20:=Tryz.zeroValue20
 t37:=Tryz.underlying22
 a37:=Tryz.isAgg22
 z37:=Tryz.sizeOf22
 v37:=Tryz.zeroValue22
 t46:=Tryz.underlying288
 a46:=Tryz.isAgg288
 z46:=Tryz.sizeOf288
 v46:=Tryz.zeroValue288
 t51:=Tryz.underlying26
 a51:=Tryz.isAgg26
 z51:=Tryz.sizeOf26
 v51:=Tryz.zeroValue26
 t53:=Tryz.underlying82
 a53:=Tryz.isAgg82
 z53:=Tryz.sizeOf82
 v53:=Tryz.zeroValue82
 t171:=Tryz.underlying264
 a171:=Tryz.isAgg264
 z171:=Tryz.sizeOf264
 v171:=Tryz.zeroValue264
 t173:=Tryz.underlying267
 a173:=Tryz.isAgg267
 z173:=Tryz.sizeOf267
 v173:=Tryz.zeroValue267
 t212:=Tryz.underlying285
 a212:=Tryz.isAgg285
 z212:=Tryz.sizeOf285
 v212:=Tryz.zeroValue285
 t213:=Tryz.underlying286
 a213:=Tryz.isAgg286
 z213:=Tryz.sizeOf286
 t232:=Tryz.underlying318
 a232:=Tryz.isAgg318
 z232:=Tryz.sizeOf318
 v232:=Tryz.zeroValue318
 t233:=Tryz.underlying319
 a233:=Tryz.isAgg319
 z233:=Tryz.sizeOf319
 v233:=Tryz.zeroValue319
 g17:=by kernel_rfl
 g18:=by kernel_rfl
 g19:=by kernel_rfl
 i0:=by kernel_rfl
 i2:=by kernel_rfl
 i3:=by kernel_rfl
 i4:=by kernel_rfl
 i5:=by kernel_rfl
 i9:=by kernel_rfl
 i20:=by kernel_rfl
 i37:=by kernel_rfl
 i46:=by kernel_rfl
 i51:=by kernel_rfl
 i53:=by kernel_rfl
 i171:=by kernel_rfl
 i173:=by kernel_rfl
 i212:=by kernel_rfl
 i232:=by kernel_rfl
 i233:=by kernel_rfl
 m17:=by kernel_rfl
 m18:=by kernel_rfl
 m19:=by kernel_rfl
end Go.Proofs
set_option maxHeartbeats 4000000
namespace Go.Ey.Pr
open Go Go.Ey Go.Ey.Seat
noncomputable abbrev keeps:Keeps:=tabKeeps PP [("internal/strconv.uint64pow10",.u64,Lib.pow10Tab)]
noncomputable instance:Keeps:=keeps
theorem strN_itoa {n:Int} (h1:-3≤n) (h2:n≤3):(⟨(Lib.itoa n).toArray⟩:ByteArray)=strN n:=by
 have h:n=-3∨n=-2∨n=-1∨n=0∨n=1∨n=2∨n=3:=by omega
 rcases h with rfl|rfl|rfl|rfl|rfl|rfl|rfl<;>simp [Lib.itoa,Lib.decDigits,strN]
theorem call_of {P:Program} {f:Nat} (h:(P.funcs[f]?).any (fun fn=>!fn.body.isNone && !(fn.name== "runtime.NumGoroutine"))=true):Callable P f:=by
 cases hf:P.funcs[f]? with
 |none=>rw [hf] at h;cases h
 |some fn=>
  rw [hf] at h
  simp only [Option.any_some,Bool.and_eq_true,Bool.not_eq_true'] at h
  exact ⟨fn,hf,h.1,h.2⟩
theorem call238:Callable PP 238:=call_of (by kernel_rfl)
theorem call296:Callable PP 296:=call_of (by kernel_rfl)
theorem fok238 {n:Int} (h1:-3≤n) (h2:n≤3):FnOK PP 238 [.one (ci n),.one (ci 10)] [.one (cs (strN n))]:=by
 refine ⟨call238,fun S w us hinv hall=>?_⟩
 match us,hall with
 |[u,v],⟨hu,hv,_⟩=>
  have e1:u=.int .i64 n:=hu.1
  have e2:v=.int .i64 10:=hv.1
  subst e1 e2
  have htab:Lib.TabIs PP w "internal/strconv.uint64pow10" .u64 Lib.pow10Tab:=tabKeeps_at hinv (t:=("internal/strconv.uint64pow10",.u64,Lib.pow10Tab)) (by simp)
  have hc:=Go.Proofs.Any.internal_strconv_FormatInt_10 Go.Proofs.Tryz.laysM246 n (by omega) (by omega) w htab
  refine Calls.mono (show Calls PP 238 #[.int .i64 n,.int .i64 10] w _ from hc) ?_
  rintro e w' ⟨rfl,k,os,rfl⟩
  refine ⟨_,rfl,⟨?_,rfl⟩,?_⟩
  ·rw [strN_itoa h1 h2]
  ·exact ⟨rfl,rfl,rfl,by
    show w.heap.size≤(w.heap++os).size
    rw [Array.size_append];omega,fun k' hk=>by
    show (w.heap++os)[k']?=_
    rw [Array.getElem?_append_left hk]⟩
end Go.Ey.Pr

namespace Go.Ey.Pr
open Go.Ey Go.Ey.Seat
def k189:KFun:=⟨[none,none],[],(.call 221 [(.one (.v 1))] [] [none] [] (.opc (.not (.v 0)) (.ite (.v 0) (.ret [(.one (.k (.b false)))] []) (.call 221 [(.one (.v 2))] [] [none] [] (.opc (.not (.v 0)) (.ite (.v 0) (.ret [(.one (.k (.b false)))] []) (.call 222 [(.one (.v 5))] [] [none] [] (.opc (.gtr (.v 0) (.k (.i .i64 (.ofNat 100)))) (.ite (.v 0) (.ret [(.one (.k (.b false)))] []) (.call 222 [(.one (.v 6))] [] [none] [] (.opc (.gtr (.v 0) (.k (.i .i64 (.ofNat 100)))) (.ite (.v 0) (.ret [(.one (.k (.b false)))] []) (.call 223 [(.one (.v 9)),(.one (.v 8))] [] [none,none] [] (.opc (.eql (.v 1) (.v 11)) (.ite (.v 0) (.opc (.eql (.v 1) (.v 11)) (.ret [(.one (.v 0))] [])) (.ret [(.one (.k (.b false)))] [])))))))))))))))),[]⟩
theorem r189 (nat:Nat→List V→Option (List V)):(T nat).krow 189=some k189:=by kernel_rfl
def k221:KFun:=⟨[none],[],(.call 241 [(.one (.v 0)),(.one (.k (.s 1 45)))] [] [none] [] (.opc (.eql (.v 0) (.k (.s 0 0))) (.ite (.v 0) (.opc (.eql (.v 2) (.k (.s 1 48))) (.ret [(.one (.v 0))] [])) (.opc (.sidx (.v 1) (.k (.i .i64 (.ofNat 0)))) (.opc (.eql (.v 0) (.k (.i .u8 (.ofNat 48)))) (.ite (.v 0) (.opc (.eql (.v 4) (.k (.s 1 48))) (.ret [(.one (.v 0))] [])) (.opc (.len true (.v 3)) (.goto 0 3 [(.one (.v 4)),(.one (.v 0)),(.one (.k (.i .i64 (.ofNat 0))))])))))))),[(3,(.opc (.lss (.v 0) (.v 1)) (.ite (.v 0) (.opc (.sidx (.v 3) (.v 1)) (.opc (.lss (.v 0) (.k (.i .u8 (.ofNat 48)))) (.ite (.v 0) (.ret [(.one (.k (.b false)))] []) (.opc (.sidx (.v 5) (.v 3)) (.opc (.gtr (.v 0) (.k (.i .u8 (.ofNat 57)))) (.ite (.v 0) (.ret [(.one (.k (.b false)))] []) (.opc (.add (.v 5) (.k (.i .i64 (.ofNat 1)))) (.goto 0 3 [(.one (.v 8)),(.one (.v 7)),(.one (.v 0))])))))))) (.ret [(.one (.k (.b true)))] []))))]⟩
theorem r221 (nat:Nat→List V→Option (List V)):(T nat).krow 221=some k221:=by kernel_rfl
def k222:KFun:=⟨[none],[],(.call 242 [(.one (.v 0))] [] [none] [] (.call 241 [(.one (.v 0)),(.one (.k (.s 1 45)))] [] [none] [] (.opc (.len true (.v 0)) (.ret [(.one (.v 0))] [])))),[]⟩
theorem r222 (nat:Nat→List V→Option (List V)):(T nat).krow 222=some k222:=by kernel_rfl
def k223:KFun:=⟨[none,none],[],(.call 242 [(.one (.v 1))] [] [none] [] (.call 242 [(.one (.v 1))] [] [none] [] (.opc (.eql (.v 0) (.k (.s 1 48))) (.ite (.v 0) (.ret [(.one (.k (.s 1 48))),(.one (.k (.s 1 49)))] []) (.opc (.eql (.v 1) (.k (.s 1 49))) (.ite (.v 0) (.ret [(.one (.v 3)),(.one (.v 2))] []) (.opc (.sidx (.v 2) (.k (.i .i64 (.ofNat 0)))) (.opc (.eql (.v 0) (.k (.i .u8 (.ofNat 45)))) (.ite (.v 0) (.call 243 [(.one (.v 5))] [] [none] [] (.call 243 [(.one (.v 5))] [] [none] [] (.call 244 [(.one (.v 1)),(.one (.v 0))] [] [none] [] (.opc (.eql (.v 0) (.k (.s 1 49))) (.ite (.v 0) (.ret [(.one (.v 3)),(.one (.v 2))] []) (.call 245 [(.one (.v 3)),(.one (.v 1))] [] [none,none] [] (.call 245 [(.one (.v 4)),(.one (.v 3))] [] [none,none] [] (.ret [(.one (.v 3)),(.one (.v 1))] [])))))))) (.call 244 [(.one (.v 5)),(.one (.v 4))] [] [none] [] (.opc (.eql (.v 0) (.k (.s 1 49))) (.ite (.v 0) (.ret [(.one (.v 7)),(.one (.v 6))] []) (.call 245 [(.one (.v 7)),(.one (.v 1))] [] [none,none] [] (.call 245 [(.one (.v 8)),(.one (.v 3))] [] [none,none] [] (.ret [(.one (.v 3)),(.one (.v 1))] []))))))))))))))),[]⟩
theorem r223 (nat:Nat→List V→Option (List V)):(T nat).krow 223=some k223:=by kernel_rfl
def k241:KFun:=⟨[none,none],[],(.call 269 [(.one (.v 1)),(.one (.v 0))] [] [none] [] (.ret [(.one (.v 0))] [])),[]⟩
theorem r241 (nat:Nat→List V→Option (List V)):(T nat).krow 241=some k241:=by kernel_rfl
def k242:KFun:=⟨[none],[],(.call 221 [(.one (.v 0))] [] [none] [] (.ite (.v 0) (.ret [(.one (.v 1))] []) (.ret [(.one (.k (.s 1 48)))] []))),[]⟩
theorem r242 (nat:Nat→List V→Option (List V)):(T nat).krow 242=some k242:=by kernel_rfl
def k269:KFun:=⟨[none,none],[],(.call 295 [(.one (.v 1)),(.one (.v 0))] [] [none] [] (.ite (.v 0) (.opc (.len true (.v 1)) (.opc (.sstr (.v 3) (some (.v 0)) none) (.ret [(.one (.v 0))] []))) (.ret [(.one (.v 2))] []))),[]⟩
theorem r269 (nat:Nat→List V→Option (List V)):(T nat).krow 269=some k269:=by kernel_rfl
def k270:KFun:=⟨[none],[],(.call 242 [(.one (.v 0))] [] [none] [] (.call 241 [(.one (.v 0)),(.one (.k (.s 1 45)))] [] [none] [] (.opc (.len true (.v 0)) (.opc (.len true (.v 2)) (.opc (.lss (.v 1) (.v 0)) (.goto 0 5 [(.one (.v 3)),(.one (.k (.b false))),(.one (.k (.sl 0 [] 0))),(.one (.v 0)),(.one (.k (.sl 0 [] 0)))])))))),[(5,(.opc (.len true (.v 4)) (.opc (.gtr (.v 0) (.k (.i .i64 (.ofNat 0)))) (.ite (.v 0) (.opc (.len true (.v 6)) (.opc (.sub (.v 0) (.k (.i .i64 (.ofNat 9)))) (.opc (.mx (.k (.i .i64 (.ofNat 0))) (.v 0)) (.opc (.sstr (.v 9) (some (.v 0)) none) (.call 296 [(.one (.v 0)),(.one (.k (.i .i64 (.ofNat 10)))),(.one (.k (.i .i64 (.ofNat 32))))] [] [none,none] [] (.opc (.conv .u32 (.v 1)) (.opc (.lits 1 1 [(.v 0)]) (.opc (.app 1 4 (.v 10) (.v 0)) (.opc (.sstr (.v 15) none (some (.v 6))) (.goto 0 5 [(.one (.v 0)),(.one (.v 15)),(.one (.v 14)),(.one (.v 13)),(.one (.v 1))])))))))))) (.call 297 [(.one (.v 2))] [] [none] [] (.ret [(.agg (.lit 2 [(.v 4),(.v 0)]))] []))))))]⟩
theorem r270 (nat:Nat→List V→Option (List V)):(T nat).krow 270=some k270:=by kernel_rfl
def k271:KFun:=⟨[none,none],[],(.opc (.len false (.v 1)) (.opc (.mk 1 4 [(.i .u32 (.ofNat 0))] (.v 0) (.v 0)) (.opc (.len false (.v 3)) (.opc (.sub (.v 0) (.k (.i .i64 (.ofNat 1)))) (.goto 0 5 [(.one (.v 5)),(.one (.v 0)),(.agg (.lit 1 [(.v 4)])),(.one (.v 2)),(.one (.k (.sl 0 [] 0)))]))))),[(5,(.opc (.geq (.v 3) (.k (.i .i64 (.ofNat 0)))) (.ite (.v 0) (.row 1 (.v 5) (.v 4) (.opc (.lits 1 1 [(.n 0 0)]) (.opc (.app 1 4 (.v 0) (.v 3)) (.call 297 [(.one (.v 0))] [] [none] [] (.call 298 [(.one (.v 0)),(.one (.n 7 0))] [] [none] [] (.opc (.geq (.v 0) (.k (.i .i64 (.ofNat 0)))) (.ite (.v 0) (.call 400 [(.one (.k (.i .i64 (.ofNat 1000000000))))] [(.all 9),(.lit 1 [(.v 2)])] [none] [1,1] (.opc (.sub (.v 2) (.k (.i .i64 (.ofNat 1)))) (.opc (.conv .u32 (.v 0)) (.opc (.lits 1 1 [(.v 0)]) (.call 297 [(.one (.v 0))] [] [none] [] (.call 301 [(.one (.n 5 0)),(.one (.v 0))] [] [none] [] (.call 274 [(.one (.n 5 0)),(.one (.v 0))] [] [none] [] (.row 1 (.v 17) (.v 19) (.opc (.set 1 (.v 18) (.v 20) 0 1 [(.v 5)]) (.opc (.sub (.v 21) (.k (.i .i64 (.ofNat 1)))) (.goto 0 5 [(.one (.v 23)),(.one (.v 0)),(.agg (.all 10)),(.one (.v 1)),(.one (.v 3))]))))))))))) (.row 1 (.v 8) (.v 10) (.opc (.set 1 (.v 9) (.v 11) 0 1 [(.k (.i .u32 (.ofNat 0)))]) (.opc (.sub (.v 12) (.k (.i .i64 (.ofNat 1)))) (.goto 0 5 [(.one (.v 14)),(.one (.v 0)),(.agg (.all 12)),(.one (.v 1)),(.one (.v 5))]))))))))))) (.call 297 [(.one (.v 2))] [] [none] [] (.ret [(.one (.v 0)),(.one (.v 2))] [])))))]⟩
theorem r271 (nat:Nat→List V→Option (List V)):(T nat).krow 271=some k271:=by kernel_rfl
def k274:KFun:=⟨[none,none],[],(.opc (.len false (.v 1)) (.opc (.mk 1 4 [(.i .u32 (.ofNat 0))] (.v 0) (.v 0)) (.opc (.len false (.v 3)) (.goto 0 6 [(.one (.v 4)),(.one (.v 3)),(.one (.k (.i .i64 (.ofNat 0)))),(.one (.v 0)),(.one (.k (.i .i64 (.ofNat 0)))),(.one (.v 1))])))),[(6,(.opc (.lss (.v 1) (.v 2)) (.ite (.v 0) (.row 1 (.v 6) (.v 2) (.opc (.conv .i64 (.n 0 0)) (.opc (.sub (.v 0) (.v 6)) (.opc (.len false (.v 8)) (.opc (.lss (.v 6) (.v 0)) (.ite (.v 0) (.row 1 (.v 10) (.v 7) (.opc (.conv .i64 (.n 0 0)) (.opc (.sub (.v 4) (.v 0)) (.opc (.lss (.v 0) (.k (.i .i64 (.ofNat 0)))) (.ite (.v 0) (.opc (.add (.v 1) (.k (.i .i64 (.ofNat 1000000000)))) (.opc (.conv .u32 (.v 0)) (.row 1 (.v 12) (.v 13) (.opc (.set 1 (.v 13) (.v 14) 0 1 [(.v 1)]) (.opc (.add (.v 15) (.k (.i .i64 (.ofNat 1)))) (.goto 0 6 [(.one (.v 20)),(.one (.v 19)),(.one (.k (.i .i64 (.ofNat 1)))),(.one (.v 17)),(.one (.v 0)),(.one (.v 1))])))))) (.opc (.conv .u32 (.v 1)) (.row 1 (.v 11) (.v 12) (.opc (.set 1 (.v 12) (.v 13) 0 1 [(.v 1)]) (.opc (.add (.v 14) (.k (.i .i64 (.ofNat 1)))) (.goto 0 6 [(.one (.v 19)),(.one (.v 18)),(.one (.k (.i .i64 (.ofNat 0)))),(.one (.v 16)),(.one (.v 0)),(.one (.v 1))])))))))))) (.opc (.lss (.v 2) (.k (.i .i64 (.ofNat 0)))) (.ite (.v 0) (.opc (.add (.v 3) (.k (.i .i64 (.ofNat 1000000000)))) (.opc (.conv .u32 (.v 0)) (.row 1 (.v 9) (.v 10) (.opc (.set 1 (.v 10) (.v 11) 0 1 [(.v 1)]) (.opc (.add (.v 12) (.k (.i .i64 (.ofNat 1)))) (.goto 0 6 [(.one (.v 17)),(.one (.v 16)),(.one (.k (.i .i64 (.ofNat 1)))),(.one (.v 14)),(.one (.v 0)),(.one (.v 1))])))))) (.opc (.conv .u32 (.v 3)) (.row 1 (.v 8) (.v 9) (.opc (.set 1 (.v 9) (.v 10) 0 1 [(.v 1)]) (.opc (.add (.v 11) (.k (.i .i64 (.ofNat 1)))) (.goto 0 6 [(.one (.v 16)),(.one (.v 15)),(.one (.k (.i .i64 (.ofNat 0)))),(.one (.v 13)),(.one (.v 0)),(.one (.v 1))]))))))))))))) (.call 297 [(.one (.v 1))] [] [none] [] (.ret [(.one (.v 0))] [])))))]⟩
theorem r274 (nat:Nat→List V→Option (List V)):(T nat).krow 274=some k274:=by kernel_rfl
def k295:KFun:=⟨[none,none],[],(.opc (.len true (.v 1)) (.opc (.len true (.v 1)) (.opc (.geq (.v 1) (.v 0)) (.ite (.v 0) (.opc (.len true (.v 3)) (.opc (.sstr (.v 5) none (some (.v 0))) (.opc (.eql (.v 0) (.v 5)) (.ret [(.one (.v 0))] [])))) (.ret [(.one (.k (.b false)))] []))))),[]⟩
theorem r295 (nat:Nat→List V→Option (List V)):(T nat).krow 295=some k295:=by kernel_rfl
def k297:KFun:=⟨[none],[],(.goto 0 1 [(.one (.v 0))]),[(1,(.opc (.len false (.v 0)) (.opc (.gtr (.v 0) (.k (.i .i64 (.ofNat 0)))) (.ite (.v 0) (.opc (.len false (.v 2)) (.opc (.sub (.v 0) (.k (.i .i64 (.ofNat 1)))) (.row 1 (.v 4) (.v 0) (.opc (.eql (.n 0 0) (.k (.i .u32 (.ofNat 0)))) (.ite (.v 0) (.opc (.len false (.v 6)) (.opc (.sub (.v 0) (.k (.i .i64 (.ofNat 1)))) (.opc (.slc 1 (.v 8) none (some (.v 0))) (.goto 0 1 [(.one (.v 0))])))) (.ret [(.one (.v 6))] [])))))) (.ret [(.one (.v 2))] [])))))]⟩
theorem r297 (nat:Nat→List V→Option (List V)):(T nat).krow 297=some k297:=by kernel_rfl
def k298:KFun:=⟨[none,none],[],(.opc (.len false (.v 1)) (.opc (.len false (.v 1)) (.opc (.neq (.v 1) (.v 0)) (.ite (.v 0) (.opc (.len false (.v 4)) (.opc (.len false (.v 4)) (.opc (.lss (.v 1) (.v 0)) (.ite (.v 0) (.ret [(.one (.k (.i .i64 (.negSucc 0))))] []) (.ret [(.one (.k (.i .i64 (.ofNat 1))))] []))))) (.opc (.len false (.v 4)) (.opc (.sub (.v 0) (.k (.i .i64 (.ofNat 1)))) (.goto 0 3 [(.one (.v 6)),(.one (.v 5)),(.one (.v 0))]))))))),[(3,(.opc (.geq (.v 0) (.k (.i .i64 (.ofNat 0)))) (.ite (.v 0) (.row 1 (.v 3) (.v 1) (.row 1 (.v 3) (.v 2) (.opc (.neq (.n 1 0) (.n 0 0)) (.ite (.v 0) (.row 1 (.v 6) (.v 4) (.row 1 (.v 6) (.v 5) (.opc (.lss (.n 1 0) (.n 0 0)) (.ite (.v 0) (.ret [(.one (.k (.i .i64 (.negSucc 0))))] []) (.ret [(.one (.k (.i .i64 (.ofNat 1))))] []))))) (.opc (.sub (.v 4) (.k (.i .i64 (.ofNat 1)))) (.goto 0 3 [(.one (.v 7)),(.one (.v 6)),(.one (.v 0))])))))) (.ret [(.one (.k (.i .i64 (.ofNat 0))))] []))))]⟩
theorem r298 (nat:Nat→List V→Option (List V)):(T nat).krow 298=some k298:=by kernel_rfl
def k300:KFun:=⟨[none],[1,1],(.opc (.conv .u32 (.v 2)) (.opc (.lits 1 1 [(.v 0)]) (.call 301 [(.one (.n 3 0)),(.one (.v 0))] [] [none] [] (.call 298 [(.one (.v 0)),(.one (.n 3 0))] [] [none] [] (.opc (.gtr (.v 0) (.k (.i .i64 (.ofNat 0)))) (.ret [(.one (.v 0))] [(.all 6),(.all 5)])))))),[]⟩
theorem r300 (nat:Nat→List V→Option (List V)):(T nat).krow 300=some k300:=by kernel_rfl
def k301:KFun:=⟨[none,none],[],(.opc (.len false (.v 1)) (.opc (.len false (.v 1)) (.opc (.add (.v 1) (.v 0)) (.opc (.mk 1 4 [(.i .u32 (.ofNat 0))] (.v 0) (.v 0)) (.opc (.len false (.v 5)) (.goto 0 5 [(.one (.v 5)),(.one (.v 6)),(.one (.v 0)),(.one (.k (.i .i64 (.ofNat 0)))),(.one (.v 1))])))))),[(5,(.opc (.lss (.v 1) (.v 2)) (.ite (.v 0) (.row 1 (.v 4) (.v 2) (.opc (.len false (.v 6)) (.goto 1 11 [(.one (.v 7)),(.one (.v 4)),(.one (.n 1 0)),(.one (.k (.i .u64 (.ofNat 0)))),(.one (.v 6)),(.one (.v 5)),(.one (.v 4)),(.one (.v 7)),(.one (.v 0)),(.one (.k (.i .i64 (.ofNat 0)))),(.one (.v 3))]))) (.call 297 [(.one (.v 1))] [] [none] [] (.ret [(.one (.v 0))] []))))),
 (11,(.opc (.lss (.v 1) (.v 2)) (.ite (.v 0) (.row 1 (.v 4) (.v 2) (.opc (.add (.v 11) (.v 3)) (.row 1 (.v 3) (.v 0) (.row 1 (.v 4) (.v 1) (.opc (.conv .u64 (.n 0 0)) (.opc (.conv .u64 (.v 14)) (.opc (.conv .u64 (.n 5 0)) (.opc (.mul (.v 1) (.v 0)) (.opc (.add (.v 3) (.v 0)) (.opc (.add (.v 0) (.v 17)) (.opc (.add (.v 20) (.v 12)) (.opc (.rem (.v 1) (.k (.i .u64 (.ofNat 1000000000)))) (.opc (.conv .u32 (.v 0)) (.opc (.quo (.v 3) (.k (.i .u64 (.ofNat 1000000000)))) (.row 1 (.v 15) (.v 3) (.opc (.set 1 (.v 16) (.v 4) 0 1 [(.v 2)]) (.opc (.add (.v 18) (.k (.i .i64 (.ofNat 1)))) (.goto 1 11 [(.one (.v 28)),(.one (.v 27)),(.one (.v 26)),(.one (.v 3)),(.one (.v 24)),(.one (.v 23)),(.one (.v 22)),(.one (.v 21)),(.one (.v 20)),(.one (.v 0)),(.one (.v 1))])))))))))))))))))) (.opc (.len false (.v 11)) (.opc (.add (.v 11) (.v 0)) (.opc (.conv .u32 (.v 10)) (.row 1 (.v 4) (.v 1) (.opc (.set 1 (.v 5) (.v 2) 0 1 [(.v 1)]) (.opc (.add (.v 10) (.k (.i .i64 (.ofNat 1)))) (.goto 0 5 [(.one (.v 17)),(.one (.v 13)),(.one (.v 12)),(.one (.v 0)),(.one (.v 1))]))))))))))]⟩
theorem r301 (nat:Nat→List V→Option (List V)):(T nat).krow 301=some k301:=by kernel_rfl
def k400:KFun:=⟨[none],[1,1],(.goto 0 4 [(.one (.k (.i .i64 (.ofNat 0)))),(.one (.v 2)),(.agg (.all 1)),(.agg (.all 0))]),[(4,(.opc (.lss (.v 3) (.v 2)) (.ite (.v 0) (.opc (.add (.v 4) (.v 3)) (.opc (.conv .u64 (.v 0)) (.opc (.shz (.v 0) (.k (.i .u64 (.ofNat 1)))) (.opc (.conv .i64 (.v 0)) (.call 300 [(.one (.v 0))] [(.all 6),(.all 5)] [none] [1,1] (.opc (.not (.v 2)) (.ite (.v 0) (.opc (.add (.v 4) (.k (.i .i64 (.ofNat 1)))) (.goto 0 4 [(.one (.v 0)),(.one (.v 12)),(.agg (.all 3)),(.agg (.all 2))])) (.goto 0 4 [(.one (.v 12)),(.one (.v 4)),(.agg (.all 2)),(.agg (.all 1))])))))))) (.ret [(.one (.v 4))] [(.all 2),(.all 1)]))))]⟩
theorem r400 (nat:Nat→List V→Option (List V)):(T nat).krow 400=some k400:=by kernel_rfl
theorem rowAdd {nat:Nat→List V→Option (List V)} {g:KG} {f:Nat} {kf:KFun} (hg:KGOK (T nat).G (T nat).psig g) (hr:(T nat).krow f=some kf):KGOK (T nat).G (T nat).psig (.node f kf g g):=⟨krow_ok hr,hg,hg⟩
def kgM0:KG:=.node 189 k189 kgD kgD
theorem kgM0_ok {nat:Nat→List V→Option (List V)} (hn:NatI nat):KGOK (T nat).G (T nat).psig kgM0:=rowAdd (kgD_ok hn) (r189 nat)
def kgM1:KG:=.node 221 k221 kgM0 kgM0
theorem kgM1_ok {nat:Nat→List V→Option (List V)} (hn:NatI nat):KGOK (T nat).G (T nat).psig kgM1:=rowAdd (kgM0_ok hn) (r221 nat)
def kgM2:KG:=.node 222 k222 kgM1 kgM1
theorem kgM2_ok {nat:Nat→List V→Option (List V)} (hn:NatI nat):KGOK (T nat).G (T nat).psig kgM2:=rowAdd (kgM1_ok hn) (r222 nat)
def kgM3:KG:=.node 223 k223 kgM2 kgM2
theorem kgM3_ok {nat:Nat→List V→Option (List V)} (hn:NatI nat):KGOK (T nat).G (T nat).psig kgM3:=rowAdd (kgM2_ok hn) (r223 nat)
def kgM4:KG:=.node 241 k241 kgM3 kgM3
theorem kgM4_ok {nat:Nat→List V→Option (List V)} (hn:NatI nat):KGOK (T nat).G (T nat).psig kgM4:=rowAdd (kgM3_ok hn) (r241 nat)
def kgM5:KG:=.node 242 k242 kgM4 kgM4
theorem kgM5_ok {nat:Nat→List V→Option (List V)} (hn:NatI nat):KGOK (T nat).G (T nat).psig kgM5:=rowAdd (kgM4_ok hn) (r242 nat)
def kgM6:KG:=.node 269 k269 kgM5 kgM5
theorem kgM6_ok {nat:Nat→List V→Option (List V)} (hn:NatI nat):KGOK (T nat).G (T nat).psig kgM6:=rowAdd (kgM5_ok hn) (r269 nat)
def kgM7:KG:=.node 270 k270 kgM6 kgM6
theorem kgM7_ok {nat:Nat→List V→Option (List V)} (hn:NatI nat):KGOK (T nat).G (T nat).psig kgM7:=rowAdd (kgM6_ok hn) (r270 nat)
def kgM8:KG:=.node 271 k271 kgM7 kgM7
theorem kgM8_ok {nat:Nat→List V→Option (List V)} (hn:NatI nat):KGOK (T nat).G (T nat).psig kgM8:=rowAdd (kgM7_ok hn) (r271 nat)
def kgM9:KG:=.node 274 k274 kgM8 kgM8
theorem kgM9_ok {nat:Nat→List V→Option (List V)} (hn:NatI nat):KGOK (T nat).G (T nat).psig kgM9:=rowAdd (kgM8_ok hn) (r274 nat)
def kgM10:KG:=.node 295 k295 kgM9 kgM9
theorem kgM10_ok {nat:Nat→List V→Option (List V)} (hn:NatI nat):KGOK (T nat).G (T nat).psig kgM10:=rowAdd (kgM9_ok hn) (r295 nat)
def kgM11:KG:=.node 297 k297 kgM10 kgM10
theorem kgM11_ok {nat:Nat→List V→Option (List V)} (hn:NatI nat):KGOK (T nat).G (T nat).psig kgM11:=rowAdd (kgM10_ok hn) (r297 nat)
def kgM12:KG:=.node 298 k298 kgM11 kgM11
theorem kgM12_ok {nat:Nat→List V→Option (List V)} (hn:NatI nat):KGOK (T nat).G (T nat).psig kgM12:=rowAdd (kgM11_ok hn) (r298 nat)
def kgM13:KG:=.node 300 k300 kgM12 kgM12
theorem kgM13_ok {nat:Nat→List V→Option (List V)} (hn:NatI nat):KGOK (T nat).G (T nat).psig kgM13:=rowAdd (kgM12_ok hn) (r300 nat)
def kgM14:KG:=.node 301 k301 kgM13 kgM13
theorem kgM14_ok {nat:Nat→List V→Option (List V)} (hn:NatI nat):KGOK (T nat).G (T nat).psig kgM14:=rowAdd (kgM13_ok hn) (r301 nat)
def kgM15:KG:=.node 400 k400 kgM14 kgM14
theorem kgM15_ok {nat:Nat→List V→Option (List V)} (hn:NatI nat):KGOK (T nat).G (T nat).psig kgM15:=rowAdd (kgM14_ok hn) (r400 nat)
def kgM:KG:=kgM15
theorem kgM_ok {nat:Nat→List V→Option (List V)} (hn:NatI nat):KGOK (T nat).G (T nat).psig kgM:=kgM15_ok hn
end Go.Ey.Pr

namespace Go.Ey
section
variable {G:GT} {sig:Nat→Option (List PS)}
def k3b (vs:List KV):KTree:=.opc (.eql (.v 2) (.k (.i .i64 32))) (.ite (.v 0) (.ret vs []) .fail)
def k3a (vs:List KV):KTree:=.opc (.eql (.v 2) (.k (.i .i64 10))) (.ite (.v 0) (k3b vs) .fail)
def k3 (l w:Nat) (vs:List KV):KFun:=⟨[none,none,none],[],.opc (.eql (.v 2) (.k (.s l w))) (.ite (.v 0) (k3a vs) .fail),[]⟩
end
namespace Pr
open Go.Ey Go.Ey.Seat
def dig:List (ByteArray×Nat):=[(⟨#[49]⟩,1),(⟨#[50]⟩,2),(⟨#[51]⟩,3),(⟨#[53]⟩,5)]
def cL (n:Nat):C:=.slice [.lit (.int .u32 (n:Int))] 1
def kL (n:Nat):K:=.sl 1 [[.i .u32 (.ofNat n)]] 1
def NatS (nat:Nat→List V→Option (List V)):Prop:=nat 272 [.agg [cb false,cL 1]]=some [.one (cs ⟨#[49]⟩)]
theorem rkL (n:Nat):RK (kL n) (cL n):=RK.sl 1 [[.i .u32 (.ofNat n)]] 1 _ (RKr.cons (cs:=[]) (RKs.cons (RK.i _ _) RKs.nil) rfl RKr.nil) rfl
theorem rkL_inv {n:Nat} {c:C} (h:RK (kL n) c):c=cL n:=by
 cases h with
 |sl _ _ _ cs h hn=>
  cases h with
  |cons h1 h2 h3=>
   cases h3
   cases h1 with
   |cons h4 h5=>
    cases h5
    cases h4
    rfl
theorem rk0_inv {e:Nat} {c:C} (h:RK (.sl e [] 0) c):c=cz:=by
 cases h with
 |sl _ _ _ cs h hn=>cases h;rfl
section
variable {nat:Nat→List V→Option (List V)}
theorem psig271:(T nat).psig 271=some [.one,.one]:=by kernel_rfl
theorem fn272:(T nat).G.fn 272=none:=by kernel_rfl
theorem sig272:∃s,(T nat).sig 272=some s∧s.nat=true∧s.boxes=[]∧s.params=[.agg 2]:=⟨s272,by kernel_rfl,rfl,rfl,rfl⟩
theorem x272 (h:NatS nat):fnT (T nat).G 272 [.v (.agg [cb false,cL 1])] []=some ([.one (cs ⟨#[49]⟩)],[]):=by
 refine fnT_nat fn272 ?_
 obtain ⟨s,h1,h2,h3,h4⟩:=sig272 (nat:=nat)
 show (T nat).natG 272 [.v (.agg [cb false,cL 1])] []=_
 have h5:(T nat).nat 272 [.agg [cb false,cL 1]]=some [.one (cs ⟨#[49]⟩)]:=h
 simp [Seat.natG,h1,h2,h3,h4,shapeB,laVs,h5]
def isRem (n:Nat):Ans→Bool
 |.ret [.c _,.c (.sl 1 [[.i .u32 (.ofNat m)]] 1)] []=>m==n && !(m==0)
 |.ret [.c _,.c (.sl _ [] 0)] []=>n==0
 |_=>false
def divs:List (Nat×Nat×Nat):=[(1,2,1),(2,1,0),(5,3,2),(3,2,1)]
noncomputable def run271:Bool:=divs.all fun p=>isRem p.2.2 ((krun kgM 300).fn 271 [.c (kL p.1),.c (kL p.2.1)] [])
theorem run271_ok:run271=true:=by kernel_rfl
def limb (n:Nat):C:=if n=0 then cz else cL n
theorem isRem_eq {n:Nat} {a:Ans} (h:isRem n a=true):∃q x,a=.ret [.c q,.c x] []∧∀c,RK x c→c=limb n:=by
 unfold isRem at h
 split at h
 ·rename_i q k
  simp only [Bool.and_eq_true,Bool.not_eq_true',beq_iff_eq,beq_eq_false_iff_ne] at h
  obtain ⟨rfl,h0⟩:=h
  exact ⟨_,_,rfl,fun c hc=>by rw [limb,if_neg h0];exact rkL_inv hc⟩
 ·simp only [beq_iff_eq] at h
  subst h
  exact ⟨_,_,rfl,fun c hc=>by rw [limb,if_pos rfl];exact rk0_inv hc⟩
 ·cases h
theorem di_fn (hn:NatI nat) {m a b r:Nat} (h:isRem r ((krun kgM m).fn 271 [.c (kL a),.c (kL b)] [])=true):∃q,fnT (T nat).G 271 [.v (.one (cL a)),.v (.one (cL b))] []=some ([.one q,.one (limb r)],[]):=by
 obtain ⟨q,x,e,hx⟩:=isRem_eq h
 obtain ⟨r1,g1,g2,g3⟩:=krun_fn (kgM_ok hn) psig271 (ts:=[.v (.one (.v 0)),.v (.one (.v 0))]) rfl (ys:=[.c (kL a),.c (kL b)]) (us:=[.v (.one (cL a)),.v (.one (cL b))]) ⟨rkL a,rkL b,trivial⟩ (zs:=[]) (css:=[]) trivial e
 obtain ⟨a1,b1⟩:=r1
 match a1,b1,g2,g3 with
 |[.one c1,.one c2],[],g2,_=>
  have h2:RK x c2:=g2.2.1
  rw [hx c2 h2] at g1
  exact ⟨c1,g1⟩
theorem x271 (hn:NatI nat) (p:Nat×Nat×Nat) (h:p∈divs):∃q,fnT (T nat).G 271 [.v (.one (cL p.1)),.v (.one (cL p.2.1))] []=some ([.one q,.one (limb p.2.2)],[]):=
 di_fn hn (List.all_eq_true.1 run271_ok p h)
end
end Pr
end Go.Ey

namespace Go.Proofs
open Go.Shelf Go.RowKit
def Tryz.laysPu14R:Go.Shelf.Ren:=⟨fun|14=>296|16=>324|17=>325|19=>334|20=>335|21=>336|22=>337|23=>338|24=>339|25=>354|27=>176|26=>355|28=>209|29=>238|30=>264|31=>265|32=>266|33=>267|35=>291|34=>290|36=>292|37=>293|38=>294|39=>322|40=>323|n=>n,fun|22=>82|24=>291|25=>292|34=>320|36=>288|37=>22|39=>322|44=>331|47=>312|50=>335|48=>333|52=>264|55=>267|59=>285|60=>26|61=>286|65=>318|66=>319|67=>162|n=>n,fun|0=>3|1=>4|2=>0|3=>1|4=>2|n=>n⟩
theorem Tryz.laysPu14:LaysPu.n14 Tryz.prog Tryz.laysPu14R where
 mixed:=by kernel_rfl
 f14:=Tryz.func296.trans (congrArg some (by kernel_rfl))
 f16:=Tryz.func324.trans (congrArg some (by kernel_rfl))
 f17:=Tryz.func325.trans (congrArg some (by kernel_rfl))
 f19:=Tryz.func334.trans (congrArg some (by kernel_rfl))
 f20:=Tryz.func335.trans (congrArg some (by kernel_rfl))
 f21:=Tryz.func336.trans (congrArg some (by kernel_rfl))
 f22:=Tryz.func337.trans (congrArg some (by kernel_rfl))
 f23:=Tryz.func338.trans (congrArg some (by kernel_rfl))
 f24:=Tryz.func339.trans (congrArg some (by kernel_rfl))
 f25:=Tryz.func354.trans (congrArg some (by kernel_rfl))
 f26:=Tryz.func355.trans (congrArg some (by kernel_rfl))
 f27:=Tryz.func176.trans (congrArg some (by kernel_rfl))
 f28:=Tryz.func209.trans (congrArg some (by kernel_rfl))
 f29:=Tryz.func238.trans (congrArg some (by kernel_rfl))
 f30:=Tryz.func264.trans (congrArg some (by kernel_rfl))
 f31:=Tryz.func265.trans (congrArg some (by kernel_rfl))
 f32:=Tryz.func266.trans (congrArg some (by kernel_rfl))
 f33:=Tryz.func267.trans (congrArg some (by kernel_rfl))
 f34:=Tryz.func290.trans (congrArg some (by kernel_rfl))
 f35:=Tryz.func291.trans (congrArg some (by kernel_rfl))
 f36:=Tryz.func292.trans (congrArg some (by kernel_rfl))
 f37:=Tryz.func293.trans (congrArg some (by kernel_rfl))
 f38:=Tryz.func294.trans (congrArg some (by kernel_rfl))
 f39:=Tryz.func322.trans (congrArg some (by kernel_rfl))
 f40:=Tryz.func323.trans (congrArg some (by kernel_rfl))
 t0:=Tryz.underlying0
 a0:=Tryz.isAgg0
 z0:=Tryz.sizeOf0
 v0:=Tryz.zeroValue0
 i0:=by kernel_rfl
 t2:=Tryz.underlying2
 a2:=Tryz.isAgg2
 z2:=Tryz.sizeOf2
 v2:=Tryz.zeroValue2
 i2:=by kernel_rfl
 t3:=Tryz.underlying3
 a3:=Tryz.isAgg3
 z3:=Tryz.sizeOf3
 v3:=Tryz.zeroValue3
 i3:=by kernel_rfl
 t4:=Tryz.underlying4
 a4:=Tryz.isAgg4
 z4:=Tryz.sizeOf4
 v4:=Tryz.zeroValue4
 i4:=by kernel_rfl
 t5:=Tryz.underlying5
 a5:=Tryz.isAgg5
 z5:=Tryz.sizeOf5
 v5:=Tryz.zeroValue5
 i5:=by kernel_rfl
 t9:=Tryz.underlying9
 a9:=Tryz.isAgg9
 z9:=Tryz.sizeOf9
 v9:=Tryz.zeroValue9
 i9:=by kernel_rfl
 t20:=Tryz.underlying20
 a20:=Tryz.isAgg20
 z20:=Tryz.sizeOf20
 v20:=Tryz.zeroValue20
 i20:=by kernel_rfl
 t21:=Tryz.underlying21
 a21:=Tryz.isAgg21
 z21:=Tryz.sizeOf21
 v21:=Tryz.zeroValue21
 i21:=by kernel_rfl
 t22:=Tryz.underlying82
 a22:=Tryz.isAgg82
 z22:=Tryz.sizeOf82
 v22:=Tryz.zeroValue82
 i22:=by kernel_rfl
 t24:=Tryz.underlying291
 a24:=Tryz.isAgg291
 z24:=Tryz.sizeOf291
 v24:=Tryz.zeroValue291
 i24:=by kernel_rfl
 t25:=Tryz.underlying292
 a25:=Tryz.isAgg292
 z25:=Tryz.sizeOf292
 v25:=Tryz.zeroValue292
 i25:=by kernel_rfl
 t34:=Tryz.underlying320
 a34:=Tryz.isAgg320
 z34:=Tryz.sizeOf320
 v34:=Tryz.zeroValue320
 i34:=by kernel_rfl
 c34:=by kernel_rfl
 t36:=Tryz.underlying288
 a36:=Tryz.isAgg288
 z36:=Tryz.sizeOf288
 v36:=Tryz.zeroValue288
 i36:=by kernel_rfl
 t37:=Tryz.underlying22
 a37:=Tryz.isAgg22
 z37:=Tryz.sizeOf22
 v37:=Tryz.zeroValue22
 i37:=by kernel_rfl
 t39:=Tryz.underlying322
 a39:=Tryz.isAgg322
 z39:=Tryz.sizeOf322
 v39:=Tryz.zeroValue322
 i39:=by kernel_rfl
 t44:=Tryz.underlying331
 a44:=Tryz.isAgg331
 z44:=Tryz.sizeOf331
 v44:=Tryz.zeroValue331
 i44:=by kernel_rfl
 t47:=Tryz.underlying312
 a47:=Tryz.isAgg312
 z47:=Tryz.sizeOf312
 v47:=Tryz.zeroValue312
 i47:=by kernel_rfl
 t48:=Tryz.underlying333
 a48:=Tryz.isAgg333
 z48:=Tryz.sizeOf333
 v48:=Tryz.zeroValue333
 i48:=by kernel_rfl
 t50:=Tryz.underlying335
 a50:=Tryz.isAgg335
 z50:=Tryz.sizeOf335
 v50:=Tryz.zeroValue335
 i50:=by kernel_rfl
 t52:=Tryz.underlying264
 a52:=Tryz.isAgg264
 z52:=Tryz.sizeOf264
 v52:=Tryz.zeroValue264
 i52:=by kernel_rfl
 t55:=Tryz.underlying267
 a55:=Tryz.isAgg267
 z55:=Tryz.sizeOf267
 v55:=Tryz.zeroValue267
 i55:=by kernel_rfl
 t59:=Tryz.underlying285
 a59:=Tryz.isAgg285
 z59:=Tryz.sizeOf285
 v59:=Tryz.zeroValue285
 i59:=by kernel_rfl
 t60:=Tryz.underlying26
 a60:=Tryz.isAgg26
 z60:=Tryz.sizeOf26
 v60:=Tryz.zeroValue26
 i60:=by kernel_rfl
 t61:=Tryz.underlying286
 a61:=Tryz.isAgg286
 z61:=Tryz.sizeOf286
 t65:=Tryz.underlying318
 a65:=Tryz.isAgg318
 z65:=Tryz.sizeOf318
 v65:=Tryz.zeroValue318
 i65:=by kernel_rfl
 t66:=Tryz.underlying319
 a66:=Tryz.isAgg319
 z66:=Tryz.sizeOf319
 v66:=Tryz.zeroValue319
 i66:=by kernel_rfl
 t67:=Tryz.underlying162
 a67:=Tryz.isAgg162
 z67:=Tryz.sizeOf162
 v67:=Tryz.zeroValue162
 i67:=by kernel_rfl
 g0:=by kernel_rfl
 m0:=by kernel_rfl
 g1:=by kernel_rfl
 m1:=by kernel_rfl
 g2:=by kernel_rfl
 m2:=by kernel_rfl
 g3:=by kernel_rfl
 m3:=by kernel_rfl
 g4:=by kernel_rfl
 m4:=by kernel_rfl
end Go.Proofs
set_option maxHeartbeats 4000000
namespace Go.Ey.Pr
open Go Go.Ey Go.Ey.Seat Go.RowKit
theorem parse_dig {p:ByteArray×Nat} (h:p∈dig):Lib.parseUintB 32 p.1.data.toList=.ok p.2∧p.1.size≤10:=by
 simp only [dig,List.mem_cons,List.mem_nil_iff,or_false] at h
 rcases h with rfl|rfl|rfl|rfl<;>exact ⟨rfl,by decide⟩
theorem fok296 {p:ByteArray×Nat} (h:p∈dig):FnOK PP 296 [.one (cs p.1),.one (ci 10),.one (ci 32)] [.one (.lit (.int .u64 (p.2:Int))),.one (.lit .nilIface)]:=by
 refine ⟨call296,fun S w us hinv hall=>?_⟩
 match us,hall with
 |[u,v,x],⟨hu,hv,hx,_⟩=>
  have e1:u=.string p.1:=hu.1
  have e2:v=.int .i64 10:=hv.1
  have e3:x=.int .i64 32:=hx.1
  subst e1 e2 e3
  obtain ⟨h1,h2⟩:=parse_dig h
  have hc:=Go.Proofs.Any.strconv_ParseUint_10_at32_ok Go.Proofs.Tryz.laysPu14 p.1 (by omega) p.2 h1 w
  refine Calls.mono (show Calls PP 296 #[.string p.1,.int .i64 10,.int .i64 32] w _ from hc) ?_
  rintro e w' ⟨rfl,hw⟩
  refine ⟨_,rfl,⟨_,rfl,⟨rfl,rfl⟩,⟨rfl,rfl⟩,trivial⟩,?_⟩
  rcases hw with rfl|rfl
  ·exact Below.refl _ _
  ·exact Lib.bytesWorld_below _ _ _
end Go.Ey.Pr
