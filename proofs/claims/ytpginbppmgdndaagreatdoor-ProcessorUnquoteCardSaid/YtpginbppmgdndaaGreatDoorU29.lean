/- A part of the proof. -/
import Derived.Test.YtpginbppmgdndaaGreatDoorU28
set_option linter.unusedVariables false
set_option linter.unusedSimpArgs false
set_option maxHeartbeats 4000000
namespace Go.Ey.Pr
open Go.Ey Go.Ey.Seat
mutual
def nodesT:Tm→Nat
 |.var _ _=>1
 |.con o=>szO o
 |.app _ _ ts=>1+nodesTs ts
def nodesTs:List Tm→Nat
 |[]=>0
 |t::ts=>nodesT t+nodesTs ts
end
mutual
def depthT:Tm→Nat
 |.var _ _=>1
 |.con _=>1
 |.app _ _ ts=>1+depthTs ts
def depthTs:List Tm→Nat
 |[]=>0
 |t::ts=>max (depthT t) (depthTs ts)
end
def varOK (p s:ByteArray):Bool:=!(decide (p=lispB) && decide (s=nilB)) && !(decide (p=lispB) && decide (s=tB))
mutual
def formedT:Tm→Bool
 |.var p s=>varOK p s
 |.con _=>true
 |.app _ _ ts=>decide (ts.length≤8) && formedTs ts
def formedTs:List Tm→Bool
 |[]=>true
 |t::ts=>formedT t && formedTs ts
end
inductive GoodT:Tm→Prop where
 |var {p s}: .sy p s∈atoms→GoodT (.var p s)
 |con {o}:Good o→szO o≤3000→GoodT (.con o)
 |app {p s ts}: .sy p s∈atoms→(∀t∈ts,GoodT t)→GoodT (.app p s ts)
theorem nodesT_pos (t:Tm):1≤nodesT t:=by
 cases t with
 |con o=>simpa [nodesT] using szO_pos o
 |_=>simp [nodesT]
theorem depthT_pos (t:Tm):1≤depthT t:=by cases t<;>simp [depthT]
theorem drop_at {α:Type} {l:List α} {k:Nat} (h:k < l.length):l.drop k=l[k]::l.drop (k+1):=List.drop_eq_getElem_cons h
theorem drop_end {α:Type} {l:List α} {k:Nat} (h:¬k < l.length):l.drop k=[]:=List.drop_eq_nil_of_le (by omega)
theorem row11 {ts:List Tm} {k:Nat} (h:k < ts.length):rowC 11 (rows encT ts) (ci k)=some (encT ts[k]):=row_at encT_len (List.getElem?_eq_getElem h)
theorem len11 (ts:List Tm):lenC false (rows encT ts)=some (ci ts.length):=rfl
section
variable {nat:Nat→List V→Option (List V)}
theorem x200loop (ts:List Tm) (hm:ts.length < 100000) (ih:∀t∈ts,∀n:Int,(nodesT t:Int)≤n→n≤3001→fnT (T nat).G 200 [.v (.agg (encT t)),.v (.one (ci n))] []=some ([.one (ci (n - nodesT t))],[])):∀(m k:Nat) (n:Int),k+m=ts.length→(nodesTs (ts.drop k):Int)≤n→n≤3001→
  hdT (T nat).G 200 0 [.c (ci n),.c (rows encT ts),.c (ci ts.length),.c (ci k)]=some ([.one (ci (n - nodesTs (ts.drop k)))],[])
 |0,k,n,hk,h1,h2=>by
  have hlt:¬((k:Int) < (ts.length:Int)):=by omega
  rw [hdT_eq tree200 (t:=t200.heads[0]) rfl,drop_end (by omega)]
  simp [t200,zS,hlt,nodesTs]
 |m+1,k,n,hk,h1,h2=>by
  have hkr:k < ts.length:=by omega
  have hlt:((k:Int) < (ts.length:Int)):=by omega
  rw [drop_at hkr] at h1 ⊢
  simp only [nodesTs] at h1 ⊢
  have hp:=nodesT_pos ts[k]
  have hg:¬n≤0:=by omega
  have hc:=ih ts[k] (List.getElem_mem hkr) n (by omega) h2
  have hi:=x200loop ts hm ih m (k+1) (n - nodesT ts[k]) (by omega) (by omega) (by omega)
  have hs:=add_nat k (by omega)
  rw [hdT_eq tree200 (t:=t200.heads[0]) rfl]
  simp [-Int.natCast_add,t200,zS,hlt,hg,row11 hkr,hc,hs,hi,encT_len]
  exact congrArg ci (by omega)
theorem len_nodes:∀ts:List Tm,ts.length≤nodesTs ts
 |[]=>Nat.zero_le _
 |t::ts=>by
  have:=nodesT_pos t
  have:=len_nodes ts
  simp only [List.length_cons,nodesTs]
  omega
theorem mem_nodes:∀{ts:List Tm} {t:Tm},t∈ts→nodesT t≤nodesTs ts
 |x::ts,t,h=>by
  simp only [nodesTs]
  rcases List.mem_cons.1 h with rfl|h
  ·omega
  ·have:=mem_nodes h;omega
theorem x200 {t:Tm} (hg:GoodT t):∀n:Int,(nodesT t:Int)≤n→n≤3001→fnT (T nat).G 200 [.v (.agg (encT t)),.v (.one (ci n))] []=some ([.one (ci (n - nodesT t))],[]):=by
 induction hg with
 |var h=>
  intro n h1 h2
  simp only [nodesT] at h1 ⊢
  have hs:binC .sub false (ci n) (ci 1)=some (ci (n - 1)):=sub_ci (by omega) (by omega)
  rw [fnT_eq tree200]
  simp [t200,zZ,encT,hs]
 |@con o h ho=>
  intro n h1 h2
  simp only [nodesT] at h1 ⊢
  have hs:binC .sub false (ci n) (ci (szO o))=some (ci (n - szO o)):=sub_ci (by omega) (by omega)
  rw [fnT_eq tree200]
  simp only [encT]
  simp [t200,zZ,nth7,x149 o ho,hs]
 |@app p s ts h hs ih=>
  intro n h1 h2
  simp only [nodesT] at h1 ⊢
  have hb:binC .sub false (ci n) (ci 1)=some (ci (n - 1)):=sub_ci (by omega) (by omega)
  have hl:=len_nodes ts
  have hi:=x200loop ts (by omega) ih ts.length 0 (n - 1) (by omega) (by rw [List.drop_zero];omega) (by omega)
  rw [List.drop_zero] at hi
  simp only [Int.natCast_zero] at hi
  rw [fnT_eq tree200,encT_app]
  simp [t200,zZ,hb,len11,hi]
  exact congrArg ci (by omega)
theorem x170 {t:Tm} (hg:GoodT t) (h:nodesT t≤3000):fnT (T nat).G 170 [.v (.agg (encT t))] []=some ([.one (ci (nodesT t))],[]):=by
 have h3:=x200 (nat:=nat) hg 3001 (by omega) (by omega)
 have hm:mmC true (ci 0) (ci ((3001:Int) - nodesT t))=some (ci (3001 - nodesT t)):=by
  rw [max_ci]
  exact congrArg (fun x=>some (ci x)) (by omega)
 have hs:binC .sub false (ci 3001) (ci (3001 - nodesT t))=some (ci (3001 - (3001 - nodesT t))):=sub_ci (by omega) (by omega)
 have he:(3001:Int) - (3001 - nodesT t)=nodesT t:=by omega
 rw [he] at hs
 rw [fnT_eq tree170]
 simp [t170,zS,h3,hm,hs,encT_len]
theorem x201loop (ts:List Tm) (hm:ts.length < 100000) (n:Int) (h2:n≤201) (ih:∀t∈ts,∀n:Int,(depthT t:Int) < n→n≤201→fnT (T nat).G 201 [.v (.agg (encT t)),.v (.one (ci n))] []=some ([.one (ci (depthT t))],[])):∀(m k d:Nat),k+m=ts.length→1≤d→(max d (1+depthTs (ts.drop k)):Nat) < n→
  hdT (T nat).G 201 0 [.c (ci n),.c (ci d),.c (rows encT ts),.c (ci ts.length),.c (ci k)]=some ([.one (ci ((max d (1+depthTs (ts.drop k)):Nat):Int))],[])
 |0,k,d,hk,hd,h1=>by
  have hlt:¬((k:Int) < (ts.length:Int)):=by omega
  rw [hdT_eq tree201 (t:=t201.heads[0]) rfl,drop_end (by omega)]
  have he:max d (1+depthTs [])=d:=by simp only [depthTs];omega
  rw [he]
  simp [t201,zS,hlt]
 |m+1,k,d,hk,hd,h1=>by
  have hkr:k < ts.length:=by omega
  have hlt:((k:Int) < (ts.length:Int)):=by omega
  rw [drop_at hkr] at h1 ⊢
  simp only [depthTs] at h1 ⊢
  have hp:=depthT_pos ts[k]
  have hsb:binC .sub false (ci n) (ci 1)=some (ci (n - 1)):=sub_ci (by omega) (by omega)
  have hc:=ih ts[k] (List.getElem_mem hkr) (n - 1) (by omega) (by omega)
  have ha:binC .add false (ci 1) (ci (depthT ts[k]))=some (ci (1+depthT ts[k])):=add_ci (by omega) (by omega)
  have hx:mmC true (ci d) (ci (1+depthT ts[k]))=some (ci ((max d (1+depthT ts[k]):Nat):Int)):=by
   rw [max_ci]
   exact congrArg (fun x=>some (ci x)) (by omega)
  have hge:¬n≤((max d (1+depthT ts[k]):Nat):Int):=by omega
  have hi:=x201loop ts hm n h2 ih m (k+1) (max d (1+depthT ts[k])) (by omega) (by omega) (by omega)
  have hs:=add_nat k (by omega)
  have he:max (max d (1+depthT ts[k])) (1+depthTs (ts.drop (k+1)))=max d (1+max (depthT ts[k]) (depthTs (ts.drop (k+1)))):=by omega
  rw [he] at hi
  rw [hdT_eq tree201 (t:=t201.heads[0]) rfl]
  simp only [t201]
  simp [-Int.natCast_add,zS,hlt,hge,row11 hkr,hsb,hc,ha,hx,hs,hi,encT_len]
theorem depth_len (ts:List Tm):∀t∈ts,depthT t≤depthTs ts:=by
 induction ts with
 |nil=>intro t h;cases h
 |cons x xs ih=>
  intro t h
  simp only [depthTs]
  rcases List.mem_cons.1 h with rfl|h
  ·omega
  ·have:=ih t h;omega
theorem x201 {t:Tm} (hg:GoodT t) (hn:nodesT t≤3000):∀n:Int,(depthT t:Int) < n→n≤201→fnT (T nat).G 201 [.v (.agg (encT t)),.v (.one (ci n))] []=some ([.one (ci (depthT t))],[]):=by
 induction hg with
 |var h=>
  intro n h1 h2
  rw [fnT_eq tree201]
  simp [t201,zZ,encT,depthT]
 |@con o h ho=>
  intro n h1 h2
  rw [fnT_eq tree201]
  simp only [encT]
  simp [t201,zZ,depthT]
 |@app p s ts h hs ih=>
  intro n h1 h2
  simp only [nodesT] at hn
  simp only [depthT] at h1 ⊢
  have hl:=len_nodes ts
  have hg:¬n≤1:=by omega
  have hi:=x201loop ts (by omega) n h2 (fun t ht=>ih t ht (by have:=mem_nodes ht;omega)) ts.length 0 1 (by omega) (by omega) (by rw [List.drop_zero];omega)
  have he:max 1 (1+depthTs ts)=1+depthTs ts:=by omega
  rw [List.drop_zero,he] at hi
  simp only [Int.natCast_zero,Int.natCast_one] at hi
  rw [fnT_eq tree201,encT_app]
  simp only [t201]
  simp [-Int.natCast_add,zZ,hg,len11,hi]
theorem x171 {t:Tm} (hg:GoodT t) (hn:nodesT t≤3000) (h:depthT t≤200):fnT (T nat).G 171 [.v (.agg (encT t))] []=some ([.one (ci (depthT t))],[]):=by
 have h3:=x201 (nat:=nat) hg hn 201 (by omega) (by omega)
 rw [fnT_eq tree171]
 simp [t171,zS,h3,encT_len]
theorem x161a (p s:ByteArray) (ts:List Tm):fnT (T nat).G 161 [.v (.agg (encT (.app p s ts)))] []=some ([.one (rows encT ts)],[]):=by
 rw [fnT_eq tree161,encT_app]
 simp [t161,zZ]
theorem x161v (p s:ByteArray):fnT (T nat).G 161 [.v (.agg (encT (.var p s)))] []=some ([.one cz],[]):=by
 rw [fnT_eq tree161]
 simp [t161,zZ,encT]
theorem x161c (o:Ob):fnT (T nat).G 161 [.v (.agg (encT (.con o)))] []=some ([.one cz],[]):=by
 rw [fnT_eq tree161]
 simp [t161,zZ,encT]
theorem x214loop (ts:List Tm) (hm:ts.length < 100000) (n:Int) (h2:n≤3001) (ih:∀t∈ts,∀n:Int,(nodesT t:Int)≤n→n≤3001→fnT (T nat).G 214 [.v (.agg (encT t)),.v (.one (ci n))] []=some ([.one (ci (nodesT t))],[])):∀(m k d:Nat),k+m=ts.length→(d+nodesTs (ts.drop k):Nat)≤n→
  hdT (T nat).G 214 0 [.c (ci n),.c (ci d),.c (rows encT ts),.c (ci k)]=some ([.one (ci ((d+nodesTs (ts.drop k):Nat):Int))],[])
 |0,k,d,hk,h1=>by
  have hlt:¬((k:Int) < (ts.length:Int)):=by omega
  rw [hdT_eq tree214 (t:=t214.heads[0]) rfl,drop_end (by omega)]
  simp [t214,zS,hlt,nodesTs,len11]
 |m+1,k,d,hk,h1=>by
  have hkr:k < ts.length:=by omega
  have hlt:((k:Int) < (ts.length:Int)):=by omega
  rw [drop_at hkr] at h1 ⊢
  simp only [nodesTs] at h1 ⊢
  have hp:=nodesT_pos ts[k]
  have hg:(d:Int) < n:=by omega
  have hsb:binC .sub false (ci n) (ci d)=some (ci (n - d)):=sub_ci (by omega) (by omega)
  have hc:=ih ts[k] (List.getElem_mem hkr) (n - d) (by omega) (by omega)
  have ha:binC .add false (ci d) (ci (nodesT ts[k]))=some (ci ((d+nodesT ts[k]:Nat):Int)):=by
   rw [add_ci (by omega) (by omega)];simp
  have hi:=x214loop ts hm n h2 ih m (k+1) (d+nodesT ts[k]) (by omega) (by omega)
  have hs:=add_nat k (by omega)
  rw [Nat.add_assoc] at hi
  rw [hdT_eq tree214 (t:=t214.heads[0]) rfl]
  simp only [t214]
  simp [-Int.natCast_add,zS,hlt,hg,row11 hkr,len11,hsb,hc,ha,hs,hi,encT_len]
theorem cz_rows:cz=rows encT []:=rfl
theorem x214 {t:Tm} (hg:GoodT t):∀n:Int,(nodesT t:Int)≤n→n≤3001→fnT (T nat).G 214 [.v (.agg (encT t)),.v (.one (ci n))] []=some ([.one (ci (nodesT t))],[]):=by
 induction hg with
 |@var p s h=>
  intro n h1 h2
  simp only [nodesT] at h1 ⊢
  have hi:=x214loop (nat:=nat) [] (by simp) n h2 (fun t ht=>by cases ht) 0 0 1 rfl (by simpa [nodesTs] using h1)
  simp only [List.drop_nil,nodesTs,←cz_rows,Int.natCast_zero,Int.natCast_one,Nat.add_zero] at hi
  have q0:nthC (encT (.var p s)) 0=ci 1:=rfl
  rw [fnT_eq tree214]
  simp [t214,zZ,q0,x161v,hi,encT_len]
 |@con o h ho=>
  intro n h1 h2
  simp only [nodesT] at h1 ⊢
  have hm:mmC false (ci n) (ci (szO o))=some (ci (szO o)):=by
   rw [min_ci]
   exact congrArg (fun x=>some (ci x)) (by omega)
  rw [fnT_eq tree214]
  simp only [encT]
  simp [t214,zZ,nth7,x195 o ho,hm]
 |@app p s ts h hs ih=>
  intro n h1 h2
  simp only [nodesT] at h1 ⊢
  have hl:=len_nodes ts
  have hi:=x214loop ts (by omega) n h2 ih ts.length 0 1 (by omega) (by rw [List.drop_zero];omega)
  rw [List.drop_zero] at hi
  simp only [Int.natCast_zero,Int.natCast_one] at hi
  have q0:nthC (encT (.app p s ts)) 0=ci 3:=rfl
  rw [fnT_eq tree214]
  simp only [t214]
  simp [-Int.natCast_add,zZ,q0,x161a,hi,encT_len]
theorem x181 {t:Tm} (hg:GoodT t) (h:nodesT t≤3000):fnT (T nat).G 181 [.v (.agg (encT t))] []=some ([.one (ci (nodesT t))],[]):=by
 have h3:=x214 (nat:=nat) hg 3001 (by omega) (by omega)
 rw [fnT_eq tree181]
 simp [t181,zS,h3,encT_len]
theorem x215loop (ts:List Tm) (hm:ts.length < 100000) (n:Int) (h2:n≤201) (ih:∀t∈ts,∀n:Int,(depthT t:Int) < n→n≤201→fnT (T nat).G 215 [.v (.agg (encT t)),.v (.one (ci n))] []=some ([.one (ci (depthT t))],[])):∀(m k d:Nat),k+m=ts.length→(1+max d (depthTs (ts.drop k)):Nat) < n→
  hdT (T nat).G 215 0 [.c (ci n),.c (ci d),.c (rows encT ts),.c (ci k)]=some ([.one (ci ((1+max d (depthTs (ts.drop k)):Nat):Int))],[])
 |0,k,d,hk,h1=>by
  have hlt:¬((k:Int) < (ts.length:Int)):=by omega
  rw [hdT_eq tree215 (t:=t215.heads[0]) rfl]
  rw [drop_end (by omega)] at h1 ⊢
  simp only [depthTs] at h1 ⊢
  have ha:binC .add false (ci d) (ci 1)=some (ci ((1+max d 0:Nat):Int)):=by
   rw [add_ci (by omega) (by omega)]
   exact congrArg (fun x=>some (ci x)) (by omega)
  simp only [t215]
  simp [-Int.natCast_add,zS,hlt,len11,ha]
 |m+1,k,d,hk,h1=>by
  have hkr:k < ts.length:=by omega
  have hlt:((k:Int) < (ts.length:Int)):=by omega
  rw [drop_at hkr] at h1 ⊢
  simp only [depthTs] at h1 ⊢
  have hp:=depthT_pos ts[k]
  have hg:(1:Int) < n:=by omega
  have hsb:binC .sub false (ci n) (ci 1)=some (ci (n - 1)):=sub_ci (by omega) (by omega)
  have hc:=ih ts[k] (List.getElem_mem hkr) (n - 1) (by omega) (by omega)
  have hx:mmC true (ci d) (ci (depthT ts[k]))=some (ci ((max d (depthT ts[k]):Nat):Int)):=by
   rw [max_ci]
   exact congrArg (fun x=>some (ci x)) (by omega)
  have hi:=x215loop ts hm n h2 ih m (k+1) (max d (depthT ts[k])) (by omega) (by omega)
  have hs:=add_nat k (by omega)
  have he:max (max d (depthT ts[k])) (depthTs (ts.drop (k+1)))=max d (max (depthT ts[k]) (depthTs (ts.drop (k+1)))):=by omega
  rw [he] at hi
  rw [hdT_eq tree215 (t:=t215.heads[0]) rfl]
  simp only [t215]
  simp [-Int.natCast_add,zS,hlt,hg,row11 hkr,len11,hsb,hc,hx,hs,hi,encT_len]
theorem x215 {t:Tm} (hg:GoodT t) (hn:nodesT t≤3000):∀n:Int,(depthT t:Int) < n→n≤201→fnT (T nat).G 215 [.v (.agg (encT t)),.v (.one (ci n))] []=some ([.one (ci (depthT t))],[]):=by
 induction hg with
 |@var p s h=>
  intro n h1 h2
  simp only [depthT] at h1 ⊢
  have hi:=x215loop (nat:=nat) [] (by simp) n h2 (fun t ht=>by cases ht) 0 0 0 rfl (by simpa [depthTs] using h1)
  simp only [List.drop_nil,depthTs,←cz_rows,Int.natCast_zero] at hi
  rw [fnT_eq tree215]
  simp [t215,zZ,x161v,hi,encT_len]
 |@con o h ho=>
  intro n h1 h2
  simp only [depthT] at h1 ⊢
  have hi:=x215loop (nat:=nat) [] (by simp) n h2 (fun t ht=>by cases ht) 0 0 0 rfl (by simpa [depthTs] using h1)
  simp only [List.drop_nil,depthTs,←cz_rows,Int.natCast_zero] at hi
  rw [fnT_eq tree215]
  simp [t215,zZ,x161c,hi,encT_len]
 |@app p s ts h hs ih=>
  intro n h1 h2
  simp only [nodesT] at hn
  simp only [depthT] at h1 ⊢
  have hl:=len_nodes ts
  have hi:=x215loop ts (by omega) n h2 (fun t ht=>ih t ht (by have:=mem_nodes ht;omega)) ts.length 0 0 (by omega) (by rw [List.drop_zero];omega)
  have he:max 0 (depthTs ts)=depthTs ts:=by omega
  rw [List.drop_zero,he] at hi
  simp only [Int.natCast_zero] at hi
  rw [fnT_eq tree215]
  simp only [t215]
  simp [-Int.natCast_add,zZ,x161a,hi,encT_len]
theorem x182 {t:Tm} (hg:GoodT t) (hn:nodesT t≤3000) (h:depthT t≤200):fnT (T nat).G 182 [.v (.agg (encT t))] []=some ([.one (ci (depthT t))],[]):=by
 have h3:=x215 (nat:=nat) hg hn 201 (by omega) (by omega)
 rw [fnT_eq tree182]
 simp [t182,zS,h3,encT_len]
end
end Go.Ey.Pr

set_option maxHeartbeats 4000000
namespace Go.Ey.Pr
open Go.Ey Go.Ey.Seat
section
variable {nat:Nat→List V→Option (List V)}
theorem x203z:fnT (T nat).G 203 [.v (.agg [ci 0,ce,ce,ce,ce,ce,cz]),.v (.agg [ci 0,ce,ce,ce,ce,ce,cz])] []=some yes:=by
 rw [fnT_eq tree203]
 simp [t203,zZ,yes]
 rw [hdT_eq tree203 (t:=t203.heads[0]) rfl]
 simp [t203,zZ,yes]
theorem x11z:fnT (T nat).G 11 [.v (.agg [ci 0,ce,ce,ce,ce,ce,cz]),.v (.agg [ci 0,ce,ce,ce,ce,ce,cz])] []=some yes:=by
 rw [fnT_eq tree11]
 simp [t11,zZ,yes,x11end]
theorem x11oz (o:Ob):fnT (T nat).G 11 [.v (.agg (enc o)),.v (.agg [ci 0,ce,ce,ce,ce,ce,cz])] []=some ([.one (cb false)],[]):=by
 rw [fnT_eq tree11]
 cases o<;>simp [t11,zZ,enc]
theorem x204 (ha:AtomsOK nat) {p s:ByteArray} (h: .sy p s∈atoms):fnT (T nat).G 204 [.v (.agg [cs p,cs s])] []=some yes:=by
 rw [fnT_eq tree204]
 simp [t204,zZ,yes,x119,x90 ha (.sy p s) h (by simp [szO]),enc_len]
theorem x218 (ha:AtomsOK nat) {p s:ByteArray} (h: .sy p s∈atoms):fnT (T nat).G 218 [.v (.agg [cs p,cs s])] []=some yes:=by
 rw [fnT_eq tree218]
 simp [t218,zZ,yes,ha.v240 p s h]
theorem x202 (ha:AtomsOK nat) {p s:ByteArray} (h: .sy p s∈atoms):fnT (T nat).G 202 [.v (.agg [cs p,cs s])] []=some ([.one (cb (varOK p s))],[]):=by
 rw [fnT_eq tree202]
 cases h1:(decide (p=lispB) && decide (s=nilB))<;>simp [t202,zZ,yes,x204 ha h,x121,x145,oNil,oT,enc,varOK,h1]
theorem x216 (ha:AtomsOK nat) {p s:ByteArray} (h: .sy p s∈atoms):fnT (T nat).G 216 [.v (.agg [cs p,cs s])] []=some ([.one (cb (varOK p s))],[]):=by
 rw [fnT_eq tree216]
 cases h1:(decide (p=lispB) && decide (s=nilB))<;>simp [t216,zZ,yes,x218 ha h,x94,varOK,h1]
theorem x206 {t:Tm} {b:Bool} (h:fnT (T nat).G 172 [.v (.agg (encT t))] []=some ([.one (cb b)],[])):fnT (T nat).G 206 [.v (.agg (encT t))] []=some ([.one (cb !b)],[]):=by
 rw [fnT_eq tree206]
 simp [t206,zZ,h,encT_len]
theorem x402 (ts:List Tm) (hm:ts.length < 100000) (ih:∀t∈ts,fnT (T nat).G 172 [.v (.agg (encT t))] []=some ([.one (cb (formedT t))],[])):∀(m k:Nat),k+m=ts.length→
  ∃r:Int,hdT (T nat).G 402 0 [.c (rows encT ts),.c (ci ts.length),.c (ci k)]=some ([.one (ci r)],[])∧decide (0≤r)=!formedTs (ts.drop k)
 |0,k,hk=>by
  have hlt:¬((k:Int) < (ts.length:Int)):=by omega
  refine ⟨-1,?_,?_⟩
  ·rw [hdT_eq tree402 (t:=t402.heads[0]) rfl]
   simp [t402,zZ,hlt]
  ·rw [drop_end (by omega)];simp [formedTs]
 |m+1,k,hk=>by
  have hkr:k < ts.length:=by omega
  have hlt:((k:Int) < (ts.length:Int)):=by omega
  have hc:=x206 (ih ts[k] (List.getElem_mem hkr))
  have hs:=add_nat k (by omega)
  rw [drop_at hkr]
  simp only [formedTs]
  cases hb:formedT ts[k] with
  |false=>
   rw [hb] at hc
   refine ⟨k,?_,by simp⟩
   rw [hdT_eq tree402 (t:=t402.heads[0]) rfl]
   simp [t402,zZ,hlt,row11 hkr,hc,encT_len]
  |true=>
   rw [hb] at hc
   obtain ⟨r,h1,h2⟩:=x402 ts hm ih m (k+1) (by omega)
   refine ⟨r,?_,by simpa using h2⟩
   rw [hdT_eq tree402 (t:=t402.heads[0]) rfl]
   simp [-Int.natCast_add,t402,zZ,hlt,row11 hkr,hc,hs,h1,encT_len]
theorem x397 (ts:List Tm) (hm:ts.length < 100000) (ih:∀t∈ts,fnT (T nat).G 172 [.v (.agg (encT t))] []=some ([.one (cb (formedT t))],[])):
  fnT (T nat).G 397 [.v (.one (rows encT ts)),.ref 0 0] []=some ([.one (cb !formedTs ts)],[]):=by
 obtain ⟨r,h1,h2⟩:=x402 ts hm ih ts.length 0 (by omega)
 simp only [List.drop_zero,Int.natCast_zero] at h1 h2
 have h3:fnT (T nat).G 402 [.v (.one (rows encT ts)),.ref 0 0] []=some ([.one (ci r)],[]):=by
  rw [fnT_eq tree402]
  simp [t402,zZ,len11,h1]
 rw [fnT_eq tree397]
 simp only [t397]
 simp [zZ,h3,h2]
theorem x172 (ha:AtomsOK nat) {t:Tm} (hg:GoodT t) (hn:nodesT t≤3000):fnT (T nat).G 172 [.v (.agg (encT t))] []=some ([.one (cb (formedT t))],[]):=by
 induction hg with
 |@var p s h=>
  rw [fnT_eq tree172]
  cases hv:varOK p s<;>simp [t172,zZ,encT,formedT,x202 ha h,x203z,yes,hv]
 |@con o h ho=>
  rw [fnT_eq tree172]
  simp only [encT]
  simp [t172,zZ,formedT,x90 ha o h ho,nth7,yes]
 |@app p s ts h hs ih=>
  simp only [nodesT] at hn
  have hl:=len_nodes ts
  have h3:=x397 (nat:=nat) ts (by omega) (fun t ht=>ih t ht (by have:=mem_nodes ht;omega))
  rw [fnT_eq tree172,encT_app]
  by_cases h8:ts.length≤8
  ·have hg:¬(8:Int) < (ts.length:Int):=by omega
   simp [t172,zZ,formedT,x204 ha h,x203z,yes,len11,h3,h8,hg]
  ·have hg:(8:Int) < (ts.length:Int):=by omega
   simp [t172,zZ,formedT,x204 ha h,x203z,yes,len11,h3,h8,hg]
theorem x126 (ha:AtomsOK nat) {t:Tm} (hg:GoodT t) (hn:nodesT t≤3000) (hd:depthT t≤200):fnT (T nat).G 126 [.v (.agg (encT t))] []=some ([.one (cb (formedT t))],[]):=by
 have h1:(nodesT t:Int)≤3000:=by omega
 have h2:(depthT t:Int)≤200:=by omega
 rw [fnT_eq tree126]
 simp [t126,zZ,x170 hg hn,x171 hg hn hd,x172 ha hg hn,h1,h2,encT_len]
theorem x183loop (p s:ByteArray) (ts:List Tm) (hm:ts.length < 100000) (ih:∀t∈ts,fnT (T nat).G 183 [.v (.agg (encT t))] []=some ([.one (cb (formedT t))],[])):∀(m k:Nat),k+m=ts.length→
  hdT (T nat).G 183 0 [.c (ci k),.l (encT (.app p s ts))]=some ([.one (cb (formedTs (ts.drop k)))],[])
 |0,k,hk=>by
  have hlt:¬((k:Int) < (ts.length:Int)):=by omega
  rw [hdT_eq tree183 (t:=t183.heads[0]) rfl,drop_end (by omega),encT_app]
  simp [t183,zZ,hlt,len11,formedTs]
 |m+1,k,hk=>by
  have hkr:k < ts.length:=by omega
  have hlt:((k:Int) < (ts.length:Int)):=by omega
  have hc:=ih ts[k] (List.getElem_mem hkr)
  have hs:=add_nat k (by omega)
  have hi:=x183loop p s ts hm ih m (k+1) (by omega)
  rw [encT_app] at hi
  rw [drop_at hkr,hdT_eq tree183 (t:=t183.heads[0]) rfl,encT_app]
  cases hb:formedT ts[k]<;>rw [hb] at hc<;>simp [-Int.natCast_add,t183,zZ,hlt,len11,formedTs,row11 hkr,hc,hs,hi,encT_len,hb]
theorem x183 (ha:AtomsOK nat) {t:Tm} (hg:GoodT t) (hn:nodesT t≤3000):fnT (T nat).G 183 [.v (.agg (encT t))] []=some ([.one (cb (formedT t))],[]):=by
 induction hg with
 |@var p s h=>
  rw [fnT_eq tree183]
  cases hv:varOK p s<;>simp [t183,zZ,encT,formedT,x216 ha h,x11z,yes,hv]
 |@con o h ho=>
  rw [fnT_eq tree183]
  simp only [encT]
  simp [t183,zZ,formedT,x11oz,x217 ha o h ho,nth7,yes]
 |@app p s ts h hs ih=>
  simp only [nodesT] at hn
  have hl:=len_nodes ts
  have h3:=x183loop (nat:=nat) p s ts (by omega) (fun t ht=>ih t ht (by have:=mem_nodes ht;omega)) ts.length 0 (by omega)
  rw [List.drop_zero,encT_app] at h3
  simp only [Int.natCast_zero] at h3
  rw [fnT_eq tree183,encT_app]
  by_cases h8:ts.length≤8
  ·have hg:¬(8:Int) < (ts.length:Int):=by omega
   simp [t183,zZ,formedT,x218 ha h,x11z,yes,len11,h3,h8,hg]
  ·have hg:(8:Int) < (ts.length:Int):=by omega
   simp [t183,zZ,formedT,x218 ha h,x11z,yes,len11,h3,h8,hg]
theorem x133 (ha:AtomsOK nat) {t:Tm} (hg:GoodT t) (hn:nodesT t≤3000) (hd:depthT t≤200):fnT (T nat).G 133 [.v (.agg (encT t))] []=some ([.one (cb (formedT t))],[]):=by
 have h1:(nodesT t:Int)≤3000:=by omega
 have h2:(depthT t:Int)≤200:=by omega
 rw [fnT_eq tree133]
 simp [t133,zZ,x181 hg hn,x182 hg hn hd,x183 ha hg hn,h1,h2,encT_len]
end
end Go.Ey.Pr

set_option maxHeartbeats 4000000
namespace Go.Ey.Pr
open Go.Ey Go.Ey.Seat
mutual
def eqT:Tm→Tm→Bool
 |.var p s,.var p' s'=>decide (p=p') && decide (s=s')
 |.con o,.con o'=>eqO o o'
 |.app p s ts,.app p' s' ts'=>decide (p=p') && decide (s=s') && eqTs ts ts'
 |_,_=>false
def eqTs:List Tm→List Tm→Bool
 |[],[]=>true
 |t::ts,t'::ts'=>eqT t t' && eqTs ts ts'
 |_,_=>false
end
theorem eqTs_len:∀{a b:List Tm},a.length≠b.length→eqTs a b=false
 |[],[],h=>absurd rfl h
 |[],_::_,_=>rfl
 |_::_,[],_=>rfl
 |x::a,y::b,h=>by
  rw [eqTs,eqTs_len (a:=a) (b:=b) (by simpa using h),Bool.and_false]
section
variable {nat:Nat→List V→Option (List V)}
theorem x203f (a b:Ob):fnT (T nat).G 203 [.v (.agg (enc a)),.v (.agg (enc b))] []=hdT (T nat).G 203 0 [.l (enc a),.l (enc b)]:=by
 rw [fnT_eq tree203]
 simp [t203,zS,enc_len]
theorem x203h (a:Ob):∀b:Ob,hdT (T nat).G 203 0 [.l (enc a),.l (enc b)]=some ([.one (cb (eqO a b))],[]):=by
 induction a with
 |num n d=>
  intro b
  rw [hdT_eq tree203 (t:=t203.heads[0]) rfl]
  cases b with
  |num n' d'=>by_cases h1:n=n'<;>by_cases h2:d=d'<;>simp [t203,zZ,enc,eqO,h1,h2]
  |_=>simp [t203,zZ,enc,eqO]
 |sy p s=>
  intro b
  rw [hdT_eq tree203 (t:=t203.heads[0]) rfl]
  cases b with
  |sy p' s'=>by_cases h1:p=p'<;>by_cases h2:s=s'<;>simp [t203,zZ,enc,eqO,h1,h2]
  |_=>simp [t203,zZ,enc,eqO]
 |st t=>
  intro b
  rw [hdT_eq tree203 (t:=t203.heads[0]) rfl]
  cases b with
  |st t'=>by_cases h1:t=t'<;>simp [t203,zZ,enc,eqO,h1]
  |_=>simp [t203,zZ,enc,eqO]
 |cons a1 a2 ih1 ih2=>
  intro b
  cases b with
  |cons b1 b2=>
   have e1:hdT (T nat).G 203 1 [.c (ci 2),.c (ci 1),.c (ci 1),.l (enc (.cons a1 a2)),.l (enc (.cons b1 b2))]=some ([.one (cb (eqO a2 b2))],[]):=by
    have hs:binC .sub false (ci 2) (ci 1)=some (ci 1):=sub_ci (by omega) (by omega)
    rw [hdT_eq tree203 (t:=t203.heads[1]) rfl]
    simp [t203,zZ,pair0,pair1,hs,ih2,len6,enc_len]
   have e0:hdT (T nat).G 203 1 [.c (ci 2),.c (ci 1),.c (ci 0),.l (enc (.cons a1 a2)),.l (enc (.cons b1 b2))]=some ([.one (cb (eqO a1 b1 && eqO a2 b2))],[]):=by
    have hs:binC .add false (ci 0) (ci 1)=some (ci 1):=add_ci (by omega) (by omega)
    rw [hdT_eq tree203 (t:=t203.heads[1]) rfl]
    cases h:eqO a1 b1<;>simp [t203,zZ,pair0,pair1,x203f,ih1,h,hs,e1,len6,enc_len]
   have hs:binC .sub false (ci 2) (ci 1)=some (ci 1):=sub_ci (by omega) (by omega)
   have q0:nthC (enc (.cons a1 a2)) 0=ci 4:=rfl
   have q1:nthC (enc (.cons a1 a2)) 1=ce:=rfl
   have q2:nthC (enc (.cons a1 a2)) 2=ce:=rfl
   have q3:nthC (enc (.cons a1 a2)) 3=ce:=rfl
   have q4:nthC (enc (.cons a1 a2)) 4=ce:=rfl
   have q5:nthC (enc (.cons a1 a2)) 5=ce:=rfl
   have p0:nthC (enc (.cons b1 b2)) 0=ci 4:=rfl
   have p1:nthC (enc (.cons b1 b2)) 1=ce:=rfl
   have p2:nthC (enc (.cons b1 b2)) 2=ce:=rfl
   have p3:nthC (enc (.cons b1 b2)) 3=ce:=rfl
   have p4:nthC (enc (.cons b1 b2)) 4=ce:=rfl
   have p5:nthC (enc (.cons b1 b2)) 5=ce:=rfl
   rw [hdT_eq tree203 (t:=t203.heads[0]) rfl]
   simp [t203,zZ,eqO,e0,enc_len,len6,hs,q0,q1,q2,q3,q4,q5,p0,p1,p2,p3,p4,p5]
  |_=>
   rw [hdT_eq tree203 (t:=t203.heads[0]) rfl]
   simp [t203,zZ,enc,eqO]
theorem x203 (a b:Ob):fnT (T nat).G 203 [.v (.agg (enc a)),.v (.agg (enc b))] []=some ([.one (cb (eqO a b))],[]):=by
 rw [x203f,x203h]
theorem x398loop (us bs:List Tm) (hm:us.length < 100000) (he:us.length=bs.length) (ih:∀a∈us,∀b,fnT (T nat).G 175 [.v (.agg (encT a)),.v (.agg (encT b))] []=some ([.one (cb (eqT a b))],[])):∀(m k:Nat),k+m=us.length→
  hdT (T nat).G 398 0 [.c (rows encT bs),.c (rows encT us),.c (ci us.length),.c (ci k)]=some ([.one (cb (eqTs (us.drop k) (bs.drop k)))],[])
 |0,k,hk=>by
  have hlt:¬((k:Int) < (us.length:Int)):=by omega
  rw [hdT_eq tree398 (t:=t398.heads[0]) rfl,drop_end (by omega),drop_end (by omega)]
  simp [t398,zZ,hlt,eqTs]
 |m+1,k,hk=>by
  have hkr:k < us.length:=by omega
  have hkb:k < bs.length:=by omega
  have hlt:((k:Int) < (us.length:Int)):=by omega
  have hc:=ih us[k] (List.getElem_mem hkr) bs[k]
  have hs:=add_nat k (by omega)
  have hi:=x398loop us bs hm he ih m (k+1) (by omega)
  rw [drop_at hkr,drop_at hkb,hdT_eq tree398 (t:=t398.heads[0]) rfl]
  cases hb:eqT us[k] bs[k]<;>rw [hb] at hc<;>simp [-Int.natCast_add,t398,zZ,hlt,eqTs,row11 hkr,row11 hkb,hc,hs,hi,encT_len,hb]
theorem x398 (us bs:List Tm) (hm:us.length < 100000) (ih:∀a∈us,∀b,fnT (T nat).G 175 [.v (.agg (encT a)),.v (.agg (encT b))] []=some ([.one (cb (eqT a b))],[])):
  fnT (T nat).G 398 [.v (.one (rows encT us)),.v (.one (rows encT bs)),.ref 0 0] []=some ([.one (cb (eqTs us bs))],[]):=by
 rw [fnT_eq tree398]
 by_cases he:us.length=bs.length
 ·have h3:=x398loop us bs hm he ih us.length 0 (by omega)
  simp only [List.drop_zero,Int.natCast_zero] at h3
  rw [he] at h3
  have hb:(((us.length:Int))==(bs.length:Int))=true:=by rw [he];exact beq_self_eq_true _
  simp [t398,zZ,len11,he,h3]
 ·have hb:((us.length:Int)==(bs.length:Int))=false:=beq_eq_false_iff_ne.2 (by omega)
  simp [t398,zZ,len11,hb,eqTs_len he]
theorem x398n:fnT (T nat).G 398 [.v (.one cz),.v (.one cz),.ref 0 0] []=some yes:=by
 have:=x398 (nat:=nat) [] [] (by simp) (fun a h=>by cases h)
 simpa [rows_nil,eqTs,yes] using this
theorem x175 {a:Tm} (hg:GoodT a) (hn:nodesT a≤3000):∀b,fnT (T nat).G 175 [.v (.agg (encT a)),.v (.agg (encT b))] []=some ([.one (cb (eqT a b))],[]):=by
 induction hg with
 |@var p s h=>
  intro b
  rw [fnT_eq tree175]
  cases b with
  |var p' s'=>cases h1:(decide (p=p') && decide (s=s'))<;>simp [t175,zZ,encT,eqT,x203z,yes,x398n,h1]
  |con o=>simp [t175,zZ,encT,eqT]
  |app p' s' ts'=>simp [t175,zZ,encT_app,eqT];simp [encT,zZ]
 |@con o h ho=>
  intro b
  rw [fnT_eq tree175]
  cases b with
  |con o'=>
   simp only [encT]
   cases h1:eqO o o'<;>simp [t175,zZ,eqT,x203,yes,x398n,h1,nth7]
  |var p' s'=>simp [t175,zZ,encT,eqT]
  |app p' s' ts'=>simp [t175,zZ,encT_app,eqT];simp [encT,zZ]
 |@app p s ts h hs ih=>
  intro b
  simp only [nodesT] at hn
  have hl:=len_nodes ts
  rw [fnT_eq tree175,encT_app]
  cases b with
  |app p' s' ts'=>
   have h3:=x398 (nat:=nat) ts ts' (by omega) (fun t ht=>ih t ht (by have:=mem_nodes ht;omega))
   rw [encT_app]
   cases h1:(decide (p=p') && decide (s=s'))<;>simp [t175,zZ,eqT,x203z,yes,h3,h1]
  |var p' s'=>simp [t175,zZ,encT,eqT]
  |con o=>simp [t175,zZ,encT,eqT]
theorem x146loop (us bs:List Tm) (hm:us.length < 100000) (he:us.length=bs.length) (ih:∀a∈us,∀b,fnT (T nat).G 84 [.v (.agg (encT a)),.v (.agg (encT b))] []=some ([.one (cb (eqT a b))],[])):∀(m k:Nat),k+m=us.length→
  hdT (T nat).G 146 0 [.c (rows encT us),.c (rows encT bs),.c (ci k)]=some ([.one (cb (eqTs (us.drop k) (bs.drop k)))],[])
 |0,k,hk=>by
  have hlt:¬((k:Int) < (us.length:Int)):=by omega
  rw [hdT_eq tree146 (t:=t146.heads[0]) rfl,drop_end (by omega),drop_end (by omega)]
  simp [t146,zZ,hlt,eqTs,len11]
 |m+1,k,hk=>by
  have hkr:k < us.length:=by omega
  have hkb:k < bs.length:=by omega
  have hlt:((k:Int) < (us.length:Int)):=by omega
  have hc:=ih us[k] (List.getElem_mem hkr) bs[k]
  have hs:=add_nat k (by omega)
  have hi:=x146loop us bs hm he ih m (k+1) (by omega)
  rw [drop_at hkr,drop_at hkb,hdT_eq tree146 (t:=t146.heads[0]) rfl]
  cases hb:eqT us[k] bs[k]<;>rw [hb] at hc<;>simp [-Int.natCast_add,t146,zZ,hlt,len11,eqTs,row11 hkr,row11 hkb,hc,hs,hi,encT_len,hb]
theorem x146 (us bs:List Tm) (hm:us.length < 100000) (ih:∀a∈us,∀b,fnT (T nat).G 84 [.v (.agg (encT a)),.v (.agg (encT b))] []=some ([.one (cb (eqT a b))],[])):
  fnT (T nat).G 146 [.v (.one (rows encT us)),.v (.one (rows encT bs))] []=some ([.one (cb (eqTs us bs))],[]):=by
 rw [fnT_eq tree146]
 by_cases he:us.length=bs.length
 ·have h3:=x146loop us bs hm he ih us.length 0 (by omega)
  simp only [List.drop_zero,Int.natCast_zero] at h3
  simp [t146,zZ,len11,he,h3]
 ·have hb:((us.length:Int)==(bs.length:Int))=false:=beq_eq_false_iff_ne.2 (by omega)
  simp [t146,zZ,len11,hb,eqTs_len he]
theorem x146n:fnT (T nat).G 146 [.v (.one cz),.v (.one cz)] []=some yes:=by
 have:=x146 (nat:=nat) [] [] (by simp) (fun a h=>by cases h)
 simpa [rows_nil,eqTs,yes] using this
theorem x84 {a:Tm} (hg:GoodT a) (hn:nodesT a≤3000):∀b,fnT (T nat).G 84 [.v (.agg (encT a)),.v (.agg (encT b))] []=some ([.one (cb (eqT a b))],[]):=by
 induction hg with
 |@var p s h=>
  intro b
  rw [fnT_eq tree84]
  cases b with
  |var p' s'=>cases h1:(decide (p=p') && decide (s=s'))<;>simp [t84,zZ,encT,eqT,x11z,yes,x146n,h1]
  |con o=>simp [t84,zZ,encT,eqT]
  |app p' s' ts'=>simp [t84,zZ,encT_app,eqT];simp [encT,zZ]
 |@con o h ho=>
  intro b
  rw [fnT_eq tree84]
  cases b with
  |con o'=>
   simp only [encT]
   cases h1:eqO o o'<;>simp [t84,zZ,eqT,x11,yes,x146n,h1,nth7]
  |var p' s'=>simp [t84,zZ,encT,eqT]
  |app p' s' ts'=>simp [t84,zZ,encT_app,eqT];simp [encT,zZ]
 |@app p s ts h hs ih=>
  intro b
  simp only [nodesT] at hn
  have hl:=len_nodes ts
  rw [fnT_eq tree84,encT_app]
  cases b with
  |app p' s' ts'=>
   have h3:=x146 (nat:=nat) ts ts' (by omega) (fun t ht=>ih t ht (by have:=mem_nodes ht;omega))
   rw [encT_app]
   cases h1:(decide (p=p') && decide (s=s'))<;>simp [t84,zZ,eqT,x11z,yes,h3,h1]
  |var p' s'=>simp [t84,zZ,encT,eqT]
  |con o=>simp [t84,zZ,encT,eqT]
end
end Go.Ey.Pr

set_option maxHeartbeats 4000000
namespace Go.Ey.Pr
open Go.Ey Go.Ey.Seat
def inT:List Tm→Tm→Bool
 |[],_=>false
 |x::xs,t=>eqT x t||inT xs t
def validFrom (pre:List Tm):List Tm→Bool
 |[]=>true
 |t::r=>formedT t && !inT pre t && validFrom (pre++[t]) r
def validC (ts:List Tm):Bool:=decide (ts.length≤60) && validFrom [] ts
def OKT (t:Tm):Prop:=GoodT t∧nodesT t≤3000∧depthT t≤200
def OKC (ts:List Tm):Prop:=∀t∈ts,OKT t
section
variable {nat:Nat→List V→Option (List V)}
theorem x174 {x:Tm} (h:OKT x) (t:Tm):fnT (T nat).G 174 [.v (.agg (encT x)),.ref 0 0] [encT t]=some ([.one (cb (eqT x t))],[encT t]):=by
 rw [fnT_eq tree174]
 simp [t174,zZ,x175 h.1 h.2.1 t,encT_len]
theorem x401loop (ts:List Tm) (hm:ts.length < 100000) (hk:OKC ts) (t:Tm):∀(m k:Nat),k+m=ts.length→
  ∃r:Int,hdT (T nat).G 401 0 [.c (rows encT ts),.c (ci ts.length),.c (ci k),.l (encT t)]=some ([.one (ci r)],[encT t])∧decide (0≤r)=inT (ts.drop k) t
 |0,k,hk=>by
  have hlt:¬((k:Int) < (ts.length:Int)):=by omega
  refine ⟨-1,?_,?_⟩
  ·rw [hdT_eq tree401 (t:=t401.heads[0]) rfl]
   simp [t401,zZ,hlt,encT_len]
  ·rw [drop_end (by omega)];simp [inT]
 |m+1,k,hk'=>by
  have hkr:k < ts.length:=by omega
  have hlt:((k:Int) < (ts.length:Int)):=by omega
  have hc:=x174 (nat:=nat) (hk ts[k] (List.getElem_mem hkr)) t
  have hs:=add_nat k (by omega)
  rw [drop_at hkr]
  simp only [inT]
  cases hb:eqT ts[k] t with
  |true=>
   rw [hb] at hc
   refine ⟨k,?_,by simp⟩
   rw [hdT_eq tree401 (t:=t401.heads[0]) rfl]
   simp [t401,zZ,hlt,row11 hkr,hc,encT_len]
  |false=>
   rw [hb] at hc
   obtain ⟨r,h1,h2⟩:=x401loop ts hm hk t m (k+1) (by omega)
   refine ⟨r,?_,by simpa using h2⟩
   rw [hdT_eq tree401 (t:=t401.heads[0]) rfl]
   simp [-Int.natCast_add,t401,zZ,hlt,row11 hkr,hc,hs,h1,encT_len]
theorem x127 (ts:List Tm) (hm:ts.length < 100000) (hk:OKC ts) (t:Tm):fnT (T nat).G 127 [.v (.one (rows encT ts)),.v (.agg (encT t))] []=some ([.one (cb (inT ts t))],[]):=by
 obtain ⟨r,h1,h2⟩:=x401loop (nat:=nat) ts hm hk t ts.length 0 (by omega)
 simp only [List.drop_zero,Int.natCast_zero] at h1 h2
 have h3:fnT (T nat).G 401 [.v (.one (rows encT ts)),.ref 0 0] [encT t]=some ([.one (ci r)],[encT t]):=by
  rw [fnT_eq tree401]
  simp [t401,zZ,len11,h1,encT_len]
 have h4:fnT (T nat).G 396 [.v (.one (rows encT ts)),.ref 0 0] [encT t]=some ([.one (cb (inT ts t))],[encT t]):=by
  rw [fnT_eq tree396]
  simp only [t396]
  simp [zZ,h3,h2,encT_len]
 rw [fnT_eq tree127]
 simp [t127,zZ,h4,encT_len]
theorem x116loop (ts:List Tm) (hm:ts.length < 100000) (hk:OKC ts) (t:Tm):∀(m k:Nat),k+m=ts.length→
  hdT (T nat).G 116 0 [.c (rows encT ts),.c (ci k),.l (encT t)]=some ([.one (cb (inT (ts.drop k) t))],[])
 |0,k,hk=>by
  have hlt:¬((k:Int) < (ts.length:Int)):=by omega
  rw [hdT_eq tree116 (t:=t116.heads[0]) rfl,drop_end (by omega)]
  simp [t116,zZ,hlt,len11,inT]
 |m+1,k,hk'=>by
  have hkr:k < ts.length:=by omega
  have hlt:((k:Int) < (ts.length:Int)):=by omega
  have ho:=hk ts[k] (List.getElem_mem hkr)
  have hc:=x84 (nat:=nat) ho.1 ho.2.1 t
  have hs:=add_nat k (by omega)
  have hi:=x116loop ts hm hk t m (k+1) (by omega)
  rw [drop_at hkr,hdT_eq tree116 (t:=t116.heads[0]) rfl]
  cases hb:eqT ts[k] t<;>rw [hb] at hc<;>simp [-Int.natCast_add,t116,zZ,hlt,len11,inT,row11 hkr,hc,hs,hi,encT_len,hb]
theorem x116 (ts:List Tm) (hm:ts.length < 100000) (hk:OKC ts) (t:Tm):fnT (T nat).G 116 [.v (.one (rows encT ts)),.v (.agg (encT t))] []=some ([.one (cb (inT ts t))],[]):=by
 have h3:=x116loop (nat:=nat) ts hm hk t ts.length 0 (by omega)
 simp only [List.drop_zero,Int.natCast_zero] at h3
 rw [fnT_eq tree116]
 simp [t116,zZ,h3,encT_len]
theorem okc_take {ts:List Tm} (h:OKC ts) (k:Nat):OKC (ts.take k):=fun t ht=>h t (List.mem_of_mem_take ht)
theorem x43loop (ha:AtomsOK nat) (ts:List Tm) (hm:ts.length < 100000) (hk:OKC ts):∀(m k:Nat),k+m=ts.length→
  hdT (T nat).G 43 0 [.c (rows encT ts),.c (rows encT ts),.c (ci ts.length),.c (ci k)]=some ([.one (cb (validFrom (ts.take k) (ts.drop k)))],[])
 |0,k,hk=>by
  have hlt:¬((k:Int) < (ts.length:Int)):=by omega
  rw [hdT_eq tree43 (t:=t43.heads[0]) rfl,drop_end (by omega)]
  simp [t43,zZ,hlt,validFrom]
 |m+1,k,hk'=>by
  have hkr:k < ts.length:=by omega
  have hlt:((k:Int) < (ts.length:Int)):=by omega
  have ho:=hk ts[k] (List.getElem_mem hkr)
  have hf:=x126 ha ho.1 ho.2.1 ho.2.2
  have hsub:subC 11 none (some (ci k)) (rows encT ts)=some (rows encT (ts.take k)):=sub_rows encT_len (by omega)
  have hc:=x127 (nat:=nat) (ts.take k) (by rw [List.length_take];omega) (okc_take hk k) ts[k]
  have hs:=add_nat k (by omega)
  have hi:=x43loop ha ts hm hk m (k+1) (by omega)
  have ht:ts.take (k+1)=ts.take k++[ts[k]]:=by rw [List.take_succ_eq_append_getElem hkr]
  rw [ht] at hi
  rw [drop_at hkr,hdT_eq tree43 (t:=t43.heads[0]) rfl]
  cases hb:formedT ts[k]<;>cases hb2:inT (ts.take k) ts[k]<;>rw [hb] at hf<;>rw [hb2] at hc<;>simp [-Int.natCast_add,t43,zZ,hlt,validFrom,row11 hkr,hsub,hf,hc,hs,hi,encT_len,hb,hb2]
theorem x43 (ha:AtomsOK nat) (ts:List Tm) (hm:ts.length < 100000) (hk:OKC ts):fnT (T nat).G 43 [.v (.one (rows encT ts))] []=some ([.one (cb (validC ts))],[]):=by
 have h3:=x43loop ha ts hm hk ts.length 0 (by omega)
 simp only [List.drop_zero,List.take_zero,Int.natCast_zero] at h3
 rw [fnT_eq tree43]
 by_cases h:ts.length≤60
 ·have hg:¬(60:Int) < (ts.length:Int):=by omega
  simp [t43,zZ,len11,hg,h,h3,validC]
 ·have hg:(60:Int) < (ts.length:Int):=by omega
  simp [t43,zZ,len11,hg,h,validC]
theorem x53loop (ha:AtomsOK nat) (ts:List Tm) (hm:ts.length < 100000) (hk:OKC ts):∀(m k:Nat),k+m=ts.length→
  hdT (T nat).G 53 0 [.c (rows encT ts),.c (ci k)]=some ([.one (cb (validFrom (ts.take k) (ts.drop k)))],[])
 |0,k,hk=>by
  have hlt:¬((k:Int) < (ts.length:Int)):=by omega
  rw [hdT_eq tree53 (t:=t53.heads[0]) rfl,drop_end (by omega)]
  simp [t53,zZ,hlt,len11,validFrom]
 |m+1,k,hk'=>by
  have hkr:k < ts.length:=by omega
  have hlt:((k:Int) < (ts.length:Int)):=by omega
  have ho:=hk ts[k] (List.getElem_mem hkr)
  have hf:=x133 ha ho.1 ho.2.1 ho.2.2
  have hsub:subC 11 none (some (ci k)) (rows encT ts)=some (rows encT (ts.take k)):=sub_rows encT_len (by omega)
  have hc:=x116 (nat:=nat) (ts.take k) (by rw [List.length_take];omega) (okc_take hk k) ts[k]
  have hs:=add_nat k (by omega)
  have hi:=x53loop ha ts hm hk m (k+1) (by omega)
  have ht:ts.take (k+1)=ts.take k++[ts[k]]:=by rw [List.take_succ_eq_append_getElem hkr]
  rw [ht] at hi
  rw [drop_at hkr,hdT_eq tree53 (t:=t53.heads[0]) rfl]
  cases hb:formedT ts[k]<;>cases hb2:inT (ts.take k) ts[k]<;>rw [hb] at hf<;>rw [hb2] at hc<;>simp [-Int.natCast_add,t53,zZ,hlt,len11,validFrom,row11 hkr,hsub,hf,hc,hs,hi,encT_len,hb,hb2]
theorem x53 (ha:AtomsOK nat) (ts:List Tm) (hm:ts.length < 100000) (hk:OKC ts):fnT (T nat).G 53 [.v (.one (rows encT ts))] []=some ([.one (cb (validC ts))],[]):=by
 have h3:=x53loop ha ts hm hk ts.length 0 (by omega)
 simp only [List.drop_zero,List.take_zero,Int.natCast_zero] at h3
 rw [fnT_eq tree53]
 by_cases h:ts.length≤60
 ·have hg:¬(60:Int) < (ts.length:Int):=by omega
  simp [t53,zZ,len11,hg,h,h3,validC]
 ·have hg:(60:Int) < (ts.length:Int):=by omega
  simp [t53,zZ,len11,hg,h,validC]
end
end Go.Ey.Pr

set_option maxHeartbeats 4000000
namespace Go.Ey.Pr
open Go.Ey Go.Ey.Seat
def hO:Ob→Nat
 |.cons a b=>max (hO a+1) (hO b)
 |_=>1
theorem hO_pos:∀o:Ob,1≤hO o
 |.cons a b=>by have:=hO_pos a;simp only [hO];omega
 |.num _ _=>Nat.le_refl _
 |.sy _ _=>Nat.le_refl _
 |.st _=>Nat.le_refl _
theorem items_good:∀{o:Ob} {l:List Ob},items o=some l→Good o→∀x∈l,Good x∧hO x+1≤hO o
 |.sy p s,l,h,hg=>by
  simp only [items] at h
  split at h
  ·simp only [Option.some.injEq] at h;subst h;simp
  ·cases h
 |.num _ _,l,h,hg=>by simp [items,isNilO] at h
 |.st _,l,h,hg=>by simp [items,isNilO] at h
 |.cons a b,l,h,hg=>by
  simp only [items,Option.map_eq_some_iff] at h
  obtain ⟨r,h1,rfl⟩:=h
  have h3:=items_good h1 hg.2
  intro x hx
  simp only [hO]
  rcases List.mem_cons.1 hx with rfl|hx
  ·exact ⟨hg.1,by omega⟩
  ·have:=h3 x hx;exact ⟨this.1,by omega⟩
theorem unqP_good:∀o:Ob,Good o→szO o≤3000→
  (∀t,(unqP o).1=some t→GoodT t∧nodesT t≤szO o∧depthT t≤hO o)∧(∀ts,(unqP o).2=some ts→(∀t∈ts,GoodT t)∧nodesTs ts≤szO o∧depthTs ts+1≤hO o)
 |.sy p s,hg,hz=>by
  constructor
  ·intro t h
   simp only [unqP,Option.some.injEq] at h
   subst h
   exact ⟨.var hg,by simp [nodesT,szO],by simp [depthT,hO]⟩
  ·intro ts h
   simp only [unqP] at h
   split at h
   ·simp only [Option.some.injEq] at h
    subst h
    exact ⟨fun t ht=>(by cases ht),by simp [nodesTs],by simp [depthTs,hO]⟩
   ·cases h
 |.num _ _,hg,hz=>by simp [unqP]
 |.st _,hg,hz=>by simp [unqP]
 |.cons a b,hg,hz=>by
  simp only [szO] at hz
  obtain ⟨a1,a2⟩:=unqP_good a hg.1 (by omega)
  obtain ⟨b1,b2⟩:=unqP_good b hg.2 (by omega)
  constructor
  ·intro t h
   simp only [szO,hO]
   cases a with
   |sy p s=>
    simp only [unqP] at h
    split at h
    ·split at h
     ·rename_i x hi
      simp only [Option.some.injEq] at h
      subst h
      have h1:=(items_sz hi).2 x (by simp)
      have h2:=items_good hi hg.2 x (by simp)
      exact ⟨.con h2.1 (by omega),by simp only [nodesT];omega,by have:=hO_pos b;simp only [depthT];omega⟩
     ·cases h
    ·simp only [Option.map_eq_some_iff] at h
     obtain ⟨ts,h1,rfl⟩:=h
     obtain ⟨c1,c2,c3⟩:=b2 ts h1
     exact ⟨.app hg.1 c1,by simp only [nodesT,szO];omega,by simp only [depthT];omega⟩
   |_=>simp [unqP] at h
  ·intro ts h
   simp only [unqP,Option.bind_eq_some_iff] at h
   obtain ⟨t,h1,ts',h2,h3⟩:=h
   simp only [Option.some.injEq] at h3
   subst h3
   obtain ⟨c1,c2,c3⟩:=a1 t h1
   obtain ⟨d1,d2,d3⟩:=b2 ts' h2
   refine ⟨fun x hx=>?_,by simp only [nodesTs,szO];omega,by simp only [depthTs,hO];omega⟩
   rcases List.mem_cons.1 hx with rfl|hx
   ·exact c1
   ·exact d1 x hx
structure OKO (o:Ob):Prop where
 good:Good o
 sz:szO o≤3000
 dp:hO o≤200
theorem unq_ok {o:Ob} (h:OKO o) {t:Tm} (hu:unq o=some t):OKT t:=by
 obtain ⟨h1,h2,h3⟩:=(unqP_good o h.good h.sz).1 t hu
 exact ⟨h1,Nat.le_trans h2 h.sz,Nat.le_trans h3 h.dp⟩
def unqV (o:Ob):Option Tm:=(unq o).bind fun t=>if formedT t then some t else none
theorem unqV_ok {o:Ob} (h:OKO o) {t:Tm} (hu:unqV o=some t):OKT t:=by
 simp only [unqV,Option.bind_eq_some_iff] at hu
 obtain ⟨t',h1,h2⟩:=hu
 split at h2
 ·simp only [Option.some.injEq] at h2;subst h2;exact unq_ok h h1
 ·cases h2
section
variable {nat:Nat→List V→Option (List V)}
theorem x42 (ha:AtomsOK nat) {o:Ob} (h:OKO o):fnT (T nat).G 42 [.v (.agg (enc o))] []=some (unqR (unqV o)):=by
 have h1:=x90 ha o h.good h.sz
 have h2:=x125 (nat:=nat) (szO o) o (Nat.le_refl _) (by have:=h.sz;omega)
 rw [fnT_eq tree42]
 cases hu:unq o with
 |none=>
  rw [hu] at h2
  simp [t42,zZ,enc_len,h1,h2,yes,unqV,hu,unqR,zT]
 |some t=>
  rw [hu] at h2
  obtain ⟨g1,g2,g3⟩:=unq_ok h hu
  have h3:=x126 ha g1 g2 g3
  cases hf:formedT t<;>rw [hf] at h3<;>simp [t42,zZ,enc_len,h1,h2,h3,yes,unqV,hu,unqR,zT,hf,encT_len]
theorem x52 (ha:AtomsOK nat) {o:Ob} (h:OKO o):fnT (T nat).G 52 [.v (.agg (enc o))] []=some (unqR (unqV o)):=by
 have h2:=x132 (nat:=nat) (szO o) o (Nat.le_refl _) (by have:=h.sz;omega)
 rw [fnT_eq tree52]
 cases hu:unq o with
 |none=>
  rw [hu] at h2
  simp [t52,zZ,enc_len,h2,yes,unqV,hu,unqR,zT]
 |some t=>
  rw [hu] at h2
  obtain ⟨g1,g2,g3⟩:=unq_ok h hu
  have h3:=x133 ha g1 g2 g3
  cases hf:formedT t<;>rw [hf] at h3<;>simp [t52,zZ,enc_len,h2,h3,yes,unqV,hu,unqR,zT,hf,encT_len]
def encC (ts:List Tm):List C:=[rows encT ts]
theorem encC_len (ts:List Tm):(encC ts).length=1:=rfl
def clsV (o:Ob):Option (List Tm):=(items o).bind fun l=>(mapO unqV l).bind fun ts=>if validC ts then some ts else none
def clsO (o:Ob):Option (List (List Tm)):=(items o).bind (mapO clsV)
def clsR (r:Option (List (List Tm))):R:=match r with|some cl=>([.one (rows encC cl),.one (cb true)],[])|none=>([.one cz,.one (cb false)],[])
theorem app1 {acc:List (List Tm)} {x:List Tm} (h:acc.length < 1000000):appC 1 24 (.slice [rows encT x] 1) (rows encC acc)=some (rows encC (acc++[x])):=
 app_row (f:=encC) encC_len (by decide) (by simp only [roomMax];omega) (by simp only [roomMax];omega)
theorem lits1 (c:C):litsC 1 1 [c]=some (.slice [c] 1):=by simp [litsC,roomMax]
theorem row7 {l:List Ob} {k:Nat} (h:k < l.length):rowC 7 (rows enc l) (ci k)=some (enc l[k]):=row_at enc_len (List.getElem?_eq_getElem h)
theorem len7 (l:List Ob):lenC false (rows enc l)=some (ci l.length):=rfl
theorem oko_items {o:Ob} (h:OKO o) {l:List Ob} (hi:items o=some l):∀x∈l,OKO x:=fun x hx=>by
 have h1:=items_good hi h.good x hx
 have h2:=(items_sz hi).2 x hx
 have h3:=h.sz
 have h4:=h.dp
 exact ⟨h1.1,by omega,by omega⟩
theorem mapO_ok {l:List Ob} (h:∀x∈l,OKO x):∀{ts:List Tm},mapO unqV l=some ts→OKC ts∧ts.length=l.length:=by
 induction l with
 |nil=>intro ts hm;simp only [mapO,Option.some.injEq] at hm;subst hm;exact ⟨fun t ht=>(by cases ht),rfl⟩
 |cons x xs ih=>
  intro ts hm
  simp only [mapO,Option.bind_eq_some_iff] at hm
  obtain ⟨y,h1,ys,h2,h3⟩:=hm
  simp only [Option.some.injEq] at h3
  subst h3
  obtain ⟨g1,g2⟩:=ih (fun z hz=>h z (List.mem_cons_of_mem _ hz)) h2
  refine ⟨fun t ht=>?_,by simp [g2]⟩
  rcases List.mem_cons.1 ht with rfl|ht
  ·exact unqV_ok (h x (List.mem_cons_self)) h1
  ·exact g1 t ht
theorem x13in (ha:AtomsOK nat) (L:C) (n k:Int) (acc:C) (l:List Ob) (hm:l.length < 100000) (hl:∀x∈l,OKO x):∀(m j:Nat) (acI:List Tm),j+m=l.length→acI.length=j→OKC acI→
  hdT (T nat).G 13 1 [.c L,.c (ci n),.c (ci k),.c (rows enc l),.c (ci l.length),.c (ci j),.c acc,.c (rows encT acI)]=
   match mapO unqV (l.drop j) with
   |none=>some (clsR none)
   |some ts=>if validC (acI++ts) then
     ((appC 1 24 (.slice [rows encT (acI++ts)] 1) acc).bind fun acc'=>(binC .add false (ci k) (ci 1)).bind fun k'=>hdT (T nat).G 13 0 [.c L,.c (ci n),.c k',.c acc'])
    else some (clsR none)
 |0,j,acI,hj,hc,ho=>by
  have hlt:¬((j:Int) < (l.length:Int)):=by omega
  have h43:=x43 ha acI (by omega) ho
  rw [hdT_eq tree13 (t:=t13.heads[1]) rfl,drop_end (by omega)]
  cases hv:validC acI<;>rw [hv] at h43<;>simp [t13,zZ,hlt,mapO,h43,hv,lits1,clsR]
 |m+1,j,acI,hj,hc,ho=>by
  have hjr:j < l.length:=by omega
  have hlt:((j:Int) < (l.length:Int)):=by omega
  have hx:=hl l[j] (List.getElem_mem hjr)
  have hu:=x42 ha hx
  have hs:=add_nat j (by omega)
  rw [hdT_eq tree13 (t:=t13.heads[1]) rfl,drop_at hjr]
  cases hv:unqV l[j] with
  |none=>
   rw [hv] at hu
   simp [t13,zZ,hlt,row7 hjr,hu,mapO,hv,clsR,unqR,zT,enc_len]
  |some t=>
   rw [hv] at hu
   have hap:=app11 (acc:=acI) (x:=t) (by omega)
   have hi:=x13in ha L n k acc l hm hl m (j+1) (acI++[t]) (by omega) (by simp [hc]) (fun x hx'=>by
    rcases List.mem_append.1 hx' with h|h
    ·exact ho x h
    ·simp only [List.mem_singleton] at h;subst h;exact unqV_ok hx hv)
   simp [-Int.natCast_add,t13,zZ,hlt,row7 hjr,hu,mapO,hv,unqR,lits11,hap,hs,encT_len,enc_len]
   rw [hi]
   cases mapO unqV (l.drop (j+1))<;>simp
theorem add_i (k:Nat) (h:k < 1000000):binC .add false (ci (k:Int)) (ci 1)=some (ci ((k+1:Nat):Int)):=add_nat k h
theorem x13out (ha:AtomsOK nat) (l:List Ob) (hm:l.length < 100000) (hl:∀x∈l,OKO x):∀(m k:Nat) (acc:List (List Tm)),k+m=l.length→acc.length=k→
  hdT (T nat).G 13 0 [.c (rows enc l),.c (ci l.length),.c (ci k),.c (rows encC acc)]=some (clsR ((mapO clsV (l.drop k)).map fun cl=>acc++cl))
 |0,k,acc,hk,hc=>by
  have hlt:¬((k:Int) < (l.length:Int)):=by omega
  rw [hdT_eq tree13 (t:=t13.heads[0]) rfl,drop_end (by omega)]
  simp [t13,zZ,hlt,mapO,clsR]
 |m+1,k,acc,hk,hc=>by
  have hkr:k < l.length:=by omega
  have hlt:((k:Int) < (l.length:Int)):=by omega
  have hx:=hl l[k] (List.getElem_mem hkr)
  have hi:=x41 (nat:=nat) l[k] (by have:=hx.sz;simp only [lim];omega)
  rw [hdT_eq tree13 (t:=t13.heads[0]) rfl,drop_at hkr]
  cases hit:items l[k] with
  |none=>
   rw [hit] at hi
   simp [t13,zZ,hlt,row7 hkr,hi,itemsR,mapO,clsV,hit,clsR,enc_len]
  |some b=>
   rw [hit] at hi
   have hz:=(items_sz hit).1
   have hin:=x13in ha (rows enc l) l.length k (rows encC acc) b (by have:=hx.sz;omega) (oko_items hx hit) b.length 0 [] (by omega) rfl (fun t ht=>by cases ht)
   simp only [List.drop_zero,List.nil_append,Int.natCast_zero,rows_nil] at hin
   simp [-Int.natCast_add,t13,zZ,hlt,row7 hkr,hi,itemsR,mapO,clsV,hit,enc_len,len7,hin]
   cases hmm:mapO unqV b with
   |none=>simp [clsR]
   |some ts=>
    simp only [Option.bind_some]
    by_cases hv:validC ts=true
    ·have hap:=app1 (acc:=acc) (x:=ts) (by omega)
     have hs:=add_i k (by omega)
     have hrec:=x13out ha l hm hl m (k+1) (acc++[ts]) (by omega) (by simp [hc])
     simp only [hv,if_true,hap,hs,Option.bind_some,hrec]
     cases mapO clsV (l.drop (k+1))<;>simp
    ·simp [hv,clsR]
theorem x13 (ha:AtomsOK nat) {o:Ob} (h:OKO o):fnT (T nat).G 13 [.v (.agg (enc o))] []=some (clsR (clsO o)):=by
 have hi:=x41 (nat:=nat) o (by have:=h.sz;simp only [lim];omega)
 rw [fnT_eq tree13]
 cases hit:items o with
 |none=>
  rw [hit] at hi
  simp [t13,zZ,hi,itemsR,clsO,hit,clsR,enc_len]
 |some l=>
  rw [hit] at hi
  have hz:=(items_sz hit).1
  have hou:=x13out ha l (by have:=h.sz;omega) (oko_items h hit) l.length 0 [] (by omega) rfl
  simp only [List.drop_zero,List.nil_append,Int.natCast_zero,rows_nil] at hou
  simp [t13,zZ,hi,itemsR,clsO,hit,enc_len,len7,hou]
theorem x17in (ha:AtomsOK nat) (L:C) (k:Int) (acc:C) (l:List Ob) (hm:l.length < 100000) (hl:∀x∈l,OKO x):∀(m j:Nat) (acI:List Tm),j+m=l.length→acI.length=j→OKC acI→
  hdT (T nat).G 17 1 [.c L,.c (ci k),.c (rows enc l),.c (ci j),.c acc,.c (rows encT acI)]=
   match mapO unqV (l.drop j) with
   |none=>some (clsR none)
   |some ts=>if validC (acI++ts) then
     ((appC 1 24 (.slice [rows encT (acI++ts)] 1) acc).bind fun acc'=>(binC .add false (ci k) (ci 1)).bind fun k'=>hdT (T nat).G 17 0 [.c L,.c k',.c acc'])
    else some (clsR none)
 |0,j,acI,hj,hc,ho=>by
  have hlt:¬((j:Int) < (l.length:Int)):=by omega
  have h53:=x53 ha acI (by omega) ho
  rw [hdT_eq tree17 (t:=t17.heads[1]) rfl,drop_end (by omega)]
  cases hv:validC acI<;>rw [hv] at h53<;>simp [t17,zZ,hlt,len7,mapO,h53,hv,lits1,clsR]
 |m+1,j,acI,hj,hc,ho=>by
  have hjr:j < l.length:=by omega
  have hlt:((j:Int) < (l.length:Int)):=by omega
  have hx:=hl l[j] (List.getElem_mem hjr)
  have hu:=x52 ha hx
  have hs:=add_nat j (by omega)
  rw [hdT_eq tree17 (t:=t17.heads[1]) rfl,drop_at hjr]
  cases hv:unqV l[j] with
  |none=>
   rw [hv] at hu
   simp [t17,zZ,hlt,len7,row7 hjr,hu,mapO,hv,clsR,unqR,zT,enc_len]
  |some t=>
   rw [hv] at hu
   have hap:=app11 (acc:=acI) (x:=t) (by omega)
   have hi:=x17in ha L k acc l hm hl m (j+1) (acI++[t]) (by omega) (by simp [hc]) (fun x hx'=>by
    rcases List.mem_append.1 hx' with h|h
    ·exact ho x h
    ·simp only [List.mem_singleton] at h;subst h;exact unqV_ok hx hv)
   simp [-Int.natCast_add,t17,zZ,hlt,len7,row7 hjr,hu,mapO,hv,unqR,lits11,hap,hs,encT_len,enc_len]
   rw [hi]
   cases mapO unqV (l.drop (j+1))<;>simp
theorem x17out (ha:AtomsOK nat) (l:List Ob) (hm:l.length < 100000) (hl:∀x∈l,OKO x):∀(m k:Nat) (acc:List (List Tm)),k+m=l.length→acc.length=k→
  hdT (T nat).G 17 0 [.c (rows enc l),.c (ci k),.c (rows encC acc)]=some (clsR ((mapO clsV (l.drop k)).map fun cl=>acc++cl))
 |0,k,acc,hk,hc=>by
  have hlt:¬((k:Int) < (l.length:Int)):=by omega
  rw [hdT_eq tree17 (t:=t17.heads[0]) rfl,drop_end (by omega)]
  simp [t17,zZ,hlt,len7,mapO,clsR]
 |m+1,k,acc,hk,hc=>by
  have hkr:k < l.length:=by omega
  have hlt:((k:Int) < (l.length:Int)):=by omega
  have hx:=hl l[k] (List.getElem_mem hkr)
  have hi:=x51 (nat:=nat) l[k] (by have:=hx.sz;simp only [lim];omega)
  rw [hdT_eq tree17 (t:=t17.heads[0]) rfl,drop_at hkr]
  cases hit:items l[k] with
  |none=>
   rw [hit] at hi
   simp [t17,zZ,hlt,len7,row7 hkr,hi,itemsR,mapO,clsV,hit,clsR,enc_len]
  |some b=>
   rw [hit] at hi
   have hz:=(items_sz hit).1
   have hin:=x17in ha (rows enc l) k (rows encC acc) b (by have:=hx.sz;omega) (oko_items hx hit) b.length 0 [] (by omega) rfl (fun t ht=>by cases ht)
   simp only [List.drop_zero,List.nil_append,Int.natCast_zero,rows_nil] at hin
   simp [-Int.natCast_add,t17,zZ,hlt,len7,row7 hkr,hi,itemsR,mapO,clsV,hit,enc_len,hin]
   cases hmm:mapO unqV b with
   |none=>simp [clsR]
   |some ts=>
    simp only [Option.bind_some]
    by_cases hv:validC ts=true
    ·have hap:=app1 (acc:=acc) (x:=ts) (by omega)
     have hs:=add_i k (by omega)
     have hrec:=x17out ha l hm hl m (k+1) (acc++[ts]) (by omega) (by simp [hc])
     simp only [hv,if_true,hap,hs,Option.bind_some,hrec]
     cases mapO clsV (l.drop (k+1))<;>simp
    ·simp [hv,clsR]
theorem x17 (ha:AtomsOK nat) {o:Ob} (h:OKO o):fnT (T nat).G 17 [.v (.agg (enc o))] []=some (clsR (clsO o)):=by
 have hi:=x51 (nat:=nat) o (by have:=h.sz;simp only [lim];omega)
 rw [fnT_eq tree17]
 cases hit:items o with
 |none=>
  rw [hit] at hi
  simp [t17,zZ,hi,itemsR,clsO,hit,clsR,enc_len]
 |some l=>
  rw [hit] at hi
  have hz:=(items_sz hit).1
  have hou:=x17out ha l (by have:=h.sz;omega) (oko_items h hit) l.length 0 [] (by omega) rfl
  simp only [List.drop_zero,List.nil_append,Int.natCast_zero,rows_nil] at hou
  simp [t17,zZ,hi,itemsR,clsO,hit,enc_len,hou]
end
end Go.Ey.Pr
