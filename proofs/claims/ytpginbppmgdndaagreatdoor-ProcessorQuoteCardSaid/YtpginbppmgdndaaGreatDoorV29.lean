/- A part of the proof. -/
import Derived.Test.YtpginbppmgdndaaGreatDoorV28
set_option linter.all false
set_option maxHeartbeats 4000000
namespace Go.Ey.Pr
open Go.Ey Go.Ey.Seat
mutual
def eqT:Tm→Tm→Bool
 |.var p s,.var p' s'=>decide (p=p') && decide (s=s')
 |.con o,.con o'=>eqO o o'
 |.app p s ts,.app p' s' ts'=>decide (p=p') && decide (s=s') && eqTs ts ts'
 |_,_=>false
def eqTs:List Tm→List Tm→Bool
 |[],[]=>true
 |t::ts,t'::ts'=>eqT t t' && eqTs ts ts'
 |_,_=>false
end
theorem eqTs_len:∀{a b:List Tm},a.length≠b.length→eqTs a b=false
 |[],[],h=>absurd rfl h
 |[],_::_,_=>rfl
 |_::_,[],_=>rfl
 |x::a,y::b,h=>by
  rw [eqTs,eqTs_len (a:=a) (b:=b) (by simpa using h),Bool.and_false]
section
variable {nat:Nat→List V→Option (List V)}
theorem x203f (a b:Ob):fnT (T nat).G 203 [.v (.agg (enc a)),.v (.agg (enc b))] []=hdT (T nat).G 203 0 [.l (enc a),.l (enc b)]:=by
 rw [fnT_eq tree203]
 simp [t203,zS,enc_len]
theorem x203h (a:Ob):∀b:Ob,hdT (T nat).G 203 0 [.l (enc a),.l (enc b)]=some ([.one (cb (eqO a b))],[]):=by
 induction a with
 |num n d=>
  intro b
  rw [hdT_eq tree203 (t:=t203.heads[0]) rfl]
  cases b with
  |num n' d'=>by_cases h1:n=n'<;>by_cases h2:d=d'<;>simp [t203,zZ,enc,eqO,h1,h2]
  |_=>simp [t203,zZ,enc,eqO]
 |sy p s=>
  intro b
  rw [hdT_eq tree203 (t:=t203.heads[0]) rfl]
  cases b with
  |sy p' s'=>by_cases h1:p=p'<;>by_cases h2:s=s'<;>simp [t203,zZ,enc,eqO,h1,h2]
  |_=>simp [t203,zZ,enc,eqO]
 |st t=>
  intro b
  rw [hdT_eq tree203 (t:=t203.heads[0]) rfl]
  cases b with
  |st t'=>by_cases h1:t=t'<;>simp [t203,zZ,enc,eqO,h1]
  |_=>simp [t203,zZ,enc,eqO]
 |cons a1 a2 ih1 ih2=>
  intro b
  cases b with
  |cons b1 b2=>
   have e1:hdT (T nat).G 203 1 [.c (ci 2),.c (ci 1),.c (ci 1),.l (enc (.cons a1 a2)),.l (enc (.cons b1 b2))]=some ([.one (cb (eqO a2 b2))],[]):=by
    have hs:binC .sub false (ci 2) (ci 1)=some (ci 1):=sub_ci (by omega) (by omega)
    rw [hdT_eq tree203 (t:=t203.heads[1]) rfl]
    simp [t203,zZ,pair0,pair1,hs,ih2,len6,enc_len]
   have e0:hdT (T nat).G 203 1 [.c (ci 2),.c (ci 1),.c (ci 0),.l (enc (.cons a1 a2)),.l (enc (.cons b1 b2))]=some ([.one (cb (eqO a1 b1 && eqO a2 b2))],[]):=by
    have hs:binC .add false (ci 0) (ci 1)=some (ci 1):=add_ci (by omega) (by omega)
    rw [hdT_eq tree203 (t:=t203.heads[1]) rfl]
    cases h:eqO a1 b1<;>simp [t203,zZ,pair0,pair1,x203f,ih1,h,hs,e1,len6,enc_len]
   have hs:binC .sub false (ci 2) (ci 1)=some (ci 1):=sub_ci (by omega) (by omega)
   have q0:nthC (enc (.cons a1 a2)) 0=ci 4:=rfl
   have q1:nthC (enc (.cons a1 a2)) 1=ce:=rfl
   have q2:nthC (enc (.cons a1 a2)) 2=ce:=rfl
   have q3:nthC (enc (.cons a1 a2)) 3=ce:=rfl
   have q4:nthC (enc (.cons a1 a2)) 4=ce:=rfl
   have q5:nthC (enc (.cons a1 a2)) 5=ce:=rfl
   have p0:nthC (enc (.cons b1 b2)) 0=ci 4:=rfl
   have p1:nthC (enc (.cons b1 b2)) 1=ce:=rfl
   have p2:nthC (enc (.cons b1 b2)) 2=ce:=rfl
   have p3:nthC (enc (.cons b1 b2)) 3=ce:=rfl
   have p4:nthC (enc (.cons b1 b2)) 4=ce:=rfl
   have p5:nthC (enc (.cons b1 b2)) 5=ce:=rfl
   rw [hdT_eq tree203 (t:=t203.heads[0]) rfl]
   simp [t203,zZ,eqO,e0,enc_len,len6,hs,q0,q1,q2,q3,q4,q5,p0,p1,p2,p3,p4,p5]
  |_=>
   rw [hdT_eq tree203 (t:=t203.heads[0]) rfl]
   simp [t203,zZ,enc,eqO]
theorem x203 (a b:Ob):fnT (T nat).G 203 [.v (.agg (enc a)),.v (.agg (enc b))] []=some ([.one (cb (eqO a b))],[]):=by
 rw [x203f,x203h]
theorem x398loop (us bs:List Tm) (hm:us.length < 100000) (he:us.length=bs.length) (ih:∀a∈us,∀b,fnT (T nat).G 175 [.v (.agg (encT a)),.v (.agg (encT b))] []=some ([.one (cb (eqT a b))],[])):∀(m k:Nat),k+m=us.length→
  hdT (T nat).G 398 0 [.c (rows encT bs),.c (rows encT us),.c (ci us.length),.c (ci k)]=some ([.one (cb (eqTs (us.drop k) (bs.drop k)))],[])
 |0,k,hk=>by
  have hlt:¬((k:Int) < (us.length:Int)):=by omega
  rw [hdT_eq tree398 (t:=t398.heads[0]) rfl,drop_end (by omega),drop_end (by omega)]
  simp [t398,zZ,hlt,eqTs]
 |m+1,k,hk=>by
  have hkr:k < us.length:=by omega
  have hkb:k < bs.length:=by omega
  have hlt:((k:Int) < (us.length:Int)):=by omega
  have hc:=ih us[k] (List.getElem_mem hkr) bs[k]
  have hs:=add_nat k (by omega)
  have hi:=x398loop us bs hm he ih m (k+1) (by omega)
  rw [drop_at hkr,drop_at hkb,hdT_eq tree398 (t:=t398.heads[0]) rfl]
  cases hb:eqT us[k] bs[k]<;>rw [hb] at hc<;>simp [-Int.natCast_add,t398,zZ,hlt,eqTs,row11 hkr,row11 hkb,hc,hs,hi,encT_len,hb]
theorem x398 (us bs:List Tm) (hm:us.length < 100000) (ih:∀a∈us,∀b,fnT (T nat).G 175 [.v (.agg (encT a)),.v (.agg (encT b))] []=some ([.one (cb (eqT a b))],[])):
  fnT (T nat).G 398 [.v (.one (rows encT us)),.v (.one (rows encT bs)),.ref 0 0] []=some ([.one (cb (eqTs us bs))],[]):=by
 rw [fnT_eq tree398]
 by_cases he:us.length=bs.length
 ·have h3:=x398loop us bs hm he ih us.length 0 (by omega)
  simp only [List.drop_zero,Int.natCast_zero] at h3
  rw [he] at h3
  have hb:(((us.length:Int))==(bs.length:Int))=true:=by rw [he];exact beq_self_eq_true _
  simp [t398,zZ,len11,he,h3]
 ·have hb:((us.length:Int)==(bs.length:Int))=false:=beq_eq_false_iff_ne.2 (by omega)
  simp [t398,zZ,len11,hb,eqTs_len he]
theorem x398n:fnT (T nat).G 398 [.v (.one cz),.v (.one cz),.ref 0 0] []=some yes:=by
 have:=x398 (nat:=nat) [] [] (by simp) (fun a h=>by cases h)
 simpa [rows_nil,eqTs,yes] using this
theorem x175 {a:Tm} (hg:GoodT a) (hn:nodesT a≤3000):∀b,fnT (T nat).G 175 [.v (.agg (encT a)),.v (.agg (encT b))] []=some ([.one (cb (eqT a b))],[]):=by
 induction hg with
 |@var p s h=>
  intro b
  rw [fnT_eq tree175]
  cases b with
  |var p' s'=>cases h1:(decide (p=p') && decide (s=s'))<;>simp [t175,zZ,encT,eqT,x203z,yes,x398n,h1]
  |con o=>simp [t175,zZ,encT,eqT]
  |app p' s' ts'=>simp [t175,zZ,encT_app,eqT];simp [encT,zZ]
 |@con o h ho=>
  intro b
  rw [fnT_eq tree175]
  cases b with
  |con o'=>
   simp only [encT]
   cases h1:eqO o o'<;>simp [t175,zZ,eqT,x203,yes,x398n,h1,nth7]
  |var p' s'=>simp [t175,zZ,encT,eqT]
  |app p' s' ts'=>simp [t175,zZ,encT_app,eqT];simp [encT,zZ]
 |@app p s ts h hs ih=>
  intro b
  simp only [nodesT] at hn
  have hl:=len_nodes ts
  rw [fnT_eq tree175,encT_app]
  cases b with
  |app p' s' ts'=>
   have h3:=x398 (nat:=nat) ts ts' (by omega) (fun t ht=>ih t ht (by have:=mem_nodes ht;omega))
   rw [encT_app]
   cases h1:(decide (p=p') && decide (s=s'))<;>simp [t175,zZ,eqT,x203z,yes,h3,h1]
  |var p' s'=>simp [t175,zZ,encT,eqT]
  |con o=>simp [t175,zZ,encT,eqT]
theorem x146loop (us bs:List Tm) (hm:us.length < 100000) (he:us.length=bs.length) (ih:∀a∈us,∀b,fnT (T nat).G 84 [.v (.agg (encT a)),.v (.agg (encT b))] []=some ([.one (cb (eqT a b))],[])):∀(m k:Nat),k+m=us.length→
  hdT (T nat).G 146 0 [.c (rows encT us),.c (rows encT bs),.c (ci k)]=some ([.one (cb (eqTs (us.drop k) (bs.drop k)))],[])
 |0,k,hk=>by
  have hlt:¬((k:Int) < (us.length:Int)):=by omega
  rw [hdT_eq tree146 (t:=t146.heads[0]) rfl,drop_end (by omega),drop_end (by omega)]
  simp [t146,zZ,hlt,eqTs,len11]
 |m+1,k,hk=>by
  have hkr:k < us.length:=by omega
  have hkb:k < bs.length:=by omega
  have hlt:((k:Int) < (us.length:Int)):=by omega
  have hc:=ih us[k] (List.getElem_mem hkr) bs[k]
  have hs:=add_nat k (by omega)
  have hi:=x146loop us bs hm he ih m (k+1) (by omega)
  rw [drop_at hkr,drop_at hkb,hdT_eq tree146 (t:=t146.heads[0]) rfl]
  cases hb:eqT us[k] bs[k]<;>rw [hb] at hc<;>simp [-Int.natCast_add,t146,zZ,hlt,len11,eqTs,row11 hkr,row11 hkb,hc,hs,hi,encT_len,hb]
theorem x146 (us bs:List Tm) (hm:us.length < 100000) (ih:∀a∈us,∀b,fnT (T nat).G 84 [.v (.agg (encT a)),.v (.agg (encT b))] []=some ([.one (cb (eqT a b))],[])):
  fnT (T nat).G 146 [.v (.one (rows encT us)),.v (.one (rows encT bs))] []=some ([.one (cb (eqTs us bs))],[]):=by
 rw [fnT_eq tree146]
 by_cases he:us.length=bs.length
 ·have h3:=x146loop us bs hm he ih us.length 0 (by omega)
  simp only [List.drop_zero,Int.natCast_zero] at h3
  simp [t146,zZ,len11,he,h3]
 ·have hb:((us.length:Int)==(bs.length:Int))=false:=beq_eq_false_iff_ne.2 (by omega)
  simp [t146,zZ,len11,hb,eqTs_len he]
theorem x146n:fnT (T nat).G 146 [.v (.one cz),.v (.one cz)] []=some yes:=by
 have:=x146 (nat:=nat) [] [] (by simp) (fun a h=>by cases h)
 simpa [rows_nil,eqTs,yes] using this
theorem x84 {a:Tm} (hg:GoodT a) (hn:nodesT a≤3000):∀b,fnT (T nat).G 84 [.v (.agg (encT a)),.v (.agg (encT b))] []=some ([.one (cb (eqT a b))],[]):=by
 induction hg with
 |@var p s h=>
  intro b
  rw [fnT_eq tree84]
  cases b with
  |var p' s'=>cases h1:(decide (p=p') && decide (s=s'))<;>simp [t84,zZ,encT,eqT,x11z,yes,x146n,h1]
  |con o=>simp [t84,zZ,encT,eqT]
  |app p' s' ts'=>simp [t84,zZ,encT_app,eqT];simp [encT,zZ]
 |@con o h ho=>
  intro b
  rw [fnT_eq tree84]
  cases b with
  |con o'=>
   simp only [encT]
   cases h1:eqO o o'<;>simp [t84,zZ,eqT,x11,yes,x146n,h1,nth7]
  |var p' s'=>simp [t84,zZ,encT,eqT]
  |app p' s' ts'=>simp [t84,zZ,encT_app,eqT];simp [encT,zZ]
 |@app p s ts h hs ih=>
  intro b
  simp only [nodesT] at hn
  have hl:=len_nodes ts
  rw [fnT_eq tree84,encT_app]
  cases b with
  |app p' s' ts'=>
   have h3:=x146 (nat:=nat) ts ts' (by omega) (fun t ht=>ih t ht (by have:=mem_nodes ht;omega))
   rw [encT_app]
   cases h1:(decide (p=p') && decide (s=s'))<;>simp [t84,zZ,eqT,x11z,yes,h3,h1]
  |var p' s'=>simp [t84,zZ,encT,eqT]
  |con o=>simp [t84,zZ,encT,eqT]
end
end Go.Ey.Pr

set_option maxHeartbeats 4000000
namespace Go.Ey.Pr
open Go.Ey Go.Ey.Seat
def inT:List Tm→Tm→Bool
 |[],_=>false
 |x::xs,t=>eqT x t||inT xs t
def validFrom (pre:List Tm):List Tm→Bool
 |[]=>true
 |t::r=>formedT t && !inT pre t && validFrom (pre++[t]) r
def validC (ts:List Tm):Bool:=decide (ts.length≤60) && validFrom [] ts
def OKT (t:Tm):Prop:=GoodT t∧nodesT t≤3000∧depthT t≤200
def OKC (ts:List Tm):Prop:=∀t∈ts,OKT t
section
variable {nat:Nat→List V→Option (List V)}
theorem x174 {x:Tm} (h:OKT x) (t:Tm):fnT (T nat).G 174 [.v (.agg (encT x)),.ref 0 0] [encT t]=some ([.one (cb (eqT x t))],[encT t]):=by
 rw [fnT_eq tree174]
 simp [t174,zZ,x175 h.1 h.2.1 t,encT_len]
theorem x401loop (ts:List Tm) (hm:ts.length < 100000) (hk:OKC ts) (t:Tm):∀(m k:Nat),k+m=ts.length→
  ∃r:Int,hdT (T nat).G 401 0 [.c (rows encT ts),.c (ci ts.length),.c (ci k),.l (encT t)]=some ([.one (ci r)],[encT t])∧decide (0≤r)=inT (ts.drop k) t
 |0,k,hk=>by
  have hlt:¬((k:Int) < (ts.length:Int)):=by omega
  refine ⟨-1,?_,?_⟩
  ·rw [hdT_eq tree401 (t:=t401.heads[0]) rfl]
   simp [t401,zZ,hlt,encT_len]
  ·rw [drop_end (by omega)];simp [inT]
 |m+1,k,hk'=>by
  have hkr:k < ts.length:=by omega
  have hlt:((k:Int) < (ts.length:Int)):=by omega
  have hc:=x174 (nat:=nat) (hk ts[k] (List.getElem_mem hkr)) t
  have hs:=add_nat k (by omega)
  rw [drop_at hkr]
  simp only [inT]
  cases hb:eqT ts[k] t with
  |true=>
   rw [hb] at hc
   refine ⟨k,?_,by simp⟩
   rw [hdT_eq tree401 (t:=t401.heads[0]) rfl]
   simp [t401,zZ,hlt,row11 hkr,hc,encT_len]
  |false=>
   rw [hb] at hc
   obtain ⟨r,h1,h2⟩:=x401loop ts hm hk t m (k+1) (by omega)
   refine ⟨r,?_,by simpa using h2⟩
   rw [hdT_eq tree401 (t:=t401.heads[0]) rfl]
   simp [-Int.natCast_add,t401,zZ,hlt,row11 hkr,hc,hs,h1,encT_len]
theorem x127 (ts:List Tm) (hm:ts.length < 100000) (hk:OKC ts) (t:Tm):fnT (T nat).G 127 [.v (.one (rows encT ts)),.v (.agg (encT t))] []=some ([.one (cb (inT ts t))],[]):=by
 obtain ⟨r,h1,h2⟩:=x401loop (nat:=nat) ts hm hk t ts.length 0 (by omega)
 simp only [List.drop_zero,Int.natCast_zero] at h1 h2
 have h3:fnT (T nat).G 401 [.v (.one (rows encT ts)),.ref 0 0] [encT t]=some ([.one (ci r)],[encT t]):=by
  rw [fnT_eq tree401]
  simp [t401,zZ,len11,h1,encT_len]
 have h4:fnT (T nat).G 396 [.v (.one (rows encT ts)),.ref 0 0] [encT t]=some ([.one (cb (inT ts t))],[encT t]):=by
  rw [fnT_eq tree396]
  simp only [t396]
  simp [zZ,h3,h2,encT_len]
 rw [fnT_eq tree127]
 simp [t127,zZ,h4,encT_len]
theorem x116loop (ts:List Tm) (hm:ts.length < 100000) (hk:OKC ts) (t:Tm):∀(m k:Nat),k+m=ts.length→
  hdT (T nat).G 116 0 [.c (rows encT ts),.c (ci k),.l (encT t)]=some ([.one (cb (inT (ts.drop k) t))],[])
 |0,k,hk=>by
  have hlt:¬((k:Int) < (ts.length:Int)):=by omega
  rw [hdT_eq tree116 (t:=t116.heads[0]) rfl,drop_end (by omega)]
  simp [t116,zZ,hlt,len11,inT]
 |m+1,k,hk'=>by
  have hkr:k < ts.length:=by omega
  have hlt:((k:Int) < (ts.length:Int)):=by omega
  have ho:=hk ts[k] (List.getElem_mem hkr)
  have hc:=x84 (nat:=nat) ho.1 ho.2.1 t
  have hs:=add_nat k (by omega)
  have hi:=x116loop ts hm hk t m (k+1) (by omega)
  rw [drop_at hkr,hdT_eq tree116 (t:=t116.heads[0]) rfl]
  cases hb:eqT ts[k] t<;>rw [hb] at hc<;>simp [-Int.natCast_add,t116,zZ,hlt,len11,inT,row11 hkr,hc,hs,hi,encT_len,hb]
theorem x116 (ts:List Tm) (hm:ts.length < 100000) (hk:OKC ts) (t:Tm):fnT (T nat).G 116 [.v (.one (rows encT ts)),.v (.agg (encT t))] []=some ([.one (cb (inT ts t))],[]):=by
 have h3:=x116loop (nat:=nat) ts hm hk t ts.length 0 (by omega)
 simp only [List.drop_zero,Int.natCast_zero] at h3
 rw [fnT_eq tree116]
 simp [t116,zZ,h3,encT_len]
theorem okc_take {ts:List Tm} (h:OKC ts) (k:Nat):OKC (ts.take k):=fun t ht=>h t (List.mem_of_mem_take ht)
theorem x43loop (ha:AtomsOK nat) (ts:List Tm) (hm:ts.length < 100000) (hk:OKC ts):∀(m k:Nat),k+m=ts.length→
  hdT (T nat).G 43 0 [.c (rows encT ts),.c (rows encT ts),.c (ci ts.length),.c (ci k)]=some ([.one (cb (validFrom (ts.take k) (ts.drop k)))],[])
 |0,k,hk=>by
  have hlt:¬((k:Int) < (ts.length:Int)):=by omega
  rw [hdT_eq tree43 (t:=t43.heads[0]) rfl,drop_end (by omega)]
  simp [t43,zZ,hlt,validFrom]
 |m+1,k,hk'=>by
  have hkr:k < ts.length:=by omega
  have hlt:((k:Int) < (ts.length:Int)):=by omega
  have ho:=hk ts[k] (List.getElem_mem hkr)
  have hf:=x126 ha ho.1 ho.2.1 ho.2.2
  have hsub:subC 11 none (some (ci k)) (rows encT ts)=some (rows encT (ts.take k)):=sub_rows encT_len (by omega)
  have hc:=x127 (nat:=nat) (ts.take k) (by rw [List.length_take];omega) (okc_take hk k) ts[k]
  have hs:=add_nat k (by omega)
  have hi:=x43loop ha ts hm hk m (k+1) (by omega)
  have ht:ts.take (k+1)=ts.take k++[ts[k]]:=by rw [List.take_succ_eq_append_getElem hkr]
  rw [ht] at hi
  rw [drop_at hkr,hdT_eq tree43 (t:=t43.heads[0]) rfl]
  cases hb:formedT ts[k]<;>cases hb2:inT (ts.take k) ts[k]<;>rw [hb] at hf<;>rw [hb2] at hc<;>simp [-Int.natCast_add,t43,zZ,hlt,validFrom,row11 hkr,hsub,hf,hc,hs,hi,encT_len,hb,hb2]
theorem x43 (ha:AtomsOK nat) (ts:List Tm) (hm:ts.length < 100000) (hk:OKC ts):fnT (T nat).G 43 [.v (.one (rows encT ts))] []=some ([.one (cb (validC ts))],[]):=by
 have h3:=x43loop ha ts hm hk ts.length 0 (by omega)
 simp only [List.drop_zero,List.take_zero,Int.natCast_zero] at h3
 rw [fnT_eq tree43]
 by_cases h:ts.length≤60
 ·have hg:¬(60:Int) < (ts.length:Int):=by omega
  simp [t43,zZ,len11,hg,h,h3,validC]
 ·have hg:(60:Int) < (ts.length:Int):=by omega
  simp [t43,zZ,len11,hg,h,validC]
end
end Go.Ey.Pr

set_option maxHeartbeats 4000000
namespace Go.Ey.Pr
open Go.Ey Go.Ey.Seat
def hO:Ob→Nat
 |.cons a b=>max (hO a+1) (hO b)
 |_=>1
theorem hO_pos:∀o:Ob,1≤hO o
 |.cons a b=>by have:=hO_pos a;simp only [hO];omega
 |.num _ _=>Nat.le_refl _
 |.sy _ _=>Nat.le_refl _
 |.st _=>Nat.le_refl _
theorem items_good:∀{o:Ob} {l:List Ob},items o=some l→Good o→∀x∈l,Good x∧hO x+1≤hO o
 |.sy p s,l,h,hg=>by
  simp only [items] at h
  split at h
  ·simp only [Option.some.injEq] at h;subst h;simp
  ·cases h
 |.num _ _,l,h,hg=>by simp [items,isNilO] at h
 |.st _,l,h,hg=>by simp [items,isNilO] at h
 |.cons a b,l,h,hg=>by
  simp only [items,Option.map_eq_some_iff] at h
  obtain ⟨r,h1,rfl⟩:=h
  have h3:=items_good h1 hg.2
  intro x hx
  simp only [hO]
  rcases List.mem_cons.1 hx with rfl|hx
  ·exact ⟨hg.1,by omega⟩
  ·have:=h3 x hx;exact ⟨this.1,by omega⟩
theorem unqP_good:∀o:Ob,Good o→szO o≤3000→
  (∀t,(unqP o).1=some t→GoodT t∧nodesT t≤szO o∧depthT t≤hO o)∧(∀ts,(unqP o).2=some ts→(∀t∈ts,GoodT t)∧nodesTs ts≤szO o∧depthTs ts+1≤hO o)
 |.sy p s,hg,hz=>by
  constructor
  ·intro t h
   simp only [unqP,Option.some.injEq] at h
   subst h
   exact ⟨.var hg,by simp [nodesT,szO],by simp [depthT,hO]⟩
  ·intro ts h
   simp only [unqP] at h
   split at h
   ·simp only [Option.some.injEq] at h
    subst h
    exact ⟨fun t ht=>(by cases ht),by simp [nodesTs],by simp [depthTs,hO]⟩
   ·cases h
 |.num _ _,hg,hz=>by simp [unqP]
 |.st _,hg,hz=>by simp [unqP]
 |.cons a b,hg,hz=>by
  simp only [szO] at hz
  obtain ⟨a1,a2⟩:=unqP_good a hg.1 (by omega)
  obtain ⟨b1,b2⟩:=unqP_good b hg.2 (by omega)
  constructor
  ·intro t h
   simp only [szO,hO]
   cases a with
   |sy p s=>
    simp only [unqP] at h
    split at h
    ·split at h
     ·rename_i x hi
      simp only [Option.some.injEq] at h
      subst h
      have h1:=(items_sz hi).2 x (by simp)
      have h2:=items_good hi hg.2 x (by simp)
      exact ⟨.con h2.1 (by omega),by simp only [nodesT];omega,by have:=hO_pos b;simp only [depthT];omega⟩
     ·cases h
    ·simp only [Option.map_eq_some_iff] at h
     obtain ⟨ts,h1,rfl⟩:=h
     obtain ⟨c1,c2,c3⟩:=b2 ts h1
     exact ⟨.app hg.1 c1,by simp only [nodesT,szO];omega,by simp only [depthT];omega⟩
   |_=>simp [unqP] at h
  ·intro ts h
   simp only [unqP,Option.bind_eq_some_iff] at h
   obtain ⟨t,h1,ts',h2,h3⟩:=h
   simp only [Option.some.injEq] at h3
   subst h3
   obtain ⟨c1,c2,c3⟩:=a1 t h1
   obtain ⟨d1,d2,d3⟩:=b2 ts' h2
   refine ⟨fun x hx=>?_,by simp only [nodesTs,szO];omega,by simp only [depthTs,hO];omega⟩
   rcases List.mem_cons.1 hx with rfl|hx
   ·exact c1
   ·exact d1 x hx
structure OKO (o:Ob):Prop where
 good:Good o
 sz:szO o≤3000
 dp:hO o≤200
theorem unq_ok {o:Ob} (h:OKO o) {t:Tm} (hu:unq o=some t):OKT t:=by
 obtain ⟨h1,h2,h3⟩:=(unqP_good o h.good h.sz).1 t hu
 exact ⟨h1,Nat.le_trans h2 h.sz,Nat.le_trans h3 h.dp⟩
def unqV (o:Ob):Option Tm:=(unq o).bind fun t=>if formedT t then some t else none
theorem unqV_ok {o:Ob} (h:OKO o) {t:Tm} (hu:unqV o=some t):OKT t:=by
 simp only [unqV,Option.bind_eq_some_iff] at hu
 obtain ⟨t',h1,h2⟩:=hu
 split at h2
 ·simp only [Option.some.injEq] at h2;subst h2;exact unq_ok h h1
 ·cases h2
section
variable {nat:Nat→List V→Option (List V)}
theorem x42 (ha:AtomsOK nat) {o:Ob} (h:OKO o):fnT (T nat).G 42 [.v (.agg (enc o))] []=some (unqR (unqV o)):=by
 have h1:=x90 ha o h.good h.sz
 have h2:=x125 (nat:=nat) (szO o) o (Nat.le_refl _) (by have:=h.sz;omega)
 rw [fnT_eq tree42]
 cases hu:unq o with
 |none=>
  rw [hu] at h2
  simp [t42,zZ,enc_len,h1,h2,yes,unqV,hu,unqR,zT]
 |some t=>
  rw [hu] at h2
  obtain ⟨g1,g2,g3⟩:=unq_ok h hu
  have h3:=x126 ha g1 g2 g3
  cases hf:formedT t<;>rw [hf] at h3<;>simp [t42,zZ,enc_len,h1,h2,h3,yes,unqV,hu,unqR,zT,hf,encT_len]
def encC (ts:List Tm):List C:=[rows encT ts]
theorem encC_len (ts:List Tm):(encC ts).length=1:=rfl
def clsV (o:Ob):Option (List Tm):=(items o).bind fun l=>(mapO unqV l).bind fun ts=>if validC ts then some ts else none
def clsO (o:Ob):Option (List (List Tm)):=(items o).bind (mapO clsV)
def clsR (r:Option (List (List Tm))):R:=match r with|some cl=>([.one (rows encC cl),.one (cb true)],[])|none=>([.one cz,.one (cb false)],[])
theorem app1 {acc:List (List Tm)} {x:List Tm} (h:acc.length < 1000000):appC 1 24 (.slice [rows encT x] 1) (rows encC acc)=some (rows encC (acc++[x])):=
 app_row (f:=encC) encC_len (by decide) (by simp only [roomMax];omega) (by simp only [roomMax];omega)
theorem lits1 (c:C):litsC 1 1 [c]=some (.slice [c] 1):=by simp [litsC,roomMax]
theorem row7 {l:List Ob} {k:Nat} (h:k < l.length):rowC 7 (rows enc l) (ci k)=some (enc l[k]):=row_at enc_len (List.getElem?_eq_getElem h)
theorem len7 (l:List Ob):lenC false (rows enc l)=some (ci l.length):=rfl
theorem oko_items {o:Ob} (h:OKO o) {l:List Ob} (hi:items o=some l):∀x∈l,OKO x:=fun x hx=>by
 have h1:=items_good hi h.good x hx
 have h2:=(items_sz hi).2 x hx
 have h3:=h.sz
 have h4:=h.dp
 exact ⟨h1.1,by omega,by omega⟩
theorem x13in (ha:AtomsOK nat) (L:C) (n k:Int) (acc:C) (l:List Ob) (hm:l.length < 100000) (hl:∀x∈l,OKO x):∀(m j:Nat) (acI:List Tm),j+m=l.length→acI.length=j→OKC acI→
  hdT (T nat).G 13 1 [.c L,.c (ci n),.c (ci k),.c (rows enc l),.c (ci l.length),.c (ci j),.c acc,.c (rows encT acI)]=
   match mapO unqV (l.drop j) with
   |none=>some (clsR none)
   |some ts=>if validC (acI++ts) then
     ((appC 1 24 (.slice [rows encT (acI++ts)] 1) acc).bind fun acc'=>(binC .add false (ci k) (ci 1)).bind fun k'=>hdT (T nat).G 13 0 [.c L,.c (ci n),.c k',.c acc'])
    else some (clsR none)
 |0,j,acI,hj,hc,ho=>by
  have hlt:¬((j:Int) < (l.length:Int)):=by omega
  have h43:=x43 ha acI (by omega) ho
  rw [hdT_eq tree13 (t:=t13.heads[1]) rfl,drop_end (by omega)]
  cases hv:validC acI<;>rw [hv] at h43<;>simp [t13,zZ,hlt,mapO,h43,hv,lits1,clsR]
 |m+1,j,acI,hj,hc,ho=>by
  have hjr:j < l.length:=by omega
  have hlt:((j:Int) < (l.length:Int)):=by omega
  have hx:=hl l[j] (List.getElem_mem hjr)
  have hu:=x42 ha hx
  have hs:=add_nat j (by omega)
  rw [hdT_eq tree13 (t:=t13.heads[1]) rfl,drop_at hjr]
  cases hv:unqV l[j] with
  |none=>
   rw [hv] at hu
   simp [t13,zZ,hlt,row7 hjr,hu,mapO,hv,clsR,unqR,zT,enc_len]
  |some t=>
   rw [hv] at hu
   have hap:=app11 (acc:=acI) (x:=t) (by omega)
   have hi:=x13in ha L n k acc l hm hl m (j+1) (acI++[t]) (by omega) (by simp [hc]) (fun x hx'=>by
    rcases List.mem_append.1 hx' with h|h
    ·exact ho x h
    ·simp only [List.mem_singleton] at h;subst h;exact unqV_ok hx hv)
   simp [-Int.natCast_add,t13,zZ,hlt,row7 hjr,hu,mapO,hv,unqR,lits11,hap,hs,encT_len,enc_len]
   rw [hi]
   cases mapO unqV (l.drop (j+1))<;>simp
theorem add_i (k:Nat) (h:k < 1000000):binC .add false (ci (k:Int)) (ci 1)=some (ci ((k+1:Nat):Int)):=add_nat k h
theorem x13out (ha:AtomsOK nat) (l:List Ob) (hm:l.length < 100000) (hl:∀x∈l,OKO x):∀(m k:Nat) (acc:List (List Tm)),k+m=l.length→acc.length=k→
  hdT (T nat).G 13 0 [.c (rows enc l),.c (ci l.length),.c (ci k),.c (rows encC acc)]=some (clsR ((mapO clsV (l.drop k)).map fun cl=>acc++cl))
 |0,k,acc,hk,hc=>by
  have hlt:¬((k:Int) < (l.length:Int)):=by omega
  rw [hdT_eq tree13 (t:=t13.heads[0]) rfl,drop_end (by omega)]
  simp [t13,zZ,hlt,mapO,clsR]
 |m+1,k,acc,hk,hc=>by
  have hkr:k < l.length:=by omega
  have hlt:((k:Int) < (l.length:Int)):=by omega
  have hx:=hl l[k] (List.getElem_mem hkr)
  have hi:=x41 (nat:=nat) l[k] (by have:=hx.sz;simp only [lim];omega)
  rw [hdT_eq tree13 (t:=t13.heads[0]) rfl,drop_at hkr]
  cases hit:items l[k] with
  |none=>
   rw [hit] at hi
   simp [t13,zZ,hlt,row7 hkr,hi,itemsR,mapO,clsV,hit,clsR,enc_len]
  |some b=>
   rw [hit] at hi
   have hz:=(items_sz hit).1
   have hin:=x13in ha (rows enc l) l.length k (rows encC acc) b (by have:=hx.sz;omega) (oko_items hx hit) b.length 0 [] (by omega) rfl (fun t ht=>by cases ht)
   simp only [List.drop_zero,List.nil_append,Int.natCast_zero,rows_nil] at hin
   simp [-Int.natCast_add,t13,zZ,hlt,row7 hkr,hi,itemsR,mapO,clsV,hit,enc_len,len7,hin]
   cases hmm:mapO unqV b with
   |none=>simp [clsR]
   |some ts=>
    simp only [Option.bind_some]
    by_cases hv:validC ts=true
    ·have hap:=app1 (acc:=acc) (x:=ts) (by omega)
     have hs:=add_i k (by omega)
     have hrec:=x13out ha l hm hl m (k+1) (acc++[ts]) (by omega) (by simp [hc])
     simp only [hv,if_true,hap,hs,Option.bind_some,hrec]
     cases mapO clsV (l.drop (k+1))<;>simp
    ·simp [hv,clsR]
theorem x13 (ha:AtomsOK nat) {o:Ob} (h:OKO o):fnT (T nat).G 13 [.v (.agg (enc o))] []=some (clsR (clsO o)):=by
 have hi:=x41 (nat:=nat) o (by have:=h.sz;simp only [lim];omega)
 rw [fnT_eq tree13]
 cases hit:items o with
 |none=>
  rw [hit] at hi
  simp [t13,zZ,hi,itemsR,clsO,hit,clsR,enc_len]
 |some l=>
  rw [hit] at hi
  have hz:=(items_sz hit).1
  have hou:=x13out ha l (by have:=h.sz;omega) (oko_items h hit) l.length 0 [] (by omega) rfl
  simp only [List.drop_zero,List.nil_append,Int.natCast_zero,rows_nil] at hou
  simp [t13,zZ,hi,itemsR,clsO,hit,enc_len,len7,hou]
end
end Go.Ey.Pr

set_option maxHeartbeats 4000000
namespace Go.Ey.Pr
open Go.Ey Go.Ey.Seat
mutual
theorem eqT_refl:∀t:Tm,eqT t t=true
 |.var p s=>by simp [eqT]
 |.con o=>by simp [eqT,eqO_refl]
 |.app p s ts=>by simp [eqT,eqTs_refl ts]
theorem eqTs_refl:∀ts:List Tm,eqTs ts ts=true
 |[]=>rfl
 |t::ts=>by simp [eqTs,eqT_refl t,eqTs_refl ts]
end
section
variable {nat:Nat→List V→Option (List V)}
theorem x26loop (ts:List Tm) (hm:ts.length < 100000) (hk:OKC ts):∀(m k:Nat),k+m=ts.length→
  hdT (T nat).G 26 0 [.c (rows encT ts),.c (rows encT ts),.c (ci k)]=some yes
 |0,k,hk=>by
  have hlt:¬((k:Int) < (ts.length:Int)):=by omega
  rw [hdT_eq tree26 (t:=t26.heads[0]) rfl]
  simp [t26,zZ,hlt,len11,yes]
 |m+1,k,hk'=>by
  have hkr:k < ts.length:=by omega
  have hlt:((k:Int) < (ts.length:Int)):=by omega
  have ho:=hk ts[k] (List.getElem_mem hkr)
  have hc:=x84 (nat:=nat) ho.1 ho.2.1 ts[k]
  rw [eqT_refl] at hc
  have hs:=add_nat k (by omega)
  have hi:=x26loop ts hm hk m (k+1) (by omega)
  rw [hdT_eq tree26 (t:=t26.heads[0]) rfl]
  simp [-Int.natCast_add,t26,zZ,hlt,len11,row11 hkr,hc,hs,hi,encT_len]
theorem x26 (ts:List Tm) (hm:ts.length < 100000) (hk:OKC ts):fnT (T nat).G 26 [.v (.one (rows encT ts)),.v (.one (rows encT ts))] []=some yes:=by
 have h3:=x26loop (nat:=nat) ts hm hk ts.length 0 (by omega)
 simp only [Int.natCast_zero] at h3
 rw [fnT_eq tree26]
 simp [t26,zZ,len11,h3]
theorem row1 {l:List (List Tm)} {k:Nat} (h:k < l.length):rowC 1 (rows encC l) (ci k)=some [rows encT l[k]]:=row_at (f:=encC) encC_len (List.getElem?_eq_getElem h)
theorem len1 (l:List (List Tm)):lenC false (rows encC l)=some (ci l.length):=rfl
theorem x15loop (cl:List (List Tm)) (hm:cl.length < 100000) (hk:∀ts∈cl,OKC ts∧ts.length≤3000):∀(m k:Nat),k+m=cl.length→
  hdT (T nat).G 15 0 [.c (rows encC cl),.c (rows encC cl),.c (ci k)]=some yes
 |0,k,hk=>by
  have hlt:¬((k:Int) < (cl.length:Int)):=by omega
  rw [hdT_eq tree15 (t:=t15.heads[0]) rfl]
  simp [t15,zZ,hlt,len1,yes]
 |m+1,k,hk'=>by
  have hkr:k < cl.length:=by omega
  have hlt:((k:Int) < (cl.length:Int)):=by omega
  have ho:=hk cl[k] (List.getElem_mem hkr)
  have hc:=x26 (nat:=nat) cl[k] (by omega) ho.1
  have hs:=add_nat k (by omega)
  have hi:=x15loop cl hm hk m (k+1) (by omega)
  simp only [yes] at hc
  rw [hdT_eq tree15 (t:=t15.heads[0]) rfl]
  simp [-Int.natCast_add,t15,zZ,hlt,len1,row1 hkr,hc,hs,hi]
theorem x15 (cl:List (List Tm)) (hm:cl.length < 100000) (hk:∀ts∈cl,OKC ts∧ts.length≤3000):fnT (T nat).G 15 [.v (.one (rows encC cl)),.v (.one (rows encC cl))] []=some yes:=by
 have h3:=x15loop (nat:=nat) cl hm hk cl.length 0 (by omega)
 simp only [Int.natCast_zero] at h3
 rw [fnT_eq tree15]
 simp [t15,zZ,len1,h3]
def listO:List Ob→Ob
 |[]=>oNil
 |x::xs=> .cons x (listO xs)
theorem x14loop (l:List Ob) (hm:l.length < 100000):∀(k:Nat),k≤l.length→
  hdT (T nat).G 14 0 [.c (rows enc l),.c (ci ((k:Int) - 1)),.c (ci 0),.c ce,.c ce,.c ce,.c ce,.c ce,.c cz,.l (enc (listO (l.drop k)))]=some ([.agg (enc (listO l))],[])
 |0,_=>by
  rw [hdT_eq tree14 (t:=t14.heads[0]) rfl]
  simp [t14,zZ,enc_len]
 |k+1,hk=>by
  have hkr:k < l.length:=by omega
  have he:(((k+1:Nat):Int) - 1)=(k:Int):=by omega
  have hs:binC .sub false (ci (k:Int)) (ci 1)=some (ci ((k:Int) - 1)):=sub_ci (by omega) (by omega)
  have hi:=x14loop l hm k (by omega)
  rw [drop_at hkr,listO] at hi
  rw [he,hdT_eq tree14 (t:=t14.heads[0]) rfl]
  simp [-Int.natCast_add,t14,zZ,row7 hkr,x45,hs,hi,enc_len]
theorem x14 (l:List Ob) (hm:l.length < 100000):fnT (T nat).G 14 [.v (.one (rows enc l))] []=some ([.agg (enc (listO l))],[]):=by
 have h3:=x14loop (nat:=nat) l hm l.length (Nat.le_refl _)
 rw [drop_end (by omega),listO] at h3
 have hs:binC .sub false (ci (l.length:Int)) (ci 1)=some (ci ((l.length:Int) - 1)):=sub_ci (by omega) (by omega)
 rw [fnT_eq tree14]
 simp [t14,zZ,x44,len7,hs,h3,enc_len]
end
end Go.Ey.Pr

set_option maxHeartbeats 4000000
namespace Go.Ey.Pr
open Go.Ey Go.Ey.Seat
def encB (b:UInt8):List C:=[.lit (.int .u8 (b.toNat:Int))]
theorem encB_len (b:UInt8):(encB b).length=1:=rfl
def bx (bs:List UInt8) (pos:Nat):List C:=[rows encB bs,ci pos]
theorem bx_len (bs:List UInt8) (pos:Nat):(bx bs pos).length=2:=rfl
theorem bx0 (bs:List UInt8) (pos:Nat):nthC (bx bs pos) 0=rows encB bs:=rfl
theorem bx1 (bs:List UInt8) (pos:Nat):nthC (bx bs pos) 1=ci pos:=rfl
theorem lenB (l:List UInt8):lenC false (rows encB l)=some (ci l.length):=rfl
theorem rowB {l:List UInt8} {k:Nat} (h:k < l.length):rowC 1 (rows encB l) (ci k)=some (encB l[k]):=row_at (f:=encB) encB_len (List.getElem?_eq_getElem h)
theorem convB (b:UInt8):convC .i64 (nthC (encB b) 0)=some (ci (b.toNat:Int)):=by
 have h:=b.toNat_lt
 simp only [encB,nthC,List.getD_cons_zero,convC,ci]
 rw [wrapS (by omega) (by omega)]
theorem rem_ci {a b:Int} (h:b≠0):binC .rem false (ci a) (ci b)=some (ci (a.tmod b)):=by
 simp [binC,ci,binV,isShift,intBin,h]
section
variable {nat:Nat→List V→Option (List V)}
theorem x8 (bs:List UInt8) (pos:Nat) (hb:bs.length≤80) (hp:pos≤bs.length) (n:Int) (hn:1≤n):
  ∃(r:Int) (pos':Nat),fnT (T nat).G 8 [.ref 0 0,.v (.one (ci n))] [bx bs pos]=some ([.one (ci r)],[bx bs pos'])∧0≤r∧r < n∧pos'≤bs.length:=by
 by_cases h:pos < bs.length
 ·have hlt:¬(bs.length:Int)≤pos:=by omega
  have hn1:¬n < 1:=by omega
  have hs:binC .add false (ci (pos:Int)) (ci 1)=some (ci ((pos+1:Nat):Int)):=add_nat pos (by omega)
  have hs2:binC .sub false (ci ((pos+1:Nat):Int)) (ci 1)=some (ci (pos:Int)):=by
   rw [sub_ci (by omega) (by omega)]
   exact congrArg (fun x=>some (ci x)) (by omega)
  have hr:binC .rem false (ci (bs[pos].toNat:Int)) (ci n)=some (ci ((bs[pos].toNat:Int).tmod n)):=rem_ci (by omega)
  refine ⟨(bs[pos].toNat:Int).tmod n,pos+1,?_,Int.tmod_nonneg _ (by omega),Int.tmod_lt_of_pos _ (by omega),by omega⟩
  rw [fnT_eq tree8]
  simp only [t8]
  simp [-Int.natCast_add,zZ,bx_len,bx0,bx1,lenB,hlt,hn1,hs,hs2,hr,rowB h,convB,encB_len]
  rfl
 ·have hlt:(bs.length:Int)≤pos:=by omega
  refine ⟨0,pos,?_,by omega,by omega,hp⟩
  rw [fnT_eq tree8]
  simp [t8,zZ,bx_len,bx0,bx1,lenB,hlt]
end
end Go.Ey.Pr
