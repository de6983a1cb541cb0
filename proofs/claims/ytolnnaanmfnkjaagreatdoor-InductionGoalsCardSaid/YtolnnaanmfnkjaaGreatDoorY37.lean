/- A part. -/
import Derived.Test.YtolnnaanmfnkjaaGreatDoorY36
set_option linter.all false
set_option maxHeartbeats 4000000
namespace Go.Ey.Pr
open Go Go.Ey Go.Ey.Seat Go.RowKit Go.Proofs
def jS (a b:List bq):Bool:=a.any (kF b)
def lY:List cB->bq->Option Tm
 |[],_=>none
 |a::s,v=>cond (jY a.v v) (some a.t) (lY s v)
mutual
def iY (s:List cB):Tm->Tm
 |.var p x=>(lY s (p,x)).getD (.var p x)
 |.eG o=> .eG o
 |.app p x ts=> .app p x (yu s ts)
def yu (s:List cB):List Tm->List Tm
 |[]=>[]
 |t::ts=>iY s t::yu s ts
end
theorem Gc:∀{s:List cB} {v:bq} {t:Tm},lY s v=some t->∃a∈s,a.t=t
 |[],v,t,h=>by cases h
 |a::s,v,t,h=>by
  simp only [lY] at h;cases he:jY a.v v with
  |true=>rw [he] at h;exact ⟨a,by simp,by simpa using h⟩
  |false=>
   rw [he] at h;obtain ⟨b,hb,e⟩:=Gc (s:=s) h;exact ⟨b,by simp [hb],e⟩
section
variable {nat:Nat->List V->Option (List V)}
theorem ZP (xs:List bq) (hm:xs.length < 100000) (p:bq):∀(m k:Nat),k+m=xs.length->
  bn (T nat).G 65 0 [.c (rows bW xs),.c (ci k),.l (bW p)]=some ([.one (cb (kF (xs.drop k) p))],[])
 |0,k,hk=>by
  have hlt:¬((k:Int) < (xs.length:Int)):=by omega
  rw [ai YU (t:=t65.heads[0]) rfl,aA (by omega)]
  simp [t65,zZ,hlt,fo,kF]
 |m+1,k,hk'=>by
  have hkr:k < xs.length:=by omega
  have hlt:((k:Int) < (xs.length:Int)):=by omega
  have hs:=ax k (by omega)
  have hi:=ZP xs hm p m (k+1) (by omega)
  have hd:kF (xs.drop k) p=(jY p xs[k]||kF (xs.drop (k+1)) p):=by rw [drop_at hkr];rfl
  rw [hd,ai YU (t:=t65.heads[0]) rfl];have he:=aeE xs[k] p;cases hb:jY p xs[k]<;>rw [hb] at he<;>simp [-Int.natCast_add,t65,zZ,hlt,fo,kC hkr,he,hs,hi,jw,hb]
theorem x65 (xs:List bq) (hm:xs.length < 100000) (p:bq):bz (T nat).G 65 [.v (.one (rows bW xs)),.v (.agg (bW p))] []=some ([.one (cb (kF xs p))],[]):=by
 have h3:=ZP (nat:=nat) xs hm p xs.length 0 (by omega)
 simp only [An,A6] at h3;rw [aG YU];simp [t65,zZ,h3,jw]
theorem aau (a b:List bq) (ha:a.length < 100000) (hb:b.length < 100000):∀(m k:Nat),k+m=a.length->
  bn (T nat).G 59 0 [.c (rows bW a),.c (rows bW b),.c (ci k)]=some ([.one (cb (jS (a.drop k) b))],[])
 |0,k,hk=>by
  have hlt:¬((k:Int) < (a.length:Int)):=by omega
  rw [ai Za (t:=t59.heads[0]) rfl,aA (by omega)]
  simp [t59,zZ,hlt,fo,jS]
 |m+1,k,hk'=>by
  have hkr:k < a.length:=by omega
  have hlt:((k:Int) < (a.length:Int)):=by omega
  have hs:=ax k (by omega)
  have hi:=aau a b ha hb m (k+1) (by omega)
  have hy:=x65 (nat:=nat) b hb a[k];have hd:jS (a.drop k) b=(kF b a[k]||jS (a.drop (k+1)) b):=by rw [drop_at hkr];rfl
  rw [hd,ai Za (t:=t59.heads[0]) rfl];cases hc:kF b a[k]<;>rw [hc] at hy<;>simp [-Int.natCast_add,t59,zZ,hlt,fo,kC hkr,hy,hs,hi,jw,hc]
theorem x59 (a b:List bq) (ha:a.length < 100000) (hb:b.length < 100000):bz (T nat).G 59 [.v (.one (rows bW a)),.v (.one (rows bW b))] []=some ([.one (cb (jS a b))],[]):=by
 have h3:=aau (nat:=nat) a b ha hb a.length 0 (by omega)
 simp only [An,A6] at h3;rw [aG Za];simp [t59,zZ,h3]
def zTm:List C:=[ci 0,ce,ce,ci 0,ce,ce,ce,ce,ce,cz,cz]
def Ql (s:List cB) (v:bq):List V:=match lY s v with|some t=>[.agg (af t),.one (cb true)]|none=>[.agg zTm,.one (cb false)]
theorem fE {s:List cB} {k:Nat} (h:k < s.length):eZ 13 (rows bu s) (ci k)=some (cs s[k].v.1::cs s[k].v.2::af s[k].t):=kg mg (Ax h)
theorem UI (s:List cB) (hm:s.length < 100000) (v:bq):∀(m k:Nat),k+m=s.length->
  bn (T nat).G 138 0 [.c (rows bu s),.c (ci k),.l (bW v),.c (ci 0),.c (ce),.c (ce),.c (ci 0),.c (ce),.c (ce),.c (ce),.c (ce),.c (ce),.c cz,.c cz]=some (Ql (s.drop k) v,[])
 |0,k,hk=>by
  have hlt:¬((k:Int) < (s.length:Int)):=by omega
  rw [ai TE (t:=t138.heads[0]) rfl,aA (by omega)]
  simp [t138,zZ,hlt,aa,Ql,lY,zTm]
 |m+1,k,hk'=>by
  have hkr:k < s.length:=by omega
  have hlt:((k:Int) < (s.length:Int)):=by omega
  have hs:=ax k (by omega)
  have hi:=UI s hm v m (k+1) (by omega)
  have he:wh [1,1] false [cs s[k].v.1,cs s[k].v.2] (bW v)=some (cb (jY s[k].v v)):=jX false _ _ _ _;rw [drop_at hkr,ai TE (t:=t138.heads[0]) rfl];cases hb:jY s[k].v v with
  |true=>
   rw [hb] at he;have h11:=kJ s[k].t;simp [-Int.natCast_add,t138,zZ,hlt,aa,fE hkr,he,jw,Ql,lY,hb,ah,h11]
  |false=>
   rw [hb] at he;have hr:Ql (s[k]::s.drop (k+1)) v=Ql (s.drop (k+1)) v:=by simp only [Ql,lY,hb,E4]
   rw [hr];simp [-Int.natCast_add,t138,zZ,hlt,aa,fE hkr,he,hs,jw,hi]
theorem arp (s:List cB) (hm:s.length < 100000) (v:bq):bz (T nat).G 138 [.v (.one (rows bu s)),.v (.agg (bW v))] []=some (Ql s v,[]):=by
 have h3:=UI (nat:=nat) s hm v s.length 0 (by omega)
 simp only [An,A6] at h3;rw [aG TE];simp [t138,zZ,h3,jw]
theorem Xz (s:List cB) (ts:List Tm) (hn:ts.length < 100000) (ih:∀t∈ts,bz (T nat).G 77 [.v (.agg (af t)),.v (.one (rows bu s))] []=some ([.agg (af (iY s t))],[])):∀(m k:Nat) (acc:List Tm),k+m=ts.length->acc.length=k->
  bn (T nat).G 139 0 [.c (rows af ts),.c (rows bu s),.c (ci k),.c (rows af acc)]=some ([.one (rows af (acc++yu s (ts.drop k)))],[])
 |0,k,acc,hk,ha=>by
  have hlt:¬((k:Int) < (ts.length:Int)):=by omega
  rw [ai Ty (t:=t139.heads[0]) rfl,aA (by omega)]
  simp [t139,zZ,hlt,uk,yu]
 |m+1,k,acc,hk',ha=>by
  have hkr:k < ts.length:=by omega
  have hlt:((k:Int) < (ts.length:Int)):=by omega
  have hs:=ax k (by omega)
  have hi:=Xz s ts hn ih m (k+1) (acc++[iY s ts[k]]) (by omega) (by simp;omega)
  have hy:=ih ts[k] (A5 hkr);have hap:=D8 (acc:=acc) (x:=iY s ts[k]) (by omega)
  have hl:=kR (iY s ts[k]);rw [drop_at hkr,ai Ty (t:=t139.heads[0]) rfl,yu];simp [-Int.natCast_add,t139,zZ,hlt,uk,eH hkr,hy,hl,hap,hs,hi,ah]
theorem x77 (s:List cB) (hm:s.length < 100000):∀(n:Nat) (t:Tm),av t<=n->n<=3000->bz (T nat).G 77 [.v (.agg (af t)),.v (.one (rows bu s))] []=some ([.agg (af (iY s t))],[])
 |0,t,hn,_=>by have:=jf t;omega
 |n+1,t,hn,h3=>by
  rw [aG amR];cases t with
  |var p x=>
   have h1:bz (T nat).G 138 [.v (.one (rows bu s)),.v (.agg [cs p,cs x])] []=some (Ql s (p,x),[]):=arp (nat:=nat) s hm (p,x);cases ha:lY s (p,x) with
   |none=>simp only [Ql,ha] at h1;simp [t77,zZ,af,iY,ha,h1,zTm]
   |some y=>simp only [Ql,ha] at h1;simp [t77,zZ,af,iY,ha,h1,ah]
  |eG o=>
   have e0:au (af (.eG o)) 0=ci 2:=by rw [mq];rfl
   simp [t77,zZ,e0,ah,iY]
  |app p x ts=>
   have hnd:av (.app p x ts)=1+aJ ts:=rfl;have hlen:=qd ts;have h1:=Xz (nat:=nat) s ts (by omega) (fun y hy=>x77 s hm n y (by have:=nK hy;omega) (by omega)) ts.length 0 [] (by omega) rfl
   simp only [An,A6,tO,D4] at h1;have h2:bz (T nat).G 139 [.v (.one (rows af ts)),.v (.one (rows bu s))] []=some ([.one (rows af (yu s ts))],[]):=by rw [aG Ty];simp [t139,zZ,h1]
   have h4:=x54 (nat:=nat) p x (yu s ts);simp [t77,zZ,dw,h2,h4,iY]
mutual
def vsT:Tm->List bq
 |.var p s=>[(p,s)]
 |.eG _=>[]
 |.app _ _ ts=>Ml ts
def Ml:List Tm->List bq
 |[]=>[]
 |t::ts=>vsT t++Ml ts
end
theorem XX (out acc:List bq) (p:bq):(mG acc p).foldl mG out=mG (acc.foldl mG out) p:=by
 cases h:kF acc p with
 |true=>
  have e:mG acc p=acc:=by simp [mG,h]
  have h2:kF (acc.foldl mG out) p=true:=BC.2 ((Q9 acc out p).2 (.inr (BC.1 h)));rw [e];simp [mG,h2]
 |false=>
  have e:mG acc p=acc++[p]:=by simp [mG,h]
  rw [e,List.foldl_append];rfl
theorem LD (out:List bq):∀(l acc:List bq),(l.foldl mG acc).foldl mG out=l.foldl mG (acc.foldl mG out)
 |[],acc=>rfl
 |p::l,acc=>by rw [Hh,LD out l,XX,Hh]
mutual
theorem aa2:∀(t:Tm) (xs:List bq),MG 1 xs t=(vsT t).foldl mG xs
 |.var p s,xs=>by simp only [MG,R7,Go.Proofs.kH,bZ,vsT,Hh,List.foldl_nil,mG,decide_true,Bool.true_and];cases kF xs (p,s)<;>rfl
 |.eG o,xs=>by simp [MG,R7,Go.Proofs.kH,vsT]
 |.app p s ts,xs=>by rw [MG,vsT,<-EO ts];simp [R7,Go.Proofs.kH]
theorem EO:∀(ts:List Tm) (xs:List bq),iw 1 xs ts=(Ml ts).foldl mG xs
 |[],xs=>rfl
 |t::ts,xs=>by rw [iw,EO ts,aa2 t,Ml,List.foldl_append]
end
def Ll:Tm->List bq
 |.var p s=>[(p,s)]
 |.eG _=>[]
 |.app _ _ ts=>iw 1 [] ts
theorem Wy (t:Tm) (xs:List bq):(Ll t).foldl mG xs=MG 1 xs t:=by
 rw [aa2];cases t with
 |var p s=>rfl
 |eG o=>rfl
 |app p s ts=>rw [Ll,EO,LD];rfl
theorem adj (t:Tm):(Ll t).length<=av t:=by
 cases t with
 |var p s=>simp [Ll,av]
 |eG o=>simp [Ll]
 |app p s ts=>have:=wm 1 ts [];simp only [Ll,av,F2] at *;omega
theorem ajG (h':Nat) (ts:List Tm) (i:Nat) (found:List bq) (hf:found.length < 100000)
  (hd:∀(k:Nat) (out:List bq),k < found.length->out.length+(found.length - k) < 100000->
   bn (T nat).G 90 h' [.c (rows af ts),.c (ci i),.c (rows bW found),.c (ci k),.c (rows bW out)]=bn (T nat).G 90 h' [.c (rows af ts),.c (ci i),.c (rows bW found),.c (ci ((k+1:Nat):Int)),.c (rows bW (mG out found[k]!))])
  (he:∀out:List bq,bn (T nat).G 90 h' [.c (rows af ts),.c (ci i),.c (rows bW found),.c (ci found.length),.c (rows bW out)]=bn (T nat).G 90 0 [.c (rows af ts),.c (ci ((i+1:Nat):Int)),.c (rows bW out)]):∀(m k:Nat) (out:List bq),k+m=found.length->out.length+m < 100000->
  bn (T nat).G 90 h' [.c (rows af ts),.c (ci i),.c (rows bW found),.c (ci k),.c (rows bW out)]=bn (T nat).G 90 0 [.c (rows af ts),.c (ci ((i+1:Nat):Int)),.c (rows bW ((found.drop k).foldl mG out))]
 |0,k,out,hk,ho=>by
  obtain rfl:k=found.length:=by omega
  rw [he,List.drop_length];rfl
 |m+1,k,out,hk,ho=>by
  have hkr:k < found.length:=by omega
  have hal:=Vh out found[k];have e:found[k]! =found[k]:=by simp [hkr]
  rw [hd k out hkr (by omega),e,ajG h' ts i found hf hd he m (k+1) _ (by omega) (by omega),drop_at hkr,Hh]
theorem aeJ (ts:List Tm) (i:Nat) (hi':i < 100000) (found:List bq) (hf:found.length < 10000) (out:List bq) (ho:out.length+found.length < 100000):
  bn (T nat).G 90 2 [.c (rows af ts),.c (ci i),.c (rows bW found),.c (ci 0),.c (rows bW out)]=bn (T nat).G 90 0 [.c (rows af ts),.c (ci ((i+1:Nat):Int)),.c (rows bW (found.foldl mG out))]:=by
 have h:=ajG (nat:=nat) 2 ts i found (by omega) (fun k out hk ho=>?_) (fun out=>?_) found.length 0 out (by omega) (by omega)
 ·simpa using h
 ·have hlt:((k:Int) < (found.length:Int)):=by omega
  have hs:=ax k (by omega)
  have hy:=x151 (nat:=nat) out (by omega) found[k]
  have e:found[k]! =found[k]:=by simp [hk]
  rw [e,ai Dx (t:=t90.heads[2]) rfl];cases hb:kF out found[k] with
  |true=>
   have ha:mG out found[k]=out:=by simp [mG,hb]
   rw [hb] at hy;rw [ha];simp [-Int.natCast_add,t90,zZ,hlt,fo,kC hk,hy,hs,jw]
  |false=>
   have ha:mG out found[k]=out++[found[k]]:=by simp [mG,hb]
   have hl:fq 2 1 [au (bW found[k]) 0,au (bW found[k]) 1]=some (.slice (bW found[k]) 1):=Fq _ _;have hp:=qm (acc:=out) (x:=found[k]) (by omega)
   rw [hb] at hy;rw [ha];simp [-Int.natCast_add,t90,zZ,hlt,fo,kC hk,hy,hs,jw,hl,hp]
 ·have hs:=ax i (by omega)
  rw [ai Dx (t:=t90.heads[2]) rfl];simp [-Int.natCast_add,t90,zZ,fo,hs]
theorem alA (ts:List Tm) (i:Nat) (hi':i < 100000) (p:bq) (out:List bq) (ho:out.length < 90000):
  bn (T nat).G 90 1 [.c (rows af ts),.c (ci i),.c (ci 0),.c (rows bW out),.c (rows bW [p])]=bn (T nat).G 90 0 [.c (rows af ts),.c (ci ((i+1:Nat):Int)),.c (rows bW (mG out p))]:=by
 have aoZ:∀out:List bq,bn (T nat).G 90 1 [.c (rows af ts),.c (ci i),.c (ci 1),.c (rows bW out),.c (rows bW [p])]=bn (T nat).G 90 0 [.c (rows af ts),.c (ci ((i+1:Nat):Int)),.c (rows bW out)]:=fun out=>by
  have hs:=ax i (by omega)
  rw [ai Dx (t:=t90.heads[1]) rfl];simp [-Int.natCast_add,t90,zZ,fo,hs]
 have hs0:cZ .add false (ci 0) (ci 1)=some (ci 1):=ax 0 (by omega)
 have hy:=x151 (nat:=nat) out (by omega) p
 have hr:eZ 2 (rows bW [p]) (ci 0)=some (bW p):=kg jw (k:=0) rfl;rw [ai Dx (t:=t90.heads[1]) rfl];cases hb:kF out p with
 |true=>
  have ha:mG out p=out:=by simp [mG,hb]
  rw [hb] at hy;have he:=aoZ out;rw [ha];simp [-Int.natCast_add,t90,zZ,fo,hr,hy,hs0,jw,he]
 |false=>
  have ha:mG out p=out++[p]:=by simp [mG,hb]
  have hl:fq 2 1 [au (bW p) 0,au (bW p) 1]=some (.slice (bW p) 1):=Fq _ _;have hp:=qm (acc:=out) (x:=p) (by omega)
  rw [hb] at hy;have he:=aoZ (out++[p]);rw [ha];simp [-Int.natCast_add,t90,zZ,fo,hr,hy,hs0,jw,hl,hp,he]
theorem VL (ts:List Tm) (hn:aJ ts<=60000) (ih:∀t∈ts,(∀p s,t≠.var p s)->bz (T nat).G 90 [.v (.one (rows af (aN t)))] []=some ([.one (rows bW (Ll t))],[])) (hb:∀t∈ts,av t<=3000):∀(m k:Nat) (out:List bq),k+m=ts.length->out.length+aJ (ts.drop k) < 80000->
  bn (T nat).G 90 0 [.c (rows af ts),.c (ci k),.c (rows bW out)]=some ([.one (rows bW (iw 1 out (ts.drop k)))],[])
 |0,k,out,hk,ho=>by
  have hlt:¬((k:Int) < (ts.length:Int)):=by omega
  rw [ai Dx (t:=t90.heads[0]) rfl,aA (by omega)]
  simp [t90,zZ,hlt,uk,iw]
 |m+1,k,out,hk',ho=>by
  have hkr:k < ts.length:=by omega
  have hlen:=qd ts;have hlt:((k:Int) < (ts.length:Int)):=by omega
  rw [drop_at hkr] at ho;simp only [aJ] at ho;have hmem:ts[k]∈ts:=A5 hkr;have hfl:=adj ts[k];have hal:=Gf (Ll ts[k]) out;have hbk:=hb _ hmem;have hi:=VL ts hn ih hb m (k+1) (MG 1 out ts[k]) (by omega) (by rw [<-Wy];omega)
  rw [drop_at hkr,iw,<-hi,<-Wy,ai Dx (t:=t90.heads[0]) rfl];have hr:=eH hkr;cases ht:ts[k] with
  |var p s=>
   rw [ht] at hr;have h1:=alA (nat:=nat) ts k (by omega) (p,s) out (by omega)
   have hl:fq 2 1 [cs p,cs s]=some (rows bW [(p,s)]):=Fq _ _;simp [-Int.natCast_add,t90,zZ,hlt,uk,hr,af,ah,hl,Ll,h1]
  |eG o=>
   rw [ht] at hr;have hr':eZ 11 (rows af ts) (ci k)=some (ci 2::(af (.eG o)).tail):=by rw [hr,mq];rfl
   have hy:=ih ts[k] hmem (by rw [ht];intro p s h;cases h)
   rw [ht] at hy;have hy':bz (T nat).G 90 [.v (.one cz)] []=some ([.one (rows bW [])],[]):=hy;have h2:=aeJ (nat:=nat) ts k (by omega) [] (by simp) out (by simp;omega)
   have h5:bz (T nat).G 150 [.v (.agg (ci 2::(af (.eG o)).tail))] []=some ([.one cz],[]):=by rw [aG aaQ];simp [t150,zZ,ah]
   simp [-Int.natCast_add,t90,zZ,hlt,uk,hr',ah,h5,hy',Ll] at h2 |-;simp [h2]
  |app p s us=>
   rw [ht] at hr hfl hbk;have hy:=ih ts[k] hmem (by rw [ht];intro p s h;cases h)
   rw [ht] at hy;have hy':bz (T nat).G 90 [.v (.one (rows af us))] []=some ([.one (rows bW (Ll (.app p s us)))],[]):=hy;have h2:=aeJ (nat:=nat) ts k (by omega) (Ll (.app p s us)) (by omega) out (by omega)
   have h5:bz (T nat).G 150 [.v (.agg (af (.app p s us)))] []=some ([.one (rows af us)],[]):=by rw [aG aaQ];simp [t150,zZ,dw]
   rw [dw] at hr h5;simp [-Int.natCast_add,t90,zZ,hlt,uk,hr,h5,hy',h2]
theorem x90:∀(n:Nat) (ts:List Tm),(∀t∈ts,av t<=n)->n<=3000->aJ ts<=60000->bz (T nat).G 90 [.v (.one (rows af ts))] []=some ([.one (rows bW (iw 1 [] ts))],[])
 |n,ts,hb,hn,hs=>by
  have h1:=VL (nat:=nat) ts hs (fun t ht hv=>by
   have hbt:=hb t ht;have hp:=jf t;cases t with
   |var p s=>exact absurd rfl (hv p s)
   |eG o=>
    rw [aG Dx];have h0:bn (T nat).G 90 0 [.c cz,.c (ci 0),.c cz]=some ([.one (rows bW [])],[]):=by rw [ai Dx (t:=t90.heads[0]) rfl];simp [t90,zZ,rows]
    simp [t90,zZ,h0,aN,Ll];exact h0
   |app p s us=>
    have hnd:av (.app p s us)=1+aJ us:=rfl;have:=x90 (n - 1) us (fun y hy=>by have:=nK hy;omega) (by omega) (by omega)
    exact this) (fun t ht=>by have:=hb t ht;omega) ts.length 0 [] (by omega) (by simp;omega)
  simp only [An,A6,tO] at h1;rw [aG Dx];simp [t90,zZ,h1]
termination_by n ts=>n
decreasing_by
 have h0:=hb _ ht;have:av (.app p s us)=1+aJ us:=rfl
 omega
end
end Go.Ey.Pr
set_option maxHeartbeats 4000000
namespace Go.Ey.Pr
open Go Go.Ey Go.Ey.Seat Go.RowKit Go.Proofs
def Du (a:List cB) (x:cB):Bool:=a.any fun y=>jY y.v x.v && jb y.t x.t
def Ig (a b:List cB):Bool:=b.all (Du a)
def J6 (b:Bool):List C:=[cb b]
theorem MQ (b:Bool):(J6 b).length=1:=rfl
def Mm (s:List cB):List bq->List Bool->List Bool
 |p::ps,b::bs=>(b||!jb (iY s (.var p.1 p.2)) (.var p.1 p.2))::Mm s ps bs
 |_,bs=>bs
def Tn (ps:List bq) (ss:List (List cB)) (bs:List Bool):List Bool:=ss.foldl (fun bs s=>Mm s ps bs) bs
def Bq (ps:List bq) (cs:List Cs) (bs:List Bool):List Bool:=cs.foldl (fun bs c=>Tn ps c.subs bs) bs
theorem NM (s:List cB):∀(ps:List bq) (bs:List Bool),(Mm s ps bs).length=bs.length
 |[],bs=>rfl
 |p::ps,[]=>rfl
 |p::ps,b::bs=>by simp [Mm,NM s ps bs]
theorem Ny (ps:List bq):∀(ss:List (List cB)) (bs:List Bool),(Tn ps ss bs).length=bs.length
 |[],bs=>rfl
 |s::ss,bs=>by rw [Tn,Hh];exact (Ny ps ss _).trans (NM s ps bs)
theorem Wt (ps:List bq):∀(cs:List Cs) (bs:List Bool),(Bq ps cs bs).length=bs.length
 |[],bs=>rfl
 |c::cs,bs=>by rw [Bq,Hh];exact (Wt ps cs _).trans (Ny ps c.subs bs)
theorem We {α:Type} {f:α->List C} (hf:∀x,(f x).length=1) (y:α):∀(l:List α) (k:Nat),k < l.length->splice (l.flatMap f) k (f y)=(l.set k y).flatMap f
 |[],k,h=>by simp at h
 |x::l,0,_=>by
  have h1:=hf x;have h2:=hf y
  match hx:f x,h1 with
  |[c],_=>match hy:f y,h2 with
   |[d],_=>simp [splice,hx,hy]
 |x::l,k+1,h=>by
  have h1:=hf x;have h2:=hf y
  have ih:=We hf y l k (by simpa using h)
  match hx:f x,h1 with
  |[c],_=>match hy:f y,h2 with
   |[d],_=>
    rw [hy] at ih;simp [splice,hx,hy] at ih |-;exact ih
theorem NG {bs:List Bool} {k:Nat} (h:k < bs.length) (b:Bool):Zh 1 0 [cb b] (rows J6 bs) (ci k)=some (rows J6 (bs.set k b)):=by
 have e:=We MQ b bs k h;have h2:(bs.flatMap J6).length=bs.length:=by have:=oH MQ bs;omega
 have h3:(k:Int) < (bs.length:Int):=by omega
 have h4:(0:Int)<=(k:Int):=by omega
 simp [Zh,rows,ci,h2,h3,<-e,J6]
section
variable {nat:Nat->List V->Option (List V)}
theorem acZ (a b:List cB) (i:Nat) (hi:i < b.length) (hb:b.length < 100000) (ha:a.length < 100000) (hok:Ac a):∀(m k:Nat),k+m=a.length->
  bn (T nat).G 123 1 [.c (rows bu a),.c (rows bu b),.c (ci i),.c (cb false),.c (ci k)]=cond (Du (a.drop k) b[i]) (bn (T nat).G 123 0 [.c (rows bu a),.c (rows bu b),.c (ci ((i+1:Nat):Int))]) (some ([.one (cb false)],[]))/\
  (∀k',k'<=a.length->a.length - k'<=m->bn (T nat).G 123 1 [.c (rows bu a),.c (rows bu b),.c (ci i),.c (cb true),.c (ci k')]=bn (T nat).G 123 0 [.c (rows bu a),.c (rows bu b),.c (ci ((i+1:Nat):Int))])
 |m,k,hk=>by
  have hsi:=ax i (by omega)
  have ht:∀k',k'<=a.length->bn (T nat).G 123 1 [.c (rows bu a),.c (rows bu b),.c (ci i),.c (cb true),.c (ci k')]=bn (T nat).G 123 0 [.c (rows bu a),.c (rows bu b),.c (ci ((i+1:Nat):Int))]:=fun k' hk'=>by
   rw [ai Ga (t:=t123.heads[1]) rfl];by_cases hlt:((k':Int) < (a.length:Int))
   ·simp [-Int.natCast_add,t123,zZ,hlt,aa,hsi]
   ·simp [-Int.natCast_add,t123,zZ,hlt,aa,hsi]
  refine ⟨?_,fun k' hk' _=>ht k' hk'⟩
  match m,hk with
  |0,hk=>
   have hlt:¬((k:Int) < (a.length:Int)):=by omega
   rw [ai Ga (t:=t123.heads[1]) rfl,aA (by omega)]
   simp [-Int.natCast_add,t123,zZ,hlt,aa,Du]
  |m+1,hk=>
   have hkr:k < a.length:=by omega
   have hlt:((k:Int) < (a.length:Int)):=by omega
   have hs:=ax k (by omega)
   have ih:=(acZ a b i hi hb ha hok m (k+1) (by omega)).1
   have htt:=ht (k+1) (by omega)
   have he:wh [1,1] false [cs a[k].v.1,cs a[k].v.2] [cs b[i].v.1,cs b[i].v.2]=some (cb (jY a[k].v b[i].v)):=jX false _ _ _ _;have hoa:=hok a[k] (A5 hkr);have CY:=ZZ (nat:=nat) hoa.1 hoa.2 b[i].t;have hd:Du (a.drop k) b[i]=(jY a[k].v b[i].v && jb a[k].t b[i].t||Du (a.drop (k+1)) b[i]):=by rw [drop_at hkr];rfl
   have n1:=kJ a[k].t;have n2:=kJ b[i].t;rw [hd,ai Ga (t:=t123.heads[1]) rfl];cases hq:jY a[k].v b[i].v with
   |false=>
    rw [hq] at he;simp [-Int.natCast_add,t123,zZ,hlt,aa,fE hkr,fE hi,he,hs,ih]
   |true=>
    rw [hq] at he;cases hr:jb a[k].t b[i].t<;>rw [hr] at CY<;>
     simp [-Int.natCast_add,t123,zZ,hlt,aa,fE hkr,fE hi,he,hs,ih,htt,n1,n2,CY,ah]
theorem Xu (a b:List cB) (hb:b.length < 100000) (ha:a.length < 100000) (hok:Ac a):∀(m k:Nat),k+m=b.length->
  bn (T nat).G 123 0 [.c (rows bu a),.c (rows bu b),.c (ci k)]=some ([.one (cb (Ig a (b.drop k)))],[])
 |0,k,hk=>by
  have hlt:¬((k:Int) < (b.length:Int)):=by omega
  rw [ai Ga (t:=t123.heads[0]) rfl,aA (by omega:¬k < b.length)]
  simp [t123,zZ,hlt,aa,Ig]
 |m+1,k,hk'=>by
  have hkr:k < b.length:=by omega
  have hlt:((k:Int) < (b.length:Int)):=by omega
  have hi:=Xu a b hb ha hok m (k+1) (by omega)
  have h1:=(acZ (nat:=nat) a b k hkr hb ha hok a.length 0 (by omega)).1
  simp only [An,A6] at h1;have hd:Ig a (b.drop k)=(Du a b[k] && Ig a (b.drop (k+1))):=by rw [drop_at hkr];rfl
  rw [hd,ai Ga (t:=t123.heads[0]) rfl];cases hh:Du a b[k]<;>rw [hh] at h1<;>simp [-Int.natCast_add,t123,zZ,hlt,aa,h1,hi]
theorem aib (a b:List cB) (hb:b.length < 100000) (ha:a.length < 100000) (hok:Ac a):bz (T nat).G 123 [.v (.one (rows bu a)),.v (.one (rows bu b))] []=some ([.one (cb (Ig a b))],[]):=by
 have h3:=Xu (nat:=nat) a b hb ha hok b.length 0 (by omega)
 simp only [An,A6] at h3;rw [aG Ga];simp [t123,zZ,h3]
theorem Zx {s:List cB} (hs:Ac s) (p x:ByteArray):GA (iY s (.var p x)):=by
 rw [iY];cases h:lY s (p,x) with
 |none=>exact ⟨.var,by simp [av]⟩
 |some t=>
  obtain ⟨a,ha,rfl⟩:=Gc h;exact hs a ha
theorem ac4 (f:Fd) (hf:f.OK) (ks:List Cs) (i k:Nat) (hk2:k < 100000) (s:List cB) (hs:Ac s) (hm:s.length < 100000):∀(m p:Nat) (bs:List Bool),bs.length=f.ps.length->p+m=f.ps.length->
  bn (T nat).G 122 2 [.c (rows aQ ks),.c (ci i),.c (ci k),.c (rows bu s),.c (ci p),.l (j5 f),.c (rows J6 bs)]=
  bn (T nat).G 122 1 [.c (rows aQ ks),.c (ci i),.c (ci ((k+1:Nat):Int)),.l (j5 f),.c (rows J6 (bs.take p++Mm s (f.ps.drop p) (bs.drop p)))]
 |0,p,bs,hb,hp=>by
  have hlt:¬((p:Int) < (f.ps.length:Int)):=by omega
  have hs:=ax k (by omega)
  have e2:au (j5 f) 2=rows bW f.ps:=rfl;rw [ai Dt (t:=t122.heads[2]) rfl,aA (by omega:¬p < f.ps.length)]
  simp [-Int.natCast_add,t122,zZ,hlt,e2,fo,hs,Mm,dh hf]
 |m+1,p,bs,hb,hp=>by
  have hpr:p < f.ps.length:=by omega
  have hpb:p < bs.length:=by omega
  have hps:=hf.ps;have hlt:((p:Int) < (f.ps.length:Int)):=by omega
  have hs':=ax p (by omega)
  have e2:au (j5 f) 2=rows bW f.ps:=rfl;have hr:eZ 2 (rows bW f.ps) (ci p)=some [cs f.ps[p].1,cs f.ps[p].2]:=kC hpr;have hrb:eZ 1 (rows J6 bs) (ci p)=some [cb bs[p]]:=kg MQ (Ax hpb);have h53:=x53 (nat:=nat) f.ps[p].1 f.ps[p].2;have h77:=x77 (nat:=nat) s hm 3000 (.var f.ps[p].1 f.ps[p].2) (by simp [av]) (by omega)
  have hok:=Zx hs f.ps[p].1 f.ps[p].2;have CY:=ZZ (nat:=nat) hok.1 hok.2 (.var f.ps[p].1 f.ps[p].2);have step:∀b,b=(bs[p]||!jb (iY s (.var f.ps[p].1 f.ps[p].2)) (.var f.ps[p].1 f.ps[p].2))->
    bn (T nat).G 122 2 [.c (rows aQ ks),.c (ci i),.c (ci k),.c (rows bu s),.c (ci ((p+1:Nat):Int)),.l (j5 f),.c (rows J6 (bs.set p b))]=
    bn (T nat).G 122 1 [.c (rows aQ ks),.c (ci i),.c (ci ((k+1:Nat):Int)),.l (j5 f),.c (rows J6 (bs.take p++Mm s (f.ps.drop p) (bs.drop p)))]:=fun b hbb=>by
   rw [ac4 f hf ks i k hk2 s hs hm m (p+1) (bs.set p b) (by simpa using hb) (by omega)]
   have e:(bs.set p b).take (p+1)++Mm s (f.ps.drop (p+1)) ((bs.set p b).drop (p+1))=bs.take p++Mm s (f.ps.drop p) (bs.drop p):=by
    rw [drop_at hpr,drop_at hpb,Mm,<-hbb,List.drop_set_of_lt (by omega),List.take_set,List.take_succ_eq_append_getElem hpb,List.set_append_right _ _ (by simp;exact Nat.min_le_left _ _)]
    simp [Nat.min_eq_left (Nat.le_of_lt hpb)]
   rw [e]
  rw [ai Dt (t:=t122.heads[2]) rfl];cases hq:bs[p] with
  |true=>
   rw [hq] at hrb step;have h1:=step true rfl;have h2:=NG hpb true;simp [-Int.natCast_add,t122,zZ,hlt,e2,fo,hr,hrb,h53,h77,ah,h2,hs',h1,dh hf,bW]
  |false=>
   rw [hq] at hrb step;cases he:jb (iY s (.var f.ps[p].1 f.ps[p].2)) (.var f.ps[p].1 f.ps[p].2) with
   |true=>
    rw [he] at CY step;have h1:=step false rfl;have h2:=NG hpb false;simp [-Int.natCast_add,t122,zZ,hlt,e2,fo,hr,hrb,h53,h77,CY,ah,h2,hs',h1,dh hf,bW]
   |false=>
    rw [he] at CY step;have h1:=step true rfl;have h2:=NG hpb true;simp [-Int.natCast_add,t122,zZ,hlt,e2,fo,hr,hrb,h53,h77,CY,ah,h2,hs',h1,dh hf,bW]
theorem abj (f:Fd) (hf:f.OK) (ks:List Cs) (i:Nat) (hi:i < ks.length) (hl:ks.length < 100000) (hss:amu ks[i].subs) (hsl:ks[i].subs.length < 100000):∀(m k:Nat) (bs:List Bool),bs.length=f.ps.length->k+m=ks[i].subs.length->
  bn (T nat).G 122 1 [.c (rows aQ ks),.c (ci i),.c (ci k),.l (j5 f),.c (rows J6 bs)]=
  bn (T nat).G 122 0 [.c (rows aQ ks),.c (ci ((i+1:Nat):Int)),.l (j5 f),.c (rows J6 (Tn f.ps (ks[i].subs.drop k) bs))]
 |0,k,bs,hb,hk=>by
  have hlt:¬((k:Int) < (ks[i].subs.length:Int)):=by omega
  have hs:=ax i (by omega)
  have hr:eZ 2 (rows aQ ks) (ci i)=some [rows af ks[i].tests,rows encS ks[i].subs]:=kg bM (Ax hi);rw [ai Dt (t:=t122.heads[1]) rfl,aA (by omega:¬k < ks[i].subs.length)]
  simp [-Int.natCast_add,t122,zZ,hlt,hr,aa,hs,Tn,dh hf]
 |m+1,k,bs,hb,hk=>by
  have hkr:k < ks[i].subs.length:=by omega
  have hlt:((k:Int) < (ks[i].subs.length:Int)):=by omega
  have hr:eZ 2 (rows aQ ks) (ci i)=some [rows af ks[i].tests,rows encS ks[i].subs]:=kg bM (Ax hi);have hr1:eZ 1 (rows encS ks[i].subs) (ci k)=some [rows bu ks[i].subs[k]]:=kg NC (Ax hkr);have hsk:=hss _ (A5 hkr);have h1:=ac4 (nat:=nat) f hf ks i k (by omega) ks[i].subs[k] hsk.1 (by omega) f.ps.length 0 bs hb (by omega)
  simp only [List.take_zero,An,D4,A6] at h1;have ih:=abj f hf ks i hi hl hss hsl m (k+1) (Mm ks[i].subs[k] f.ps bs) (by rw [NM];exact hb) (by omega)
  have e:Tn f.ps (ks[i].subs.drop k) bs=Tn f.ps (ks[i].subs.drop (k+1)) (Mm ks[i].subs[k] f.ps bs):=by rw [drop_at hkr];rfl
  rw [e,<-ih,<-h1,ai Dt (t:=t122.heads[1]) rfl];simp [-Int.natCast_add,t122,zZ,hlt,hr,hr1,aa,dh hf]
theorem aaR (f:Fd) (hf:f.OK) (ks:List Cs) (hl:ks.length < 100000) (hss:∀c∈ks,amu c.subs/\c.subs.length < 100000):∀(m i:Nat) (bs:List Bool),bs.length=f.ps.length->i+m=ks.length->
  bn (T nat).G 122 0 [.c (rows aQ ks),.c (ci i),.l (j5 f),.c (rows J6 bs)]=some ([.one (rows J6 (Bq f.ps (ks.drop i) bs))],[])
 |0,i,bs,hb,hk=>by
  have hlt:¬((i:Int) < (ks.length:Int)):=by omega
  rw [ai Dt (t:=t122.heads[0]) rfl,aA (by omega:¬i < ks.length)]
  simp [-Int.natCast_add,t122,zZ,hlt,aa,Bq]
 |m+1,i,bs,hb,hk=>by
  have hir:i < ks.length:=by omega
  have hlt:((i:Int) < (ks.length:Int)):=by omega
  have hc:=hss _ (A5 hir);have h1:=abj (nat:=nat) f hf ks i hir hl hc.1 hc.2 ks[i].subs.length 0 bs hb (by omega)
  simp only [An,A6] at h1;have ih:=aaR f hf ks hl hss m (i+1) (Tn f.ps ks[i].subs bs) (by rw [Ny];exact hb) (by omega)
  have e:Bq f.ps (ks.drop i) bs=Bq f.ps (ks.drop (i+1)) (Tn f.ps ks[i].subs bs):=by rw [drop_at hir];rfl
  rw [e,<-ih,<-h1,ai Dt (t:=t122.heads[0]) rfl];simp [-Int.natCast_add,t122,zZ,hlt,aa,dh hf]
theorem NP:∀n:Nat,zeros [.bool false] n=(List.replicate n false).flatMap J6
 |0=>rfl
 |n+1=>by
  have:=NP n
  simp only [zeros,List.replicate_succ,D3] at this |-;rw [<-this];rfl
theorem asI (f:Fd) (hf:f.OK) (ks:List Cs) (hl:ks.length < 100000) (hss:∀c∈ks,amu c.subs/\c.subs.length < 100000):bz (T nat).G 122 [.v (.agg (j5 f)),.v (.one (rows aQ ks))] []=some ([.one (rows J6 (Bq f.ps ks (List.replicate f.ps.length false)))],[]):=by
 have h1:=aaR (nat:=nat) f hf ks hl hss ks.length 0 (List.replicate f.ps.length false) (by simp) (by omega)
 simp only [An,A6] at h1;have e2:au (j5 f) 2=rows bW f.ps:=rfl;have hps:=hf.ps;have hm:mkC 1 1 [.bool false] (ci f.ps.length) (ci f.ps.length)=some (rows J6 (List.replicate f.ps.length false)):=by
  have h2:f.ps.length * 1<=aB:=by simp only [aB];omega
  simp [mkC,ci,rows,NP];simp only [aB];omega
 rw [aG Dt];simp [t122,zZ,e2,fo,hm,h1,dh hf]
end
end Go.Ey.Pr
