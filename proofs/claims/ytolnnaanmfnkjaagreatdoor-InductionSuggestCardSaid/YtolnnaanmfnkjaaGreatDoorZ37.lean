import Derived.Test.YtolnnaanmfnkjaaGreatDoorZ35
set_option linter.all false
set_option maxHeartbeats 0
set_option maxRecDepth 100000
namespace Go.Ey.Pr
open Seat RowKit Proofs
def encZ:Option Tm->List C
 |some t=>aa t
 |none=>zTm
theorem Iw (z:Option Tm):(encZ z).length=11:=by
 cases z with
 |none=>rfl
 |some t=>exact af t
theorem aa1 {α:Type} {f:α->List C} {e:Nat} (hf:∀x,(f x).length=e) (y:α) {l:List α} {k:Nat} (h:k < l.length):splice (l.flatMap f) (k * e) (f y)=(l.set k y).flatMap f:=by
 have h2:k * e+e=(k+1) * e:=by rw [G1]
 rw [splice,QF hf,hf,h2,Ka hf,List.set_eq_take_append_cons_drop,C6 h];simp
theorem anC {l:List (Option Tm)} {k:Nat} (h:k < l.length) (t:Tm):Yz 11 0 (aa t) (rows encZ l) (ci k)=some (rows encZ (l.set k (some t))):=by
 have e:splice (l.flatMap encZ) (k * 11) (aa t)=(l.set k (some t)).flatMap encZ:=aa1 Iw (some t) h;have h2:(l.flatMap encZ).length=l.length * 11:=yU Iw l;have h3:(k:Int) < (l.length:Int):=by omega
 have h4:(0:Int)<=(k:Int):=by omega
 simp [Yz,rows,ci,h2,h3,<-e,af]
theorem aaB:∀n:Nat,zeros [.int .i64 0,.string ⟨#[]⟩,.string ⟨#[]⟩,.int .i64 0,.string ⟨#[]⟩,.string ⟨#[]⟩,.string ⟨#[]⟩,.string ⟨#[]⟩,.string ⟨#[]⟩,.slice none 0 0,.slice none 0 0] n=(List.replicate n (none:Option Tm)).flatMap encZ
 |0=>rfl
 |n+1=>by
  have:=aaB n
  simp only [zeros,List.replicate_succ,D3] at this |-;rw [<-this];rfl
theorem abU (ts:List Tm):rows encZ (ts.map some)=rows aa ts:=by simp only [rows,Lz,Lw];rfl
theorem aon {l:List (Option Tm)} {k:Nat} (h:k < l.length):fI 11 (rows encZ l) (ci k)=some (encZ l[k]):=jE Iw (A6 h)
section
variable {nat:Nat->List V->Option (List V)}
theorem asC {s:List cu} {x:Tm} (h:bq (T nat).G 74 [.v (.agg (aa x)),.v (.one (rows cK s))] []=some ([.agg (aa (ig s x))],[])):bq (T nat).G 136 [.v (.agg (aa x)),.ref 0 0] [[rows cK s]]=some ([.agg (aa (ig s x))],[[rows cK s]]):=by rw [aQ agB];simp [t136,zZ,h,af]
theorem U9 (s:List cu) (p x:ByteArray) (ts:List Tm) (hn:ts.length < 100000) (ih:∀t∈ts,bq (T nat).G 74 [.v (.agg (aa t)),.v (.one (rows cK s))] []=some ([.agg (aa (ig s t))],[])):∀(m k:Nat),k+m=ts.length->
  bR (T nat).G 364 0 [.c (rows aa ts),.c (ci ts.length),.c (ci k),.l [rows cK s],.l (aa (.app p x ts)),.c (ci 0),.c ce,.c ce,.c (ci 0),.c ce,.c ce,.c ce,.c ce,.c ce,.c cz,.c cz,.c (rows encZ ((wu s (ts.take k)).map some++List.replicate m none))]=some ([.agg (aa (.app p x (wu s ts)))],[[rows cK s]])
 |0,k,hk=>by
  have hlt:¬((k:Int) < (ts.length:Int)):=by omega
  have e:rows encZ ((wu s (ts.take k)).map some++List.replicate 0 none)=rows aa (wu s ts):=by rw [Jx (by omega),List.replicate_zero,Cl,abU]
  rw [aF R6 (t:=t364.heads[0]) rfl,e];simp [t364,zZ,hlt,di]
 |m+1,k,hk'=>by
  have hkr:k < ts.length:=by omega
  have hlt:((k:Int) < (ts.length:Int)):=by omega
  have hs:=bn k (by omega)
  have hy:=asC (ih ts[k] (By hkr));have hl:(wu s (ts.take k)).length=k:=by rw [Iz];simp;omega
  have hz:k < ((wu s (ts.take k)).map some++List.replicate (m+1) (none:Option Tm)).length:=by simp [hl]
  have hst:=anC hz (ig s ts[k]);have hrz:=aon hz;have e:((wu s (ts.take k)).map some++List.replicate (m+1) (none:Option Tm)).set k (some (ig s ts[k]))=(wu s (ts.take (k+1))).map some++List.replicate m none:=by
   have h1:ts.take (k+1)=ts.take k++[ts[k]]:=by rw [List.take_succ,A6 hkr];rfl
   have h2:(wu s (ts.take (k+1))).map some=(wu s (ts.take k)).map some++[some (ig s ts[k])]:=by rw [h1,Iz,Iz,Is,Is];rfl
   rw [h2,List.set_append_right _ _ (by simp [hl]),B9,Lw,hl,Nat.sub_self,List.replicate_succ]
   rfl
  rw [e] at hst;have h11:=nH (ig s ts[k]);have hi:=U9 s p x ts hn ih m (k+1) (by omega)
  rw [aF R6 (t:=t364.heads[0]) rfl];simp [-Int.natCast_add,-List.map_append,t364,zZ,hlt,jd hkr,hy,hrz,h11,hst,hs,hi,af,Iw]
theorem aj1 (s:List cu) (t:Tm) (hn:(ai t).length < 100000) (ih:∀x∈ai t,bq (T nat).G 74 [.v (.agg (aa x)),.v (.one (rows cK s))] []=some ([.agg (aa (ig s x))],[])) (hv:Go.Proofs.fZ t=1->jX s (aN t)=none):
  bq (T nat).G 364 [.v (.agg (aa t)),.ref 0 0] [[rows cK s]]=some ([.agg (aa (ig s t))],[[rows cK s]]):=by
 rw [aQ R6];cases t with
 |var p x=>
  have h1:jX s (p,x)=none:=hv rfl;simp [t364,zZ,aa,ig,h1]
 |dV o=>
  have e0:ak (aa (.dV o)) 0=ci 2:=by rw [kg];rfl
  simp [t364,zZ,e0,af,ig]
 |app p x ts=>
  have hn':ts.length < 100000:=hn;have h1:=U9 (nat:=nat) s p x ts hn' ih ts.length 0 (by omega)
  have hm:mkC 11 176 [.int .i64 0,.string ⟨#[]⟩,.string ⟨#[]⟩,.int .i64 0,.string ⟨#[]⟩,.string ⟨#[]⟩,.string ⟨#[]⟩,.string ⟨#[]⟩,.string ⟨#[]⟩,.slice none 0 0,.slice none 0 0] (ci ts.length) (ci ts.length)=some (rows encZ (List.replicate ts.length none)):=by
   have h2:ts.length * 176<=bg:=by simp only [bg];omega
   simp [mkC,ci,rows,aaB];simp only [bg];omega
  simp only [List.take_zero,wu,Kx,E2,D1,di] at h1;simp [t364,zZ,di,wm,hm,h1,ig]
theorem Zo (s:List cu) (hm:s.length < 100000) (p x:ByteArray):∀(m k:Nat),k+m=s.length->jX s (p,x)=jX (s.drop k) (p,x)->
  bR (T nat).G 74 0 [.c (rows cK s),.c (ci s.length),.c (ci k),.l (aa (.var p x)),.l [rows cK s],.c (ci 0),.c ce,.c ce,.c (ci 0),.c ce,.c ce,.c ce,.c ce,.c ce,.c cz,.c cz]=some ([.agg (aa (ig s (.var p x)))],[])
 |0,k,hk,hq=>by
  have hlt:¬((k:Int) < (s.length:Int)):=by omega
  rw [bG (by omega)] at hq
  have h:=aj1 (nat:=nat) s (.var p x) (by simp [ai]) (fun y hy=>by simp [ai] at hy) (fun _=>hq)
  rw [aF Y1 (t:=t74.heads[0]) rfl];simp [t74,zZ,hlt,h,af]
 |m+1,k,hk',hq=>by
  have hkr:k < s.length:=by omega
  have hlt:((k:Int) < (s.length:Int)):=by omega
  have hs:=bn k (by omega)
  have he:Ea [1,1] false [cs s[k].v.1,cs s[k].v.2] [cs p,cs x]=some (cb (CX s[k].v (p,x))):=wM false _ _ _ _;have hr:fI 13 (rows cK s) (ci k)=some (cs s[k].v.1::cs s[k].v.2::aa s[k].t):=AL hkr;have e1:ak (aa (.var p x)) 1=cs p:=rfl;have e2:ak (aa (.var p x)) 2=cs x:=rfl;rw [drop_at hkr,jX] at hq;rw [aF Y1 (t:=t74.heads[0]) rfl];cases hb:CX s[k].v (p,x) with
  |true=>
   rw [hb] at he hq;have h11:=nH s[k].t;have hsb:ig s (.var p x)=s[k].t:=by rw [ig,hq];rfl
   rw [hsb];simp [-Int.natCast_add,t74,zZ,hlt,hr,he,e1,e2,af,h11]
  |false=>
   rw [hb,Ek] at hq;rw [hb] at he;have ih:=Zo s hm p x m (k+1) (by omega) hq
   simp [-Int.natCast_add,t74,zZ,hlt,hr,he,e1,e2,hs,ih,af]
theorem x74 (s:List cu) (hm:s.length < 100000):∀(n:Nat) (t:Tm),ah t<=n->n<=3000->bq (T nat).G 74 [.v (.agg (aa t)),.v (.one (rows cK s))] []=some ([.agg (aa (ig s t))],[])
 |0,t,hn,_=>by have:=dY t;omega
 |n+1,t,hn,h3=>by
  rw [aQ Y1];cases t with
  |var p x=>
   have h:=Zo (nat:=nat) s hm p x s.length 0 (by omega) (by rw [C4])
   simp only [D1,aa] at h;simp [t74,zZ,aa,aG,h]
  |dV o=>
   have e0:ak (aa (.dV o)) 0=ci 2:=by rw [kg];rfl
   have h:=aj1 (nat:=nat) s (.dV o) (by simp [ai]) (fun y hy=>by simp [ai] at hy) (fun h=>by cases h)
   simp [t74,zZ,e0,h,af]
  |app p x ts=>
   have hnd:ah (.app p x ts)=1+au ts:=rfl;have hlen:=nD ts;have h:=aj1 (nat:=nat) s (.app p x ts) (by simp only [ai];omega) (fun y hy=>x74 s hm n y (by have:=nC (show y∈ts from hy);omega) (by omega)) (fun h=>by cases h)
   simp only [di] at h;simp [t74,zZ,di,af,h]
end
def oH:List cu->List cu->Bool
 |[],[]=>true
 |a::l,b::m=>CX a.v b.v && (nR a.t b.t && oH l m)
 |_,_=>false
def NS (acc:List (List cu)) (l:List cu):Bool:=acc.any fun x=>oH x l
theorem PV:∀{a b:List cu},a.length≠b.length->oH a b=false
 |[],[],h=>absurd rfl h
 |[],_::_,_=>rfl
 |_::_,[],_=>rfl
 |a::l,b::m,h=>by
  rw [oH,PV (a:=l) (b:=m) fun e=>h (by simp [e])]
  simp
def sA:List aI->List Tm->List cu
 |p::ps,t::ts=>⟨p,t⟩::sA ps ts
 |_,_=>[]
theorem aec:∀(ps:List aI) (ts:List Tm),(sA ps ts).length<=ps.length
 |[],_=>by simp [sA]
 |_::_,[]=>by simp [sA]
 |_::ps,_::ts=>by have:=aec ps ts;simp only [sA,C5];omega
def proper (ps:List aI) (x:List cu):Prop:=x.length=ps.length/\∀(k:Nat) (h:k < x.length) (h':k < ps.length),x[k].t=ig x (.var ps[k].1 ps[k].2)
@[simp] def TL (r:List W):List W:=.c cz:: .c cz:: .c cz:: .c (ci 0):: .c ce:: .c ce:: .c (ci 0):: .c ce:: .c ce:: .c ce:: .c ce:: .c ce:: .c cz:: .c cz:: .c cz:: .c (ci 0)::r
@[simp] def m11 (t:Tm) (r:List W):List W:=.c (ak (aa t) 0):: .c (ak (aa t) 1):: .c (ak (aa t) 2):: .c (ak (aa t) 3):: .c (ak (aa t) 4):: .c (ak (aa t) 5):: .c (ak (aa t) 6):: .c (ak (aa t) 7):: .c (ak (aa t) 8):: .c (ak (aa t) 9):: .c (ak (aa t) 10)::r
def p0 (f:Fd) (ks:List Cs) (u:Tm) (i:Nat) (s:List cu):List W:=.c (rows dh ks):: .c (rows bP f.ps):: .c (ci f.ps.length):: .c (ci i):: .l (aa u)::TL (TL (.l (eF f):: .c (rows cK s)::[]))
def p1 (f:Fd) (ks:List Cs) (u:Tm) (s:List cu) (i:Nat) (bs:List Bool):List W:=.c (rows dh ks):: .c (rows dh ks):: .c (ci ks.length):: .c (ci i):: .l (aa u)::TL (TL (.l (eF f):: .c (rows cK s):: .c (rows CO bs)::[]))
def p2 (f:Fd) (ks:List Cs) (u:Tm) (s:List cu) (i j:Nat) (ss:List (List cu)) (bs:List Bool):List W:=.c (rows dh ks):: .c (rows dh ks):: .c (ci ks.length):: .c (ci i):: .c (rows encS ss):: .c (ci ss.length):: .c (ci j):: .l (aa u)::TL (TL (.l (eF f):: .c (rows cK s):: .c (rows CO bs)::[]))
def p4 (f:Fd) (ks:List Cs) (u:Tm) (s:List cu) (i j p:Nat) (ss:List (List cu)) (x:List cu) (bs:List Bool):List W:=.c (rows dh ks):: .c (rows cK x):: .c (rows dh ks):: .c (ci ks.length):: .c (ci i):: .c (rows encS ss):: .c (ci ss.length):: .c (ci j):: .c (rows bP f.ps):: .c (ci f.ps.length):: .c (ci p):: .l (aa u)::TL (TL (.l (eF f):: .c (rows cK s):: .c (rows CO bs)::[]))
def p3 (f:Fd) (ks:List Cs) (u:Tm) (s:List cu) (bs:List Bool) (dI:List aI) (m:Tm) (i:Nat) (x:Dj):List W:=.c (rows dh ks):: .c (rows bP dI):: .c (rows bP f.ps):: .c (ci f.ps.length):: .c (ci i):: .l (aa u)::TL (TL (.l (eF f):: .c (rows cK s):: .c (rows CO bs):: .c cz::m11 m (.c cz:: .c (ci 1):: .c (rows bP x.vars):: .c (rows aa x.fJ):: .c (rows aa [u]):: .c (rows bP x.jb)::[])))
def p5 (f:Fd) (ks:List Cs) (u:Tm) (s:List cu) (bs:List Bool) (dI:List aI) (m:Tm) (i k:Nat) (a:Tm) (x:Dj):List W:=.c (rows dh ks):: .c (rows bP dI):: .c (ci i):: .c (rows bP f.ps):: .c (ci f.ps.length):: .c (ci i):: .c (rows aa (ai u)):: .c (ci (ai u).length):: .c (ci k):: .l (aa u)::TL (TL (.l (eF f):: .c (rows cK s):: .c (rows CO bs):: .c cz::m11 m (.c cz:: .c (ci 1):: .c (rows bP x.vars):: .c (rows aa x.fJ):: .l (aa a):: .c (rows aa [u]):: .c (rows bP x.jb)::[])))
def p6 (g:Gd) (i:Nat) (out:List Cs):List W:=.c (rows dh g.ks):: .c (ci g.ks.length):: .c (ci i):: .l (aa g.u)::TL (.l (eF g.f):: .c (rows cK g.s):: .c (rows CO g.bs):: .c (rows bP g.fx)::m11 g.Qd (.c (ci 1):: .c (rows aa [g.u]):: .c (rows bP g.jb):: .c (rows dh out)::[]))
def p7 (g:Gd) (i k:Nat) (c:Cs) (out:List Cs) (acc:List Tm):List W:=.c (rows dh g.ks):: .c (ci g.ks.length):: .c (ci i):: .c (rows aa c.tests):: .c (ci c.tests.length):: .c (ci k):: .l (aa g.u)::TL (.l (eF g.f):: .c (rows cK g.s):: .c (rows CO g.bs):: .c (rows bP g.fx)::m11 g.Qd (.c (ci 1):: .l (dh c):: .c cz:: .c (rows aa [g.u]):: .c (rows bP g.jb):: .c (rows dh out):: .c (rows aa acc)::[]))
def p8 (g:Gd) (i k:Nat) (ss:List (List cu)) (out:List Cs) (tests:List Tm) (acc:List (List cu)):List W:=.c (rows dh g.ks):: .c (ci g.ks.length):: .c (ci i):: .c (rows encS ss):: .c (ci ss.length):: .c (ci k):: .l (aa g.u)::TL (.l (eF g.f):: .c (rows cK g.s):: .c (rows CO g.bs):: .c (rows bP g.fx)::m11 g.Qd (.c (ci 1):: .c (rows aa [g.u]):: .c (rows bP g.jb):: .c (rows dh out):: .c (rows aa tests):: .c (rows encS acc)::[]))
def p9 (g:Gd) (i k p:Nat) (x l:List cu) (ss:List (List cu)) (out:List Cs) (tests:List Tm) (acc:List (List cu)):List W:=.c (rows cK x):: .c (rows dh g.ks):: .c (ci g.ks.length):: .c (ci i):: .c (rows encS ss):: .c (ci ss.length):: .c (ci k):: .c (ci g.f.ps.length):: .c (ci p):: .l (aa g.u)::TL (.l (eF g.f):: .c (rows cK g.s):: .c (rows CO g.bs):: .c (rows bP g.fx)::m11 g.Qd (.c (ci 1):: .c (rows cK l):: .c (rows aa [g.u]):: .c (rows bP g.jb):: .c (rows dh out):: .c (rows aa tests):: .c (rows encS acc)::[]))
section
variable {nat:Nat->List V->Option (List V)}
def Cc (nat:Nat->List V->Option (List V)):Prop:=∀ts:List Tm,(∀x∈ts,ah x<=3000)->au ts<=60000->bq (T nat).G 116 [.v (.one (rows aa ts))] []=some ([.one (rows bP (bT 1 [] ts))],[])
theorem acs (xs:List aI) (hm:xs.length < 100000) (t:Tm):bq (T nat).G 111 [.v (.one (rows bP xs)),.v (.agg [ak (aa t) 1,ak (aa t) 2])] []=some ([.one (cb (gm xs (aN t)))],[]):=by rw [gW,gY];exact ak5 xs hm (aN t)
theorem UQ (a b:List cu) (hl:a.length=b.length) (hb:b.length < 100000) (hok:yt a):∀(m k:Nat),k+m=a.length->
  bR (T nat).G 173 0 [.c (rows cK a),.c (rows cK b),.c (ci a.length),.c (ci k)]=some ([.one (cb (oH (a.drop k) (b.drop k)))],[])
 |0,k,hk=>by
  have hlt:¬((k:Int) < (a.length:Int)):=by omega
  rw [aF Tn (t:=t173.heads[0]) rfl,bG (by omega:¬k < a.length),bG (by omega:¬k < b.length)]
  simp [-Int.natCast_add,t173,zZ,hlt,oH]
 |m+1,k,hk=>by
  have hka:k < a.length:=by omega
  have hkb:k < b.length:=by omega
  have hlt:((k:Int) < (a.length:Int)):=by omega
  have hs:=bn k (by omega)
  have ih:=UQ a b hl hb hok m (k+1) (by omega)
  have he:Ea [1,1] true [cs a[k].v.1,cs a[k].v.2] [cs b[k].v.1,cs b[k].v.2]=some (cb (!CX a[k].v b[k].v)):=wM true _ _ _ _;have hoa:=hok a[k] (By hka);have Xj:=x114 (nat:=nat) hoa.1 hoa.2 b[k].t;have n1:=nH a[k].t;have n2:=nH b[k].t;rw [drop_at hka,drop_at hkb,oH,aF Tn (t:=t173.heads[0]) rfl];cases hq:CX a[k].v b[k].v with
  |false=>
   rw [hq] at he;simp [-Int.natCast_add,t173,zZ,hlt,AL hka,AL hkb,he]
  |true=>
   rw [hq] at he;cases hr:nR a[k].t b[k].t<;>rw [hr] at Xj<;>
    simp [-Int.natCast_add,t173,zZ,hlt,AL hka,AL hkb,he,hs,ih,n1,n2,Xj,af]
theorem asP (a b:List cu) (ha:a.length < 100000) (hb:b.length < 100000) (hok:yt a):bq (T nat).G 173 [.v (.one (rows cK a)),.v (.one (rows cK b))] []=some ([.one (cb (oH a b))],[]):=by
 rw [aQ Tn];by_cases hl:a.length=b.length
 ·have h:=UQ (nat:=nat) a b hl hb hok a.length 0 (by omega)
  simp only [C4,D1] at h;have hl':(a.length:Int)=(b.length:Int):=by omega
  rw [hl'] at h;simp [t173,zZ,aG,hl,h]
 ·have hle:((a.length:Int)==(b.length:Int))=false:=Dd.2 (by omega)
  rw [PV hl];simp [t173,zZ,aG,hle]
theorem WV (acc:List (List cu)) (l:List cu) (hl:l.length < 100000) (hm:acc.length < 100000) (ha:∀s∈acc,s.length < 100000/\yt s):∀(m k:Nat),k+m=acc.length->
  bR (T nat).G 118 0 [.c (rows cK l),.c (rows encS acc),.c (ci acc.length),.c (ci k)]=some ([.one (cb (NS (acc.drop k) l))],[])
 |0,k,hk=>by
  have hlt:¬((k:Int) < (acc.length:Int)):=by omega
  rw [aF Sa (t:=t118.heads[0]) rfl,bG (by omega:¬k < acc.length)]
  simp [-Int.natCast_add,t118,zZ,hlt,NS]
 |m+1,k,hk=>by
  have hkr:k < acc.length:=by omega
  have hlt:((k:Int) < (acc.length:Int)):=by omega
  have hs:=bn k (by omega)
  have ih:=WV acc l hl hm ha m (k+1) (by omega)
  have h1:=ha _ (By hkr);have anl:=asP (nat:=nat) acc[k] l h1.1 hl h1.2;have hd:NS (acc.drop k) l=(oH acc[k] l||NS (acc.drop (k+1)) l):=by rw [drop_at hkr];rfl
  rw [hd,aF Sa (t:=t118.heads[0]) rfl];cases hq:oH acc[k] l<;>rw [hq] at anl<;>simp [-Int.natCast_add,t118,zZ,hlt,X4 hkr,anl,hs,ih]
theorem aq0 (acc:List (List cu)) (l:List cu) (hl:l.length < 100000) (hm:acc.length < 100000) (ha:∀s∈acc,s.length < 100000/\yt s):bq (T nat).G 118 [.v (.one (rows encS acc)),.v (.one (rows cK l))] []=some ([.one (cb (NS acc l))],[]):=by
 have h:=WV (nat:=nat) acc l hl hm ha acc.length 0 (by omega)
 simp only [C4,D1] at h;rw [aQ Sa];simp [t118,zZ,aG,h]
theorem aoH (t:Tm) (s:ByteArray) (n:Nat):bq (T nat).G 172 [.v (.agg (aa t)),.v (.one (cs s)),.v (.one (ci n))] []=some ([.one (cb (OL s n t))],[]):=by
 rw [aQ aho];cases t with
 |var p x=>simp [t172,zZ,aa,OL]
 |dV o=>cases o<;>simp [t172,zZ,aa,enc,OL]
 |app p x ts=>by_cases h1:p=dw<;>by_cases h2:x=s<;>simp [t172,zZ,di,OL,h1,h2,aG,adL,ajA]
def z117:List W:=[.c (ci 0),.c ce,.c ce,.c (ci 0),.c ce,.c ce,.c ce,.c ce,.c ce,.c cz,.c cz]
theorem Uh:∀(n:Nat) (t:Tm),ah t<=n->bR (T nat).G 117 0 (.l (aa t)::z117)=some ([.agg (aa (HZ n t))],[])
 |0,t,hn=>absurd (dY t) (by omega)
 |n+1,t,hn=>by
  have YP:(⟨#[110,111,116]⟩:ByteArray)=oG:=rfl;have aa9:=aoH (nat:=nat) t oG 1;simp only [Int.natCast_one] at aa9;cases h1:OL oG 1 t with
  |false=>
   rw [h1] at aa9;have e:HZ (n+1) t=t:=by rw [HZ,h1];rfl
   rw [e,aF L8 (t:=t117.heads[0]) rfl];simp [-Int.natCast_add,t117,z117,zZ,YP,aa9,af]
  |true=>
   obtain ⟨a,rfl⟩:=AP h1;rw [h1] at aa9;have hr:fI 11 (rows aa [a]) (ci 0)=some (aa a):=jE af (k:=0) rfl;have e3:ak (aa (.app dw oG [a])) 10=rows aa [a]:=by rw [di];rfl
   have Vp:=aoH (nat:=nat) a oG 1;simp only [Int.natCast_one] at Vp;cases h2:OL oG 1 a with
   |false=>
    rw [h2] at Vp;have e:HZ (n+1) (.app dw oG [a])=.app dw oG [a]:=by simp only [HZ,ai,h1,h2];rfl
    rw [e,aF L8 (t:=t117.heads[0]) rfl];simp [-Int.natCast_add,t117,z117,zZ,YP,aa9,Vp,e3,hr,af]
   |true=>
    obtain ⟨b,rfl⟩:=AP h2;rw [h2] at Vp;have hr2:fI 11 (rows aa [b]) (ci 0)=some (aa b):=jE af (k:=0) rfl;have e4:ak (aa (.app dw oG [b])) 10=rows aa [b]:=by rw [di];rfl
    have ih:=Uh n b (by simp only [ah,au] at hn;omega)
    have e:HZ (n+1) (.app dw oG [.app dw oG [b]])=HZ n b:=by simp only [HZ,ai,h1,h2];rfl
    simp only [z117] at ih;rw [e,aF L8 (t:=t117.heads[0]) rfl];simp [-Int.natCast_add,t117,z117,zZ,YP,aa9,Vp,e3,e4,hr,hr2,ih,af]
theorem atp (t:Tm):bq (T nat).G 117 [.v (.agg (aa t))] []=some ([.agg (aa (nnT t))],[]):=by have h:=Uh (nat:=nat) (ah t) t (An _);simp only [z117] at h;rw [aQ L8];simp [t117,zZ,h,nnT,af]
theorem apr (f:Fd) (hf:f.OK) (ks:List Cs) (u:Tm) (hl:(ai u).length=f.ps.length):∀(m i:Nat) (s:List cu),i+m=f.ps.length->s.length<=i->
  bR (T nat).G 43 0 (p0 f ks u i s)=bR (T nat).G 43 1 (p1 f ks u (s++sA (f.ps.drop i) ((ai u).drop i)) 0 (List.replicate f.ps.length false))
 |0,i,s,hi,hsl=>by
  have hps:=hf.ps;have hlt:¬((i:Int) < (f.ps.length:Int)):=by omega
  have e2:ak (eF f) 2=rows bP f.ps:=rfl;have hm:mkC 1 1 [.bool false] (ci f.ps.length) (ci f.ps.length)=some (rows CO (List.replicate f.ps.length false)):=by
   have h2:f.ps.length * 1<=bg:=by simp only [bg];omega
   simp [mkC,ci,rows,GI];simp only [bg];omega
  rw [bG (by omega:¬i < f.ps.length),show sA [] ((ai u).drop i)=[] by simp [sA],Cl,acd _ rfl]
  simp [-Int.natCast_add,p0,p1,Wj,zZ,hlt,e2,eH,hm,aG,aU hf,af]
 |m+1,i,s,hi,hsl=>by
  have hpr:i < f.ps.length:=by omega
  have hpt:i < (ai u).length:=by omega
  have hps:=hf.ps;have hlt:((i:Int) < (f.ps.length:Int)):=by omega
  have hs':=bn i (by omega)
  have e10:=gI u;have hr:fI 2 (rows bP f.ps) (ci i)=some [cs f.ps[i].1,cs f.ps[i].2]:=oK hpr;have hrt:=jd hpt;have A7:=BN f.ps[i] (ai u)[i];have A8:=Es (acc:=s) (x:=⟨f.ps[i],(ai u)[i]⟩) (by omega)
  have ih:=apr f hf ks u hl m (i+1) (s++[⟨f.ps[i],(ai u)[i]⟩]) (by omega) (by simp;omega)
  rw [drop_at hpr,drop_at hpt,sA,<-List.singleton_append,<-List.append_assoc,<-ih,acd (p0 f ks u i s) rfl];simp [-Int.natCast_add,p0,Wj,zZ,hlt,e10,hr,hrt,A7,A8,hs',aU hf,af]
theorem ajg (f:Fd) (hf:f.OK) (ks:List Cs) (u:Tm) (s:List cu) (i j:Nat) (hj:j < 100000) (ss:List (List cu)) (x:List cu) (hx:proper f.ps x) (hok:yt x):∀(m p:Nat) (bs:List Bool),bs.length=f.ps.length->p+m=f.ps.length->
  bR (T nat).G 43 4 (p4 f ks u s i j p ss x bs)=bR (T nat).G 43 2 (p2 f ks u s i (j+1) ss (bs.take p++AX x (f.ps.drop p) (bs.drop p)))
 |0,p,bs,hb,hp=>by
  have hlt:¬((p:Int) < (f.ps.length:Int)):=by omega
  have hs:=bn j (by omega)
  have ht:bs.take p=bs:=Jx (by omega)
  have hd:bs.drop p=[]:=List.drop_eq_nil_of_le (by omega)
  rw [bG (by omega:¬p < f.ps.length),ht,hd,show AX x [] []=[] by simp [AX],Cl,af0 _ rfl]
  simp [-Int.natCast_add,p4,p2,QK,zZ,hlt,hs,aU hf,af]
 |m+1,p,bs,hb,hp=>by
  have hpr:p < f.ps.length:=by omega
  have hpb:p < bs.length:=by omega
  have hpx:p < x.length:=by have:=hx.1;omega
  have hps:=hf.ps;have hlt:((p:Int) < (f.ps.length:Int)):=by omega
  have hs':=bn p (by omega)
  have hr:fI 2 (rows bP f.ps) (ci p)=some [cs f.ps[p].1,cs f.ps[p].2]:=oK hpr;have hrb:=CR hpb;have agJ:=AL hpx;have ap6:=x115 (nat:=nat) f.ps[p].1 f.ps[p].2;have hox:=hok x[p] (By hpx);have Xj:=x114 (nat:=nat) hox.1 hox.2 (.var f.ps[p].1 f.ps[p].2);have n1:=nH x[p].t;have hsub:=hx.2 p hpx hpr;have step:∀b,b=(bs[p]||!nR x[p].t (.var f.ps[p].1 f.ps[p].2))->
    bR (T nat).G 43 4 (p4 f ks u s i j (p+1) ss x (bs.set p b))=bR (T nat).G 43 2 (p2 f ks u s i (j+1) ss (bs.take p++AX x (f.ps.drop p) (bs.drop p))):=fun b hbb=>by
   rw [ajg f hf ks u s i j hj ss x hx hok m (p+1) (bs.set p b) (by simpa using hb) (by omega)]
   have e:(bs.set p b).take (p+1)++AX x (f.ps.drop (p+1)) ((bs.set p b).drop (p+1))=bs.take p++AX x (f.ps.drop p) (bs.drop p):=by
    rw [drop_at hpr,drop_at hpb,AX,<-hsub,<-hbb,List.drop_set_of_lt (by omega),List.take_set,List.take_succ_eq_append_getElem hpb,List.set_append_right _ _ (by simp;exact Nat.min_le_left _ _)]
    simp [Nat.min_eq_left (Nat.le_of_lt hpb)]
   rw [e]
  rw [af0 _ rfl];cases he:nR x[p].t (.var f.ps[p].1 f.ps[p].2) with
  |true=>
   rw [he] at Xj step;have h1:=step bs[p] (by simp)
   rw [List.set_getElem_self] at h1;rw [<-h1];simp [-Int.natCast_add,p4,QK,zZ,hlt,hr,agJ,ap6,Xj,n1,hs',aU hf,af]
  |false=>
   rw [he] at Xj step;have h1:=step true (by simp)
   have h2:=IJ hpb true;rw [<-h1];simp [-Int.natCast_add,p4,QK,zZ,hlt,hr,agJ,hrb,ap6,Xj,n1,h2,hs',aU hf,af]
theorem ajl (f:Fd) (hf:f.OK) (ks:List Cs) (u:Tm) (s:List cu) (i:Nat) (hi:i < 100000) (ss:List (List cu)) (hsl:ss.length < 100000) (hss:∀x∈ss,proper f.ps x/\yt x):∀(m j:Nat) (bs:List Bool),bs.length=f.ps.length->j+m=ss.length->
  bR (T nat).G 43 2 (p2 f ks u s i j ss bs)=bR (T nat).G 43 1 (p1 f ks u s (i+1) (GM f.ps (ss.drop j) bs))
 |0,j,bs,hb,hj=>by
  have hlt:¬((j:Int) < (ss.length:Int)):=by omega
  have hs:=bn i (by omega)
  rw [bG (by omega:¬j < ss.length),acG _ rfl]
  simp [-Int.natCast_add,p2,p1,VB,zZ,hlt,hs,GM,aU hf,af]
 |m+1,j,bs,hb,hj=>by
  have hjr:j < ss.length:=by omega
  have hlt:((j:Int) < (ss.length:Int)):=by omega
  have hx:=hss _ (By hjr);have e2:ak (eF f) 2=rows bP f.ps:=rfl;have hxl:(ss[j].length:Int)=(f.ps.length:Int):=by have:=hx.1.1;omega
  have h1:=ajg (nat:=nat) f hf ks u s i j (by omega) ss ss[j] hx.1 hx.2 f.ps.length 0 bs hb (by omega)
  simp only [List.take_zero,C4,E2] at h1;have ih:=ajl f hf ks u s i hi ss hsl hss m (j+1) (AX ss[j] f.ps bs) (by rw [H9];exact hb) (by omega)
  have e:GM f.ps (ss.drop j) bs=GM f.ps (ss.drop (j+1)) (AX ss[j] f.ps bs):=by rw [drop_at hjr];rfl
  rw [e,<-ih,<-h1,acG (p2 f ks u s i j ss bs) rfl];simp [-Int.natCast_add,p2,p4,VB,zZ,hlt,X4 hjr,aG,e2,eH,hxl,aU hf,af]
theorem ajp (f:Fd) (hf:f.OK) (hv:Cc nat) (mt:Tm) (hm:f.ms=aa mt) (hmn:ah mt<=30) (ks:List Cs) (hkl:ks.length < 100000) (hks:∀c∈ks,c.subs.length < 100000/\∀x∈c.subs,proper f.ps x/\yt x) (u:Tm) (s:List cu) (hsl:s.length < 100000):∀(m i:Nat) (bs:List Bool),bs.length=f.ps.length->i+m=ks.length->
  bR (T nat).G 43 1 (p1 f ks u s i bs)=bR (T nat).G 43 3 (p3 f ks u s (nk f.ps (ks.drop i) bs) (bT 1 [] [mt]) (ig s mt) 0 ⟨[],[],[],[]⟩)
 |0,i,bs,hb,hi=>by
  have hlt:¬((i:Int) < (ks.length:Int)):=by omega
  have e2:ak (eF f) 2=rows bP f.ps:=rfl;have em:=msF hf;have h116:=hv [mt] (fun x hx=>by rw [B8.1 hx];omega) (by simp [au];omega)
  have h74:=x74 (nat:=nat) s hsl 3000 mt (by omega) (by omega)
  have uy:=ku mt;rw [nH,<-hm,<-em] at uy;have er:rows aa [mt]=.slice f.ms 1:=by simp [rows,hm]
  rw [er,<-em] at h116;rw [<-hm,<-em] at h74;have aaI:=ku u;have eu:rows aa [u]=.slice (aa u) 1:=by simp [rows]
  rw [bG (by omega:¬i < ks.length),adX _ rfl]
  simp [-Int.natCast_add,p1,p3,Vn,zZ,hlt,uy,h116,aaI,h74,e2,eH,nk,eu,show rows bP []=cz from rfl,show rows aa []=cz from rfl,aU hf,af]
 |m+1,i,bs,hb,hi=>by
  have hir:i < ks.length:=by omega
  have hlt:((i:Int) < (ks.length:Int)):=by omega
  have hc:=hks _ (By hir);have h1:=ajl (nat:=nat) f hf ks u s i (by omega) ks[i].subs hc.1 hc.2 ks[i].subs.length 0 bs hb (by omega)
  simp only [C4] at h1;have ih:=ajp f hf hv mt hm hmn ks hkl hks u s hsl m (i+1) (GM f.ps ks[i].subs bs) (by rw [IM];exact hb) (by omega)
  have e:nk f.ps (ks.drop i) bs=nk f.ps (ks.drop (i+1)) (GM f.ps ks[i].subs bs):=by rw [drop_at hir];rfl
  rw [e,<-ih,<-h1,adX (p1 f ks u s i bs) rfl];simp [-Int.natCast_add,p1,p2,Vn,zZ,hlt,Pf hir,aG,aU hf,af]
end
def IX (i:Nat):Nat->List Tm->aI->Bool
 |k,t::ts,nm=>(!decide (k=i) && gm (bT 1 [] [t]) nm)||IX i (k+1) ts nm
 |_,[],_=>false
def pgP (dI:List aI) (al:List Tm):Nat->List aI->List Bool->List Tm->Dj->Option Dj
 |i,p::ps,b::bs,t::ts,x=>
  cond ((b||gm dI p) && !(isVar t && !gm x.vars (aN t))) none
   (cond (b && IX i 0 al (aN t)) none
    (pgP dI al (i+1) ps bs ts ⟨x.s++[⟨p,t⟩],cond (b||gm dI p) (x.vars++[aN t]) x.vars,cond b (x.jb++[aN t]) x.jb,cond b x.fJ (x.fJ++[t])⟩))
 |_,_,_,_,x=>some x
theorem UX (dI:List aI) (al:List Tm) (i:Nat) (p:aI) (ps:List aI) (b:Bool) (bs:List Bool) (t:Tm) (ts:List Tm) (x:Dj):pgP dI al i (p::ps) (b::bs) (t::ts) x=
  cond ((b||gm dI p) && !(isVar t && !gm x.vars (aN t))) none
   (cond (b && IX i 0 al (aN t)) none
    (pgP dI al (i+1) ps bs ts ⟨x.s++[⟨p,t⟩],cond (b||gm dI p) (x.vars++[aN t]) x.vars,cond b (x.jb++[aN t]) x.jb,cond b x.fJ (x.fJ++[t])⟩)):=rfl
theorem ZR (dI:List aI) (al:List Tm) (i:Nat) (bs:List Bool) (ts:List Tm) (x:Dj):pgP dI al i [] bs ts x=some x:=by simp [pgP]
structure agA (f:Fd) (bs:List Bool) (u:Tm) (dI:List aI):Prop where
 fk:f.OK
 bl:bs.length=f.ps.length
 ar:(ai u).length=f.ps.length
 al:(ai u).length<=600
 nd:∀t∈ai u,ah t<=100
 dI:dI.length < 100000
section
variable {nat:Nat->List V->Option (List V)} {f:Fd} {ks:List Cs} {u:Tm} {s:List cu} {bs:List Bool} {dI:List aI} {mm:Tm}
theorem ap4 (hv:Cc nat) (hg:agA f bs u dI) (i:Nat) (hi:i < 1000) (a:Tm) (x:Dj):∀(m k:Nat),k+m=(ai u).length->
  bR (T nat).G 43 5 (p5 f ks u s bs dI mm i k a x)=cond (IX i k ((ai u).drop k) (aN a)) (some (dS,[])) (bR (T nat).G 43 3 (p3 f ks u s bs dI mm (i+1) x))
 |0,k,hk=>by
  have hlt:¬((k:Int) < ((ai u).length:Int)):=by omega
  have hs:=bn i (by omega)
  rw [bG (by omega:¬k < (ai u).length),afr _ rfl]
  simp [-Int.natCast_add,p5,p3,NJ,zZ,hlt,hs,IX,aU hg.fk,af]
 |m+1,k,hk=>by
  have hal:=hg.al;have hkr:k < (ai u).length:=by omega
  have hlt:((k:Int) < ((ai u).length:Int)):=by omega
  have hs:=bn k (by omega)
  have hrt:=jd hkr;have ih:=ap4 hv hg i hi a x m (k+1) (by omega)
  have hn:=hg.nd _ (By hkr);have uy:=ku (ai u)[k];have h116:=hv [(ai u)[k]] (fun y hy=>by rw [B8.1 hy];omega) (by simp [au];omega)
  have er:rows aa [(ai u)[k]]=.slice (aa (ai u)[k]) 1:=by simp [rows]
  rw [er] at h116;have EH:=acs (nat:=nat) (bT 1 [] [(ai u)[k]]) (jr _ (by simp [au];omega)) a
  rw [drop_at hkr,IX,afr _ rfl];by_cases hki:k=i
  ·have hb:((k:Int)==(i:Int))=true:=K1.2 (by omega)
   rw [show (!decide (k=i) && gm (bT 1 [] [(ai u)[k]]) (aN a))=false by simp [hki],L2,<-ih]
   simp [-Int.natCast_add,p5,NJ,zZ,hlt,hrt,hb,hs,aU hg.fk,af]
  ·have hb:((k:Int)==(i:Int))=false:=Dd.2 (by omega)
   rw [show (!decide (k=i) && gm (bT 1 [] [(ai u)[k]]) (aN a))=gm (bT 1 [] [(ai u)[k]]) (aN a) by simp [hki]]
   cases hq:gm (bT 1 [] [(ai u)[k]]) (aN a) with
   |true=>
    rw [hq] at EH;simp [-Int.natCast_add,p5,NJ,zZ,hlt,hrt,hb,uy,h116,EH,dS,aU hg.fk,af]
   |false=>
    rw [hq] at EH;rw [L2,<-ih];simp [-Int.natCast_add,p5,NJ,zZ,hlt,hrt,hb,uy,h116,EH,hs,aU hg.fk,af]
theorem as8 (hv:Cc nat) (hg:agA f bs u dI) (i:Nat) (x:Dj) (h2:x.vars.length<=i) (h3:x.jb.length<=i) (h4:x.fJ.length<=i) (hpr:i < f.ps.length) (hpb:i < bs.length) (hpt:i < (ai u).length):
  bR (T nat).G 43 3 (p3 f ks u s bs dI mm i x)=cond ((bs[i]||gm dI f.ps[i]) && !(isVar (ai u)[i] && !gm x.vars (aN (ai u)[i]))) (some (dS,[]))
   (cond (bs[i] && IX i 0 (ai u) (aN (ai u)[i])) (some (dS,[]))
    (bR (T nat).G 43 3 (p3 f ks u s bs dI mm (i+1) ⟨x.s++[⟨f.ps[i],(ai u)[i]⟩],cond (bs[i]||gm dI f.ps[i]) (x.vars++[aN (ai u)[i]]) x.vars,cond bs[i] (x.jb++[aN (ai u)[i]]) x.jb,cond bs[i] x.fJ (x.fJ++[(ai u)[i]])⟩))):=by
 have hal:=hg.al;have hF:=aU hg.fk;have hlt:((i:Int) < (f.ps.length:Int)):=by omega
 have hs':=bn i (by omega)
 have e10:=gI u;have hr:fI 2 (rows bP f.ps) (ci i)=some [cs f.ps[i].1,cs f.ps[i].2]:=oK hpr;have hrt:=jd hpt;have hrb:=CR hpb;have DN:=Aw (ai u)[i];have Lf:=acs (nat:=nat) x.vars (by omega) (ai u)[i]
 have Nc:=ak5 (nat:=nat) dI hg.dI f.ps[i];simp only [bP] at Nc;have hl2:=Ez (ai u)[i];have uy:=ku (ai u)[i];have M4:=rF (acc:=x.vars) (x:=aN (ai u)[i]) (by omega)
 have TE:=rF (acc:=x.jb) (x:=aN (ai u)[i]) (by omega)
 have Fv:=BB (acc:=x.fJ) (x:=(ai u)[i]) (by omega)
 have ho:=ap4 (nat:=nat) (ks:=ks) (s:=s) (mm:=mm) hv hg i (by omega) (ai u)[i] ⟨x.s++[⟨f.ps[i],(ai u)[i]⟩],x.vars++[aN (ai u)[i]],x.jb++[aN (ai u)[i]],x.fJ⟩ (ai u).length 0 (by omega)
 simp only [C4,D1,p5,TL,m11] at ho;rw [ace _ rfl];cases hbb:bs[i] with
 |true=>
  rw [hbb] at hrb;cases hv1:isVar (ai u)[i] with
  |false=>
   rw [hv1] at DN;simp (config := { maxSteps := 20000000 }) [-Int.natCast_add,p3,EE,zZ,hlt,e10,hr,hrt,hrb,DN,dS,hF,af]
  |true=>
   rw [hv1] at DN;cases hi1:gm x.vars (aN (ai u)[i]) with
   |true=>
    rw [hi1] at Lf;simp (config := { maxSteps := 20000000 }) [-Int.natCast_add,p3,EE,zZ,hlt,e10,hr,hrt,hrb,DN,Lf,dS,hF,af]
   |false=>
    rw [hi1] at Lf;simp only [Bool.true_or,Bool.true_and,Bool.not_true,Bool.not_false,Bool.and_true,F1,Ek];rw [<-ho];simp (config := { maxSteps := 20000000 }) [-Int.natCast_add,p3,EE,zZ,hlt,e10,hr,hrt,hrb,DN,Lf,hl2,M4,TE,aG,hF,af]
 |false=>
  rw [hbb] at hrb;cases hm1:gm dI f.ps[i] with
  |true=>
   rw [hm1] at Nc;cases hv1:isVar (ai u)[i] with
   |false=>
    rw [hv1] at DN;simp (config := { maxSteps := 20000000 }) [-Int.natCast_add,p3,EE,zZ,hlt,e10,hr,hrt,hrb,Nc,DN,dS,hF,af]
   |true=>
    rw [hv1] at DN;cases hi1:gm x.vars (aN (ai u)[i]) with
    |true=>
     rw [hi1] at Lf;simp (config := { maxSteps := 20000000 }) [-Int.natCast_add,p3,EE,zZ,hlt,e10,hr,hrt,hrb,Nc,DN,Lf,dS,hF,af]
    |false=>
     rw [hi1] at Lf;simp (config := { maxSteps := 20000000 }) [-Int.natCast_add,p3,EE,zZ,hlt,e10,hr,hrt,hrb,Nc,DN,Lf,hl2,M4,uy,Fv,hs',hF,af]
  |false=>
   rw [hm1] at Nc;simp (config := { maxSteps := 20000000 }) [-Int.natCast_add,p3,EE,zZ,hlt,e10,hr,hrt,hrb,Nc,uy,Fv,hs',hF,af]
end
end Go.Ey.Pr
