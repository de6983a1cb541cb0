/- A part. -/
import Derived.Test.YtolnnaanmfnkjaaGreatDoorY29
import Derived.Test.YtolnnaanmfnkjaaGreatDoorY37
set_option linter.all false
set_option maxHeartbeats 4000000
namespace Go.Ey.Pr
open Go Go.Ey Go.Ey.Seat Go.RowKit Go.Proofs
structure M9 where
 s:List cB
 vars:List bq
 qb:List bq
 lu:List Tm
def isVar (t:Tm):Bool:=decide (Go.Proofs.kH t=1)
def PW (jE:List bq):List bq->List Bool->List Tm->M9->Option M9
 |p::ps,b::bs,t::ts,x=>
  cond ((b||kF jE p) && !(isVar t && !kF x.vars (bZ t))) none
   (PW jE ps bs ts ⟨x.s++[⟨p,t⟩],cond (b||kF jE p) (x.vars++[bZ t]) x.vars,cond b (x.qb++[bZ t]) x.qb,cond b x.lu (x.lu++[t])⟩)
 |_,_,_,x=>some x
def Qh:Nat->Tm->Tm
 |0,t=>t
 |n+1,t=>cond (Kq j4 1 t) (match aN t with|[a]=>cond (Kq j4 1 a) (match aN a with|[x]=>Qh n x|_=>t) t|_=>t) t
def nnT (t:Tm):Tm:=Qh (av t) t
def lsA (s sub:List cB):List bq->List Bool->List Tm->List cB
 |p::ps,b::bs,t::ts=>cond b (⟨bZ t,iY s (iY sub (.var p.1 p.2))⟩::lsA s sub ps bs ts) (lsA s sub ps bs ts)
 |_,_,_=>[]
def C9 (ss:List (List cB)) (l:List cB):Bool:=ss.any fun x=>Ig x l && Ig l x
structure Gd where
 f:Fd
 ks:List Cs
 bs:List Bool
 u:Tm
 s:List cB
 fx:List bq
 qb:List bq
 msr:Tm
def Gd.ls (g:Gd) (sub:List cB):List cB:=lsA g.s sub g.f.ps g.bs (aN g.u)
def Gd.add (g:Gd) (acc:List (List cB)) (sub:List cB):List (List cB):=cond (C9 acc (g.ls sub)) acc (acc++[g.ls sub])
def Gd.subs (g:Gd) (subs:List (List cB)) (acc:List (List cB)):List (List cB):=subs.foldl g.add acc
def Gd.cas (g:Gd) (c:Cs):Cs:=⟨c.tests.map fun t=>nnT (iY g.s t),g.subs c.subs []⟩
def aj (c:bH):List C:=rows af c.calls::rows bW c.changed::rows bW c.fixed::(af c.measure++[rows aQ c.cases,ci c.score])
def bT:List V:=[.agg [cz,cz,cz,ci 0,ce,ce,ci 0,ce,ce,ce,ce,ce,cz,cz,cz,ci 0],.one (cb false)]
def Gd.cand (g:Gd):bH:=⟨[g.u],g.qb,g.fx,g.ks.map g.cas,g.msr,1⟩
def cdG (f:Fd) (m:Tm) (ks:List Cs) (u:Tm):Option bH:=
 let bs:=Bq f.ps ks (List.replicate f.ps.length false)
 (PW (iw 1 [] [m]) f.ps bs (aN u) ⟨[],[],[],[]⟩).bind fun x=>cond (jS x.qb (iw 1 [] x.lu)) none (some (Gd.cand ⟨f,ks,bs,u,x.s,iw 1 [] x.lu,x.qb,iY x.s m⟩))
@[simp] def sg (g:Gd) (r:List W):List W:=.l (af g.u):: .c cz:: .c cz:: .c cz:: .c (ci 0):: .c ce:: .c ce:: .c (ci 0):: .c ce:: .c ce:: .c ce:: .c ce:: .c ce:: .c cz:: .c cz:: .c cz:: .c (ci 0):: .l (j5 g.f):: .c (rows bu g.s):: .c (rows bW g.fx):: .c (au (af g.msr) 0):: .c (au (af g.msr) 1):: .c (au (af g.msr) 2):: .c (au (af g.msr) 3):: .c (au (af g.msr) 4):: .c (au (af g.msr) 5):: .c (au (af g.msr) 6):: .c (au (af g.msr) 7):: .c (au (af g.msr) 8):: .c (au (af g.msr) 9):: .c (au (af g.msr) 10):: .c (ci 1)::r
def st0 (ks:List Cs) (bs:List Bool) (jE:List bq) (p:Nat) (u:Tm) (f:Fd) (x:M9):List W:=.c (rows aQ ks):: .c (rows J6 bs):: .c (rows bW jE):: .c (ci p):: .l (af u):: .c cz:: .c cz:: .c cz:: .c (ci 0):: .c ce:: .c ce:: .c (ci 0):: .c ce:: .c ce:: .c ce:: .c ce:: .c ce:: .c cz:: .c cz:: .c cz:: .c (ci 0):: .l (j5 f):: .c (rows bu x.s):: .c (rows bW x.vars):: .c cz:: .c (ci 0):: .c ce:: .c ce:: .c (ci 0):: .c ce:: .c ce:: .c ce:: .c ce:: .c ce:: .c cz:: .c cz:: .c cz:: .c (ci 1):: .c (rows af x.lu):: .c (rows af [u]):: .c (rows bW x.qb)::[]
def st1 (g:Gd) (i:Nat) (out:List Cs):List W:=.c (rows aQ g.ks):: .c (rows J6 g.bs):: .c (ci i)::sg g (.c (rows af [g.u]):: .c (rows bW g.qb):: .c (rows aQ out)::[])
def st2 (g:Gd) (i k:Nat) (out:List Cs) (tests:List Tm):List W:=.c (rows aQ g.ks):: .c (rows J6 g.bs):: .c (ci i):: .c (ci k)::sg g (.c cz:: .c (rows af [g.u]):: .c (rows bW g.qb):: .c (rows aQ out):: .c (rows af tests)::[])
def st3 (g:Gd) (i k:Nat) (t:Tm) (out:List Cs) (tests:List Tm):List W:=.c (rows aQ g.ks):: .c (rows J6 g.bs):: .c (ci i):: .c (ci k)::sg g (.c cz:: .l (af t):: .c (rows af [g.u]):: .c (rows bW g.qb):: .c (rows aQ out):: .c (rows af tests)::[])
def st4 (g:Gd) (i k:Nat) (out:List Cs) (tests:List Tm) (acc:List (List cB)):List W:=.c (rows aQ g.ks):: .c (rows J6 g.bs):: .c (ci i):: .c (ci k)::sg g (.c (rows af [g.u]):: .c (rows bW g.qb):: .c (rows aQ out):: .c (rows af tests):: .c (rows encS acc)::[])
def st5 (g:Gd) (i k p:Nat) (l:List cB) (out:List Cs) (tests:List Tm) (acc:List (List cB)):List W:=.c (rows aQ g.ks):: .c (rows J6 g.bs):: .c (ci i):: .c (ci k):: .c (ci p)::sg g (.c (rows bu l):: .c (rows af [g.u]):: .c (rows bW g.qb):: .c (rows aQ out):: .c (rows af tests):: .c (rows encS acc)::[])
def st6 (g:Gd) (i k:Nat) (kn:Bool) (j:Nat) (l:List cB) (out:List Cs) (tests:List Tm) (acc:List (List cB)):List W:=.c (rows aQ g.ks):: .c (rows J6 g.bs):: .c (ci i):: .c (ci k):: .c (cb kn):: .c (ci j)::sg g (.c (rows bu l):: .c (rows af [g.u]):: .c (rows bW g.qb):: .c (rows aQ out):: .c (rows af tests):: .c (rows encS acc)::[])
def st8 (g:Gd) (i k:Nat) (out:List Cs) (tests:List Tm):List W:=.c (rows aQ g.ks):: .c (rows J6 g.bs):: .c (ci i):: .c (ci k)::sg g (.c cz:: .c (rows af [g.u]):: .c (rows bW g.qb):: .c (rows aQ out):: .c (rows af tests)::[])
def YG (g:Gd) (i k:Nat) (l:List cB) (p:Nat) (out:List Cs) (tests:List Tm):List W:=.c (rows aQ g.ks):: .c (rows J6 g.bs):: .c (ci i):: .c (ci k):: .c (rows bu l):: .c (ci p)::sg g (.c cz:: .c (rows af [g.u]):: .c (rows bW g.qb):: .c (rows aQ out):: .c (rows af tests)::[])
def aiN (g:Gd) (i k:Nat) (l:List cB) (kn:Bool) (j:Nat) (out:List Cs) (tests:List Tm):List W:=.c (rows aQ g.ks):: .c (rows J6 g.bs):: .c (ci i):: .c (ci k):: .c (rows bu l):: .c (cb kn):: .c (ci j)::sg g (.c cz:: .c (rows af [g.u]):: .c (rows bW g.qb):: .c (rows aQ out):: .c (rows af tests)::[])
structure Gd.OK (g:Gd):Prop where
 f:g.f.OK
 bs:g.bs.length=g.f.ps.length
 ar:(aN g.u).length=g.f.ps.length
 ks:g.ks.length < 100000
 s:g.s.length < 100000
 tests:∀c∈g.ks,c.tests.length < 100000/\(∀t∈c.tests,av t<=3000)/\∀t∈c.tests,av (iY g.s t)<=3000
 subs:∀c∈g.ks,c.subs.length < 100000/\∀s∈c.subs,s.length < 100000/\Ac s
 ls:∀c∈g.ks,∀s∈c.subs,Ac (g.ls s)
theorem uy (t:Tm):au (af t) 1=cs (bZ t).1:=by
 cases t with
 |var p x=>rfl
 |eG o=>cases o<;>rfl
 |app p x ts=>rw [dw];rfl
theorem ve (t:Tm):au (af t) 2=cs (bZ t).2:=by
 cases t with
 |var p x=>rfl
 |eG o=>cases o<;>rfl
 |app p x ts=>rw [dw];rfl
theorem WM (t:Tm):au (af t) 0=ci (Go.Proofs.kH t):=by
 cases t with
 |var p x=>rfl
 |eG o=>cases o<;>rfl
 |app p x ts=>rw [dw];rfl
theorem ng (t:Tm):au (af t) 10=rows af (aN t):=by
 cases t with
 |var p x=>rfl
 |eG o=>cases o<;>rfl
 |app p x ts=>rw [dw];rfl
theorem DF (t:Tm):cZ .neq false (au (af t) 0) (ci 1)=some (cb (!isVar t)):=by rw [WM];cases t<;>rfl
theorem G9 (t:Tm):fq 2 1 [au (af t) 1,au (af t) 2]=some (.slice (bW (bZ t)) 1):=by rw [uy,ve];exact Fq _ _
theorem aac (a t:Tm):fq 13 1 [au (af a) 1,au (af a) 2,au (af t) 0,au (af t) 1,au (af t) 2,au (af t) 3,au (af t) 4,au (af t) 5,au (af t) 6,au (af t) 7,au (af t) 8,au (af t) 9,au (af t) 10]=some (.slice (bu ⟨bZ a,t⟩) 1):=by have h:=rJ (bZ a) t;rw [<-uy a,<-ve a] at h;exact h
theorem Mg {acc:List Cs} {x:Cs} (h:acc.length < 1000000):iO 2 48 (.slice (aQ x) 1) (rows aQ acc)=some (rows aQ (acc++[x])):=BO bM (by decide) (by simp only [aB];omega) (by simp only [aB];omega)
mutual
theorem agX:∀t:Tm,(vsT t).length<=av t
 |.var p s=>by simp [vsT,av]
 |.eG _=>by simp [vsT]
 |.app p s ts=>by have:=JL ts;simp only [vsT,av];omega
theorem JL:∀ts:List Tm,(Ml ts).length<=aJ ts
 |[]=>by simp [Ml]
 |t::ts=>by have h1:=agX t;have h2:=JL ts;simp only [Ml,aJ,B8];omega
end
section
variable {nat:Nat->List V->Option (List V)}
theorem SI (xs:List bq) (hm:xs.length < 100000) (t:Tm):bz (T nat).G 65 [.v (.one (rows bW xs)),.v (.agg [au (af t) 1,au (af t) 2])] []=some ([.one (cb (kF xs (bZ t)))],[]):=by rw [uy,ve];exact x65 xs hm (bZ t)
theorem L9 {acc:List (List cB)} {x:List cB} (h:acc.length < 1000000):iO 1 24 (.slice (encS x) 1) (rows encS acc)=some (rows encS (acc++[x])):=
 BO NC (by decide) (by simp only [aB];omega) (by simp only [aB];omega)
theorem F7 (l:List cB):fq 1 1 [rows bu l]=some (.slice (encS l) 1):=by simp [fq,encS,aB]
theorem KH (a:List Tm) (b:List (List cB)):fq 2 1 [rows af a,rows encS b]=some (.slice (aQ ⟨a,b⟩) 1):=by simp [fq,aQ,aB]
theorem Zi (a:List Tm):fq 2 1 [rows af a,cz]=some (.slice (aQ ⟨a,[]⟩) 1):=KH a []
theorem og {ks:List Cs} {i:Nat} (h:i < ks.length):eZ 2 (rows aQ ks) (ci i)=some [rows af ks[i].tests,rows encS ks[i].subs]:=kg bM (Ax h)
theorem jk {ss:List (List cB)} {i:Nat} (h:i < ss.length):eZ 1 (rows encS ss) (ci i)=some [rows bu ss[i]]:=kg NC (Ax h)
theorem JY {bs:List Bool} {i:Nat} (h:i < bs.length):eZ 1 (rows J6 bs) (ci i)=some [cb bs[i]]:=kg MQ (Ax h)
theorem msF {f:Fd} (hf:f.OK):[au (j5 f) 26,au (j5 f) 27,au (j5 f) 28,au (j5 f) 29,au (j5 f) 30,au (j5 f) 31,au (j5 f) 32,au (j5 f) 33,au (j5 f) 34,au (j5 f) 35,au (j5 f) 36]=f.ms:=by
 obtain ⟨nm,ps,cl,gd,body,ms⟩:=f;obtain ⟨h1,h2,_,_⟩:=hf;have h3:=ah body;simp only [j5] at h1 h2 |-;generalize af body=bd at h3 |-
 match gd,h1,bd,h3,ms,h2 with
 |[_,_,_,_,_,_,_,_,_,_,_],_,[_,_,_,_,_,_,_,_,_,_,_],_,[_,_,_,_,_,_,_,_,_,_,_],_=>rfl
theorem VS {α β:Type} {x y:Option α} {f:α->Option β} (h:x=y):x.bind f=y.bind f:=by rw [h]
theorem Vo {c d:C} {a b:Option R} (h:c=d):FV c a b=FV d a b:=by rw [h]
attribute [local congr] VS Vo
theorem Vb (jE:List bq) (p:bq) (ps:List bq) (b:Bool) (bs:List Bool) (t:Tm) (ts:List Tm) (x:M9):PW jE (p::ps) (b::bs) (t::ts) x=
  cond ((b||kF jE p) && !(isVar t && !kF x.vars (bZ t))) none
   (PW jE ps bs ts ⟨x.s++[⟨p,t⟩],cond (b||kF jE p) (x.vars++[bZ t]) x.vars,cond b (x.qb++[bZ t]) x.qb,cond b x.lu (x.lu++[t])⟩):=rfl
theorem M7 (jE:List bq) (bs:List Bool) (ts:List Tm) (x:M9):PW jE [] bs ts x=some x:=by simp [PW]
theorem wm (ts:List Tm) (h:aJ ts<=60000):(iw 1 [] ts).length < 100000:=by rw [EO];have h1:=Gf (Ml ts) [];have h2:=JL ts;simp only [F2] at h1;omega
theorem aps (g:Gd) (hg:g.OK) (i k:Nat) (hk:k < 100000) (out:List Cs):∀(n:Nat) (t:Tm) (tests:List Tm),av t<=n->tests.length < 100000->
  bn (T nat).G 45 3 (st3 g i k t out tests)=bn (T nat).G 45 2 (st2 g i (k+1) out (tests++[Qh n t]))
 |0,t,tests,hn,_=>absurd (jf t) (by omega)
 |n+1,t,tests,hn,htl=>by
  have hs':=ax k (by omega)
  have XN:(⟨#[110,111,116]⟩:ByteArray)=j4:=rfl;have h92:=x92 (nat:=nat) t j4 1;simp only [Mp] at h92;have Cb:=kR t;have NU:=D8 (acc:=tests) (x:=t) (by omega)
  have hF:=dh hg.f;have hend:Kq j4 1 t=false->bn (T nat).G 45 3 (st3 g i k t out tests)=bn (T nat).G 45 2 (st2 g i (k+1) out (tests++[t])):=fun h1=>by rw [h1] at h92;rw [ZC _ rfl];simp [-Int.natCast_add,st3,st2,Qz,zZ,XN,h92,Cb,NU,hs',hF,ah]
  cases h1:Kq j4 1 t with
  |false=>
   rw [hend h1,Qh,h1];rfl
  |true=>
   obtain ⟨a,rfl⟩:=zL h1;rw [h1] at h92;have hr:eZ 11 (rows af [a]) (ci 0)=some (af a):=kg ah (k:=0) rfl;have e3:au (af (.app dH j4 [a])) 10=rows af [a]:=by rw [dw];rfl
   have afl:=x92 (nat:=nat) a j4 1;simp only [Mp] at afl;cases h2:Kq j4 1 a with
   |false=>
    rw [h2] at afl;have e:Qh (n+1) (.app dH j4 [a])=.app dH j4 [a]:=by simp only [Qh,aN,h1,h2];rfl
    rw [e3] at Cb;rw [e,ZC _ rfl];simp [-Int.natCast_add,st3,st2,Qz,zZ,XN,h92,afl,e3,hr,Cb,NU,hs',hF,ah]
   |true=>
    obtain ⟨b,rfl⟩:=zL h2;rw [h2] at afl;have hr2:eZ 11 (rows af [b]) (ci 0)=some (af b):=kg ah (k:=0) rfl;have e4:au (af (.app dH j4 [b])) 10=rows af [b]:=by rw [dw];rfl
    have ih:=aps g hg i k hk out n b tests (by simp only [av,aJ] at hn;omega) htl
    have e:Qh (n+1) (.app dH j4 [.app dH j4 [b]])=Qh n b:=by simp only [Qh,aN,h1,h2];rfl
    rw [e,<-ih,ZC (st3 g i k (.app dH j4 [.app dH j4 [b]]) out tests) rfl];simp [-Int.natCast_add,st3,Qz,zZ,XN,h92,afl,e3,e4,hr,hr2,hF,ah]
theorem af7:∀(n m:Nat) (t:Tm),av t<=n->av t<=m->Qh n t=Qh m t
 |0,_,t,h,_=>absurd (jf t) (by omega)
 |_+1,0,t,_,h=>absurd (jf t) (by omega)
 |n+1,m+1,t,h,h'=>by
  cases h1:Kq j4 1 t with
  |false=>simp only [Qh,h1,E4]
  |true=>
   obtain ⟨a,rfl⟩:=zL h1;cases h2:Kq j4 1 a with
   |false=>simp only [Qh,aN,h1,h2,E4,Fi]
   |true=>
    obtain ⟨b,rfl⟩:=zL h2;have:=af7 n m b (by simp only [av,aJ] at h;omega) (by simp only [av,aJ] at h';omega)
    simp only [Qh,aN,h1,h2,Fi,this]
theorem aoL (g:Gd) (hg:g.OK) (i:Nat) (hi:i < g.ks.length) (out:List Cs):∀(m k:Nat) (tests:List Tm),k+m=g.ks[i].tests.length->tests.length<=k->
  bn (T nat).G 45 2 (st2 g i k out tests)=bn (T nat).G 45 8 (st8 g i 0 out (tests++(g.ks[i].tests.drop k).map fun t=>nnT (iY g.s t)))
 |0,k,tests,hk,htl=>by
  have hlt:¬((k:Int) < (g.ks[i].tests.length:Int)):=by omega
  have hr:=og hi;rw [aA (by omega:¬k < g.ks[i].tests.length),af5 _ rfl]
  simp [-Int.natCast_add,st2,st8,UD,zZ,hlt,hr,aa,dh hg.f,ah]
 |m+1,k,tests,hk,htl=>by
  have hc:=hg.tests _ (A5 hi);have hkr:k < g.ks[i].tests.length:=by omega
  have hlt:((k:Int) < (g.ks[i].tests.length:Int)):=by omega
  have hr:=og hi;have hr2:=eH hkr;have hm:=A5 hkr;have h77:=x77 (nat:=nat) g.s hg.s 3000 g.ks[i].tests[k] (hc.2.1 _ hm) (by omega)
  have hn:=aps (nat:=nat) g hg i k (by omega) out 3000 (iY g.s g.ks[i].tests[k]) tests (hc.2.2 _ hm) (by omega)
  have ih:=aoL g hg i hi out m (k+1) (tests++[Qh 3000 (iY g.s g.ks[i].tests[k])]) (by omega) (by simp;omega)
  have e:Qh 3000 (iY g.s g.ks[i].tests[k])=nnT (iY g.s g.ks[i].tests[k]):=af7 _ _ _ (hc.2.2 _ hm) (B9 _);rw [ih,e] at hn;rw [drop_at hkr,Cp,<-List.singleton_append,<-List.append_assoc,<-hn,af5 _ rfl];simp [-Int.natCast_add,st2,st3,UD,zZ,hlt,hr,hr2,h77,aa,dh hg.f,ah]
theorem afy (g:Gd) (hg:g.OK) (i:Nat) (hi:i < g.ks.length) (k:Nat) (hk:k < g.ks[i].subs.length) (out:List Cs) (tests:List Tm) (acc:List (List cB)):∀(m p:Nat) (l:List cB),p+m=g.f.ps.length->l.length<=p->
  bn (T nat).G 45 5 (st5 g i k p l out tests acc)=bn (T nat).G 45 6 (st6 g i k false 0 (l++lsA g.s g.ks[i].subs[k] (g.f.ps.drop p) (g.bs.drop p) ((aN g.u).drop p)) out tests acc)
 |0,p,l,hp,hl=>by
  have hlt:¬((p:Int) < (g.f.ps.length:Int)):=by omega
  have e2:au (j5 g.f) 2=rows bW g.f.ps:=rfl;rw [aA (by omega:¬p < g.f.ps.length),show lsA g.s g.ks[i].subs[k] [] (g.bs.drop p) ((aN g.u).drop p)=[] by simp [lsA],D0,XY _ rfl]
  simp [-Int.natCast_add,st5,st6,RO,zZ,hlt,e2,fo,dh hg.f,ah]
 |m+1,p,l,hp,hl=>by
  have hpr:p < g.f.ps.length:=by omega
  have hpb:p < g.bs.length:=by have:=hg.bs;omega
  have hpt:p < (aN g.u).length:=by have:=hg.ar;omega
  have hps:=hg.f.ps;have hlt:((p:Int) < (g.f.ps.length:Int)):=by omega
  have hs':=ax p (by omega)
  have e2:au (j5 g.f) 2=rows bW g.f.ps:=rfl;have e10:=ng g.u;have hr:eZ 2 (rows bW g.f.ps) (ci p)=some [cs g.f.ps[p].1,cs g.f.ps[p].2]:=kC hpr;have hrt:=eH hpt;have hrb:=JY hpb;have hrk:=og hi;have hrs:=jk hk;have hc:=hg.subs _ (A5 hi);have hsk:=hc.2 _ (A5 hk);have h53:=x53 (nat:=nat) g.f.ps[p].1 g.f.ps[p].2;have h77:=x77 (nat:=nat) g.ks[i].subs[k] hsk.1 3000 (.var g.f.ps[p].1 g.f.ps[p].2) (by simp [av]) (by omega)
  have ak9:=x77 (nat:=nat) g.s hg.s 3000 (iY g.ks[i].subs[k] (.var g.f.ps[p].1 g.f.ps[p].2)) (Zx hsk.2 _ _).2 (by omega)
  have om:=aac (aN g.u)[p] (iY g.s (iY g.ks[i].subs[k] (.var g.f.ps[p].1 g.f.ps[p].2)));have ni:=AA (acc:=l) (x:=⟨bZ (aN g.u)[p],iY g.s (iY g.ks[i].subs[k] (.var g.f.ps[p].1 g.f.ps[p].2))⟩) (by omega)
  rw [drop_at hpr,drop_at hpb,drop_at hpt,lsA];cases hbb:g.bs[p] with
  |false=>
   rw [hbb] at hrb;have ih:=afy g hg i hi k hk out tests acc m (p+1) l (by omega) (by omega)
   rw [E4,<-ih,XY (st5 g i k p l out tests acc) rfl];simp [-Int.natCast_add,st5,RO,zZ,hlt,e2,fo,hrb,hs',dh hg.f,ah]
  |true=>
   rw [hbb] at hrb;have ih:=afy g hg i hi k hk out tests acc m (p+1) (l++[⟨bZ (aN g.u)[p],iY g.s (iY g.ks[i].subs[k] (.var g.f.ps[p].1 g.f.ps[p].2))⟩]) (by omega) (by simp;omega)
   rw [Fi,<-List.singleton_append,<-List.append_assoc,<-ih,XY (st5 g i k p l out tests acc) rfl];simp [-Int.natCast_add,st5,RO,zZ,hlt,e2,fo,hr,hrb,hrk,hrs,hrt,h53,h77,ak9,e10,om,ni,hs',dh hg.f,ah]
theorem Yy (g:Gd) (hg:g.OK) (i:Nat) (hi:i < g.ks.length) (k:Nat) (hk:k < g.ks[i].subs.length) (out:List Cs) (tests:List Tm):∀(m p:Nat) (l:List cB),p+m=g.f.ps.length->l.length<=p->
  bn (T nat).G 45 10 (YG g i k l p out tests)=bn (T nat).G 45 14 (aiN g i k (l++lsA g.s g.ks[i].subs[k] (g.f.ps.drop p) (g.bs.drop p) ((aN g.u).drop p)) false 0 out tests)
 |0,p,l,hp,hl=>by
  have hlt:¬((p:Int) < (g.f.ps.length:Int)):=by omega
  have e2:au (j5 g.f) 2=rows bW g.f.ps:=rfl;rw [aA (by omega:¬p < g.f.ps.length),show lsA g.s g.ks[i].subs[k] [] (g.bs.drop p) ((aN g.u).drop p)=[] by simp [lsA],D0,TQ _ rfl]
  simp [-Int.natCast_add,YG,aiN,KX,zZ,hlt,e2,fo,dh hg.f,ah]
 |m+1,p,l,hp,hl=>by
  have hpr:p < g.f.ps.length:=by omega
  have hpb:p < g.bs.length:=by have:=hg.bs;omega
  have hpt:p < (aN g.u).length:=by have:=hg.ar;omega
  have hps:=hg.f.ps;have hlt:((p:Int) < (g.f.ps.length:Int)):=by omega
  have hs':=ax p (by omega)
  have e2:au (j5 g.f) 2=rows bW g.f.ps:=rfl;have e10:=ng g.u;have hr:eZ 2 (rows bW g.f.ps) (ci p)=some [cs g.f.ps[p].1,cs g.f.ps[p].2]:=kC hpr;have hrt:=eH hpt;have hrb:=JY hpb;have hrk:=og hi;have hrs:=jk hk;have hc:=hg.subs _ (A5 hi);have hsk:=hc.2 _ (A5 hk);have h53:=x53 (nat:=nat) g.f.ps[p].1 g.f.ps[p].2;have h77:=x77 (nat:=nat) g.ks[i].subs[k] hsk.1 3000 (.var g.f.ps[p].1 g.f.ps[p].2) (by simp [av]) (by omega)
  have ak9:=x77 (nat:=nat) g.s hg.s 3000 (iY g.ks[i].subs[k] (.var g.f.ps[p].1 g.f.ps[p].2)) (Zx hsk.2 _ _).2 (by omega)
  have om:=aac (aN g.u)[p] (iY g.s (iY g.ks[i].subs[k] (.var g.f.ps[p].1 g.f.ps[p].2)));have ni:=AA (acc:=l) (x:=⟨bZ (aN g.u)[p],iY g.s (iY g.ks[i].subs[k] (.var g.f.ps[p].1 g.f.ps[p].2))⟩) (by omega)
  rw [drop_at hpr,drop_at hpb,drop_at hpt,lsA];cases hbb:g.bs[p] with
  |false=>
   rw [hbb] at hrb;have ih:=Yy g hg i hi k hk out tests m (p+1) l (by omega) (by omega)
   rw [E4,<-ih,TQ (YG g i k l p out tests) rfl];simp [-Int.natCast_add,YG,KX,zZ,hlt,e2,fo,hrb,hs',dh hg.f,ah]
  |true=>
   rw [hbb] at hrb;have ih:=Yy g hg i hi k hk out tests m (p+1) (l++[⟨bZ (aN g.u)[p],iY g.s (iY g.ks[i].subs[k] (.var g.f.ps[p].1 g.f.ps[p].2))⟩]) (by omega) (by simp;omega)
   rw [Fi,<-List.singleton_append,<-List.append_assoc,<-ih,TQ (YG g i k l p out tests) rfl];simp [-Int.natCast_add,YG,KX,zZ,hlt,e2,fo,hr,hrb,hrk,hrs,hrt,h53,h77,ak9,e10,om,ni,hs',dh hg.f,ah]
theorem anv (g:Gd) (hg:g.OK) (i:Nat) (k:Nat) (hk:k < 100000) (out:List Cs) (tests:List Tm) (l:List cB) (hl:l.length < 100000/\Ac l) (acc:List (List cB)) (ha:acc.length < 100000/\∀s∈acc,s.length < 100000/\Ac s):∀(m j:Nat),j+m=acc.length->
  bn (T nat).G 45 6 (st6 g i k false j l out tests acc)=bn (T nat).G 45 4 (st4 g i (k+1) out tests (cond (C9 (acc.drop j) l) acc (acc++[l])))/\∀j',j'<=acc.length->bn (T nat).G 45 6 (st6 g i k true j' l out tests acc)=bn (T nat).G 45 4 (st4 g i (k+1) out tests acc)
 |m,j,hj=>by
  have hF:=dh hg.f;have hs':=ax k (by omega)
  have hl1:=F7 l;have ha1:=L9 (acc:=acc) (x:=l) (by omega)
  have ht:∀j',j'<=acc.length->bn (T nat).G 45 6 (st6 g i k true j' l out tests acc)=bn (T nat).G 45 4 (st4 g i (k+1) out tests acc):=fun j' hj'=>by rw [Zu _ rfl];by_cases hlt:((j':Int) < (acc.length:Int))<;>simp [-Int.natCast_add,st6,st4,LF,zZ,hlt,aa,hs',hF,ah]
  refine ⟨?_,ht⟩
  match m,hj with
  |0,hj=>
   have hlt:¬((j:Int) < (acc.length:Int)):=by omega
   rw [aA (by omega:¬j < acc.length),Zu _ rfl]
   simp [-Int.natCast_add,st6,st4,LF,zZ,hlt,aa,hs',hl1,ha1,C9,hF,ah]
  |m+1,hj=>
   have hjr:j < acc.length:=by omega
   have hlt:((j:Int) < (acc.length:Int)):=by omega
   have hsj:=ax j (by omega)
   have hr:=jk hjr;have hx:=ha.2 _ (A5 hjr);have h1:=aib (nat:=nat) acc[j] l hl.1 hx.1 hx.2;have h2:=aib (nat:=nat) l acc[j] hx.1 hl.1 hl.2;have ih:=(anv g hg i k hk out tests l hl acc ha m (j+1) (by omega)).1
   have htt:=ht (j+1) (by omega)
   have e:C9 (acc.drop j) l=((Ig acc[j] l && Ig l acc[j])||C9 (acc.drop (j+1)) l):=by rw [drop_at hjr];rfl
   rw [e,Zu _ rfl];cases hq:Ig acc[j] l with
   |false=>
    rw [hq] at h1;rw [Bool.false_and,G1,<-ih];simp [-Int.natCast_add,st6,LF,zZ,hlt,aa,hr,h1,hsj,hF,ah]
   |true=>
    rw [hq] at h1;cases hq2:Ig l acc[j] with
    |false=>
     rw [hq2] at h2;rw [Bool.and_false,G1,<-ih];simp [-Int.natCast_add,st6,LF,zZ,hlt,aa,hr,h1,h2,hsj,hF,ah]
    |true=>
     rw [hq2] at h2;rw [Bool.and_true,Bool.true_or,Fi,<-htt];simp [-Int.natCast_add,st6,LF,zZ,hlt,aa,hr,h1,h2,hsj,hF,ah]
theorem alR (g:Gd) (hg:g.OK) (i:Nat) (k:Nat) (hk:k < 100000) (out:List Cs) (tests:List Tm) (l:List cB):
  bn (T nat).G 45 14 (aiN g i k l false 0 out tests)=bn (T nat).G 45 4 (st4 g i (k+1) out tests [l]):=by
 have hF:=dh hg.f;have hs':=ax k (by omega)
 have hl1:=F7 l;have ha1:=L9 (acc:=[]) (x:=l) (by simp)
 have hz:rows encS []=cz:=rfl;have hn:lN false cz=some (ci 0):=rfl;rw [hz] at ha1;rw [agw _ rfl];simp [-Int.natCast_add,aiN,st4,Um,zZ,hn,hs',hl1,ha1,hF,ah]
theorem ahv (g:Gd) (acc:List (List cB)) (sub:List cB):(g.add acc sub).length<=acc.length+1:=by unfold Gd.add;cases C9 acc (g.ls sub)<;>simp
theorem Yd (g:Gd) (acc:List (List cB)) (sub:List cB) (P:List cB->Prop) (h:∀s∈acc,P s) (h1:P (g.ls sub)):∀s∈g.add acc sub,P s:=by
 unfold Gd.add;cases C9 acc (g.ls sub) with
 |true=>exact h
 |false=>
  intro s hs;rcases Bx.1 hs with hs|hs
  ·exact h s hs
  ·rw [By.1 hs];exact h1
theorem MK (s sub:List cB):∀(ps:List bq) (bs:List Bool) (ts:List Tm),(lsA s sub ps bs ts).length<=ps.length
 |[],_,_=>by simp [lsA]
 |_::_,[],_=>by simp [lsA]
 |_::_,_::_,[]=>by simp [lsA]
 |p::ps,b::bs,t::ts=>by
  have:=MK s sub ps bs ts
  cases b<;>simp [lsA]<;>omega
theorem aoN (g:Gd) (hg:g.OK) (i:Nat) (hi:i < g.ks.length) (out:List Cs) (ho:out.length < 100000) (tests:List Tm):∀(m k:Nat) (acc:List (List cB)),k+m=g.ks[i].subs.length->acc.length<=k->(∀s∈acc,s.length < 100000/\Ac s)->
  bn (T nat).G 45 4 (st4 g i k out tests acc)=bn (T nat).G 45 1 (st1 g (i+1) (out++[⟨tests,g.subs (g.ks[i].subs.drop k) acc⟩]))
 |0,k,acc,hk,ha,hok=>by
  have hlt:¬((k:Int) < (g.ks[i].subs.length:Int)):=by omega
  have hr:=og hi;have hks:=hg.ks;have hs':=ax i (by omega)
  have hl2:=KH tests acc;have ha2:=Mg (acc:=out) (x:=⟨tests,acc⟩) (by omega)
  rw [aA (by omega:¬k < g.ks[i].subs.length),ade _ rfl]
  simp [-Int.natCast_add,st4,st1,WL,zZ,hlt,hr,aa,hs',hl2,ha2,Gd.subs,dh hg.f,ah]
 |m+1,k,acc,hk,ha,hok=>by
  have hc:=hg.subs _ (A5 hi);have hkr:k < g.ks[i].subs.length:=by omega
  have hlt:((k:Int) < (g.ks[i].subs.length:Int)):=by omega
  have hr:=og hi;have hl:=afy (nat:=nat) g hg i hi k hkr out tests acc g.f.ps.length 0 [] (by omega) (by simp)
  simp only [An,D4] at hl;have hls:(g.ls g.ks[i].subs[k]).length < 100000/\Ac (g.ls g.ks[i].subs[k]):=⟨by have:=MK g.s g.ks[i].subs[k] g.f.ps g.bs (aN g.u);have:=hg.f.ps;unfold Gd.ls;omega,hg.ls _ (A5 hi) _ (A5 hkr)⟩
  have h2:=(anv (nat:=nat) g hg i k (by omega) out tests (g.ls g.ks[i].subs[k]) hls acc ⟨by omega,hok⟩ acc.length 0 (by omega)).1
  rw [An] at h2;have ih:=aoN g hg i hi out ho tests m (k+1) (g.add acc g.ks[i].subs[k]) (by omega) (by have:=ahv g acc g.ks[i].subs[k];omega) (Yd g acc _ _ hok hls)
  have e:g.subs (g.ks[i].subs.drop k) acc=g.subs (g.ks[i].subs.drop (k+1)) (g.add acc g.ks[i].subs[k]):=by rw [drop_at hkr];rfl
  have ez:rows bu []=cz:=rfl;rw [e,<-ih];refine Eq.trans ?_ h2;refine Eq.trans ?_ hl;rw [ade _ rfl];simp [-Int.natCast_add,st4,st5,WL,zZ,hlt,hr,aa,ez,dh hg.f,ah]
theorem am6 (g:Gd) (hg:g.OK) (i:Nat) (hi:i < g.ks.length) (out:List Cs) (ho:out.length < 100000) (tests:List Tm):
  bn (T nat).G 45 8 (st8 g i 0 out tests)=bn (T nat).G 45 1 (st1 g (i+1) (out++[⟨tests,g.subs g.ks[i].subs []⟩])):=by
 have hr:=og hi;have hks:=hg.ks;have hc:=hg.subs _ (A5 hi);by_cases h0:0 < g.ks[i].subs.length
 ·have hlt:((0:Int) < (g.ks[i].subs.length:Int)):=by omega
  have hl:=Yy (nat:=nat) g hg i hi 0 h0 out tests g.f.ps.length 0 [] (by omega) (by simp)
  simp only [An,D4] at hl;have hls:(g.ls g.ks[i].subs[0]).length < 100000/\Ac (g.ls g.ks[i].subs[0]):=⟨by have:=MK g.s g.ks[i].subs[0] g.f.ps g.bs (aN g.u);have:=hg.f.ps;unfold Gd.ls;omega,hg.ls _ (A5 hi) _ (A5 h0)⟩
  have h2:=alR (nat:=nat) g hg i 0 (by omega) out tests (g.ls g.ks[i].subs[0])
  have ih:=aoN (nat:=nat) g hg i hi out ho tests (g.ks[i].subs.length - 1) 1 [g.ls g.ks[i].subs[0]] (by omega) (by simp) (fun s hs=>by rw [By.1 hs];exact hls)
  have e:g.subs g.ks[i].subs []=g.subs (g.ks[i].subs.drop 1) [g.ls g.ks[i].subs[0]]:=by have h3:=drop_at h0;rw [An] at h3;exact F0 (fun l=>g.subs l []) h3
  have ez:rows bu []=cz:=rfl;rw [e,<-ih];refine Eq.trans ?_ h2;refine Eq.trans ?_ hl;rw [aej _ rfl];simp [-Int.natCast_add,st8,YG,Wz,zZ,hlt,h0,hr,aa,ez,dh hg.f,ah]
 ·have hlt:¬((0:Int) < (g.ks[i].subs.length:Int)):=by omega
  have hs':=ax i (by omega)
  have hl2:=Zi tests;have ha2:=Mg (acc:=out) (x:=⟨tests,[]⟩) (by omega)
  have e:g.ks[i].subs=[]:=E7 (by omega)
  rw [e,aej _ rfl];simp [-Int.natCast_add,st8,st1,Wz,zZ,e,hlt,hr,aa,hs',hl2,ha2,Gd.subs,dh hg.f,ah]
theorem aov (g:Gd) (hg:g.OK):∀(m i:Nat) (out:List Cs),i+m=g.ks.length->out.length<=i->
  bn (T nat).G 45 1 (st1 g i out)=some ([.agg (aj ⟨[g.u],g.qb,g.fx,out++(g.ks.drop i).map g.cas,g.msr,1⟩),.one (cb true)],[])
 |0,i,out,hi,ho=>by
  have hlt:¬((i:Int) < (g.ks.length:Int)):=by omega
  have e11:=kJ g.msr;rw [aA (by omega:¬i < g.ks.length),acV _ rfl,aj,<-e11]
  simp [-Int.natCast_add,st1,Wu,zZ,hlt,aa]
 |m+1,i,out,hi,ho=>by
  have hir:i < g.ks.length:=by omega
  have hks:=hg.ks;have hlt:((i:Int) < (g.ks.length:Int)):=by omega
  have h1:=aoL (nat:=nat) g hg i hir out g.ks[i].tests.length 0 [] (by omega) (by simp)
  simp only [An,D4] at h1;have h2:=am6 (nat:=nat) g hg i hir out (by omega) (g.ks[i].tests.map fun t=>nnT (iY g.s t))
  have ih:=aov g hg m (i+1) (out++[g.cas g.ks[i]]) (by omega) (by simp;omega)
  have ez:rows af []=cz:=rfl;rw [drop_at hir,Cp,show out++g.cas g.ks[i]::List.map g.cas (g.ks.drop (i+1))=out++[g.cas g.ks[i]]++List.map g.cas (g.ks.drop (i+1)) by simp,<-ih]
  refine Eq.trans ?_ h2;refine Eq.trans ?_ h1;rw [acV _ rfl];simp [-Int.natCast_add,st1,st2,Wu,zZ,hlt,aa,ez,dh hg.f,ah]
end
end Go.Ey.Pr
