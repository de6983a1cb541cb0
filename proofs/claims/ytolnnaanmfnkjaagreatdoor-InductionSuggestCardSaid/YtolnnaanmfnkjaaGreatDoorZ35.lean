import Derived.Test.YtolnnaanmfnkjaaGreatDoorZ27
import Derived.Test.YtolnnaanmfnkjaaGreatDoorZ33
import Derived.KernelRfl
set_option linter.all false
set_option maxHeartbeats 0
set_option maxRecDepth 100000
noncomputable section
namespace Go.Ey.Pr
open Seat RowKit Proofs
def mP (a:List cu) (x:cu):Bool:=a.any fun y=>CX y.v x.v && nR y.t x.t
def Jo (a b:List cu):Bool:=b.all (mP a)
def CO (b:Bool):List C:=[cb b]
theorem Mg (b:Bool):(CO b).length=1:=rfl
def AX (s:List cu):List aI->List Bool->List Bool
 |p::ps,b::bs=>(b||!nR (ig s (.var p.1 p.2)) (.var p.1 p.2))::AX s ps bs
 |_,bs=>bs
def GM (ps:List aI) (ss:List (List cu)) (bs:List Bool):List Bool:=ss.foldl (fun bs s=>AX s ps bs) bs
def nk (ps:List aI) (cs:List Cs) (bs:List Bool):List Bool:=cs.foldl (fun bs c=>GM ps c.subs bs) bs
theorem H9 (s:List cu):∀(ps:List aI) (bs:List Bool),(AX s ps bs).length=bs.length
 |[],bs=>rfl
 |p::ps,[]=>rfl
 |p::ps,b::bs=>by simp [AX,H9 s ps bs]
theorem IM (ps:List aI):∀(ss:List (List cu)) (bs:List Bool),(GM ps ss bs).length=bs.length
 |[],bs=>rfl
 |s::ss,bs=>by rw [GM,It];exact (IM ps ss _).trans (H9 s ps bs)
theorem NT (ps:List aI):∀(cs:List Cs) (bs:List Bool),(nk ps cs bs).length=bs.length
 |[],bs=>rfl
 |c::cs,bs=>by rw [nk,It];exact (NT ps cs _).trans (IM ps c.subs bs)
theorem Wq {α:Type} {f:α->List C} (hf:∀x,(f x).length=1) (y:α):∀(l:List α) (k:Nat),k < l.length->splice (l.flatMap f) k (f y)=(l.set k y).flatMap f
 |[],k,h=>by simp at h
 |x::l,0,_=>by
  have h1:=hf x;have h2:=hf y
  match hx:f x,h1 with
  |[c],_=>match hy:f y,h2 with
   |[d],_=>simp [splice,hx,hy]
 |x::l,k+1,h=>by
  have h1:=hf x;have h2:=hf y
  have ih:=Wq hf y l k (by simpa using h)
  match hx:f x,h1 with
  |[c],_=>match hy:f y,h2 with
   |[d],_=>
    rw [hy] at ih;simp [splice,hx,hy] at ih |-;exact ih
theorem IJ {bs:List Bool} {k:Nat} (h:k < bs.length) (b:Bool):Yz 1 0 [cb b] (rows CO bs) (ci k)=some (rows CO (bs.set k b)):=by
 have e:=Wq Mg b bs k h;have h2:(bs.flatMap CO).length=bs.length:=by have:=yU Mg bs;omega
 have h3:(k:Int) < (bs.length:Int):=by omega
 have h4:(0:Int)<=(k:Int):=by omega
 simp [Yz,rows,ci,h2,h3,<-e,CO]
section
variable {nat:Nat->List V->Option (List V)}
theorem aco (a b:List cu) (i:Nat) (hi:i < b.length) (hb:b.length < 100000) (ha:a.length < 100000) (hok:yt a):∀(m k:Nat),k+m=a.length->
  bR (T nat).G 123 1 [.c (rows cK a),.c (rows cK b),.c (ci i),.c (cb false),.c (ci k)]=cond (mP (a.drop k) b[i]) (bR (T nat).G 123 0 [.c (rows cK a),.c (rows cK b),.c (ci ((i+1:Nat):Int))]) (some ([.one (cb false)],[]))/\
  (∀k',k'<=a.length->a.length - k'<=m->bR (T nat).G 123 1 [.c (rows cK a),.c (rows cK b),.c (ci i),.c (cb true),.c (ci k')]=bR (T nat).G 123 0 [.c (rows cK a),.c (rows cK b),.c (ci ((i+1:Nat):Int))])
 |m,k,hk=>by
  have hsi:=bn i (by omega)
  have ht:∀k',k'<=a.length->bR (T nat).G 123 1 [.c (rows cK a),.c (rows cK b),.c (ci i),.c (cb true),.c (ci k')]=bR (T nat).G 123 0 [.c (rows cK a),.c (rows cK b),.c (ci ((i+1:Nat):Int))]:=fun k' hk'=>by
   rw [aF Fb (t:=t123.heads[1]) rfl];by_cases hlt:((k':Int) < (a.length:Int))
   ·simp [-Int.natCast_add,t123,zZ,hlt,aG,hsi]
   ·simp [-Int.natCast_add,t123,zZ,hlt,aG,hsi]
  refine ⟨?_,fun k' hk' _=>ht k' hk'⟩
  match m,hk with
  |0,hk=>
   have hlt:¬((k:Int) < (a.length:Int)):=by omega
   rw [aF Fb (t:=t123.heads[1]) rfl,bG (by omega)]
   simp [-Int.natCast_add,t123,zZ,hlt,aG,mP]
  |m+1,hk=>
   have hkr:k < a.length:=by omega
   have hlt:((k:Int) < (a.length:Int)):=by omega
   have hs:=bn k (by omega)
   have ih:=(aco a b i hi hb ha hok m (k+1) (by omega)).1
   have htt:=ht (k+1) (by omega)
   have he:Ea [1,1] false [cs a[k].v.1,cs a[k].v.2] [cs b[i].v.1,cs b[i].v.2]=some (cb (CX a[k].v b[i].v)):=wM false _ _ _ _;have hoa:=hok a[k] (By hkr);have W9:=x49 (nat:=nat) hoa.1 hoa.2 b[i].t;have hd:mP (a.drop k) b[i]=(CX a[k].v b[i].v && nR a[k].t b[i].t||mP (a.drop (k+1)) b[i]):=by rw [drop_at hkr];rfl
   have n1:=nH a[k].t;have n2:=nH b[i].t;rw [hd,aF Fb (t:=t123.heads[1]) rfl];cases hq:CX a[k].v b[i].v with
   |false=>
    rw [hq] at he;simp [-Int.natCast_add,t123,zZ,hlt,aG,AL hkr,AL hi,he,hs,ih]
   |true=>
    rw [hq] at he;cases hr:nR a[k].t b[i].t<;>rw [hr] at W9<;>
     simp [-Int.natCast_add,t123,zZ,hlt,aG,AL hkr,AL hi,he,hs,ih,htt,n1,n2,W9,af]
theorem UW (a b:List cu) (hb:b.length < 100000) (ha:a.length < 100000) (hok:yt a):∀(m k:Nat),k+m=b.length->
  bR (T nat).G 123 0 [.c (rows cK a),.c (rows cK b),.c (ci k)]=some ([.one (cb (Jo a (b.drop k)))],[])
 |0,k,hk=>by
  have hlt:¬((k:Int) < (b.length:Int)):=by omega
  rw [aF Fb (t:=t123.heads[0]) rfl,bG (by omega:¬k < b.length)]
  simp [t123,zZ,hlt,aG,Jo]
 |m+1,k,hk'=>by
  have hkr:k < b.length:=by omega
  have hlt:((k:Int) < (b.length:Int)):=by omega
  have hi:=UW a b hb ha hok m (k+1) (by omega)
  have h1:=(aco (nat:=nat) a b k hkr hb ha hok a.length 0 (by omega)).1
  simp only [C4,D1] at h1;have hd:Jo a (b.drop k)=(mP a b[k] && Jo a (b.drop (k+1))):=by rw [drop_at hkr];rfl
  rw [hd,aF Fb (t:=t123.heads[0]) rfl];cases hh:mP a b[k]<;>rw [hh] at h1<;>simp [-Int.natCast_add,t123,zZ,hlt,aG,h1,hi]
theorem apE (a b:List cu) (hb:b.length < 100000) (ha:a.length < 100000) (hok:yt a):bq (T nat).G 123 [.v (.one (rows cK a)),.v (.one (rows cK b))] []=some ([.one (cb (Jo a b))],[]):=by
 have h3:=UW (nat:=nat) a b hb ha hok b.length 0 (by omega)
 simp only [C4,D1] at h3;rw [aQ Fb];simp [t123,zZ,h3]
theorem XB {s:List cu} (hs:yt s) (p x:ByteArray):Gq (ig s (.var p x)):=by
 rw [ig];cases h:jX s (p,x) with
 |none=>exact ⟨.var,by simp [ah]⟩
 |some t=>
  obtain ⟨a,ha,rfl⟩:=EP h;exact hs a ha
theorem aeB (f:Fd) (hf:f.OK) (ks:List Cs) (i k:Nat) (hk2:k < 100000) (s:List cu) (hs:yt s) (hm:s.length < 100000):∀(m p:Nat) (bs:List Bool),bs.length=f.ps.length->p+m=f.ps.length->
  bR (T nat).G 122 2 [.c (rows dh ks),.c (ci i),.c (ci k),.c (rows cK s),.c (ci p),.l (eF f),.c (rows CO bs)]=
  bR (T nat).G 122 1 [.c (rows dh ks),.c (ci i),.c (ci ((k+1:Nat):Int)),.l (eF f),.c (rows CO (bs.take p++AX s (f.ps.drop p) (bs.drop p)))]
 |0,p,bs,hb,hp=>by
  have hlt:¬((p:Int) < (f.ps.length:Int)):=by omega
  have hs:=bn k (by omega)
  have e2:ak (eF f) 2=rows bP f.ps:=rfl;rw [aF Co (t:=t122.heads[2]) rfl,bG (by omega:¬p < f.ps.length)]
  simp [-Int.natCast_add,t122,zZ,hlt,e2,eH,hs,AX,aU hf]
 |m+1,p,bs,hb,hp=>by
  have hpr:p < f.ps.length:=by omega
  have hpb:p < bs.length:=by omega
  have hps:=hf.ps;have hlt:((p:Int) < (f.ps.length:Int)):=by omega
  have hs':=bn p (by omega)
  have e2:ak (eF f) 2=rows bP f.ps:=rfl;have hr:fI 2 (rows bP f.ps) (ci p)=some [cs f.ps[p].1,cs f.ps[p].2]:=oK hpr;have hrb:fI 1 (rows CO bs) (ci p)=some [cb bs[p]]:=jE Mg (A6 hpb);have h53:=x53 (nat:=nat) f.ps[p].1 f.ps[p].2;have h77:=x77 (nat:=nat) s hm 3000 (.var f.ps[p].1 f.ps[p].2) (by simp [ah]) (by omega)
  have hok:=XB hs f.ps[p].1 f.ps[p].2;have W9:=x49 (nat:=nat) hok.1 hok.2 (.var f.ps[p].1 f.ps[p].2);have step:∀b,b=(bs[p]||!nR (ig s (.var f.ps[p].1 f.ps[p].2)) (.var f.ps[p].1 f.ps[p].2))->
    bR (T nat).G 122 2 [.c (rows dh ks),.c (ci i),.c (ci k),.c (rows cK s),.c (ci ((p+1:Nat):Int)),.l (eF f),.c (rows CO (bs.set p b))]=
    bR (T nat).G 122 1 [.c (rows dh ks),.c (ci i),.c (ci ((k+1:Nat):Int)),.l (eF f),.c (rows CO (bs.take p++AX s (f.ps.drop p) (bs.drop p)))]:=fun b hbb=>by
   rw [aeB f hf ks i k hk2 s hs hm m (p+1) (bs.set p b) (by simpa using hb) (by omega)]
   have e:(bs.set p b).take (p+1)++AX s (f.ps.drop (p+1)) ((bs.set p b).drop (p+1))=bs.take p++AX s (f.ps.drop p) (bs.drop p):=by
    rw [drop_at hpr,drop_at hpb,AX,<-hbb,List.drop_set_of_lt (by omega),List.take_set,List.take_succ_eq_append_getElem hpb,List.set_append_right _ _ (by simp;exact Nat.min_le_left _ _)]
    simp [Nat.min_eq_left (Nat.le_of_lt hpb)]
   rw [e]
  rw [aF Co (t:=t122.heads[2]) rfl];cases hq:bs[p] with
  |true=>
   rw [hq] at hrb step;have h1:=step true rfl;have h2:=IJ hpb true;simp [-Int.natCast_add,t122,zZ,hlt,e2,eH,hr,hrb,h53,h77,af,h2,hs',h1,aU hf,bP]
  |false=>
   rw [hq] at hrb step;cases he:nR (ig s (.var f.ps[p].1 f.ps[p].2)) (.var f.ps[p].1 f.ps[p].2) with
   |true=>
    rw [he] at W9 step;have h1:=step false rfl;have h2:=IJ hpb false;simp [-Int.natCast_add,t122,zZ,hlt,e2,eH,hr,hrb,h53,h77,W9,af,h2,hs',h1,aU hf,bP]
   |false=>
    rw [he] at W9 step;have h1:=step true rfl;have h2:=IJ hpb true;simp [-Int.natCast_add,t122,zZ,hlt,e2,eH,hr,hrb,h53,h77,W9,af,h2,hs',h1,aU hf,bP]
theorem Zu (f:Fd) (hf:f.OK) (ks:List Cs) (i:Nat) (hi:i < ks.length) (hl:ks.length < 100000) (hss:amr ks[i].subs) (hsl:ks[i].subs.length < 100000):∀(m k:Nat) (bs:List Bool),bs.length=f.ps.length->k+m=ks[i].subs.length->
  bR (T nat).G 122 1 [.c (rows dh ks),.c (ci i),.c (ci k),.l (eF f),.c (rows CO bs)]=
  bR (T nat).G 122 0 [.c (rows dh ks),.c (ci ((i+1:Nat):Int)),.l (eF f),.c (rows CO (GM f.ps (ks[i].subs.drop k) bs))]
 |0,k,bs,hb,hk=>by
  have hlt:¬((k:Int) < (ks[i].subs.length:Int)):=by omega
  have hs:=bn i (by omega)
  have hr:fI 2 (rows dh ks) (ci i)=some [rows aa ks[i].tests,rows encS ks[i].subs]:=jE zO (A6 hi);rw [aF Co (t:=t122.heads[1]) rfl,bG (by omega:¬k < ks[i].subs.length)]
  simp [-Int.natCast_add,t122,zZ,hlt,hr,aG,hs,GM,aU hf]
 |m+1,k,bs,hb,hk=>by
  have hkr:k < ks[i].subs.length:=by omega
  have hlt:((k:Int) < (ks[i].subs.length:Int)):=by omega
  have hr:fI 2 (rows dh ks) (ci i)=some [rows aa ks[i].tests,rows encS ks[i].subs]:=jE zO (A6 hi);have hr1:fI 1 (rows encS ks[i].subs) (ci k)=some [rows cK ks[i].subs[k]]:=jE Mq (A6 hkr);have hsk:=hss _ (By hkr);have h1:=aeB (nat:=nat) f hf ks i k (by omega) ks[i].subs[k] hsk.1 (by omega) f.ps.length 0 bs hb (by omega)
  simp only [List.take_zero,C4,E2,D1] at h1;have ih:=Zu f hf ks i hi hl hss hsl m (k+1) (AX ks[i].subs[k] f.ps bs) (by rw [H9];exact hb) (by omega)
  have e:GM f.ps (ks[i].subs.drop k) bs=GM f.ps (ks[i].subs.drop (k+1)) (AX ks[i].subs[k] f.ps bs):=by rw [drop_at hkr];rfl
  rw [e,<-ih,<-h1,aF Co (t:=t122.heads[1]) rfl];simp [-Int.natCast_add,t122,zZ,hlt,hr,hr1,aG,aU hf]
theorem ZI (f:Fd) (hf:f.OK) (ks:List Cs) (hl:ks.length < 100000) (hss:∀c∈ks,amr c.subs/\c.subs.length < 100000):∀(m i:Nat) (bs:List Bool),bs.length=f.ps.length->i+m=ks.length->
  bR (T nat).G 122 0 [.c (rows dh ks),.c (ci i),.l (eF f),.c (rows CO bs)]=some ([.one (rows CO (nk f.ps (ks.drop i) bs))],[])
 |0,i,bs,hb,hk=>by
  have hlt:¬((i:Int) < (ks.length:Int)):=by omega
  rw [aF Co (t:=t122.heads[0]) rfl,bG (by omega:¬i < ks.length)]
  simp [-Int.natCast_add,t122,zZ,hlt,aG,nk]
 |m+1,i,bs,hb,hk=>by
  have hir:i < ks.length:=by omega
  have hlt:((i:Int) < (ks.length:Int)):=by omega
  have hc:=hss _ (By hir);have h1:=Zu (nat:=nat) f hf ks i hir hl hc.1 hc.2 ks[i].subs.length 0 bs hb (by omega)
  simp only [C4,D1] at h1;have ih:=ZI f hf ks hl hss m (i+1) (GM f.ps ks[i].subs bs) (by rw [IM];exact hb) (by omega)
  have e:nk f.ps (ks.drop i) bs=nk f.ps (ks.drop (i+1)) (GM f.ps ks[i].subs bs):=by rw [drop_at hir];rfl
  rw [e,<-ih,<-h1,aF Co (t:=t122.heads[0]) rfl];simp [-Int.natCast_add,t122,zZ,hlt,aG,aU hf]
theorem GI:∀n:Nat,zeros [.bool false] n=(List.replicate n false).flatMap CO
 |0=>rfl
 |n+1=>by
  have:=GI n
  simp only [zeros,List.replicate_succ,D3] at this |-;rw [<-this];rfl
theorem asG (f:Fd) (hf:f.OK) (ks:List Cs) (hl:ks.length < 100000) (hss:∀c∈ks,amr c.subs/\c.subs.length < 100000):bq (T nat).G 122 [.v (.agg (eF f)),.v (.one (rows dh ks))] []=some ([.one (rows CO (nk f.ps ks (List.replicate f.ps.length false)))],[]):=by
 have h1:=ZI (nat:=nat) f hf ks hl hss ks.length 0 (List.replicate f.ps.length false) (by simp) (by omega)
 simp only [C4,D1] at h1;have e2:ak (eF f) 2=rows bP f.ps:=rfl;have hps:=hf.ps;have hm:mkC 1 1 [.bool false] (ci f.ps.length) (ci f.ps.length)=some (rows CO (List.replicate f.ps.length false)):=by
  have h2:f.ps.length * 1<=bg:=by simp only [bg];omega
  simp [mkC,ci,rows,GI];simp only [bg];omega
 rw [aQ Co];simp [t122,zZ,e2,eH,hm,h1,aU hf]
end
structure Dj where
 s:List cu
 vars:List aI
 jb:List aI
 fJ:List Tm
def isVar (t:Tm):Bool:=decide (Go.Proofs.fZ t=1)
def Gi (dI:List aI):List aI->List Bool->List Tm->Dj->Option Dj
 |p::ps,b::bs,t::ts,x=>
  cond ((b||gm dI p) && !(isVar t && !gm x.vars (aN t))) none
   (Gi dI ps bs ts ⟨x.s++[⟨p,t⟩],cond (b||gm dI p) (x.vars++[aN t]) x.vars,cond b (x.jb++[aN t]) x.jb,cond b x.fJ (x.fJ++[t])⟩)
 |_,_,_,x=>some x
def HZ:Nat->Tm->Tm
 |0,t=>t
 |n+1,t=>cond (OL oG 1 t) (match ai t with|[a]=>cond (OL oG 1 a) (match ai a with|[x]=>HZ n x|_=>t) t|_=>t) t
def nnT (t:Tm):Tm:=HZ (ah t) t
def lsA (s sub:List cu):List aI->List Bool->List Tm->List cu
 |p::ps,b::bs,t::ts=>cond b (⟨aN t,ig s (ig sub (.var p.1 p.2))⟩::lsA s sub ps bs ts) (lsA s sub ps bs ts)
 |_,_,_=>[]
def wN (ss:List (List cu)) (l:List cu):Bool:=ss.any fun x=>Jo x l && Jo l x
structure Gd where
 f:Fd
 ks:List Cs
 bs:List Bool
 u:Tm
 s:List cu
 fx:List aI
 jb:List aI
 Qd:Tm
def Gd.ls (g:Gd) (sub:List cu):List cu:=lsA g.s sub g.f.ps g.bs (ai g.u)
def Gd.add (g:Gd) (acc:List (List cu)) (sub:List cu):List (List cu):=cond (wN acc (g.ls sub)) acc (acc++[g.ls sub])
def Gd.subs (g:Gd) (subs:List (List cu)) (acc:List (List cu)):List (List cu):=subs.foldl g.add acc
def Gd.cas (g:Gd) (c:Cs):Cs:=⟨c.tests.map fun t=>nnT (ig g.s t),g.subs c.subs []⟩
def aZ (c:gX):List C:=rows aa c.calls::rows bP c.changed::rows bP c.fixed::(aa c.measure++[rows dh c.cases,ci c.score])
def dS:List V:=[.agg [cz,cz,cz,ci 0,ce,ce,ci 0,ce,ce,ce,ce,ce,cz,cz,cz,ci 0],.one (cb false)]
def Gd.cand (g:Gd):gX:=⟨[g.u],g.jb,g.fx,g.ks.map g.cas,g.Qd,1⟩
def cdG (f:Fd) (m:Tm) (ks:List Cs) (u:Tm):Option gX:=
 let bs:=nk f.ps ks (List.replicate f.ps.length false)
 (Gi (bT 1 [] [m]) f.ps bs (ai u) ⟨[],[],[],[]⟩).bind fun x=>cond (je x.jb (bT 1 [] x.fJ)) none (some (Gd.cand ⟨f,ks,bs,u,x.s,bT 1 [] x.fJ,x.jb,ig x.s m⟩))
@[simp] def sg (g:Gd) (r:List W):List W:=.l (aa g.u):: .c cz:: .c cz:: .c cz:: .c (ci 0):: .c ce:: .c ce:: .c (ci 0):: .c ce:: .c ce:: .c ce:: .c ce:: .c ce:: .c cz:: .c cz:: .c cz:: .c (ci 0):: .l (eF g.f):: .c (rows cK g.s):: .c (rows bP g.fx):: .c (ak (aa g.Qd) 0):: .c (ak (aa g.Qd) 1):: .c (ak (aa g.Qd) 2):: .c (ak (aa g.Qd) 3):: .c (ak (aa g.Qd) 4):: .c (ak (aa g.Qd) 5):: .c (ak (aa g.Qd) 6):: .c (ak (aa g.Qd) 7):: .c (ak (aa g.Qd) 8):: .c (ak (aa g.Qd) 9):: .c (ak (aa g.Qd) 10):: .c (ci 1)::r
def st0 (ks:List Cs) (bs:List Bool) (dI:List aI) (p:Nat) (u:Tm) (f:Fd) (x:Dj):List W:=.c (rows dh ks):: .c (rows CO bs):: .c (rows bP dI):: .c (ci p):: .l (aa u):: .c cz:: .c cz:: .c cz:: .c (ci 0):: .c ce:: .c ce:: .c (ci 0):: .c ce:: .c ce:: .c ce:: .c ce:: .c ce:: .c cz:: .c cz:: .c cz:: .c (ci 0):: .l (eF f):: .c (rows cK x.s):: .c (rows bP x.vars):: .c cz:: .c (ci 0):: .c ce:: .c ce:: .c (ci 0):: .c ce:: .c ce:: .c ce:: .c ce:: .c ce:: .c cz:: .c cz:: .c cz:: .c (ci 1):: .c (rows aa x.fJ):: .c (rows aa [u]):: .c (rows bP x.jb)::[]
def st1 (g:Gd) (i:Nat) (out:List Cs):List W:=.c (rows dh g.ks):: .c (rows CO g.bs):: .c (ci i)::sg g (.c (rows aa [g.u]):: .c (rows bP g.jb):: .c (rows dh out)::[])
def st2 (g:Gd) (i k:Nat) (out:List Cs) (tests:List Tm):List W:=.c (rows dh g.ks):: .c (rows CO g.bs):: .c (ci i):: .c (ci k)::sg g (.c cz:: .c (rows aa [g.u]):: .c (rows bP g.jb):: .c (rows dh out):: .c (rows aa tests)::[])
def st3 (g:Gd) (i k:Nat) (t:Tm) (out:List Cs) (tests:List Tm):List W:=.c (rows dh g.ks):: .c (rows CO g.bs):: .c (ci i):: .c (ci k)::sg g (.c cz:: .l (aa t):: .c (rows aa [g.u]):: .c (rows bP g.jb):: .c (rows dh out):: .c (rows aa tests)::[])
def st4 (g:Gd) (i k:Nat) (out:List Cs) (tests:List Tm) (acc:List (List cu)):List W:=.c (rows dh g.ks):: .c (rows CO g.bs):: .c (ci i):: .c (ci k)::sg g (.c (rows aa [g.u]):: .c (rows bP g.jb):: .c (rows dh out):: .c (rows aa tests):: .c (rows encS acc)::[])
def st5 (g:Gd) (i k p:Nat) (l:List cu) (out:List Cs) (tests:List Tm) (acc:List (List cu)):List W:=.c (rows dh g.ks):: .c (rows CO g.bs):: .c (ci i):: .c (ci k):: .c (ci p)::sg g (.c (rows cK l):: .c (rows aa [g.u]):: .c (rows bP g.jb):: .c (rows dh out):: .c (rows aa tests):: .c (rows encS acc)::[])
def st6 (g:Gd) (i k:Nat) (kn:Bool) (j:Nat) (l:List cu) (out:List Cs) (tests:List Tm) (acc:List (List cu)):List W:=.c (rows dh g.ks):: .c (rows CO g.bs):: .c (ci i):: .c (ci k):: .c (cb kn):: .c (ci j)::sg g (.c (rows cK l):: .c (rows aa [g.u]):: .c (rows bP g.jb):: .c (rows dh out):: .c (rows aa tests):: .c (rows encS acc)::[])
def st8 (g:Gd) (i k:Nat) (out:List Cs) (tests:List Tm):List W:=.c (rows dh g.ks):: .c (rows CO g.bs):: .c (ci i):: .c (ci k)::sg g (.c cz:: .c (rows aa [g.u]):: .c (rows bP g.jb):: .c (rows dh out):: .c (rows aa tests)::[])
def Yv (g:Gd) (i k:Nat) (l:List cu) (p:Nat) (out:List Cs) (tests:List Tm):List W:=.c (rows dh g.ks):: .c (rows CO g.bs):: .c (ci i):: .c (ci k):: .c (rows cK l):: .c (ci p)::sg g (.c cz:: .c (rows aa [g.u]):: .c (rows bP g.jb):: .c (rows dh out):: .c (rows aa tests)::[])
def ahi (g:Gd) (i k:Nat) (l:List cu) (kn:Bool) (j:Nat) (out:List Cs) (tests:List Tm):List W:=.c (rows dh g.ks):: .c (rows CO g.bs):: .c (ci i):: .c (ci k):: .c (rows cK l):: .c (cb kn):: .c (ci j)::sg g (.c cz:: .c (rows aa [g.u]):: .c (rows bP g.jb):: .c (rows dh out):: .c (rows aa tests)::[])
structure Gd.OK (g:Gd):Prop where
 f:g.f.OK
 bs:g.bs.length=g.f.ps.length
 ar:(ai g.u).length=g.f.ps.length
 ks:g.ks.length < 100000
 s:g.s.length < 100000
 tests:∀c∈g.ks,c.tests.length < 100000/\(∀t∈c.tests,ah t<=3000)/\∀t∈c.tests,ah (ig g.s t)<=3000
 subs:∀c∈g.ks,c.subs.length < 100000/\∀s∈c.subs,s.length < 100000/\yt s
 ls:∀c∈g.ks,∀s∈c.subs,yt (g.ls s)
theorem gW (t:Tm):ak (aa t) 1=cs (aN t).1:=by
 cases t with
 |var p x=>rfl
 |dV o=>cases o<;>rfl
 |app p x ts=>rw [di];rfl
theorem gY (t:Tm):ak (aa t) 2=cs (aN t).2:=by
 cases t with
 |var p x=>rfl
 |dV o=>cases o<;>rfl
 |app p x ts=>rw [di];rfl
theorem OE (t:Tm):ak (aa t) 0=ci (Go.Proofs.fZ t):=by
 cases t with
 |var p x=>rfl
 |dV o=>cases o<;>rfl
 |app p x ts=>rw [di];rfl
theorem gI (t:Tm):ak (aa t) 10=rows aa (ai t):=by
 cases t with
 |var p x=>rfl
 |dV o=>cases o<;>rfl
 |app p x ts=>rw [di];rfl
theorem Aw (t:Tm):bW .neq false (ak (aa t) 0) (ci 1)=some (cb (!isVar t)):=by rw [OE];cases t<;>rfl
theorem Ez (t:Tm):fK 2 1 [ak (aa t) 1,ak (aa t) 2]=some (.slice (bP (aN t)) 1):=by rw [gW,gY];exact Rf _ _
theorem SG (a t:Tm):fK 13 1 [ak (aa a) 1,ak (aa a) 2,ak (aa t) 0,ak (aa t) 1,ak (aa t) 2,ak (aa t) 3,ak (aa t) 4,ak (aa t) 5,ak (aa t) 6,ak (aa t) 7,ak (aa t) 8,ak (aa t) 9,ak (aa t) 10]=some (.slice (cK ⟨aN a,t⟩) 1):=by have h:=BN (aN a) t;rw [<-gW a,<-gY a] at h;exact h
theorem afJ {acc:List Cs} {x:Cs} (h:acc.length < 1000000):Fq 2 48 (.slice (dh x) 1) (rows dh acc)=some (rows dh (acc++[x])):=BR zO (by decide) (by simp only [bg];omega) (by simp only [bg];omega)
mutual
theorem agm:∀t:Tm,(TP t).length<=ah t
 |.var p s=>by simp [TP,ah]
 |.dV _=>by simp [TP]
 |.app p s ts=>by have:=Hg ts;simp only [TP,ah];omega
theorem Hg:∀ts:List Tm,(Fw ts).length<=au ts
 |[]=>by simp [Fw]
 |t::ts=>by have h1:=agm t;have h2:=Hg ts;simp only [Fw,au,Ax];omega
end
section
variable {nat:Nat->List V->Option (List V)}
theorem R4 (xs:List aI) (hm:xs.length < 100000) (t:Tm):bq (T nat).G 65 [.v (.one (rows bP xs)),.v (.agg [ak (aa t) 1,ak (aa t) 2])] []=some ([.one (cb (gm xs (aN t)))],[]):=by rw [gW,gY];exact x65 xs hm (aN t)
theorem adj {acc:List (List cu)} {x:List cu} (h:acc.length < 1000000):Fq 1 24 (.slice (encS x) 1) (rows encS acc)=some (rows encS (acc++[x])):=
 BR Mq (by decide) (by simp only [bg];omega) (by simp only [bg];omega)
theorem YO (l:List cu):fK 1 1 [rows cK l]=some (.slice (encS l) 1):=by simp [fK,encS,bg]
theorem YA (a:List Tm) (b:List (List cu)):fK 2 1 [rows aa a,rows encS b]=some (.slice (dh ⟨a,b⟩) 1):=by simp [fK,dh,bg]
theorem alK (a:List Tm):fK 2 1 [rows aa a,cz]=some (.slice (dh ⟨a,[]⟩) 1):=YA a []
theorem Pf {ks:List Cs} {i:Nat} (h:i < ks.length):fI 2 (rows dh ks) (ci i)=some [rows aa ks[i].tests,rows encS ks[i].subs]:=jE zO (A6 h)
theorem X4 {ss:List (List cu)} {i:Nat} (h:i < ss.length):fI 1 (rows encS ss) (ci i)=some [rows cK ss[i]]:=jE Mq (A6 h)
theorem CR {bs:List Bool} {i:Nat} (h:i < bs.length):fI 1 (rows CO bs) (ci i)=some [cb bs[i]]:=jE Mg (A6 h)
theorem msF {f:Fd} (hf:f.OK):[ak (eF f) 26,ak (eF f) 27,ak (eF f) 28,ak (eF f) 29,ak (eF f) 30,ak (eF f) 31,ak (eF f) 32,ak (eF f) 33,ak (eF f) 34,ak (eF f) 35,ak (eF f) 36]=f.ms:=by
 obtain ⟨nm,ps,cl,gd,body,ms⟩:=f;obtain ⟨h1,h2,_,_⟩:=hf;have h3:=af body;simp only [eF] at h1 h2 |-;generalize aa body=bd at h3 |-
 match gd,h1,bd,h3,ms,h2 with
 |[_,_,_,_,_,_,_,_,_,_,_],_,[_,_,_,_,_,_,_,_,_,_,_],_,[_,_,_,_,_,_,_,_,_,_,_],_=>rfl
theorem uq {α β:Type} {x y:Option α} {f:α->Option β} (h:x=y):x.bind f=y.bind f:=by rw [h]
theorem vD {c d:C} {a b:Option R} (h:c=d):DI c a b=DI d a b:=by rw [h]
attribute [local congr] uq vD
theorem Hq (dI:List aI) (p:aI) (ps:List aI) (b:Bool) (bs:List Bool) (t:Tm) (ts:List Tm) (x:Dj):Gi dI (p::ps) (b::bs) (t::ts) x=
  cond ((b||gm dI p) && !(isVar t && !gm x.vars (aN t))) none
   (Gi dI ps bs ts ⟨x.s++[⟨p,t⟩],cond (b||gm dI p) (x.vars++[aN t]) x.vars,cond b (x.jb++[aN t]) x.jb,cond b x.fJ (x.fJ++[t])⟩):=rfl
theorem EO (dI:List aI) (bs:List Bool) (ts:List Tm) (x:Dj):Gi dI [] bs ts x=some x:=by simp [Gi]
theorem jr (ts:List Tm) (h:au ts<=60000):(bT 1 [] ts).length < 100000:=by rw [yV];have h1:=E9 (Fw ts) [];have h2:=Hg ts;simp only [G3] at h1;omega
theorem afM:∀(n m:Nat) (t:Tm),ah t<=n->ah t<=m->HZ n t=HZ m t
 |0,_,t,h,_=>absurd (dY t) (by omega)
 |_+1,0,t,_,h=>absurd (dY t) (by omega)
 |n+1,m+1,t,h,h'=>by
  cases h1:OL oG 1 t with
  |false=>simp only [HZ,h1,Ek]
  |true=>
   obtain ⟨a,rfl⟩:=AP h1;cases h2:OL oG 1 a with
   |false=>simp only [HZ,ai,h1,h2,Ek,F1]
   |true=>
    obtain ⟨b,rfl⟩:=AP h2;have:=afM n m b (by simp only [ah,au] at h;omega) (by simp only [ah,au] at h';omega)
    simp only [HZ,ai,h1,h2,F1,this]
theorem aio (g:Gd) (acc:List (List cu)) (sub:List cu):(g.add acc sub).length<=acc.length+1:=by unfold Gd.add;cases wN acc (g.ls sub)<;>simp
theorem YZ (g:Gd) (acc:List (List cu)) (sub:List cu) (P:List cu->Prop) (h:∀s∈acc,P s) (h1:P (g.ls sub)):∀s∈g.add acc sub,P s:=by
 unfold Gd.add;cases wN acc (g.ls sub) with
 |true=>exact h
 |false=>
  intro s hs;rcases B0.1 hs with hs|hs
  ·exact h s hs
  ·rw [B8.1 hs];exact h1
theorem IW (s sub:List cu):∀(ps:List aI) (bs:List Bool) (ts:List Tm),(lsA s sub ps bs ts).length<=ps.length
 |[],_,_=>by simp [lsA]
 |_::_,[],_=>by simp [lsA]
 |_::_,_::_,[]=>by simp [lsA]
 |p::ps,b::bs,t::ts=>by
  have:=IW s sub ps bs ts
  cases b<;>simp [lsA]<;>omega
end
section
variable {nat:Nat->List V->Option (List V)}
theorem VG (xs:List aI) (hm:xs.length < 100000) (p:aI):∀(m k:Nat),k+m=xs.length->
  bR (T nat).G 111 0 [.c (rows bP xs),.c (ci xs.length),.c (ci k),.l (bP p)]=some ([.one (cb (gm (xs.drop k) p))],[])
 |0,k,hk=>by
  have hlt:¬((k:Int) < (xs.length:Int)):=by omega
  rw [aF Ro (t:=t111.heads[0]) rfl,bG (by omega:¬k < xs.length)]
  simp [-Int.natCast_add,t111,zZ,hlt,gm,bP]
 |m+1,k,hk=>by
  have hkr:k < xs.length:=by omega
  have hlt:((k:Int) < (xs.length:Int)):=by omega
  have hs:=bn k (by omega)
  have hr:fI 2 (rows bP xs) (ci k)=some [cs xs[k].1,cs xs[k].2]:=oK hkr;have ih:=VG xs hm p m (k+1) (by omega)
  have he:Ea [1,1] false [cs xs[k].1,cs xs[k].2] [cs p.1,cs p.2]=some (cb (CX xs[k] p)):=wM false _ _ _ _;have hd:gm (xs.drop k) p=(CX xs[k] p||gm (xs.drop (k+1)) p):=by rw [drop_at hkr,UH];rfl
  simp only [bP] at ih |-;rw [hd,aF Ro (t:=t111.heads[0]) rfl];cases hq:CX xs[k] p<;>rw [hq] at he<;>simp [-Int.natCast_add,t111,zZ,hlt,hr,he,hs,ih]
theorem ak5 (xs:List aI) (hm:xs.length < 100000) (p:aI):bq (T nat).G 111 [.v (.one (rows bP xs)),.v (.agg (bP p))] []=some ([.one (cb (gm xs p))],[]):=by
 have h:=VG (nat:=nat) xs hm p xs.length 0 (by omega)
 simp only [C4,D1,bP] at h;rw [aQ Ro];simp [t111,zZ,eH,bP,h]
structure akb (x:Cs):Prop where
 tl:x.tests.length < 100000
 sl:x.subs.length < 100000
 ok:∀s∈x.subs,s.length < 100000/\yt s
 ts:Um x.tests
structure alo (c:gX):Prop where
 ca:c.calls.length < 100000
 ch:c.changed.length < 100000
 fx:c.fixed.length < 100000
 kl:c.cases.length < 100000
 ks:∀x∈c.cases,akb x
theorem JU (c:gX):(aZ c).length=16:=by simp [aZ,af]
theorem akH (c:gX):ak (aZ c) 1=rows bP c.changed:=rfl
theorem alI (c:gX):ak (aZ c) 2=rows bP c.fixed:=rfl
theorem alf (c:gX):ak (aZ c) 0=rows aa c.calls:=rfl
theorem ahC (c:gX):ak (aZ c) 14=rows dh c.cases:=by
 unfold aZ;generalize hb:aa c.measure=bd;have h:=af c.measure;rw [hb] at h
 match bd,h with
 |[_,_,_,_,_,_,_,_,_,_,_],_=>rfl
theorem agb (c:gX):ak (aZ c) 15=ci c.score:=by
 unfold aZ;generalize hb:aa c.measure=bd;have h:=af c.measure;rw [hb] at h
 match bd,h with
 |[_,_,_,_,_,_,_,_,_,_,_],_=>rfl
end
end Go.Ey.Pr
namespace Go.Ey.Pr
open Ry Seat
variable {nat:Nat->List V->Option (List V)}
def Wj:Tree:=aCh 3 2 39 (zH 2 1 3 (.row 11 (Zz 4) (.v 3) (sQ 13 1 [.n 40 0,.n 40 1,.n 41 0,.n 41 1,.n 41 2,.n 41 3,.n 41 4,.n 41 5,.n 41 6,.n 41 7,.n 41 8,.n 41 9,Zz 41] (aCg 13 208 38 42 (VX 3 1 0 [Jn,Mk,Oe,WM,oZ 4,lY 5,lY 6,lY 7,lY 8,lY 9,Lv,Ls,I8,I9,Ja,Jg,zR,Je,Jf,zU,KC,Jc,Jj,OA,Kr,Ko,Oz,JS,Ke,Jq,J6,Jv,JH,Ju,JI,Kj,Kv,oZ 37,OM]))))) (zG (LW 2) (.dG (.mk 1 1 [.bool false] (.v 40) (.v 40)) (zP (.v 0) 1 [Jn,Jn,RX,zK 0,oZ 4,lY 5,lY 6,lY 7,lY 8,lY 9,Lv,Ls,I8,I9,Ja,Jg,zR,Je,Jf,zU,KC,Jc,Jj,OA,Kr,Ko,Oz,JS,Ke,Jq,J6,Jv,JH,Ju,JI,Kj,Kv,oZ 37,PW,MR])))
def Vn:Tree:=aCh 3 2 40 (zH 2 1 3 (zP (.n 41 1) 2 [Jn,Mk,Oe,lY 3,xB 41 1,RX,zK 0,oZ 4,lY 5,lY 6,lY 7,lY 8,lY 9,Lv,Ls,I8,I9,Ja,Jg,zR,Je,Jf,zU,KC,Jc,Jj,OA,Kr,Ko,Oz,JS,Ke,Jq,J6,Jv,JH,Ju,JI,Kj,Kv,oZ 37,PW,MF])) (sQ 11 1 [LW 26,LW 27,LW 28,LW 29,LW 30,LW 31,LW 32,LW 33,LW 34,LW 35,LW 36] (TS 116 [Yx 41] [none] [] (sQ 11 1 [.n 4 0,.n 4 1,.n 4 2,.n 4 3,.n 4 4,.n 4 5,.n 4 6,.n 4 7,.n 4 8,.n 4 9,Zz 4] (TS 74 [aCe [LW 26,LW 27,LW 28,LW 29,LW 30,LW 31,LW 32,LW 33,LW 34,LW 35,LW 36],Yx 38] [some 11] [] (zP (LW 2) 3 [Jn,RX,xB 37 2,TN,zK 0,oZ 4,lY 5,lY 6,lY 7,lY 8,lY 9,Lv,Ls,I8,I9,Ja,Jg,zR,Je,Jf,zU,KC,Jc,Jj,OA,Kr,Ko,Oz,JS,Ke,Jq,J6,Jv,JH,Ju,JI,Kj,Kv,oZ 37,PW,MF,O3,xB 44 0,xB 44 1,xB 44 2,xB 44 3,xB 44 4,xB 44 5,xB 44 6,xB 44 7,xB 44 8,xB 44 9,xB 44 10,O3,zK 1,O3,O3,OM,O3])))))
def VB:Tree:=aCh 6 5 43 (zH 1 4 6 (zG (.n 44 0) (zG (.n 40 2) (.dG (.bin .neq false (.v 45) (.v 46)) (aBr 47 [qK [.v 24,.v 25,.v 26,.v 27,.v 28,.v 29,.v 30,.v 31,.v 32,.v 33,.v 34,.v 35,.v 36,.v 37,.v 38,.v 39],aCt] [] (zP (.n 40 2) 4 [Jn,xB 44 0,Mk,Oe,lY 3,lY 4,lY 5,lY 6,xB 40 2,aCr,zK 0,oZ 7,lY 8,lY 9,Lv,Ls,I8,I9,Ja,Jg,zR,Je,Jf,zU,KC,Jc,Jj,OA,Kr,Ko,Oz,JS,Ke,Jq,J6,Jv,JH,Ju,JI,Kj,Kv,Og,PW,MF,oZ 40,MR,RX])))))) (VX 3 1 1 [Jn,Mk,Oe,WM,oZ 7,lY 8,lY 9,Lv,Ls,I8,I9,Ja,Jg,zR,Je,Jf,zU,KC,Jc,Jj,OA,Kr,Ko,Oz,JS,Ke,Jq,J6,Jv,JH,Ju,JI,Kj,Kv,Og,PW,MF,oZ 40,MR,RX])
def EE:Tree:=aCh 4 3 59 (zH 2 2 4 (.row 11 (Zz 5) (.v 4) (zH 1 40 4 (zH 1 40 4 (.ite (.n 63 0) (.dG (.bin .neq false (vL 0) (qG 1)) (aBr 64 [qK [.v 22,.v 23,.v 24,.v 25,.v 26,.v 27,.v 28,.v 29,.v 30,.v 31,.v 32,.v 33,.v 34,.v 35,.v 36,.v 37],aCt] [] (TS 111 [Yx 55,aCe [vL 1,vL 2]] [none] [] (aBr 65 [qK [.v 22,.v 23,.v 24,.v 25,.v 26,.v 27,.v 28,.v 29,.v 30,.v 31,.v 32,.v 33,.v 34,.v 35,.v 36,.v 37],aCt] [] (sQ 2 1 [vL 1,vL 2] (aCg 2 32 55 66 (zH 1 40 4 (zH 1 40 4 (aCp (.n 69 0) (qM 70 (sQ 11 1 [vL 0,vL 1,vL 2,vL 3,vL 4,vL 5,vL 6,vL 7,vL 8,vL 9,vL 10] (aCg 11 176 56 71 (VX 4 1 3 [Jn,Mk,Oe,lY 3,lY 73,oZ 5,lY 6,lY 7,lY 8,lY 9,Lv,Ls,I8,I9,Ja,Jg,zR,Je,Jf,zU,KC,Jc,Jj,OA,Kr,Ko,Oz,JS,Ke,Jq,J6,Jv,JH,Ju,JI,Kj,Kv,Og,oZ 38,MF,Pn,MR,RX,OM,WM,TN,Ra,aCk,aCr,lY 49,lY 50,aCl,lY 52,aCs,lY 54,lY 67,lY 72,lY 57,lY 58]))) (sQ 2 1 [vL 1,vL 2] (aCg 2 32 58 71 (zP (Zz 5) 5 [Jn,Mk,lY 4,Oe,lY 3,lY 4,xB 5 10,lY 73,zK 0,oZ 5,lY 6,lY 7,lY 8,lY 9,Lv,Ls,I8,I9,Ja,Jg,zR,Je,Jf,zU,KC,Jc,Jj,OA,Kr,Ko,Oz,JS,Ke,Jq,J6,Jv,JH,Ju,JI,Kj,Kv,Og,oZ 38,MF,Pn,MR,RX,OM,WM,TN,Ra,aCk,aCr,lY 49,lY 50,aCl,lY 52,aCs,lY 54,lY 67,lY 56,oZ 61,lY 57,lY 72]))))))))))))) (TS 111 [Yx 1,aCm 60] [none] [] (qM 64 (.dG (.bin .neq false (vL 0) (qG 1)) (aBr 65 [qK [.v 22,.v 23,.v 24,.v 25,.v 26,.v 27,.v 28,.v 29,.v 30,.v 31,.v 32,.v 33,.v 34,.v 35,.v 36,.v 37],aCt] [] (TS 111 [Yx 55,aCe [vL 1,vL 2]] [none] [] (aBr 66 [qK [.v 22,.v 23,.v 24,.v 25,.v 26,.v 27,.v 28,.v 29,.v 30,.v 31,.v 32,.v 33,.v 34,.v 35,.v 36,.v 37],aCt] [] (sQ 2 1 [vL 1,vL 2] (aCg 2 32 55 67 (zH 1 40 4 (zH 1 40 4 (aCp (.n 70 0) (qM 71 (sQ 11 1 [vL 0,vL 1,vL 2,vL 3,vL 4,vL 5,vL 6,vL 7,vL 8,vL 9,vL 10] (aCg 11 176 56 72 (VX 4 1 3 [Jn,Mk,Oe,lY 3,lY 74,oZ 5,lY 6,lY 7,lY 8,lY 9,Lv,Ls,I8,I9,Ja,Jg,zR,Je,Jf,zU,KC,Jc,Jj,OA,Kr,Ko,Oz,JS,Ke,Jq,J6,Jv,JH,Ju,JI,Kj,Kv,Og,oZ 38,MF,Pn,MR,RX,OM,WM,TN,Ra,aCk,aCr,lY 49,lY 50,aCl,lY 52,aCs,lY 54,lY 68,lY 73,lY 57,lY 58]))) (sQ 2 1 [vL 1,vL 2] (aCg 2 32 58 72 (zP (Zz 5) 5 [Jn,Mk,lY 4,Oe,lY 3,lY 4,xB 5 10,lY 74,zK 0,oZ 5,lY 6,lY 7,lY 8,lY 9,Lv,Ls,I8,I9,Ja,Jg,zR,Je,Jf,zU,KC,Jc,Jj,OA,Kr,Ko,Oz,JS,Ke,Jq,J6,Jv,JH,Ju,JI,Kj,Kv,Og,oZ 38,MF,Pn,MR,RX,OM,WM,TN,Ra,aCk,aCr,lY 49,lY 50,aCl,lY 52,aCs,lY 54,lY 68,lY 56,oZ 61,lY 57,lY 73]))))))))))))) (zH 1 40 4 (zH 1 40 4 (aCp (.n 66 0) (qM 67 (sQ 11 1 [vL 0,vL 1,vL 2,vL 3,vL 4,vL 5,vL 6,vL 7,vL 8,vL 9,vL 10] (aCg 11 176 56 68 (VX 4 1 3 [Jn,Mk,Oe,lY 3,lY 70,oZ 5,lY 6,lY 7,lY 8,lY 9,Lv,Ls,I8,I9,Ja,Jg,zR,Je,Jf,zU,KC,Jc,Jj,OA,Kr,Ko,Oz,JS,Ke,Jq,J6,Jv,JH,Ju,JI,Kj,Kv,Og,oZ 38,MF,Pn,MR,RX,OM,WM,TN,Ra,aCk,aCr,lY 49,lY 50,aCl,lY 52,aCs,lY 54,lY 55,lY 69,lY 57,lY 58]))) (sQ 2 1 [vL 1,vL 2] (aCg 2 32 58 68 (zP (Zz 5) 5 [Jn,Mk,lY 4,Oe,lY 3,lY 4,xB 5 10,lY 70,zK 0,oZ 5,lY 6,lY 7,lY 8,lY 9,Lv,Ls,I8,I9,Ja,Jg,zR,Je,Jf,zU,KC,Jc,Jj,OA,Kr,Ko,Oz,JS,Ke,Jq,J6,Jv,JH,Ju,JI,Kj,Kv,Og,oZ 38,MF,Pn,MR,RX,OM,WM,TN,Ra,aCk,aCr,lY 49,lY 50,aCl,lY 52,aCs,lY 54,lY 55,lY 56,oZ 61,lY 57,lY 69])))))))))))))) (TS 116 [Yx 56] [none] [] (zP (.v 0) 6 [Jn,lY 61,zK 0,oZ 5,lY 6,lY 7,lY 8,lY 9,Lv,Ls,I8,I9,Ja,Jg,zR,Je,Jf,zU,KC,Jc,oZ 38,MF,Pn,lY 60,RX,OM,WM,TN,Ra,aCk,aCr,lY 49,lY 50,aCl,lY 52,lY 54,lY 57,lY 58,aCs]))
def QK:Tree:=aCh 10 9 47 (zH 2 8 10 (zH 13 1 10 (TS 115 [aCm 48] [some 11] [] (TS 114 [aCe [.n 49 2,.n 49 3,.n 49 4,.n 49 5,.n 49 6,.n 49 7,.n 49 8,.n 49 9,Zz 49,.n 49 11,.n 49 12],aCm 50] [none] [] (aCp (.v 51) (qM 52 (zH 1 46 10 (.dG (.set 1 (.v 46) (.v 10) 0 [.k (.bool true)]) (VX 10 1 4 [Jn,Mk,Oe,lY 3,lY 4,lY 5,lY 6,lY 7,lY 8,lY 9,lY 55,oZ 11,I8,I9,Ja,Jg,zR,Je,Jf,zU,KC,Jc,Jj,OA,Kr,Ko,Oz,JS,Ke,Jq,J6,Jv,JH,Ju,JI,Kj,Kv,Og,PW,MF,Pn,MR,RX,OM,oZ 44,TN,lY 54]))) (VX 10 1 4 [Jn,Mk,Oe,lY 3,lY 4,lY 5,lY 6,lY 7,lY 8,lY 9,aCs,oZ 11,I8,I9,Ja,Jg,zR,Je,Jf,zU,KC,Jc,Jj,OA,Kr,Ko,Oz,JS,Ke,Jq,J6,Jv,JH,Ju,JI,Kj,Kv,Og,PW,MF,Pn,MR,RX,OM,oZ 44,TN,Ra]))))))) (VX 7 1 2 [Jn,Oe,lY 3,lY 4,lY 5,lY 6,aCr,oZ 11,I8,I9,Ja,Jg,zR,Je,Jf,zU,KC,Jc,Jj,OA,Kr,Ko,Oz,JS,Ke,Jq,J6,Jv,JH,Ju,JI,Kj,Kv,Og,PW,MF,Pn,MR,RX,OM,oZ 44,TN,Ra])
def NJ:Tree:=aCh 8 7 64 (zH 11 6 8 (.dG (.bin .neq false (.v 8) (.v 2)) (qM 66 (sQ 11 1 [.n 65 0,.n 65 1,.n 65 2,.n 65 3,.n 65 4,.n 65 5,.n 65 6,.n 65 7,.n 65 8,.n 65 9,Zz 65] (TS 116 [Yx 67] [none] [] (TS 111 [Yx 68,aCe [vL 1,vL 2]] [none] [] (aBr 69 [qK [.v 26,.v 27,.v 28,.v 29,.v 30,.v 31,.v 32,.v 33,.v 34,.v 35,.v 36,.v 37,.v 38,.v 39,.v 40,.v 41],aCt] [] (VX 8 1 5 [Jn,Mk,Oe,lY 3,lY 4,lY 5,lY 6,lY 7,lY 70,oZ 9,Lv,Ls,I8,I9,Ja,Jg,zR,Je,Jf,zU,KC,Jc,Jj,OA,Kr,Ko,Oz,JS,Ke,Jq,J6,Jv,JH,Ju,JI,Kj,Kv,Og,PW,MF,Pn,MR,oZ 42,OM,WM,TN,Ra,aCk,aCr,lY 49,lY 50,aCl,lY 52,aCs,lY 54,lY 55,lY 56,lY 57,lY 58,lY 59,lY 60,oZ 61,lY 62,lY 63]))))) (VX 8 1 5 [Jn,Mk,Oe,lY 3,lY 4,lY 5,lY 6,lY 7,lY 67,oZ 9,Lv,Ls,I8,I9,Ja,Jg,zR,Je,Jf,zU,KC,Jc,Jj,OA,Kr,Ko,Oz,JS,Ke,Jq,J6,Jv,JH,Ju,JI,Kj,Kv,Og,PW,MF,Pn,MR,oZ 42,OM,WM,TN,Ra,aCk,aCr,lY 49,lY 50,aCl,lY 52,aCs,lY 54,lY 55,lY 56,lY 57,lY 58,lY 59,lY 60,oZ 61,lY 62,lY 63])))) (VX 5 1 3 [Jn,Mk,lY 3,lY 4,lY 65,oZ 9,Lv,Ls,I8,I9,Ja,Jg,zR,Je,Jf,zU,KC,Jc,Jj,OA,Kr,Ko,Oz,JS,Ke,Jq,J6,Jv,JH,Ju,JI,Kj,Kv,Og,PW,MF,Pn,MR,oZ 42,OM,WM,TN,Ra,aCk,aCr,lY 49,lY 50,aCl,lY 52,aCs,lY 54,lY 55,lY 56,lY 57,lY 58,lY 59,lY 60,lY 62,lY 63])
def Vg:Tree:=aCh 2 1 39 (zH 2 0 2 (zP (.n 40 0) 7 [Jn,Mk,Oe,xB 40 0,MR,zK 0,oZ 3,lY 4,lY 5,lY 6,lY 7,lY 8,lY 9,Lv,Ls,I8,I9,Ja,Jg,zR,Je,Jf,zU,oZ 20,Jc,Jj,OA,Kr,Ko,Oz,JS,Ke,Jq,J6,Jv,JH,Ju,JI,Kj,oZ 40,O3,Kv,Og,PW,O3])) (.ret [qK [.v 36,.v 37,.v 23,.v 24,.v 25,.v 26,.v 27,.v 28,.v 29,.v 30,.v 31,.v 32,.v 33,.v 34,.v 38,.v 35],.one (.k (.bool true))] [])
def Vl:Tree:=aCh 5 4 45 (zH 11 3 5 (TS 74 [aCm 46,Yx 24] [some 11] [] (TS 117 [aCm 47] [some 11] [] (sQ 11 1 [.n 48 0,.n 48 1,.n 48 2,.n 48 3,.n 48 4,.n 48 5,.n 48 6,.n 48 7,.n 48 8,.n 48 9,Zz 48] (aCg 11 176 44 49 (VX 5 1 7 [Jn,Mk,Oe,lY 3,lY 4,aCl,oZ 6,lY 7,lY 8,lY 9,Lv,Ls,I8,I9,Ja,Jg,zR,Je,Jf,zU,KC,Jc,Jj,oZ 23,Kr,Ko,Oz,JS,Ke,Jq,J6,Jv,JH,Ju,JI,Kj,Kv,Og,PW,oZ 39,Pn,MR,RX,OM,lY 50])))))) (zP (.n 39 1) 8 [Jn,Mk,Oe,xB 39 1,Ra,zK 0,oZ 6,lY 7,lY 8,lY 9,Lv,Ls,I8,I9,Ja,Jg,zR,Je,Jf,zU,KC,Jc,Jj,oZ 23,Kr,Ko,Oz,JS,Ke,Jq,J6,Jv,JH,Ju,JI,Kj,Kv,Og,PW,MR,RX,OM,WM,Pn])
def WT:Tree:=aCh 5 4 44 (zH 1 3 5 (zP (.n 23 2) 9 [xB 45 0,Jn,Mk,Oe,lY 3,lY 4,lY 5,Ra,zK 0,oZ 6,lY 7,lY 8,lY 9,Lv,Ls,I8,I9,Ja,Jg,zR,Je,Jf,zU,KC,Jc,Jj,oZ 23,Kr,Ko,Oz,JS,Ke,Jq,J6,Jv,JH,Ju,JI,Kj,Kv,Og,PW,O3,MF,Pn,MR,RX,OM])) (sQ 2 1 [.v 42,.v 43] (aCg 2 48 41 45 (VX 2 1 6 [Jn,Mk,aCk,oZ 6,lY 7,lY 8,lY 9,Lv,Ls,I8,I9,Ja,Jg,zR,Je,Jf,zU,KC,Jc,Jj,oZ 23,Kr,Ko,Oz,JS,Ke,Jq,J6,Jv,JH,Ju,JI,Kj,Kv,Og,PW,MF,Pn,Ra])))
def Qx:Tree:=aCh 8 7 48 (zH 1 28 8 (zH 1 28 8 (.ite (.n 50 0) (.row 11 (Zz 9) (.v 8) (zH 13 0 8 (TS 74 [aCe [.n 52 2,.n 52 3,.n 52 4,.n 52 5,.n 52 6,.n 52 7,.n 52 8,.n 52 9,Zz 52,.n 52 11,.n 52 12],Yx 27] [some 11] [] (sQ 13 1 [.n 51 1,.n 51 2,.n 53 0,.n 53 1,.n 53 2,.n 53 3,.n 53 4,.n 53 5,.n 53 6,.n 53 7,.n 53 8,.n 53 9,Zz 53] (aCg 13 208 42 54 (VX 8 1 9 [Jn,Mk,Oe,lY 3,lY 4,lY 5,lY 6,lY 7,lY 56,oZ 9,Lv,Ls,I8,I9,Ja,Jg,zR,Je,Jf,zU,KC,Jc,Jj,OA,Kr,Ko,oZ 26,JS,Ke,Jq,J6,Jv,JH,Ju,JI,Kj,Kv,Og,PW,MF,Pn,MR,lY 55,OM,WM,TN,Ra,aCk])))))) (VX 8 1 9 [Jn,Mk,Oe,lY 3,lY 4,lY 5,lY 6,lY 7,aCl,oZ 9,Lv,Ls,I8,I9,Ja,Jg,zR,Je,Jf,zU,KC,Jc,Jj,OA,Kr,Ko,oZ 26,JS,Ke,Jq,J6,Jv,JH,Ju,JI,Kj,Kv,Og,PW,MF,Pn,MR,RX,OM,WM,TN,Ra,aCk])))) (TS 118 [Yx 47,Yx 42] [none] [] (aCp (.v 49) (qM 50 (sQ 1 1 [.v 42] (aCg 1 24 47 51 (VX 6 1 8 [Mk,Oe,lY 3,lY 4,lY 5,aCs,oZ 9,Lv,Ls,I8,I9,Ja,Jg,zR,Je,Jf,zU,KC,Jc,Jj,OA,Kr,Ko,oZ 26,JS,Ke,Jq,J6,Jv,JH,Ju,JI,Kj,Kv,Og,PW,MF,Pn,MR,OM,WM,TN,Ra,lY 52]))) (VX 6 1 8 [Mk,Oe,lY 3,lY 4,lY 5,aCl,oZ 9,Lv,Ls,I8,I9,Ja,Jg,zR,Je,Jf,zU,KC,Jc,Jj,OA,Kr,Ko,oZ 26,JS,Ke,Jq,J6,Jv,JH,Ju,JI,Kj,Kv,Og,PW,MF,Pn,MR,OM,WM,TN,Ra,aCk]))))
def aku:List (Nat×Tree):=[(0,Wj),(1,Vn),(2,VB),(3,EE),(4,QK),(5,NJ),(6,Vg),(7,Vl),(8,WT),(9,Qx)]
def q43:List HQ:=[⟨0,List.range 39,[0,1]⟩,
 ⟨1,List.range 40,[2,3]⟩,
 ⟨2,List.range 43,[4,1]⟩,
 ⟨3,List.range 59,[3,5,3,5,3,5,11]⟩,
 ⟨4,List.range 47,[4,4,2]⟩,
 ⟨5,List.range 64,[5,5,3]⟩,
 ⟨6,List.range 39,[7]⟩,
 ⟨7,List.range 45,[7,12]⟩,
 ⟨8,List.range 44,[9,6]⟩,
 ⟨9,List.range 48,[9,9,8,8]⟩,
 ⟨3,(oq 59 [(2,55),(3,56),(43,58)]),[14,15,14,15,16,17,18]⟩,
 ⟨6,(oq 39 [(35,38)]),[19]⟩,
 ⟨8,(oq 44 [(39,43)]),[20,6]⟩,
 ⟨9,(oq 48 [(1,42)]),[9,13,8,8]⟩,
 ⟨3,(oq 59 [(41,58)]),[14,5,14,5,14,5,18]⟩,
 ⟨5,(oq 64 [(2,60)]),[15,15,21]⟩,
 ⟨3,(oq 59 [(2,55),(42,58)]),[14,5,14,5,16,22,18]⟩,
 ⟨5,(oq 64 [(2,59),(3,60)]),[17,17,23]⟩,
 ⟨6,(oq 39 [(23,37),(36,38)]),[24]⟩,
 ⟨7,(oq 45 [(38,43),(41,44)]),[25,26]⟩,
 ⟨9,(oq 48 [(1,42),(43,47)]),[27,20,8,12]⟩,
 ⟨3,(oq 59 [(2,56)]),[3,15,3,15,3,15,11]⟩,
 ⟨5,(oq 64 [(2,59)]),[22,22,28]⟩,
 ⟨3,(oq 59 [(2,55),(3,56)]),[3,15,3,15,28,17,11]⟩,
 ⟨7,(oq 45 [(26,42),(39,43),(42,44)]),[29,30]⟩,
 ⟨7,(oq 45 [(38,43)]),[25,31]⟩,
 ⟨8,(oq 44 [(38,41),(40,42),(41,43)]),[32,6]⟩,
 ⟨9,(oq 48 [(42,47)]),[27,27,8,12]⟩,
 ⟨3,(oq 59 [(2,55)]),[3,5,3,5,28,22,11]⟩,
 ⟨7,(oq 45 [(26,42),(39,43)]),[29,34]⟩,
 ⟨8,(oq 44 [(26,40),(39,41),(41,42),(42,43)]),[35,36]⟩,
 ⟨8,(oq 44 [(38,41),(40,43)]),[37,6]⟩,
 ⟨9,(oq 48 [(1,42),(42,45),(44,46),(45,47)]),[38,32,39,26]⟩,
 ⟨7,(oq 45 [(40,44)]),[7,40]⟩,
 ⟨8,(oq 44 [(26,40),(39,41),(41,43)]),[41,36]⟩,
 ⟨9,(oq 48 [(1,42),(30,44),(43,45),(45,46),(46,47)]),[42,35,43,30]⟩,
 ⟨6,(oq 39 [(23,37)]),[44]⟩,
 ⟨9,(oq 48 [(1,42),(42,45),(44,47)]),[45,37,46,31]⟩,
 ⟨9,(oq 48 [(41,45),(43,46),(44,47)]),[38,38,39,26]⟩,
 ⟨8,(oq 44 [(38,41),(40,42)]),[47,6]⟩,
 ⟨8,(oq 44 [(39,42),(40,43)]),[48,6]⟩,
 ⟨9,(oq 48 [(1,42),(30,44),(43,45),(45,47)]),[49,41,50,34]⟩,
 ⟨9,(oq 48 [(29,44),(42,45),(44,46),(45,47)]),[42,42,43,30]⟩,
 ⟨8,(oq 44 [(26,40),(39,41),(41,42)]),[51,36]⟩,
 ⟨7,(oq 45 [(26,42),(41,44)]),[52,53]⟩,
 ⟨9,(oq 48 [(41,45),(43,47)]),[45,45,46,31]⟩,
 ⟨8,(oq 44 [(38,41)]),[54,6]⟩,
 ⟨9,(oq 48 [(1,42),(42,45),(44,46)]),[55,47,39,39]⟩,
 ⟨9,(oq 48 [(1,42),(43,46),(44,47)]),[56,48,57,40]⟩,
 ⟨9,(oq 48 [(29,44),(42,45),(44,47)]),[49,49,50,34]⟩,
 ⟨8,(oq 44 [(26,40),(39,41)]),[58,36]⟩,
 ⟨9,(oq 48 [(1,42),(30,44),(43,45),(45,46)]),[59,51,43,43]⟩,
 ⟨7,(oq 45 [(26,42)]),[52,60]⟩,
 ⟨8,(oq 44 [(26,40),(40,42),(41,43)]),[61,36]⟩,
 ⟨9,(oq 48 [(1,42),(42,45)]),[62,54,46,46]⟩,
 ⟨9,(oq 48 [(41,45),(43,46)]),[55,55,39,39]⟩,
 ⟨9,(oq 48 [(42,46),(43,47)]),[56,56,57,40]⟩,
 ⟨8,(oq 44 [(39,42)]),[63,6]⟩,
 ⟨9,(oq 48 [(1,42),(30,44),(43,45)]),[64,58,50,50]⟩,
 ⟨9,(oq 48 [(29,44),(42,45),(44,46)]),[59,59,43,43]⟩,
 ⟨8,(oq 44 [(26,40),(40,43)]),[65,36]⟩,
 ⟨9,(oq 48 [(1,42),(30,44),(44,46),(45,47)]),[66,61,67,53]⟩,
 ⟨9,(oq 48 [(41,45)]),[62,62,46,46]⟩,
 ⟨9,(oq 48 [(1,42),(43,46)]),[68,63,57,57]⟩,
 ⟨9,(oq 48 [(29,44),(42,45)]),[64,64,50,50]⟩,
 ⟨9,(oq 48 [(1,42),(30,44),(44,47)]),[69,65,70,60]⟩,
 ⟨9,(oq 48 [(29,44),(43,46),(44,47)]),[66,66,67,53]⟩,
 ⟨8,(oq 44 [(26,40),(40,42)]),[71,36]⟩,
 ⟨9,(oq 48 [(42,46)]),[68,68,57,57]⟩,
 ⟨9,(oq 48 [(29,44),(43,47)]),[69,69,70,60]⟩,
 ⟨8,(oq 44 [(26,40)]),[72,36]⟩,
 ⟨9,(oq 48 [(1,42),(30,44),(44,46)]),[73,71,67,67]⟩,
 ⟨9,(oq 48 [(1,42),(30,44)]),[74,72,70,70]⟩,
 ⟨9,(oq 48 [(29,44),(43,46)]),[73,73,67,67]⟩,
 ⟨9,(oq 48 [(29,44)]),[74,74,70,70]⟩]
def b43:Tree:=TS 110 [Yx 0,aCe [.n 2 1,.n 2 2]] [some 37,none] [] (aCp (.v 4) (aBr 5 [qK [.z,.z,.z,qG 0,sZ,sZ,qG 0,sZ,sZ,sZ,sZ,sZ,.z,.z,.z,qG 0],aCt] [] (.dG (.bin .neq false (.n 3 3) (qG 1)) (aBr 6 [qK [.z,.z,.z,qG 0,sZ,sZ,qG 0,sZ,sZ,sZ,sZ,sZ,.z,.z,.z,qG 0],aCt] [] (TS 111 [Yx 1,aCe [.n 3 0,.n 3 1]] [none] [] (aBr 7 [qK [.z,.z,.z,qG 0,sZ,sZ,qG 0,sZ,sZ,sZ,sZ,sZ,.z,.z,.z,qG 0],aCt] [] (zG (Zz 2) (zG (.n 3 2) (.dG (.bin .neq false (.v 8) (.v 9)) (aBr 10 [qK [.z,.z,.z,qG 0,sZ,sZ,qG 0,sZ,sZ,sZ,sZ,sZ,.z,.z,.z,qG 0],aCt] [] (TS 112 [Yx 0,aCe [.n 3 0,.n 3 1]] [none,none] [] (zH 32 0 11 (zG (.n 13 20) (.dG (.bin .neq false (.v 14) (qG 1)) (aBr 15 [qK [.z,.z,.z,qG 0,sZ,sZ,qG 0,sZ,sZ,sZ,sZ,sZ,.z,.z,.z,qG 0],aCt] [] (TS 113 [aCm 3] [none,none] [] (aCp (.v 17) (aBr 18 [qK [.z,.z,.z,qG 0,sZ,sZ,qG 0,sZ,sZ,sZ,sZ,sZ,.z,.z,.z,qG 0],aCt] [] (zP (.n 3 2) 0 [zR,xB 3 2,zU,zK 0,oZ 2,O3,O3,O3,zK 0,ZX,ZX,zK 0,ZX,ZX,ZX,ZX,ZX,O3,O3,O3,zK 0,O3,O3,O3,zK 0,ZX,ZX,zK 0,ZX,ZX,ZX,ZX,ZX,O3,O3,O3,zK 0,oZ 3,O3])))))))))))))))))))
def t43:cB:=⟨[.one,.one,.agg 11],[],b43,GD q43 aku⟩
def I43 (nat:Nat->List V->Option (List V)):Lh:=((T nat).code 43).getD ⟨0,[],.skip⟩
def H43 (nat:Nat->List V->Option (List V)):List HS:=(T nat).heads 43
def X43 (nat:Nat->List V->Option (List V)):Cx:=⟨(T nat).sig,H43 nat,(I43 nat).res,s43.rs,s43.boxes⟩
def e43 (e:HQ):Tree:=match Vx q43 aku e with|some r=>r.1|none=> .fail
theorem apM:(T nat).G.fn 43=some (PR (T nat).sig 2000 s43 (H43 nat) (I43 nat)):=by kernel_rfl
theorem aso:(match MP s43 with|(σ,n)=>xk (X43 nat) 2000 [] (I43 nat).body [] σ n [])=b43:=by kernel_rfl
theorem alJ:(((H43 nat).drop (15 * 0)).take 15).map (uu (X43 nat) 2000 (I43 nat).body)=((q43.drop (15 * 0)).take 15).map e43:=by kernel_rfl
theorem amZ:(((H43 nat).drop (15 * 1)).take 15).map (uu (X43 nat) 2000 (I43 nat).body)=((q43.drop (15 * 1)).take 15).map e43:=by kernel_rfl
theorem akC:(((H43 nat).drop (15 * 2)).take 15).map (uu (X43 nat) 2000 (I43 nat).body)=((q43.drop (15 * 2)).take 15).map e43:=by kernel_rfl
theorem akX:(((H43 nat).drop (15 * 3)).take 15).map (uu (X43 nat) 2000 (I43 nat).body)=((q43.drop (15 * 3)).take 15).map e43:=by kernel_rfl
theorem alr:(((H43 nat).drop (15 * 4)).take 15).map (uu (X43 nat) 2000 (I43 nat).body)=((q43.drop (15 * 4)).take 15).map e43:=by kernel_rfl
theorem Qc {α β γ:Type} (f:α->γ) (g:β->γ) (k:Nat):∀(n:Nat) (l:List α) (m:List β),l.length<=k * n->m.length<=k * n->(∀i,i < n->((l.drop (k * i)).take k).map f=((m.drop (k * i)).take k).map g)->l.map f=m.map g
 |0,l,m,hl,hm,_=>by rw [Cp (by omega:l.length=0),Cp (by omega:m.length=0)];rfl
 |n+1,l,m,hl,hm,h=>by
  rw [Nat.mul_add,Nat.mul_one] at hl hm;rw [<-List.take_append_drop k l,<-List.take_append_drop k m,Is,Is];have h0:=h 0 (by omega)
  simp only [Nat.mul_zero,C4] at h0;rw [h0,Qc f g k n (l.drop k) (m.drop k) (by rw [Ft];omega) (by rw [Ft];omega) fun i hi=>?_]
  have h1:=h (i+1) (by omega)
  rwa [Nat.mul_add,Nat.mul_one,Nat.add_comm,<-List.drop_drop,<-List.drop_drop] at h1
theorem ar4:(H43 nat).length=75:=by kernel_rfl
theorem qN:(T nat).G.fn 43=some t43:=by
 rw [apM];refine E6 some ?_;show cB.mk s43.params s43.boxes (match MP s43 with|(σ,n)=>xk (X43 nat) 2000 [] (I43 nat).body [] σ n []) ((H43 nat).map (uu (X43 nat) 2000 (I43 nat).body))=t43
 rw [aso,Qc _ e43 15 5 (H43 nat) q43 (Nat.le_of_eq ar4) (by decide) fun i hi=>match i,hi with
  |0,_=>alJ
  |1,_=>amZ
  |2,_=>akC
  |3,_=>akX
  |4,_=>alr
  |i+5,h=>absurd h (by omega)]
 rfl
theorem OZ:okQ q43 aku=true:=by kernel_rfl
theorem acd (ws:List W) (hl:ws.length=39):bR (T nat).G 43 0 ws=aA (bq (T nat).G) (bR (T nat).G 43) Wj ws:=jo qN OZ rfl (b:=Wj) (by kernel_rfl) (by kernel_rfl) ws hl
theorem adX (ws:List W) (hl:ws.length=40):bR (T nat).G 43 1 ws=aA (bq (T nat).G) (bR (T nat).G 43) Vn ws:=jo qN OZ rfl (b:=Vn) (by kernel_rfl) (by kernel_rfl) ws hl
theorem acG (ws:List W) (hl:ws.length=43):bR (T nat).G 43 2 ws=aA (bq (T nat).G) (bR (T nat).G 43) VB ws:=jo qN OZ rfl (b:=VB) (by kernel_rfl) (by kernel_rfl) ws hl
theorem ace (ws:List W) (hl:ws.length=59):bR (T nat).G 43 3 ws=aA (bq (T nat).G) (bR (T nat).G 43) EE ws:=jo qN OZ rfl (b:=EE) (by kernel_rfl) (by kernel_rfl) ws hl
theorem af0 (ws:List W) (hl:ws.length=47):bR (T nat).G 43 4 ws=aA (bq (T nat).G) (bR (T nat).G 43) QK ws:=jo qN OZ rfl (b:=QK) (by kernel_rfl) (by kernel_rfl) ws hl
theorem afr (ws:List W) (hl:ws.length=64):bR (T nat).G 43 5 ws=aA (bq (T nat).G) (bR (T nat).G 43) NJ ws:=jo qN OZ rfl (b:=NJ) (by kernel_rfl) (by kernel_rfl) ws hl
theorem af7 (ws:List W) (hl:ws.length=39):bR (T nat).G 43 6 ws=aA (bq (T nat).G) (bR (T nat).G 43) Vg ws:=jo qN OZ rfl (b:=Vg) (by kernel_rfl) (by kernel_rfl) ws hl
theorem aeX (ws:List W) (hl:ws.length=45):bR (T nat).G 43 7 ws=aA (bq (T nat).G) (bR (T nat).G 43) Vl ws:=jo qN OZ rfl (b:=Vl) (by kernel_rfl) (by kernel_rfl) ws hl
theorem ad9 (ws:List W) (hl:ws.length=44):bR (T nat).G 43 8 ws=aA (bq (T nat).G) (bR (T nat).G 43) WT ws:=jo qN OZ rfl (b:=WT) (by kernel_rfl) (by kernel_rfl) ws hl
theorem XZ (ws:List W) (hl:ws.length=48):bR (T nat).G 43 9 ws=aA (bq (T nat).G) (bR (T nat).G 43) Qx ws:=jo qN OZ rfl (b:=Qx) (by kernel_rfl) (by kernel_rfl) ws hl
end Go.Ey.Pr
end
