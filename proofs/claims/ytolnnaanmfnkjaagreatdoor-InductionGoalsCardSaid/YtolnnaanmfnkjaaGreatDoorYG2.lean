/- A part. -/
import Derived.Test.YtolnnaanmfnkjaaGreatDoorY47
import Derived.Test.YtolnnaanmfnkjaaGreatDoorYG1
import Derived.Below
import GoSem.Core.Region
import GoSem.Core.Layout
import GoSem.Op.Equal
import GoSem.Core.View
import GoSem.Op.String
import Derived.Test.YtolnnaanmfnkjaaGreatDoorChecked
import Derived.KernelRfl
import Derived.Orders
import Derived.MapKept
import Derived.Carry
import Derived.Laws.StructEq
import Derived.WalkKit
import Derived.Laws.Append
import Derived.Laws.OwnMore
import Derived.StillTailTactics
import Derived.Deep.AppendLies
import Derived.Deep.RegionHeld3
import Derived.Lib.LaidTab
import Derived.Shelf.LaysM
import Derived.Shelf.Strconv.Itoa3
import Derived.Shelf.Strconv.Quote
import Derived.Shelf.Strings.Builder1
import Derived.BigCall
import Derived.Shelf.Strings.BuilderF
import Derived.Shelf.Strings.BuilderK
import Derived.Lib.BufferKept
set_option linter.all false
set_option maxHeartbeats 4000000
namespace Go.Ey.Pr
open Go Go.Ey Go.Ey.Seat Go.RowKit Go.Proofs
section
variable {nat:Nat->List V->Option (List V)}
theorem ZT (ts:List Tm) (hl:ts.length < 10000) (ho:Al ts):∀(m k:Nat) (acc:List Tm),k+m=ts.length->acc.length<=10000+k->Al acc->
  bn (T nat).G 41 0 [.c (rows af ts),.c (ci k),.c (rows af acc)]=some ([.one (rows af ((ts.drop k).foldl gX acc))],[])
 |0,k,acc,hk,ha,hoc=>by
  have hlt:¬((k:Int) < (ts.length:Int)):=by omega
  rw [ai Kj (t:=t41.heads[0]) rfl,aA (by omega:¬k < ts.length)]
  simp [-Int.natCast_add,t41,zZ,hlt,aa]
 |m+1,k,acc,hk,ha,hoc=>by
  have hkr:k < ts.length:=by omega
  have hlt:((k:Int) < (ts.length:Int)):=by omega
  have hs:=ax k (by omega)
  have ht:=ho _ (A5 hkr);have h1:=vH acc ts[k];have ih:=ZT ts hl ho m (k+1) (gX acc ts[k]) (by omega) (by omega) (AO hoc ht)
  have hc:=x107 (nat:=nat) acc (by omega) hoc ts[k]
  have hap:=D8 (acc:=acc) (x:=ts[k]) (by omega)
  have Cb:=kR ts[k];rw [drop_at hkr,Hh,ai Kj (t:=t41.heads[0]) rfl];cases hb:inT acc ts[k] with
  |true=>
   have e:gX acc ts[k]=acc:=by simp [gX,hb]
   rw [hb] at hc;rw [e] at ih |-;simp [-Int.natCast_add,t41,zZ,hlt,aa,eH hkr,hc,hs,ih,ah]
  |false=>
   have e:gX acc ts[k]=acc++[ts[k]]:=by simp [gX,hb]
   rw [hb] at hc;rw [e] at ih |-;simp [-Int.natCast_add,t41,zZ,hlt,aa,eH hkr,hc,Cb,hap,hs,ih,ah]
theorem ap4 (c ts:List Tm) (hc:c.length < 10000) (hl:ts.length < 10000) (hk:Al c) (ho:Al ts):bz (T nat).G 41 [.v (.one (rows af c)),.v (.one (rows af ts))] []=some ([.one (rows af (ts.foldl gX c))],[]):=by
 have h:=ZT (nat:=nat) ts hl ho ts.length 0 c (by omega) (by omega) hk
 simp only [An,A6] at h;have hs:cZ .add false (ci c.length) (ci ts.length)=some (ci ((c.length+ts.length:Nat):Int)):=by rw [eO (by omega) (by omega)];simp
 have hmk:mkC 11 176 [.int .i64 0,.string ⟨#[]⟩,.string ⟨#[]⟩,.int .i64 0,.string ⟨#[]⟩,.string ⟨#[]⟩,.string ⟨#[]⟩,.string ⟨#[]⟩,.string ⟨#[]⟩,.slice none 0 0,.slice none 0 0] (ci 0) (ci ((c.length+ts.length:Nat):Int))=some cz:=by
  simp only [mkC,ci];rw [C4 ⟨by omega,by omega,by simp only [Is,aB];omega,by simp only [Is,aB];omega,rfl,by decide⟩]
  rfl
 have happ:iO 11 176 (rows af c) cz=some (rows af c):=fe ah (by decide) (by simp only [aB];omega) (by simp only [aB];omega)
 rw [aG Kj];simp only [t41];simp [-Int.natCast_add,zZ,aa,hs,hmk,happ,h]
theorem x75:∀(c:List Tm),c.length < 10000->bz (T nat).G 75 [.v (.one (rows af c))] []=some ([.agg (af (Ed c))],[])
 |[],_=>by have h1:=ah6 (nat:=nat);have h2:=x94 (nat:=nat) JK;rw [aG Yi];simp [t75,zZ,rows,h1,h2,Ed,bI,ah]
 |[t],_=>by
  have hr:eZ 11 (rows af [t]) (ci 0)=some (af t):=eH (ts:=[t]) (k:=0) (by simp)
  rw [aG Yi];simp [t75,zZ,aa,hr,Ed,ah]
 |t::u::ts,h=>by
  have ih:=x75 (u::ts) (by simpa using Nat.lt_of_succ_lt h)
  have hr:eZ 11 (rows af (t::u::ts)) (ci 0)=some (af t):=eH (ts:=t::u::ts) (k:=0) (by simp)
  have hz:(((t::u::ts).length:Int)==0)=false:=C1.2 (by simp only [Bm];omega)
  have h1:(((t::u::ts).length:Int)==1)=false:=C1.2 (by simp only [Bm];omega)
  have hs:ER 11 (some (ci 1)) none (rows af (t::u::ts))=some (rows af (u::ts)):=VM ah (l:=t::u::ts) (k:=1) (by simp)
  have hl:=kN t (.eG oT) (Ed (u::ts));have h2:=x52 (nat:=nat) ifB [t,.eG oT,Ed (u::ts)];have h95:=x95 (nat:=nat);have h94:=x94 (nat:=nat) oT;have ifK:(⟨#[105,102]⟩:ByteArray)=ifB:=rfl;rw [aG Yi,OH (List.cons_ne_nil _ _)];simp [-List.length_cons,t75,zZ,ifK,aa,hz,h1,hr,h95,h94,hs,ih,hl,h2,bI,ah]
theorem aoq (c:List Tm) (f:Tm) (cd:bH) (out:C) (i:Nat) (hi:i < cd.cases.length) (hts:∀t∈cd.cases[i].tests,PV (gZ t)) (hl:cd.cases[i].tests.length < 1000):∀(m j:Nat) (g:List Tm),j+m=cd.cases[i].tests.length->Al g->g.length<=j->
  bn (T nat).G 32 1 [.c (rows af c),.c (ci i),.c (rows af g),.c (ci j),.l (aj cd),.l (af f),.c out]=bn (T nat).G 32 2 [.c (rows af c),.c (ci i),.c (rows af (gT g (cd.cases[i].tests.drop j))),.c (ci 0),.l (aj cd),.l (af f),.c out]
 |0,j,g,hj,hg,hgl=>by
  have hlt:¬((j:Int) < (cd.cases[i].tests.length:Int)):=by omega
  have e14:=bX cd;rw [ai DU (t:=t32.heads[1]) rfl,aA (by omega:¬j < cd.cases[i].tests.length)]
  simp [-Int.natCast_add,t32,zZ,e14,og hi,hlt,aa,gT,ak,ah]
 |m+1,j,g,hj,hg,hgl=>by
  have hjr:j < cd.cases[i].tests.length:=by omega
  have hlt:((j:Int) < (cd.cases[i].tests.length:Int)):=by omega
  have hs:=ax j (by omega)
  have e14:=bX cd;have ho:=hts _ (A5 hjr);have h76:=x76 (nat:=nat) cd.cases[i].tests[j];have Cb:=kR (gZ cd.cases[i].tests[j]);have h41:=x41 (nat:=nat) g (by omega) hg (gZ cd.cases[i].tests[j])
  have ih:=aoq c f cd out i hi hts hl m (j+1) (gX g (gZ cd.cases[i].tests[j])) (by omega) (AO hg ho) (by have:=vH g (gZ cd.cases[i].tests[j]);omega)
  have e:gT g (cd.cases[i].tests.drop j)=gT (gX g (gZ cd.cases[i].tests[j])) (cd.cases[i].tests.drop (j+1)):=by rw [drop_at hjr];rfl
  rw [show rows af [gZ cd.cases[i].tests[j]]=.slice (af (gZ cd.cases[i].tests[j])) 1 by simp [rows]] at h41
  rw [e,<-ih]
  conv=>lhs;rw [ai DU (t:=t32.heads[1]) rfl]
  simp [-Int.natCast_add,t32,zZ,e14,og hi,hlt,aa,eH hjr,h76,Cb,h41,hs,ak,ah]
theorem apk (c:List Tm) (hc:c.length < 5000) (hcc:Al c) (f:Tm) (hf:av f<=3000) (cd:bH) (out:List (List Tm)) (ho:out.length < 90000) (i:Nat) (hi:i < cd.cases.length) (hi2:i < 90000) (hss:∀s∈cd.cases[i].subs,s.length < 100000/\PV (gZ (iY s f))) (hl:cd.cases[i].subs.length < 1000) (b:Nat) (hb:b < 1000):∀(m j:Nat) (g:List Tm),j+m=cd.cases[i].subs.length->Al g->g.length<=b+j->
  bn (T nat).G 32 2 [.c (rows af c),.c (ci i),.c (rows af g),.c (ci j),.l (aj cd),.l (af f),.c (rows vD out)]=bn (T nat).G 32 0 [.c (rows af c),.c (ci ((i+1:Nat):Int)),.l (aj cd),.l (af f),.c (rows vD (out++[c.foldl gX (gS f g (cd.cases[i].subs.drop j))]))]
 |0,j,g,hj,hg,hgl=>by
  have hlt:¬((j:Int) < (cd.cases[i].subs.length:Int)):=by omega
  have e14:=bX cd;have hs:=ax i (by omega)
  have h41:=ap4 (nat:=nat) g c (by omega) (by omega) hg hcc
  have hap:=appG (acc:=out) (g:=c.foldl gX g) (by omega)
  rw [ai DU (t:=t32.heads[2]) rfl,aA (by omega:¬j < cd.cases[i].subs.length)]
  simp [-Int.natCast_add,t32,zZ,e14,og hi,hlt,aa,gS,h41,ajr,hap,hs,ak,ah]
 |m+1,j,g,hj,hg,hgl=>by
  have hjr:j < cd.cases[i].subs.length:=by omega
  have hlt:((j:Int) < (cd.cases[i].subs.length:Int)):=by omega
  have hs:=ax j (by omega)
  have e14:=bX cd;have hq:=hss _ (A5 hjr);have h77:=x77 (nat:=nat) cd.cases[i].subs[j] hq.1 (av f) f (B9 _) hf;have h76:=x76 (nat:=nat) (iY cd.cases[i].subs[j] f);have Cb:=kR (gZ (iY cd.cases[i].subs[j] f));have h41:=ap4 (nat:=nat) g [gZ (iY cd.cases[i].subs[j] f)] (by omega) (by simp) hg (fun x hx=>by rw [By.1 hx];exact hq.2)
  have ih:=apk c hc hcc f hf cd out ho i hi hi2 hss hl b hb m (j+1) (gX g (gZ (iY cd.cases[i].subs[j] f))) (by omega) (AO hg hq.2) (by have:=vH g (gZ (iY cd.cases[i].subs[j] f));omega)
  have e:gS f g (cd.cases[i].subs.drop j)=gS f (gX g (gZ (iY cd.cases[i].subs[j] f))) (cd.cases[i].subs.drop (j+1)):=by rw [drop_at hjr];rfl
  rw [Pq,show rows af [gZ (iY cd.cases[i].subs[j] f)]=.slice (af (gZ (iY cd.cases[i].subs[j] f))) 1 by simp [rows]] at h41
  rw [e,<-ih]
  conv=>lhs;rw [ai DU (t:=t32.heads[2]) rfl]
  simp [-Int.natCast_add,t32,zZ,e14,og hi,hlt,aa,jk hjr,h77,h76,Cb,h41,hs,ak,ah]
theorem aaE (c:List Tm) (hc:c.length < 5000) (hcc:Al c) (f:Tm) (hf:av f<=3000) (cd:bH) (hks:cd.cases.length < 50000) (hk:∀k∈cd.cases,k.tests.length < 1000/\k.subs.length < 1000/\(∀t∈k.tests,PV (gZ t))/\∀s∈k.subs,s.length < 100000/\PV (gZ (iY s f))):∀(m i:Nat) (out:List (List Tm)),i+m=cd.cases.length->out.length=i->
  bn (T nat).G 32 0 [.c (rows af c),.c (ci i),.l (aj cd),.l (af f),.c (rows vD out)]=some ([.one (rows vD (out++(cd.cases.drop i).map (tu c f)))],[])
 |0,i,out,hi,ho=>by
  have hlt:¬((i:Int) < (cd.cases.length:Int)):=by omega
  have e14:=bX cd;rw [ai DU (t:=t32.heads[0]) rfl,aA (by omega:¬i < cd.cases.length)]
  simp [-Int.natCast_add,t32,zZ,e14,hlt,aa,ak,ah]
 |m+1,i,out,hi,ho=>by
  have hir:i < cd.cases.length:=by omega
  have hlt:((i:Int) < (cd.cases.length:Int)):=by omega
  have e14:=bX cd;obtain ⟨q1,q2,q3,q4⟩:=hk _ (A5 hir);obtain ⟨g1,g2⟩:=aaI cd.cases[i].tests [] q3 (fun x hx=>by cases hx)
  simp only [F2,E1] at g2;have h1:=aoq (nat:=nat) c f cd (rows vD out) i hir q3 q1 cd.cases[i].tests.length 0 [] (by omega) (fun x hx=>by cases hx) (by simp)
  have h2:=apk (nat:=nat) c hc hcc f hf cd out (by omega) i hir (by omega) q4 q2 cd.cases[i].tests.length (by omega) cd.cases[i].subs.length 0 (gT [] cd.cases[i].tests) (by omega) g1 (by omega)
  have ih:=aaE c hc hcc f hf cd hks hk m (i+1) (out++[tu c f cd.cases[i]]) (by omega) (by simp;omega)
  simp only [An,A6] at h1 h2;have e:out++(cd.cases.drop i).map (tu c f)=out++[tu c f cd.cases[i]]++(cd.cases.drop (i+1)).map (tu c f):=by rw [drop_at hir,Cp,Bk];rfl
  rw [show c.foldl gX (gS f (gT [] cd.cases[i].tests) cd.cases[i].subs)=tu c f cd.cases[i] from rfl,ih] at h2
  rw [h2] at h1;rw [e,ai DU (t:=t32.heads[0]) rfl];simp only [tO] at h1;simp [-Int.natCast_add,t32,zZ,e14,hlt,aa,h1,ak,ah]
theorem x32 (c:List Tm) (hc:c.length < 5000) (hcc:Al c) (hf:av (Ed c)<=3000) (cd:bH) (hks:cd.cases.length < 50000) (hk:∀k∈cd.cases,k.tests.length < 1000/\k.subs.length < 1000/\(∀t∈k.tests,PV (gZ t))/\∀s∈k.subs,s.length < 100000/\PV (gZ (iY s (Ed c)))):
  bz (T nat).G 32 [.v (.one (rows af c)),.v (.agg (aj cd))] []=some ([.one (rows vD (cd.cases.map (tu c (Ed c))))],[]):=by
 have h1:=x75 (nat:=nat) c (by omega)
 have h2:=aaE (nat:=nat) c hc hcc (Ed c) hf cd hks hk cd.cases.length 0 [] (by omega) rfl
 simp only [An,A6,tO,D4] at h2;rw [aG DU];simp [t32,zZ,h1,h2,ak,ah]
theorem afi (g:List Tm):(vD g).length=1:=rfl
theorem x30 (l:List (List Tm)) (hl:l.length < 100000) (h:∀g∈l,g.length < 100000/\∀t∈g,GA t):bz (T nat).G 30 [.v (.one (rows vD l)),.v (.one (rows vD l))] []=some yes:=by
 have hh:∀(m k:Nat),k+m=l.length->bn (T nat).G 30 0 [.c (rows vD l),.c (rows vD l),.c (ci k)]=some yes:=by
  intro m;induction m with
  |zero=>
   intro k hk;have hlt:¬((k:Int) < (l.length:Int)):=by omega
   rw [ai XR (t:=t30.heads[0]) rfl];simp [-Int.natCast_add,t30,zZ,hlt,aa,yes]
  |succ m ih=>
   intro k hk;have hkr:k < l.length:=by omega
   have hlt:((k:Int) < (l.length:Int)):=by omega
   have hs:=ax k (by omega)
   have ih:=ih (k+1) (by omega)
   have hg:=h _ (A5 hkr);have h47:=x47 (nat:=nat) l[k] hg.1 hg.2;have hr:eZ 1 (rows vD l) (ci k)=some [rows af l[k]]:=kg afi (Ax hkr);simp only [yes] at h47;rw [ai XR (t:=t30.heads[0]) rfl];simp [-Int.natCast_add,t30,zZ,hlt,aa,hr,h47,hs,ih]
 have h0:=hh l.length 0 (by omega)
 simp only [A6] at h0;rw [aG XR];simp [t30,zZ,aa,h0]
end
end Go.Ey.Pr
set_option maxHeartbeats 4000000
namespace Go.Ey.Pr
open Go Go.Ey Go.Ey.Seat Go.RowKit Go.Proofs
def oG {α:Type} (x:α) (i k:Nat):Nat->List α->List α
 |_,[]=>[]
 |j,c::l=>cond (decide (j=i)) (x::oG x i k (j+1) l) (cond (decide (j=k)) (oG x i k (j+1) l) (c::oG x i k (j+1) l))
def atN (p j:Nat) (l:List Nat):Nat:=cond (decide (j<=p)) ((l[p - j]?).getD 0) 0
theorem agU (p j:Nat):atN p j []=0:=by unfold atN;cases decide (j<=p)<;>simp
theorem V6 (p j n:Nat) (l:List Nat):atN p j (n::l)=cond (decide (p=j)) n (atN p (j+1) l):=by
 unfold atN;by_cases h:p=j
 ·subst h;simp
 ·by_cases h2:j<=p
  ·have e:p - j=(p - (j+1))+1:=by omega
   have h3:j+1<=p:=by omega
   simp [h,h2,h3,e]
  ·have h3:¬j+1<=p:=by omega
   simp [h,h2,h3]
theorem Wo (x i k:Nat) (hik:i≠k):∀(l:List Nat) (j:Nat),(oG x i k j l).sum+(atN i j l+atN k j l)<=l.sum+x/\(i < j->(oG x i k j l).sum+atN k j l<=l.sum)
 |[],j=>by simp [oG,agU]
 |n::l,j=>by
  obtain ⟨h1,h2⟩:=Wo x i k hik l (j+1);rw [oG,V6,V6];by_cases hi:j=i
  ·have hk:¬k=j:=by omega
   have h3:=h2 (by omega)
   subst hi;simp only [decide_true,Fi,hk,N6,E4,List.sum_cons];exact ⟨by omega,fun h=>absurd h (Nat.lt_irrefl _)⟩
  ·have hi':¬i=j:=fun e=>hi e.symm
   by_cases hk:j=k
   ·subst hk;simp only [hi,hi',decide_true,N6,Fi,E4,List.sum_cons];exact ⟨by omega,fun h=>by have:=h2 (by omega);omega⟩
   ·have hk':¬k=j:=fun e=>hk e.symm
    simp only [hi,hi',hk,hk',N6,E4,List.sum_cons];exact ⟨by omega,fun h=>by have:=h2 (by omega);omega⟩
theorem Vw {α:Type} (x:α) (i k:Nat) (hik:i≠k):∀(l:List α) (j:Nat),(oG x i k j l).length+cond (decide (j<=k/\k < j+l.length)) 1 0=l.length
 |[],j=>by
  have e:decide (j<=k/\k < j+([]:List α).length)=false:=by simp only [decide_eq_false_iff_not,F2];omega
  rw [e];rfl
 |c::l,j=>by
  have ih:=Vw x i k hik l (j+1);rw [oG];by_cases hi:j=i
  ·have e:decide (j<=k/\k < j+(c::l).length)=decide (j+1<=k/\k < j+1+l.length):=by
    rw [Hx];simp only [F1,Bm];omega
   rw [e,decide_eq_true hi];simp only [Fi,Bm] at ih |-;omega
  ·by_cases hk:j=k
   ·have e:decide (j<=k/\k < j+(c::l).length)=true:=by simp only [F1,Bm];omega
    have e2:decide (j+1<=k/\k < j+1+l.length)=false:=by simp only [decide_eq_false_iff_not];omega
    rw [e2] at ih;rw [e,decide_eq_false hi,decide_eq_true hk];simp only [Fi,E4,Bm] at ih |-;omega
   ·have e:decide (j<=k/\k < j+(c::l).length)=decide (j+1<=k/\k < j+1+l.length):=by
     rw [Hx];simp only [F1,Bm];omega
    rw [e,decide_eq_false hi,decide_eq_false hk];simp only [E4,Bm] at ih |-;omega
theorem Ww {α β:Type} {R:α->β->Prop} {x:α} {y:β} (i k:Nat) (hx:R x y):∀(l:List α) (m:List β) (j:Nat),Ey.aF R l m->Ey.aF R (oG x i k j l) (oG y i k j m)
 |[],[],_,_=>trivial
 |c::l,d::m,j,h=>by
  have ih:=Ww i k hx l m (j+1) h.2;rw [oG,oG];cases decide (j=i) with
  |true=>exact ⟨hx,ih⟩
  |false=>
   cases decide (j=k) with
   |true=>exact ih
   |false=>exact ⟨h.1,ih⟩
 |[],_::_,_,h=>h.elim
 |_::_,[],_,h=>h.elim
def LW (l:List bH):Prop:=l.length<=100/\∃ws:List Nat,Ey.aF (fun c n=>okW n c) l ws/\ws.sum<=10000
theorem aaL:∀{l:List Nat} {i:Nat} (hi:i < l.length),l[i]<=l.sum
 |n::l,0,_=>by simp
 |n::l,i+1,h=>by
  have:=aaL (l:=l) (i:=i) (by simpa using h)
  simp only [List.getElem_cons_succ,List.sum_cons];omega
theorem LW.at {l:List bH} (h:LW l) {i:Nat} (hi:i < l.length):okW 10000 l[i]:=by
 obtain ⟨_,ws,h1,h2⟩:=h;have hl:=h1.len;obtain ⟨n,hn,hw⟩:=h1.get i (Ax hi);obtain ⟨hi2,rfl⟩:=B0.1 hn;have:=aaL hi2
 exact okW.mono (by omega) hw
where
 okW.mono {n m:Nat} {c:bH} (h:n<=m) (hw:okW n c):okW m c:=⟨Dg hw.ca h,Dg hw.ch h,Dg hw.fx h,Dg hw.sc h,hw.kl,fun x hx=>⟨(hw.ks x hx).tl,(hw.ks x hx).sl,fun s hs=>⟨Dg ((hw.ks x hx).ok s hs).1 h,((hw.ks x hx).ok s hs).2⟩,(hw.ks x hx).ts⟩,hw.co,hw.mo⟩
theorem LW.out {l:List bH} (h:LW l) {i k:Nat} (hi:i < l.length) (hk:k < l.length) (hik:i≠k) {x:bH} (hx:∀n m,okW n l[i]->okW m l[k]->okW (n+m) x):LW (oG x i k 0 l)/\(oG x i k 0 l).length+1=l.length:=by
 obtain ⟨h0,ws,h1,h2⟩:=h;have hl:=h1.len;obtain ⟨n,hn,hw⟩:=h1.get i (Ax hi);obtain ⟨hi2,rfl⟩:=B0.1 hn;obtain ⟨m,hm,hv⟩:=h1.get k (Ax hk);obtain ⟨hk2,rfl⟩:=B0.1 hm;have h3:=Ww (R:=fun c n=>okW n c) i k (hx _ _ hw hv) l ws 0 h1
 have h4:=(Wo (ws[i]+ws[k]) i k hik ws 0).1;have e:∀p,(hp:p < ws.length)->atN p 0 ws=ws[p]:=fun p hp=>by simp [atN,hp]
 rw [e i hi2,e k hk2] at h4;have h5:=Vw x i k hik l 0;have e5:decide (0<=k/\k < 0+l.length)=true:=by simp only [F1];omega
 rw [e5,Fi] at h5;exact ⟨⟨by omega,_,h3,by omega⟩,h5⟩
theorem LW.of {l:List bH} (h:l.length<=100) (hw:∀c∈l,okW 100 c):LW l:=by
 refine ⟨h,l.map fun _=>100,?_,?_⟩
 ·clear h;induction l with
  |nil=>trivial
  |cons c l ih=>exact ⟨hw c Fm,ih fun c hc=>hw c (E2 _ hc)⟩
 ·have:∀l:List bH,(l.map fun _=>100).sum=l.length * 100:=fun l=>by
   induction l with
   |nil=>rfl
   |cons c l ih=>simp only [Cp,List.sum_cons,ih,Bm];omega
  rw [this];omega
section
variable {nat:Nat->List V->Option (List V)}
theorem VB (a b:List cB) (i:Nat) (hi:i < a.length) (ha:a.length < 100000) (hb:b.length < 100000) (hok:Ac a):∀(m k:Nat),k+m=b.length->
  bn (T nat).G 61 1 [.c (rows bu a),.c (rows bu b),.c (ci i),.c (ci k)]=cond (dV a[i] (b.drop k)) (bn (T nat).G 61 0 [.c (rows bu a),.c (rows bu b),.c (ci ((i+1:Nat):Int))]) (some ([.one (cb false)],[]))
 |0,k,hk=>by
  have hlt:¬((k:Int) < (b.length:Int)):=by omega
  have hsi:=ax i (by omega)
  rw [ai AJ (t:=t61.heads[1]) rfl,aA (by omega:¬k < b.length)]
  simp [-Int.natCast_add,t61,zZ,hlt,dV,hsi,aa]
 |m+1,k,hk=>by
  have hkr:k < b.length:=by omega
  have hlt:((k:Int) < (b.length:Int)):=by omega
  have hsk:=ax k (by omega)
  have ih:=VB a b i hi ha hb hok m (k+1) (by omega)
  have he:wh [1,1] false [cs a[i].v.1,cs a[i].v.2] [cs b[k].v.1,cs b[k].v.2]=some (cb (jY a[i].v b[k].v)):=jX false _ _ _ _;have hoa:=hok a[i] (A5 hi);have CY:=ZZ (nat:=nat) hoa.1 hoa.2 b[k].t;have n1:=kJ a[i].t;have n2:=kJ b[k].t;have hd:dV a[i] (b.drop k)=(!(jY a[i].v b[k].v && !jb a[i].t b[k].t) && dV a[i] (b.drop (k+1))):=by rw [drop_at hkr];rfl
  rw [hd,ai AJ (t:=t61.heads[1]) rfl];cases hq:jY a[i].v b[k].v with
  |false=>
   rw [hq] at he;simp [-Int.natCast_add,t61,zZ,hlt,aa,fE hi,fE hkr,he,hsk,ih,ah]
  |true=>
   rw [hq] at he;cases hq2:jb a[i].t b[k].t<;>rw [hq2] at CY<;>
    simp [-Int.natCast_add,t61,zZ,hlt,aa,fE hi,fE hkr,he,hsk,n1,n2,CY,ih,ah]
theorem IE (a b:List cB) (ha:a.length < 100000) (hb:b.length < 100000) (hok:Ac a):∀(m k:Nat),k+m=a.length->
  bn (T nat).G 61 0 [.c (rows bu a),.c (rows bu b),.c (ci k)]=some ([.one (cb ((a.drop k).all fun x=>dV x b))],[])
 |0,k,hk=>by
  have hlt:¬((k:Int) < (a.length:Int)):=by omega
  rw [ai AJ (t:=t61.heads[0]) rfl,aA (by omega:¬k < a.length)]
  simp [-Int.natCast_add,t61,zZ,hlt,aa]
 |m+1,k,hk=>by
  have hkr:k < a.length:=by omega
  have hlt:((k:Int) < (a.length:Int)):=by omega
  have ih:=IE a b ha hb hok m (k+1) (by omega)
  have h1:=VB (nat:=nat) a b k hkr ha hb hok b.length 0 (by omega)
  simp only [An,A6] at h1;have hd:((a.drop k).all fun x=>dV x b)=(dV a[k] b && (a.drop (k+1)).all fun x=>dV x b):=by rw [drop_at hkr];rfl
  rw [hd,ai AJ (t:=t61.heads[0]) rfl];cases hq:dV a[k] b<;>rw [hq] at h1<;>simp [-Int.natCast_add,t61,zZ,hlt,aa,h1,ih]
theorem x61 (a b:List cB) (ha:a.length < 100000) (hb:b.length < 100000) (hok:Ac a):bz (T nat).G 61 [.v (.one (rows bu a)),.v (.one (rows bu b))] []=some ([.one (cb (agree a b))],[]):=by
 have h:=IE (nat:=nat) a b ha hb hok a.length 0 (by omega)
 simp only [An,A6] at h;rw [aG AJ,JW];simp [t61,zZ,h]
theorem JP (s:List cB) (hm:s.length < 1000000) (v:bq):∀(m k:Nat),k+m=s.length->
  bn (T nat).G 62 0 [.c (rows bu s),.c (ci k),.l (bW v)]=some ([.one (cb ((s.drop k).any fun x=>jY x.v v))],[])
 |0,k,hk=>by
  have hlt:¬((k:Int) < (s.length:Int)):=by omega
  rw [ai Iw (t:=t62.heads[0]) rfl,aA (by omega:¬k < s.length)]
  simp [-Int.natCast_add,t62,zZ,hlt,aa]
 |m+1,k,hk=>by
  have hkr:k < s.length:=by omega
  have hlt:((k:Int) < (s.length:Int)):=by omega
  have hs:=ax k (by omega)
  have ih:=JP s hm v m (k+1) (by omega)
  have he:wh [1,1] false [cs s[k].v.1,cs s[k].v.2] [cs v.1,cs v.2]=some (cb (jY s[k].v v)):=jX false _ _ _ _;have hd:((s.drop k).any fun x=>jY x.v v)=(jY s[k].v v||(s.drop (k+1)).any fun x=>jY x.v v):=by rw [drop_at hkr];rfl
  simp only [bW] at ih |-;rw [hd,ai Iw (t:=t62.heads[0]) rfl];cases hq:jY s[k].v v<;>rw [hq] at he<;>simp [-Int.natCast_add,t62,zZ,hlt,aa,fE hkr,he,hs,ih]
theorem x62 (s:List cB) (hm:s.length < 1000000) (v:bq):bz (T nat).G 62 [.v (.one (rows bu s)),.v (.agg [cs v.1,cs v.2])] []=some ([.one (cb (s.any fun x=>jY x.v v))],[]):=by
 have h:=JP (nat:=nat) s hm v s.length 0 (by omega)
 simp only [An,A6,bW] at h;rw [aG Iw];simp [t62,zZ,h]
theorem Dz (b:List bq) (hb:b.length < 50000):∀(m k:Nat) (acc:List bq),k+m=b.length->acc.length+m < 100000->
  bn (T nat).G 60 0 [.c (rows bW b),.c (ci k),.c (rows bW acc)]=some ([.one (rows bW (dX acc (b.drop k)))],[])
 |0,k,acc,hk,ha=>by
  have hlt:¬((k:Int) < (b.length:Int)):=by omega
  rw [ai Hz (t:=t60.heads[0]) rfl,aA (by omega:¬k < b.length)]
  simp [-Int.natCast_add,t60,zZ,hlt,aa,dX]
 |m+1,k,acc,hk,ha=>by
  have hkr:k < b.length:=by omega
  have hlt:((k:Int) < (b.length:Int)):=by omega
  have hs:=ax k (by omega)
  have hr:eZ 2 (rows bW b) (ci k)=some [cs b[k].1,cs b[k].2]:=kC hkr;have h1:=x65 (nat:=nat) acc (by omega) b[k]
  have hl2:fq 2 1 [cs b[k].1,cs b[k].2]=some (.slice (bW b[k]) 1):=Fq _ _;have ha2:=qm (acc:=acc) (x:=b[k]) (by omega)
  simp only [bW] at h1;rw [drop_at hkr,dX,oM,ai Hz (t:=t60.heads[0]) rfl];cases hq:kF acc b[k] with
  |true=>
   rw [hq] at h1;have ih:=Dz b hb m (k+1) acc (by omega) (by omega)
   simp [-Int.natCast_add,t60,zZ,hlt,aa,hr,h1,hs,ih]
  |false=>
   rw [hq] at h1;have ih:=Dz b hb m (k+1) (acc++[b[k]]) (by omega) (by simp;omega)
   simp [-Int.natCast_add,t60,zZ,hlt,aa,hr,h1,hl2,ha2,hs,ih]
theorem x60 (a b:List bq) (ha:a.length < 50000) (hb:b.length < 50000):bz (T nat).G 60 [.v (.one (rows bW a)),.v (.one (rows bW b))] []=some ([.one (rows bW (dX a b))],[]):=by
 have h:=Dz (nat:=nat) b hb b.length 0 a (by omega) (by omega)
 have hz:iO 2 32 (rows bW a) cz=some (rows bW a):=fe jw (by decide) (by simp only [aB];omega) (by simp only [aB];omega)
 simp only [An,A6] at h;rw [aG Hz];simp [t60,zZ,hz,h]
end
def q0 (a b:bH) (i:Nat) (out:List Cs):List W:=.c (ci i):: .l (aj a):: .l (aj b)::dG (mw a b [.c (rows af (a.calls++b.calls)),.c (rows aQ out)])
def Ci (a b:bH) (i k:Nat) (x y:Cs) (r:List W):List W:=.c (ci i):: .c (ci k):: .l (aj a):: .l (aj b)::dG (mw a b (.l (aQ x):: .l (aQ y)::r))
def Qm (a b:bH) (i k j:Nat) (x y:Cs) (r:List W):List W:=.c (ci i):: .c (ci k):: .c (ci j):: .l (aj a):: .l (aj b)::dG (mw a b (.l (aQ x):: .l (aQ y)::r))
theorem xz (s:List cB) (q:cB) (y:List cB):jg s (q::y)=jg (cond (s.any fun x=>jY x.v q.v) s (s++[q])) y:=by rw [jg];simp only [BN];cases s.any fun x=>jY x.v q.v<;>rfl
theorem A9 (s:List cB):jg s []=s:=by rw [jg]
section
variable {nat:Nat->List V->Option (List V)}
theorem UX (a b:bH) (i k:Nat) (hk:k < 100000) (x y:Cs) (out:List Cs) (acc:List (List cB)) (hac:acc.length < 100000) (oC:k < y.subs.length) (hy:y.subs[k].length < 100000):∀(m j:Nat) (s:List cB),j+m=y.subs[k].length->s.length+m < 300000->
  bn (T nat).G 25 5 (Qm a b i k j x y [.c (rows encS acc),.c (rows bu s),.c (rows af (a.calls++b.calls)),.c (rows aQ out),.c (rows af x.tests)])=
  bn (T nat).G 25 2 (Ci a b i (k+1) x y [.c (rows af (a.calls++b.calls)),.c (rows aQ out),.c (rows af x.tests),.c (rows encS (acc++[jg s (y.subs[k].drop j)]))])
 |0,j,s,hj,hsl=>by
  have hlt:¬((j:Int) < (y.subs[k].length:Int)):=by omega
  have hsk:=ax k (by omega)
  have hl1:=F7 s;have ha1:=L9 (acc:=acc) (x:=s) (by omega)
  have e2:au (aQ y) 1=rows encS y.subs:=rfl;rw [ai iq (t:=t25.heads[5]) rfl,aA (by omega:¬j < y.subs[k].length),A9]
  simp [-Int.natCast_add,Ci,Qm,t25,zZ,hlt,e2,jk oC,aa,hsk,hl1,ha1,ak,bM]
 |m+1,j,s,hj,hsl=>by
  have hjq:j < y.subs[k].length:=by omega
  have hlt:((j:Int) < (y.subs[k].length:Int)):=by omega
  have hsj:=ax j (by omega)
  have e2:au (aQ y) 1=rows encS y.subs:=rfl;have h62:=x62 (nat:=nat) s (by omega) y.subs[k][j].v
  have ih:=UX a b i k hk x y out acc hac oC hy m (j+1) (cond (s.any fun x=>jY x.v y.subs[k][j].v) s (s++[y.subs[k][j]])) (by omega) (by cases s.any fun x=>jY x.v y.subs[k][j].v<;>simp<;>omega)
  have om:=rJ y.subs[k][j].v y.subs[k][j].t;have ni:=AA (acc:=s) (x:=y.subs[k][j]) (by omega)
  simp only [bu] at ni om;rw [drop_at hjq,xz,ai iq (t:=t25.heads[5]) rfl];cases hq:s.any fun x=>jY x.v y.subs[k][j].v<;>rw [hq] at h62 ih<;>simp only [Ci,Qm,dG,mw,Fi,E4] at ih<;>
   simp [-Int.natCast_add,Ci,Qm,t25,zZ,hlt,e2,jk oC,fE hjq,aa,h62,hsj,om,ni,ih,bu,ak,bM,ah]
theorem UW (a b:bH) (i k:Nat) (hk:k < 100000) (x y:Cs) (out:List Cs) (acc:List (List cB)) (hac:acc.length < 100000) (oC:k < y.subs.length) (hy:y.subs[k].length < 100000):∀(m j:Nat) (s:List cB),j+m=y.subs[k].length->s.length+m < 300000->
  bn (T nat).G 25 3 (Qm a b i k j x y [.c (rows bu s),.c (rows af (a.calls++b.calls)),.c (rows aQ out),.c (rows af x.tests),.c (rows encS acc)])=
  bn (T nat).G 25 2 (Ci a b i (k+1) x y [.c (rows af (a.calls++b.calls)),.c (rows aQ out),.c (rows af x.tests),.c (rows encS (acc++[jg s (y.subs[k].drop j)]))])
 |0,j,s,hj,hsl=>by
  have hlt:¬((j:Int) < (y.subs[k].length:Int)):=by omega
  have hsk:=ax k (by omega)
  have hl1:=F7 s;have ha1:=L9 (acc:=acc) (x:=s) (by omega)
  have e2:au (aQ y) 1=rows encS y.subs:=rfl;rw [ai iq (t:=t25.heads[3]) rfl,aA (by omega:¬j < y.subs[k].length),A9]
  simp [-Int.natCast_add,Ci,Qm,t25,zZ,hlt,e2,jk oC,aa,hsk,hl1,ha1,ak,bM]
 |m+1,j,s,hj,hsl=>by
  have hjq:j < y.subs[k].length:=by omega
  have hlt:((j:Int) < (y.subs[k].length:Int)):=by omega
  have hsj:=ax j (by omega)
  have e2:au (aQ y) 1=rows encS y.subs:=rfl;have h62:=x62 (nat:=nat) s (by omega) y.subs[k][j].v
  have ih:=UW a b i k hk x y out acc hac oC hy m (j+1) (cond (s.any fun x=>jY x.v y.subs[k][j].v) s (s++[y.subs[k][j]])) (by omega) (by cases s.any fun x=>jY x.v y.subs[k][j].v<;>simp<;>omega)
  have om:=rJ y.subs[k][j].v y.subs[k][j].t;have ni:=AA (acc:=s) (x:=y.subs[k][j]) (by omega)
  simp only [bu] at ni om;rw [drop_at hjq,xz,ai iq (t:=t25.heads[3]) rfl];cases hq:s.any fun x=>jY x.v y.subs[k][j].v<;>rw [hq] at h62 ih<;>simp only [Ci,Qm,dG,mw,Fi,E4] at ih<;>
   simp [-Int.natCast_add,Ci,Qm,t25,zZ,hlt,e2,jk oC,fE hjq,aa,h62,hsj,om,ni,ih,bu,ak,bM,ah]
def ndS (y:Cs):Prop:=∀s∈y.subs,(s.map cB.v).Nodup
theorem acM (a b:bH) (i:Nat) (hi:i < 100000) (x y:Cs) (hx:iK x) (hy:iK y) (hn:ndS y) (hl:x.subs.length=y.subs.length) (out:List Cs) (ho:out.length < 100000):∀(m k:Nat) (acc:List (List cB)),k+m=x.subs.length->acc.length<=k->
  bn (T nat).G 25 2 (Ci a b i k x y [.c (rows af (a.calls++b.calls)),.c (rows aQ out),.c (rows af x.tests),.c (rows encS acc)])=
  cond (uj (x.subs.drop k) (y.subs.drop k)) (bn (T nat).G 25 0 (q0 a b (i+1) (out++[⟨x.tests,acc++ko (x.subs.drop k) (y.subs.drop k)⟩]))) (some (bT,[]))
 |0,k,acc,hk,hac=>by
  have hlt:¬((k:Int) < (x.subs.length:Int)):=by omega
  have hsi:=ax i (by omega)
  have hl2:=KH x.tests acc;have ha2:=Mg (acc:=out) (x:=⟨x.tests,acc⟩) (by omega)
  have e1:au (aQ x) 1=rows encS x.subs:=rfl;rw [ai iq (t:=t25.heads[2]) rfl,aA (by omega:¬k < x.subs.length)]
  simp [-Int.natCast_add,Ci,q0,t25,zZ,hlt,e1,aa,hsi,hl2,ha2,uj,ko,ak,bM]
 |m+1,k,acc,hk,hac=>by
  have hkx:k < x.subs.length:=by omega
  have oC:k < y.subs.length:=by omega
  have hlt:((k:Int) < (x.subs.length:Int)):=by omega
  have hxl:=hx.sl;have e1:au (aQ x) 1=rows encS x.subs:=rfl;have e2:au (aQ y) 1=rows encS y.subs:=rfl;have hxo:=hx.ok _ (A5 hkx);have Jr:=hy.ok _ (A5 oC);have hz:iO 13 208 (rows bu x.subs[k]) cz=some (rows bu x.subs[k]):=fe mg (by decide) (by simp only [aB];omega) (by simp only [aB];omega)
  have YA:=x61 (nat:=nat) x.subs[k] y.subs[k] hxo.1 Jr.1 hxo.2;have h3:=UW (nat:=nat) a b i k (by omega) x y out acc (by omega) oC Jr.1 y.subs[k].length 0 x.subs[k] (by omega) (by omega)
  have ih:=acM a b i hi x y hx hy hn hl out ho m (k+1) (acc++[gY x.subs[k] y.subs[k]]) (by omega) (by simp;omega)
  simp only [An,Cw _ (hn _ (A5 oC)),A6,Qm] at h3;rw [ih] at h3;rw [drop_at hkx,drop_at oC,uj,ko];rw [show acc++gY x.subs[k] y.subs[k]::ko (x.subs.drop (k+1)) (y.subs.drop (k+1))=acc++[gY x.subs[k] y.subs[k]]++ko (x.subs.drop (k+1)) (y.subs.drop (k+1)) by simp]
  rw [ai iq (t:=t25.heads[2]) rfl];cases hq:agree x.subs[k] y.subs[k]<;>rw [hq] at YA
  ·simp [-Int.natCast_add,Ci,t25,zZ,hlt,e1,e2,jk hkx,jk oC,YA,aa,bT,ak,bM]
  ·simp only [dG,mw] at h3;simp [-Int.natCast_add,Ci,t25,zZ,hlt,e1,e2,jk hkx,jk oC,YA,hz,h3,aa,ak,bM]
theorem akW (a b:bH) (i:Nat) (hi:i < 100000) (x y:Cs) (hx:iK x) (hy:iK y) (hn:ndS y) (hl:x.subs.length=y.subs.length) (out:List Cs) (ho:out.length < 100000) (k:Nat):
  bn (T nat).G 25 4 (Ci a b i k x y [.c cz,.c (rows af (a.calls++b.calls)),.c (rows aQ out),.c (rows af x.tests)])=
  cond (uj (x.subs.drop k) (y.subs.drop k)) (bn (T nat).G 25 0 (q0 a b (i+1) (out++[⟨x.tests,ko (x.subs.drop k) (y.subs.drop k)⟩]))) (some (bT,[])):=by
 have e1:au (aQ x) 1=rows encS x.subs:=rfl;have e2:au (aQ y) 1=rows encS y.subs:=rfl;have hsi:=ax i (by omega)
 have es:rows encS []=cz:=rfl;by_cases h0:k < x.subs.length
 ·have oC:k < y.subs.length:=by omega
  have hlt:((k:Int) < (x.subs.length:Int)):=by omega
  have hxl:=hx.sl;have hxo:=hx.ok _ (A5 h0);have Jr:=hy.ok _ (A5 oC);have hz:iO 13 208 (rows bu x.subs[k]) cz=some (rows bu x.subs[k]):=fe mg (by decide) (by simp only [aB];omega) (by simp only [aB];omega)
  have YA:=x61 (nat:=nat) x.subs[k] y.subs[k] hxo.1 Jr.1 hxo.2;have h3:=UX (nat:=nat) a b i k (by omega) x y out [] (by simp) oC Jr.1 y.subs[k].length 0 x.subs[k] (by omega) (by omega)
  have ih:=acM (nat:=nat) a b i hi x y hx hy hn hl out ho (x.subs.length - (k+1)) (k+1) [gY x.subs[k] y.subs[k]] (by omega) (by simp)
  simp only [An,Cw _ (hn _ (A5 oC)),A6,Qm,D4,es] at h3;rw [ih] at h3;rw [drop_at h0,drop_at oC,uj,ko];rw [show gY x.subs[k] y.subs[k]::ko (x.subs.drop (k+1)) (y.subs.drop (k+1))=[gY x.subs[k] y.subs[k]]++ko (x.subs.drop (k+1)) (y.subs.drop (k+1)) by simp]
  rw [ai iq (t:=t25.heads[4]) rfl];cases hq:agree x.subs[k] y.subs[k]<;>rw [hq] at YA
  ·simp [-Int.natCast_add,Ci,t25,zZ,hlt,e1,e2,jk h0,jk oC,YA,aa,bT,ak,bM]
  ·simp only [dG,mw] at h3;simp [-Int.natCast_add,-List.cons_append,Ci,t25,zZ,hlt,e1,e2,jk h0,jk oC,YA,hz,h3,aa,ak,bM]
 ·have hlt:¬((k:Int) < (x.subs.length:Int)):=by omega
  have hl2:=Zi x.tests;have ha2:=Mg (acc:=out) (x:=⟨x.tests,[]⟩) (by omega)
  rw [ai iq (t:=t25.heads[4]) rfl,aA (by omega:¬k < x.subs.length)]
  simp [-Int.natCast_add,Ci,q0,t25,zZ,hlt,e1,aa,hsi,hl2,ha2,uj,ko,ak,bM]
theorem aft (a b:bH) (i:Nat) (x y:Cs) (hx:iK x) (hl:x.tests.length=y.tests.length) (out:List Cs):∀(m k:Nat),k+m=x.tests.length->
  bn (T nat).G 25 1 (Ci a b i k x y [.c cz,.c (rows af (a.calls++b.calls)),.c (rows aQ out),.c (rows af x.tests)])=
  cond (jv (x.tests.drop k) (y.tests.drop k)) (bn (T nat).G 25 4 (Ci a b i 0 x y [.c cz,.c (rows af (a.calls++b.calls)),.c (rows aQ out),.c (rows af x.tests)])) (some (bT,[]))
 |0,k,hk=>by
  have hlt:¬((k:Int) < (x.tests.length:Int)):=by omega
  have e1:au (aQ x) 0=rows af x.tests:=rfl;rw [ai iq (t:=t25.heads[1]) rfl,aA (by omega:¬k < x.tests.length),aA (by omega:¬k < y.tests.length)]
  simp [-Int.natCast_add,Ci,t25,zZ,hlt,e1,aa,jv,ak,bM]
 |m+1,k,hk=>by
  have hkx:k < x.tests.length:=by omega
  have oC:k < y.tests.length:=by omega
  have hlt:((k:Int) < (x.tests.length:Int)):=by omega
  have htl:=hx.tl;have hs:=ax k (by omega)
  have e1:au (aQ x) 0=rows af x.tests:=rfl;have e2:au (aQ y) 0=rows af y.tests:=rfl;have hoa:=hx.ts _ (A5 hkx);have CY:=ZZ (nat:=nat) hoa.g hoa y.tests[k];have ih:=aft a b i x y hx hl out m (k+1) (by omega)
  rw [drop_at hkx,drop_at oC,jv];simp only [Ci,dG,mw] at ih |-;rw [ai iq (t:=t25.heads[1]) rfl];cases hq:jb x.tests[k] y.tests[k]<;>rw [hq] at CY<;>simp [-Int.natCast_add,t25,zZ,hlt,e1,e2,eH hkx,eH oC,CY,hs,ih,aa,bT,ak,bM,ah]
theorem J5 (a b:bH) (h:okM a b) (hn:∀y∈b.cases,ndS y):∀(m i:Nat) (out:List Cs),i+m=a.cases.length->out.length<=i->
  bn (T nat).G 25 0 (q0 a b i out)=cond (rq (a.cases.drop i) (b.cases.drop i)) (some ([.agg (aj (GK a b (out++uh (a.cases.drop i) (b.cases.drop i)))),.one (cb true)],[])) (some (bT,[]))
 |0,i,out,hi,ho=>by
  have hlt:¬((i:Int) < (a.cases.length:Int)):=by omega
  have hm:=OE a;have ea:=bX a;have e:aj (GK a b out)=rows af (a.calls++b.calls)::rows bW (dX a.changed b.changed)::rows bW (dX a.fixed b.fixed)::([au (aj a) 3,au (aj a) 4,au (aj a) 5,au (aj a) 6,au (aj a) 7,au (aj a) 8,au (aj a) 9,au (aj a) 10,au (aj a) 11,au (aj a) 12,au (aj a) 13]++[rows aQ out,ci ((a.score:Int)+b.score)]):=by rw [hm];simp [aj,GK]
  rw [ai iq (t:=t25.heads[0]) rfl,aA (by omega:¬i < a.cases.length)]
  simp [-Int.natCast_add,q0,t25,zZ,hlt,ea,aa,rq,uh,e,ak]
 |m+1,i,out,hi,ho=>by
  have hia:i < a.cases.length:=by omega
  have hib:i < b.cases.length:=by have:=h.len;omega
  have hlt:((i:Int) < (a.cases.length:Int)):=by omega
  have hkl:=h.oa.kl;have hx:=h.oa.ks _ (A5 hia);have hy:=h.ob.ks _ (A5 hib);have hra:=og hia;have hrb:=og hib;have ea:=bX a;have eb:=bX b;have htl:=hx.tl;have hz:iO 11 176 (rows af a.cases[i].tests) cz=some (rows af a.cases[i].tests):=fe ah (by decide) (by simp only [aB];omega) (by simp only [aB];omega)
  have ih:=J5 a b h hn m (i+1) (out++[Uu a.cases[i] b.cases[i]]) (by omega) (by simp;omega)
  rw [drop_at hia,drop_at hib,rq,uh,ok2];rw [show out++Uu a.cases[i] b.cases[i]::uh (a.cases.drop (i+1)) (b.cases.drop (i+1))=out++[Uu a.cases[i] b.cases[i]]++uh (a.cases.drop (i+1)) (b.cases.drop (i+1)) by simp]
  rw [ai iq (t:=t25.heads[0]) rfl];by_cases ht:a.cases[i].tests.length=b.cases[i].tests.length
  ·by_cases hl:a.cases[i].subs.length=b.cases[i].subs.length
   ·have h1:=aft (nat:=nat) a b i a.cases[i] b.cases[i] hx ht out a.cases[i].tests.length 0 (by omega)
    have h4:=akW (nat:=nat) a b i (by omega) a.cases[i] b.cases[i] hx hy (hn _ (A5 hib)) hl out (by omega) 0
    simp only [An] at h4;rw [show (⟨a.cases[i].tests,ko a.cases[i].subs b.cases[i].subs⟩:Cs)=Uu a.cases[i] b.cases[i] from rfl,ih] at h4
    simp only [An] at h1;rw [h4] at h1;have hle:((a.cases[i].tests.length:Int)=(b.cases[i].tests.length:Int)):=by omega
    simp only [Ci,dG,mw,aQ,A6] at h1;cases hq:jv a.cases[i].tests b.cases[i].tests<;>cases hq2:uj a.cases[i].subs b.cases[i].subs<;>rw [hq,hq2] at h1<;>
     simp [-Int.natCast_add,q0,t25,zZ,hlt,ea,eb,hra,hrb,aa,<-ht,<-hl,hz,h1,bT,ak]
   ·have hle:((a.cases[i].subs.length:Int)==(b.cases[i].subs.length:Int))=false:=C1.2 (by omega)
    simp [-Int.natCast_add,q0,t25,zZ,hlt,ea,eb,hra,hrb,aa,<-ht,hle,hl,bT,ak]
  ·have hle:((a.cases[i].tests.length:Int)==(b.cases[i].tests.length:Int))=false:=C1.2 (by omega)
   simp [-Int.natCast_add,q0,t25,zZ,hlt,ea,eb,hra,hrb,aa,hle,Av ht,bT,ak]
theorem x25 (a b:bH) (ha:kU a) (hb:kU b) (sa:a.score < 100000) (sb:b.score < 100000) (hch:a.changed.length < 50000/\b.changed.length < 50000) (hfx:a.fixed.length < 50000/\b.fixed.length < 50000) (hca:a.calls.length < 50000/\b.calls.length < 50000) (hn:∀y∈b.cases,ndS y):
  bz (T nat).G 25 [.v (.agg (aj a)),.v (.agg (aj b))] []=some ((match merge a b with|none=>bT|some c=>[.agg (aj c),.one (cb true)]),[]):=by
 have h1:=x59 (nat:=nat) a.changed b.changed ha.ch hb.ch;have h2:=x59 (nat:=nat) a.changed b.fixed ha.ch hb.fx;have h3:=x59 (nat:=nat) b.changed a.fixed hb.ch ha.fx;have ea:=bX a;have eb:=bX b;have hz:iO 11 176 (rows af a.calls) cz=some (rows af a.calls):=fe ah (by decide) (by simp only [aB];omega) (by simp only [aB];omega)
 have hab:iO 11 176 (rows af b.calls) (rows af a.calls)=some (rows af (a.calls++b.calls)):=oD ah (by decide) (by simp only [aB];omega) (by simp only [aB];omega)
 have hc:=x60 (nat:=nat) a.changed b.changed hch.1 hch.2;have hf:=x60 (nat:=nat) a.fixed b.fixed hfx.1 hfx.2;have hsc:cZ .add false (ci a.score) (ci b.score)=some (ci ((a.score:Int)+b.score)):=eO (by omega) (by omega)
 rw [si] at h1 h2 h3;rw [aG iq,merge,xe];cases hq1:apart a.changed b.changed<;>rw [hq1] at h1
 ·cases hq2:apart a.changed b.fixed<;>rw [hq2] at h2
  ·simp [t25,zZ,dU,fu,h1,h2,bT,ak]
  ·cases hq3:apart b.changed a.fixed<;>rw [hq3] at h3
   ·simp [t25,zZ,dU,fu,h1,h2,h3,bT,ak]
   ·by_cases hl:a.cases.length=b.cases.length
    ·have hp:=J5 (nat:=nat) a b ⟨ha,hb,sa,sb,hl,hch,hfx,hca⟩ hn a.cases.length 0 [] (by omega) (by simp)
     simp only [An,D4,q0,dG,mw,A6,show rows aQ []=cz from rfl] at hp
     cases hq4:rq a.cases b.cases<;>rw [hq4] at hp<;>
      simp [t25,zZ,Lm,dU,fu,BI,ea,eb,h1,h2,h3,aa,<-hl,hz,hab,hc,hf,hsc,hp,ak,GK]
    ·have hle:((a.cases.length:Int)==(b.cases.length:Int))=false:=C1.2 (by omega)
     simp [t25,zZ,dU,fu,ea,eb,h1,h2,h3,aa,hle,hl,bT,ak]
 ·simp [t25,zZ,dU,fu,h1,bT,ak]
end
end Go.Ey.Pr
