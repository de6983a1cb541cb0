/- InductionGoals: for every input the law returns true, and its argument reads as before. No condition beyond the tables of the card. -/
import Derived.Test.YtolnnaanmfnkjaaGreatDoorY48
import Derived.Test.YtolnnaanmfnkjaaGreatDoorYG1
import Derived.Test.YtolnnaanmfnkjaaGreatDoorYG2
import Derived.Below
import GoSem.Core.Region
import GoSem.Core.Layout
import GoSem.Op.Equal
import GoSem.Core.View
import GoSem.Op.String
import Derived.Test.YtolnnaanmfnkjaaGreatDoorChecked
import Derived.KernelRfl
import Derived.Orders
import Derived.MapKept
import Derived.Carry
import Derived.Laws.StructEq
import Derived.WalkKit
import Derived.Laws.Append
import Derived.Laws.OwnMore
import Derived.StillTailTactics
import Derived.Deep.AppendLies
import Derived.Deep.RegionHeld3
import Derived.Lib.LaidTab
import Derived.Shelf.LaysM
import Derived.Shelf.Strconv.Itoa3
import Derived.Shelf.Strconv.Quote
import Derived.Shelf.Strings.Builder1
import Derived.BigCall
import Derived.Shelf.Strings.BuilderF
import Derived.Shelf.Strings.BuilderK
import Derived.Lib.BufferKept
import Derived.Laws.EntriesVeiled
import Derived.Deep.DeepCutAuto
import Derived.Deep.DrawnRows
import Derived.Maps.Own
import Derived.Maps.OwnSet
import Derived.Test.YtolnnaanmfnkjaaGreatDoorCards
import Derived.SevenTiedAt
import Derived.JoinedOf
import Derived.Test.YtolnnaanmfnkjaaGreatDoorTie
import Derived.Lay
import Derived.Test.YtolnnaanmfnkjaaGreatDoorRows
import Derived.LaidMore
import Derived.Lib.LaidPrint
import Derived.ProofKit
import Derived.OpenShut
import Derived.Stop.Joined
import Derived.ChangeOld
import Derived.Deep.Slices
set_option linter.all false
set_option maxHeartbeats 4000000
namespace Go.Ey.Pr
open Go Go.Ey Go.Ey.Seat Go.RowKit Go.Proofs
theorem ahW {α:Type} {f:α->List C} {e:Nat} (hf:∀x,(f x).length=e) {l:List α} {a b:Nat} (hab:a<=b) (hb:b<=l.length):ER e (some (ci a)) (some (ci b)) (rows f l)=some (rows f ((l.drop a).take (b - a))):=by
 have h1:(0:Int)<=(a:Int):=by omega
 have h2:(0:Int)<=(b:Int):=by omega
 simp only [ER,rows,loC,hiC,ci,C4 h1,C4 h2,A4,Is];rw [C4 ⟨hab,hb⟩,CV hf,Gh hf,Fo,G0,Nat.min_eq_left (by omega)]
def Mw (a b:bH):bH:=⟨a.calls++b.calls,a.changed,a.fixed,a.cases,a.measure,a.score+b.score⟩
theorem ak3 {a b:bH} {n m:Nat} (ha:okW n a) (hb:okW m b):okW (n+m) (Mw a b):=
 ⟨by have:=ha.ca;have:=hb.ca;simp [Mw];omega,by have:=ha.ch;simp only [Mw];omega,by have:=ha.fx;simp only [Mw];omega,by have:=ha.sc;have:=hb.sc;simp only [Mw];omega,ha.kl,
  fun x hx=>⟨(ha.ks x hx).tl,(ha.ks x hx).sl,fun s hs=>⟨Dg ((ha.ks x hx).ok s hs).1 (Nat.le_add_right _ _),((ha.ks x hx).ok s hs).2⟩,(ha.ks x hx).ts⟩,fun t ht=>(Bx.1 ht).elim (ha.co t) (hb.co t),ha.mo⟩
@[simp] def cdw (a:bH) (r:List W):List W:=.c (au (aj a) 1):: .c (au (aj a) 2):: .c (au (aj a) 3):: .c (au (aj a) 4):: .c (au (aj a) 5):: .c (au (aj a) 6):: .c (au (aj a) 7):: .c (au (aj a) 8):: .c (au (aj a) 9):: .c (au (aj a) 10):: .c (au (aj a) 11):: .c (au (aj a) 12):: .c (au (aj a) 13):: .c (au (aj a) 14)::r
theorem afB (a b:bH):fq 16 1 [rows af (a.calls++b.calls),au (aj a) 1,au (aj a) 2,au (aj a) 3,au (aj a) 4,au (aj a) 5,au (aj a) 6,au (aj a) 7,au (aj a) 8,au (aj a) 9,au (aj a) 10,au (aj a) 11,au (aj a) 12,au (aj a) 13,au (aj a) 14,ci ((a.score:Int)+b.score)]=some (.slice (aj (Mw a b)) 1):=by
 have e:aj (Mw a b)=[rows af (a.calls++b.calls),au (aj a) 1,au (aj a) 2,au (aj a) 3,au (aj a) 4,au (aj a) 5,au (aj a) 6,au (aj a) 7,au (aj a) 8,au (aj a) 9,au (aj a) 10,au (aj a) 11,au (aj a) 12,au (aj a) 13,au (aj a) 14,ci ((a.score:Int)+b.score)]:=by
  have h:=ah a.measure;unfold aj;simp only [Mw];generalize af a.measure=bd at h
  match bd,h with
  |[_,_,_,_,_,_,_,_,_,_,_],_=>rfl
 rw [<-e];simp [fq,ak,aB]
def Zd (l:List bH) (i k j:Nat) (a b:bH) (acc:List bH):List W:=.c (rows aj l):: .c (ci i):: .c (ci k):: .c (ci j)::cdw a [.c (ci ((a.score:Int)+b.score)),.c (rows aj acc),.c (rows af (a.calls++b.calls))]
def Pass (l:List bH) (r:Option R):Prop:=r=some ([.one (rows aj l),.one (cb false)],[])\/∃l',r=some ([.one (rows aj l'),.one (cb true)],[])/\LW l'/\l'.length+1=l.length
section
variable {nat:Nat->List V->Option (List V)}
theorem ahk (l:List bH) (hl:l.length<=100) (i k:Nat) (hi:i < 1000) (hk:k < 1000) (a b:bH):∀(m j:Nat) (acc:List bH),j+m=l.length->acc.length<=j->
  bn (T nat).G 69 2 (Zd l i k j a b acc)=some ([.one (rows aj (acc++oG (Mw a b) i k j (l.drop j))),.one (cb true)],[])
 |0,j,acc,hj,ha=>by
  have hlt:¬((j:Int) < (l.length:Int)):=by omega
  rw [ai FD (t:=t69.heads[2]) rfl,aA (by omega:¬j < l.length)]
  simp [-Int.natCast_add,Zd,t69,zZ,hlt,aa,oG]
 |m+1,j,acc,hj,ha=>by
  have hjr:j < l.length:=by omega
  have hlt:((j:Int) < (l.length:Int)):=by omega
  have hs:=ax j (by omega)
  have ei:((j:Int)==(i:Int))=decide (j=i):=Kk j i;have ek:((j:Int)==(k:Int))=decide (j=k):=Kk j k;rw [drop_at hjr,oG];simp only [Zd,cdw] at *;rw [ai FD (t:=t69.heads[2]) rfl];cases h1:decide (j=i) with
  |true=>
   have ih:=ahk l hl i k hi hk a b m (j+1) (acc++[Mw a b]) (by omega) (by simp;omega)
   simp only [Zd,cdw,Bk,E3,D4] at ih;have Uq:=afB a b;have ha16:=Vi (acc:=acc) (x:=Mw a b) (by omega)
   simp [-Int.natCast_add,t69,zZ,hlt,aa,ei,h1,Uq,ha16,hs,ih]
  |false=>
   cases h2:decide (j=k) with
   |true=>
    have ih:=ahk l hl i k hi hk a b m (j+1) acc (by omega) (by omega)
    simp only [Zd,cdw] at ih;simp [-Int.natCast_add,t69,zZ,hlt,aa,ei,ek,h1,h2,hs,ih]
   |false=>
    have ih:=ahk l hl i k hi hk a b m (j+1) (acc++[l[j]]) (by omega) (by simp;omega)
    simp only [Zd,cdw,Bk,E3,D4] at ih;have Uq:=Uo l[j];have ha16:=Vi (acc:=acc) (x:=l[j]) (by omega)
    simp [-Int.natCast_add,t69,zZ,hlt,aa,ei,ek,h1,h2,gp hjr,Uq,ha16,hs,ih,ak]
theorem an3 (l:List bH) (hw:LW l) (i:Nat) (hi:i < l.length) (h0:Pass l (bn (T nat).G 69 0 [.c (rows aj l),.c (ci ((i+1:Nat):Int))])):∀(m k:Nat),k+m=l.length->Pass l (bn (T nat).G 69 1 [.c (rows aj l),.c (ci i),.c (ci k)])
 |0,k,hk=>by
  have hlt:¬((k:Int) < (l.length:Int)):=by omega
  have hl:=hw.1;have hs:=ax i (by omega)
  have e:bn (T nat).G 69 1 [.c (rows aj l),.c (ci i),.c (ci k)]=bn (T nat).G 69 0 [.c (rows aj l),.c (ci ((i+1:Nat):Int))]:=by rw [ai FD (t:=t69.heads[1]) rfl];simp [-Int.natCast_add,t69,zZ,hlt,aa,hs]
  rw [e];exact h0
 |m+1,k,hk=>by
  have hkr:k < l.length:=by omega
  have hlt:((k:Int) < (l.length:Int)):=by omega
  have hl:=hw.1;have hs:=ax k (by omega)
  have ih:=an3 l hw i hi h0 m (k+1) (by omega)
  have ei:((i:Int)==(k:Int))=decide (i=k):=Kk i k;have next:∀(h:decide (i=k)=true\/bz (T nat).G 27 [.v (.agg (aj l[i])),.v (.agg (aj l[k]))] []=some ([.one (cb false)],[])),bn (T nat).G 69 1 [.c (rows aj l),.c (ci i),.c (ci k)]=bn (T nat).G 69 1 [.c (rows aj l),.c (ci i),.c (ci ((k+1:Nat):Int))]:=fun h=>by
   conv=>lhs;rw [ai FD (t:=t69.heads[1]) rfl]
   cases h1:decide (i=k) with
   |true=>simp [-Int.natCast_add,t69,zZ,hlt,aa,ei,h1,hs]
   |false=>
    rw [h1] at h;rcases h with h|h
    ·cases h
    ·simp [-Int.natCast_add,t69,zZ,hlt,aa,ei,h1,gp hi,gp hkr,h,hs,ak]
  cases h1:decide (i=k) with
  |true=>rw [next (.inl h1)];exact ih
  |false=>
   have hik:i≠k:=of_decide_eq_false h1;have ha:=hw.at hi;have hb:=hw.at hkr;have h27:=x27 (nat:=nat) l[i] l[k] (ha.cd (by omega)) (hb.cd (by omega))
   cases hq:lg l[i] l[k] with
   |false=>rw [hq] at h27;rw [next (.inr h27)];exact ih
   |true=>
    rw [hq] at h27;have ca:=ha.ca;have cb':=hb.ca;have sa:=ha.sc;have sb:=hb.sc;have hz:iO 11 176 (rows af l[i].calls) cz=some (rows af l[i].calls):=fe ah (by decide) (by simp only [aB];omega) (by simp only [aB];omega)
    have hab:iO 11 176 (rows af l[k].calls) (rows af l[i].calls)=some (rows af (l[i].calls++l[k].calls)):=oD ah (by decide) (by simp only [aB];omega) (by simp only [aB];omega)
    have hsc:cZ .add false (ci l[i].score) (ci l[k].score)=some (ci ((l[i].score:Int)+l[k].score)):=eO (by omega) (by omega)
    have ho:=ahk (nat:=nat) l hl i k (by omega) (by omega) l[i] l[k] l.length 0 [] (by omega) (by simp)
    simp only [Zd,cdw,D4,An,A6,show rows aj []=cz from rfl] at ho
    have hout:=hw.out hi hkr hik (x:=Mw l[i] l[k]) fun n m hn hm=>ak3 hn hm
    refine .inr ⟨_,?_,hout.1,hout.2⟩;rw [ai FD (t:=t69.heads[1]) rfl];simp [-Int.natCast_add,t69,zZ,hlt,aa,ei,h1,gp hi,gp hkr,h27,Lm,BI,hz,hab,hsc,ho,ak]
theorem anh (l:List bH) (hw:LW l):∀(m i:Nat),i+m=l.length->Pass l (bn (T nat).G 69 0 [.c (rows aj l),.c (ci i)])
 |0,i,hi=>by
  have hlt:¬((i:Int) < (l.length:Int)):=by omega
  refine .inl ?_;rw [ai FD (t:=t69.heads[0]) rfl];simp [-Int.natCast_add,t69,zZ,hlt,aa]
 |m+1,i,hi=>by
  have hir:i < l.length:=by omega
  have hlt:((i:Int) < (l.length:Int)):=by omega
  have hk:=an3 (nat:=nat) l hw i hir (anh l hw m (i+1) (by omega)) l.length 0 (by omega)
  have e:bn (T nat).G 69 0 [.c (rows aj l),.c (ci i)]=bn (T nat).G 69 1 [.c (rows aj l),.c (ci i),.c (ci ((0:Nat):Int))]:=by rw [ai FD (t:=t69.heads[0]) rfl];simp [-Int.natCast_add,t69,zZ,hlt,aa]
  rw [e];exact hk
theorem x69 (l:List bH) (hw:LW l):Pass l (bz (T nat).G 69 [.v (.one (rows aj l))] []):=by
 have h:=anh (nat:=nat) l hw l.length 0 (by omega)
 have e:bz (T nat).G 69 [.v (.one (rows aj l))] []=bn (T nat).G 69 0 [.c (rows aj l),.c (ci ((0:Nat):Int))]:=by rw [aG FD];simp [t69,zZ]
 rw [e];exact h
theorem abb {α:Type} (x:α):∀(l:List α) (i k j:Nat),i < k->k < l.length->oG x (j+i) (j+k) j l=l.take i++x::((l.drop (i+1)).take (k - (i+1))++l.drop (k+1))
 |[],i,k,j,_,h=>by simp at h
 |c::l,0,k+1,j,_,h=>by
  have e:∀(l:List α) (k j:Nat),k < l.length->oG x (j) (j+1+k) (j+1) l=l.take k++l.drop (k+1):=by
   intro l;induction l with
   |nil=>intro k j h;simp at h
   |cons c l ih=>
    intro k j h;cases k with
    |zero=>
     have e2:∀(l:List α) (p:Nat),j < p->j+1 < p->oG x j (j+1) p l=l:=by
      intro l;induction l with
      |nil=>intro p _ _;rfl
      |cons c l ih2=>
       intro p h1 h2;have q1:¬p=j:=by omega
       have q2:¬p=j+1:=by omega
       simp only [oG,q1,q2,N6,E4,ih2 (p+1) (by omega) (by omega)]
     have q1:¬j+1=j:=by omega
     simp [oG,e2 l (j+1+1) (by omega) (by omega)]
    |succ k=>
     have q1:¬j+1=j:=by omega
     have q2:¬j+1=j+1+(k+1):=by omega
     have q3:oG x j (j+1+(k+1)) (j+1+1) l=l.take k++l.drop (k+1):=by
      have e3:∀(l:List α) (p:Nat),j < p->oG x j (p+k) p l=oG x (p - 1) (p+k) p l:=by
       intro l p hp;have e4:∀(l:List α) (r:Nat),j < r->p - 1 < r->oG x j (p+k) r l=oG x (p - 1) (p+k) r l:=by
        intro l;induction l with
        |nil=>intro r _ _;rfl
        |cons c l ih2=>
         intro r h1 h2;have q1:¬r=j:=by omega
         have q2:¬r=p - 1:=by omega
         simp only [oG,q1,q2,N6,E4,ih2 (r+1) (by omega) (by omega)]
       exact e4 l p hp (by omega)
      have h5:=ih k (j+1) (by simpa using h)
      rw [show j+1+(k+1)=j+1+1+k by omega,e3 l (j+1+1) (by omega)]
      simpa using h5
     simp [oG,q1,q2,q3]
  have q:=e l k j (by simpa using h)
  simp only [oG,Hp,decide_true,Fi,List.take_zero,D4,E1,Lz,An,Nat.add_sub_cancel];rw [show j+(k+1)=j+1+k by omega,q]
 |c::l,i+1,k+1,j,hik,h=>by
  have ih:=abb x l i k (j+1) (by omega) (by simpa using h)
  have q1:¬j=j+(i+1):=by omega
  have q2:¬j=j+(k+1):=by omega
  simp only [oG,q1,q2,N6,E4,Ly,E3,Lz];rw [show j+(i+1)=j+1+i by omega,show j+(k+1)=j+1+k by omega,ih,show k+1 - (i+1+1)=k - (i+1) by omega]
theorem aoB (l:List bH) (hw:LW l) (i:Nat) (hi:i < l.length) (h0:Pass l (bn (T nat).G 70 0 [.c (rows aj l),.c (ci ((i+1:Nat):Int))])):∀(m k:Nat),k+m=l.length->i < k->Pass l (bn (T nat).G 70 1 [.c (rows aj l),.c (ci i),.c (ci k)])
 |0,k,hk,hik=>by
  have hlt:¬((k:Int) < (l.length:Int)):=by omega
  have hl:=hw.1;have hs:=ax i (by omega)
  have e:bn (T nat).G 70 1 [.c (rows aj l),.c (ci i),.c (ci k)]=bn (T nat).G 70 0 [.c (rows aj l),.c (ci ((i+1:Nat):Int))]:=by rw [ai Lp (t:=t70.heads[1]) rfl];simp [-Int.natCast_add,t70,zZ,hlt,aa,hs]
  rw [e];exact h0
 |m+1,k,hk,hik=>by
  have hkr:k < l.length:=by omega
  have hlt:((k:Int) < (l.length:Int)):=by omega
  have hl:=hw.1;have hs:=ax k (by omega)
  have hsi:=ax i (by omega)
  have ih:=aoB l hw i hi h0 m (k+1) (by omega) (by omega)
  have ha:=hw.at hi;have hb:=hw.at hkr;have h25:=x25 (nat:=nat) l[i] l[k] (ha.cd (by omega)) (hb.cd (by omega)) (by have:=ha.sc;omega) (by have:=hb.sc;omega) ⟨by have:=ha.ch;omega,by have:=hb.ch;omega⟩ ⟨by have:=ha.fx;omega,by have:=hb.fx;omega⟩ ⟨by have:=ha.ca;omega,by have:=hb.ca;omega⟩ fun y hy s hs=>((hb.ks y hy).ok s hs).2.1
  cases hm:merge l[i] l[k] with
  |none=>
   rw [hm] at h25;simp only [bT] at h25;have e:bn (T nat).G 70 1 [.c (rows aj l),.c (ci i),.c (ci k)]=bn (T nat).G 70 1 [.c (rows aj l),.c (ci i),.c (ci ((k+1:Nat):Int))]:=by
    conv=>lhs;rw [ai Lp (t:=t70.heads[1]) rfl]
    simp [-Int.natCast_add,t70,zZ,hlt,aa,gp hi,gp hkr,h25,hs,ak]
   rw [e];exact ih
  |some c=>
   rw [hm] at h25;have hout:=hw.out hi hkr (by omega) (x:=c) fun n m hn hm'=>Tk hn hm' hm
   have eo:=abb c l i k 0 hik hkr;simp only [E1] at eo;rw [eo] at hout;have s1:=adV ak (l:=l) (k:=i) (by omega)
   have s2:=ahW ak (l:=l) (a:=i+1) (b:=k) (by omega) (by omega)
   have s3:=VM ak (l:=l) (k:=k+1) (by omega)
   have t1:(l.take i).length=i:=by simp;omega
   have t2:((l.drop (i+1)).take (k - (i+1))).length=k - (i+1):=by simp;omega
   have t3:(l.drop (k+1)).length=l.length - (k+1):=by simp
   have Uq:=Uo c;have a1:iO 16 280 (rows aj (l.take i)) cz=some (rows aj (l.take i)):=fe ak (by decide) (by simp only [aB];omega) (by simp only [aB];omega)
   have a2:=Vi (acc:=l.take i) (x:=c) (by omega)
   have a3:iO 16 280 (rows aj ((l.drop (i+1)).take (k - (i+1)))) (rows aj (l.take i++[c]))=some (rows aj (l.take i++[c]++(l.drop (i+1)).take (k - (i+1)))):=oD ak (by decide) (by simp only [aB,B8,List.length_singleton];omega) (by simp only [aB,B8,List.length_singleton];omega)
   have a4:iO 16 280 (rows aj (l.drop (k+1))) (rows aj (l.take i++[c]++(l.drop (i+1)).take (k - (i+1))))=some (rows aj (l.take i++[c]++(l.drop (i+1)).take (k - (i+1))++l.drop (k+1))):=oD ak (by decide) (by simp only [aB,B8,List.length_singleton];omega) (by simp only [aB,B8,List.length_singleton];omega)
   rw [show l.take i++c::((l.drop (i+1)).take (k - (i+1))++l.drop (k+1))=l.take i++[c]++(l.drop (i+1)).take (k - (i+1))++l.drop (k+1) by simp] at hout
   refine .inr ⟨_,?_,hout.1,hout.2⟩;rw [ai Lp (t:=t70.heads[1]) rfl];generalize l.take i++[c]++(l.drop (i+1)).take (k - (i+1))++l.drop (k+1)=L4 at a4 |-;generalize l.take i++[c]++(l.drop (i+1)).take (k - (i+1))=L3 at a3 a4;generalize l.take i++[c]=L2 at a2 a3;generalize (l.drop (i+1)).take (k - (i+1))=M at s2 a3;generalize l.drop (k+1)=D at s3 a4;generalize l.take i=A at s1 a1 a2;simp [-Int.natCast_add,t70,zZ,hlt,aa,gp hi,gp hkr,h25,hs,hsi,s1,s2,s3,Uq,a1,a2,a3,a4,ak]
theorem aoR (l:List bH) (hw:LW l):∀(m i:Nat),i+m=l.length->Pass l (bn (T nat).G 70 0 [.c (rows aj l),.c (ci i)])
 |0,i,hi=>by
  have hlt:¬((i:Int) < (l.length:Int)):=by omega
  refine .inl ?_;rw [ai Lp (t:=t70.heads[0]) rfl];simp [-Int.natCast_add,t70,zZ,hlt,aa]
 |m+1,i,hi=>by
  have hir:i < l.length:=by omega
  have hlt:((i:Int) < (l.length:Int)):=by omega
  have hl:=hw.1;have hs:=ax i (by omega)
  have hk:=aoB (nat:=nat) l hw i hir (aoR l hw m (i+1) (by omega)) (l.length - (i+1)) (i+1) (by omega) (by omega)
  have e:bn (T nat).G 70 0 [.c (rows aj l),.c (ci i)]=bn (T nat).G 70 1 [.c (rows aj l),.c (ci i),.c (ci ((i+1:Nat):Int))]:=by rw [ai Lp (t:=t70.heads[0]) rfl];simp [-Int.natCast_add,t70,zZ,hlt,aa,hs]
  rw [e];exact hk
theorem x70 (l:List bH) (hw:LW l):Pass l (bz (T nat).G 70 [.v (.one (rows aj l))] []):=by
 have h:=aoR (nat:=nat) l hw l.length 0 (by omega)
 have e:bz (T nat).G 70 [.v (.one (rows aj l))] []=bn (T nat).G 70 0 [.c (rows aj l),.c (ci ((0:Nat):Int))]:=by rw [aG Lp];simp [t70,zZ]
 rw [e];exact h
def SG (r:Option R):Prop:=r=some (bT,[])\/∃c,okW 10000 c/\r=some ([.agg (aj c),.one (cb true)],[])
theorem akG (l:List bH) (hw:LW l):∀(m j b:Nat),j+m=l.length->b < l.length->SG (bn (T nat).G 29 5 (.c (rows aj l):: .c (ci b):: .c (ci j)::dG []))
 |0,j,b,hj,hb=>by
  have hlt:¬((j:Int) < (l.length:Int)):=by omega
  have hb0:¬((b:Int) < 0):=by omega
  refine .inr ⟨l[b],hw.at hb,?_⟩;rw [ai ig (t:=t29.heads[5]) rfl];simp [-Int.natCast_add,t29,zZ,hlt,hb0,aa,gp hb,ak]
 |m+1,j,b,hj,hb=>by
  have hjr:j < l.length:=by omega
  have hlt:((j:Int) < (l.length:Int)):=by omega
  have hb0:¬((b:Int) < 0):=by omega
  have hl:=hw.1;have hs:=ax j (by omega)
  have ih1:=akG l hw m (j+1) j (by omega) hjr
  have ih2:=akG l hw m (j+1) b (by omega) hb
  have key:bn (T nat).G 29 5 (.c (rows aj l):: .c (ci b):: .c (ci j)::dG [])=bn (T nat).G 29 5 (.c (rows aj l):: .c (ci j):: .c (ci ((j+1:Nat):Int))::dG [])\/bn (T nat).G 29 5 (.c (rows aj l):: .c (ci b):: .c (ci j)::dG [])=bn (T nat).G 29 5 (.c (rows aj l):: .c (ci b):: .c (ci ((j+1:Nat):Int))::dG []):=by
   have e15:=fun c=>BI c
   by_cases h1:((l[b].score:Int) < (l[j].score:Int))
   ·refine .inl ?_
    conv=>lhs;rw [ai ig (t:=t29.heads[5]) rfl]
    simp [-Int.natCast_add,t29,zZ,hlt,hb0,aa,gp hb,gp hjr,e15,h1,hs,ak]
   ·by_cases h2:l[j].score=l[b].score
    ·by_cases h3:((l[b].changed.length:Int) < (l[j].changed.length:Int))
     ·refine .inl ?_
      conv=>lhs;rw [ai ig (t:=t29.heads[5]) rfl]
      simp [-Int.natCast_add,t29,zZ,hlt,hb0,aa,gp hb,gp hjr,e15,dU,h1,h2,h3,hs,ak]
     ·refine .inr ?_
      conv=>lhs;rw [ai ig (t:=t29.heads[5]) rfl]
      simp [-Int.natCast_add,t29,zZ,hlt,hb0,aa,gp hb,gp hjr,e15,dU,h1,h2,h3,hs,ak]
    ·refine .inr ?_;have h2':((l[j].score:Int)==(l[b].score:Int))=false:=C1.2 (by omega)
     conv=>lhs;rw [ai ig (t:=t29.heads[5]) rfl]
     simp [-Int.natCast_add,t29,zZ,hlt,hb0,aa,gp hb,gp hjr,e15,h1,h2,h2',hs,ak]
  rcases key with e|e<;>rw [e]<;>assumption
theorem akl (l:List bH) (hl:l.length<=100) (hw:∀c∈l,okW 10000 c):∀(m j b:Nat),j+m=l.length->b < l.length->SG (bn (T nat).G 29 4 (.c (ci b):: .c (ci j)::dG [.c (rows aj l)]))
 |0,j,b,hj,hb=>by
  have hlt:¬((j:Int) < (l.length:Int)):=by omega
  have hb0:¬((b:Int) < 0):=by omega
  refine .inr ⟨l[b],hw _ (A5 hb),?_⟩;rw [ai ig (t:=t29.heads[4]) rfl];simp [-Int.natCast_add,t29,zZ,hlt,hb0,aa,gp hb,ak]
 |m+1,j,b,hj,hb=>by
  have hjr:j < l.length:=by omega
  have hlt:((j:Int) < (l.length:Int)):=by omega
  have hb0:¬((b:Int) < 0):=by omega
  have hs:=ax j (by omega)
  have ih1:=akl l hl hw m (j+1) j (by omega) hjr
  have ih2:=akl l hl hw m (j+1) b (by omega) hb
  have key:bn (T nat).G 29 4 (.c (ci b):: .c (ci j)::dG [.c (rows aj l)])=bn (T nat).G 29 4 (.c (ci j):: .c (ci ((j+1:Nat):Int))::dG [.c (rows aj l)])\/bn (T nat).G 29 4 (.c (ci b):: .c (ci j)::dG [.c (rows aj l)])=bn (T nat).G 29 4 (.c (ci b):: .c (ci ((j+1:Nat):Int))::dG [.c (rows aj l)]):=by
   have e15:=fun c=>BI c
   by_cases h1:((l[b].score:Int) < (l[j].score:Int))
   ·refine .inl ?_
    conv=>lhs;rw [ai ig (t:=t29.heads[4]) rfl]
    simp [-Int.natCast_add,t29,zZ,hlt,hb0,aa,gp hb,gp hjr,e15,h1,hs,ak]
   ·by_cases h2:l[j].score=l[b].score
    ·by_cases h3:((l[b].changed.length:Int) < (l[j].changed.length:Int))
     ·refine .inl ?_
      conv=>lhs;rw [ai ig (t:=t29.heads[4]) rfl]
      simp [-Int.natCast_add,t29,zZ,hlt,hb0,aa,gp hb,gp hjr,e15,dU,h1,h2,h3,hs,ak]
     ·refine .inr ?_
      conv=>lhs;rw [ai ig (t:=t29.heads[4]) rfl]
      simp [-Int.natCast_add,t29,zZ,hlt,hb0,aa,gp hb,gp hjr,e15,dU,h1,h2,h3,hs,ak]
    ·refine .inr ?_;have h2':((l[j].score:Int)==(l[b].score:Int))=false:=C1.2 (by omega)
     conv=>lhs;rw [ai ig (t:=t29.heads[4]) rfl]
     simp [-Int.natCast_add,t29,zZ,hlt,hb0,aa,gp hb,gp hjr,e15,h1,h2,h2',hs,ak]
  rcases key with e|e<;>rw [e]<;>assumption
theorem aoT (l:List bH) (hw:LW l):SG (bn (T nat).G 29 5 (.c (rows aj l):: .c (ci (-1)):: .c (ci 0)::dG [])):=by
 by_cases h0:0 < l.length
 ·have hlt:((0:Int) < (l.length:Int)):=by omega
  have ih:=akG (nat:=nat) l hw (l.length - 1) 1 0 (by omega) h0
  have hs:cZ .add false (ci 0) (ci 1)=some (ci 1):=eO (by omega) (by omega)
  have e:bn (T nat).G 29 5 (.c (rows aj l):: .c (ci (-1)):: .c (ci 0)::dG [])=bn (T nat).G 29 5 (.c (rows aj l):: .c (ci ((0:Nat):Int)):: .c (ci ((1:Nat):Int))::dG []):=by
   conv=>lhs;rw [ai ig (t:=t29.heads[5]) rfl]
   simp [t29,zZ,h0,aa,hs]
  rw [e];exact ih
 ·have hlt:¬((0:Int) < (l.length:Int)):=by omega
  refine .inl ?_;rw [ai ig (t:=t29.heads[5]) rfl];simp [t29,zZ,h0,aa,bT]
theorem anC (l:List bH) (hl:l.length<=100) (hw:∀c∈l,okW 10000 c) (h0:0 < l.length):SG (bn (T nat).G 29 4 (.c (ci (-1)):: .c (ci 0)::dG [.c (rows aj l)])):=by
 have hlt:((0:Int) < (l.length:Int)):=by omega
 have ih:=akl (nat:=nat) l hl hw (l.length - 1) 1 0 (by omega) h0
 have hs:cZ .add false (ci 0) (ci 1)=some (ci 1):=eO (by omega) (by omega)
 have e:bn (T nat).G 29 4 (.c (ci (-1)):: .c (ci 0)::dG [.c (rows aj l)])=bn (T nat).G 29 4 (.c (ci ((0:Nat):Int)):: .c (ci ((1:Nat):Int))::dG [.c (rows aj l)]):=by
  conv=>lhs;rw [ai ig (t:=t29.heads[4]) rfl]
  simp [t29,zZ,h0,aa,hs]
 rw [e];exact ih
theorem aox (l:List bH) (hw:LW l) (i:Nat) (hi:i < l.length) (good:List bH) (hg:good.length<=100):∀(m k:Nat) (fl:Bool),k+m=l.length->∃f:Bool,
  bn (T nat).G 29 3 (.c (rows aj l):: .c (ci i):: .c (cb fl):: .c (ci k)::dG [.c (rows aj good)])=bn (T nat).G 29 2 (.c (rows aj l):: .c (ci ((i+1:Nat):Int))::dG [.c (rows aj (cond f good (good++[l[i]])))])
 |0,k,fl,hk=>by
  have hlt:¬((k:Int) < (l.length:Int)):=by omega
  have hl:=hw.1;have hs:=ax i (by omega)
  have Uq:=Uo l[i];have ha16:=Vi (acc:=good) (x:=l[i]) (by omega)
  refine ⟨fl,?_⟩;rw [ai ig (t:=t29.heads[3]) rfl];cases fl<;>simp [-Int.natCast_add,t29,zZ,hlt,aa,gp hi,Uq,ha16,hs,ak]
 |m+1,k,fl,hk=>by
  have hkr:k < l.length:=by omega
  have hlt:((k:Int) < (l.length:Int)):=by omega
  have hl:=hw.1;have hs:=ax k (by omega)
  have ha:=hw.at hi;have hb:=hw.at hkr;have Y3:=x59 (nat:=nat) l[i].changed l[k].fixed (by have:=ha.ch;omega) (by have:=hb.fx;omega)
  have ek:((k:Int)==(i:Int))=decide (k=i):=Kk k i;obtain ⟨g,hge⟩:∃g:Bool,bn (T nat).G 29 3 (.c (rows aj l):: .c (ci i):: .c (cb fl):: .c (ci k)::dG [.c (rows aj good)])=bn (T nat).G 29 3 (.c (rows aj l):: .c (ci i):: .c (cb g):: .c (ci ((k+1:Nat):Int))::dG [.c (rows aj good)]):=by
   cases fl with
   |true=>
    refine ⟨true,?_⟩
    conv=>lhs;rw [ai ig (t:=t29.heads[3]) rfl]
    simp [-Int.natCast_add,t29,zZ,hlt,aa,hs]
   |false=>
    cases h1:decide (k=i) with
    |true=>
     refine ⟨false,?_⟩
     conv=>lhs;rw [ai ig (t:=t29.heads[3]) rfl]
     simp [-Int.natCast_add,t29,zZ,hlt,aa,ek,h1,hs]
    |false=>
     refine ⟨jS l[i].changed l[k].fixed,?_⟩
     conv=>lhs;rw [ai ig (t:=t29.heads[3]) rfl]
     simp [-Int.natCast_add,t29,zZ,hlt,aa,ek,h1,gp hi,gp hkr,dU,fu,Y3,hs,ak]
  obtain ⟨f,hf⟩:=aox l hw i hi good hg m (k+1) g (by omega)
  exact ⟨f,by rw [hge];exact hf⟩
theorem aow (l:List bH) (hw:LW l):∀(m i:Nat) (good:List bH),i+m=l.length->good.length<=i->(∀c∈good,okW 10000 c)->SG (bn (T nat).G 29 2 (.c (rows aj l):: .c (ci i)::dG [.c (rows aj good)]))
 |0,i,good,hi,hg,hc=>by
  have hlt:¬((i:Int) < (l.length:Int)):=by omega
  have hl:=hw.1;by_cases h0:0 < good.length
  ·have h4:=anC (nat:=nat) good (by omega) hc h0
   have hz:((good.length:Int)==0)=false:=C1.2 (by omega)
   have e:bn (T nat).G 29 2 (.c (rows aj l):: .c (ci i)::dG [.c (rows aj good)])=bn (T nat).G 29 4 (.c (ci (-1)):: .c (ci 0)::dG [.c (rows aj good)]):=by rw [ai ig (t:=t29.heads[2]) rfl];simp [-Int.natCast_add,t29,zZ,hlt,aa,hz]
   rw [e];exact h4
  ·obtain rfl:good=[]:=E7 (by omega)
   have h5:=aoT (nat:=nat) l hw;have e:bn (T nat).G 29 2 (.c (rows aj l):: .c (ci i)::dG [.c (rows aj [])])=bn (T nat).G 29 5 (.c (rows aj l):: .c (ci (-1)):: .c (ci 0)::dG []):=by rw [ai ig (t:=t29.heads[2]) rfl];simp [-Int.natCast_add,t29,zZ,hlt,aa]
   rw [e];exact h5
 |m+1,i,good,hi,hg,hc=>by
  have hir:i < l.length:=by omega
  have hlt:((i:Int) < (l.length:Int)):=by omega
  have hl:=hw.1;obtain ⟨f,hf⟩:=aox (nat:=nat) l hw i hir good (by omega) l.length 0 false (by omega)
  have ih:=aow l hw m (i+1) (cond f good (good++[l[i]])) (by omega) (by cases f<;>simp<;>omega) (by
   cases f with
   |true=>exact hc
   |false=>
    intro c hm;rcases Bx.1 hm with hm|hm
    ·exact hc c hm
    ·rw [By.1 hm];exact hw.at hir)
  rw [<-hf] at ih;have e:bn (T nat).G 29 2 (.c (rows aj l):: .c (ci i)::dG [.c (rows aj good)])=bn (T nat).G 29 3 (.c (rows aj l):: .c (ci i):: .c (cb false):: .c (ci ((0:Nat):Int))::dG [.c (rows aj good)]):=by rw [ai ig (t:=t29.heads[2]) rfl];simp [-Int.natCast_add,t29,zZ,hlt,aa]
  rw [e];exact ih
theorem ank:∀(n:Nat) (l:List bH),LW l->l.length<=n->SG (bn (T nat).G 29 1 (.c (rows aj l):: .c (cb true)::dG []))
 |n,l,hw,hn=>by
  have fin:∀l,LW l->SG (bn (T nat).G 29 1 (.c (rows aj l):: .c (cb false)::dG [])):=fun l hw=>by
   have h:=aow (nat:=nat) l hw l.length 0 [] (E1 _) (by simp) (fun c hc=>by cases hc)
   have e:bn (T nat).G 29 1 (.c (rows aj l):: .c (cb false)::dG [])=bn (T nat).G 29 2 (.c (rows aj l):: .c (ci ((0:Nat):Int))::dG [.c (rows aj [])]):=by rw [ai ig (t:=t29.heads[1]) rfl];simp [t29,zZ,show rows aj []=cz from rfl]
   rw [e];exact h
  rcases x70 (nat:=nat) l hw with h|⟨l',h,hw',hl'⟩
  ·have e:bn (T nat).G 29 1 (.c (rows aj l):: .c (cb true)::dG [])=bn (T nat).G 29 1 (.c (rows aj l):: .c (cb false)::dG []):=by
    conv=>lhs;rw [ai ig (t:=t29.heads[1]) rfl]
    simp [t29,zZ,h]
   rw [e];exact fin l hw
  ·have e:bn (T nat).G 29 1 (.c (rows aj l):: .c (cb true)::dG [])=bn (T nat).G 29 1 (.c (rows aj l'):: .c (cb true)::dG []):=by
    conv=>lhs;rw [ai ig (t:=t29.heads[1]) rfl]
    simp [t29,zZ,h]
   rw [e]
   match n,hn with
   |n+1,hn=>exact ank n l' hw' (by omega)
   |0,hn=>exact absurd hl' (by omega)
theorem anG:∀(n:Nat) (l:List bH),LW l->l.length<=n->SG (bn (T nat).G 29 0 (.c (rows aj l):: .c (cb true)::dG []))
 |n,l,hw,hn=>by
  rcases x69 (nat:=nat) l hw with h|⟨l',h,hw',hl'⟩
  ·have h1:=ank (nat:=nat) l.length l hw (B9 _);have e:bn (T nat).G 29 0 (.c (rows aj l):: .c (cb true)::dG [])=bn (T nat).G 29 0 (.c (rows aj l):: .c (cb false)::dG []):=by
    conv=>lhs;rw [ai ig (t:=t29.heads[0]) rfl]
    simp [t29,zZ,h]
   have e2:bn (T nat).G 29 0 (.c (rows aj l):: .c (cb false)::dG [])=bn (T nat).G 29 1 (.c (rows aj l):: .c (cb true)::dG []):=by rw [ai ig (t:=t29.heads[0]) rfl];simp [t29,zZ]
   rw [e,e2];exact h1
  ·have e:bn (T nat).G 29 0 (.c (rows aj l):: .c (cb true)::dG [])=bn (T nat).G 29 0 (.c (rows aj l'):: .c (cb true)::dG []):=by
    conv=>lhs;rw [ai ig (t:=t29.heads[0]) rfl]
    simp [t29,zZ,h]
   rw [e]
   match n,hn with
   |n+1,hn=>exact anG n l' hw' (by omega)
   |0,hn=>exact absurd hl' (by omega)
theorem x29 {w c:C} {l:List bH} (hw:LW l) (h15:bz (T nat).G 15 [.v (.one w),.v (.one cz),.v (.one c)] []=some ([.one (rows aj l)],[])):SG (bz (T nat).G 29 [.v (.one w),.v (.one cz),.v (.one c)] []):=by
 have h:=anG (nat:=nat) l.length l hw (B9 _);have e:bz (T nat).G 29 [.v (.one w),.v (.one cz),.v (.one c)] []=bn (T nat).G 29 0 (.c (rows aj l):: .c (cb true)::dG []):=by rw [aG ig];simp [t29,zZ,h15]
 rw [e];exact h
end
end Go.Ey.Pr
set_option maxHeartbeats 4000000
namespace Go.Ey.Pr
open Go Go.Ey Go.Ey.Seat Go.RowKit Go.Proofs
theorem apo (t:Tm):av (gZ t)<=av t+1:=by
 have h1:∀u:Tm,av (.app dH j4 [u])=av u+1:=fun u=>by simp [av,aJ];omega
 cases h:Kq j4 1 t with
 |true=>
  obtain ⟨x,rfl⟩:=zL h;rw [Nc];have:=h1 x
  omega
 |false=>rw [Kg h,h1];omega
theorem RF {M:Nat}:∀c:List Tm,(∀t∈c,av t<=M)->av (Ed c)<=c.length * (M+2)+1
 |[],_=>by simp [Ed,av,JK,GD]
 |[t],h=>by have:=h t (by simp);simp only [Ed,Bm,F2];omega
 |t::u::ts,h=>by
  have h1:=h t (by simp)
  have h2:=RF (u::ts) fun x hx=>h x (by simp [D1.1 hx])
  have h3:av (.eG oT)=1:=by simp [av,oT,GD]
  rw [OH (List.cons_ne_nil _ _)];have e:av (.app dH ifB [t,.eG oT,Ed (u::ts)])=1+(av t+(av (.eG oT)+(av (Ed (u::ts))+0))):=rfl;rw [e,h3];simp only [Bm] at h2 |-;rw [show (ts.length+1+1) * (M+2)=(ts.length+1) * (M+2)+(M+2) by rw [N5 _ 1,Nat.one_mul]]
  omega
theorem Nk (c g:List Tm):(c.foldl gX g).length<=g.length+c.length:=JC c g
section
variable {nat:Nat->List V->Option (List V)}
theorem X5 (ha:O5 nat) (c:List Tm) (hc:DC 3 29 c) (cd:bH) (hw:okW 10000 cd):∃l:C,
  bz (T nat).G 31 [.v (.one (rows af c)),.v (.agg (aj cd))] []=some ([.one l],[])/\bz (T nat).G 32 [.v (.one (rows af c)),.v (.agg (aj cd))] []=some ([.one l],[])/\bz (T nat).G 30 [.v (.one l),.v (.one l)] []=some yes:=by
 have hcc:=hc.okc (by omega)
 have hlen:=hc.len;have hn:av (Ed c)<=94:=by
  have h1:=RF (M:=29) c fun t ht=>(hc.all t ht).sz
  have h2:=Cl 31 hlen;omega
 have hts:∀k∈cd.cases,∀t∈k.tests,PV (gZ t):=fun k hk t ht=>by
  have h1:=(hw.ks k hk).ts t ht;have h2:=apo t;show av _<=3000
  omega
 have hss:∀k∈cd.cases,∀s∈k.subs,s.length < 100000/\PV (gZ (iY s (Ed c))):=fun k hk s hs=>by
  have h0:=(hw.ks k hk).ok s hs;have h1:=Aw (M:=30) (by omega) h0.2.2 (Ed c)
  have h2:=Cl 30 hn;have h3:=apo (iY s (Ed c));refine ⟨by omega,?_⟩
  show av _<=3000
  omega
 have hkl:=hw.kl;have h31:=x31 (nat:=nat) ha c (by omega) hcc cd (by omega) fun k hk=>⟨by have:=(hw.ks k hk).tl;omega,by have:=(hw.ks k hk).sl;omega,hts k hk,fun s hs=>⟨(hss k hk s hs).2,x74 s (hss k hk s hs).1 100 (Ed c) (by omega) (by omega)⟩⟩
 have h32:=x32 (nat:=nat) c (by omega) hcc (by omega) cd (by omega) fun k hk=>⟨(hw.ks k hk).tl,(hw.ks k hk).sl,hts k hk,hss k hk⟩
 refine ⟨_,h31,h32,x30 _ (by simp;omega) fun g hg=>?_⟩
 obtain ⟨k,hk,rfl⟩:=Kf.1 hg;obtain ⟨g1,g2⟩:=aaI k.tests [] (hts k hk) (fun x hx=>by cases hx)
 obtain ⟨g3,g4⟩:=adb (Ed c) k.subs (gT [] k.tests) (fun s hs=>(hss k hk s hs).2) g1
 have g5:=Nk c (gS (Ed c) (gT [] k.tests) k.subs);have htl:=(hw.ks k hk).tl;have hsl:=(hw.ks k hk).sl;simp only [F2,E1] at g2;refine ⟨by simp only [tu];omega,fun t ht=>C8 ?_⟩
 exact Oa (l:=c) (P:=PV) g3 hcc t ht
theorem x8 (na:jq nat) (hn:nS nat) (ha:O5 nat) {w:C} (hw:RK Hr w) (GG:bz (T nat).G 10 [.v (.one (.lit (.int .u32 0)))] []=some ([.one w],[])) (hsg:U2 nat w Ck) (h9:bz (T nat).G 9 [] []=some yes) (bs:List UInt8):
  bz (T nat).G 8 [.v (.one (rows wQ bs))] []=some yes:=by
 simp only [yes] at h9;have hlen:lN false (rows wQ bs)=some (ci bs.length):=rfl;rw [aG anq];by_cases hb:(60:Int) < (bs.length:Int)
 ·simp [t8,zZ,h9,hlen,hb,yes]
 ·obtain ⟨c,p1,h11,hc,_⟩:=x11 na hn hw bs (by omega) 0 (Ft _)
  obtain ⟨l,h15,hl,hP⟩:=hsg c hc;simp only [bx,A6] at h11;rcases x29 (LW.of hl fun x hx=>(hP x hx).w) h15 with h29|⟨cd,hwc,h29⟩
  ·simp only [bT] at h29;have atu:bz (T nat).G 31 [.v (.one (rows af c)),.v (.agg [cz,cz,cz,ci 0,ce,ce,ci 0,ce,ce,ce,ce,ce,cz,cz,cz,ci 0])] []=some ([.one cz],[]):=by
    have h71:=x71 (nat:=nat) c (by have:=hc.len;omega)
    have h0:bn (T nat).G 31 0 [.c (rows af c),.c cz,.c (ci 0),.c (ci 0),.l (af (Ed c)),.c cz]=some ([.one cz],[]):=by rw [ai Dp (t:=t31.heads[0]) rfl];simp [t31,zZ]
    rw [aG Dp];simp [t31,zZ,h71,h0,ah]
   have att:bz (T nat).G 32 [.v (.one (rows af c)),.v (.agg [cz,cz,cz,ci 0,ce,ce,ci 0,ce,ce,ce,ce,ce,cz,cz,cz,ci 0])] []=some ([.one cz],[]):=by
    have h75:=x75 (nat:=nat) c (by have:=hc.len;omega)
    have h0:bn (T nat).G 32 0 [.c (rows af c),.c (ci 0),.l [cz,cz,cz,ci 0,ce,ce,ci 0,ce,ce,ce,ce,ce,cz,cz,cz,ci 0],.l (af (Ed c)),.c cz]=some ([.one cz],[]):=by rw [ai DU (t:=t32.heads[0]) rfl];simp [t32,zZ,ah]
    rw [aG DU];simp [t32,zZ,h75,h0,ah]
   have h30:=x30 (nat:=nat) [] (by simp) (fun g hg=>by cases hg)
   simp only [show rows vD []=cz from rfl,yes] at h30
   simp [t8,zZ,h9,hlen,hb,GG,h11,h29,atu,att,h30,yes,mP]
  ·obtain ⟨g,g1,g2,g3⟩:=X5 ha c hc cd hwc;simp only [yes] at g3;simp [t8,zZ,h9,hlen,hb,GG,h11,h29,g1,g2,g3,yes,mP,ak]
end
end Go.Ey.Pr
set_option maxHeartbeats 4000000
namespace Go.Ey.Pr
open Go Go.Ey Go.Ey.Seat Go.RowKit Go.Proofs
theorem apx:isN 72=true:=by kernel_rfl
def R8 (f:Nat) (vs rs:List V):Prop:=R1 f vs rs\/(∃cl ts:List Tm,(Al cl/\Al ts/\cl.length+ts.length<=90000)/\f=72/\vs=[.one (rows af cl),.one (rows af ts)]/\rs=[.one (rows af (ts.foldl gX cl))])
theorem ajQ {vs rs:List V} (h:R1 72 vs rs):False:=by
 rcases h with h|⟨h,_⟩|⟨h,_⟩
 ·rcases Lf h with h|h<;>cases h
 ·cases h
 ·cases h
theorem O3:Sb R8:=⟨fun {f vs rs rs'} h h'=>by
  rcases h with h|⟨cl,ts,_,rfl,hv,rfl⟩
  ·rcases h' with h'|⟨_,_,_,rfl,_⟩
   ·exact Bi.uniq h h'
   ·exact (ajQ h).elim
  ·rcases h' with h'|⟨cl',ts',_,_,hv',rfl⟩
   ·exact (ajQ h').elim
   ·rw [hv] at hv';rw [KQ (Je hv').1,KQ (Je (Je hv').2).1],fun h=>by
  rcases h with h|⟨_,_,_,rfl,_⟩
  ·exact Bi.isN h
  ·exact apx,fun h=>by
  rcases h with h|⟨cl,ts,hp,rfl,rfl,rfl⟩
  ·exact Bi.ok h
  ·exact aju hp.1 hp.2.1 hp.2.2⟩
theorem ag2:O5 (Mv R8):=fun cl ts h1 h2 h3=>natFn (s:=s72) (by kernel_rfl) (by kernel_rfl) rfl rfl rfl rfl (O3.at (.inr ⟨cl,ts,⟨h1,h2,h3⟩,rfl,rfl,rfl⟩))
theorem asK (bs:List UInt8):oq PP 8 [.one (rows wQ bs)] [.one (cb true)]:=by
 have hn:=agr O3 fun h=> .inl (.inl h)
 obtain ⟨w,hw,GG⟩:=SN hn;exact O3.seat.fn (by kernel_rfl) (x8 (Oh O3 .inl) hn ag2 hw GG (akM hn (Sc O3 .inl) (OM O3 .inl) hw) (amc O3 .inl) bs)
end Go.Ey.Pr
namespace Go.Proofs.YtolnnaanmfnkjaaGreatDoor.NZ
open Go.Proofs.YtolnnaanmfnkjaaGreatDoor
open Go
set_option linter.unusedVariables false
theorem fD:Tryz.prog.closure 8=[8,9,10,34,78,141,142,140,182,183,211,246,247,212,248,249,275,285,250,251,252,253,254,194,228,267,229,230,268,269,270,231,255,184,160,213,256,152,80,161,137,162,214,185,215,79,143,186,187,125,95,94,144,188,216,257,276,138,53,217,258,151,218,259,277,219,220,221,222,260,278,279,280,147,191,227,266,283,289,290,298,297,299,291,292,300,301,318,319,159,262,261,281,286,106,155,190,101,156,157,92,287,288,295,307,308,309,323,310,311,324,312,313,325,296,314,327,329,326,315,316,328,330,331,332,333,317,265,282,223,54,189,224,263,150,225,264,226,145,81,146,35,19,13,18,52,82,83,85,50,21,84,86,36,87,88,148,93,37,89,149,192,49,126,90,91,96,153,97,154,193,98,99,44,119,100,102,158,33,40,28,14,42,108,109,163,195,232,271,196,234,272,284,293,302,294,303,320,321,304,305,322,306,233,197,164,43,110,165,166,199,198,111,112,113,167,200,236,171,205,206,242,204,237,235,273,168,201,202,73,134,132,181,203,238,239,240,114,169,170,241,274,115,116,74,136,135,117,172,118,173,67,26,63,55,64,127,177,176,209,128,130,68,24,56,57,58,31,71,131,179,210,178,180,72,133,11,38,39,22,103,104,105,12,41,107,29,15,45,65,120,121,174,207,243,175,76,208,244,245,122,77,139,59,123,69,27,66,129,70,25,60,61,62,32,75,30,47]:=by kernel_rfl
abbrev c:OpenClaim:=Rows.inductionGoalsRow
abbrev s:ChangeSpec:=Rows.inductionGoalsSpec
theorem unf:Tryz.prog.unfollowed 8=true:=by unfold Program.unfollowed;rw [fD];kernel_rfl
theorem inp:Tryz.prog.inPlace 8=["internal/abi.NoEscape"]:=by unfold Program.inPlace;rw [fD];kernel_rfl
theorem recs:Tryz.prog.recurses 8=true:=by unfold Program.recurses;rw [unf];rfl
theorem vars:Tryz.prog.varsNamed 8=["internal/strconv.uint64pow10", "math/bits.deBruijn32tab", "math/bits.deBruijn64tab", "unicode/utf8.first", "unicode/utf8.acceptRanges", "strconv.isPrint16", "strconv.isNotPrint16", "strconv.isPrint32", "strconv.isNotPrint32", "strconv.isGraphic"]:=by unfold Program.varsNamed;rw [fD];kernel_rfl
theorem named:Tryz.prog.funcNamed "lispprover/lispproverlaw37.InductionGoals"=some 8:=by kernel_rfl
theorem adg:Tryz.prog.goes 8=false:=by unfold Program.goes;rw [fD,unf];kernel_rfl
theorem goesBy:c.goesBy Tryz.prog=false:=by
 unfold OpenClaim.goesBy Program.goesAt Program.goesFrom;show ((Tryz.prog.funcNamed "lispprover/lispproverlaw37.InductionGoals").any Tryz.prog.goes||false)=false
 rw [named,Option.any_some,adg];rfl
theorem closed:joinedFacts Tryz.prog 8 Tryz.f8 s c=true:=by
 unfold joinedFacts;rw [inp,unf,recs,vars];simp only [As];refine ⟨⟨⟨⟨⟨⟨⟨⟨⟨⟨⟨⟨⟨⟨⟨⟨⟨⟨⟨⟨⟨⟨⟨⟨⟨⟨⟨⟨⟨⟨⟨?_,?_⟩,?_⟩,?_⟩,?_⟩,?_⟩,?_⟩,?_⟩,?_⟩,?_⟩,?_⟩,?_⟩,?_⟩,?_⟩,?_⟩,?_⟩,?_⟩,?_⟩,?_⟩,?_⟩,?_⟩,?_⟩,?_⟩,?_⟩,?_⟩,?_⟩,?_⟩,?_⟩,?_⟩,?_⟩,?_⟩,?_⟩
 all_goals kernel_rfl
end Go.Proofs.YtolnnaanmfnkjaaGreatDoor.NZ
namespace Go.Proofs.YtolnnaanmfnkjaaGreatDoor.inductionGoals
open Go.Proofs.YtolnnaanmfnkjaaGreatDoor
open Go Go.Ey Go.Ey.Pr Go.ChangeShapes Go.WideShapes Go.ChangeAt Go.RowKit
set_option linter.unusedVariables false
theorem own:ownKnob Tryz.prog.godebug=none:=by kernel_rfl
theorem laidOut:laidOutB Tryz.prog=true:=by kernel_rfl
theorem looks:false=Tryz.prog.looks []:=by kernel_rfl
theorem mainIs:Tryz.prog.mainIs=some (true,("553e0069a973972142efee23b9f5ec7bad0651dc19b133852792b5bb8afd5c39":String).toList):=by kernel_rfl
theorem Jn:Rows.inductionGoalsRow.laid=[("math/bits.deBruijn32tab",Rows.laid_math_bits_deBruijn32tab),("math/bits.deBruijn64tab",Rows.laid_math_bits_deBruijn64tab),("internal/strconv.uint64pow10",Lib.tabData .u64 Lib.pow10Tab),("unicode/utf8.acceptRanges",Lib.acceptData),("strconv.isGraphic",Rows.laid_strconv_isGraphic),("strconv.isNotPrint16",Lib.sliceData .u16 Lib.goPrintTabs.n16),("strconv.isNotPrint32",Lib.sliceData .u16 Lib.goPrintTabs.n32),("strconv.isPrint16",Lib.sliceData .u16 Lib.goPrintTabs.p16),("strconv.isPrint32",Lib.sliceData .u32 Lib.goPrintTabs.p32),("unicode/utf8.first",Lib.firstData)]:=by kernel_rfl
theorem inv (W:World) (h:laidMetH Tryz.prog Rows.inductionGoalsRow.laid W):lV.Inv W.heap.size W:=by
 rw [MakeChecks.laidMetH_plain _ _ _ (by kernel_rfl),Jn] at h
 exact inv_of h
set_option maxRecDepth 100000 in
theorem lifted (os:Os) (started:os.Started) (H:Type) (enc:TypeId×Value->H):
  ReturnsInHanded {} Tryz.checked os 8 .any (fun w args=>(Rows.inductionGoalsSpec.pre enc Tryz.prog Tryz.f8 [] false w args/\laidMetH Tryz.prog Rows.inductionGoalsRow.laid w)/\sizedMet enc Tryz.prog Tryz.f8 (OpenSpec.ofChange Rows.inductionGoalsSpec) false w args)
   (Rows.inductionGoalsSpec.post enc Tryz.prog Tryz.f8 false true false false):=by
 refine returnsInHanded_of_change_and (C:=Tryz.checked) (X:=fun w _=>laidMetH Tryz.prog Rows.inductionGoalsRow.laid w) (fun _ _ _ hh h=>h.of_heap hh) own started (by kernel_rfl) Tryz.func8
  (ChangeSpec.witness_shaped (enc:=enc) (C:=Tryz.checked) (os:=os) (X:=fun w _=>laidMetH Tryz.prog Rows.inductionGoalsRow.laid w) false (World.laidAll Tryz.prog os Rows.inductionGoalsRow.laid) #[.slice none 0 0] 8 (World.laidAll_os _ _ _) (World.shaped_of_ZipB (by kernel_rfl) (by kernel_rfl)) (by kernel_rfl) (by kernel_rfl) (by kernel_rfl)
   (by rw [MakeChecks.laidMetH_plain _ _ _ (by kernel_rfl)];exact laidMet_laidAll _ (by kernel_rfl) (by kernel_rfl))) ?_
 intro W base args ds gs before hval0 hW _ _ hL _;have hval:∀(j:Nat) t v,Tryz.f8.params[j]?=some t->args[j]?=some v->Value.okWide Tryz.prog W .any base t v:=hval0;have hW':=hW;obtain ⟨p,q,hA0,hV,rfl,hfz,hnd⟩:=hW;have hA:DataW.TrodAll enc Tryz.prog W 0 (fun _=>true) true Tryz.f8.params.toList args.toList ds p:=hA0
 rw [Tryz.params8] at hA hval;obtain ⟨v0,d0,hargs,rfl,h0⟩:=trodAll_one hA;obtain rfl:args=#[v0]:=by cases args;simp_all
 obtain ⟨rfl,rfl⟩:=trodVars_none hV;obtain ⟨a0,V3,cap0,rfl⟩:=okWide_slice Tryz.underlying22 (hval 0 22 v0 rfl rfl);have k0:=h0;have lt0:∀x∈p,x.block < W.heap.size:=by obtain ⟨m,hm⟩:=k0;exact DataW.trod_lt m _ _ _ hm
 obtain ⟨bs,hrep⟩:∃bs,gQ W (fun _ _=>True) (.one (rows wQ bs)) (.slice a0 V3 cap0):=by obtain ⟨fuel,hf⟩:=h0;obtain ⟨ccs,ha,ht⟩:=Aq 3 22 Zb fuel _ _ hf;obtain ⟨bs,rfl,_⟩:=FN ht;exact ⟨bs,ha.1⟩
 clear hA0 hval0;refine ((asK bs).2 (fun _ _=>True) W [.slice a0 V3 cap0] (inv W hL) ⟨hrep,trivial⟩).mono fun e W' ⟨v,he,hv,Cr⟩=>?_
 subst he;have hb:v=.bool true:=hv.1;subst hb;exact ⟨_,rfl,_,_,_,[],_,[],hW',trodAll_mk1 (shut_bool Tryz.underlying4 _),(trodAll_mk1 (Below.trod laidOut (by kernel_rfl) (J1 (by kernel_rfl)) k0 Cr lt0)),rfl,Cr.frame _,fun h=>by cases h⟩
theorem over:Rows.InductionGoalsSaid:=
 OpenClaim.holds_of_wide (p:=Tryz.pinned) 8 Tryz.f8 rfl rfl rfl rfl rfl rfl rfl ⟨rfl,rfl,rfl,rfl,rfl⟩ rfl rfl rfl rfl rfl NZ.named Tryz.func8 NZ.closed
  (J1 (by kernel_rfl)) (by unfold Func.isWrapper;first|(rw [C4 (by decide+kernel)];kernel_rfl)|(rw [Dd (by decide+kernel)];exact ⟨rfl,rfl⟩))
  (fun os started H enc _=>lifted os started H enc)
theorem params (f:FuncId) (fn:Func) (hf:Tryz.prog.funcNamed "lispprover/lispproverlaw37.InductionGoals"=some f) (hfn:Tryz.prog.funcs[f]?=some fn):false=Tryz.prog.looks []/\∀(j:Nat) t,fn.params[j]?=some t->Tryz.prog.wantsStandIn t=false:=by
 obtain rfl:f=8:=(Jx (NZ.named.symm.trans hf)).symm;obtain rfl:fn=Tryz.f8:=(Jx (Tryz.func8.symm.trans hfn)).symm;refine ⟨looks,fun j t ht=>?_⟩
 rw [Tryz.params8] at ht;have h3:t=22:=by
  rcases j with _|j
  ·simpa using ht.symm
  ·simp at ht
 subst h3;exact (show Tryz.prog.wantsStandIn 22=false by kernel_rfl)
theorem proved:Rows.InductionGoalsCardSaid:=
 Claim7.holds_tied_plain_at (p:=Tryz.pinned) (c:=Rows.inductionGoalsRow) .later [] [.data,.data,.data,.data,.pinned,.pinned,.pinned,.pinned,.pinned,.pinned] true (true, "553e0069a973972142efee23b9f5ec7bad0651dc19b133852792b5bb8afd5c39") false
  over (fun _ h=>by cases h) (by kernel_rfl) (fun _ h=>by cases h) inductionGoals_row_tie rfl ⟨rfl,rfl⟩ mainIs rfl
  params NZ.goesBy.symm
end Go.Proofs.YtolnnaanmfnkjaaGreatDoor.inductionGoals
