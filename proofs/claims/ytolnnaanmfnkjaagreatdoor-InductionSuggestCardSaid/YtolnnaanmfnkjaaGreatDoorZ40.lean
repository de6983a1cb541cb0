import Derived.Test.YtolnnaanmfnkjaaGreatDoorZ37
import Derived.Test.YtolnnaanmfnkjaaGreatDoorZ39
import Derived.KernelRfl
import Derived.Deep.Slices
import Derived.Test.YtolnnaanmfnkjaaGreatDoorRows
import Derived.LaidMore
import Derived.Lib.LaidPrint
import Derived.ProofKit
import Derived.OpenShut
import Derived.Stop.Joined
import Derived.ChangeOld
set_option linter.all false
set_option maxHeartbeats 0
set_option maxRecDepth 100000
noncomputable section
namespace Go.Ey.Pr
open Seat RowKit Proofs
set_option maxRecDepth 1000000 in
theorem at0:ak8 (jL FX 300 9 [])=true:=by kernel_rfl
theorem arf:nY PP 9 [] [.one (cb true)]:=xok (ahW at0)
def kOb:Ob->List K
 |.cons a b=>[kI 4,kE,kE,kE,kE,kE,.sl 7 [kOb b,kOb a] 2]
 |.num n d=>kO (.num n d)
 |.sy p s=>kO (.sy p s)
 |.st t=>kO (.st t)
theorem Sw (o:Ob):(kOb o).length=7:=by cases o<;>rfl
theorem akf:∀o:Ob,gJ (kOb o) (enc o)
 |.cons a b=>by have h1:=nO.cons (akf a) (Sw a) (nO.nil (aj:=7));have h2:=nO.cons (akf b) (Sw b) h1;exact .cons (RK.i _ _) (.cons JM (.cons JM (.cons JM (.cons JM (.cons JM (.cons (RK.sl 7 [kOb b,kOb a] 2 _ h2 rfl) .nil))))))
 |.num n d=>rkO (o:=.num n d) rfl
 |.sy p s=>rkO (o:=.sy p s) rfl
 |.st t=>rkO (o:=.st t) rfl
theorem gJ.app:∀{a b:List K} {c d:List C},gJ a c->gJ b d->gJ (a++b) (c++d)
 |[],_,_,_,.nil,h=>h
 |_::_,_,_,_,.cons h1 h2,h=> .cons h1 (gJ.app h2 h)
theorem nO.snoc {e:Nat}:∀{rev:List (List K)} {cs:List C} {row:List K} {r:List C},nO e rev cs->gJ row r->row.length=e->nO e (rev++[row]) (r++cs)
 |[],_,row,r,.nil,h,hl=>by
  have:=nO.cons h hl (nO.nil (aj:=e))
  simpa using this
 |x::rev,_,row,r,.cons h1 h2 h3,h,hl=>by rw [E3,<-List.append_assoc];exact nO.cons h1 h2 (nO.snoc h3 h hl)
mutual
def kT:Tm->List K
 |.var p s=>[kI 1,kS p,kS s,kI 0,kE,kE,kE,kE,kE,kz,kz]
 |.dV o=>[kI 2,kE,kE]++kOb o++[kz]
 |.app p s ts=>[kI 3,kS p,kS s,kI 0,kE,kE,kE,kE,kE,kz,.sl 11 (kTr ts) ts.length]
def kTr:List Tm->List (List K)
 |[]=>[]
 |t::ts=>kTr ts++[kT t]
end
theorem amQ (t:Tm):(kT t).length=11:=by
 cases t with
 |dV o=>simp [kT,Sw]
 |_=>rfl
theorem aad:∀ts:List Tm,(kTr ts).length=ts.length
 |[]=>rfl
 |t::ts=>by simp [kTr,aad ts]
theorem atc (o:Ob):[ak (enc o) 0,ak (enc o) 1,ak (enc o) 2,ak (enc o) 3,ak (enc o) 4,ak (enc o) 5,ak (enc o) 6,cz]=enc o++[cz]:=by cases o<;>rfl
mutual
theorem rkT:∀t:Tm,gJ (kT t) (aa t)
 |.var p s=> .cons (RK.i _ _) (.cons (Fj p) (.cons (Fj s) (.cons (RK.i _ _) (.cons JM (.cons JM (.cons JM (.cons JM (.cons JM (.cons rkZ (.cons rkZ .nil))))))))))
 |.dV o=>by rw [aa,atc];exact .cons (RK.i _ _) (.cons JM (.cons JM (gJ.app (akf o) (.cons rkZ .nil))))
 |.app p s ts=> .cons (RK.i _ _) (.cons (Fj p) (.cons (Fj s) (.cons (RK.i _ _) (.cons JM (.cons JM (.cons JM (.cons JM (.cons JM (.cons rkZ (.cons (RK.sl 11 (kTr ts) _ _ (an7 ts) (aad ts)) .nil))))))))))
theorem an7:∀ts:List Tm,nO 11 (kTr ts) (eZ ts)
 |[]=>nO.nil
 |t::ts=>nO.snoc (an7 ts) (rkT t) (amQ t)
end
mutual
def Kq:K->K->Bool
 |.i k n,.i k' n'=>decide (k=k') && decide (n=n')
 |.b x,.b y=>decide (x=y)
 |.s l w,.s l' w'=>Nat.beq l l' && Nat.beq w w'
 |.sl e r n,.sl e' r' n'=>Nat.beq e e' && (Nat.beq n n' && abl r r')
 |_,_=>false
def Eh:List K->List K->Bool
 |[],[]=>true
 |x::xs,y::ys=>Kq x y && Eh xs ys
 |_,_=>false
def abl:List (List K)->List (List K)->Bool
 |[],[]=>true
 |x::xs,y::ys=>Eh x y && abl xs ys
 |_,_=>false
end
mutual
theorem ald:∀(a b:K),Kq a b=true->a=b
 |.i k n,.i k' n',h=>by simp only [Kq,A5,G0] at h;rw [h.1,h.2]
 |.b x,.b y,h=>by simp only [Kq,G0] at h;rw [h]
 |.s l w,.s l' w',h=>by simp only [Kq,A5] at h;rw [Bx h.1,Bx h.2]
 |.sl e r n,.sl e' r' n',h=>by simp only [Kq,A5] at h;rw [Bx h.1,Bx h.2.1,aaR _ _ h.2.2]
 |.o _,.i _ _,h=>by simp [Kq] at h
 |.o _,.b _,h=>by simp [Kq] at h
 |.o _,.s _ _,h=>by simp [Kq] at h
 |.o _,.sl _ _ _,h=>by simp [Kq] at h
 |.o _,.o _,h=>by simp [Kq] at h
 |.i _ _,.b _,h=>by simp [Kq] at h
 |.i _ _,.s _ _,h=>by simp [Kq] at h
 |.i _ _,.sl _ _ _,h=>by simp [Kq] at h
 |.i _ _,.o _,h=>by simp [Kq] at h
 |.b _,.i _ _,h=>by simp [Kq] at h
 |.b _,.s _ _,h=>by simp [Kq] at h
 |.b _,.sl _ _ _,h=>by simp [Kq] at h
 |.b _,.o _,h=>by simp [Kq] at h
 |.s _ _,.i _ _,h=>by simp [Kq] at h
 |.s _ _,.b _,h=>by simp [Kq] at h
 |.s _ _,.sl _ _ _,h=>by simp [Kq] at h
 |.s _ _,.o _,h=>by simp [Kq] at h
 |.sl _ _ _,.i _ _,h=>by simp [Kq] at h
 |.sl _ _ _,.b _,h=>by simp [Kq] at h
 |.sl _ _ _,.s _ _,h=>by simp [Kq] at h
 |.sl _ _ _,.o _,h=>by simp [Kq] at h
theorem uj:∀(a b:List K),Eh a b=true->a=b
 |[],[],_=>rfl
 |x::xs,y::ys,h=>by simp only [Eh,A5] at h;rw [ald _ _ h.1,uj _ _ h.2]
 |[],_::_,h=>by simp [Eh] at h
 |_::_,[],h=>by simp [Eh] at h
theorem aaR:∀(a b:List (List K)),abl a b=true->a=b
 |[],[],_=>rfl
 |x::xs,y::ys,h=>by simp only [abl,A5] at h;rw [uj _ _ h.1,aaR _ _ h.2]
 |[],_::_,h=>by simp [abl] at h
 |_::_,[],h=>by simp [abl] at h
end
def dB:K->ByteArray
 |.s l w=>⟨(strOf l w).toArray⟩
 |_=>⟨#[]⟩
def amx:Nat->List K->Option Ob
 |n+1,[.i _ (.ofNat c),a1,a2,a3,a4,a5,r]=>
  match c with
  |1=>some (.num (dB a1) (dB a2))
  |2=>some (.sy (dB a3) (dB a4))
  |3=>some (.st (dB a5))
  |4=>match r with
   |.sl _ [b,a] _=>(amx n a).bind fun x=>(amx n b).map fun y=> .cons x y
   |_=>none
  |_=>none
 |_,_=>none
def aoG (f:List K->Option Tm):List (List K)->List Tm->Option (List Tm)
 |[],acc=>some acc
 |r::rs,acc=>(f r).bind fun t=>aoG f rs (t::acc)
def abn:Nat->List K->Option Tm
 |n+1,[.i _ (.ofNat c),p,s,o0,o1,o2,o3,o4,o5,o6,z]=>
  match c with
  |1=>some (.var (dB p) (dB s))
  |2=>(amx 20 [o0,o1,o2,o3,o4,o5,o6]).map .dV
  |3=>match z with
   |.sl _ rev _=>(aoG (abn n) rev []).map fun ts=> .app (dB p) (dB s) ts
   |_=>none
  |_=>none
 |_,_=>none
def aiL (ps:List aI):K:=.sl 2 (ps.map fun p=>[kS p.1,kS p.2]).reverse ps.length
def Ph:List (List K)->List aI->List aI
 |[x,y]::rs,acc=>Ph rs ((dB x,dB y)::acc)
 |_::rs,acc=>Ph rs acc
 |[],acc=>acc
inductive Dat where
 |none
 |other
 |many
 |some (ps:List aI) (body mt:Tm)
def ksb (ks:List Cs):Bool:=Nat.blt ks.length 1000 && ks.all fun c=>(Nat.blt c.tests.length 1000 && c.tests.all fun t=>Nat.ble (ah t) 30) && (Nat.blt c.subs.length 1000 && c.subs.all fun s=>Nat.ble s.length 1000 && s.all fun a=>Nat.ble (ah a.t) 30)
theorem aeV {ks:List Cs} (h:ksb ks=true):RO ks:=by simp only [ksb,A5,D0,Nat.blt_eq,Ln] at h;exact ⟨h.1,fun c hc=>⟨(h.2 c hc).1.1,(h.2 c hc).1.2⟩,fun c hc=>⟨(h.2 c hc).2.1,fun s hs=>⟨((h.2 c hc).2.2 s hs).1,((h.2 c hc).2.2 s hs).2⟩⟩⟩
def akL (w:K) (k i:Nat):Option K:=match w with
 |.sl _ rev n=>cond (Nat.blt k n) ((rev.getD (n - 1 - k) [])[i]?) Option.none
 |_=>Option.none
def alY (w:K) (nm:aI) (a1 a2:bD):Option Dat:=
 match a1,a2 with
 |.ret [.l 37 xs,.c (.b ok)] [],.ret [.c (.i .i64 (.ofNat k)),.c _] []=>
  cond (Nat.beq xs.length 37) (cond ok
   (match xs with
   |a::b:: .sl 2 pr pn:: .i .i64 cl::rest=>
    cond (decide (cl=1))
     (match akL w k 20 with
     |Option.some (.sl _ _ cnt)=>
      cond (Nat.beq cnt 1)
       (match abn 100 ((rest.drop 11).take 11) with
       |Option.some body=>
        let ps:=Ph pr []
        let mt:=(abn 100 (rest.drop 22)).getD (.dV (.st ⟨#[]⟩))
        cond (Eh [kS nm.1,kS nm.2,aiL ps] [a,b,.sl 2 pr pn] && (Eh (kT body) ((rest.drop 11).take 11) && (Nat.ble (ah body) 3000 && (Nat.ble ps.length 1000 && Xi xs))))
         (match Ti (jL FX 300 121 [.agg (OX xs)]) with
         |Option.none=>Option.none
         |Option.some Option.none=>Option.some (.some ps body mt)
         |Option.some (Option.some ks)=>cond (ksb ks && (Eh (kT mt) (rest.drop 22) && (Nat.ble (ah mt) 30 && vOK mt ps ks))) (Option.some (.some ps body mt)) Option.none)
         Option.none
       |Option.none=>Option.none)
       (Option.some .many)
     |_=>Option.none)
     (Option.some .other)
   |_=>Option.none) (Option.some .none)) Option.none
 |_,_=>Option.none
def adB (nm:aI):Option Dat:=alY D6 nm ((jm ZC 3000).fn 101 [.c D6,.l 2 [kS nm.1,kS nm.2]] []) ((jm ZC 3000).fn 120 [.c D6,.l 2 [kS nm.1,kS nm.2]] [])
def Pj (i:Nat):Bool:=((names.drop (4 * i)).take 4).all fun nm=>(adB nm).isSome
theorem aqI:Pj 0=true:=by kernel_rfl
theorem aqA:Pj 1=true:=by kernel_rfl
theorem apg:Pj 2=true:=by kernel_rfl
theorem ank:Pj 3=true:=by kernel_rfl
theorem aqu:Pj 4=true:=by kernel_rfl
theorem aoz:Pj 5=true:=by kernel_rfl
theorem anQ:Pj 6=true:=by kernel_rfl
theorem ap8:Pj 7=true:=by kernel_rfl
theorem aoL:Pj 8=true:=by kernel_rfl
theorem apy:Pj 9=true:=by kernel_rfl
theorem Kc {α:Type} {f:α->Bool} {k:Nat}:∀(n:Nat) (l:List α),l.length<=k * n->(∀i,i < n->((l.drop (k * i)).take k).all f=true)->l.all f=true
 |0,l,h,_=>by
  have:l=[]:=Cp (by omega)
  subst this;rfl
 |n+1,l,h,hi=>by
  rw [<-List.take_append_drop k l,List.all_append,A5];refine ⟨by simpa using hi 0 (by omega),Kc (k:=k) n (l.drop k) (by rw [Ft];rw [Nat.mul_add,Nat.mul_one] at h;omega) fun i hn=>?_⟩
  have:=hi (i+1) (by omega)
  rwa [Nat.mul_add,Nat.mul_one,Nat.add_comm,<-List.drop_drop] at this
theorem QE:names.all (fun nm=>(adB nm).isSome)=true:=Kc (k:=4) 10 names (by decide) fun i hi=>match i,hi with
 |0,_=>aqI
 |1,_=>aqA
 |2,_=>apg
 |3,_=>ank
 |4,_=>aqu
 |5,_=>aoz
 |6,_=>anQ
 |7,_=>ap8
 |8,_=>aoL
 |9,_=>apy
 |i+10,h=>absurd h (by omega)
theorem Bd:∀{xs:List K} {es:List C},gJ xs es->∀{i:Nat} {x:K},xs[i]?=some x->RK x (ak es i)
 |_,_,.nil,_,_,h=>by simp at h
 |_,_,.cons h1 _,0,x,h=>by simp only [C0,A0] at h;subst h;exact h1
 |_,_,.cons _ h2,i+1,x,h=>by simp only [Bm] at h;exact Bd h2 h
theorem Z5 {e:Nat}:∀{rev:List (List K)} {cs:List C},nO e rev cs->cs.length=rev.length * e/\∀k,k < rev.length->∃r,gJ (rev.getD (rev.length - 1 - k) []) r/\(cs.drop (k * e)).take e=r
 |[],_,.nil=>⟨by simp,fun k hk=>absurd hk (Nat.not_lt_zero _)⟩
 |row::rev,_,.cons (r:=r) (cs:=cs) h1 h2 h3=>by
  obtain ⟨g1,g2⟩:=Z5 h3;have hr:r.length=e:=by rw [gJ.length h1];exact h2
  refine ⟨by simp [g1,hr,Mu],fun k hk=>?_⟩
  by_cases hk2:k < rev.length
  ·obtain ⟨q,q1,q2⟩:=g2 k hk2;have h4:=Cd e hk2;rw [G1] at h4;refine ⟨q,?_,?_⟩
   ·rw [show (row::rev).length - 1 - k=(rev.length - 1 - k)+1 by simp;omega,List.getD_cons_succ]
    exact q1
   ·rw [My (by omega),L5 (by simp;omega)]
    exact q2
  ·simp only [C5] at hk;obtain rfl:k=rev.length:=by omega
   refine ⟨r,?_,?_⟩
   ·rw [show (row::rev).length - 1 - rev.length=0 by simp,List.getD_cons_zero]
    exact h1
   ·rw [<-g1,List.drop_left,Jx (by omega)]
theorem aao {e:Nat} {w x:K} {cw:C} {k i:Nat} (hw:RK w cw) (he:∃r n,w=.sl e r n) (h:akL w k i=some x):∃es,fI e cw (ci k)=some es/\RK x (ak es i):=by
 obtain ⟨rev,n,rfl⟩:=he;cases hw with
 |sl _ _ _ cs h1 h2=>
  obtain ⟨g1,g2⟩:=Z5 h1;simp only [akL] at h;cases hb:Nat.blt k n with
  |false=>rw [hb] at h;cases h
  |true=>
   rw [hb,F1] at h;have hk:k < n:=by simpa [Nat.blt_eq] using hb
   subst h2;obtain ⟨r,q1,q2⟩:=g2 k hk;have h4:=Cd e hk;rw [G1] at h4;refine ⟨r,?_,Bd q1 h⟩;simp only [fI,ci];rw [C6 ⟨by omega,by omega,by simp only [Int.toNat_natCast];rw [Mu,Nat.one_mul];omega⟩,Int.toNat_natCast,q2]
theorem RK.jk {e n:Nat} {r:List (List K)} {c:C} (h:RK (.sl e r n) c):jk false c=some (ci n):=by
 cases h with
 |sl _ _ _ cs h1 h2=>rfl
theorem ajQ:∀ps:List aI,nO 2 (ps.map fun p=>[kS p.1,kS p.2]).reverse (ps.flatMap bP)
 |[]=>nO.nil
 |p::ps=>by rw [D4,List.reverse_cons,D3];exact nO.snoc (ajQ ps) (.cons (Fj _) (.cons (Fj _) .nil)) rfl
theorem ac8 (ps:List aI):RK (aiL ps) (rows bP ps):=RK.sl 2 _ _ _ (ajQ ps) (by simp)
theorem BI:∀{a b:List K} {es:List C},gJ (a++b) es->∃c d,es=c++d/\gJ a c/\gJ b d
 |[],_,es,h=>⟨[],es,rfl,.nil,h⟩
 |_::a,_,_,.cons h1 h2=>by obtain ⟨c,d,rfl,g1,g2⟩:=BI h2;exact ⟨_::c,d,rfl,.cons h1 g1,g2⟩
section
variable {nat:Nat->List V->Option (List V)}
theorem ZN:(T nat).ko 101=some [.one,.agg 2]:=by kernel_rfl
theorem aam:(T nat).ko 120=some [.one,.agg 2]:=by kernel_rfl
def auf (nat:Nat->List V->Option (List V)) (cw:C) (nm:aI):Prop:=∀off:List aI,off.length < 100000->∃cd:Tm->Option gX,∀u:Tm,aN u=nm->ah u<=90->
 bq (T nat).G 45 [.v (.one cw),.v (.one (rows bP off)),.v (.agg (aa u))] []=some (OW (cd u),[])/\∀c,cd u=some c->OT c
def aaS (nat:Nat->List V->Option (List V)):Prop:=∀(es:List C) (rs:List V),es.length=37->jL FX 300 121 [.agg es]=some rs->bq (T nat).G 121 [.v (.agg es)] []=some (rs,[])
theorem asQ (hn:qd nat) (hs:aaS nat) {cw:C} (hw:RK D6 cw) {nm:aI} (hnm:nm∈names):auf nat cw nm:=by
 have hd:=D0.1 QE nm hnm;have hwl:∃r n,D6=.sl 32 r n:=⟨wlE,38,rfl⟩;obtain ⟨d,hd⟩:=Option.isSome_iff_exists.1 hd;intro off ho;simp only [adB,alY] at hd;split at hd
 case h_2=>cases hd
 rename_i xs ok k _ e1 e2;cases hx:Nat.beq xs.length 37 with
 |false=>rw [hx] at hd;cases hd
 |true=>
  rw [hx,F1] at hd;have hxl:xs.length=37:=Bx hx;obtain ⟨r1,g1,g2,g3⟩:=AO (NK hn) ZN (ts:=[.v (.one (.v 0)),.v (.agg (.all 0))]) rfl (ys:=[.c D6,.l 2 [kS nm.1,kS nm.2]]) (us:=[.v (.one cw),.v (.agg [cs nm.1,cs nm.2])]) ⟨hw,⟨gJ.cons (Fj _) (gJ.cons (Fj _) gJ.nil),rfl⟩,trivial⟩ (zs:=[]) (css:=[]) trivial e1;obtain ⟨a1,b1⟩:=r1
  match a1,b1,g2,g3 with
  |[.agg es,.one c1],[],g2,_=>
   have hes:gJ xs es:=g2.1.1;have hok:RK (.b ok) c1:=g2.2.1;have hel:es.length=37:=by rw [gJ.length hes,hxl]
   rw [hok.bool] at g1;obtain ⟨c2,d2,q1,q2,q3⟩:=kc2 hn aam (ts:=[.v (.one (.v 0)),.v (.agg (.all 0))]) rfl (ys:=[.c D6,.l 2 [kS nm.1,kS nm.2]]) (us:=[.v (.one cw),.v (.agg [cs nm.1,cs nm.2])]) ⟨hw,⟨gJ.cons (Fj _) (gJ.cons (Fj _) gJ.nil),rfl⟩,trivial⟩ e2;rw [q1.int] at q3;have g1':bq (T nat).G 101 [.v (.one cw),.v (.agg (bP nm))] []=some ([.agg es,.one (cb ok)],[]):=g1;have q3':bq (T nat).G 120 [.v (.one cw),.v (.agg (bP nm))] []=some ([.one (ci (k:Int)),.one d2],[]):=q3;cases ok with
   |false=>
    refine ⟨fun _=>none,fun u hu _=>⟨?_,fun c hc=>by cases hc⟩⟩
    exact anm (by rw [hu];exact g1') hel
   |true=>
    rw [F1] at hd;split at hd
    case h_2=>cases hd
    rename_i a b pr pn cl rest _;have r3:RK (.i .i64 cl) (ak es 3):=Bd hes rfl;have r2:RK (.sl 2 pr pn) (ak es 2):=Bd hes rfl;by_cases hcl:cl=1
    ·subst hcl;simp only [eq_self_iff_true,decide_true,F1] at hd;have e3:ak es 3=ci 1:=by rw [r3.int];rfl
     split at hd
     case h_2=>cases hd
     rename_i _ _ _ cnt hrow;obtain ⟨fs,hr1,hr2⟩:=aao hw hwl hrow;cases hc1:Nat.beq cnt 1 with
     |false=>
      refine ⟨fun _=>none,fun u hu _=>⟨?_,fun c hc=>by cases hc⟩⟩
      exact apu ho (by rw [hu];exact g1') hel e3 (RK.jk r2) (by rw [hu];exact q3') hr1 (RK.jk hr2) (fun e=>by rw [e] at hc1;cases hc1)
     |true=>
      rw [hc1,F1] at hd;have hcnt:cnt=1:=Bx hc1;split at hd
      case h_2=>cases hd
      rename_i _ body hbody;cases hq:(Eh [kS nm.1,kS nm.2,aiL (Ph pr [])] [a,b,.sl 2 pr pn] && (Eh (kT body) ((rest.drop 11).take 11) && (Nat.ble (ah body) 3000 && (Nat.ble (Ph pr []).length 1000 && Xi (a::b:: .sl 2 pr pn:: .i .i64 1::rest))))) with
      |false=>rw [hq] at hd;cases hd
      |true=>
       rw [hq,F1] at hd;simp only [A5,Ln] at hq;obtain ⟨k1,k2,k3,k4,k5⟩:=hq;have heq:=gJ.one hes (H7 _ k5);cases hS:Ti (jL FX 300 121 [.agg (OX (a::b:: .sl 2 pr pn:: .i .i64 1::rest))]) with
       |none=>rw [hS] at hd;cases hd
       |some sc=>
       rw [hS] at hd;have Pq:=hs es _ hel (by rw [heq];exact Su hS)
       clear heq hS;have k1':=uj _ _ k1;simp only [Dg,and_true] at k1';obtain ⟨ka,kb,kp⟩:=k1';have k2':=uj _ _ k2;obtain ⟨ps,hps⟩:∃ps,ps=Ph pr []:=⟨_,rfl⟩;rw [<-hps] at kp k4 hd;subst ka kb;rw [<-kp] at hes;have hrl:rest.length=33:=by simp at hxl;omega
       have hsp:rest=rest.take 11++((rest.drop 11).take 11++rest.drop 22):=by rw [show rest.drop 22=(rest.drop 11).drop 11 by rw [List.drop_drop],Iv,Iv]
       rw [hsp,<-k2'] at hes
       match es,hes with
       |_::_::_::_::tl,.cons h1 (.cons h2 (.cons h3 (.cons h4 h5)))=>
        obtain ⟨gd,bm,rfl,hgd,hbm⟩:=BI h5;obtain ⟨bd,ms,rfl,hbd,hms⟩:=BI hbm;have e1:=RK.one h1 (Fj nm.1);have e2:=RK.one h2 (Fj nm.2);have e3':=RK.one h3 (ac8 ps);have e4:=h4.int;have e5:=gJ.one hbd (rkT body);subst e1 e2 e3' e4 e5;have hgl:gd.length=11:=by rw [gJ.length hgd];simp;omega
        have hml:ms.length=11:=by rw [gJ.length hms];simp;omega
        have hf:Fd.OK ⟨nm,ps,1,gd,body,ms⟩:=⟨hgl,hml,k3,k4⟩;obtain ⟨mt,hmt⟩:∃mt,mt=(abn 100 (rest.drop 22)).getD (.dV (.st ⟨#[]⟩)):=⟨_,rfl⟩;rw [<-hmt] at hd;have hks:∀ks,sc=some ks->RO ks/\ms=aa mt/\ah mt<=30/\vOK mt ps ks=true:=fun ks hk=>by
         subst hk;cases hq:(ksb ks && (Eh (kT mt) (rest.drop 22) && (Nat.ble (ah mt) 30 && vOK mt ps ks))) with
         |false=>simp only [hq,Ek] at hd;cases hd
         |true=>
          simp only [A5,Ln] at hq;have h6:=uj _ _ hq.2.1;rw [<-h6] at hms;exact ⟨aeV hq.1,gJ.one hms (rkT mt),hq.2.2.1,hq.2.2.2⟩
        refine ⟨cdF off ⟨nm,ps,1,gd,body,ms⟩ mt sc,fun u hu hun=>⟨?_,fun c hc=>aj7 hf (fun ks hk=>⟨(hks ks hk).1,(hks ks hk).2.2.1,(hks ks hk).2.2.2⟩) hun hc⟩⟩
        exact x45 ho hf rfl (by rw [hu];exact g1') (by rw [hu];exact q3') hr1 (by rw [(RK.jk hr2),hcnt];rfl) Pq (fun ks hk=>⟨(hks ks hk).1,(hks ks hk).2.1,(hks ks hk).2.2.1⟩) (by omega)
    ·refine ⟨fun _=>none,fun u hu _=>⟨?_,fun c hc=>by cases hc⟩⟩
     exact anq (by rw [hu];exact g1') hel r3.int hcl
mutual
theorem alu {P:Tm->Prop} (hP:∀p s ts,P (.app p s ts)->∀x∈ts,P x):∀(t:Tm) (l:List Tm),(∀x∈l,P x)->P t->∀x∈lg l t,P x
 |.var p s,l,hl,ht=>by
  rw [lg];cases memT l (.var p s) with
  |true=>exact hl
  |false=>exact fun x hx=>(B0.1 hx).elim (hl x) fun h=>by rw [B8.1 h];exact ht
 |.dV o,l,hl,ht=>by
  rw [lg];cases memT l (.dV o) with
  |true=>exact hl
  |false=>exact fun x hx=>(B0.1 hx).elim (hl x) fun h=>by rw [B8.1 h];exact ht
 |.app p s ts,l,hl,ht=>by
  rw [lg];refine SS hP ts _ ?_ (hP p s ts ht);cases memT l (.app p s ts) with
  |true=>exact hl
  |false=>exact fun x hx=>(B0.1 hx).elim (hl x) fun h=>by rw [B8.1 h];exact ht
theorem SS {P:Tm->Prop} (hP:∀p s ts,P (.app p s ts)->∀x∈ts,P x):∀(ts l:List Tm),(∀x∈l,P x)->(∀x∈ts,P x)->∀x∈fG l ts,P x
 |[],l,hl,_=>by rw [fG];exact hl
 |t::ts,l,hl,ht=>by rw [fG];exact SS hP ts _ (alu hP t l hl (ht t (by simp))) fun x hx=>ht x (by simp [hx])
end
theorem aag (cd:Tm->Option gX):∀l:List Tm,(YI cd l).length<=l.length
 |[]=>An _
 |u::l=>by
  have h:=aag cd l;rw [YI];cases decide (Go.Proofs.fZ u=3) with
  |false=>simp;omega
  |true=>cases cd u<;>simp<;>omega
theorem Q4 {cd:Tm->Option gX} {c:gX}:∀{l:List Tm},c∈YI cd l->∃u∈l,Go.Proofs.fZ u=3/\cd u=some c
 |[],h=>by cases h
 |u::l,h=>by
  rw [YI] at h;by_cases hk:Go.Proofs.fZ u=3
  ·simp only [hk,decide_true,F1] at h;rcases B0.1 h with h|h
   ·refine ⟨u,Fk,hk,?_⟩;cases hc:cd u with
    |none=>rw [hc] at h;cases h
    |some d=>rw [hc] at h;rw [B8.1 h]
   ·obtain ⟨v,h1,h2⟩:=Q4 h;exact ⟨v,Fm _ h1,h2⟩
  ·simp only [hk,decide_false,Ek] at h;obtain ⟨v,h1,h2⟩:=Q4 h;exact ⟨v,Fm _ h1,h2⟩
theorem Vv {u:Tm} (h:okD u) (hk:Go.Proofs.fZ u=3):aN u∈names:=by
 cases u with
 |var p s=>cases hk
 |dV o=>cases hk
 |app p s ts=>exact h.1.1
def afL (nat:Nat->List V->Option (List V)):Prop:=∀ts:List Tm,(∀x∈ts,Gq x)->au ts<=90000->bq (T nat).G 44 [.v (.one (rows aa ts))] []=some ([.one (rows aa (fG [] ts))],[])
end
end Go.Ey.Pr
namespace Go.Ey.Pr
open Seat RowKit Proofs
def R1 (f:Nat) (vs rs:List V):Prop:=R0 f vs rs\/(f=9/\vs=[]/\rs=[.one (cb true)])\/(f=121/\jL FX 300 121 vs=some rs)
theorem atH:isN 9=true:=by kernel_rfl
theorem amG:isN 121=true:=by kernel_rfl
theorem afX:Rb R1:=⟨fun {f vs rs rs'} h h'=>by
  rcases h with h|⟨rfl,_,rfl⟩|⟨rfl,h⟩
  ·rcases h' with h'|⟨rfl,_,_⟩|⟨rfl,_⟩
   ·exact aay h h'
   ·rcases Km h with h|h<;>cases h
   ·rcases Km h with h|h<;>cases h
  ·rcases h' with h'|⟨_,_,rfl⟩|⟨hf,_⟩
   ·rcases Km h' with h|h<;>cases h
   ·rfl
   ·cases hf
  ·rcases h' with h'|⟨hf,_⟩|⟨_,h'⟩
   ·rcases Km h' with h|h<;>cases h
   ·cases hf
   ·exact I2 (h.symm.trans h'),fun h=>by
  rcases h with h|⟨rfl,_,_⟩|⟨rfl,_⟩
  ·exact aeJ.isN h
  ·exact atH
  ·exact amG,fun h=>by
  rcases h with h|⟨rfl,rfl,rfl⟩|⟨rfl,h⟩
  ·exact ajd h
  ·exact arf
  ·exact xok h⟩
theorem natFn {nat:Nat->List V->Option (List V)} {f:Nat} {xs:List LA} {vs rs:List V} {s:eT} (h0:(T nat).G.fn f=none) (h1:(T nat).sig f=some s) (h2:s.nat=true) (h3:s.boxes=[]) (h4:jq s.params xs=true) (h5:WX xs=some vs) (h:nat f vs=some rs):bq (T nat).G f xs []=some (rs,[]):=by
 refine aav h0 ?_;show (T nat).V3 f xs []=_
 have h6:(T nat).nat f vs=some rs:=h;simp [Seat.V3,h1,h2,h3,h4,h5,h6]
section
variable {R:Nat->List V->List V->Prop} (hR:Rb R) (hs:∀{f vs rs},R1 f vs rs->R f vs rs)
include hR hs
theorem ahS:aaS (Hw R):=fun es rs hl h=>natFn (s:=aml) (by kernel_rfl) (by kernel_rfl) rfl rfl (by simp [jq,aml,hl]) rfl (hR.at (hs (.inr (.inr ⟨rfl,h⟩))))
theorem afa:afL (Hw R):=fun ts h1 h2=>natFn (s:=s44) (by kernel_rfl) (by kernel_rfl) rfl rfl rfl rfl (hR.at (hs (.inl (.inr ⟨ts,⟨h1,h2⟩,rfl,rfl,rfl⟩))))
theorem ad1:kN (Hw R):=aiz fun n h1 h2=>hR.at (hs (.inl (.inl ⟨n,⟨h1,h2⟩,rfl,rfl,rfl⟩)))
theorem asL:bq (T (Hw R)).G 9 [] []=some yes:=natFn (s:=s9) (by kernel_rfl) (by kernel_rfl) rfl rfl rfl rfl (hR.at (hs (.inr (.inl ⟨rfl,rfl,rfl⟩))))
end
end Go.Ey.Pr
namespace Go.Ey
open RowKit
def Typed (P:Program):Nat->TypeId->List C->Prop
 |0,_,_=>False
 |n+1,t,cs=>
  match P.underlying t with
  |some .bool=>∃b,cs=[.lit (.bool b)]
  |some (.int k)=>∃z,cs=[.lit (.int k z)]/\(Lit.int k z).wf=true
  |some .string=>∃s:ByteArray,cs=[.lit (.string s)]/\s.size<=maxLen
  |some (.slice e)=>∃rows:List (List C),cs=[.slice rows.flatten rows.length]/\rows.length<=maxLen/\∀r∈rows,r.length=P.cellsOf e/\Typed P n e r
  |some (.struct fs)=>cs.length=P.cellsOf t/\∀f∈fs.toList,Typed P n f.type ((cs.drop f.offset).take (P.cellsOf f.type))
  |_=>False
def adu (P:Program) (total:Nat):Nat->List Field->Bool
 |off,[]=>decide (off=total)
 |off,f::fs=>decide (f.offset=off) && decide (off+P.cellsOf f.type<=total) && adu P total (off+P.cellsOf f.type) fs
def UZ (P:Program):Nat->TypeId->Bool
 |0,_=>false
 |n+1,t=>
  match P.underlying t with
  |some .bool|some (.int _)|some .string=>true
  |some (.slice e)=>decide (0 < P.cellsOf e) && UZ P n e
  |some (.struct fs)=>adu P (P.cellsOf t) 0 fs.toList && fs.toList.all fun f=>UZ P n f.type
  |_=>false
def Any:Nat->Nat->Prop:=fun _ _=>True
section
variable {H:Type} {enc:TypeId×Value->H} {P:Program} {w:World} {base:Nat} {spare:Nat->Bool} {held:Bool}
theorem Q3 {n total:Nat} {vs:List Value} (hv:vs.length=total):∀(fs:List Field) (off:Nat),off<=total->adu P total off fs=true->
  (∀f∈fs,∃cs,av (bJ w Any) cs ((vs.drop f.offset).take (P.cellsOf f.type))/\Typed P n f.type cs)->
  ∃cs,av (bJ w Any) cs (vs.drop off)/\∀f∈fs,off<=f.offset/\Typed P n f.type ((cs.drop (f.offset - off)).take (P.cellsOf f.type))
 |[],off,_,ht,_=>by simp only [adu,G0] at ht;subst ht;exact ⟨[],by rw [List.drop_eq_nil_of_le (by omega)];trivial,by simp⟩
 |f::fs,off,ho,ht,hf=>by
  simp only [adu,A5,G0] at ht;obtain ⟨⟨h1,h2⟩,h3⟩:=ht;obtain ⟨c0,k1,k2⟩:=hf f (by simp)
  obtain ⟨cs,k3,k4⟩:=Q3 hv fs (off+P.cellsOf f.type) h2 h3 fun g hg=>hf g (by simp [hg])
  have hlen:c0.length=P.cellsOf f.type:=by rw [k1.len,Fo,Ft];omega
  refine ⟨c0++cs,?_,fun g hg=>?_⟩
  ·have:=k1.append k3
   rw [h1,<-List.drop_drop,Iv] at this;exact this
  ·simp only [D2] at hg;rcases hg with rfl|hg
   ·refine ⟨by omega,?_⟩
    rw [h1,Nat.sub_self,C4,L5 (by omega),Jx (by omega)]
    exact k2
   ·obtain ⟨k5,k6⟩:=k4 g hg;refine ⟨by omega,?_⟩
    rw [show g.offset - off=c0.length+(g.offset - (off+P.cellsOf f.type)) by omega,<-List.drop_drop,List.drop_left]
    exact k6
theorem PT {n c:Nat} {e:TypeId} {a:Addr} (hc:c=P.cellsOf e):∀k,(∀i,i < k->∃us cs,w.cells? base (a.add (i * c)) c=some us/\av (bJ w Any) cs us/\Typed P n e cs)->
  ∃(rows:List (List C)) (us:List Value),rows.length=k/\us.length=k * c/\av (bJ w Any) rows.flatten us/\(∀j u,us[j]?=some u->w.cell? (a.add j)=some u)/\∀r∈rows,r.length=c/\Typed P n e r
 |0,_=>⟨[],[],rfl,by simp,trivial,by simp,by simp⟩
 |k+1,h=>by
  obtain ⟨rows,us,h1,h2,h3,h4,h5⟩:=PT hc k fun i hi=>h i (by omega)
  obtain ⟨vs,cs,k1,k2,k3⟩:=h k (by omega)
  obtain ⟨_,k4,k5⟩:=World.cells?_some k1;refine ⟨rows++[cs],us++vs,by simp [h1],by rw [Ax,h2,k4,G1],?_,?_,?_⟩
  ·simp only [List.flatten_append,List.flatten_cons,List.flatten_nil,Cl];exact h3.append k2
  ·intro j u hu;by_cases hj:j < us.length
   ·rw [Gk hj] at hu;exact h4 j u hu
   ·rw [Hv (by omega)] at hu
    have hlt:=(As.1 hu).1;have:=k5 (j - us.length) (by omega)
    rw [Go.Deep.add_add,hu,h2] at this;rw [show k * c+(j - k * c)=j by omega] at this
    exact this
  ·intro r hr;simp only [B0,B8] at hr;rcases hr with hr|rfl
   ·exact h5 r hr
   ·exact ⟨by rw [k2.len,k4],k3⟩
theorem aa4 {a:Addr} {rows:List C} {us:List Value} {len cap:Nat} (hl:len<=cap) (h3:av (bJ w Any) rows us) (h4:∀j u,us[j]?=some u->w.cell? (a.add j)=some u):bJ w Any (.slice rows len) (.slice (some a) len cap):=by
 simp only [bJ];have hs:rows≠[]->a.spot=none:=by
  intro hne;cases us with
  |nil=>cases rows with|nil=>exact absurd rfl hne|cons _ _=>exact h3.elim
  |cons u us=>
   have:=World.cell?_spot (h4 0 u rfl)
   simpa [Addr.add] using this
 refine .inr ⟨a,cap,rfl,hl,hs,Hz h3 fun i u hi=>⟨?_,trivial⟩⟩
 have hne:rows≠[]:=by
  intro e;subst e;cases us with
  |nil=>simp at hi
  |cons _ _=>exact h3.elim
 obtain ⟨b,o,sp⟩:=a;have:sp=none:=hs hne
 subst this;have:=h4 i u hi
 unfold Addr.add at this;split at this
 ·rename_i h0;subst h0;exact this
 ·exact this
theorem Gf:∀(n:Nat) (t:TypeId),UZ P n t=true->∀(fuel:Nat) (vs:List Value) (x:DataW H×List MemPlace),DataW.trod enc P w base spare held fuel t vs=some x->∃cs,av (bJ w Any) cs vs/\Typed P n t cs
 |0,_,h,_,_,_,_=>by cases h
 |n+1,t,h,fuel,vs,x,hx=>by
  unfold UZ at h;cases ht:P.underlying t with
  |none=>rw [ht] at h;cases h
  |some d=>
   rw [ht] at h;cases d with
   |bool=>
    obtain ⟨b,rfl,_⟩:=DataW.trod_bool ht hx;exact ⟨[.lit (.bool b)],⟨⟨rfl,rfl⟩,trivial⟩,by unfold Typed;rw [ht];exact ⟨b,rfl⟩⟩
   |int k=>
    obtain ⟨z,rfl,_,hw⟩:=DataW.trod_int ht hx;exact ⟨[.lit (.int k z)],⟨⟨rfl,rfl⟩,trivial⟩,by unfold Typed;rw [ht];exact ⟨z,rfl,hw⟩⟩
   |string=>
    obtain ⟨s,rfl,_,hs⟩:=DataW.trod_string ht hx;exact ⟨[.lit (.string s)],⟨⟨rfl,rfl⟩,trivial⟩,by unfold Typed;rw [ht];exact ⟨s,rfl,hs⟩⟩
   |slice e=>
    simp only [A5,G0] at h;rcases Go.Deep.open_slice ht hx with ⟨rfl,_⟩|⟨a,len,cap,m,n',D,Pl,rfl,hb,hl,hm,hmm,_,hel⟩
    ·refine ⟨[.slice [] 0],⟨by unfold bJ;exact .inl ⟨rfl,rfl,rfl⟩,trivial⟩,?_⟩
     unfold Typed;rw [ht];exact ⟨[],rfl,by simp,by simp⟩
    ·have hlm:len<=m:=by rw [hmm];split<;>omega
     obtain ⟨rows,us,h1,h2,h3,h4,h5⟩:=PT (w:=w) (base:=base) (n:=n) (a:=a) (rfl:P.cellsOf e=P.cellsOf e) len fun i hi=>by
      obtain ⟨us,k1,k2⟩:=hel i (by omega)
      obtain ⟨cs,k3,k4⟩:=Gf n e h.2 n' us _ k2;exact ⟨us,cs,k1,k3,k4⟩
     refine ⟨[.slice rows.flatten rows.length],⟨?_,trivial⟩,?_⟩
     ·rw [h1];exact aa4 hl h3 h4
     ·unfold Typed;rw [ht];exact ⟨rows,rfl,by omega,h5⟩
   |struct fs=>
    simp only [A5,D0] at h;obtain ⟨xs,m,rfl,_,hl,hxl,hf⟩:=DataW.trod_struct ht hx;obtain ⟨cs,k1,k2⟩:=Q3 (w:=w) (n:=n) hl fs.toList 0 (by omega) h.1 fun f hfm=>by
     obtain ⟨i,hi,hif⟩:=List.getElem_of_mem hfm;have hi':i < fs.size:=by simpa using hi
     have h1:=hf i f (by rw [Kf hi'];simpa using hif)
     rw [A6 (by omega)] at h1
     exact Gf n f.type (h.2 f hfm) m _ _ h1
    rw [C4] at k1;refine ⟨cs,k1,?_⟩;unfold Typed;rw [ht];refine ⟨by rw [k1.len];exact hl,fun f hfm=>?_⟩
    have:=(k2 f hfm).2
    rw [Nat.sub_zero] at this;exact this
   |_=>cases h
end
end Go.Ey
namespace Go.Ey.Pr
open Seat RowKit Proofs
theorem uT5:PP.underlying 5=some (.int .u8):=by kernel_rfl
theorem atS:PP.underlying 22=some (.slice 5):=by kernel_rfl
theorem amA:UZ PP 3 22=true:=by kernel_rfl
theorem adb {n:Nat} {cs:List C} (h:Typed PP n 5 cs):∃b:UInt8,cs=DY b:=by
 cases n with
 |zero=>exact h.elim
 |succ n=>
  unfold Typed at h;rw [uT5] at h;obtain ⟨z,rfl,h2⟩:=h;have h1:IntKind.u8.min<=z/\z<=IntKind.u8.max:=by simpa [Lit.wf] using h2
  have e1:IntKind.u8.min=0:=rfl;have e2:IntKind.u8.max=255:=rfl;refine ⟨UInt8.ofNat z.toNat,?_⟩;have:((UInt8.ofNat z.toNat).toNat:Int)=z:=by rw [UInt8.toNat_ofNat'];omega
  simp only [DY,this]
theorem Ux {n:Nat} {cs:List C} (h:Typed PP n 22 cs):∃bs:List UInt8,cs=[rows DY bs]/\bs.length<=maxLen:=by
 cases n with
 |zero=>exact h.elim
 |succ n=>
  unfold Typed at h;rw [atS] at h;obtain ⟨rw_,rfl,hl,hr⟩:=h;have key:∀l:List (List C),(∀r∈l,r.length=PP.cellsOf 5/\Typed PP n 5 r)->∃bs:List UInt8,l.flatten=bs.flatMap DY/\l.length=bs.length:=by
   intro l;induction l with
   |nil=>exact fun _=>⟨[],rfl,rfl⟩
   |cons r l ih=>
    intro hr;obtain ⟨bs,h1,h2⟩:=ih fun r' hr'=>hr r' (by simp [hr'])
    obtain ⟨b,rfl⟩:=adb (hr r (by simp)).2
    exact ⟨b::bs,by rw [List.flatten_cons,h1,D3],by simp [h2]⟩
  obtain ⟨bs,h1,h2⟩:=key rw_ hr;exact ⟨bs,by rw [h1,h2,rows],by omega⟩
theorem ak0:PP.globalNamed "internal/strconv.uint64pow10"=some 0:=by kernel_rfl
theorem aq2:(PP.globals[0]?).map (·.type)=some 331:=by kernel_rfl
theorem ap1:PP.underlying 331=some (.array 20 83):=by kernel_rfl
theorem aqD:PP.underlying 83=some (.int .u64):=by kernel_rfl
theorem ap5:PP.cellsOf 83=1:=by kernel_rfl
theorem asO:PP.cellsOf 331=20:=by kernel_rfl
theorem aj0 {P:Program} {w:World} {n:String} {cs:Array Value} {g:Nat} (hg:P.globalNamed n=some g) (h:w.var? P n=some cs):g < w.heap.size:=by
 unfold World.var? at h;simp only [hg,A4] at h;rcases L7 g w.heap.size with h'|h'
 ·exact h'
 ·simp [Mp h'] at h
theorem Vk {w w':World} (hb:Below w.heap.size w w') {b o:Nat} {v:Value} (h:w.cell? ⟨b,o,none⟩=some v):w'.cell? ⟨b,o,none⟩=some v:=by rw [hb.cell (World.block_lt_of_cell? _ _ h)];exact h
theorem ahk {w w':World} (hb:Below w.heap.size w w') {g:Nat} {k:IntKind} {t:List Nat} (h:Lib.TabSlice g k t w):Lib.TabSlice g k t w':=by obtain ⟨R,o,c,h1,h2⟩:=h;exact ⟨R,o,c,Vk hb h1,fun j hj=>Vk hb (h2 j hj)⟩
theorem ap9 {W:World} (h:ai9 W):C8 W.heap.size W:=fun w' hb=>by obtain ⟨T,⟨h1,h2,h3,h4,r⟩,u1,u2⟩:=h;exact ⟨T,⟨ahk hb h1,ahk hb h2,ahk hb h3,ahk hb h4,r⟩,fun c hc=>Vk hb (u1 c hc),fun i hi=>⟨Vk hb (u2 i hi).1,Vk hb (u2 i hi).2⟩⟩
theorem u8x:U8Extra PP Tryz.aeR:=⟨by kernel_rfl,by kernel_rfl,by kernel_rfl,by kernel_rfl,by kernel_rfl,by kernel_rfl,by kernel_rfl⟩
theorem prx:PrintExtra PP Tryz.aeR:=⟨by kernel_rfl,by kernel_rfl,by kernel_rfl,by kernel_rfl,by kernel_rfl,by kernel_rfl,by kernel_rfl,by kernel_rfl,by kernel_rfl,by kernel_rfl⟩
theorem inv_of {l1 l2 l5:String×DataW Unit} {W:World} (h:laidMet PP [l1,l2,("internal/strconv.uint64pow10",Lib.tabData .u64 Lib.pow10Tab),("unicode/utf8.acceptRanges",Lib.acceptData),l5,("strconv.isNotPrint16",Lib.sliceData .u16 Lib.goPrintTabs.n16),("strconv.isNotPrint32",Lib.sliceData .u16 Lib.goPrintTabs.n32),("strconv.isPrint16",Lib.sliceData .u16 Lib.goPrintTabs.p16),("strconv.isPrint32",Lib.sliceData .u32 Lib.goPrintTabs.p32),("unicode/utf8.first",Lib.firstData)] W):lV.Inv W.heap.size W:=by
 have r3:=Lib.laidMet.reads h (n:= "internal/strconv.uint64pow10") (.tail _ (.tail _ (.head _)));refine ⟨fun t ht=>?_,ap9 ⟨Lib.goPrintTabs,printTabs_of_reads (ρ:=Tryz.aeR) { Tryz.SE with} prx (Lib.laidMet.reads h (.tail _ (.tail _ (.tail _ (.tail _ (.tail _ (.tail _ (.tail _ (.head _))))))))) (Lib.laidMet.reads h (.tail _ (.tail _ (.tail _ (.tail _ (.tail _ (.head _))))))) (Lib.laidMet.reads h (.tail _ (.tail _ (.tail _ (.tail _ (.tail _ (.tail _ (.tail _ (.tail _ (.head _)))))))))) (Lib.laidMet.reads h (.tail _ (.tail _ (.tail _ (.tail _ (.tail _ (.tail _ (.head _)))))))),
  utf8Tabs_of_reads (ρ:=Tryz.aeR) { Tryz.SE with} u8x (Lib.laidMet.reads h (.tail _ (.tail _ (.tail _ (.tail _ (.tail _ (.tail _ (.tail _ (.tail _ (.tail _ (.head _))))))))))) (Lib.laidMet.reads h (.tail _ (.tail _ (.tail _ (.head _)))))⟩⟩
 obtain ⟨g2,t2,cs2,f2,p2,hg2,ht2,hv2,hd2⟩:=r3;obtain rfl:=I2 (ak0.symm.trans hg2);obtain rfl:=I2 (aq2.symm.trans ht2);simp only [B8] at ht;subst ht;refine ⟨0,ak0,aj0 ak0 hv2,?_⟩;show W.var? PP _=_
 rw [hv2,<-Lib.cells_of_tab ap1 aqD ap5 asO hd2]
def akE:List Nat:=[199,166,367,165,110,112]
theorem aiP:akE.all (fun k=>((T fun _ _=>none).F9 k).isSome)=true:=by kernel_rfl
def abo (g:KG):List Nat->KG
 |[]=>g
 |k::l=>abo (.node k (kfn k) g g) l
theorem aaX {nat:Nat->List V->Option (List V)}:∀(l:List Nat) (g:KG),Ai (T nat).G (T nat).ko g->(∀p∈l,((T fun _ _=>none).F9 p).isSome=true)->Ai (T nat).G (T nat).ko (abo g l)
 |[],g,hg,_=>hg
 |k::l,g,hg,hl=>aaX l _ ⟨ac4 (hl k Fk),hg,hg⟩ fun p hp=>hl p (Fm _ hp)
def kgE:KG:=abo ZC akE
theorem ach {nat:Nat->List V->Option (List V)} (hn:qd nat):Ai (T nat).G (T nat).ko kgE:=aaX akE ZC (NK hn) fun p hp=>D0.1 aiP p hp
def aan:Option (List Cs)->Option (List Cs)->Bool
 |none,none=>true
 |some a,some b=>Jd (rows dh a) (rows dh b)
 |_,_=>false
theorem aeM {a b:Option (List Cs)} (h:aan a b=true):LC a=LC b:=by
 match a,b,h with
 |none,none,_=>rfl
 |some a,some b,h=>simp only [LC,FY _ _ h]
def ai7 (x:List cu):List cu->List aI->Bool
 |a::l,p::ps=>nR a.t (ig x (.var p.1 p.2)) && ai7 x l ps
 |[],[]=>true
 |_,_=>false
theorem aaP (x:List cu):∀{l:List cu} {ps:List aI},ai7 x l ps=true->l.length=ps.length/\∀(k:Nat) (h:k < l.length) (h':k < ps.length),l[k].t=ig x (.var ps[k].1 ps[k].2)
 |[],[],_=>⟨rfl,fun k h=>absurd h (by simp)⟩
 |[],_::_,h=>by cases h
 |_::_,[],h=>by cases h
 |a::l,p::ps,h=>by
  simp only [ai7,A5] at h;obtain ⟨h1,h2⟩:=aaP x h.2;refine ⟨by simp [h1],fun k hk hk'=>?_⟩
  match k with
  |0=>exact NM h.1
  |k+1=>exact h2 k (by simpa using hk) (by simpa using hk')
def ag8 (ps:List aI):Option (List Cs)->Bool
 |none=>true
 |some ks=>ks.all fun c=>c.subs.all fun x=>ai7 x x ps
theorem ahw {ps:List aI} {ks:List Cs} (h:ag8 ps (some ks)=true):∀c∈ks,∀x∈c.subs,proper ps x:=fun c hc x hx=>aaP x (D0.1 (D0.1 h c hc) x hx)
def aks (A B:Option (Option (List Cs))) (ps:List aI):Bool:=match A,B with
 |some a,some b=>aan b a && ag8 ps a
 |_,_=>false
def amP (ps:List aI) (xs:List K):Bool:=aks (Ti (jL FX 300 121 [.agg (OX xs)])) (Ti (jL FX 300 113 [.agg (OX xs)])) ps
def aqf (nm:aI) (d:Option Dat) (a1 a2 a3 a4:bD):Bool:=match a1,a2,a3,a4 with
 |.ret [.l 37 xs,.c (.b ok)] [],.ret [.l 37 ys,.c (.b ok')] [],.ret [.c (.i .i64 (.ofNat k)),.c _] [],.ret [.c (.i .i64 (.ofNat k')),.c _] []=>
  Eh xs ys && (decide (ok=ok') && (Nat.beq k k' && (cond ok (Eh (xs.take 2) [kS nm.1,kS nm.2]) true && (match d with
   |some (.some ps _ _)=>amP ps xs
   |_=>true))))
 |_,_,_,_=>false
def am2 (nm:aI):Bool:=aqf nm (adB nm) ((jm ZC 3000).fn 101 [.c D6,.l 2 [kS nm.1,kS nm.2]] []) ((jm kgE 3000).fn 110 [.c D6,.l 2 [kS nm.1,kS nm.2]] []) ((jm ZC 3000).fn 120 [.c D6,.l 2 [kS nm.1,kS nm.2]] []) ((jm kgE 3000).fn 112 [.c D6,.l 2 [kS nm.1,kS nm.2]] [])
def O1 (i:Nat):Bool:=((names.drop (4 * i)).take 4).all am2
theorem aoQ:O1 0=true:=by kernel_rfl
theorem apS:O1 1=true:=by kernel_rfl
theorem aoi:O1 2=true:=by kernel_rfl
theorem anU:O1 3=true:=by kernel_rfl
theorem aoA:O1 4=true:=by kernel_rfl
theorem apH:O1 5=true:=by kernel_rfl
theorem ao7:O1 6=true:=by kernel_rfl
theorem apN:O1 7=true:=by kernel_rfl
theorem apa:O1 8=true:=by kernel_rfl
theorem apz:O1 9=true:=by kernel_rfl
theorem aby:names.all am2=true:=Kc (k:=4) 10 names (by decide) fun i hi=>match i,hi with
 |0,_=>aoQ
 |1,_=>apS
 |2,_=>aoi
 |3,_=>anU
 |4,_=>aoA
 |5,_=>apH
 |6,_=>ao7
 |7,_=>apN
 |8,_=>apa
 |9,_=>apz
 |i+10,h=>absurd h (by omega)
end Go.Ey.Pr
end
