/- A part. -/
import Derived.Test.YtolnnaanmfnkjaaGreatDoorZ17
import Derived.Test.YtolnnaanmfnkjaaGreatDoorZ20
import Derived.Test.YtolnnaanmfnkjaaGreatDoorZ22
import Derived.KernelRfl
import Derived.Test.YtolnnaanmfnkjaaGreatDoorChecked
set_option linter.all false
noncomputable section
namespace Go.Ey
inductive BT (α:Type) where
 |leaf
 |node (k:Nat) (v:α) (l r:BT α)
def BT.get {α:Type}:BT α->Nat->Option α
 |.leaf,_=>none
 |.node k v l r,n=>cond (Nat.beq n k) (some v) (cond (Nat.ble n k) (l.get n) (r.get n))
def jq:List PS->List LA->Bool
 |[],[]=>true
 |.one::ps,.v (.one _)::aJ=>jq ps aJ
 |.agg m::ps,.v (.agg xs)::aJ=>Nat.beq xs.length m && jq ps aJ
 |_,_=>false
theorem OG:∀{ps:List PS} {aJ:List LA},jq ps aJ=true->qA ps aJ
 |[],[],_=>trivial
 |.one::ps,.v (.one _)::aJ,h=>OG (ps:=ps) (aJ:=aJ) h
 |.agg m::ps,.v (.agg xs)::aJ,h=>by simp only [jq,A5] at h;exact ⟨Bx h.1,OG h.2⟩
 |[],_::_,h=>by simp [jq] at h
 |.one::_,[],h=>by simp [jq] at h
 |.agg _::_,[],h=>by simp [jq] at h
 |.ref _ _::_,_,h=>by simp [jq] at h
 |.fq _ _::_,_,h=>by simp [jq] at h
 |.one::_,.v (.agg _)::_,h=>by simp [jq] at h
 |.one::_,.v (.full _ _)::_,h=>by simp [jq] at h
 |.agg _::_,.v (.full _ _)::_,h=>by simp [jq] at h
 |.one::_,.ref _ _::_,h=>by simp [jq] at h
 |.agg _::_,.v (.one _)::_,h=>by simp [jq] at h
 |.agg _::_,.ref _ _::_,h=>by simp [jq] at h
def WX:List LA->Option (List V)
 |[]=>some []
 |.v x::r=>(WX r).bind fun l=>some (x::l)
 |.ref _ _::_=>none
theorem aac:∀{aJ:List LA} {vs:List V},WX aJ=some vs->aJ=vs.map .v
 |[],vs,h=>by simp only [WX,A0] at h;subst h;rfl
 |.v x::r,vs,h=>by simp only [WX,A1,A0] at h;obtain ⟨l,h1,rfl⟩:=h;rw [aac h1];rfl
 |.ref _ _::_,vs,h=>by simp [WX] at h
structure Seat where
 P:Program
 sh:Nat->Nat
 sg:BT eT
 hs:BT (List HS)
 nat:Nat->List V->Option (List V)
 isNat:Nat->Bool
namespace Seat
variable (T:Seat)
def code (f:Nat):Option Lh:=(T.P.funcs[f]?).bind fun fn=>Ku T.P T.sh fn
def F:DF:=⟨T.code,T.nat⟩
def sig (k:Nat):Option eT:=T.sg.get k
def heads (k:Nat):List HS:=(T.hs.get k).getD []
def fnG (k:Nat):Option cB:=(T.sig k).bind fun s=>if (s.nat||T.isNat (s.cd k))=true then none else (T.code (s.cd k)).bind fun I=>if I.nparams=s.params.length then some (PR T.sig 2000 s (T.heads k) I) else none
def V3 (f:Nat) (aJ:List LA):List (List C)->Option R
 |[]=>(T.sig f).bind fun s=>if (s.nat && s.boxes.isEmpty && jq s.params aJ)=true then (WX aJ).bind fun vs=>(T.nat f vs).bind fun rs=>some (rs,[]) else none
 |_=>none
def G:GT:=⟨T.fnG,T.V3⟩
section Right
variable [lV]
structure OK:Prop where
 isNat:∀f vs,T.isNat f=false->T.nat f vs=none
 nat:∀f vs rs,T.nat f vs=some rs->nY T.P f vs rs
 names:T.P.funcs.all (fun fn=>!(fn.name== "runtime.NumGoroutine"))=true
 mixed:T.P.follows .mixedOrders=true
variable {T}
theorem OK.table (h:T.OK):Table T.P T.sh T.F where
 nat:=h.nat
 ok:=fun f I hf=>by
  have hf':(T.P.funcs[f]?).bind (fun fn=>Ku T.P T.sh fn)=some I:=hf
  simp only [A1] at hf';obtain ⟨fn,h1,h2⟩:=hf';refine ⟨fn,h1,h2,?_⟩;have:=Array.all_eq_true_iff_forall_mem.1 h.names fn (Array.mem_of_getElem? h1)
  simpa using this
 mixed:=h.mixed
theorem OK.tab (h:T.OK):afw T.F T.sig T.G 2000 T.heads where
 fn:=fun k tf hk=>by
  have hk':T.fnG k=some tf:=hk;simp only [fnG,A1] at hk';obtain ⟨s,h1,h2⟩:=hk';split at h2
  ·cases h2
  rename_i hn;simp only [A1] at h2;obtain ⟨I,h3,h4⟩:=h2;split at h4
  case isFalse=>cases h4
  rename_i hp;simp only [A0] at h4;simp only [Bool.or_eq_true,not_or,Bool.not_eq_true] at hn;exact ⟨I,s,h3,h1,hp,h4.symm,hn.1,fun vs=>h.isNat _ vs hn.2⟩
 nat:=fun f aJ bs r _ hr=>by
  have hr':T.V3 f aJ bs=some r:=hr;cases bs with
  |cons _ _=>simp [V3] at hr'
  |nil=>
   simp only [V3,A1] at hr';obtain ⟨s,h1,h2⟩:=hr';split at h2
   case isFalse=>cases h2
   rename_i hc;simp only [A1,A0] at h2;obtain ⟨vs,h3,rs,h4,rfl⟩:=h2;simp only [A5,List.isEmpty_iff] at hc;exact ⟨s,vs,h1,hc.1.1,hc.1.2,rfl,OG hc.2,aac h3,h4⟩
theorem OK.fn (h:T.OK) {f:Nat} {vs rs:List V} {bs:List (List C)} (hc:(T.sig f).all (fun s=>s.code.isNone)=true) (hr:bq T.G f (vs.map .v) []=some (rs,bs)):nY T.P f vs rs:=by
 obtain ⟨n,hn⟩:=agp h.tab (fun s hs=>by rw [hs] at hc;simpa using hc) hr
 exact UY h.table hn
end Right
def ko (f:Nat):Option (List PS):=(T.sig f).bind fun s=>some s.params
def Gb:List HS->List Tree->List (Nat×oo)
 |h::hs,t::ts=>(match (KR h).2 with|n=>(n,cT T.ko n t))::Gb hs ts
 |_,_=>[]
def kOf (k:Nat) (tf:cB):GG:=⟨TT tf.params,tf.boxes,cT T.ko ((TT tf.params).length+tf.boxes.length) tf.body,T.Gb (T.heads k) tf.heads⟩
def F9 (k:Nat):Option GG:=(T.fnG k).bind fun tf=>some (T.kOf k tf)
variable {T}
theorem M6:∀{hs:List HS} {ts:List Tree} {i m:Nat} {t:oo},(T.Gb hs ts)[i]?=some (m,t)->∃t',ts[i]?=some t'/\t=cT T.ko m t'
 |[],_,_,_,_,h=>by simp [Gb] at h
 |_::_,[],_,_,_,h=>by simp [Gb] at h
 |h::hs,t0::ts,0,m,t,he=>by simp only [Gb,C0,A0,A3] at he;obtain ⟨rfl,rfl⟩:=he;exact ⟨t0,rfl,rfl⟩
 |h::hs,t0::ts,i+1,m,t,he=>by simp only [Gb,Bm] at he;simpa using M6 he
theorem ahx {k:Nat} {kf:GG} (h:T.F9 k=some kf):MJ T.G T.ko k kf\/Ag T.G T.ko k kf:=by
 simp only [F9,A1,A0] at h;obtain ⟨tf,h1,rfl⟩:=h;refine .inl ⟨tf,h1,?_,rfl,rfl,rfl,fun i m t ht=>M6 ht⟩
 simp only [fnG,A1] at h1;obtain ⟨s,h2,h3⟩:=h1;split at h3
 ·cases h3
 simp only [A1] at h3;obtain ⟨I,_,h4⟩:=h3;split at h4
 case isFalse=>cases h4
 simp only [A0] at h4;subst h4;simp [ko,h2,PR]
end Seat
end Go.Ey
namespace Go.Ey.Rh
def lf {α:Type} (k:Nat) (v:α):BT α:=.node k v .leaf .leaf
def aC (a:List Sh):List Sh:=.full::a
def aD (a:List Sh):List Sh:=.a::.a::a
def aH (a:List Nat):List Nat:=1::1::a
def aL (a:List Sh) (b:List Jb):List Jb:=.box a::b
def aM a:=aD (aD a)
def aO (a:Nat) (b:List Jb):List Jb:=.kQ a::b
def aR (a:Nat) (b:List Nat):List Nat:=a::aH b
def aS (a b:Nat) (c:List Jb):List Jb:=.arr a b true false::c
def aT a:=aH (aH a)
def aV (a:Nat) (b:List (Nat×Sh)):List (Nat×Sh):=(a,.a)::b
def aW (a b:Nat) (c:List (Nat×Sh)):List (Nat×Sh):=(a,.arr b)::c
def aY a:=aC (aC a)
def bA a b c:=aV a (aV b c)
def bB (a b:Nat) (c:List Jb):List Jb:=.arr a b false false::c
def bC a:=aM (aM a)
def bE (a b:Nat) (c:List (Nat×Sh)):List (Nat×Sh):=(a,.loc b 0)::c
def bH a b c d:=bE a b (aV c d)
def bM a b:=aL (aY (aC (bC (.a::aY (aC (.a::a)))))) b
def bN a:=aT (aT a)
def bO a b c:=bM a (aO b c)
def bQ a:=bC (aM a)
def bU a:=bN (aT (aH a))
def bV a b c d:=aL (.arr a::.arr b::c) d
def bY (a:List Nat) (b:List (Nat×Sh)) (c:Nat) (d:List Jb):HS:=⟨a,b,aO c d⟩
def cZ a:=aC (.a::a)
def dM a b c:=aL (.arr a::aC b) c
def dQ (a:Nat) (b:List (Nat×Sh)):List (Nat×Sh):=(a,.full)::b
def dR a b:=aS a 35 b
def eG a b c d:=bA 251 252 (bA 253 a (bA b c d))
def eO (a:List Nat):List Nat:=0::1::aR 0 a
def eP (a:List Nat) (b:List (Nat×Sh)) (c:List Jb) (d:List HS):List HS:=bY (eO a) b 11 c::d
def eU a b:=bB 11 44 (dR a b)
def eX a b c d:=eU a (aS b c d)
def eY a b:=bE a 0 b
def fF a b c:=aW 14 a (aW 17 b c)
def fM a b c d:=bA a b (aV c d)
def fU a:=aD (.a::a)
def gF (a:List Nat):List Nat:=0::0::1::a
def gH a b c d:=gF (a::b::1::aR c d)
def gK a b c d:=aW a b (aV c d)
def gV a b c:=aW 16 a (bH 18 b 21 c)
def iA (a:List Nat):List Nat:=0::1::a
def iC a:=aH (1::a)
def iE a b c:=aL (aC (.arr a::b)) c
def iH (a:List Nat) (b:List (Nat×Sh)) (c:List Jb) (d:List HS):List HS:=⟨eO a,b,c⟩::d
def iJ (a:List Jb):List Jb:=.arr 11 44 false true::a
def iK a b c:=iJ (aS a b c)
def iM a b c d:=gV a b (bH 22 c 25 d)
def iN a b c:=eX a b 69 c
def iP a b:=eY 5 (bE 6 1 (bE a 2 b))
def iQ (a b c:Nat) (d:List Nat):List Nat:=1::gH a b c d
def iR a:=aS 13 115 a
def iZ a b:=aS 11 a b
def jH a b c d:=bV a b (bQ [.arr c,.a]) d
def jJ a b:=bA a b []
def jK a b c d:=aW a b (jJ c d)
def jM (a:List Nat):List Nat:=0::aR 0 a
def jR a b c d:=eP (jM a) (iP 9 (fF 3 4 (bE 25 5 b))) c d
def jT a b c d:=bH 35 a 39 (aW b c (eG 275 276 277 (bA 283 284 d)))
def kC a:=bN (aT (1::a))
def kD a b c d:=bO [] 37 (aS 13 115 (bB 1 a (dM b (bQ (cZ c)) d)))
def kF a b c d:=bO [] 37 (aS 13 115 (bB 1 a (dM b (bQ [.arr c,.a]) d)))
def kG a:=aC (bC (fU a))
def kH a:=bC (.a::aY a)
def kK a:=dQ 26 a
def kL a b c d:=iM a b c (kK d)
def kR a b c d:=eP a (eY 5 (bE 6 1 (bE 8 2 (bA 12 14 b)))) (bO [] 37 (aS 13 115 c)) d
def kU (a:List Nat) (b:List (Nat×Sh)) (c:List Jb) (d:List HS):List HS:=bY (iA (iA a)) (eY 5 (bE 6 1 (bE 8 2 (bA 12 14 b)))) 11 (bO [] 37 (aS 13 115 c))::d
def kW a:=bO [] 37 (aS 13 115 (bB 1 4 a))
def kX a b c d:=jR a b (kW c) d
def lG:=gF (0::0::1::aR 0 (bU []))
def lM (a b c:Nat) (d:List Nat):List Nat:=a::b::1::aR c (1::0::aR 0 (0::0::1::aR 0 (bU (1::d))))
def lN a b c d:=eP (1::0::aR 0 (0::0::1::aR 0 (bU (1::a)))) (iP 9 (fF 3 4 (bE 25 5 b))) c d
def lQ a b c d:=bA a b (jJ c d)
def lS a b:=bM a (kW b)
def lU (a:List Nat) (b:List (Nat×Sh)) (c:Nat) (d:List Jb):List HS:=[bY (eO a) b c d]
def lW:=aS 1 112 []
def lY a b c:=aV a (bE 25 b c)
def mD a b c:=bV a b (bQ (cZ [])) c
def mF a b c:=aV a (eY b c)
def mG a:=kG (cZ a)
def mH a:=aL (aY []) a
def mI a b c:=mD a b (mH c)
def mK a b:=eX a 11 44 b
def mM a b c:=iN a b (iZ 44 c)
def mO a:=aO 11 a
def mQ a:=iA (iA a)
def mR a b:=bE 35 a (eG 275 276 277 b)
def mU a b c d:=jH a b c (mH d)
def mV a b:=bH 35 a 39 (dQ 40 (eG 275 276 277 (bA 283 284 b)))
def mW a:=aY (bC (.a::aY (aC (.a::aC (fU a)))))
end Go.Ey.Rh
namespace Go.Ey.Pr
open Rh
abbrev PP:Program:=Go.Proofs.Tryz.prog
def wz (f:Nat):Nat:=cond (Nat.testBit 89202980794122492566142873090593463203791872 f) 2 (cond (Nat.testBit 1424477656025083477918464159528148715171386937491739438393721279810802401742649439486534029886604871600128 f) 1 0)
def s3:eT:=⟨[.one,.one],[],[.one (.c)],false,none,[]⟩
def s9:eT:=⟨[],[],[.one (.c)],true,none,[]⟩
def s10:eT:=⟨[.one],[],[.one (.own 32 85 true false)],false,none,[]⟩
def s11:eT:=⟨[.ref 0 0,.one],[2],[.one (.c)],false,none,[]⟩
def s12:eT:=⟨[.one],[],[.agg (List.replicate 2 .c)],false,none,[]⟩
def s14:eT:=⟨[.one,.one,.one],[],[.one (.c)],false,none,[]⟩
def s16:eT:=⟨[.agg 16,.agg 16],[],[.one (.c)],false,none,[]⟩
def s18:eT:=⟨[.one,.one],[],[.agg (List.replicate 11 .c)],false,none,[]⟩
def s19:eT:=⟨[.one],[],[.agg (List.replicate 11 .c)],false,none,[]⟩
def s22:eT:=⟨[.ref 0 0],[2],[.agg (List.replicate 11 .c)],false,none,[]⟩
def s28:eT:=⟨[.one,.one,.one],[],[.agg (List.replicate 16 .c),.one (.c)],false,none,[]⟩
def s34:eT:=⟨[],[],[.one (.own 32 85 true false)],false,none,[]⟩
def s35:eT:=⟨[],[],[.one (.c)],false,none,[]⟩
def s37:eT:=⟨[.one,.agg 2,.agg 11,.one],[],[.agg (List.replicate 34 .c),.one (.c)],false,none,[]⟩
def s39:eT:=⟨[.ref 0 0,.one,.one],[2],[.agg (List.replicate 11 .c)],false,none,[]⟩
def s40:eT:=⟨[.agg 11,.agg 11],[],[.agg (List.replicate 11 .c)],false,none,[]⟩
def s42:eT:=⟨[.one],[],[.one (.c)],true,none,[]⟩
def s43:eT:=⟨[.one,.one,.agg 11],[],[.agg (List.replicate 16 .c),.one (.c)],false,none,[]⟩
def s44:eT:=⟨[.one],[],[.one (.c)],true,none,[]⟩
def s46:eT:=⟨[.agg 2,.agg 2],[],[.one (.c)],false,none,[]⟩
def s49:eT:=⟨[.agg 11,.agg 11],[],[.one (.c)],false,none,[]⟩
def s50:eT:=⟨[.one,.one,.agg 11,.agg 11],[],[.agg (List.replicate 37 .c)],false,none,[]⟩
def s53:eT:=⟨[.agg 2],[],[.agg (List.replicate 11 .c)],false,none,[]⟩
def s54:eT:=⟨[.agg 2,.one],[],[.agg (List.replicate 11 .c)],false,none,[]⟩
def s65:eT:=⟨[.one,.agg 2],[],[.one (.c)],false,none,[]⟩
def s72:eT:=⟨[.one,.one],[],[.one (.c)],true,none,[]⟩
def s74:eT:=⟨[.agg 11,.one],[],[.agg (List.replicate 11 .c)],false,none,[]⟩
def s79:eT:=⟨[.one,.agg 7],[],[.agg (List.replicate 32 .c)],false,none,[]⟩
def s83:eT:=⟨[],[],[.agg (List.replicate 11 .c)],false,none,[]⟩
def s90:eT:=⟨[.one],[],[.one (.c)],false,none,[]⟩
def s92:eT:=⟨[.agg 11,.one,.one],[],[.one (.c)],false,none,[]⟩
def s94:eT:=⟨[.agg 7],[],[.agg (List.replicate 11 .c)],false,none,[]⟩
def s95:eT:=⟨[],[],[.agg (List.replicate 7 .c)],false,none,[]⟩
def aqM:eT:=⟨[.one,.agg 2],[],[.agg (List.replicate 37 .c),.one (.c)],false,none,[]⟩
def asl:eT:=⟨[.ref 0 0,.one],[2],[.agg (List.replicate 7 .c)],false,none,[]⟩
def al4:eT:=⟨[.one,.agg 2],[],[.one (.c),.one (.c)],false,none,[]⟩
def aqK:eT:=⟨[.one,.agg 11],[],[.one (.c)],false,none,[]⟩
def amz:eT:=⟨[.agg 37],[],[.one (.c),.one (.c)],true,none,[]⟩
def apx:eT:=⟨[.one],[],[.one (.c)],true,none,[]⟩
def asz:eT:=⟨[.agg 11],[],[.agg (List.replicate 11 .c)],false,none,[]⟩
def aml:eT:=⟨[.agg 37],[],[.one (.c),.one (.c)],true,none,[]⟩
def atv:eT:=⟨[.agg 37,.one],[],[.one (.c)],false,none,[]⟩
def anI:eT:=⟨[.agg 7,.agg 7],[],[.one (.c)],false,none,[]⟩
def arc:eT:=⟨[.agg 11,.one],[],[.agg (List.replicate 11 .c)],false,none,[364]⟩
def as2:eT:=⟨[.agg 11,.ref 0 0],[1],[.agg (List.replicate 11 .c)],false,none,[]⟩
def arv:eT:=⟨[.one,.agg 2],[],[.agg (List.replicate 11 .c),.one (.c)],false,none,[]⟩
def asU:eT:=⟨[.one,.one,.one],[],[.one (.c),.agg (List.replicate 2 .c)],false,none,[]⟩
def atB:eT:=⟨[.agg 7],[],[.one (.c),.one (.c)],false,none,[]⟩
def aqY:eT:=⟨[.one,.one,.agg 7],[],[.agg (List.replicate 11 .c),.one (.c)],false,none,[]⟩
def aqB:eT:=⟨[.one,.one],[],[.agg (List.replicate 7 .c),.one (.c)],false,none,[]⟩
def att:eT:=⟨[],[],[.one (.own 2 35 false false)],false,none,[]⟩
def adW:eT:=⟨[.one],[],[.agg (List.replicate 7 .c)],false,none,[]⟩
def ady:eT:=⟨[.agg 11],[],[.one (.c)],false,none,[]⟩
def arI:eT:=⟨[.agg 2],[],[.agg (List.replicate 7 .c)],false,none,[]⟩
def arJ:eT:=⟨[.agg 2],[],[.one (.c),.one (.c)],false,none,[]⟩
def atg:eT:=⟨[.one,.agg 2],[],[.one (.c),.one (.c),.one (.c)],false,none,[]⟩
def atr:eT:=⟨[.agg 32],[],[.one (.c)],false,none,[]⟩
def aj3:eT:=⟨[.one,.one],[],[.agg (List.replicate 7 .c)],false,none,[]⟩
def aqX:eT:=⟨[.agg 7,.agg 7],[],[.agg (List.replicate 7 .c)],false,none,[]⟩
def asg:eT:=⟨[.one,.one,.one],[],[.one (.c)],false,none,[365]⟩
def atT:eT:=⟨[.one,.one],[],[.one (.c)],false,none,[366]⟩
def arN:eT:=⟨[.agg 11,.ref 0 0],[11],[.one (.c)],false,none,[]⟩
def aqU:eT:=⟨[.one],[],[.one (.c),.agg (List.replicate 2 .c)],false,none,[]⟩
def as9:eT:=⟨[.one,.one],[],[.agg (List.replicate 2 .c)],false,none,[]⟩
def anx:eT:=⟨[.ref 0 0,.one],[4],[.agg (List.replicate 7 .c),.agg (List.replicate 2 .c)],false,none,[]⟩
def afY:eT:=⟨[.agg 7],[],[.one (.c)],false,none,[]⟩
def aq5:eT:=⟨[.ref 0 0,.agg 7,.one],[3],[.agg (List.replicate 11 .c),.one (.c)],false,none,[]⟩
def alq:eT:=⟨[.one,.one],[],[.one (.c),.one (.c)],false,none,[]⟩
def atl:eT:=⟨[.one,.one],[],[.one (.c)],false,none,[371]⟩
def atu:eT:=⟨[.one,.one],[],[.agg (List.replicate 5 .c),.one (.c),.agg (List.replicate 2 .c)],false,none,[]⟩
def asj:eT:=⟨[.one,.one,.one],[],[.agg (List.replicate 2 .c),.one (.c)],false,none,[]⟩
def as6:eT:=⟨[.agg 7,.one],[],[.one (.c)],false,none,[]⟩
def agl:eT:=⟨[.agg 2],[],[.one (.c)],false,none,[]⟩
def asu:eT:=⟨[.ref 0 0,.one,.one],[3],[.agg (List.replicate 11 .c),.one (.c)],false,none,[]⟩
def arG:eT:=⟨[.one],[],[.agg (List.replicate 7 .c),.one (.c)],false,none,[]⟩
def ary:eT:=⟨[.ref 0 0],[3],[.one (.c)],false,none,[]⟩
def asA:eT:=⟨[.one,.agg 2],[],[.agg (List.replicate 15 .c),.one (.c)],false,none,[]⟩
def asX:eT:=⟨[.one,.agg 7],[],[.agg (List.replicate 7 .c),.one (.c),.one (.c)],false,none,[]⟩
def auc:eT:=⟨[.ref 0 0,.agg 2],[3],[.one (.c),.one (.c)],false,none,[]⟩
def atP:eT:=⟨[.one],[],[.one (.c),.one (.c)],false,none,[]⟩
def asY:eT:=⟨[.one,.one,.one,.one],[],[.one (.c)],false,none,[]⟩
def aq4:eT:=⟨[.one,.one,.one],[],[.one (.c),.one (.c),.agg (List.replicate 2 .c)],false,none,[]⟩
def aqR:eT:=⟨[.agg 5,.one],[],[.agg (List.replicate 2 .c)],false,none,[]⟩
def aqQ:eT:=⟨[.one,.agg 5,.one,.one],[],[.agg (List.replicate 5 .c),.one (.c),.agg (List.replicate 2 .c)],false,none,[]⟩
def arp:eT:=⟨[.one],[],[.one (.c),.one (.c),.one (.c)],false,none,[]⟩
def atG:eT:=⟨[.one,.one],[],[.agg (List.replicate 2 .c),.one (.c)],false,none,[]⟩
def aro:eT:=⟨[.one,.agg 11,.one,.one],[],[.agg (List.replicate 7 .c),.one (.c),.one (.c)],false,none,[]⟩
def aoO:eT:=⟨[.agg 11,.one],[],[.one (.c)],false,none,[]⟩
def aqZ:eT:=⟨[.one,.one,.one,.one],[],[.agg (List.replicate 7 .c)],false,none,[]⟩
def aoZ:eT:=⟨[.one,.one],[],[.one (.c)],true,none,[]⟩
def asN:eT:=⟨[.agg 11,.fq 136 [(0,0)]],[1],[.agg (List.replicate 11 .c)],false,(some 135),[]⟩
def atQ:eT:=⟨[.one,.one,.fq 114 []],[],[.one (.c)],false,(some 170),[]⟩
def atZ:eT:=⟨[.one,.fq 177 [(0,0)]],[11],[.one (.c)],false,(some 176),[]⟩
def arZ:eT:=⟨[.one,.fq 177 [(0,0)]],[11],[.one (.c)],false,(some 209),[]⟩
def sgT:BT eT:=(.node 148 s40 (.node 84 s19 (.node 42 s42 (.node 21 s18 (.node 13 s12 (.node 10 s10 (.node 9 s9 (lf 3 s3) .leaf) (.node 12 s12 (lf 11 s11) .leaf)) (.node 16 s16 (.node 15 s14 (lf 14 s14) .leaf) (.node 19 s19 (lf 18 s18) .leaf))) (.node 37 s37 (.node 34 s34 (.node 28 s28 (lf 22 s22) .leaf) (.node 36 s35 (lf 35 s35) .leaf)) (.node 40 s40 (.node 39 s39 (lf 38 s11) .leaf) (lf 41 s3)))) (.node 59 s3 (.node 48 s3 (.node 45 s43 (.node 44 s44 (lf 43 s43) .leaf) (.node 47 s3 (lf 46 s46) .leaf)) (.node 52 s18 (.node 50 s50 (lf 49 s49) .leaf) (.node 54 s54 (lf 53 s53) .leaf))) (.node 79 s79 (.node 74 s74 (.node 72 s72 (lf 65 s65) .leaf) (.node 78 s35 (lf 77 s74) .leaf)) (.node 82 s40 (.node 81 s35 (lf 80 s12) .leaf) (lf 83 s83))))) (.node 117 asz (.node 104 s35 (.node 92 s92 (.node 87 s40 (.node 86 s40 (lf 85 s83) .leaf) (.node 90 s90 (lf 88 s53) .leaf)) (.node 95 s95 (.node 94 s94 (lf 93 s83) .leaf) (.node 103 asl (lf 101 aqM) .leaf))) (.node 112 al4 (.node 107 aqK (.node 106 al4 (lf 105 s35) .leaf) (.node 111 s65 (lf 110 aqM) .leaf)) (.node 115 s53 (.node 114 s49 (lf 113 amz) .leaf) (lf 116 apx)))) (.node 137 s95 (.node 124 s3 (.node 121 aml (.node 120 al4 (lf 118 s3) .leaf) (.node 123 s3 (lf 122 atv) .leaf)) (.node 127 aqK (.node 126 s3 (lf 125 anI) .leaf) (.node 136 as2 (lf 135 arc) .leaf))) (.node 143 atB (.node 140 asU (.node 139 s3 (lf 138 arv) .leaf) (.node 142 s35 (lf 141 s35) .leaf)) (.node 146 att (.node 145 aqB (lf 144 aqY) .leaf) (lf 147 adW)))))) (.node 224 ady (.node 186 afY (.node 166 atr (.node 157 atr (.node 152 arI (.node 151 s65 (lf 150 ady) .leaf) (.node 156 atg (lf 155 arJ) .leaf)) (.node 161 adW (.node 160 adW (lf 159 aj3) .leaf) (.node 165 atg (lf 162 aqX) .leaf))) (.node 177 arN (.node 172 s92 (.node 170 asg (lf 169 anI) .leaf) (.node 176 atT (lf 173 s3) .leaf)) (.node 184 anx (.node 183 as9 (lf 182 aqU) .leaf) (lf 185 afY)))) (.node 213 asj (.node 194 alq (.node 189 ady (.node 188 aq5 (lf 187 afY) .leaf) (.node 191 s90 (lf 190 s35) .leaf)) (.node 209 atl (.node 199 ⟨[.agg 37,.ref 0 0],[2],[.one (.c)],false,none,[]⟩ (lf 198 ⟨[.one,.one],[],[.one (.c),.one (.c)],false,none,[367]⟩) .leaf) (.node 212 atu (lf 211 alq) .leaf))) (.node 219 ary (.node 216 agl (.node 215 as6 (lf 214 anx) .leaf) (.node 218 arG (lf 217 asu) .leaf)) (.node 222 asX (.node 221 agl (lf 220 asA) .leaf) (lf 223 auc))))) (.node 262 s3 (.node 250 s90 (.node 230 alq (.node 227 s90 (.node 226 ady (lf 225 ady) .leaf) (.node 229 s3 (lf 228 atP) .leaf)) (.node 247 asY (.node 246 s90 (lf 231 s3) .leaf) (.node 249 aqR (lf 248 aq4) .leaf))) (.node 256 atG (.node 253 arp (.node 252 aqQ (lf 251 s3) .leaf) (.node 255 s90 (lf 254 s90) .leaf)) (.node 260 aqB (.node 259 aj3 (lf 257 agl) .leaf) (lf 261 aro)))) (.node 278 aj3 (.node 268 s90 (.node 265 afY (.node 264 aoO (lf 263 aoO) .leaf) (.node 267 s90 (lf 266 s90) .leaf)) (.node 275 s90 (.node 270 s3 (lf 269 s3) .leaf) (.node 277 adW (lf 276 agl) .leaf))) (.node 364 asN (.node 282 afY (.node 280 aqZ (lf 279 adW) .leaf) (.node 285 s90 (lf 283 aoZ) .leaf)) (.node 367 ⟨[.one,.fq 199 [(0,0)]],[2],[.one (.c),.one (.c)],false,(some 198),[]⟩ (.node 366 atZ (lf 365 atQ) .leaf) (lf 371 arZ)))))))
def hsT:BT (List HS):=(.node 145 [⟨mQ [],bA 0 1 (bH 4 0 6 []),aL (aM (aD (aC []))) []⟩] (.node 65 [bY (mQ []) (aV 0 (bH 3 0 5 [])) 2 []] (.node 39 (lU (aT (aH [])) (eY 0 (bA 1 2 (bE 6 1 (bH 8 2 11 (gK 13 3 14 []))))) 2 (aL (kH []) (aO 2 (bB 11 44 [])))) (.node 15 (iH [1] (bA 0 1 (jK 7 0 8 9)) (bB 16 47 []) []) (.node 11 (lU [1] (eY 0 (lQ 1 5 6 7)) 2 []) (.node 10 (iH [1] (aV 0 (jK 3 0 4 5)) (aS 32 85 []) (iH (iC []) (aV 0 (jK 3 0 6 7)) (aS 32 85 []) [])) (lf 3 (iH (aT (iC [])) (fM 8 9 10 []) [] [])) .leaf) (lf 14 (iH [] (bA 0 1 (aW 7 0 (fM 13 14 15 []))) (bB 16 47 []) []))) (.node 34 (iH [1] (jK 1 0 2 3) (aS 32 85 []) []) (.node 28 (iH [] (eY 6 (jJ 8 9)) (bM [] []) (iH [1] (eY 6 (jJ 8 10)) (bM [] []) (iH (iC []) (bH 6 0 8 (aW 11 1 (fM 36 37 38 []))) (bM [] (bB 16 47 [])) (iH (jM (0::0::1::aR 0 (iC []))) (bH 6 0 8 (gK 11 1 12 (bE 13 2 (bA 14 36 (bA 37 38 (fM 43 44 45 [])))))) (bM [] (bB 16 47 (aO 16 []))) (iH (aT (iC [])) (eY 6 (bE 17 1 (jJ 85 86))) (bO [] 16 []) []))))) (lf 16 (lU [] (eY 2 (bH 3 1 5 [])) 16 (aO 16 []))) .leaf) (lf 37 (iH (iC (aR 0 (aT (1::eO (iC []))))) (eY 8 (bE 11 1 (bE 14 2 (jK 22 3 23 24)))) (aL (fU (kG (mW []))) (mO (aL (bQ (fU (aY (kH (.arr 4::.a::aC (fU [])))))) (dR 2 (bB 11 44 []))))) (iH (aR 0 (aT (iC (eO (iC []))))) (bH 8 0 12 (bE 14 1 (bE 25 2 (bH 26 3 27 [])))) (aL (fU (kG (mW []))) (aL (bQ (fU (mW []))) (mO (mO [])))) (eP (aR 0 (kC (eO (iC [])))) (eY 6 (bE 8 1 (bE 14 2 (jK 34 3 35 36)))) (aL (fU (kG (mW []))) (aL (bQ (fU (mW []))) (dR 2 []))) [⟨aR 0 (iQ 0 0 0 (aR 0 (aT (iC (eO (iC [])))))),bH 8 0 12 (bE 14 1 (bE 25 2 (bE 26 3 (jJ 27 29)))),aL (fU (kG (mW []))) (aL (bQ (fU (mW []))) (mO (mO [])))⟩])))))) (.node 46 (lU [] (eY 2 (bH 3 1 5 [])) 2 (aO 2 [])) (.node 44 (iH [] (fM 0 3 4 []) [] []) (.node 43 (eP (aT (aH [])) (iP 8 (bH 9 3 13 (aW 14 4 (fM 97 98 99 [])))) (bM [] (bO [] 37 (bB 13 115 []))) (eP (bN []) (iP 8 (bH 9 3 13 (fF 4 5 (fM 119 120 121 [])))) (bM [] (bO [] 37 (bB 13 115 (bB 1 4 [])))) (bY (aR 0 (jM (0::0::1::aR 0 (bN [])))) (iP 8 (bH 9 3 13 (fF 4 5 (bA 119 120 (lQ 121 126 127 128))))) 11 (bM [] (bO [] 37 (bB 13 115 (bB 1 4 []))))::eP (kC []) (iP 8 (bH 9 3 13 (fF 4 5 (lY 24 6 (aW 26 7 (aW 27 8 (fM 174 175 176 []))))))) (lS [] (bV 9 10 (mG []) (dR 2 (iZ 44 (eU 2 []))))) (bY (aR 0 (1::0::aR 0 (jM (jM (0::0::1::aR 0 (bN [])))))) (iP 8 (bH 9 3 13 (fF 4 5 (bA 21 119 (bA 120 121 (bA 126 127 (lQ 128 140 141 142))))))) 11 (bM [] (bO [] 37 (bB 13 115 (bB 1 4 []))))::bY (aR 0 (aT (jM (0::0::1::aR 0 (kC []))))) (iP 8 (bH 9 3 13 (fF 4 5 (lY 24 6 (aW 26 7 (gK 27 8 28 (bE 30 9 (bA 174 175 (lQ 176 227 228 229))))))))) 11 (lS [] (bV 10 11 (mG []) (dR 2 (iZ 44 (mO (eU 2 []))))))::eP (bU [1]) (iP 9 (fF 3 4 (bE 25 5 (bA 251 252 (aV 253 []))))) (kW (jH 6 7 8 (iN 2 2 []))) (kX (0::0::1::aR 0 (bU [1])) (bE 34 6 (bE 35 7 (eG 258 259 260 []))) (jH 8 9 10 (aO 2 (dM 11 [] (mM 2 2 [])))) (lN [] (mR 6 []) (kW (jH 7 8 9 (bV 10 11 [] (mM 2 2 lW)))) (kX (lM 0 0 0 []) (jT 6 40 7 []) (jH 8 9 10 (bV 11 12 [] (iR (mM 2 2 lW)))) (eP (kC []) (iP 8 (bH 9 3 13 (fF 4 5 (lY 24 6 (kK (dQ 27 (fM 174 175 176 []))))))) (lS [] (aL (.arr 7::aY (bC (fU (cZ [])))) (iJ []))) (eP (bU [1]) (iP 9 (fF 3 4 (bE 25 5 (bA 251 252 (aV 253 []))))) (kW (mD 6 7 (eU 2 []))) (lN [] (mR 6 []) (kW (jH 7 8 9 (dM 10 [] (mM 2 2 [])))) (kX (lM 0 0 0 []) (mV 6 []) (jH 7 8 9 (bV 10 11 [] (mM 2 2 lW))) (eP (kC []) (iP 8 (bH 9 3 13 (fF 4 5 (lY 24 6 (aW 26 7 (aW 27 8 (fM 174 175 176 []))))))) (lS [] (aL (.arr 9::aY (bC (fU (cZ [])))) (dR 2 (iZ 44 (iJ []))))) (bY (aR 0 (aT (jM (0::0::1::aR 0 (kC []))))) (iP 8 (bH 9 3 13 (fF 4 5 (lY 24 6 (aW 26 7 (dQ 27 (aV 28 (bE 30 8 (bA 174 175 (lQ 176 227 228 229)))))))))) 11 (lS [] (bV 9 10 (mG []) (dR 2 (mO (iJ (dR 2 []))))))::eP (kC []) (iP 8 (bH 9 3 13 (fF 4 5 (lY 24 6 (kK (aW 27 7 (fM 174 175 176 []))))))) (lS [] (aL (.arr 8::aY (bC (fU (cZ [])))) (iZ 44 (iJ [])))) (bY (aR 0 (aT (jM (0::0::1::aR 0 (kC []))))) (iP 8 (bH 9 3 13 (fF 4 5 (lY 24 6 (kK (dQ 27 (aV 28 (bE 30 7 (bA 174 175 (lQ 176 227 228 229)))))))))) 11 (lS [] (bV 8 9 (mG []) (mO (iJ (dR 2 [])))))::eP (bU [1]) (iP 9 (fF 3 4 (bE 25 5 (bA 251 252 (aV 253 []))))) (kD 4 6 [] (iJ [])) (kX (0::0::1::aR 0 (bU [1])) (bE 34 6 (bE 35 7 (eG 258 259 260 []))) (mD 8 9 (aO 2 (mH (eU 2 [])))) (kX (lM 0 0 0 []) (mV 6 []) (jH 7 8 9 (dM 10 [] (mM 2 2 []))) (eP (kC []) (iP 8 (bH 9 3 13 (fF 4 5 (lY 24 6 (aW 26 7 (dQ 27 (fM 174 175 176 []))))))) (lS [] (bV 8 9 (mG []) (dR 2 (iJ (dR 2 []))))) (bY (aR 0 (aT (jM (0::0::1::aR 0 (kC []))))) (iP 8 (bH 9 3 13 (fF 4 5 (lY 24 6 (kK (gK 27 7 28 (bE 30 8 (bA 174 175 (lQ 176 227 228 229))))))))) 11 (lS [] (bV 9 10 (mG []) (iZ 44 (mO (iJ (dR 2 []))))))::eP (kC []) (iP 8 (bH 9 3 13 (fF 4 5 (lY 24 6 (kK (dQ 27 (fM 174 175 176 []))))))) (lS [] (bV 7 8 (mG []) (iJ (dR 2 [])))) (jR (0::0::1::aR 0 (bU [1])) (bE 34 6 (bE 35 7 (eG 258 259 260 []))) (kD 4 8 [] (aO 2 (mH (iJ [])))) (kX (0::0::1::aR 0 (bU [1])) (bE 34 6 (bE 35 7 (eG 258 259 260 []))) (mD 8 9 (aO 2 (dM 10 [] (mK 2 [])))) (lN [] (mR 6 []) (kW (mI 7 8 (eU 2 []))) (kX (lM 0 0 0 []) (jT 6 40 7 []) (jH 8 9 10 (dM 11 [] (iR (mM 2 2 [])))) (eP (kC []) (iP 8 (bH 9 3 13 (fF 4 5 (lY 24 6 (kK (aW 27 7 (fM 174 175 176 []))))))) (lS [] (bV 8 9 (mG []) (iZ 44 (iJ (dR 2 []))))) (jR (0::0::1::aR 0 (bU [1])) (bE 34 6 (bE 35 7 (eG 258 259 260 []))) (kD 4 8 [] (aO 2 (dM 9 [] (iK 11 44 [])))) (lN [] (mR 6 []) (kD 4 7 [] (mH (iJ []))) (lN [] (mR 6 []) (kW (mD 7 8 (dM 9 [] (mK 2 [])))) (kX (lM 0 0 0 []) (mV 6 []) (mI 7 8 (eU 2 [])) (kX (0::0::1::aR 0 (bU [1])) (bE 34 6 (bE 35 7 (eG 258 259 260 []))) (jH 8 9 10 (aO 2 (mH (iN 2 2 [])))) (lN [] (mR 6 []) (kD 4 7 [] (dM 8 [] (iK 11 44 []))) (jR (lM 0 0 0 []) (mV 6 []) (kD 4 7 [] (mH (iJ []))) (eP (bU [1]) (iP 9 (fF 3 4 (bE 25 5 (bA 251 252 (aV 253 []))))) (kF 4 6 7 (iK 2 69 [])) (kX (lM 0 0 0 []) (mV 6 []) (mD 7 8 (dM 9 [] (mK 2 []))) (kX (lM 0 0 0 []) (jT 6 40 7 []) (mI 8 9 (iR (eU 2 []))) (lN [] (mR 6 []) (kW (mD 7 8 (iE 9 [] (eX 2 1 112 [])))) (lN [] (mR 6 []) (kW (mU 7 8 9 (iN 2 2 []))) (jR (lM 0 0 0 []) (mV 6 []) (kD 4 7 [] (dM 8 [] (iK 11 44 []))) (jR (lM 0 0 0 []) (jT 6 40 7 []) (kD 4 8 [] (mH (iR (iJ [])))) (lN [] (mR 6 []) (kD 4 7 [] (iE 8 [] (iJ lW))) (jR (0::0::1::aR 0 (bU [1])) (bE 34 6 (bE 35 7 (eG 258 259 260 []))) (kF 4 8 9 (aO 2 (mH (iK 2 69 [])))) (kX (lM 0 0 0 []) (jT 6 40 7 []) (mD 8 9 (dM 10 [] (iR (mK 2 [])))) (lN [] (mR 6 []) (kW (mD 7 8 (bV 9 10 [] (mK 2 lW)))) (kX (lM 0 0 0 []) (mV 6 []) (mD 7 8 (iE 9 [] (eX 2 1 112 []))) (kX (lM 0 0 0 []) (mV 6 []) (mU 7 8 9 (iN 2 2 [])) (jR (lM 0 0 0 []) (jT 6 40 7 []) (kD 4 8 [] (dM 9 [] (iR (iK 11 44 [])))) (lN [] (mR 6 []) (kD 4 7 [] (bV 8 9 [] (iK 11 44 lW))) (jR (lM 0 0 0 []) (mV 6 []) (kD 4 7 [] (iE 8 [] (iJ lW))) (jR (0::0::1::aR 0 (bU [1])) (bE 34 6 (bE 35 7 (eG 258 259 260 []))) (kF 4 8 9 (aO 2 (dM 10 [] (iK 2 69 (iZ 44 []))))) (lN [] (mR 6 []) (kF 4 7 8 (mH (iK 2 69 []))) (kX (lM 0 0 0 []) (mV 6 []) (mD 7 8 (bV 9 10 [] (mK 2 lW))) (kX (lM 0 0 0 []) (jT 6 40 7 []) (mD 8 9 (iE 10 [] (iR (eX 2 1 112 [])))) (kX (lM 0 0 0 []) (jT 6 40 7 []) (mU 8 9 10 (iR (iN 2 2 []))) (lN [] (mR 6 []) (kW (jH 7 8 9 (iE 10 [] (iN 2 2 lW)))) (jR (lM 0 0 0 []) (mV 6 []) (kD 4 7 [] (bV 8 9 [] (iK 11 44 lW))) (jR (lM 0 0 0 []) (jT 6 40 7 []) (kD 4 8 [] (iE 9 [] (iR (iJ lW)))) (lN [] (mR 6 []) (kF 4 7 8 (dM 9 [] (iK 2 69 (iZ 44 [])))) (jR (lM 0 0 0 []) (mV 6 []) (kF 4 7 8 (mH (iK 2 69 []))) (kX (lM 0 0 0 []) (jT 6 40 7 []) (mD 8 9 (bV 10 11 [] (iR (mK 2 lW)))) (kX (lM 0 0 0 []) (mV 6 []) (jH 7 8 9 (iE 10 [] (iN 2 2 lW))) (jR (lM 0 0 0 []) (jT 6 40 7 []) (kD 4 8 [] (bV 9 10 [] (iR (iK 11 44 lW)))) (jR (lM 0 0 0 []) (mV 6 []) (kF 4 7 8 (dM 9 [] (iK 2 69 (iZ 44 [])))) (jR (lM 0 0 0 []) (jT 6 40 7 []) (kF 4 8 9 (mH (iR (iK 2 69 [])))) (lN [] (mR 6 []) (kF 4 7 8 (iE 9 [] (iK 2 69 lW))) (kX (lM 0 0 0 []) (jT 6 40 7 []) (jH 8 9 10 (iE 11 [] (iR (iN 2 2 lW)))) (jR (lM 0 0 0 []) (jT 6 40 7 []) (kF 4 8 9 (dM 10 [] (iR (iK 2 69 (iZ 44 []))))) (lN [] (mR 6 []) (kF 4 7 8 (bV 9 10 [] (iK 2 69 (iZ 44 lW)))) (jR (lM 0 0 0 []) (mV 6 []) (kF 4 7 8 (iE 9 [] (iK 2 69 lW))) (jR (lM 0 0 0 []) (mV 6 []) (kF 4 7 8 (bV 9 10 [] (iK 2 69 (iZ 44 lW)))) (jR (lM 0 0 0 []) (jT 6 40 7 []) (kF 4 8 9 (iE 10 [] (iR (iK 2 69 lW)))) (jR (lM 0 0 0 []) (jT 6 40 7 []) (kF 4 8 9 (bV 10 11 [] (iR (iK 2 69 (iZ 44 lW))))) []))))))))))))))))))))))))))))))))))))))))))))))))))))))))))))))))))))) (lf 41 (iH [] (aV 1 (gK 5 0 6 [])) [.arr 11 44 true true] [])) .leaf) (lf 45 (eP (bN (aH [])) (iP 8 (fM 12 14 15 (aW 16 3 (aW 17 4 (bE 18 5 (gK 19 6 20 [])))))) (bO [] 37 (bB 13 115 (dR 2 (bV 7 8 (aC (bC (.a::aY (aC [.a])))) (bB 11 44 (bB 11 44 (bB 2 35 []))))))) (kR (bU []) (gV 3 4 []) (jH 5 6 7 (iN 2 2 [])) (kU lG (gV 3 4 (bH 22 5 23 [])) (jH 6 7 8 (dM 9 [] (mM 2 2 []))) (bY (gF (gF (gF (iA lG)))) (eY 5 (bE 6 1 (bE 8 2 (bA 12 14 (gV 3 4 (bH 22 5 23 (bE 24 6 []))))))) 11 (bO [] 37 (aS 13 115 (jH 7 8 9 (dM 10 [] (mO (mM 2 2 []))))))::kR lG (iM 3 4 5 []) (jH 6 7 8 (bV 9 10 [] (mM 2 2 lW))) (kU (gH 0 0 0 lG) (iM 3 4 5 (gK 26 6 27 [])) (jH 7 8 9 (bV 10 11 [] (iR (mM 2 2 lW)))) (kR (iQ 0 0 0 lG) (iM 3 4 5 (jK 26 6 29 30)) (jH 7 8 9 (bV 10 11 [] (iR (mM 2 2 lW)))) (kR (bU []) (gV 3 4 []) (mD 5 6 (eU 2 [])) (kR lG (iM 3 4 5 []) (jH 6 7 8 (dM 9 [] (mM 2 2 []))) (kU lG (gV 3 4 (bH 22 5 23 [])) (mI 6 7 (eU 2 [])) (kU (gH 0 0 0 lG) (kL 3 4 5 (aV 27 [])) (jH 6 7 8 (dM 9 [] (mM 2 2 []))) (bY (gF (gF (gF (iA lG)))) (eY 5 (bE 6 1 (bE 8 2 (bA 12 14 (gV 3 4 (bH 22 5 23 (bE 24 6 []))))))) 11 (bO [] 37 (aS 13 115 (mI 7 8 (mO (eU 2 [])))))::kR lG (iM 3 4 5 []) (mI 6 7 (eU 2 [])) (kU (gH 0 0 0 lG) (iM 3 4 5 (gK 26 6 27 [])) (jH 7 8 9 (dM 10 [] (iR (mM 2 2 [])))) (kR (iQ 0 0 0 lG) (kL 3 4 5 (jJ 29 30)) (jH 6 7 8 (dM 9 [] (mM 2 2 []))) (kU lG (gV 3 4 (bH 22 5 23 [])) (mD 6 7 (dM 8 [] (mK 2 []))) (kU (gH 0 0 0 lG) (kL 3 4 5 (aV 27 [])) (mI 6 7 (eU 2 [])) (kR (iQ 0 0 0 lG) (iM 3 4 5 (jK 26 6 29 30)) (jH 7 8 9 (dM 10 [] (iR (mM 2 2 [])))) (kU lG (gV 3 4 (bH 22 5 23 [])) (mU 6 7 8 (iN 2 2 [])) (kU (gH 0 0 0 lG) (kL 3 4 5 (aV 27 [])) (jH 6 7 8 (bV 9 10 [] (mM 2 2 lW))) (bY (gF (gF (gF (iA lG)))) (eY 5 (bE 6 1 (bE 8 2 (bA 12 14 (gV 3 4 (bH 22 5 23 (bE 24 6 []))))))) 11 (bO [] 37 (aS 13 115 (mD 7 8 (dM 9 [] (mO (mK 2 []))))))::kR lG (iM 3 4 5 []) (mD 6 7 (dM 8 [] (mK 2 []))) (kU (gH 0 0 0 lG) (iM 3 4 5 (gK 26 6 27 [])) (mI 7 8 (iR (eU 2 []))) (kR (iQ 0 0 0 lG) (kL 3 4 5 (jJ 29 30)) (mI 6 7 (eU 2 [])) (bY (gF (gF (gF (iA lG)))) (eY 5 (bE 6 1 (bE 8 2 (bA 12 14 (gV 3 4 (bH 22 5 23 (bE 24 6 []))))))) 11 (bO [] 37 (aS 13 115 (mU 7 8 9 (mO (iN 2 2 [])))))::kR lG (iM 3 4 5 []) (mU 6 7 8 (iN 2 2 [])) (kR (iQ 0 0 0 lG) (kL 3 4 5 (jJ 29 30)) (jH 6 7 8 (bV 9 10 [] (mM 2 2 lW))) (kU (gH 0 0 0 lG) (kL 3 4 5 (aV 27 [])) (mD 6 7 (dM 8 [] (mK 2 []))) (kR (iQ 0 0 0 lG) (iM 3 4 5 (jK 26 6 29 30)) (mI 7 8 (iR (eU 2 []))) (kR lG (iM 3 4 5 []) (mD 6 7 (iE 8 [] (eX 2 1 112 []))) (kU (gH 0 0 0 lG) (kL 3 4 5 (aV 27 [])) (mU 6 7 8 (iN 2 2 [])) (kU (gH 0 0 0 lG) (iM 3 4 5 (gK 26 6 27 [])) (mD 7 8 (dM 9 [] (iR (mK 2 [])))) (kR (iQ 0 0 0 lG) (kL 3 4 5 (jJ 29 30)) (mD 6 7 (dM 8 [] (mK 2 []))) (kU (gH 0 0 0 lG) (kL 3 4 5 (aV 27 [])) (mD 6 7 (iE 8 [] (eX 2 1 112 []))) (kU (gH 0 0 0 lG) (iM 3 4 5 (gK 26 6 27 [])) (mU 7 8 9 (iR (iN 2 2 []))) (kR (iQ 0 0 0 lG) (kL 3 4 5 (jJ 29 30)) (mU 6 7 8 (iN 2 2 [])) (kR (iQ 0 0 0 lG) (iM 3 4 5 (jK 26 6 29 30)) (mD 7 8 (dM 9 [] (iR (mK 2 [])))) (kR lG (iM 3 4 5 []) (mD 6 7 (bV 8 9 [] (mK 2 lW))) (kU (gH 0 0 0 lG) (iM 3 4 5 (gK 26 6 27 [])) (mD 7 8 (iE 9 [] (iR (eX 2 1 112 [])))) (kR (iQ 0 0 0 lG) (kL 3 4 5 (jJ 29 30)) (mD 6 7 (iE 8 [] (eX 2 1 112 []))) (kR (iQ 0 0 0 lG) (iM 3 4 5 (jK 26 6 29 30)) (mU 7 8 9 (iR (iN 2 2 []))) (kR lG (iM 3 4 5 []) (jH 6 7 8 (iE 9 [] (iN 2 2 lW))) (kU (gH 0 0 0 lG) (kL 3 4 5 (aV 27 [])) (mD 6 7 (bV 8 9 [] (mK 2 lW))) (kR (iQ 0 0 0 lG) (iM 3 4 5 (jK 26 6 29 30)) (mD 7 8 (iE 9 [] (iR (eX 2 1 112 [])))) (kU (gH 0 0 0 lG) (kL 3 4 5 (aV 27 [])) (jH 6 7 8 (iE 9 [] (iN 2 2 lW))) (kU (gH 0 0 0 lG) (iM 3 4 5 (gK 26 6 27 [])) (mD 7 8 (bV 9 10 [] (iR (mK 2 lW)))) (kR (iQ 0 0 0 lG) (kL 3 4 5 (jJ 29 30)) (mD 6 7 (bV 8 9 [] (mK 2 lW))) (kU (gH 0 0 0 lG) (iM 3 4 5 (gK 26 6 27 [])) (jH 7 8 9 (iE 10 [] (iR (iN 2 2 lW)))) (kR (iQ 0 0 0 lG) (kL 3 4 5 (jJ 29 30)) (jH 6 7 8 (iE 9 [] (iN 2 2 lW))) (kR (iQ 0 0 0 lG) (iM 3 4 5 (jK 26 6 29 30)) (mD 7 8 (bV 9 10 [] (iR (mK 2 lW)))) (kR (iQ 0 0 0 lG) (iM 3 4 5 (jK 26 6 29 30)) (jH 7 8 9 (iE 10 [] (iR (iN 2 2 lW)))) []))))))))))))))))))))))))))))))))))))))))))))))))) (.node 50 (iH [] (mF 1 8 (bH 9 1 10 [])) (aL (aD (aC (bC (aD (aY (kH (kH []))))))) (aL (aD (.arr 2::bC (bC (bC (bC (aD [])))))) (bB 2 35 []))) []) (.node 48 (iH [] (fM 0 1 5 []) [] []) (lf 47 (iH [] (fM 0 1 5 []) [] [])) .leaf) (lf 59 [⟨mQ [],fM 0 1 5 [],[]⟩])))) (.node 118 [⟨mQ [],lQ 1 7 8 9,[]⟩] (.node 90 (iH [] (aV 0 (gK 3 0 4 [])) (dR 2 []) [⟨aR 0 (iQ 0 0 0 []),aV 0 (gK 3 0 4 (gK 5 1 6 [])),dR 2 (bB 2 35 [])⟩,⟨aR 0 (iQ 0 0 0 []),aV 0 (aW 3 0 (fM 4 5 6 [])),dR 2 []⟩]) (.node 79 (iH (aH []) (aV 0 (bH 4 0 5 (bE 7 1 (jJ 8 10)))) (aL (aM (aC (aD (aC (bC (aD (aY (aY (aY (aD (aY (aY (aD []))))))))))))) (aL (aD (.arr 2::bC (bQ (.a::aY (kH []))))) (bB 2 35 []))) []) (.node 74 [bY (iA (iA (iA []))) (eY 2 (bE 3 1 (bE 4 2 (fM 10 11 12 [])))) 11 (aO 1 (aL (kH []) []))] (lf 72 (iH [] (lQ 5 10 11 12) [] [])) .leaf) (lf 81 (iH [1] (jK 1 0 2 3) (bB 2 35 []) (iH (iC []) (aW 1 0 (gK 6 1 7 [])) (bB 2 35 [.arr 1 9 false true]) [])))) (.node 111 [bY (mQ []) (eY 3 (fM 7 8 9 [])) 2 []] (.node 107 [bY (iA (iA [])) (aV 0 (bH 3 0 5 [])) 11 []] (lf 103 (lU (aR 0 (bN (bN (1::eO [1])))) (bH 0 0 1 (bE 4 1 (jK 6 2 7 8))) 2 (aL (aM (aD (aC []))) (bB 7 42 [])))) .leaf) (lf 117 [bY (gF []) (eY 1 (bE 2 1 [])) 11 (aL (kH []) [])]))) (.node 126 (iH [] (fM 0 1 5 []) [] []) (.node 124 (iH [] (fM 0 1 5 []) [] []) (.node 123 [⟨mQ [],fM 0 1 5 [],[]⟩,⟨mQ (gF (gF (iA []))),bA 0 1 (fM 5 6 7 []),[]⟩] (lf 122 [bY (eO []) (mF 1 2 (gK 5 1 6 [])) 37 [.arr 1 4 false true],bY (iA (gH 0 0 0 [])) (mF 1 2 (jK 5 1 6 7)) 37 [.arr 1 4 false true],bY (aR 0 (gF (gF (gH 0 0 0 [])))) (mF 1 2 (aW 5 1 (lQ 6 7 8 9))) 37 [.arr 1 4 false true]]) .leaf) (lf 125 (lU [] (eY 2 (bH 3 1 5 [])) 7 (aO 7 [])))) (.node 140 [bY (jM (iC [])) (eY 7 (bE 10 1 (aW 11 2 []))) 2 (aO 4 (bB 7 42 []))] (.node 139 (iH [] (bA 0 1 (gK 5 0 6 [])) (bB 11 44 []) []) (lf 138 [bY (mQ []) (mF 0 3 (bH 4 1 6 [])) 2 (aL (kH []) [])]) .leaf) (lf 143 [bY (jM []) (eY 1 (aW 4 1 [])) 7 (bB 7 42 [])]))))) (.node 229 [⟨jM [1],jJ 6 8,[]⟩] (.node 188 (lU (aT (aH [])) (bH 0 0 2 (bE 6 1 (bH 12 2 13 (gK 23 3 24 [])))) 3 (aL (kH []) (aO 2 (bB 11 44 [])))) (.node 161 (iH [] (mF 0 2 (bH 3 1 4 [])) (aL (aM (aD (aC []))) (aO 7 [])) []) (.node 155 (lU [1] (eY 1 (jJ 4 5)) 2 []) (.node 151 [bY (mQ []) (aV 0 (bH 3 0 5 [])) 2 []] (lf 146 (iH [1] (aV 1 (gK 2 0 3 [])) (bB 2 35 []) [])) .leaf) (lf 156 [bY (mQ []) (aV 0 (bH 3 0 7 [])) 2 [],bY (aR 0 (gF (gF (iA [])))) (mF 0 3 (fM 7 8 9 [])) 2 []])) (.node 173 (iH [] (lQ 0 1 12 13) [] []) (.node 169 (bY (iA []) (eY 2 (bE 3 1 [])) 7 (aO 7 [])::lU (1::0::gF []) (eY 2 (bE 3 1 (fM 5 55 56 []))) 7 (aO 7 [])) (lf 165 [bY (mQ []) (bE 3 0 (fM 11 12 13 [])) 2 []]) .leaf) (lf 182 [bY (aR 0 (aH [])) (mF 0 3 (gK 4 1 5 [])) 2 (bB 5 212 [])]))) (.node 218 (iH (aH []) (mF 0 2 (jJ 4 6)) (aL (aM (aD (aC []))) []) []) (.node 214 (bY (jM [1]) (bH 0 0 1 (bE 4 1 (bE 5 2 (aW 6 3 (bE 7 4 []))))) 4 (aL (aM (aD (aC []))) (aO 2 (bB 7 42 (aO 7 []))))::lU (iC []) (bE 4 1 (bE 5 2 (aW 6 3 (bH 7 4 13 [])))) 4 (aL (aM (aD (aC []))) (aO 2 (bB 7 42 (aO 7 []))))) (.node 213 (lU (aH []) (bA 1 2 (eY 6 (bH 8 1 10 []))) 2 (aO 2 [])) (lf 211 [⟨gF [],jJ 0 1,[]⟩,⟨jM (1::gF (0::gF [])),jJ 0 1,[]⟩,⟨aR 0 (aR 0 (iC (gF (0::gF [])))),fM 0 1 6 [],[]⟩]) .leaf) (lf 217 (lU (iC []) (eY 0 (bA 1 2 (bE 6 1 (bA 8 9 (gK 11 2 12 []))))) 3 (aL (kH []) (bB 13 115 []))))) (.node 226 [bY (iA (eO (iC (eO [])))) (bH 1 0 4 []) 11 []] (.node 223 [bY (mQ []) (eY 0 (bH 3 1 6 [])) 3 (aO 2 [])] (lf 220 [bY (mQ []) (mF 0 3 (bH 4 1 6 [])) 2 (aL (aD (aC (bC (aD (aY []))))) [])]) .leaf) (lf 228 (iH (aT []) (fM 0 4 5 (gK 6 0 7 [])) (bB 1 3 []) []))))) (.node 264 (iH [1] (lQ 1 5 6 7) [] []) (.node 253 (⟨jM (aH []),fM 0 5 6 [],[]⟩::iH (aT (aH [])) (fM 0 6 7 []) [] []) (.node 248 [bY (aR 0 []) (fM 0 1 2 (eY 8 (aW 9 1 []))) 2 (bB 1 5 [])] (.node 231 (iH (iC []) (aV 1 (gK 5 0 6 [])) (bB 1 5 []) []) (lf 230 (iH [1] (bA 0 1 (jK 6 0 7 8)) [.arr 1 3 false true] [⟨iA (gH 0 0 0 [1]),bA 0 1 (jK 6 0 7 8),[.arr 1 3 false true]⟩])) .leaf) (lf 251 [⟨gF [],jJ 0 1,[]⟩])) (.node 262 (iH [] (bA 0 1 (gK 5 0 6 [])) (bB 9 314 []) []) (.node 256 [⟨mQ [],bA 0 1 (bH 4 0 6 []),aL (.a::aC []) []⟩] (lf 254 [⟨jM (aH []),fM 0 3 4 [],[]⟩]) .leaf) (lf 263 (iH (aH []) (lQ 1 5 6 7) [] [])))) (.node 285 (iH [] (jJ 0 3) [] []) (.node 269 (iH [] (fM 0 1 5 []) [] []) (.node 268 [⟨jM [],jJ 0 3,[]⟩] (lf 267 (iH (iC []) (jJ 0 4) [] [])) .leaf) (lf 270 (iH [1] (bA 0 1 (jK 5 0 6 7)) (bB 1 3 []) []))) (.node 367 [bY (mQ []) ((1,.fq 199 [(0,0)])::fM 8 9 10 []) 2 []] (.node 365 (iH [] (aV 1 ((2,.fq 114 [])::fM 15 16 17 [])) [] []) (lf 364 (lU [1] ((1,.fq 136 [(0,0)])::bE 2 1 (bE 4 2 (aW 5 3 (fM 17 18 19 [])))) 1 (mO (aL (kH []) (iJ []))))) .leaf) (lf 371 [bY (iA (iA [])) (aV 0 ((1,.fq 177 [(0,0)])::jJ 7 8)) 11 []]))))))
def isN (f:Nat):Bool:=Nat.testBit 15541351137805942995297243903608750209233051144827107954130184784315058116255654347264 f
def T (nat:Nat->List V->Option (List V)):Seat:=⟨PP,wz,sgT,hsT,nat,isN⟩
end Go.Ey.Pr
end
