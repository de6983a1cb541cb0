/- A part. -/
import Derived.Test.YtolnnaanmfnkjaaGreatDoorY21
import Derived.Test.YtolnnaanmfnkjaaGreatDoorY22
import Derived.KernelRfl
import Derived.Test.YtolnnaanmfnkjaaGreatDoorChecked
set_option linter.all false
namespace Go.Ey
inductive BT (α:Type) where
 |leaf
 |node (k:Nat) (v:α) (l r:BT α)
def BT.get {α:Type}:BT α->Nat->Option α
 |.leaf,_=>none
 |.node k v l r,n=>cond (Nat.beq n k) (some v) (cond (Nat.ble n k) (l.get n) (r.get n))
def lS:List PS->List LA->Bool
 |[],[]=>true
 |.one::ps,.v (.one _)::aY=>lS ps aY
 |.agg m::ps,.v (.agg xs)::aY=>Nat.beq xs.length m && lS ps aY
 |_,_=>false
theorem O6:∀{ps:List PS} {aY:List LA},lS ps aY=true->sF ps aY
 |[],[],_=>trivial
 |.one::ps,.v (.one _)::aY,h=>O6 (ps:=ps) (aY:=aY) h
 |.agg m::ps,.v (.agg xs)::aY,h=>by simp only [lS,As] at h;exact ⟨C5 h.1,O6 h.2⟩
 |[],_::_,h=>by simp [lS] at h
 |.one::_,[],h=>by simp [lS] at h
 |.agg _::_,[],h=>by simp [lS] at h
 |.ref _ _::_,_,h=>by simp [lS] at h
 |.fD _ _::_,_,h=>by simp [lS] at h
 |.one::_,.v (.agg _)::_,h=>by simp [lS] at h
 |.one::_,.v (.full _ _)::_,h=>by simp [lS] at h
 |.agg _::_,.v (.full _ _)::_,h=>by simp [lS] at h
 |.one::_,.ref _ _::_,h=>by simp [lS] at h
 |.agg _::_,.v (.one _)::_,h=>by simp [lS] at h
 |.agg _::_,.ref _ _::_,h=>by simp [lS] at h
def UU:List LA->Option (List V)
 |[]=>some []
 |.v x::r=>(UU r).bind fun l=>some (x::l)
 |.ref _ _::_=>none
theorem aaj:∀{aY:List LA} {vs:List V},UU aY=some vs->aY=vs.map .v
 |[],vs,h=>by simp only [UU,A0] at h;subst h;rfl
 |.v x::r,vs,h=>by simp only [UU,A1,A0] at h;obtain ⟨l,h1,rfl⟩:=h;rw [aaj h1];rfl
 |.ref _ _::_,vs,h=>by simp [UU] at h
structure Seat where
 P:Program
 sh:Nat->Nat
 sg:BT fC
 hs:BT (List HS)
 nat:Nat->List V->Option (List V)
 isNat:Nat->Bool
namespace Seat
variable (T:Seat)
def code (f:Nat):Option Pj:=(T.P.funcs[f]?).bind fun fn=>KT T.P T.sh fn
def F:Fe:=⟨T.code,T.nat⟩
def sig (k:Nat):Option fC:=T.sg.get k
def heads (k:Nat):List HS:=(T.hs.get k).getD []
def fnG (k:Nat):Option bO:=(T.sig k).bind fun s=>if (s.nat||T.isNat (s.cd k))=true then none else (T.code (s.cd k)).bind fun I=>if I.nparams=s.params.length then some (UT T.sig 2000 s (T.heads k) I) else none
def U6 (f:Nat) (aY:List LA):List (List C)->Option R
 |[]=>(T.sig f).bind fun s=>if (s.nat && s.boxes.isEmpty && lS s.params aY)=true then (UU aY).bind fun vs=>(T.nat f vs).bind fun rs=>some (rs,[]) else none
 |_=>none
def G:GT:=⟨T.fnG,T.U6⟩
section Right
variable [lV]
structure OK:Prop where
 isNat:∀f vs,T.isNat f=false->T.nat f vs=none
 nat:∀f vs rs,T.nat f vs=some rs->oq T.P f vs rs
 names:T.P.funcs.all (fun fn=>!(fn.name== "runtime.NumGoroutine"))=true
 mixed:T.P.follows .mixedOrders=true
variable {T}
theorem OK.table (h:T.OK):Table T.P T.sh T.F where
 nat:=h.nat
 ok:=fun f I hf=>by
  have hf':(T.P.funcs[f]?).bind (fun fn=>KT T.P T.sh fn)=some I:=hf
  simp only [A1] at hf';obtain ⟨fn,h1,h2⟩:=hf';refine ⟨fn,h1,h2,?_⟩;have:=Array.all_eq_true_iff_forall_mem.1 h.names fn (Array.mem_of_getElem? h1)
  simpa using this
 mixed:=h.mixed
theorem OK.tab (h:T.OK):aeP T.F T.sig T.G 2000 T.heads where
 fn:=fun k tf hk=>by
  have hk':T.fnG k=some tf:=hk;simp only [fnG,A1] at hk';obtain ⟨s,h1,h2⟩:=hk';split at h2
  ·cases h2
  rename_i hn;simp only [A1] at h2;obtain ⟨I,h3,h4⟩:=h2;split at h4
  case isFalse=>cases h4
  rename_i hp;simp only [A0] at h4;simp only [Bool.or_eq_true,not_or,Bool.not_eq_true] at hn;exact ⟨I,s,h3,h1,hp,h4.symm,hn.1,fun vs=>h.isNat _ vs hn.2⟩
 nat:=fun f aY bs r _ hr=>by
  have hr':T.U6 f aY bs=some r:=hr;cases bs with
  |cons _ _=>simp [U6] at hr'
  |nil=>
   simp only [U6,A1] at hr';obtain ⟨s,h1,h2⟩:=hr';split at h2
   case isFalse=>cases h2
   rename_i hc;simp only [A1,A0] at h2;obtain ⟨vs,h3,rs,h4,rfl⟩:=h2;simp only [As,List.isEmpty_iff] at hc;exact ⟨s,vs,h1,hc.1.1,hc.1.2,rfl,O6 hc.2,aaj h3,h4⟩
theorem OK.fn (h:T.OK) {f:Nat} {vs rs:List V} {bs:List (List C)} (hc:(T.sig f).all (fun s=>s.code.isNone)=true) (hr:bz T.G f (vs.map .v) []=some (rs,bs)):oq T.P f vs rs:=by
 obtain ⟨n,hn⟩:=ahH h.tab (fun s hs=>by rw [hs] at hc;simpa using hc) hr
 exact VI h.table hn
end Right
def oL (f:Nat):Option (List PS):=(T.sig f).bind fun s=>some s.params
def Hg:List HS->List Tree->List (Nat×mU)
 |h::hs,t::ts=>(match (LY h).2 with|n=>(n,cT T.oL n t))::Hg hs ts
 |_,_=>[]
def kOf (k:Nat) (tf:bO):GI:=⟨UA tf.params,tf.boxes,cT T.oL ((UA tf.params).length+tf.boxes.length) tf.body,T.Hg (T.heads k) tf.heads⟩
def Kh (k:Nat):Option GI:=(T.fnG k).bind fun tf=>some (T.kOf k tf)
variable {T}
theorem OO:∀{hs:List HS} {ts:List Tree} {i m:Nat} {t:mU},(T.Hg hs ts)[i]?=some (m,t)->∃t',ts[i]?=some t'/\t=cT T.oL m t'
 |[],_,_,_,_,h=>by simp [Hg] at h
 |_::_,[],_,_,_,h=>by simp [Hg] at h
 |h::hs,t0::ts,0,m,t,he=>by simp only [Hg,D2,A0,A3] at he;obtain ⟨rfl,rfl⟩:=he;exact ⟨t0,rfl,rfl⟩
 |h::hs,t0::ts,i+1,m,t,he=>by simp only [Hg,C6] at he;simpa using OO he
theorem aje {k:Nat} {kf:GI} (h:T.Kh k=some kf):PM T.G T.oL k kf\/AX T.G T.oL k kf:=by
 simp only [Kh,A1,A0] at h;obtain ⟨tf,h1,rfl⟩:=h;refine .inl ⟨tf,h1,?_,rfl,rfl,rfl,fun i m t ht=>OO ht⟩
 simp only [fnG,A1] at h1;obtain ⟨s,h2,h3⟩:=h1;split at h3
 ·cases h3
 simp only [A1] at h3;obtain ⟨I,_,h4⟩:=h3;split at h4
 case isFalse=>cases h4
 simp only [A0] at h4;subst h4;simp [oL,h2,UT]
end Seat
end Go.Ey
namespace Go.Ey.Rh
open Go.Ey
def lf {α:Type} (k:Nat) (v:α):BT α:=.node k v .leaf .leaf
def aC (a:List Sh):List Sh:=.a::.a::a
def aD (a:List Sh):List Sh:=.full::a
def aI (a:List Nat):List Nat:=1::1::a
def aL (a:Nat) (b:List NF):List NF:=.mH a::b
def aM a:=aC (aC a)
def aO (a:List Sh) (b:List NF):List NF:=.box a::b
def aT (a:Nat) (b:List (Nat×Sh)):List (Nat×Sh):=(a,.a)::b
def aU (a b:Nat) (c:List NF):List NF:=.arr a b true false::c
def aV (a b:Nat) (c:List (Nat×Sh)):List (Nat×Sh):=(a,.arr b)::c
def aW a:=aI (aI a)
def aX a:=aD (aD a)
def aZ (a b:Nat) (c:List NF):List NF:=.arr a b false false::c
def bA a b c:=aT a (aT b c)
def bB (a:List Nat):List Nat:=0::1::a
def bC a:=aM (aM a)
def bE (a b:Nat) (c:List Nat):List Nat:=a::b::1::bB c
def bF (a b:Nat) (c:List (Nat×Sh)):List (Nat×Sh):=(a,.loc b 0)::c
def bG a b c d:=bF a b (aT c d)
def bK (a:List Nat) (b:List (Nat×Sh)) (c:List NF) (d:List HS):List HS:=⟨bB (bB a),b,c⟩::d
def bP a b:=aO (aX (aD (bC (.a::aX (aD (.a::a)))))) b
def bQ a:=aI (1::a)
def bR a:=bC (aM a)
def bS a b c d:=aO (.arr a::.arr b::c) d
def bU a:=aW (bQ a)
def bV a b c:=bE a b (aW c)
def dD a b c:=bV a b (aW (bU c))
def dJ a b c d:=bK (aI a) b c d
def dM a b c d:=aV a b (aT c d)
def dN a b:=bF a 0 b
def dQ a b c d:=bK (1::a) b c d
def dZ a b:=aZ 11 44 (aU a 35 b)
def eD a b c d:=dZ a (aU b c d)
def fA a b c d:=bS a b (bR (aD (.a::c))) d
def fB a:=aC (.a::a)
def fI a b c d:=dN a (bF b 1 (bF c 2 d))
def fJ a b:=bA a b []
def fM a b c d:=aV a b (fJ c d)
def fO a b c:=aO (.arr a::aD b) c
def fP a:=aL 2 a
def fQ a b c:=aT a (dN b c)
def fT a:=aL 16 a
def fU a b:=aO (aX a) b
def fV a b c d:=bK (aW a) b c d
def fZ (a:Nat) (b:List Nat):List Nat:=1::0::a::1::b
def gB a b c d:=fZ a (dD b c d)
def gD a:=aL 11 (bP [] (aL 37 (aU 13 115 a)))
def gF a b c d:=bK a b (gD c) d
def gG a b c d:=dJ a b (gD c) d
def gH a b c d:=bA a b (fJ c d)
def gI a:=aL 11 a
def gJ a:=bB (aW a)
def gK a:=bC (.a::aX a)
def gM a:=aZ 11 44 a
def gP a b c:=gM (aZ a b c)
def gV (a:List Nat):List Nat:=0::0::1::bE 0 0 a
def gW a b c d:=gV (gB a b c d)
def iB a b c:=eD a b 69 c
def iC (a:List Nat):List Nat:=0::0::1::a
def iE a b:=aU a 112 b
def iF a b c d:=bK a b (fP c) d
def iG a b c:=fT (aL a (bP b c))
def iH a b c:=bA a b (aT c [])
def iI a b c:=NF.arr a b false c
def iJ a:=aC (aD a)
def iL a:=aU 13 115 a
def iN a b c d:=bS a b (bR [.arr c,.a]) d
def iP a b c:=fI 5 6 8 (bA 12 14 (aV 16 3 (bG 18 a 21 (bG 22 b 25 c))))
def iQ a b c d:=iP a b ((c,.full)::d)
def iT (a b:Nat) (c:List Nat):List Nat:=1::bE a b c
def iU a b c:=aO (aD (.arr a::b)) c
def iV a b c:=aO (.arr a::bR [.a,.arr b,.a]) c
def iX a b c:=fI 5 6 8 (bA 12 14 (aV 16 a (bG 18 b 21 c)))
def iZ a:=fB (aX (bC (.a::aX (aD (.a::aD (fB a))))))
end Go.Ey.Rh
namespace Go.Ey.Pr
open Go.Ey Go.Ey.Rh
noncomputable abbrev PP:Program:=Go.Proofs.Tryz.prog
def zf (f:Nat):Nat:=cond (Nat.testBit 89202980794122492566142873090593463203791872 f) 2 (cond (Nat.testBit 1424477656025083477918464159528148715171386937491739438393721279810802401742649439486534029886604871600128 f) 1 0)
def s5:fC:=⟨[.one],[],[.one (.c)],false,none,[]⟩
def s9:fC:=⟨[],[],[.one (.c)],true,none,[]⟩
def s10:fC:=⟨[.one],[],[.one (.own 32 85 true false)],false,none,[]⟩
def s11:fC:=⟨[.ref 0 0,.one],[2],[.one (.c)],false,none,[]⟩
def s12:fC:=⟨[.one],[],[.agg (List.replicate 2 .c)],false,none,[]⟩
def s15:fC:=⟨[.one,.one,.one],[],[.one (.c)],false,none,[]⟩
def s16:fC:=⟨[.agg 16,.agg 16],[],[.one (.c)],false,none,[]⟩
def s18:fC:=⟨[.one,.one],[],[.agg (List.replicate 11 .c)],false,none,[]⟩
def s19:fC:=⟨[.one],[],[.agg (List.replicate 11 .c)],false,none,[]⟩
def s22:fC:=⟨[.ref 0 0],[2],[.agg (List.replicate 11 .c)],false,none,[]⟩
def s24:fC:=⟨[.agg 16,.agg 16],[],[.agg (List.replicate 16 .c),.one (.c)],false,none,[]⟩
def s28:fC:=⟨[.one,.one,.one],[],[.agg (List.replicate 16 .c),.one (.c)],false,none,[]⟩
def PR:fC:=⟨[.one,.one],[],[.one (.c)],false,none,[]⟩
def s31:fC:=⟨[.one,.agg 16],[],[.one (.c)],false,none,[]⟩
def s34:fC:=⟨[],[],[.one (.own 32 85 true false)],false,none,[]⟩
def s35:fC:=⟨[],[],[.one (.c)],false,none,[]⟩
def s37:fC:=⟨[.one,.agg 2,.agg 11,.one],[],[.agg (List.replicate 34 .c),.one (.c)],false,none,[]⟩
def s39:fC:=⟨[.ref 0 0,.one,.one],[2],[.agg (List.replicate 11 .c)],false,none,[]⟩
def s40:fC:=⟨[.agg 11,.agg 11],[],[.agg (List.replicate 11 .c)],false,none,[]⟩
def s42:fC:=⟨[.one],[],[.one (.c)],true,none,[]⟩
def s44:fC:=⟨[.one],[],[.one (.c)],true,none,[]⟩
def s45:fC:=⟨[.one,.one,.agg 11],[],[.agg (List.replicate 16 .c),.one (.c)],false,none,[]⟩
def s46:fC:=⟨[.agg 2,.agg 2],[],[.one (.c)],false,none,[]⟩
def s49:fC:=⟨[.agg 11,.agg 11],[],[.one (.c)],false,none,[]⟩
def s50:fC:=⟨[.one,.one,.agg 11,.agg 11],[],[.agg (List.replicate 37 .c)],false,none,[]⟩
def s53:fC:=⟨[.agg 2],[],[.agg (List.replicate 11 .c)],false,none,[]⟩
def s54:fC:=⟨[.agg 2,.one],[],[.agg (List.replicate 11 .c)],false,none,[]⟩
def s62:fC:=⟨[.one,.agg 2],[],[.one (.c)],false,none,[]⟩
def s69:fC:=⟨[.one],[],[.one (.c),.one (.c)],false,none,[]⟩
def s72:fC:=⟨[.one,.one],[],[.one (.c)],true,none,[]⟩
def s73:fC:=⟨[.agg 11],[],[.agg (List.replicate 11 .c)],false,none,[]⟩
def s74:fC:=⟨[.agg 11,.one],[],[.agg (List.replicate 11 .c)],false,none,[]⟩
def s79:fC:=⟨[.one,.agg 7],[],[.agg (List.replicate 32 .c)],false,none,[]⟩
def s83:fC:=⟨[],[],[.agg (List.replicate 11 .c)],false,none,[]⟩
def s92:fC:=⟨[.agg 11,.one,.one],[],[.one (.c)],false,none,[]⟩
def s94:fC:=⟨[.agg 7],[],[.agg (List.replicate 11 .c)],false,none,[]⟩
def s95:fC:=⟨[],[],[.agg (List.replicate 7 .c)],false,none,[]⟩
def ata:fC:=⟨[.one,.agg 2],[],[.agg (List.replicate 37 .c),.one (.c)],false,none,[]⟩
def aqQ:fC:=⟨[.ref 0 0,.one],[2],[.agg (List.replicate 7 .c)],false,none,[]⟩
def aoP:fC:=⟨[.one,.agg 2],[],[.one (.c),.one (.c)],false,none,[]⟩
def alD:fC:=⟨[.one,.agg 11],[],[.one (.c)],false,none,[]⟩
def arh:fC:=⟨[.agg 37],[],[.one (.c),.one (.c)],true,none,[]⟩
def aqo:fC:=⟨[.one],[],[.one (.c)],true,none,[]⟩
def aln:fC:=⟨[.agg 37],[],[.one (.c),.one (.c)],true,none,[]⟩
def asR:fC:=⟨[.agg 37,.one],[],[.one (.c)],false,none,[]⟩
def ao9:fC:=⟨[.agg 7,.agg 7],[],[.one (.c)],false,none,[]⟩
def asZ:fC:=⟨[.agg 11,.one],[],[.agg (List.replicate 11 .c)],false,none,[364]⟩
def arb:fC:=⟨[.agg 11,.ref 0 0],[1],[.agg (List.replicate 11 .c)],false,none,[]⟩
def atg:fC:=⟨[.one,.agg 2],[],[.agg (List.replicate 11 .c),.one (.c)],false,none,[]⟩
def aqD:fC:=⟨[.one,.one,.one],[],[.one (.c),.agg (List.replicate 2 .c)],false,none,[]⟩
def asN:fC:=⟨[.agg 7],[],[.one (.c),.one (.c)],false,none,[]⟩
def arv:fC:=⟨[.one,.one,.agg 7],[],[.agg (List.replicate 11 .c),.one (.c)],false,none,[]⟩
def anD:fC:=⟨[.one,.one],[],[.agg (List.replicate 7 .c),.one (.c)],false,none,[]⟩
def arS:fC:=⟨[],[],[.one (.own 2 35 false false)],false,none,[]⟩
def afc:fC:=⟨[.one],[],[.agg (List.replicate 7 .c)],false,none,[]⟩
def adA:fC:=⟨[.agg 11],[],[.one (.c)],false,none,[]⟩
def anY:fC:=⟨[.agg 2],[],[.agg (List.replicate 7 .c)],false,none,[]⟩
def atd:fC:=⟨[.agg 2],[],[.one (.c),.one (.c)],false,none,[]⟩
def arl:fC:=⟨[.one,.agg 2],[],[.one (.c),.one (.c),.one (.c)],false,none,[]⟩
def ar3:fC:=⟨[.agg 32],[],[.one (.c)],false,none,[]⟩
def ak7:fC:=⟨[.one,.one],[],[.agg (List.replicate 7 .c)],false,none,[]⟩
def aqx:fC:=⟨[.agg 7,.agg 7],[],[.agg (List.replicate 7 .c)],false,none,[]⟩
def arF:fC:=⟨[.one,.one,.one],[],[.one (.c)],false,none,[365]⟩
def ar1:fC:=⟨[.one,.one],[],[.one (.c)],false,none,[366]⟩
def atx:fC:=⟨[.agg 11,.ref 0 0],[11],[.one (.c)],false,none,[]⟩
def atA:fC:=⟨[.one],[],[.one (.c),.agg (List.replicate 2 .c)],false,none,[]⟩
def ase:fC:=⟨[.one,.one],[],[.agg (List.replicate 2 .c)],false,none,[]⟩
def apl:fC:=⟨[.ref 0 0,.one],[4],[.agg (List.replicate 7 .c),.agg (List.replicate 2 .c)],false,none,[]⟩
def aed:fC:=⟨[.agg 7],[],[.one (.c)],false,none,[]⟩
def as3:fC:=⟨[.ref 0 0,.agg 7,.one],[3],[.agg (List.replicate 11 .c),.one (.c)],false,none,[]⟩
def amH:fC:=⟨[.one,.one],[],[.one (.c),.one (.c)],false,none,[]⟩
def atj:fC:=⟨[.one,.one],[],[.one (.c)],false,none,[371]⟩
def asw:fC:=⟨[.one,.one],[],[.agg (List.replicate 5 .c),.one (.c),.agg (List.replicate 2 .c)],false,none,[]⟩
def aqA:fC:=⟨[.one,.one,.one],[],[.agg (List.replicate 2 .c),.one (.c)],false,none,[]⟩
def as2:fC:=⟨[.agg 7,.one],[],[.one (.c)],false,none,[]⟩
def ag0:fC:=⟨[.agg 2],[],[.one (.c)],false,none,[]⟩
def asP:fC:=⟨[.ref 0 0,.one,.one],[3],[.agg (List.replicate 11 .c),.one (.c)],false,none,[]⟩
def atc:fC:=⟨[.one],[],[.agg (List.replicate 7 .c),.one (.c)],false,none,[]⟩
def arQ:fC:=⟨[.ref 0 0],[3],[.one (.c)],false,none,[]⟩
def asu:fC:=⟨[.one,.agg 2],[],[.agg (List.replicate 15 .c),.one (.c)],false,none,[]⟩
def arO:fC:=⟨[.one,.agg 7],[],[.agg (List.replicate 7 .c),.one (.c),.one (.c)],false,none,[]⟩
def arj:fC:=⟨[.ref 0 0,.agg 2],[3],[.one (.c),.one (.c)],false,none,[]⟩
def aqN:fC:=⟨[.one,.one,.one,.one],[],[.one (.c)],false,none,[]⟩
def aqr:fC:=⟨[.one,.one,.one],[],[.one (.c),.one (.c),.agg (List.replicate 2 .c)],false,none,[]⟩
def arN:fC:=⟨[.agg 5,.one],[],[.agg (List.replicate 2 .c)],false,none,[]⟩
def atp:fC:=⟨[.one,.agg 5,.one,.one],[],[.agg (List.replicate 5 .c),.one (.c),.agg (List.replicate 2 .c)],false,none,[]⟩
def aqJ:fC:=⟨[.one],[],[.one (.c),.one (.c),.one (.c)],false,none,[]⟩
def aqu:fC:=⟨[.one,.one],[],[.agg (List.replicate 2 .c),.one (.c)],false,none,[]⟩
def atB:fC:=⟨[.one,.agg 11,.one,.one],[],[.agg (List.replicate 7 .c),.one (.c),.one (.c)],false,none,[]⟩
def ao1:fC:=⟨[.agg 11,.one],[],[.one (.c)],false,none,[]⟩
def aqB:fC:=⟨[.one,.one,.one,.one],[],[.agg (List.replicate 7 .c)],false,none,[]⟩
def apy:fC:=⟨[.one,.one],[],[.one (.c)],true,none,[]⟩
def arV:fC:=⟨[.agg 11,.fD 136 [(0,0)]],[1],[.agg (List.replicate 11 .c)],false,(some 135),[]⟩
def ath:fC:=⟨[.one,.one,.fD 114 []],[],[.one (.c)],false,(some 170),[]⟩
def arD:fC:=⟨[.one,.fD 177 [(0,0)]],[11],[.one (.c)],false,(some 176),[]⟩
def aqC:fC:=⟨[.one,.fD 177 [(0,0)]],[11],[.one (.c)],false,(some 209),[]⟩
def sgT:BT fC:=(.node 135 asZ (.node 63 PR (.node 35 s35 (.node 21 s18 (.node 12 s12 (.node 9 s9 (.node 6 s5 (lf 5 s5) (lf 8 s5)) (.node 11 s11 (lf 10 s10) .leaf)) (.node 16 s16 (.node 15 s15 (lf 13 s12) .leaf) (.node 19 s19 (lf 18 s18) .leaf))) (.node 28 s28 (.node 25 s24 (.node 23 s5 (lf 22 s22) (lf 24 s24)) (.node 27 s16 (lf 26 s16) .leaf)) (.node 31 s31 (.node 30 PR (lf 29 s28) .leaf) (.node 34 s34 (lf 32 s31) .leaf)))) (.node 49 s49 (.node 42 s42 (.node 39 s39 (.node 37 s37 (lf 36 s35) (lf 38 s11)) (.node 41 PR (lf 40 s40) .leaf)) (.node 46 s46 (.node 45 s45 (lf 44 s44) .leaf) (.node 48 PR (lf 47 PR) .leaf))) (.node 57 PR (.node 54 s54 (.node 52 s18 (lf 50 s50) (lf 53 s53)) (.node 56 PR (lf 55 PR) .leaf)) (.node 60 PR (.node 59 PR (lf 58 PR) .leaf) (.node 62 s62 (lf 61 PR) .leaf))))) (.node 93 s83 (.node 78 s35 (.node 72 s72 (.node 69 s69 (.node 65 s62 (lf 64 s46) (lf 66 s46)) (.node 71 s19 (lf 70 s69) .leaf)) (.node 75 s19 (.node 74 s74 (lf 73 s73) .leaf) (.node 77 s74 (lf 76 s73) .leaf))) (.node 85 s83 (.node 82 s40 (.node 80 s12 (lf 79 s79) (lf 81 s35)) (.node 84 s19 (lf 83 s83) .leaf)) (.node 88 s53 (.node 87 s40 (lf 86 s40) .leaf) (.node 92 s92 (lf 90 s5) .leaf)))) (.node 120 aoP (.node 106 aoP (.node 103 aqQ (.node 95 s95 (lf 94 s94) (lf 101 ata)) (.node 105 s35 (lf 104 s35) .leaf)) (.node 113 arh (.node 111 s62 (lf 107 alD) .leaf) (.node 116 aqo (lf 114 s49) .leaf))) (.node 127 alD (.node 124 PR (.node 122 asR (lf 121 aln) (lf 123 PR)) (.node 126 PR (lf 125 ao9) .leaf)) (.node 131 s19 (.node 129 alD (lf 128 PR) .leaf) (.node 134 s92 (lf 132 s18) .leaf)))))) (.node 218 atc (.node 176 ar1 (.node 148 s40 (.node 142 s35 (.node 139 PR (.node 137 s95 (lf 136 arb) (lf 138 atg)) (.node 141 s35 (lf 140 aqD) .leaf)) (.node 145 anD (.node 144 arv (lf 143 asN) .leaf) (.node 147 afc (lf 146 arS) .leaf))) (.node 159 ak7 (.node 155 atd (.node 151 s62 (lf 150 adA) (lf 152 anY)) (.node 157 ar3 (lf 156 arl) .leaf)) (.node 162 aqx (.node 161 afc (lf 160 afc) .leaf) (.node 170 arF (lf 169 ao9) .leaf)))) (.node 189 adA (.node 183 ase (.node 180 s95 (.node 178 s94 (lf 177 atx) (lf 179 s95)) (.node 182 atA (lf 181 s54) .leaf)) (.node 186 aed (.node 185 aed (lf 184 apl) .leaf) (.node 188 as3 (lf 187 aed) .leaf))) (.node 212 asw (.node 209 atj (.node 191 s5 (lf 190 s35) (lf 194 amH)) (.node 211 amH (lf 210 anY) .leaf)) (.node 215 as2 (.node 214 apl (lf 213 aqA) .leaf) (.node 217 asP (lf 216 ag0) .leaf))))) (.node 259 ak7 (.node 231 PR (.node 225 adA (.node 222 arO (.node 220 asu (lf 219 arQ) (lf 221 ag0)) (.node 224 adA (lf 223 arj) .leaf)) (.node 228 s69 (.node 227 s5 (lf 226 adA) .leaf) (.node 230 amH (lf 229 PR) .leaf))) (.node 252 atp (.node 249 arN (.node 247 aqN (lf 246 s5) (lf 248 aqr)) (.node 251 PR (lf 250 s5) .leaf)) (.node 255 s5 (.node 254 s5 (lf 253 aqJ) .leaf) (.node 257 ag0 (lf 256 aqu) .leaf)))) (.node 276 ag0 (.node 266 s5 (.node 263 ao1 (.node 261 atB (lf 260 anD) (lf 262 PR)) (.node 265 aed (lf 264 ao1) .leaf)) (.node 269 PR (.node 268 s5 (lf 267 s5) .leaf) (.node 275 s5 (lf 270 PR) .leaf))) (.node 283 apy (.node 279 afc (.node 278 ak7 (lf 277 afc) .leaf) (.node 282 aed (lf 280 aqB) .leaf)) (.node 365 ath (.node 364 arV (lf 285 s5) .leaf) (.node 371 aqC (lf 366 arD) .leaf)))))))
def hsT:BT (List HS):=(.node 111 (iF [] (dN 3 (iH 7 8 9)) [] []) (.node 48 (dQ [] (iH 0 1 5) [] []) (.node 29 (dQ [] (dN 6 (fJ 8 9)) (bP [] []) (dJ [] (dN 6 (fJ 8 10)) (bP [] []) (fV [] (bG 6 0 8 (dM 11 1 12 [])) (bP [] (aZ 16 47 [])) (bK (iC (bV 0 0 [])) (bG 6 0 8 (aV 11 1 (iH 12 13 14))) (bP [] (aZ 16 47 [])) (bK (bU []) (dN 6 (fM 11 1 15 16)) (bP [] (aZ 16 47 [])) (bK (bU []) (dN 6 (iH 11 15 16)) (bP [] []) [])))))) (.node 23 (bK (bQ []) (aV 3 0 (bF 4 1 ((5,.full)::aT 6 []))) (aU 32 85 (fP [])) (bK (bQ []) (aV 3 0 (bF 4 1 (dM 5 2 6 []))) (aU 32 85 (fP (aU 16 47 []))) [])) (.node 11 (dJ [] (dN 0 (gH 1 5 6 7)) (fP []) []) (.node 6 (bK (bQ []) (fJ 3 4) [] [⟨bB (fZ 0 (bE 0 0 (bQ []))),iH 3 4 5,[]⟩]) (lf 5 (bK (bQ []) (fJ 3 4) [] [⟨bB (gV (bQ [])),iH 3 4 5,[]⟩])) (lf 10 (dJ [] (aT 0 (fM 3 0 4 5)) (aU 32 85 []) (fV [] (aT 0 (fM 3 0 6 7)) (aU 32 85 []) [])))) (.node 16 (dQ [] (dN 2 (bG 3 1 5 [])) (fT (fT [])) []) (lf 15 (dJ [] (bA 0 1 (fM 7 0 8 9)) (aZ 16 47 []) [])) .leaf)) (.node 26 (dQ [] (dN 2 (iH 25 26 27)) (fT []) (bK (fZ 0 (iT 0 0 [1])) (dN 2 (bF 6 1 (bA 7 25 (bA 26 27 (iH 32 33 34))))) (fT (fP [])) [])) (.node 25 (fV [] (fI 2 3 4 (bG 6 3 7 [])) (iG 16 [] (iV 4 5 (gP 2 69 []))) (dJ (iC (bV 0 0 [])) (fI 2 3 4 (bG 6 3 7 (bF 8 4 (bF 9 5 (bG 10 6 11 []))))) (iG 16 [] (iV 7 8 (fP (fP (fO 9 [] (gP 2 69 (gM []))))))) (bK (bQ (iC (bV 0 0 []))) (fI 2 3 4 (bG 6 3 7 (bF 8 4 (bF 9 5 (bG 10 6 12 []))))) (iG 16 [] (iV 7 8 (fP (fP (bS 9 10 [] (gP 2 69 (aZ 11 44 (aU 1 112 [])))))))) (bK (fZ 0 (bE 0 0 (bQ (iC (bV 0 0 []))))) (fI 2 3 4 (bG 6 3 7 (bF 8 4 (bF 9 5 (bG 10 6 12 (dM 13 7 14 [])))))) (iG 16 [] (iV 8 9 (fP (fP (bS 10 11 [] (iL (gP 2 69 (aZ 11 44 (aU 1 112 []))))))))) (bK (bQ (iC (bV 0 0 []))) (fI 2 3 4 (bG 6 3 7 (bF 8 4 (bF 9 5 (bG 10 6 12 []))))) (iG 16 [] (iV 7 8 (fP (fP (fO 9 [] (gP 2 69 (gM []))))))) (bK (fZ 0 (bE 0 0 (bQ (iC (bV 0 0 []))))) (fI 2 3 4 (bG 6 3 7 (bF 8 4 (bF 9 5 (bG 10 6 12 (dM 13 7 14 [])))))) (iG 16 [] (iV 8 9 (fP (fP (fO 10 [] (iL (gP 2 69 (gM [])))))))) [])))))) (lf 24 (dJ [] (fI 2 3 4 (bF 6 3 (fJ 57 58))) (iG 16 [] (bP [] [])) (⟨bB (bQ (iC (iT 0 0 (aI [])))),fI 2 3 4 (bF 6 3 (bF 8 4 (bF 9 5 (gH 57 58 89 90)))),iG 16 [] (bP [] (fP (fP [])))⟩::fV [] (fI 2 3 4 (bF 11 3 (fJ 134 135))) (iG 16 [] (iV 4 5 (gP 2 69 []))) (dJ (iC (1::bV 0 0 [])) (fI 2 3 4 (bF 11 3 (bF 13 4 (bF 14 5 (bF 15 6 (gH 134 135 154 155)))))) (iG 16 [] (iV 7 8 (fP (fP (bS 9 10 [] (gP 2 69 (gP 1 112 []))))))) (bK (fZ 0 (iT 0 0 (aI (iC (1::bV 0 0 []))))) (fI 2 3 4 (bF 11 3 (bF 13 4 (bF 14 5 (bG 15 6 16 (aV 17 7 (bA 134 135 (bA 154 155 (iH 168 169 170))))))))) (iG 16 [] (iV 8 9 (fP (fP (bS 10 11 [] (aZ 13 115 (gP 2 69 (gP 1 112 [])))))))) (bK (fZ 0 (iT 0 0 (fZ 0 (iT 0 0 (aI (iC (1::bV 0 0 []))))))) (fI 2 3 4 (bF 11 3 (bF 13 4 (bF 14 5 (bG 15 6 16 (aV 17 7 (bF 19 8 (bA 20 134 (bA 135 154 (bA 155 168 (bA 169 170 (iH 178 179 180)))))))))))) (iG 16 [] (iV 9 10 (fP (fP (bS 11 12 [] (aZ 13 115 (aL 13 (gP 2 69 (gP 1 112 []))))))))) [])))))) .leaf) (.node 28 (dQ [] (dN 6 (fJ 8 9)) (bP [] []) (dJ [] (dN 6 (fJ 8 10)) (bP [] []) (fV [] (bG 6 0 8 (aV 11 1 (iH 36 37 38))) (bP [] (aZ 16 47 [])) (bK (fZ 0 (1::bV 0 0 [])) (bG 6 0 8 (dM 11 1 12 (bF 13 2 (bA 14 36 (bA 37 38 (iH 43 44 45)))))) (bP [] (aZ 16 47 (fT []))) (fV (aW []) (dN 6 (bF 17 1 (fJ 85 86))) (bP [] (fT [])) []))))) (lf 27 (bK [] (dN 2 (bG 3 1 5 [])) (fT (fT [])) (dJ [] (dN 2 (bG 3 1 6 [])) (fT (fT [])) (bK (gV (aI [])) (dN 2 (bF 3 1 (iH 6 7 8))) (fT (fT [])) [])))) .leaf))) (.node 39 (iF (bU []) (dN 0 (bA 1 2 (bF 6 1 (bG 8 2 11 (dM 13 3 14 []))))) (aO (gK []) (fP (gM []))) []) (.node 32 (dJ [] (aT 0 (dN 3 (bF 5 1 (dM 6 2 7 [])))) (fT (gI (aZ 1 28 []))) (bK (gV (aI [])) (aT 0 (dN 3 (bF 5 1 (aV 6 2 (iH 7 8 9))))) (fT (gI (aZ 1 28 []))) (bK (fZ 0 (bE 0 0 (aI []))) (aT 0 (dN 3 (bF 5 1 (aV 6 2 (iH 7 8 10))))) (fT (gI (aZ 1 28 []))) []))) (.node 31 (dJ [] (fQ 0 5 (aV 6 1 (iH 17 18 19))) (gI (aZ 1 28 [])) (bK (fZ 0 (iT 0 0 (aI []))) (fQ 0 5 (aV 6 1 (bF 8 2 (bA 9 17 (bA 18 19 (iH 24 25 26)))))) (gI (aZ 1 28 (fP []))) (dJ (iC (iT 0 0 (aI []))) (fQ 0 5 (aV 6 1 (bA 9 17 (bA 18 19 (iH 37 38 39))))) (gI (aZ 1 28 [])) []))) (lf 30 (dQ [] (iH 0 1 5) [] [])) .leaf) (.node 37 (fV (gJ (aI (bB (gJ [])))) (fI 8 11 14 (fM 22 3 23 24)) (aO (fB (aD (bC (iZ [])))) (gI (aO (bR (fB (aX (gK (.arr 4::.a::aD (fB [])))))) (aU 2 35 (gM []))))) (dQ (gJ (aW (bB (gJ [])))) (bG 8 0 12 (bF 14 1 (bF 25 2 (bG 26 3 27 [])))) (aO (fB (aD (bC (iZ [])))) (aO (bR (iZ [])) (gI (gI [])))) (dQ (gJ (aW (aW (aI (bB (gJ [])))))) (fI 6 8 14 (fM 34 3 35 36)) (gI (aO (fB (aD (bC (iZ [])))) (aO (bR (iZ [])) (aU 2 35 [])))) [⟨bB (aI (gV (1::gJ (aW (bB (gJ [])))))),bG 8 0 12 (bF 14 1 (bF 25 2 (bF 26 3 (fJ 27 29)))),aO (fB (aD (bC (iZ [])))) (aO (bR (iZ [])) (gI (gI [])))⟩]))) (lf 34 (dJ [] (fM 1 0 2 3) (aU 32 85 []) [])) .leaf)) (.node 45 (bK (aW (bU [])) (fI 5 6 8 (bA 12 14 (aT 15 (aV 16 3 (aV 17 4 (bF 18 5 (dM 19 6 20 []))))))) (aL 11 (bP [] (aL 37 (aZ 13 115 (aU 2 35 (bS 7 8 (aD (bC (.a::aX (aD [.a])))) (gM (gP 2 35 [])))))))) (fV (aW (bU [])) (iX 3 4 []) (gD (iN 5 6 7 (iB 2 2 []))) (gF (iC (dD 0 0 [])) (iX 3 4 (bG 22 5 23 [])) (iN 6 7 8 (fO 9 [] (iB 2 2 (aU 11 44 [])))) (⟨iC (gV (iC (dD 0 0 []))),iX 3 4 (bG 22 5 23 (bF 24 6 [])),gD (iN 7 8 9 (fO 10 [] (gI (iB 2 2 (aU 11 44 [])))))⟩::gF (gB 0 0 0 []) (iP 4 5 []) (iN 6 7 8 (bS 9 10 [] (iB 2 2 (aU 11 44 (iE 1 []))))) (gF (gW 0 0 0 []) (iP 4 5 (dM 26 6 27 [])) (iN 7 8 9 (bS 10 11 [] (iL (iB 2 2 (aU 11 44 (iE 1 [])))))) (gG (gW 0 0 0 []) (iP 4 5 (fM 26 6 29 30)) (iN 7 8 9 (bS 10 11 [] (iL (iB 2 2 (aU 11 44 (iE 1 [])))))) (fV (aW (bU [])) (iX 3 4 []) (gD (fA 5 6 [] (dZ 2 []))) (gF (gB 0 0 0 []) (iP 4 5 []) (iN 6 7 8 (fO 9 [] (iB 2 2 (aU 11 44 [])))) (gF (iC (dD 0 0 [])) (iX 3 4 (bG 22 5 23 [])) (fA 6 7 [] (fU [] (dZ 2 []))) (gF (gW 0 0 0 []) (iQ 4 5 26 (aT 27 [])) (iN 6 7 8 (fO 9 [] (iB 2 2 (aU 11 44 [])))) (⟨iC (gV (iC (dD 0 0 []))),iX 3 4 (bG 22 5 23 (bF 24 6 [])),gD (fA 7 8 [] (fU [] (gI (dZ 2 []))))⟩::gF (gB 0 0 0 []) (iP 4 5 []) (fA 6 7 [] (fU [] (dZ 2 []))) (gF (gW 0 0 0 []) (iP 4 5 (dM 26 6 27 [])) (iN 7 8 9 (fO 10 [] (iL (iB 2 2 (aU 11 44 []))))) (gG (gW 0 0 0 []) (iQ 4 5 26 (fJ 29 30)) (iN 6 7 8 (fO 9 [] (iB 2 2 (aU 11 44 [])))) (gF (iC (dD 0 0 [])) (iX 3 4 (bG 22 5 23 [])) (fA 6 7 [] (fO 8 [] (eD 2 11 44 []))) (gF (gW 0 0 0 []) (iQ 4 5 26 (aT 27 [])) (fA 6 7 [] (fU [] (dZ 2 []))) (gG (gW 0 0 0 []) (iP 4 5 (fM 26 6 29 30)) (iN 7 8 9 (fO 10 [] (iL (iB 2 2 (aU 11 44 []))))) (gF (iC (dD 0 0 [])) (iX 3 4 (bG 22 5 23 [])) (iN 6 7 8 (fU [] (iB 2 2 []))) (gF (gW 0 0 0 []) (iQ 4 5 26 (aT 27 [])) (iN 6 7 8 (bS 9 10 [] (iB 2 2 (aU 11 44 (iE 1 []))))) (⟨iC (gV (iC (dD 0 0 []))),iX 3 4 (bG 22 5 23 (bF 24 6 [])),gD (fA 7 8 [] (fO 9 [] (gI (eD 2 11 44 []))))⟩::gF (gB 0 0 0 []) (iP 4 5 []) (fA 6 7 [] (fO 8 [] (eD 2 11 44 []))) (gF (gW 0 0 0 []) (iP 4 5 (dM 26 6 27 [])) (fA 7 8 [] (fU [] (iL (dZ 2 [])))) (gG (gW 0 0 0 []) (iQ 4 5 26 (fJ 29 30)) (fA 6 7 [] (fU [] (dZ 2 []))) (⟨iC (gV (iC (dD 0 0 []))),iX 3 4 (bG 22 5 23 (bF 24 6 [])),gD (iN 7 8 9 (fU [] (gI (iB 2 2 []))))⟩::gF (gB 0 0 0 []) (iP 4 5 []) (iN 6 7 8 (fU [] (iB 2 2 []))) (gG (gW 0 0 0 []) (iQ 4 5 26 (fJ 29 30)) (iN 6 7 8 (bS 9 10 [] (iB 2 2 (aU 11 44 (iE 1 []))))) (gF (gW 0 0 0 []) (iQ 4 5 26 (aT 27 [])) (fA 6 7 [] (fO 8 [] (eD 2 11 44 []))) (gG (gW 0 0 0 []) (iP 4 5 (fM 26 6 29 30)) (fA 7 8 [] (fU [] (iL (dZ 2 [])))) (gF (gB 0 0 0 []) (iP 4 5 []) (fA 6 7 [] (iU 8 [] (eD 2 1 112 []))) (gF (gW 0 0 0 []) (iQ 4 5 26 (aT 27 [])) (iN 6 7 8 (fU [] (iB 2 2 []))) (gF (gW 0 0 0 []) (iP 4 5 (dM 26 6 27 [])) (fA 7 8 [] (fO 9 [] (iL (eD 2 11 44 [])))) (gG (gW 0 0 0 []) (iQ 4 5 26 (fJ 29 30)) (fA 6 7 [] (fO 8 [] (eD 2 11 44 []))) (gF (gW 0 0 0 []) (iQ 4 5 26 (aT 27 [])) (fA 6 7 [] (iU 8 [] (eD 2 1 112 []))) (gF (gW 0 0 0 []) (iP 4 5 (dM 26 6 27 [])) (iN 7 8 9 (fU [] (iL (iB 2 2 [])))) (gG (gW 0 0 0 []) (iQ 4 5 26 (fJ 29 30)) (iN 6 7 8 (fU [] (iB 2 2 []))) (gG (gW 0 0 0 []) (iP 4 5 (fM 26 6 29 30)) (fA 7 8 [] (fO 9 [] (iL (eD 2 11 44 [])))) (gF (gB 0 0 0 []) (iP 4 5 []) (fA 6 7 [] (bS 8 9 [] (eD 2 11 44 (iE 1 [])))) (gF (gW 0 0 0 []) (iP 4 5 (dM 26 6 27 [])) (fA 7 8 [] (iU 9 [] (iL (eD 2 1 112 [])))) (gG (gW 0 0 0 []) (iQ 4 5 26 (fJ 29 30)) (fA 6 7 [] (iU 8 [] (eD 2 1 112 []))) (gG (gW 0 0 0 []) (iP 4 5 (fM 26 6 29 30)) (iN 7 8 9 (fU [] (iL (iB 2 2 [])))) (gF (gB 0 0 0 []) (iP 4 5 []) (iN 6 7 8 (iU 9 [] (iB 2 2 (iE 1 [])))) (gF (gW 0 0 0 []) (iQ 4 5 26 (aT 27 [])) (fA 6 7 [] (bS 8 9 [] (eD 2 11 44 (iE 1 [])))) (gG (gW 0 0 0 []) (iP 4 5 (fM 26 6 29 30)) (fA 7 8 [] (iU 9 [] (iL (eD 2 1 112 [])))) (gF (gW 0 0 0 []) (iQ 4 5 26 (aT 27 [])) (iN 6 7 8 (iU 9 [] (iB 2 2 (iE 1 [])))) (gF (gW 0 0 0 []) (iP 4 5 (dM 26 6 27 [])) (fA 7 8 [] (bS 9 10 [] (iL (eD 2 11 44 (iE 1 []))))) (gG (gW 0 0 0 []) (iQ 4 5 26 (fJ 29 30)) (fA 6 7 [] (bS 8 9 [] (eD 2 11 44 (iE 1 [])))) (gF (gW 0 0 0 []) (iP 4 5 (dM 26 6 27 [])) (iN 7 8 9 (iU 10 [] (iL (iB 2 2 (iE 1 []))))) (gG (gW 0 0 0 []) (iQ 4 5 26 (fJ 29 30)) (iN 6 7 8 (iU 9 [] (iB 2 2 (iE 1 [])))) (gG (gW 0 0 0 []) (iP 4 5 (fM 26 6 29 30)) (fA 7 8 [] (bS 9 10 [] (iL (eD 2 11 44 (iE 1 []))))) (gG (gW 0 0 0 []) (iP 4 5 (fM 26 6 29 30)) (iN 7 8 9 (iU 10 [] (iL (iB 2 2 (iE 1 []))))) []))))))))))))))))))))))))))))))))))))))))))))))) (.node 44 (dQ [] (iH 0 3 4) [] []) (lf 41 (dQ [] (aT 1 (dM 5 0 6 [])) [.arr 11 44 true true] [])) .leaf) (.node 47 (dQ [] (iH 0 1 5) [] []) (lf 46 (dQ [] (dN 2 (bG 3 1 5 [])) (fP (fP [])) [])) .leaf)))) (.node 65 (iF [] (aT 0 (bG 3 0 5 [])) [] []) (.node 59 (bK [] (iH 0 1 5) [] []) (.node 56 (dQ [] (gH 0 1 12 13) [] []) (.node 55 (bK [] (gH 1 7 8 9) [] []) (lf 50 (dQ [] (fQ 1 8 (bG 9 1 10 [])) (aO (iJ (bC (aC (aX (gK (gK [])))))) (aO (aC (.arr 2::bC (bC (bC (bC (aC [])))))) (aZ 2 35 []))) [])) .leaf) (.node 58 (dQ [] (aV 5 0 (iH 10 11 12)) (aU 2 35 []) []) (lf 57 (bK [] (gH 1 9 10 11) [] [⟨bB (fZ 0 (iT 0 0 [])),fQ 1 6 (bA 9 10 (gH 11 15 16 17)),aL 13 []⟩])) .leaf)) (.node 62 (iF [] (aT 0 (bG 3 0 5 [])) [] []) (.node 61 (bK [] (iH 0 1 5) [] [⟨bB (gV []),gH 0 1 5 6,[]⟩]) (lf 60 (dQ [] (aT 1 (dM 5 0 6 [])) (aU 2 35 []) [])) .leaf) (.node 64 (iF [] (dN 2 (bF 3 1 (iH 13 14 15))) (fP []) (dQ [] (dN 2 (iH 26 27 28)) (fP []) (iF (fZ 0 (iT 0 0 [1])) (dN 2 (bA 8 9 (bA 26 27 (gH 28 33 34 35)))) [] []))) (lf 63 (bK [] (gH 1 7 8 9) [] [])) .leaf))) (.node 74 (bK (bB []) (fI 2 3 4 (iH 10 11 12)) (gI (aL 1 (aO (gK []) []))) []) (.node 70 (bK [] (fJ 0 4) [] [⟨bB (gV []),iH 0 4 5,[]⟩]) (.node 69 (bK [] (fJ 0 4) [] (⟨bB (gV []),iH 0 4 5,[]⟩::fV (iC (iC (gV []))) (bA 0 4 (aT 5 (dN 6 (dM 7 1 8 [])))) (aO (.arr 2::bR (fB [])) (aZ 16 47 (aU 11 44 []))) [])) (lf 66 (iF [] (dN 2 (bG 3 1 5 [])) (fP []) (dQ [] (dN 2 (bG 3 1 6 [])) (fP (fP [])) (iF (gV [1]) (dN 2 (bF 3 1 (iH 6 7 8))) (fP []) [])))) .leaf) (.node 72 (dQ [] (gH 5 10 11 12) [] []) (lf 71 (dJ [] (fQ 0 2 (bG 3 1 4 [])) (aO (gK []) (gI [])) [])) .leaf)) (.node 90 (dQ [] (aT 0 (dM 3 0 4 [])) (aU 2 35 []) [⟨bB (aI (gV [1])),aT 0 (dM 3 0 4 (dM 5 1 6 [])),aU 2 35 (aZ 2 35 [])⟩,⟨bB (aI (gV [1])),aT 0 (aV 3 0 (iH 4 5 6)),aU 2 35 []⟩]) (.node 81 (dJ [] (fM 1 0 2 3) (aZ 2 35 []) (fV [] (aV 1 0 (dM 6 1 7 [])) (aZ 2 35 [iI 1 9 true]) [])) (lf 79 (bK (bQ []) (aT 0 (bG 4 0 5 (bF 7 1 (fJ 8 10)))) (aO (aM (aD (iJ (bC (aC (aX (aX (aX (aC (aX (aX (aC [])))))))))))) (aO (aC (.arr 2::bC (bR (.a::aX (gK []))))) (aZ 2 35 []))) [])) .leaf) (.node 107 (bK [] (aT 0 (bG 3 0 5 [])) (gI []) []) (lf 103 (dQ (gJ (aW (aW (aW (aI (bB (bB (aI [])))))))) (bG 0 0 1 (bF 4 1 (fM 6 2 7 8))) (fP (aO (aM (iJ [])) (aZ 7 42 []))) [])) .leaf))))) (.node 218 (bK (bQ []) (fQ 0 2 (fJ 4 6)) (aO (aM (iJ [])) []) []) (.node 146 (dJ [] (aT 1 (dM 2 0 3 [])) (aZ 2 35 []) []) (.node 129 (bK [] (aT 0 (bG 3 0 5 [])) (gI []) []) (.node 125 (dQ [] (dN 2 (bG 3 1 5 [])) (aL 7 (aL 7 [])) []) (.node 123 (bK [] (iH 0 1 5) [] (bK (gV []) (bA 0 1 (iH 5 6 7)) [] [])) (lf 122 (dQ [] (fQ 1 2 (dM 5 1 6 [])) (aL 37 [iI 1 4 true]) [⟨bB (gV [1]),fQ 1 2 (fM 5 1 6 7),aL 37 [iI 1 4 true]⟩,⟨bB (fZ 0 (iC (gV [1]))),fQ 1 2 (aV 5 1 (gH 6 7 8 9)),aL 37 [iI 1 4 true]⟩])) (lf 124 (dQ [] (iH 0 1 5) [] []))) (.node 128 (bK [] (gH 0 10 11 12) [] (bK (fZ 0 (iT 0 0 [])) (fQ 0 6 (bA 7 10 (bA 11 12 (iH 16 17 18)))) (aL 13 []) [])) (lf 126 (dQ [] (iH 0 1 5) [] [])) .leaf)) (.node 140 [⟨iC (aW []),dN 7 (bF 10 1 (aV 11 2 [])),fP (aL 4 (aZ 7 42 []))⟩] (.node 139 (dQ [] (bA 0 1 (dM 5 0 6 [])) (gM []) []) (lf 138 (iF [] (fQ 0 3 (bG 4 1 6 [])) (aO (gK []) []) [])) .leaf) (.node 145 (bK [] (bA 0 1 (bG 4 0 6 [])) (aO (aM (iJ [])) []) []) (lf 143 [⟨iC [1],dN 1 (aV 4 1 []),aL 7 (aZ 7 42 [])⟩]) .leaf))) (.node 182 [⟨bB (bQ []),fQ 0 3 (dM 4 1 5 []),fP (aZ 5 212 [])⟩] (.node 156 (iF [] (aT 0 (bG 3 0 7 [])) [] [⟨bB (fZ 0 (bE 0 0 [])),fQ 0 3 (iH 7 8 9),fP []⟩]) (.node 155 (dJ [] (dN 1 (fJ 4 5)) (fP []) []) (lf 151 (iF [] (aT 0 (bG 3 0 5 [])) [] [])) .leaf) (.node 169 (⟨bB [],dN 2 (bF 3 1 []),aL 7 (aL 7 [])⟩::dJ (0::iC []) (dN 2 (bF 3 1 (iH 5 55 56))) (aL 7 (aL 7 [])) []) (lf 161 (dQ [] (fQ 0 2 (bG 3 1 4 [])) (aO (aM (iJ [])) (aL 7 [])) [])) .leaf)) (.node 213 (iF (bQ []) (bA 1 2 (dN 6 (bG 8 1 10 []))) (fP []) []) (.node 211 [⟨iC [],fJ 0 1,[]⟩,⟨iC (aI (iC (0::iC []))),fJ 0 1,[]⟩,⟨bB (1::gJ (iC (0::iC []))),iH 0 1 6,[]⟩] (lf 188 (bK (bU []) (bG 0 0 2 (bF 6 1 (bG 12 2 13 (dM 23 3 24 [])))) (aL 3 (aO (gK []) (fP (gM [])))) [])) .leaf) (.node 217 (fV [] (dN 0 (bA 1 2 (bF 6 1 (bA 8 9 (dM 11 2 12 []))))) (aL 3 (aO (gK []) (aZ 13 115 []))) []) (lf 214 (⟨iC (aI []),bG 0 0 1 (bF 4 1 (bF 5 2 (aV 6 3 (bF 7 4 [])))),aL 4 (aO (aM (iJ [])) (fP (aZ 7 42 (aL 7 []))))⟩::fV [] (bF 4 1 (bF 5 2 (aV 6 3 (bG 7 4 13 [])))) (aL 4 (aO (aM (iJ [])) (fP (aZ 7 42 (aL 7 []))))) [])) .leaf)))) (.node 256 (bK [] (bA 0 1 (bG 4 0 6 [])) (aO (.a::aD []) []) []) (.node 230 (dJ [] (bA 0 1 (fM 6 0 7 8)) [iI 1 3 true] [⟨bB (gV (aI [])),bA 0 1 (fM 6 0 7 8),[iI 1 3 true]⟩]) (.node 226 (bK (gJ (bB (bB [1]))) (bG 1 0 4 []) (gI []) []) (.node 223 (bK [] (dN 0 (bG 3 1 6 [])) (aL 3 (fP [])) []) (lf 220 (iF [] (fQ 0 3 (bG 4 1 6 [])) (aO (iJ (bC (aC (aX [])))) []) [])) .leaf) (.node 229 [⟨iC (aI []),fJ 6 8,[]⟩] (lf 228 (fV [1] (bA 0 4 (aT 5 (dM 6 0 7 []))) (aZ 1 3 []) [])) .leaf)) (.node 251 [⟨iC [],fJ 0 1,[]⟩] (.node 248 [⟨bB [1],bA 0 1 (aT 2 (dN 8 (aV 9 1 []))),fP (aZ 1 5 [])⟩] (lf 231 (fV [] (aT 1 (dM 5 0 6 [])) (aZ 1 5 []) [])) .leaf) (.node 254 [⟨iC (bQ []),iH 0 3 4,[]⟩] (lf 253 (⟨iC (bQ []),iH 0 5 6,[]⟩::bK (bU []) (iH 0 6 7) [] [])) .leaf))) (.node 269 (dQ [] (iH 0 1 5) [] []) (.node 264 (dJ [] (gH 1 5 6 7) [] []) (.node 263 (bK (bQ []) (gH 1 5 6 7) [] []) (lf 262 (dQ [] (bA 0 1 (dM 5 0 6 [])) (aZ 9 314 []) [])) .leaf) (.node 268 [⟨iC [1],fJ 0 3,[]⟩] (lf 267 (fV [] (fJ 0 4) [] [])) .leaf)) (.node 364 (dJ [] ((1,.fD 136 [(0,0)])::bF 2 1 (bF 4 2 (aV 5 3 (iH 17 18 19)))) (aL 1 (gI (aO (gK []) [iI 11 44 true]))) []) (.node 285 (dQ [] (fJ 0 3) [] []) (lf 270 (dJ [] (bA 0 1 (fM 5 0 6 7)) (aZ 1 3 []) [])) .leaf) (.node 371 (bK [] (aT 0 ((1,.fD 177 [(0,0)])::fJ 7 8)) (gI []) []) (lf 365 (dQ [] (aT 1 ((2,.fD 114 [])::iH 15 16 17)) [] [])) .leaf))))))
def isN (f:Nat):Bool:=Nat.testBit 15541351137805942995297243903608750209233051144827107954130184784315058116255654347264 f
noncomputable def T (nat:Nat->List V->Option (List V)):Seat:=⟨PP,zf,sgT,hsT,nat,isN⟩
end Go.Ey.Pr
