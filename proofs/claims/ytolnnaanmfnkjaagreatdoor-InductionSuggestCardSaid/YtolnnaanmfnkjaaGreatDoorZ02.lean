/- A part. -/
import Derived.Test.YtolnnaanmfnkjaaGreatDoorZ01
set_option linter.all false
noncomputable section
namespace Go.Ey
inductive W where
 |c (x:C)
 |l (xs:List C)
def gG:List W->Nat->Option W
 |[],_=>none
 |w::_,0=>some w
 |_::r,i+1=>gG r i
def ak:List C->Nat->C
 |[],_=> .lit (.bool false)
 |x::_,0=>x
 |_::r,i+1=>ak r i
inductive At where
 |v (i:Nat)
 |n (i j:Nat)
 |k (v:Value)
 |z
def dH (ρ:List W):At->Option C
 |.v i=>(match gG ρ i with|some (.c x)=>some x|_=>none)
 |.n i j=>(match gG ρ i with|some (.l xs)=>some (ak xs j)|_=>none)
 |.k v=>some (.lit v)
 |.z=>some (.slice [] 0)
def nA (ρ:List W):List At->Option (List C)
 |[]=>some []
 |a::aJ=>(dH ρ a).bind fun x=>(nA ρ aJ).bind fun xs=>some (x::xs)
def LU (ρ:List W):Option At->Option (Option C)
 |none=>some none
 |some a=>(dH ρ a).bind fun x=>some (some x)
inductive SL where
 |lit (aJ:List At)
 |all (i:Nat)
def Tt (ρ:List W):SL->Option (List C)
 |.lit aJ=>nA ρ aJ
 |.all i=>(match gG ρ i with|some (.l xs)=>some xs|_=>none)
def DK (ρ:List W):List SL->Option (List (List C))
 |[]=>some []
 |s::ss=>(Tt ρ s).bind fun x=>(DK ρ ss).bind fun xs=>some (x::xs)
def Ec (n:Int):C:=.lit (.int .i64 n)
def bW (op:BinOp) (Kg:Bool):C->C->Option C
 |.lit x,.lit y=>(if Kg then MM op x y else r9 op x y).bind fun v=>some (.lit v)
 |_,_=>none
def unC (op:UnOp):C->Option C
 |.lit x=>(unV op x).bind fun v=>some (.lit v)
 |_=>none
def VM (k:IntKind):C->Option C
 |.lit (.int _ n)=>some (.lit (.int k (k.wrap n)))
 |_=>none
def Cj:List Nat->List C->List C->Option Bool
 |[],[],[]=>some true
 |k::ks,a::aJ,b::bs=>(Jd k a b).bind fun x=>(Cj ks aJ bs).bind fun y=>some (x && y)
 |_,_,_=>none
def Ea (ks:List Nat) (neg:Bool) (aJ bs:List C):Option C:=(Cj ks aJ bs).bind fun b=>some (.lit (.bool (if neg then !b else b)))
def jk (isStr:Bool):C->Option C
 |.slice _ n=>if isStr then none else some (Ec n)
 |.lit (.string s)=>if isStr then some (Ec s.size) else none
 |_=>none
def LB (aj:Nat):C->Option (List C×Nat)
 |.slice cs n=>if cs.length=n * aj then some (cs,n) else none
 |.lit (.string s)=>if aj=1 then some (s.data.toList.map fun b=> .lit (.int .u8 b.toNat),s.size) else none
 |_=>none
def Fq (aj bytes:Nat) (t:C):C->Option C
 |.slice ds m=>(LB aj t).bind fun p=>
   if p.1.length=p.2 * aj/\ds.length=m * aj/\(m+p.2) * bytes<=bg/\0 < aj/\m+p.2<=bg then some (.slice (ds++p.1) (m+p.2)) else none
 |_=>none
def fI (aj:Nat):C->C->Option (List C)
 |.slice cs n,.lit (.int _ k)=>if 0<=k/\k < n/\(k.toNat+1) * aj<=cs.length then some ((cs.drop (k.toNat * aj)).take aj) else none
 |_,_=>none
def Yz (aj:Nat) (off:Nat) (vs:List C):C->C->Option C
 |.slice cs n,.lit (.int _ k)=>if 0<=k/\k < n/\off+vs.length<=aj/\cs.length=n * aj then some (.slice (splice cs (k.toNat * aj+off) vs) n) else none
 |_,_=>none
def loC:Option C->Option Nat
 |none=>some 0
 |some (.lit (.int _ n))=>if 0<=n then some n.toNat else none
 |_=>none
def hiC (len:Nat):Option C->Option Nat
 |none=>some len
 |some (.lit (.int _ n))=>if 0<=n then some n.toNat else none
 |_=>none
def OV (aj:Nat) (lo hi:Option C):C->Option C
 |.slice cs n=>(loC lo).bind fun l=>(hiC n hi).bind fun r=>if l<=r/\r<=n then some (.slice ((cs.drop (l * aj)).take ((r - l) * aj)) (r - l)) else none
 |_=>none
def adn (aj:Nat) (lo:Option C):C->C->C->Option C
 |.lit (.int _ a),.lit (.int _ b),s=>if a=b then OV aj lo (some (.lit (.int .i64 a))) s else none
 |_,_,_=>none
def KU (lo hi:Option C):C->Option C
 |.lit (.string s)=>(loC lo).bind fun l=>(hiC s.size hi).bind fun r=>if l<=r/\r<=s.size then some (.lit (.string (s.extract l r))) else none
 |_=>none
def af2:C->C->Option C
 |.lit (.string s),.lit (.int _ n)=>if 0<=n then (s.data[n.toNat]?).bind fun b=>some (.lit (.int .u8 b.toNat)) else none
 |_,_=>none
def Tp:C->Option C
 |.slice cs n=>(bytesOf cs).bind fun bs=>if cs.length=n then some (.lit (.string ⟨bs.toArray⟩)) else none
 |_=>none
def mkC (aj bytes:Nat) (zero:List Value):C->C->Option C
 |.lit (.int _ n),.lit (.int _ m)=>if 0<=n/\n<=m/\m.toNat * bytes<=bg/\m.toNat<=bg/\zero.length=aj/\0 < aj then some (.slice (zeros zero n.toNat) n.toNat) else none
 |_,_=>none
def aqs (aj:Nat) (t:C):C->Option C
 |.slice xs len=>(LB aj t).bind fun p=>if p.1.length=p.2 * aj/\xs.length=len * aj then some (.slice (splice xs 0 (p.1.take (min p.2 len * aj))) len) else none
 |_=>none
def an3 (aj:Nat) (t:C):C->Option C
 |.slice _ len=>(LB aj t).bind fun p=>some (Ec (min p.2 len:Nat))
 |_=>none
def mmC (isMax:Bool):C->C->Option C
 |.lit x,.lit y=>(za isMax x y).bind fun v=>some (.lit v)
 |_,_=>none
def fK (aj len:Nat) (xs:List C):Option C:=if xs.length=len * aj/\len<=bg/\0 < aj then some (.slice xs len) else none
def DI {α:Type} (c:C) (t e:Option α):Option α:=
 match c with
 |.lit (.bool true)=>t
 |.lit (.bool false)=>e
 |_=>none
inductive OpC where
 |bin (op:BinOp) (Kg:Bool) (a b:At)
 |un (op:UnOp) (a:At)
 |conv (k:IntKind) (a:At)
 |eqs (ks:List Nat) (neg:Bool) (aJ bs:SL)
 |len (isStr:Bool) (a:At)
 |app (aj bytes:Nat) (s t:At)
 |set (aj:Nat) (s i:At) (off:Nat) (vs:List At)
 |sub (aj:Nat) (s:At) (lo hi:Option At)
 |clip (aj:Nat) (s:At) (lo:Option At) (hi mx:At)
 |Nu (s:At) (lo hi:Option At)
 |BV (s i:At)
 |toStr (s:At)
 |mk (aj bytes:Nat) (zero:List Value) (l c:At)
 |Tf (aj:Nat) (d s:At)
 |cnt (aj:Nat) (d s:At)
 |mm (isMax:Bool) (a b:At)
 |lits (aj len:Nat) (xs:List At)
def dP (ρ:List W):OpC->Option C
 |.bin op Kg a b=>(dH ρ a).bind fun x=>(dH ρ b).bind fun y=>bW op Kg x y
 |.un op a=>(dH ρ a).bind fun x=>unC op x
 |.conv k a=>(dH ρ a).bind fun x=>VM k x
 |.eqs ks neg aJ bs=>(Tt ρ aJ).bind fun xs=>(Tt ρ bs).bind fun ys=>Ea ks neg xs ys
 |.len b a=>(dH ρ a).bind fun x=>jk b x
 |.app aj bytes s t=>(dH ρ s).bind fun x=>(dH ρ t).bind fun y=>Fq aj bytes y x
 |.set aj s i off vs=>(dH ρ s).bind fun x=>(dH ρ i).bind fun y=>(nA ρ vs).bind fun zs=>Yz aj off zs x y
 |.sub aj s lo hi=>(dH ρ s).bind fun x=>(LU ρ lo).bind fun l=>(LU ρ hi).bind fun h=>OV aj l h x
 |.clip aj s lo hi mx=>(dH ρ s).bind fun x=>(LU ρ lo).bind fun l=>(dH ρ hi).bind fun a=>(dH ρ mx).bind fun b=>adn aj l a b x
 |.Nu s lo hi=>(dH ρ s).bind fun x=>(LU ρ lo).bind fun l=>(LU ρ hi).bind fun h=>KU l h x
 |.BV s i=>(dH ρ s).bind fun x=>(dH ρ i).bind fun y=>af2 x y
 |.toStr s=>(dH ρ s).bind fun x=>Tp x
 |.mk aj bytes zero l c=>(dH ρ l).bind fun x=>(dH ρ c).bind fun y=>mkC aj bytes zero x y
 |.Tf aj d s=>(dH ρ d).bind fun x=>(dH ρ s).bind fun y=>aqs aj y x
 |.cnt aj d s=>(dH ρ d).bind fun x=>(dH ρ s).bind fun y=>an3 aj y x
 |.mm isMax a b=>(dH ρ a).bind fun x=>(dH ρ b).bind fun y=>mmC isMax x y
 |.lits aj len xs=>(nA ρ xs).bind fun ys=>fK aj len ys
inductive TV where
 |one (a:At)
 |agg (s:SL)
inductive TA where
 |v (x:TV)
 |ref (b off:Nat)
inductive TW where
 |c (a:At)
 |l (s:SL)
inductive LA where
 |v (x:V)
 |ref (b off:Nat)
abbrev R:=List V×List (List C)
abbrev qp:=Nat->List LA->List (List C)->Option R
abbrev qZ:=Nat->List W->Option R
inductive Tree where
 |dG (o:OpC) (t:Tree)
 |row (aj:Nat) (s i:At) (t:Tree)
 |ite (a:At) (t e:Tree)
 |call (f:Nat) (args:List TA) (bs:List SL) (rs:List (Option Nat)) (bl:List Nat) (t:Tree)
 |goto (h:Nat) (args:List TW)
 |ret (rs:List TV) (bs:List SL)
 |fail
def Ua (ρ:List W):TV->Option V
 |.one a=>(dH ρ a).bind fun x=>some (.one x)
 |.agg s=>(Tt ρ s).bind fun x=>some (.agg x)
def Dl (ρ:List W):List TV->Option (List V)
 |[]=>some []
 |s::ss=>(Ua ρ s).bind fun x=>(Dl ρ ss).bind fun xs=>some (x::xs)
def XY (ρ:List W):TA->Option LA
 |.v x=>(Ua ρ x).bind fun y=>some (.v y)
 |.ref b off=>some (.ref b off)
def sj (ρ:List W):List TA->Option (List LA)
 |[]=>some []
 |s::ss=>(XY ρ s).bind fun x=>(sj ρ ss).bind fun xs=>some (x::xs)
def Z8 (ρ:List W):TW->Option W
 |.c a=>(dH ρ a).bind fun x=>some (.c x)
 |.l s=>(Tt ρ s).bind fun x=>some (.l x)
def fQ (ρ:List W):List TW->Option (List W)
 |[]=>some []
 |s::ss=>(Z8 ρ s).bind fun x=>(fQ ρ ss).bind fun xs=>some (x::xs)
def getOne (vs:List V) (j:Nat):Option C:=match vs[j]? with|some (.one c)=>some c|_=>none
def MO (vs:List V) (j m:Nat):Option (List C):=match vs[j]? with|some (.agg xs)=>if xs.length=m then some xs else none|_=>none
def Q5 (bs:List (List C)) (j m:Nat):Option (List C):=match bs[j]? with|some xs=>if xs.length=m then some xs else none|_=>none
def fE {α:Type} (vs:List V) (k:List W->Option α):List (Option Nat)->Nat->List W->Option α
 |[],_,ρ=>k ρ
 |none::ss,j,ρ=>(getOne vs j).bind fun c=>fE vs k ss (j+1) (ρ++[.c c])
 |some m::ss,j,ρ=>(MO vs j m).bind fun xs=>fE vs k ss (j+1) (ρ++[.l xs])
def gL {α:Type} (bs:List (List C)) (k:List W->Option α):List Nat->Nat->List W->Option α
 |[],_,ρ=>k ρ
 |m::ms,j,ρ=>(Q5 bs j m).bind fun xs=>gL bs k ms (j+1) (ρ++[.l xs])
def sized {α:Type} (r:R) (a b:Nat) (k:Option α):Option α:=if r.1.length=a/\r.2.length=b then k else none
def aA (call:qp) (head:qZ):Tree->List W->Option R
 |.dG o t,ρ=>(dP ρ o).bind fun c=>aA call head t (ρ++[.c c])
 |.row aj s i t,ρ=>((dH ρ s).bind fun x=>(dH ρ i).bind fun y=>fI aj x y).bind fun xs=>aA call head t (ρ++[.l xs])
 |.ite a t e,ρ=>(dH ρ a).bind fun c=>DI c (aA call head t ρ) (aA call head e ρ)
 |.call f args bs rs bl t,ρ=>(sj ρ args).bind fun aJ=>(DK ρ bs).bind fun xs=>(call f aJ xs).bind fun r=>
   sized r rs.length bl.length (fE r.1 (fun ρ=>gL r.2 (fun ρ=>aA call head t ρ) bl 0 ρ) rs 0 ρ)
 |.goto h args,ρ=>(fQ ρ args).bind fun ws=>head h ws
 |.ret rs bs,ρ=>(Dl ρ rs).bind fun vs=>(DK ρ bs).bind fun xs=>some (vs,xs)
 |.fail,_=>none
inductive PS where
 |one
 |agg (m:Nat)
 |ref (b off:Nat)
 |fq (f:Nat) (caps:List (Nat×Nat))
structure cB where
 params:List PS
 boxes:List Nat
 body:Tree
 heads:List Tree
def bS {α:Type} (k:List W->Option α):List PS->List LA->List W->Option α
 |[],[],ρ=>k ρ
 |.one::ps,.v (.one c)::aJ,ρ=>bS k ps aJ (ρ++[.c c])
 |.agg m::ps,.v (.agg xs)::aJ,ρ=>if xs.length=m then bS k ps aJ (ρ++[.l xs]) else none
 |.ref b o::ps,.ref b' o'::aJ,ρ=>if b=b'/\o=o' then bS k ps aJ ρ else none
 |.fq _ _::ps,.ref b' o'::aJ,ρ=>if b'=0/\o'=0 then bS k ps aJ ρ else none
 |_,_,_=>none
def fV {α:Type} (k:List W->Option α):List Nat->List (List C)->List W->Option α
 |[],[],ρ=>k ρ
 |m::ms,xs::bs,ρ=>if xs.length=m then fV k ms bs (ρ++[.l xs]) else none
 |_,_,_=>none
def CZ (call:qp) (head:qZ) (tf:cB) (aJ:List LA) (bs:List (List C)):Option R:=
 bS (fun ρ=>fV (fun ρ=>aA call head tf.body ρ) tf.boxes bs ρ) tf.params aJ []
structure GT where
 fn:Nat->Option cB
 nat:qp
mutual
def runT (G:GT):Nat->qp
 |0,_,_,_=>none
 |n+1,f,aJ,bs=>match G.fn f with|some tf=>CZ (runT G n) (jC G n f) tf aJ bs|none=>G.nat f aJ bs
def jC (G:GT):Nat->Nat->qZ
 |0,_,_,_=>none
 |n+1,f,h,ws=>(G.fn f).bind fun tf=>(tf.heads[h]?).bind fun t=>aA (runT G n) (jC G n f) t ws
end
def Le {α:Type} (a b:Option α):Prop:=∀r,a=some r->b=some r
theorem Le.refl {α:Type} (a:Option α):Le a a:=fun _ h=>h
theorem Le.bind {α β:Type} {a b:Option α} {f g:α->Option β} (h:Le a b) (hf:∀x,Le (f x) (g x)):Le (a.bind f) (b.bind g):=by
 intro r hr;cases ha:a with
 |none=>rw [ha] at hr;cases hr
 |some x=>rw [ha] at hr;rw [h x ha];exact hf x r hr
theorem Le.fE {α:Type} {vs:List V} {k k':List W->Option α} (h:∀ρ,Le (k ρ) (k' ρ)):∀(ss:List (Option Nat)) (j:Nat) (ρ:List W),Le (fE vs k ss j ρ) (fE vs k' ss j ρ)
 |[],_,ρ=>h ρ
 |none::ss,j,ρ=>Le.bind (Le.refl _) fun c=>Le.fE h ss (j+1) _
 |some _::ss,j,ρ=>Le.bind (Le.refl _) fun c=>Le.fE h ss (j+1) _
theorem Le.gL {α:Type} {bs:List (List C)} {k k':List W->Option α} (h:∀ρ,Le (k ρ) (k' ρ)):∀(ss:List Nat) (j:Nat) (ρ:List W),Le (gL bs k ss j ρ) (gL bs k' ss j ρ)
 |[],_,ρ=>h ρ
 |_::ss,j,ρ=>Le.bind (Le.refl _) fun c=>Le.gL h ss (j+1) _
theorem Le.bS {α:Type} {k k':List W->Option α} (h:∀ρ,Le (k ρ) (k' ρ)):∀(ps:List PS) (aJ:List LA) (ρ:List W),Le (bS k ps aJ ρ) (bS k' ps aJ ρ):=by
 intro ps;induction ps with
 |nil=>intro aJ ρ;cases aJ with
  |nil=>exact h ρ
  |cons _ _=>exact Le.refl _
 |cons p ps ih=>
  intro aJ ρ;cases aJ with
  |nil=>cases p<;>exact Le.refl _
  |cons a aJ=>
   cases p with
   |one=>cases a with
    |v x=>cases x with
     |one c=>exact ih aJ _
     |agg xs=>exact Le.refl _
     |full _ _=>exact Le.refl _
    |ref b o=>exact Le.refl _
   |agg m=>cases a with
    |v x=>cases x with
     |one c=>exact Le.refl _
     |agg xs=>simp only [Ey.bS];split<;>first|exact ih aJ _|exact Le.refl _
     |full _ _=>exact Le.refl _
    |ref b o=>exact Le.refl _
   |ref b o=>cases a with
    |v x=>exact Le.refl _
    |ref b' o'=>simp only [Ey.bS];split<;>first|exact ih aJ _|exact Le.refl _
   |fq g cs=>cases a with
    |v x=>exact Le.refl _
    |ref b' o'=>simp only [Ey.bS];split<;>first|exact ih aJ _|exact Le.refl _
theorem Le.fV {α:Type} {k k':List W->Option α} (h:∀ρ,Le (k ρ) (k' ρ)):∀(ms:List Nat) (bs:List (List C)) (ρ:List W),Le (fV k ms bs ρ) (fV k' ms bs ρ)
 |[],[],ρ=>h ρ
 |[],_::_,_=>Le.refl _
 |_::_,[],_=>Le.refl _
 |m::ms,xs::bs,ρ=>by simp only [Ey.fV];split<;>first|exact Le.fV h ms bs _|exact Le.refl _
theorem Le.DI {α:Type} {c:C} {t t' e e':Option α} (h1:Le t t') (h2:Le e e'):Le (DI c t e) (DI c t' e'):=by
 unfold Ey.DI;split
 ·exact h1
 ·exact h2
 ·exact Le.refl _
theorem ng {call call':qp} {head head':qZ} (hc:∀f aJ bs,Le (call f aJ bs) (call' f aJ bs)) (hh:∀h ws,Le (head h ws) (head' h ws)):∀(t:Tree) (ρ:List W),Le (aA call head t ρ) (aA call' head' t ρ)
 |.dG o t,ρ=>Le.bind (Le.refl _) fun c=>ng hc hh t _
 |.row aj s i t,ρ=>Le.bind (Le.refl _) fun c=>ng hc hh t _
 |.ite a t e,ρ=>Le.bind (Le.refl _) fun c=>Le.DI (ng hc hh t ρ) (ng hc hh e ρ)
 |.call f args bs rs bl t,ρ=>by
  refine Le.bind (Le.refl _) fun aJ=>Le.bind (Le.refl _) fun xs=>Le.bind (hc _ _ _) fun r=>?_
  unfold sized;split
  ·exact Le.fE (fun ρ=>Le.gL (fun ρ=>ng hc hh t ρ) _ _ _) _ _ _
  ·exact Le.refl _
 |.goto h args,ρ=>Le.bind (Le.refl _) fun ws=>hh h ws
 |.ret rs bs,ρ=>Le.refl _
 |.fail,ρ=>Le.refl _
theorem Ns (G:GT):∀n,(∀f aJ bs,Le (runT G n f aJ bs) (runT G (n+1) f aJ bs))/\(∀f h ws,Le (jC G n f h ws) (jC G (n+1) f h ws))
 |0=>⟨fun f aJ bs r h=>by simp [runT] at h,fun f h ws r hh=>by simp [jC] at hh⟩
 |n+1=>by
  obtain ⟨h1,h2⟩:=Ns G n;refine ⟨fun f aJ bs=>?_,fun f h ws=>?_⟩
  ·rw [runT,runT];split
   case h_2=>exact Le.refl _
   exact Le.bS (fun ρ=>Le.fV (fun ρ=>ng h1 (h2 f) _ _) _ _ _) _ _ _
  ·rw [jC,jC];exact Le.bind (Le.refl _) fun tf=>Le.bind (Le.refl _) fun t=>ng h1 (h2 f) _ _
theorem aas {G:GT} {n n':Nat} (h:n<=n') (f:Nat) (aJ:List LA) (bs:List (List C)):Le (runT G n f aJ bs) (runT G n' f aJ bs):=by
 induction h with
 |refl=>exact Le.refl _
 |step _ ih=>exact fun r hr=>(Ns G _).1 f aJ bs r (ih r hr)
theorem Ug {G:GT} {n n':Nat} (h:n<=n') (f i:Nat) (ws:List W):Le (jC G n f i ws) (jC G n' f i ws):=by
 induction h with
 |refl=>exact Le.refl _
 |step _ ih=>exact fun r hr=>(Ns G _).2 f i ws r (ih r hr)
open Classical in
def lim {α:Type} (g:Nat->Option α):Option α:=if h:∃n a,g n=some a then some h.choose_spec.choose else none
theorem aeq {α:Type} {g:Nat->Option α} (hm:∀n n',n<=n'->Le (g n) (g n')) {n:Nat} {a:α} (h:g n=some a):lim g=some a:=by have hx:∃n a,g n=some a:=⟨n,a,h⟩;unfold lim;rw [dif_pos hx];have h2:=hx.choose_spec.choose_spec;have h3:=hm _ _ (Nat.le_max_left n hx.choose) a h;have h4:=hm _ _ (Nat.le_max_right n hx.choose) _ h2;rw [h3] at h4;exact h4.symm
theorem aau {α:Type} {g:Nat->Option α} {a:α} (h:lim g=some a):∃n,g n=some a:=by
 unfold lim at h;split at h
 ·rename_i hx;simp only [A0] at h;exact ⟨hx.choose,h▸hx.choose_spec.choose_spec⟩
 ·cases h
def bq (G:GT):qp:=fun f aJ bs=>lim fun n=>runT G n f aJ bs
def bR (G:GT) (f:Nat):qZ:=fun h ws=>lim fun n=>jC G n f h ws
variable {G:GT}
theorem Rj {n f:Nat} {aJ:List LA} {bs:List (List C)} {r:R} (h:runT G n f aJ bs=some r):bq G f aJ bs=some r:=aeq (fun _ _ hn=>aas hn f aJ bs) h
theorem Zb {n f i:Nat} {ws:List W} {r:R} (h:jC G n f i ws=some r):bR G f i ws=some r:=aeq (fun _ _ hn=>Ug hn f i ws) h
theorem R8 {f:Nat} {aJ:List LA} {bs:List (List C)} {r:R} (h:bq G f aJ bs=some r):∃n,runT G n f aJ bs=some r:=aau h
theorem aat {f i:Nat} {ws:List W} {r:R} (h:bR G f i ws=some r):∃n,jC G n f i ws=some r:=aau h
def Ev {α:Type} (a:Option α) (g:Nat->Option α):Prop:=∀r,a=some r->∃n0,∀n,n0<=n->g n=some r
theorem Ev.const {α:Type} (a:Option α):Ev a fun _=>a:=fun _ h=>⟨0,fun _ _=>h⟩
theorem Ev.bind {α β:Type} {a:Option α} {g:Nat->Option α} {f:α->Option β} {k:Nat->α->Option β} (h:Ev a g) (hf:∀x,Ev (f x) fun n=>k n x):Ev (a.bind f) fun n=>(g n).bind (k n):=by
 intro r hr;cases ha:a with
 |none=>rw [ha] at hr;cases hr
 |some x=>
  rw [ha] at hr;obtain ⟨n1,h1⟩:=h x ha;obtain ⟨n2,h2⟩:=hf x r hr;refine ⟨max n1 n2,fun n hn=>?_⟩
  show (g n).bind (k n)=some r
  rw [h1 n (by omega)]
  exact h2 n (by omega)
theorem Ev.fE {α:Type} {vs:List V} {k:List W->Option α} {k':Nat->List W->Option α} (h:∀ρ,Ev (k ρ) fun n=>k' n ρ):∀(ss:List (Option Nat)) (j:Nat) (ρ:List W),Ev (Ey.fE vs k ss j ρ) fun n=>Ey.fE vs (k' n) ss j ρ
 |[],_,ρ=>h ρ
 |none::ss,j,ρ=>Ev.bind (Ev.const _) fun c=>Ev.fE h ss (j+1) _
 |some _::ss,j,ρ=>Ev.bind (Ev.const _) fun c=>Ev.fE h ss (j+1) _
theorem Ev.gL {α:Type} {bs:List (List C)} {k:List W->Option α} {k':Nat->List W->Option α} (h:∀ρ,Ev (k ρ) fun n=>k' n ρ):∀(ss:List Nat) (j:Nat) (ρ:List W),Ev (Ey.gL bs k ss j ρ) fun n=>Ey.gL bs (k' n) ss j ρ
 |[],_,ρ=>h ρ
 |_::ss,j,ρ=>Ev.bind (Ev.const _) fun c=>Ev.gL h ss (j+1) _
theorem Ev.DI {α:Type} {c:C} {t e:Option α} {t' e':Nat->Option α} (h1:Ev t t') (h2:Ev e e'):Ev (Ey.DI c t e) fun n=>Ey.DI c (t' n) (e' n):=by
 unfold Ey.DI;split
 ·exact h1
 ·exact h2
 ·exact fun r h=>by cases h
theorem BP {call:qp} {head:qZ} {call':Nat->qp} {head':Nat->qZ} (hc:∀f aJ bs,Ev (call f aJ bs) fun n=>call' n f aJ bs) (hh:∀h ws,Ev (head h ws) fun n=>head' n h ws):
  ∀(t:Tree) (ρ:List W),Ev (aA call head t ρ) fun n=>aA (call' n) (head' n) t ρ
 |.dG o t,ρ=>Ev.bind (Ev.const _) fun c=>BP hc hh t _
 |.row aj s i t,ρ=>Ev.bind (Ev.const _) fun c=>BP hc hh t _
 |.ite a t e,ρ=>Ev.bind (Ev.const _) fun c=>Ev.DI (BP hc hh t ρ) (BP hc hh e ρ)
 |.call f args bs rs bl t,ρ=>by
  refine Ev.bind (Ev.const _) fun aJ=>Ev.bind (Ev.const _) fun xs=>Ev.bind (hc _ _ _) fun r=>?_
  unfold sized;split
  ·exact Ev.fE (fun ρ=>Ev.gL (fun ρ=>BP hc hh t ρ) _ _ _) _ _ _
  ·exact fun r h=>by cases h
 |.goto h args,ρ=>Ev.bind (Ev.const _) fun ws=>hh h ws
 |.ret rs bs,ρ=>Ev.const _
 |.fail,ρ=>Ev.const _
theorem aeU (f:Nat) (aJ:List LA) (bs:List (List C)):Ev (bq G f aJ bs) fun n=>runT G n f aJ bs:=fun r h=>by obtain ⟨n,hn⟩:=R8 h;exact ⟨n,fun n' hn'=>aas hn' f aJ bs r hn⟩
theorem af1 (f i:Nat) (ws:List W):Ev (bR G f i ws) fun n=>jC G n f i ws:=fun r h=>by obtain ⟨n,hn⟩:=aat h;exact ⟨n,fun n' hn'=>Ug hn' f i ws r hn⟩
theorem aF {f:Nat} {tf:cB} (hf:G.fn f=some tf) {i:Nat} {t:Tree} (ht:tf.heads[i]?=some t) (ws:List W):bR G f i ws=aA (bq G) (bR G f) t ws:=by
 have h1:Le (bR G f i ws) (aA (bq G) (bR G f) t ws):=by
  intro r h;obtain ⟨n,hn⟩:=aat h;cases n with
  |zero=>simp [jC] at hn
  |succ n=>
   rw [jC,hf,A4,ht,A4] at hn;exact ng (fun f aJ bs r h=>Rj h) (fun h ws r hh=>Zb hh) t ws r hn
 have h2:Le (aA (bq G) (bR G f) t ws) (bR G f i ws):=by intro r h;obtain ⟨n,hn⟩:=BP (aeU (G:=G)) (af1 f) t ws r h;refine Zb (n:=n+1) ?_;rw [jC,hf,A4,ht,A4];exact hn n (An _)
 cases h:bR G f i ws with
 |some r=>exact (h1 r h).symm
 |none=>cases h':aA (bq G) (bR G f) t ws with
  |none=>rfl
  |some r=>rw [h2 r h'] at h;cases h
theorem Ev.bS {α:Type} {k:List W->Option α} {k':Nat->List W->Option α} (h:∀ρ,Ev (k ρ) fun n=>k' n ρ):∀(ps:List PS) (aJ:List LA) (ρ:List W),Ev (Ey.bS k ps aJ ρ) fun n=>Ey.bS (k' n) ps aJ ρ:=by
 intro ps;induction ps with
 |nil=>intro aJ ρ;cases aJ with
  |nil=>exact h ρ
  |cons _ _=>exact fun r h=>by cases h
 |cons p ps ih=>
  intro aJ ρ;cases aJ with
  |nil=>cases p<;>exact fun r h=>by cases h
  |cons a aJ=>
   cases p with
   |one=>cases a with
    |v x=>cases x with
     |one c=>exact ih aJ _
     |agg xs=>exact fun r h=>by cases h
     |full _ _=>exact fun r h=>by cases h
    |ref b o=>exact fun r h=>by cases h
   |agg m=>cases a with
    |v x=>cases x with
     |one c=>exact fun r h=>by cases h
     |agg xs=>simp only [Ey.bS];split<;>first|exact ih aJ _|exact fun r h=>by cases h
     |full _ _=>exact fun r h=>by cases h
    |ref b o=>exact fun r h=>by cases h
   |ref b o=>cases a with
    |v x=>exact fun r h=>by cases h
    |ref b' o'=>simp only [Ey.bS];split<;>first|exact ih aJ _|exact fun r h=>by cases h
   |fq g cs=>cases a with
    |v x=>exact fun r h=>by cases h
    |ref b' o'=>simp only [Ey.bS];split<;>first|exact ih aJ _|exact fun r h=>by cases h
theorem Ev.fV {α:Type} {k:List W->Option α} {k':Nat->List W->Option α} (h:∀ρ,Ev (k ρ) fun n=>k' n ρ):∀(ms:List Nat) (bs:List (List C)) (ρ:List W),Ev (Ey.fV k ms bs ρ) fun n=>Ey.fV (k' n) ms bs ρ
 |[],[],ρ=>h ρ
 |[],_::_,_=>fun r h=>by cases h
 |_::_,[],_=>fun r h=>by cases h
 |m::ms,xs::bs,ρ=>by simp only [Ey.fV];split<;>first|exact Ev.fV h ms bs _|exact fun r h=>by cases h
theorem aQ {f:Nat} {tf:cB} (hf:G.fn f=some tf) (aJ:List LA) (bs:List (List C)):bq G f aJ bs=CZ (bq G) (bR G f) tf aJ bs:=by
 have h1:Le (bq G f aJ bs) (CZ (bq G) (bR G f) tf aJ bs):=by
  intro r h;obtain ⟨n,hn⟩:=R8 h;cases n with
  |zero=>simp [runT] at hn
  |succ n=>
   rw [runT,hf] at hn;exact Le.bS (fun ρ=>Le.fV (fun ρ=>ng (fun f aJ bs r h=>Rj h) (fun h ws r hh=>Zb hh) _ _) _ _ _) _ _ _ r hn
 have h2:Le (CZ (bq G) (bR G f) tf aJ bs) (bq G f aJ bs):=by
  intro r h;obtain ⟨n,hn⟩:=Ev.bS (fun ρ=>Ev.fV (fun ρ=>BP (aeU (G:=G)) (af1 f) tf.body ρ) tf.boxes bs ρ) tf.params aJ [] r h
  refine Rj (n:=n+1) ?_;rw [runT,hf];exact hn n (An _)
 cases h:bq G f aJ bs with
 |some r=>exact (h1 r h).symm
 |none=>cases h':CZ (bq G) (bR G f) tf aJ bs with
  |none=>rfl
  |some r=>rw [h2 r h'] at h;cases h
theorem aav {f:Nat} (hf:G.fn f=none) {aJ:List LA} {bs:List (List C)} {r:R} (h:G.nat f aJ bs=some r):bq G f aJ bs=some r:=Rj (n:=1) (by rw [runT,hf];exact h)
end Go.Ey
namespace Go.Ey
inductive SD where
 |rq
 |a (x:At)
 |full (x:At)
 |loc (i off:Nat)
 |arr (i:Nat)
 |view (i:Nat) (x:At)
 |nK (i:Nat) (x:At) (off:Nat)
 |ptr (r off aj:Nat)
 |fq (f:Nat) (caps:List (Nat×Nat))
 |agg (ds:List SD)
 |jG (ds:List SD)
inductive SO where
 |dead
 |box (ds:List SD)
 |arr (x:At) (aj ety:Nat) (fr al:Bool)
structure Sy where
 env:List (Nat×SD)
 heap:List (Nat×SO)
 nx:Nat
 lens:List (Nat×Nat)
def Ae:List (Nat×SD)->Nat->SD
 |[],_=> .rq
 |(t',d)::r,t=>if t'=t then d else Ae r t
def bX:List (Nat×SO)->Nat->SO
 |[],_=> .dead
 |(i',o)::r,i=>if i'=i then o else bX r i
def FW (h:List (Nat×SO)):List (Nat×SO)->List (Nat×SO)
 |[]=>h
 |u::us=>FW (u::h) us
def Sy.upd (σ:Sy) (us:List (Nat×SO)):Sy:={ σ with heap:=FW σ.heap us}
def Sy.new (σ:Sy) (o:SO):Sy:={ σ with heap:=(σ.nx,o)::σ.heap,nx:=σ.nx+1}
def Sy.put (σ:Sy) (dst:Option Nat) (d:SD):Sy:=match dst with|some t=>{ σ with env:=(t,d)::σ.env}|none=>σ
def Sy.len (σ:Sy) (i m:Nat):Sy:={ σ with lens:=(i,m)::σ.lens}
def Ba (i:Nat):Nat->Nat->List At
 |_,0=>[]
 |j,m+1=> .n i j::Ba i (j+1) m
def F6 (i:Nat):Nat->List At->Bool
 |_,[]=>true
 |j,.n i' j'::r=>i'==i && j'==j && F6 i (j+1) r
 |_,_=>false
def afp (lens:List (Nat×Nat)) (i m:Nat):Bool:=lens.any fun p=>p.1==i && p.2==m
def IB (lens:List (Nat×Nat)) (aJ:List At):SL:=
 match aJ with
 |.n i 0::_=>if F6 i 0 aJ && afp lens i aJ.length then .all i else .lit aJ
 |_=> .lit aJ
def AV:SD->Option At
 |.a x=>some x
 |_=>none
def CJ:List SD->Option (List At)
 |[]=>some []
 |.a x::ds=>(CJ ds).bind fun xs=>some (x::xs)
 |_=>none
def G7:Option SD->Option (Option At)
 |none=>some none
 |some (.a x)=>some (some x)
 |_=>none
def AJ (h:List (Nat×SO)):SD->Option At
 |.a x=>some x
 |.full x=>some x
 |.arr i=>(match bX h i with|.arr x _ _ _ _=>some x|_=>none)
 |.view i x=>(match bX h i with|.arr _ _ _ _ _=>some x|_=>none)
 |_=>none
def jS (h:List (Nat×SO)) (aj:Nat):SD->Option At
 |.a x=>some x
 |.full x=>some x
 |.arr i=>(match bX h i with|.arr x e _ _ _=>if e=aj then some x else none|_=>none)
 |.view i x=>(match bX h i with|.arr _ e _ _ _=>if e=aj then some x else none|_=>none)
 |_=>none
def ah7 (h:List (Nat×SO)) (d:SD):Option At:=jS h 1 d
def ze (h:List (Nat×SO)):SD->Option (At×List (Nat×SO))
 |.a x=>some (x,[])
 |.full x=>some (x,[])
 |.arr i=>(match bX h i with|.arr x e t _ al=>some (x,[(i,.arr x e t true al)])|_=>none)
 |.view i x=>(match bX h i with|.arr y e t _ al=>some (x,[(i,.arr y e t true al)])|_=>none)
 |_=>none
def Ib (h:List (Nat×SO)):List SD->Option (List At×List (Nat×SO))
 |[]=>some ([],[])
 |d::ds=>(ze h d).bind fun p=>(Ib (FW h p.2) ds).bind fun q=>some (p.1::q.1,p.2++q.2)
def UA (h:List (Nat×SO)):SD->Option (List At×List (Nat×SO))
 |.agg ds=>Ib h ds
 |d=>(ze h d).bind fun p=>some ([p.1],p.2)
def FP (lens:List (Nat×Nat)) (h:List (Nat×SO)):SD->Option (TV×List (Nat×SO))
 |.agg ds=>(Ib h ds).bind fun p=>some (.agg (IB lens p.1),p.2)
 |d=>(ze h d).bind fun p=>some (.one p.1,p.2)
def FZ (lens:List (Nat×Nat)) (h:List (Nat×SO)):List SD->Option (List TV×List (Nat×SO))
 |[]=>some ([],[])
 |d::ds=>(FP lens h d).bind fun p=>(FZ lens (FW h p.2) ds).bind fun q=>some (p.1::q.1,p.2++q.2)
def Ar:SD->Bool
 |.a _|.full _|.loc _ _|.arr _|.view _ _|.nK _ _ _|.ptr _ _ _|.fq _ _=>true
 |_=>false
def cellsS:SD->Option (List SD)
 |.agg ds=>if ds.all Ar then some ds else none
 |d=>if Ar d then some [d] else none
def CL (ρ:X->SD):List SD->List (Nat×Nat×X)->Option (List SD)
 |cs,[]=>some cs
 |cs,(off,size,x)::r=>(cellsS (ρ x)).bind fun ds=>if ds.length=size/\off+size<=cs.length then CL ρ (splice cs off ds) r else none
def aa5:Value->SD
 |.slice none 0 0=> .full .z
 |v=> .a (.k v)
def ad6:Value->At
 |.slice none 0 0=> .z
 |v=> .k v
def Gw (zero:List Value):Nat->List SD
 |0=>[]
 |n+1=>zero.map (fun v=> .a (ad6 v))++Gw zero n
def xS (σ:Sy):X->SD
 |.t n=>Ae σ.env n
 |.k v=>if scalar v then .a (.k v) else (match v with|.slice none 0 0=> .full .z|_=> .rq)
 |.f n=> .fq n []
def WS (ρ:X->SD):List X->Option (List (Nat×Nat))
 |[]=>some []
 |x::xs=>(match ρ x with|.loc i off=>(WS ρ xs).bind fun r=>some ((i,off)::r)|_=>none)
abbrev Kn:=List ((Nat×Nat)×Bool)
def Xe:Kn->Nat->Nat->Option Bool
 |[],_,_=>none
 |((i,j),b)::r,p,q=>if i=p/\j=q then some b else Xe r p q
def Bn (kn:Kn) (d:SD) (k:Bool->Kn->Tree):Tree:=
 match d with
 |.a (.k (.bool b))=>k b kn
 |.a (.v i)=>(match Xe kn i 0 with
  |some b=>k b kn
  |none=> .ite (.v i) (k true (((i,0),true)::kn)) (k false (((i,0),false)::kn)))
 |.a (.n i j)=>(match Xe kn i (j+1) with
  |some b=>k b kn
  |none=> .ite (.n i j) (k true (((i,j+1),true)::kn)) (k false (((i,j+1),false)::kn)))
 |_=> .fail
def isZ:At->Bool
 |.z=>true
 |_=>false
def aX (σ:Sy) (n:Nat) (ρ:X->SD) (k:SD->Sy->Nat->Tree):Ins->Tree
 |.YY x=>k (ρ x) σ n
 |.alloc zero=>k (.loc σ.nx 0) (σ.new (.box (zero.map aa5))) n
 |.box x=>(match cellsS (ρ x) with
  |some ds=>k (.loc σ.nx 0) (σ.new (.box ds)) n
  |none=> .fail)
 |.build zero parts=>(match CL ρ (zero.map aa5) parts with
  |some ds=>k (.agg ds) σ n
  |none=> .fail)
 |.lits aj ety len zero parts=>(match (CL ρ (Gw zero len) parts).bind fun ds=>Ib σ.heap ds with
  |some (aJ,us)=> .dG (.lits aj len aJ) (k (.arr σ.nx) ((σ.upd us).new (.arr (.v n) aj ety false true)) (n+1))
  |none=> .fail)
 |.load agg size x=>(match ρ x with
  |.loc i off=>(match bX σ.heap i with
   |.box ds=>(match agg with
    |true=>if off+size<=ds.length then k (.agg ((ds.drop off).take size)) σ n else .fail
    |false=>(match ds[off]? with
     |some d=>k d σ n
     |none=> .fail))
   |_=> .fail)
  |.ptr r off aj=>(match agg with
   |true=>if off+size<=aj then k (.agg ((Ba r off size).map .a)) σ n else .fail
   |false=>if off < aj then k (.a (.n r off)) σ n else .fail)
  |.nK i x off=>(match bX σ.heap i with
   |.arr s aj _ _ _=>(match agg with
    |true=>if off+size<=aj then .row aj s x (k (.agg ((Ba n off size).map .a)) (σ.len n aj) (n+1)) else .fail
    |false=>if off < aj then .row aj s x (k (.a (.n n off)) (σ.len n aj) (n+1)) else .fail)
   |_=> .fail)
  |_=> .fail)
 |.store size a v=>(match ρ a with
  |.loc i off=>(match bX σ.heap i,cellsS (ρ v) with
   |.box ds,some xs=>if xs.length=size/\off+size<=ds.length then k .rq (σ.upd [(i,.box (splice ds off xs))]) n else .fail
   |_,_=> .fail)
  |.nK i x off=>(match UA σ.heap (ρ v) with
   |some (aJ,us)=>(match bX (FW σ.heap us) i with
    |.arr s aj ety false al=>if aJ.length=size/\off+size<=aj then .dG (.set aj s x off aJ) (k .rq (σ.upd (us++[(i,.arr (.v n) aj ety false al)])) (n+1)) else .fail
    |_=> .fail)
   |none=> .fail)
  |_=> .fail)
 |.FE x=>(match ρ x with
  |.loc i off=>k (.loc i off) σ n
  |.ptr r off aj=>k (.ptr r off aj) σ n
  |.nK i x off=>k (.nK i x off) σ n
  |_=> .fail)
 |.bin op Kg x y=>(match AV (ρ x),AV (ρ y) with
  |some a,some b=> .dG (.bin op Kg a b) (k (.a (.v n)) σ (n+1))
  |_,_=> .fail)
 |.eqs ks neg x y=>(match ρ x,ρ y with
  |.agg aJ,.agg bs=>(match CJ aJ,CJ bs with
   |some xs,some ys=> .dG (.eqs ks neg (IB σ.lens xs) (IB σ.lens ys)) (k (.a (.v n)) σ (n+1))
   |_,_=> .fail)
  |_,_=> .fail)
 |.un op x=>(match op,AV (ρ x) with
  |.not,some (.k (.bool b))=>k (.a (.k (.bool !b))) σ n
  |op,some a=> .dG (.un op a) (k (.a (.v n)) σ (n+1))
  |_,none=> .fail)
 |.conv kd x=>(match AV (ρ x) with
  |some a=> .dG (.conv kd a) (k (.a (.v n)) σ (n+1))
  |none=> .fail)
 |.toStr x=>(match ah7 σ.heap (ρ x) with
  |some a=> .dG (.toStr a) (k (.a (.v n)) σ (n+1))
  |none=> .fail)
 |.mk aj ety bytes zero l c=>(match AV (ρ l),AV (ρ c) with
  |some a,some b=> .dG (.mk aj bytes zero a b) (k (.arr σ.nx) (σ.new (.arr (.v n) aj ety false true)) (n+1))
  |_,_=> .fail)
 |.slc aj x lo hi=>(match G7 (lo.map ρ),G7 (hi.map ρ) with
  |some l,some h=>(match ρ x with
   |.a s=> .dG (.sub aj s l h) (k (.a (.v n)) σ (n+1))
   |.full s=> .dG (.sub aj s l h) (k (.a (.v n)) σ (n+1))
   |.arr i=>(match bX σ.heap i with
    |.arr s ja ety _ al=>if ja=aj then .dG (.sub aj s l h) (k (.view i (.v n)) (σ.upd [(i,.arr s aj ety true al)]) (n+1)) else .fail
    |_=> .fail)
   |_=> .fail)
  |_,_=> .fail)
 |.clip aj x lo hi mx=>(match ze σ.heap (ρ x),G7 (lo.map ρ),AV (ρ hi),AV (ρ mx) with
  |some (s,us),some l,some a,some b=> .dG (.clip aj s l a b) (k (.full (.v n)) (σ.upd us) (n+1))
  |_,_,_,_=> .fail)
 |.sls x lo hi=>(match G7 (lo.map ρ),G7 (hi.map ρ),AV (ρ x) with
  |some l,some h,some s=> .dG (.Nu s l h) (k (.a (.v n)) σ (n+1))
  |_,_,_=> .fail)
 |.O4 off x=>(match ρ x with
  |.loc i o=>k (.loc i (o+off)) σ n
  |.ptr r o aj=>k (.ptr r (o+off) aj) σ n
  |.nK i x o=>k (.nK i x (o+off)) σ n
  |_=> .fail)
 |.fld off agg size x=>(match ρ x with
  |.agg ds=>(match agg with
   |true=>if off+size<=ds.length then k (.agg ((ds.drop off).take size)) σ n else .fail
   |false=>(match ds[off]? with
    |some d=>k d σ n
    |none=> .fail))
  |_=> .fail)
 |.Gt aj x i=>(match AV (ρ i) with
  |some a=>(match ρ x with
   |.a s=> .row aj s a (k (.ptr n 0 aj) (σ.len n aj) (n+1))
   |.full s=> .row aj s a (k (.ptr n 0 aj) (σ.len n aj) (n+1))
   |.arr i=>(match bX σ.heap i with
    |.arr s ja _ _ _=>if ja=aj then .row aj s a (k (.nK i a 0) (σ.len n aj) (n+1)) else .fail
    |_=> .fail)
   |_=> .fail)
  |none=> .fail)
 |.BV x i=>(match AV (ρ x),AV (ρ i) with
  |some a,some b=> .dG (.BV a b) (k (.a (.v n)) σ (n+1))
  |_,_=> .fail)
 |.ext x i=>(match ρ x with
  |.jG ds=>(match ds[i]? with
   |some d=>k d σ n
   |none=> .fail)
  |_=> .fail)
 |.len isStr x=>(match AJ σ.heap (ρ x) with
  |some a=> .dG (.len isStr a) (k (.a (.v n)) σ (n+1))
  |none=> .fail)
 |.app aj ety bytes x y=>(match jS σ.heap aj (ρ y) with
  |some t=>(match ρ x with
   |.full s=> .dG (.app aj bytes s t) (k (.arr σ.nx) (σ.new (.arr (.v n) aj ety (!isZ s) false)) (n+1))
   |.arr i=>(match bX σ.heap i with
    |.arr s ja jY fr al=>if ja=aj/\jY=ety then .dG (.app aj bytes s t) (k (.arr σ.nx) ((σ.upd [(i,.dead)]).new (.arr (.v n) aj ety fr al)) (n+1)) else .fail
    |_=> .fail)
   |_=> .fail)
  |none=> .fail)
 |.Tf aj x y=>(match jS σ.heap aj (ρ y),ρ x with
  |some t,.arr i=>(match bX σ.heap i with
   |.arr s ja ety false true=>if ja=aj then .dG (.Tf aj s t) (.dG (.cnt aj s t) (k (.a (.v (n+1))) (σ.upd [(i,.arr (.v n) aj ety false true)]) (n+2))) else .fail
   |_=> .fail)
  |_,_=> .fail)
 |.mx x y=>(match AV (ρ x),AV (ρ y) with
  |some a,some b=> .dG (.mm true a b) (k (.a (.v n)) σ (n+1))
  |_,_=> .fail)
 |.mn x y=>(match AV (ρ x),AV (ρ y) with
  |some a,some b=> .dG (.mm false a b) (k (.a (.v n)) σ (n+1))
  |_,_=> .fail)
 |.mkf f xs=>(match WS ρ xs with
  |some ls=>k (.fq f ls) σ n
  |none=> .fail)
 |_=> .fail
inductive CK where
 |c
 |d
 |full
 |own (aj ety:Nat) (fr al:Bool)
inductive RS where
 |one (k:CK)
 |agg (ks:List CK)
structure eT where
 params:List PS
 boxes:List Nat
 rs:List RS
 nat:Bool:=false
 code:Option Nat:=none
 alts:List Nat:=[]
def eT.cd (s:eT) (f:Nat):Nat:=s.code.getD f
def CK.isC:CK->Bool
 |.c=>true
 |_=>false
def CK.VQ:CK->Bool
 |.c=>false
 |_=>true
def RS.isC:RS->Bool
 |.one k=>k.isC
 |.agg ks=>ks.all CK.isC
def RS.VQ:RS->Bool
 |.one k=>k.VQ
 |.agg ks=>ks.all CK.VQ
def RS.shape:RS->Option Nat
 |.one _=>none
 |.agg ks=>some ks.length
def OP:List (Option Nat)->Nat->List SD×List (Nat×Nat)
 |[],_=>([],[])
 |none::ss,n=>match OP ss (n+1) with|(ds,ls)=>(.a (.v n)::ds,ls)
 |some m::ss,n=>match OP ss (n+1) with|(ds,ls)=>(.agg ((Ba n 0 m).map .a)::ds,(n,m)::ls)
def Zj:List SD->SD
 |[d]=>d
 |ds=> .jG ds
def Sy.IK (σ:Sy) (l:List (Nat×Nat)):Sy:={ σ with lens:=l++σ.lens}
def Fg (sig:Nat->Option eT) (σ:Sy) (n:Nat) (f:Nat) (ds:List SD) (k:SD->Sy->Nat->Tree):Tree:=
 match sig f,FZ σ.lens σ.heap ds with
 |some s,some (vs,us)=>
  let sh:=s.rs.map RS.shape
  if s.code=none then
  (match OP sh n with|(ds,ls)=> .call f (vs.map .v) [] sh [] (k (Zj ds) ((σ.upd us).IK ls) (n+sh.length)))
  else .fail
 |_,_=> .fail
def ckS (σ:Sy) (x:At):CK->SD×Sy
 |.c=>(.a x,σ)
 |.d=>(.a x,σ)
 |.full=>(.full x,σ)
 |.own aj ety fr al=>(.arr σ.nx,σ.new (.arr x aj ety fr al))
def Yd (σ:Sy) (i:Nat):List CK->Nat->List SD×Sy
 |[],_=>([],σ)
 |c::cs,j=>match ckS σ (.n i j) c with|(d,σ)=>match Yd σ i cs (j+1) with|(ds,σ)=>(d::ds,σ)
def Oh (σ:Sy):List RS->Nat->List SD×Sy
 |[],_=>([],σ)
 |.one c::ss,n=>match ckS σ (.v n) c with|(d,σ)=>match Oh σ ss (n+1) with|(ds,σ)=>(d::ds,σ)
 |.agg cs::ss,n=>match Yd (σ.len n cs.length) n cs 0 with|(xs,σ)=>match Oh σ ss (n+1) with|(ds,σ)=>(.agg xs::ds,σ)
def kQ (σ:Sy):List Nat->List Nat->Nat->Sy
 |i::is,m::ms,n=>kQ { σ with heap:=(i,.box ((Ba n 0 m).map .a))::σ.heap,lens:=(n,m)::σ.lens} is ms (n+1)
 |_,_,_=>σ
def abY (bx:List Nat):List (Nat×Nat)->List (Nat×Nat)->Bool
 |[],[]=>true
 |(b,o)::r,(i,o')::r'=>bx[b]?==some i && o'==o && abY bx r r'
 |_,_=>false
def Fe:List (Nat×Nat)->List (Nat×Nat)->Nat->Option Nat
 |(b',_)::r,(i,_)::r',b=>if b'=b then some i else Fe r r' b
 |_,_,_=>none
def Am (lens:List (Nat×Nat)) (h:List (Nat×SO)) (bx:List Nat):List PS->List SD->Option (List TA×List (Nat×SO))
 |[],[]=>some ([],[])
 |.ref b off::ps,.loc i o::ds=>if bx[b]?=some i/\o=off then (Am lens h bx ps ds).bind fun q=>some (.ref b off::q.1,q.2) else none
 |.ref _ _::_,_=>none
 |.fq g caps::ps,.fq g' gT::ds=>if g'=g/\abY bx caps gT=true then (Am lens h bx ps ds).bind fun q=>some (.ref 0 0::q.1,q.2) else none
 |.fq _ _::_,_=>none
 |_::ps,d::ds=>(FP lens h d).bind fun p=>(Am lens (FW h p.2) bx ps ds).bind fun q=>some (.v p.1::q.1,p.2++q.2)
 |_,_=>none
def oJ:List PS->List SD->Nat->Option Nat
 |.ref b' _::ps,.loc i _::ds,b=>if b'=b then some i else oJ ps ds b
 |.fq _ caps::ps,.fq _ gT::ds,b=>(match Fe caps gT b with|some i=>some i|none=>oJ ps ds b)
 |_::ps,_::ds,b=>oJ ps ds b
 |_,_,_=>none
def zy (ps:List PS) (ds:List SD):Nat->Nat->Option (List Nat)
 |_,0=>some []
 |b,m+1=>(oJ ps ds b).bind fun i=>(zy ps ds (b+1) m).bind fun is=>some (i::is)
def nodupB:List Nat->Bool
 |[]=>true
 |i::is=>!is.contains i && nodupB is
def qa (lens:List (Nat×Nat)) (h:List (Nat×SO)):List Nat->List Nat->Option (List SL)
 |[],[]=>some []
 |i::is,m::ms=>(match bX h i with
  |.box ds=>(CJ ds).bind fun aJ=>if aJ.length=m then (qa lens h is ms).bind fun r=>some (IB lens aJ::r) else none
  |_=>none)
 |_,_=>none
def Yy:List PS->List SD->Bool
 |[],[]=>true
 |.fq g caps::ps,.fq g' gT::ds=>g'==g && caps.length==gT.length && Yy ps ds
 |.fq _ _::_,_=>false
 |_::_,.fq _ _::_=>false
 |_::ps,_::ds=>Yy ps ds
 |_,_=>false
def acm (sig:Nat->Option eT) (f:Nat) (ds:List SD):List Nat->Nat
 |[]=>f
 |g::gs=>(match sig g with
  |some s=>if Yy s.params ds then g else acm sig f ds gs
  |none=>acm sig f ds gs)
def keyOf (sig:Nat->Option eT) (f:Nat) (ds:List SD):Nat:=
 match sig f with
 |some s=>acm sig f ds s.alts
 |none=>f
def Ep (sig:Nat->Option eT) (own:Bool) (σ:Sy) (n:Nat) (f g:Nat) (ds:List SD) (k:SD->Sy->Nat->Tree):Tree:=
 match sig g with
 |some s=>if s.nat=true\/s.cd g≠f then .fail else if (if own then s.rs.all RS.VQ else s.rs.all RS.isC) then (match zy s.params ds 0 s.boxes.length with
  |some bx=>if nodupB bx then (match Am σ.lens σ.heap bx s.params ds with
   |some (aJ,us)=>(match qa σ.lens (FW σ.heap us) bx s.boxes with
    |some bs=>
     let sh:=s.rs.map RS.shape
     let σ1:=kQ (σ.upd us) bx s.boxes (n+sh.length)
     (match Oh σ1 s.rs n with|(ds,σ2)=> .call g aJ bs sh s.boxes (k (Zj ds) σ2 (n+sh.length+s.boxes.length)))
    |none=> .fail)
   |none=> .fail) else .fail
  |none=> .fail) else .fail
 |none=> .fail
def Ta (sig:Nat->Option eT) (own:Bool) (σ:Sy) (n:Nat) (f:Nat) (ds:List SD) (k:SD->Sy->Nat->Tree):Tree:=
 Ep sig own σ n f (keyOf sig f ds) ds k
def nM:Nat->List PS->Option Nat
 |b,[]=>some b
 |b,.ref q off::ps=>if q=b/\off=0 then nM (b+1) ps else none
 |b,.one::ps=>nM b ps
 |b,.agg _::ps=>nM b ps
 |_,.fq _ _::_=>none
def Rk (sig:Nat->Option eT) (σ:Sy) (n:Nat) (f:Nat) (ds:List SD) (k:SD->Sy->Nat->Tree):Tree:=
 match sig f with
 |some s=>if nM 0 s.params=some s.boxes.length then Ep sig false σ n f f ds k else .fail
 |none=> .fail
def J7 (σ:Sy) (kn:Kn) (g:Option (Nat×Bool)) (k:Bool->Kn->Tree):Tree:=
 match g with
 |none=>k true kn
 |some (t,want)=>(match Ae σ.env t with
  |.jG []=>k false kn
  |d=>Bn kn d fun b kn=>k (b==want) kn)
def pX (sig:Nat->Option eT) (k:Sy->Nat->Kn->Tree):List gD->Sy->Nat->Kn->Tree
 |[],σ,n,kn=>k σ n kn
 |i::is,σ,n,kn=>J7 σ kn i.guard fun w kn=>
  match w with
  |false=>pX sig k is (σ.put i.dst (.jG [])) n kn
  |true=>match i.ins with
   |.pick c a b=>Bn kn (xS σ c) fun t kn=>pX sig k is (σ.put i.dst (xS σ (if t then a else b))) n kn
   |.call f xs=>Fg sig σ n f (xs.map (xS σ)) fun d σ n=>pX sig k is (σ.put i.dst d) n kn
   |.gU f own xs=>if own=2 then .fail else Ta sig (own !=0) σ n f (xs.map (xS σ)) fun d σ n=>pX sig k is (σ.put i.dst d) n kn
   |.jv x xs=>(match xS σ x with
    |.fq f caps=>Ta sig false σ n f (xs.map (xS σ)++caps.map fun p=> .loc p.1 p.2) fun d σ n=>pX sig k is (σ.put i.dst d) n kn
    |_=> .fail)
   |ins=>aX σ n (xS σ) (fun d σ n=>pX sig k is (σ.put i.dst d) n kn) ins
def Td:SD->List Nat
 |.arr i=>[i]
 |.view i _=>[i]
 |_=>[]
def yg:SD->List Nat
 |.agg ds=>ds.flatMap Td
 |d=>Td d
def nE (d:SD):List Nat:=match d with|.loc i _=>[i]|d=>yg d
def iL (ρ:X->SD):Ins->List Nat
 |.load _ _ x=>(match ρ x with|.loc i _=>[i]|.nK i _ _=>[i]|_=>[])
 |.store _ a v=>(match ρ a with|.loc i _=>[i]|.nK i _ _=>[i]|_=>[])++yg (ρ v)
 |.lits _ _ _ _ ps=>ps.flatMap fun p=>yg (ρ p.2.2)
 |.toStr x=>yg (ρ x)
 |.slc _ x _ _=>yg (ρ x)
 |.clip _ x _ _ _=>yg (ρ x)
 |.Gt _ x _=>yg (ρ x)
 |.app _ _ _ x y=>yg (ρ x)++yg (ρ y)
 |.Tf _ x y=>yg (ρ x)++yg (ρ y)
 |.call _ xs=>xs.flatMap fun x=>yg (ρ x)
 |.lH _ xs=>xs.flatMap fun x=>nE (ρ x)
 |_=>[]
def JY:Ins->Bool
 |.load _ _ _|.toStr _|.slc _ _ _ _|.Gt _ _ _=>true
 |_=>false
def Wm (ρ:X->SD) (i:Ins):List Nat:=if JY i then [] else iL ρ i
def Eu (nx nx':Nat) (ts:List Nat):List Nat:=ts++(List.range (nx' - nx)).map (nx+·)
def uh (sig:Nat->Option eT) (k:Sy->Nat->Kn->List Trace->Tree):List gD->Sy->Nat->Kn->List Trace->Tree
 |[],σ,n,kn,ts=>k σ n kn ts
 |i::is,σ,n,kn,ts=>J7 σ kn i.guard fun w kn=>
  let gt:List Nat:=match i.guard with|some (t,_)=>[t]|none=>[]
  match w with
  |false=>uh sig k is (σ.put i.dst (.jG [])) n kn (ts++[⟨gt,i.dst.toList,[],[]⟩])
  |true=>
   let go:=fun (d:SD) (σ':Sy) (n:Nat) (kn:Kn)=>uh sig k is (σ'.put i.dst d) n kn
    (ts++[⟨gt++Ak (mZ i.ins),i.dst.toList,iL (xS σ) i.ins,Eu σ.nx σ'.nx (Wm (xS σ) i.ins)⟩])
   match i.ins with
   |.pick c a b=>Bn kn (xS σ c) fun t kn=>go (xS σ (if t then a else b)) σ n kn
   |.call f xs=>Fg sig σ n f (xs.map (xS σ)) fun d σ n=>go d σ n kn
   |.gU _ _ _=> .fail
   |.jv _ _=> .fail
   |.lH f xs=>Rk sig σ n f (xs.map (xS σ)) fun d σ n=>go d σ n kn
   |ins=>aX σ n (xS σ) (fun d σ n=>go d σ n kn) ins
inductive Sh where
 |rq
 |a
 |full
 |loc (i off:Nat)
 |arr (i:Nat)
 |fq (f:Nat) (caps:List (Nat×Nat))
 |abj (m:Nat)
 |agg (ds:List Sh)
inductive Jb where
 |kQ (m:Nat)
 |box (ds:List Sh)
 |arr (aj ety:Nat) (fr al:Bool)
structure HS where
 p:List Nat
 env:List (Nat×Sh)
 heap:List Jb
end Go.Ey
end
