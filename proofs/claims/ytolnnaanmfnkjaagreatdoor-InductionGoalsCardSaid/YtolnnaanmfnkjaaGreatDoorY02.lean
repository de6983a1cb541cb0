/- A part. -/
import Derived.Test.YtolnnaanmfnkjaaGreatDoorY01
set_option linter.all false
namespace Go.Ey
inductive W where
 |c (x:C)
 |l (xs:List C)
def jm:List W->Nat->Option W
 |[],_=>none
 |w::_,0=>some w
 |_::r,i+1=>jm r i
def au:List C->Nat->C
 |[],_=> .lit (.bool false)
 |x::_,0=>x
 |_::r,i+1=>au r i
inductive At where
 |v (i:Nat)
 |n (i j:Nat)
 |k (v:Value)
 |z
def dW (ρ:List W):At->Option C
 |.v i=>(match jm ρ i with|some (.c x)=>some x|_=>none)
 |.n i j=>(match jm ρ i with|some (.l xs)=>some (au xs j)|_=>none)
 |.k v=>some (.lit v)
 |.z=>some (.slice [] 0)
def nI (ρ:List W):List At->Option (List C)
 |[]=>some []
 |a::aY=>(dW ρ a).bind fun x=>(nI ρ aY).bind fun xs=>some (x::xs)
def MS (ρ:List W):Option At->Option (Option C)
 |none=>some none
 |some a=>(dW ρ a).bind fun x=>some (some x)
inductive SL where
 |lit (aY:List At)
 |all (i:Nat)
def TF (ρ:List W):SL->Option (List C)
 |.lit aY=>nI ρ aY
 |.all i=>(match jm ρ i with|some (.l xs)=>some xs|_=>none)
def FL (ρ:List W):List SL->Option (List (List C))
 |[]=>some []
 |s::ss=>(TF ρ s).bind fun x=>(FL ρ ss).bind fun xs=>some (x::xs)
def E8 (n:Int):C:=.lit (.int .i64 n)
def cZ (op:BinOp) (K4:Bool):C->C->Option C
 |.lit x,.lit y=>(if K4 then NB op x y else wR op x y).bind fun v=>some (.lit v)
 |_,_=>none
def unC (op:UnOp):C->Option C
 |.lit x=>(unV op x).bind fun v=>some (.lit v)
 |_=>none
def WH (k:IntKind):C->Option C
 |.lit (.int _ n)=>some (.lit (.int k (k.wrap n)))
 |_=>none
def DD:List Nat->List C->List C->Option Bool
 |[],[],[]=>some true
 |k::ks,a::aY,b::bs=>(Kt k a b).bind fun x=>(DD ks aY bs).bind fun y=>some (x && y)
 |_,_,_=>none
def wh (ks:List Nat) (neg:Bool) (aY bs:List C):Option C:=(DD ks aY bs).bind fun b=>some (.lit (.bool (if neg then !b else b)))
def lN (isStr:Bool):C->Option C
 |.slice _ n=>if isStr then none else some (E8 n)
 |.lit (.string s)=>if isStr then some (E8 s.size) else none
 |_=>none
def Lb (ay:Nat):C->Option (List C×Nat)
 |.slice cs n=>if cs.length=n * ay then some (cs,n) else none
 |.lit (.string s)=>if ay=1 then some (s.data.toList.map fun b=> .lit (.int .u8 b.toNat),s.size) else none
 |_=>none
def iO (ay bytes:Nat) (t:C):C->Option C
 |.slice ds m=>(Lb ay t).bind fun p=>
   if p.1.length=p.2 * ay/\ds.length=m * ay/\(m+p.2) * bytes<=aB/\0 < ay/\m+p.2<=aB then some (.slice (ds++p.1) (m+p.2)) else none
 |_=>none
def eZ (ay:Nat):C->C->Option (List C)
 |.slice cs n,.lit (.int _ k)=>if 0<=k/\k < n/\(k.toNat+1) * ay<=cs.length then some ((cs.drop (k.toNat * ay)).take ay) else none
 |_,_=>none
def Zh (ay:Nat) (off:Nat) (vs:List C):C->C->Option C
 |.slice cs n,.lit (.int _ k)=>if 0<=k/\k < n/\off+vs.length<=ay/\cs.length=n * ay then some (.slice (splice cs (k.toNat * ay+off) vs) n) else none
 |_,_=>none
def loC:Option C->Option Nat
 |none=>some 0
 |some (.lit (.int _ n))=>if 0<=n then some n.toNat else none
 |_=>none
def hiC (len:Nat):Option C->Option Nat
 |none=>some len
 |some (.lit (.int _ n))=>if 0<=n then some n.toNat else none
 |_=>none
def ER (ay:Nat) (lo hi:Option C):C->Option C
 |.slice cs n=>(loC lo).bind fun l=>(hiC n hi).bind fun r=>if l<=r/\r<=n then some (.slice ((cs.drop (l * ay)).take ((r - l) * ay)) (r - l)) else none
 |_=>none
def afM (ay:Nat) (lo:Option C):C->C->C->Option C
 |.lit (.int _ a),.lit (.int _ b),s=>if a=b then ER ay lo (some (.lit (.int .i64 a))) s else none
 |_,_,_=>none
def LU (lo hi:Option C):C->Option C
 |.lit (.string s)=>(loC lo).bind fun l=>(hiC s.size hi).bind fun r=>if l<=r/\r<=s.size then some (.lit (.string (s.extract l r))) else none
 |_=>none
def aeK:C->C->Option C
 |.lit (.string s),.lit (.int _ n)=>if 0<=n then (s.data[n.toNat]?).bind fun b=>some (.lit (.int .u8 b.toNat)) else none
 |_,_=>none
def TC:C->Option C
 |.slice cs n=>(bytesOf cs).bind fun bs=>if cs.length=n then some (.lit (.string ⟨bs.toArray⟩)) else none
 |_=>none
def mkC (ay bytes:Nat) (zero:List Value):C->C->Option C
 |.lit (.int _ n),.lit (.int _ m)=>if 0<=n/\n<=m/\m.toNat * bytes<=aB/\m.toNat<=aB/\zero.length=ay/\0 < ay then some (.slice (zeros zero n.toNat) n.toNat) else none
 |_,_=>none
def aod (ay:Nat) (t:C):C->Option C
 |.slice xs len=>(Lb ay t).bind fun p=>if p.1.length=p.2 * ay/\xs.length=len * ay then some (.slice (splice xs 0 (p.1.take (min p.2 len * ay))) len) else none
 |_=>none
def apK (ay:Nat) (t:C):C->Option C
 |.slice _ len=>(Lb ay t).bind fun p=>some (E8 (min p.2 len:Nat))
 |_=>none
def mmC (isMax:Bool):C->C->Option C
 |.lit x,.lit y=>(AB isMax x y).bind fun v=>some (.lit v)
 |_,_=>none
def fq (ay len:Nat) (xs:List C):Option C:=if xs.length=len * ay/\len<=aB/\0 < ay then some (.slice xs len) else none
def FV {α:Type} (c:C) (t e:Option α):Option α:=
 match c with
 |.lit (.bool true)=>t
 |.lit (.bool false)=>e
 |_=>none
inductive OpC where
 |bin (op:BinOp) (K4:Bool) (a b:At)
 |un (op:UnOp) (a:At)
 |conv (k:IntKind) (a:At)
 |eqs (ks:List Nat) (neg:Bool) (aY bs:SL)
 |len (isStr:Bool) (a:At)
 |app (ay bytes:Nat) (s t:At)
 |set (ay:Nat) (s i:At) (off:Nat) (vs:List At)
 |sub (ay:Nat) (s:At) (lo hi:Option At)
 |clip (ay:Nat) (s:At) (lo:Option At) (hi mx:At)
 |Mq (s:At) (lo hi:Option At)
 |Ct (s i:At)
 |toStr (s:At)
 |mk (ay bytes:Nat) (zero:List Value) (l c:At)
 |R6 (ay:Nat) (d s:At)
 |cnt (ay:Nat) (d s:At)
 |mm (isMax:Bool) (a b:At)
 |lits (ay len:Nat) (xs:List At)
def eF (ρ:List W):OpC->Option C
 |.bin op K4 a b=>(dW ρ a).bind fun x=>(dW ρ b).bind fun y=>cZ op K4 x y
 |.un op a=>(dW ρ a).bind fun x=>unC op x
 |.conv k a=>(dW ρ a).bind fun x=>WH k x
 |.eqs ks neg aY bs=>(TF ρ aY).bind fun xs=>(TF ρ bs).bind fun ys=>wh ks neg xs ys
 |.len b a=>(dW ρ a).bind fun x=>lN b x
 |.app ay bytes s t=>(dW ρ s).bind fun x=>(dW ρ t).bind fun y=>iO ay bytes y x
 |.set ay s i off vs=>(dW ρ s).bind fun x=>(dW ρ i).bind fun y=>(nI ρ vs).bind fun zs=>Zh ay off zs x y
 |.sub ay s lo hi=>(dW ρ s).bind fun x=>(MS ρ lo).bind fun l=>(MS ρ hi).bind fun h=>ER ay l h x
 |.clip ay s lo hi mx=>(dW ρ s).bind fun x=>(MS ρ lo).bind fun l=>(dW ρ hi).bind fun a=>(dW ρ mx).bind fun b=>afM ay l a b x
 |.Mq s lo hi=>(dW ρ s).bind fun x=>(MS ρ lo).bind fun l=>(MS ρ hi).bind fun h=>LU l h x
 |.Ct s i=>(dW ρ s).bind fun x=>(dW ρ i).bind fun y=>aeK x y
 |.toStr s=>(dW ρ s).bind fun x=>TC x
 |.mk ay bytes zero l c=>(dW ρ l).bind fun x=>(dW ρ c).bind fun y=>mkC ay bytes zero x y
 |.R6 ay d s=>(dW ρ d).bind fun x=>(dW ρ s).bind fun y=>aod ay y x
 |.cnt ay d s=>(dW ρ d).bind fun x=>(dW ρ s).bind fun y=>apK ay y x
 |.mm isMax a b=>(dW ρ a).bind fun x=>(dW ρ b).bind fun y=>mmC isMax x y
 |.lits ay len xs=>(nI ρ xs).bind fun ys=>fq ay len ys
inductive TV where
 |one (a:At)
 |agg (s:SL)
inductive TA where
 |v (x:TV)
 |ref (b off:Nat)
inductive TW where
 |c (a:At)
 |l (s:SL)
inductive LA where
 |v (x:V)
 |ref (b off:Nat)
abbrev R:=List V×List (List C)
abbrev qM:=Nat->List LA->List (List C)->Option R
abbrev ug:=Nat->List W->Option R
inductive Tree where
 |fG (o:OpC) (t:Tree)
 |row (ay:Nat) (s i:At) (t:Tree)
 |ite (a:At) (t e:Tree)
 |call (f:Nat) (args:List TA) (bs:List SL) (rs:List (Option Nat)) (bl:List Nat) (t:Tree)
 |goto (h:Nat) (args:List TW)
 |ret (rs:List TV) (bs:List SL)
 |fail
def Wn (ρ:List W):TV->Option V
 |.one a=>(dW ρ a).bind fun x=>some (.one x)
 |.agg s=>(TF ρ s).bind fun x=>some (.agg x)
def Es (ρ:List W):List TV->Option (List V)
 |[]=>some []
 |s::ss=>(Wn ρ s).bind fun x=>(Es ρ ss).bind fun xs=>some (x::xs)
def YX (ρ:List W):TA->Option LA
 |.v x=>(Wn ρ x).bind fun y=>some (.v y)
 |.ref b off=>some (.ref b off)
def wC (ρ:List W):List TA->Option (List LA)
 |[]=>some []
 |s::ss=>(YX ρ s).bind fun x=>(wC ρ ss).bind fun xs=>some (x::xs)
def twD (ρ:List W):TW->Option W
 |.c a=>(dW ρ a).bind fun x=>some (.c x)
 |.l s=>(TF ρ s).bind fun x=>some (.l x)
def iA (ρ:List W):List TW->Option (List W)
 |[]=>some []
 |s::ss=>(twD ρ s).bind fun x=>(iA ρ ss).bind fun xs=>some (x::xs)
def getOne (vs:List V) (j:Nat):Option C:=match vs[j]? with|some (.one c)=>some c|_=>none
def NK (vs:List V) (j m:Nat):Option (List C):=match vs[j]? with|some (.agg xs)=>if xs.length=m then some xs else none|_=>none
def Sq (bs:List (List C)) (j m:Nat):Option (List C):=match bs[j]? with|some xs=>if xs.length=m then some xs else none|_=>none
def gm {α:Type} (vs:List V) (k:List W->Option α):List (Option Nat)->Nat->List W->Option α
 |[],_,ρ=>k ρ
 |none::ss,j,ρ=>(getOne vs j).bind fun c=>gm vs k ss (j+1) (ρ++[.c c])
 |some m::ss,j,ρ=>(NK vs j m).bind fun xs=>gm vs k ss (j+1) (ρ++[.l xs])
def jo {α:Type} (bs:List (List C)) (k:List W->Option α):List Nat->Nat->List W->Option α
 |[],_,ρ=>k ρ
 |m::ms,j,ρ=>(Sq bs j m).bind fun xs=>jo bs k ms (j+1) (ρ++[.l xs])
def sized {α:Type} (r:R) (a b:Nat) (k:Option α):Option α:=if r.1.length=a/\r.2.length=b then k else none
def aR (call:qM) (head:ug):Tree->List W->Option R
 |.fG o t,ρ=>(eF ρ o).bind fun c=>aR call head t (ρ++[.c c])
 |.row ay s i t,ρ=>((dW ρ s).bind fun x=>(dW ρ i).bind fun y=>eZ ay x y).bind fun xs=>aR call head t (ρ++[.l xs])
 |.ite a t e,ρ=>(dW ρ a).bind fun c=>FV c (aR call head t ρ) (aR call head e ρ)
 |.call f args bs rs bl t,ρ=>(wC ρ args).bind fun aY=>(FL ρ bs).bind fun xs=>(call f aY xs).bind fun r=>
   sized r rs.length bl.length (gm r.1 (fun ρ=>jo r.2 (fun ρ=>aR call head t ρ) bl 0 ρ) rs 0 ρ)
 |.goto h args,ρ=>(iA ρ args).bind fun ws=>head h ws
 |.ret rs bs,ρ=>(Es ρ rs).bind fun vs=>(FL ρ bs).bind fun xs=>some (vs,xs)
 |.fail,_=>none
inductive PS where
 |one
 |agg (m:Nat)
 |ref (b off:Nat)
 |fD (f:Nat) (caps:List (Nat×Nat))
structure bO where
 params:List PS
 boxes:List Nat
 body:Tree
 heads:List Tree
def di {α:Type} (k:List W->Option α):List PS->List LA->List W->Option α
 |[],[],ρ=>k ρ
 |.one::ps,.v (.one c)::aY,ρ=>di k ps aY (ρ++[.c c])
 |.agg m::ps,.v (.agg xs)::aY,ρ=>if xs.length=m then di k ps aY (ρ++[.l xs]) else none
 |.ref b o::ps,.ref b' o'::aY,ρ=>if b=b'/\o=o' then di k ps aY ρ else none
 |.fD _ _::ps,.ref b' o'::aY,ρ=>if b'=0/\o'=0 then di k ps aY ρ else none
 |_,_,_=>none
def iD {α:Type} (k:List W->Option α):List Nat->List (List C)->List W->Option α
 |[],[],ρ=>k ρ
 |m::ms,xs::bs,ρ=>if xs.length=m then iD k ms bs (ρ++[.l xs]) else none
 |_,_,_=>none
def Ef (call:qM) (head:ug) (tf:bO) (aY:List LA) (bs:List (List C)):Option R:=
 di (fun ρ=>iD (fun ρ=>aR call head tf.body ρ) tf.boxes bs ρ) tf.params aY []
structure GT where
 fn:Nat->Option bO
 nat:qM
mutual
def runT (G:GT):Nat->qM
 |0,_,_,_=>none
 |n+1,f,aY,bs=>match G.fn f with|some tf=>Ef (runT G n) (kY G n f) tf aY bs|none=>G.nat f aY bs
def kY (G:GT):Nat->Nat->ug
 |0,_,_,_=>none
 |n+1,f,h,ws=>(G.fn f).bind fun tf=>(tf.heads[h]?).bind fun t=>aR (runT G n) (kY G n f) t ws
end
def Le {α:Type} (a b:Option α):Prop:=∀r,a=some r->b=some r
theorem Le.refl {α:Type} (a:Option α):Le a a:=fun _ h=>h
theorem Le.bind {α β:Type} {a b:Option α} {f g:α->Option β} (h:Le a b) (hf:∀x,Le (f x) (g x)):Le (a.bind f) (b.bind g):=by
 intro r hr;cases ha:a with
 |none=>rw [ha] at hr;cases hr
 |some x=>rw [ha] at hr;rw [h x ha];exact hf x r hr
theorem Le.gm {α:Type} {vs:List V} {k k':List W->Option α} (h:∀ρ,Le (k ρ) (k' ρ)):∀(ss:List (Option Nat)) (j:Nat) (ρ:List W),Le (gm vs k ss j ρ) (gm vs k' ss j ρ)
 |[],_,ρ=>h ρ
 |none::ss,j,ρ=>Le.bind (Le.refl _) fun c=>Le.gm h ss (j+1) _
 |some _::ss,j,ρ=>Le.bind (Le.refl _) fun c=>Le.gm h ss (j+1) _
theorem Le.jo {α:Type} {bs:List (List C)} {k k':List W->Option α} (h:∀ρ,Le (k ρ) (k' ρ)):∀(ss:List Nat) (j:Nat) (ρ:List W),Le (jo bs k ss j ρ) (jo bs k' ss j ρ)
 |[],_,ρ=>h ρ
 |_::ss,j,ρ=>Le.bind (Le.refl _) fun c=>Le.jo h ss (j+1) _
theorem Le.di {α:Type} {k k':List W->Option α} (h:∀ρ,Le (k ρ) (k' ρ)):∀(ps:List PS) (aY:List LA) (ρ:List W),Le (di k ps aY ρ) (di k' ps aY ρ):=by
 intro ps;induction ps with
 |nil=>intro aY ρ;cases aY with
  |nil=>exact h ρ
  |cons _ _=>exact Le.refl _
 |cons p ps ih=>
  intro aY ρ;cases aY with
  |nil=>cases p<;>exact Le.refl _
  |cons a aY=>
   cases p with
   |one=>cases a with
    |v x=>cases x with
     |one c=>exact ih aY _
     |agg xs=>exact Le.refl _
     |full _ _=>exact Le.refl _
    |ref b o=>exact Le.refl _
   |agg m=>cases a with
    |v x=>cases x with
     |one c=>exact Le.refl _
     |agg xs=>simp only [Ey.di];split<;>first|exact ih aY _|exact Le.refl _
     |full _ _=>exact Le.refl _
    |ref b o=>exact Le.refl _
   |ref b o=>cases a with
    |v x=>exact Le.refl _
    |ref b' o'=>simp only [Ey.di];split<;>first|exact ih aY _|exact Le.refl _
   |fD g cs=>cases a with
    |v x=>exact Le.refl _
    |ref b' o'=>simp only [Ey.di];split<;>first|exact ih aY _|exact Le.refl _
theorem Le.iD {α:Type} {k k':List W->Option α} (h:∀ρ,Le (k ρ) (k' ρ)):∀(ms:List Nat) (bs:List (List C)) (ρ:List W),Le (iD k ms bs ρ) (iD k' ms bs ρ)
 |[],[],ρ=>h ρ
 |[],_::_,_=>Le.refl _
 |_::_,[],_=>Le.refl _
 |m::ms,xs::bs,ρ=>by simp only [Ey.iD];split<;>first|exact Le.iD h ms bs _|exact Le.refl _
theorem Le.FV {α:Type} {c:C} {t t' e e':Option α} (h1:Le t t') (h2:Le e e'):Le (FV c t e) (FV c t' e'):=by
 unfold Ey.FV;split
 ·exact h1
 ·exact h2
 ·exact Le.refl _
theorem nL {call call':qM} {head head':ug} (hc:∀f aY bs,Le (call f aY bs) (call' f aY bs)) (hh:∀h ws,Le (head h ws) (head' h ws)):∀(t:Tree) (ρ:List W),Le (aR call head t ρ) (aR call' head' t ρ)
 |.fG o t,ρ=>Le.bind (Le.refl _) fun c=>nL hc hh t _
 |.row ay s i t,ρ=>Le.bind (Le.refl _) fun c=>nL hc hh t _
 |.ite a t e,ρ=>Le.bind (Le.refl _) fun c=>Le.FV (nL hc hh t ρ) (nL hc hh e ρ)
 |.call f args bs rs bl t,ρ=>by
  refine Le.bind (Le.refl _) fun aY=>Le.bind (Le.refl _) fun xs=>Le.bind (hc _ _ _) fun r=>?_
  unfold sized;split
  ·exact Le.gm (fun ρ=>Le.jo (fun ρ=>nL hc hh t ρ) _ _ _) _ _ _
  ·exact Le.refl _
 |.goto h args,ρ=>Le.bind (Le.refl _) fun ws=>hh h ws
 |.ret rs bs,ρ=>Le.refl _
 |.fail,ρ=>Le.refl _
theorem Nl (G:GT):∀n,(∀f aY bs,Le (runT G n f aY bs) (runT G (n+1) f aY bs))/\(∀f h ws,Le (kY G n f h ws) (kY G (n+1) f h ws))
 |0=>⟨fun f aY bs r h=>by simp [runT] at h,fun f h ws r hh=>by simp [kY] at hh⟩
 |n+1=>by
  obtain ⟨h1,h2⟩:=Nl G n;refine ⟨fun f aY bs=>?_,fun f h ws=>?_⟩
  ·rw [runT,runT];split
   case h_2=>exact Le.refl _
   exact Le.di (fun ρ=>Le.iD (fun ρ=>nL h1 (h2 f) _ _) _ _ _) _ _ _
  ·rw [kY,kY];exact Le.bind (Le.refl _) fun tf=>Le.bind (Le.refl _) fun t=>nL h1 (h2 f) _ _
theorem aaf {G:GT} {n n':Nat} (h:n<=n') (f:Nat) (aY:List LA) (bs:List (List C)):Le (runT G n f aY bs) (runT G n' f aY bs):=by
 induction h with
 |refl=>exact Le.refl _
 |step _ ih=>exact fun r hr=>(Nl G _).1 f aY bs r (ih r hr)
theorem Xo {G:GT} {n n':Nat} (h:n<=n') (f i:Nat) (ws:List W):Le (kY G n f i ws) (kY G n' f i ws):=by
 induction h with
 |refl=>exact Le.refl _
 |step _ ih=>exact fun r hr=>(Nl G _).2 f i ws r (ih r hr)
open Classical in
noncomputable def lim {α:Type} (g:Nat->Option α):Option α:=if h:∃n a,g n=some a then some h.choose_spec.choose else none
theorem acX {α:Type} {g:Nat->Option α} (hm:∀n n',n<=n'->Le (g n) (g n')) {n:Nat} {a:α} (h:g n=some a):lim g=some a:=by have hx:∃n a,g n=some a:=⟨n,a,h⟩;unfold lim;rw [dif_pos hx];have h2:=hx.choose_spec.choose_spec;have h3:=hm _ _ (Nat.le_max_left n hx.choose) a h;have h4:=hm _ _ (Nat.le_max_right n hx.choose) _ h2;rw [h3] at h4;exact h4.symm
theorem aat {α:Type} {g:Nat->Option α} {a:α} (h:lim g=some a):∃n,g n=some a:=by
 unfold lim at h;split at h
 ·rename_i hx;simp only [A0] at h;exact ⟨hx.choose,h▸hx.choose_spec.choose_spec⟩
 ·cases h
noncomputable def bz (G:GT):qM:=fun f aY bs=>lim fun n=>runT G n f aY bs
noncomputable def bn (G:GT) (f:Nat):ug:=fun h ws=>lim fun n=>kY G n f h ws
variable {G:GT}
theorem Tg {n f:Nat} {aY:List LA} {bs:List (List C)} {r:R} (h:runT G n f aY bs=some r):bz G f aY bs=some r:=acX (fun _ _ hn=>aaf hn f aY bs) h
theorem X7 {n f i:Nat} {ws:List W} {r:R} (h:kY G n f i ws=some r):bn G f i ws=some r:=acX (fun _ _ hn=>Xo hn f i ws) h
theorem TR {f:Nat} {aY:List LA} {bs:List (List C)} {r:R} (h:bz G f aY bs=some r):∃n,runT G n f aY bs=some r:=aat h
theorem aaZ {f i:Nat} {ws:List W} {r:R} (h:bn G f i ws=some r):∃n,kY G n f i ws=some r:=aat h
def Ev {α:Type} (a:Option α) (g:Nat->Option α):Prop:=∀r,a=some r->∃n0,∀n,n0<=n->g n=some r
theorem Ev.const {α:Type} (a:Option α):Ev a fun _=>a:=fun _ h=>⟨0,fun _ _=>h⟩
theorem Ev.bind {α β:Type} {a:Option α} {g:Nat->Option α} {f:α->Option β} {k:Nat->α->Option β} (h:Ev a g) (hf:∀x,Ev (f x) fun n=>k n x):Ev (a.bind f) fun n=>(g n).bind (k n):=by
 intro r hr;cases ha:a with
 |none=>rw [ha] at hr;cases hr
 |some x=>
  rw [ha] at hr;obtain ⟨n1,h1⟩:=h x ha;obtain ⟨n2,h2⟩:=hf x r hr;refine ⟨max n1 n2,fun n hn=>?_⟩
  show (g n).bind (k n)=some r
  rw [h1 n (by omega)]
  exact h2 n (by omega)
theorem Ev.gm {α:Type} {vs:List V} {k:List W->Option α} {k':Nat->List W->Option α} (h:∀ρ,Ev (k ρ) fun n=>k' n ρ):∀(ss:List (Option Nat)) (j:Nat) (ρ:List W),Ev (Ey.gm vs k ss j ρ) fun n=>Ey.gm vs (k' n) ss j ρ
 |[],_,ρ=>h ρ
 |none::ss,j,ρ=>Ev.bind (Ev.const _) fun c=>Ev.gm h ss (j+1) _
 |some _::ss,j,ρ=>Ev.bind (Ev.const _) fun c=>Ev.gm h ss (j+1) _
theorem Ev.jo {α:Type} {bs:List (List C)} {k:List W->Option α} {k':Nat->List W->Option α} (h:∀ρ,Ev (k ρ) fun n=>k' n ρ):∀(ss:List Nat) (j:Nat) (ρ:List W),Ev (Ey.jo bs k ss j ρ) fun n=>Ey.jo bs (k' n) ss j ρ
 |[],_,ρ=>h ρ
 |_::ss,j,ρ=>Ev.bind (Ev.const _) fun c=>Ev.jo h ss (j+1) _
theorem Ev.FV {α:Type} {c:C} {t e:Option α} {t' e':Nat->Option α} (h1:Ev t t') (h2:Ev e e'):Ev (Ey.FV c t e) fun n=>Ey.FV c (t' n) (e' n):=by
 unfold Ey.FV;split
 ·exact h1
 ·exact h2
 ·exact fun r h=>by cases h
theorem DI {call:qM} {head:ug} {call':Nat->qM} {head':Nat->ug} (hc:∀f aY bs,Ev (call f aY bs) fun n=>call' n f aY bs) (hh:∀h ws,Ev (head h ws) fun n=>head' n h ws):
  ∀(t:Tree) (ρ:List W),Ev (aR call head t ρ) fun n=>aR (call' n) (head' n) t ρ
 |.fG o t,ρ=>Ev.bind (Ev.const _) fun c=>DI hc hh t _
 |.row ay s i t,ρ=>Ev.bind (Ev.const _) fun c=>DI hc hh t _
 |.ite a t e,ρ=>Ev.bind (Ev.const _) fun c=>Ev.FV (DI hc hh t ρ) (DI hc hh e ρ)
 |.call f args bs rs bl t,ρ=>by
  refine Ev.bind (Ev.const _) fun aY=>Ev.bind (Ev.const _) fun xs=>Ev.bind (hc _ _ _) fun r=>?_
  unfold sized;split
  ·exact Ev.gm (fun ρ=>Ev.jo (fun ρ=>DI hc hh t ρ) _ _ _) _ _ _
  ·exact fun r h=>by cases h
 |.goto h args,ρ=>Ev.bind (Ev.const _) fun ws=>hh h ws
 |.ret rs bs,ρ=>Ev.const _
 |.fail,ρ=>Ev.const _
theorem afh (f:Nat) (aY:List LA) (bs:List (List C)):Ev (bz G f aY bs) fun n=>runT G n f aY bs:=fun r h=>by obtain ⟨n,hn⟩:=TR h;exact ⟨n,fun n' hn'=>aaf hn' f aY bs r hn⟩
theorem aeT (f i:Nat) (ws:List W):Ev (bn G f i ws) fun n=>kY G n f i ws:=fun r h=>by obtain ⟨n,hn⟩:=aaZ h;exact ⟨n,fun n' hn'=>Xo hn' f i ws r hn⟩
theorem ai {f:Nat} {tf:bO} (hf:G.fn f=some tf) {i:Nat} {t:Tree} (ht:tf.heads[i]?=some t) (ws:List W):bn G f i ws=aR (bz G) (bn G f) t ws:=by
 have h1:Le (bn G f i ws) (aR (bz G) (bn G f) t ws):=by
  intro r h;obtain ⟨n,hn⟩:=aaZ h;cases n with
  |zero=>simp [kY] at hn
  |succ n=>
   rw [kY,hf,A4,ht,A4] at hn;exact nL (fun f aY bs r h=>Tg h) (fun h ws r hh=>X7 hh) t ws r hn
 have h2:Le (aR (bz G) (bn G f) t ws) (bn G f i ws):=by intro r h;obtain ⟨n,hn⟩:=DI (afh (G:=G)) (aeT f) t ws r h;refine X7 (n:=n+1) ?_;rw [kY,hf,A4,ht,A4];exact hn n (B9 _)
 cases h:bn G f i ws with
 |some r=>exact (h1 r h).symm
 |none=>cases h':aR (bz G) (bn G f) t ws with
  |none=>rfl
  |some r=>rw [h2 r h'] at h;cases h
theorem Ev.di {α:Type} {k:List W->Option α} {k':Nat->List W->Option α} (h:∀ρ,Ev (k ρ) fun n=>k' n ρ):∀(ps:List PS) (aY:List LA) (ρ:List W),Ev (Ey.di k ps aY ρ) fun n=>Ey.di (k' n) ps aY ρ:=by
 intro ps;induction ps with
 |nil=>intro aY ρ;cases aY with
  |nil=>exact h ρ
  |cons _ _=>exact fun r h=>by cases h
 |cons p ps ih=>
  intro aY ρ;cases aY with
  |nil=>cases p<;>exact fun r h=>by cases h
  |cons a aY=>
   cases p with
   |one=>cases a with
    |v x=>cases x with
     |one c=>exact ih aY _
     |agg xs=>exact fun r h=>by cases h
     |full _ _=>exact fun r h=>by cases h
    |ref b o=>exact fun r h=>by cases h
   |agg m=>cases a with
    |v x=>cases x with
     |one c=>exact fun r h=>by cases h
     |agg xs=>simp only [Ey.di];split<;>first|exact ih aY _|exact fun r h=>by cases h
     |full _ _=>exact fun r h=>by cases h
    |ref b o=>exact fun r h=>by cases h
   |ref b o=>cases a with
    |v x=>exact fun r h=>by cases h
    |ref b' o'=>simp only [Ey.di];split<;>first|exact ih aY _|exact fun r h=>by cases h
   |fD g cs=>cases a with
    |v x=>exact fun r h=>by cases h
    |ref b' o'=>simp only [Ey.di];split<;>first|exact ih aY _|exact fun r h=>by cases h
theorem Ev.iD {α:Type} {k:List W->Option α} {k':Nat->List W->Option α} (h:∀ρ,Ev (k ρ) fun n=>k' n ρ):∀(ms:List Nat) (bs:List (List C)) (ρ:List W),Ev (Ey.iD k ms bs ρ) fun n=>Ey.iD (k' n) ms bs ρ
 |[],[],ρ=>h ρ
 |[],_::_,_=>fun r h=>by cases h
 |_::_,[],_=>fun r h=>by cases h
 |m::ms,xs::bs,ρ=>by simp only [Ey.iD];split<;>first|exact Ev.iD h ms bs _|exact fun r h=>by cases h
theorem aG {f:Nat} {tf:bO} (hf:G.fn f=some tf) (aY:List LA) (bs:List (List C)):bz G f aY bs=Ef (bz G) (bn G f) tf aY bs:=by
 have h1:Le (bz G f aY bs) (Ef (bz G) (bn G f) tf aY bs):=by
  intro r h;obtain ⟨n,hn⟩:=TR h;cases n with
  |zero=>simp [runT] at hn
  |succ n=>
   rw [runT,hf] at hn;exact Le.di (fun ρ=>Le.iD (fun ρ=>nL (fun f aY bs r h=>Tg h) (fun h ws r hh=>X7 hh) _ _) _ _ _) _ _ _ r hn
 have h2:Le (Ef (bz G) (bn G f) tf aY bs) (bz G f aY bs):=by
  intro r h;obtain ⟨n,hn⟩:=Ev.di (fun ρ=>Ev.iD (fun ρ=>DI (afh (G:=G)) (aeT f) tf.body ρ) tf.boxes bs ρ) tf.params aY [] r h
  refine Tg (n:=n+1) ?_;rw [runT,hf];exact hn n (B9 _)
 cases h:bz G f aY bs with
 |some r=>exact (h1 r h).symm
 |none=>cases h':Ef (bz G) (bn G f) tf aY bs with
  |none=>rfl
  |some r=>rw [h2 r h'] at h;cases h
theorem aaz {f:Nat} (hf:G.fn f=none) {aY:List LA} {bs:List (List C)} {r:R} (h:G.nat f aY bs=some r):bz G f aY bs=some r:=Tg (n:=1) (by rw [runT,hf];exact h)
end Go.Ey
namespace Go.Ey
inductive SD where
 |uf
 |a (x:At)
 |full (x:At)
 |loc (i off:Nat)
 |arr (i:Nat)
 |view (i:Nat) (x:At)
 |nY (i:Nat) (x:At) (off:Nat)
 |ptr (r off ay:Nat)
 |fD (f:Nat) (caps:List (Nat×Nat))
 |agg (ds:List SD)
 |lC (ds:List SD)
inductive SO where
 |dead
 |box (ds:List SD)
 |arr (x:At) (ay ety:Nat) (fr al:Bool)
structure Sy where
 env:List (Nat×SD)
 heap:List (Nat×SO)
 nx:Nat
 lens:List (Nat×Nat)
def Bn:List (Nat×SD)->Nat->SD
 |[],_=> .uf
 |(t',d)::r,t=>if t'=t then d else Bn r t
def dm:List (Nat×SO)->Nat->SO
 |[],_=> .dead
 |(i',o)::r,i=>if i'=i then o else dm r i
def H9 (h:List (Nat×SO)):List (Nat×SO)->List (Nat×SO)
 |[]=>h
 |u::us=>H9 (u::h) us
def Sy.upd (σ:Sy) (us:List (Nat×SO)):Sy:={ σ with heap:=H9 σ.heap us}
def Sy.new (σ:Sy) (o:SO):Sy:={ σ with heap:=(σ.nx,o)::σ.heap,nx:=σ.nx+1}
def Sy.put (σ:Sy) (dst:Option Nat) (d:SD):Sy:=match dst with|some t=>{ σ with env:=(t,d)::σ.env}|none=>σ
def Sy.len (σ:Sy) (i m:Nat):Sy:={ σ with lens:=(i,m)::σ.lens}
def Cq (i:Nat):Nat->Nat->List At
 |_,0=>[]
 |j,m+1=> .n i j::Cq i (j+1) m
def Hy (i:Nat):Nat->List At->Bool
 |_,[]=>true
 |j,.n i' j'::r=>i'==i && j'==j && Hy i (j+1) r
 |_,_=>false
def aeS (lens:List (Nat×Nat)) (i m:Nat):Bool:=lens.any fun p=>p.1==i && p.2==m
def JZ (lens:List (Nat×Nat)) (aY:List At):SL:=
 match aY with
 |.n i 0::_=>if Hy i 0 aY && aeS lens i aY.length then .all i else .lit aY
 |_=> .lit aY
def Cc:SD->Option At
 |.a x=>some x
 |_=>none
def Ea:List SD->Option (List At)
 |[]=>some []
 |.a x::ds=>(Ea ds).bind fun xs=>some (x::xs)
 |_=>none
def I4:Option SD->Option (Option At)
 |none=>some none
 |some (.a x)=>some (some x)
 |_=>none
def BQ (h:List (Nat×SO)):SD->Option At
 |.a x=>some x
 |.full x=>some x
 |.arr i=>(match dm h i with|.arr x _ _ _ _=>some x|_=>none)
 |.view i x=>(match dm h i with|.arr _ _ _ _ _=>some x|_=>none)
 |_=>none
def lM (h:List (Nat×SO)) (ay:Nat):SD->Option At
 |.a x=>some x
 |.full x=>some x
 |.arr i=>(match dm h i with|.arr x e _ _ _=>if e=ay then some x else none|_=>none)
 |.view i x=>(match dm h i with|.arr _ e _ _ _=>if e=ay then some x else none|_=>none)
 |_=>none
def agD (h:List (Nat×SO)) (d:SD):Option At:=lM h 1 d
def A7 (h:List (Nat×SO)):SD->Option (At×List (Nat×SO))
 |.a x=>some (x,[])
 |.full x=>some (x,[])
 |.arr i=>(match dm h i with|.arr x e t _ al=>some (x,[(i,.arr x e t true al)])|_=>none)
 |.view i x=>(match dm h i with|.arr y e t _ al=>some (x,[(i,.arr y e t true al)])|_=>none)
 |_=>none
def JD (h:List (Nat×SO)):List SD->Option (List At×List (Nat×SO))
 |[]=>some ([],[])
 |d::ds=>(A7 h d).bind fun p=>(JD (H9 h p.2) ds).bind fun q=>some (p.1::q.1,p.2++q.2)
def VK (h:List (Nat×SO)):SD->Option (List At×List (Nat×SO))
 |.agg ds=>JD h ds
 |d=>(A7 h d).bind fun p=>some ([p.1],p.2)
def GX (lens:List (Nat×Nat)) (h:List (Nat×SO)):SD->Option (TV×List (Nat×SO))
 |.agg ds=>(JD h ds).bind fun p=>some (.agg (JZ lens p.1),p.2)
 |d=>(A7 h d).bind fun p=>some (.one p.1,p.2)
def Ia (lens:List (Nat×Nat)) (h:List (Nat×SO)):List SD->Option (List TV×List (Nat×SO))
 |[]=>some ([],[])
 |d::ds=>(GX lens h d).bind fun p=>(Ia lens (H9 h p.2) ds).bind fun q=>some (p.1::q.1,p.2++q.2)
def BB:SD->Bool
 |.a _|.full _|.loc _ _|.arr _|.view _ _|.nY _ _ _|.ptr _ _ _|.fD _ _=>true
 |_=>false
def cellsS:SD->Option (List SD)
 |.agg ds=>if ds.all BB then some ds else none
 |d=>if BB d then some [d] else none
def Ei (ρ:X->SD):List SD->List (Nat×Nat×X)->Option (List SD)
 |cs,[]=>some cs
 |cs,(off,size,x)::r=>(cellsS (ρ x)).bind fun ds=>if ds.length=size/\off+size<=cs.length then Ei ρ (splice cs off ds) r else none
def abp:Value->SD
 |.slice none 0 0=> .full .z
 |v=> .a (.k v)
def aeG:Value->At
 |.slice none 0 0=> .z
 |v=> .k v
def Ib (zero:List Value):Nat->List SD
 |0=>[]
 |n+1=>zero.map (fun v=> .a (aeG v))++Ib zero n
def xS (σ:Sy):X->SD
 |.t n=>Bn σ.env n
 |.k v=>if scalar v then .a (.k v) else (match v with|.slice none 0 0=> .full .z|_=> .uf)
 |.f n=> .fD n []
def VG (ρ:X->SD):List X->Option (List (Nat×Nat))
 |[]=>some []
 |x::xs=>(match ρ x with|.loc i off=>(VG ρ xs).bind fun r=>some ((i,off)::r)|_=>none)
abbrev Kn:=List ((Nat×Nat)×Bool)
def YE:Kn->Nat->Nat->Option Bool
 |[],_,_=>none
 |((i,j),b)::r,p,q=>if i=p/\j=q then some b else YE r p q
def Cz (kn:Kn) (d:SD) (k:Bool->Kn->Tree):Tree:=
 match d with
 |.a (.k (.bool b))=>k b kn
 |.a (.v i)=>(match YE kn i 0 with
  |some b=>k b kn
  |none=> .ite (.v i) (k true (((i,0),true)::kn)) (k false (((i,0),false)::kn)))
 |.a (.n i j)=>(match YE kn i (j+1) with
  |some b=>k b kn
  |none=> .ite (.n i j) (k true (((i,j+1),true)::kn)) (k false (((i,j+1),false)::kn)))
 |_=> .fail
def isZ:At->Bool
 |.z=>true
 |_=>false
def bD (σ:Sy) (n:Nat) (ρ:X->SD) (k:SD->Sy->Nat->Tree):Ins->Tree
 |.ZN x=>k (ρ x) σ n
 |.alloc zero=>k (.loc σ.nx 0) (σ.new (.box (zero.map abp))) n
 |.box x=>(match cellsS (ρ x) with
  |some ds=>k (.loc σ.nx 0) (σ.new (.box ds)) n
  |none=> .fail)
 |.build zero parts=>(match Ei ρ (zero.map abp) parts with
  |some ds=>k (.agg ds) σ n
  |none=> .fail)
 |.lits ay ety len zero parts=>(match (Ei ρ (Ib zero len) parts).bind fun ds=>JD σ.heap ds with
  |some (aY,us)=> .fG (.lits ay len aY) (k (.arr σ.nx) ((σ.upd us).new (.arr (.v n) ay ety false true)) (n+1))
  |none=> .fail)
 |.load agg size x=>(match ρ x with
  |.loc i off=>(match dm σ.heap i with
   |.box ds=>(match agg with
    |true=>if off+size<=ds.length then k (.agg ((ds.drop off).take size)) σ n else .fail
    |false=>(match ds[off]? with
     |some d=>k d σ n
     |none=> .fail))
   |_=> .fail)
  |.ptr r off ay=>(match agg with
   |true=>if off+size<=ay then k (.agg ((Cq r off size).map .a)) σ n else .fail
   |false=>if off < ay then k (.a (.n r off)) σ n else .fail)
  |.nY i x off=>(match dm σ.heap i with
   |.arr s ay _ _ _=>(match agg with
    |true=>if off+size<=ay then .row ay s x (k (.agg ((Cq n off size).map .a)) (σ.len n ay) (n+1)) else .fail
    |false=>if off < ay then .row ay s x (k (.a (.n n off)) (σ.len n ay) (n+1)) else .fail)
   |_=> .fail)
  |_=> .fail)
 |.store size a v=>(match ρ a with
  |.loc i off=>(match dm σ.heap i,cellsS (ρ v) with
   |.box ds,some xs=>if xs.length=size/\off+size<=ds.length then k .uf (σ.upd [(i,.box (splice ds off xs))]) n else .fail
   |_,_=> .fail)
  |.nY i x off=>(match VK σ.heap (ρ v) with
   |some (aY,us)=>(match dm (H9 σ.heap us) i with
    |.arr s ay ety false al=>if aY.length=size/\off+size<=ay then .fG (.set ay s x off aY) (k .uf (σ.upd (us++[(i,.arr (.v n) ay ety false al)])) (n+1)) else .fail
    |_=> .fail)
   |none=> .fail)
  |_=> .fail)
 |.GY x=>(match ρ x with
  |.loc i off=>k (.loc i off) σ n
  |.ptr r off ay=>k (.ptr r off ay) σ n
  |.nY i x off=>k (.nY i x off) σ n
  |_=> .fail)
 |.bin op K4 x y=>(match Cc (ρ x),Cc (ρ y) with
  |some a,some b=> .fG (.bin op K4 a b) (k (.a (.v n)) σ (n+1))
  |_,_=> .fail)
 |.eqs ks neg x y=>(match ρ x,ρ y with
  |.agg aY,.agg bs=>(match Ea aY,Ea bs with
   |some xs,some ys=> .fG (.eqs ks neg (JZ σ.lens xs) (JZ σ.lens ys)) (k (.a (.v n)) σ (n+1))
   |_,_=> .fail)
  |_,_=> .fail)
 |.un op x=>(match op,Cc (ρ x) with
  |.not,some (.k (.bool b))=>k (.a (.k (.bool !b))) σ n
  |op,some a=> .fG (.un op a) (k (.a (.v n)) σ (n+1))
  |_,none=> .fail)
 |.conv kd x=>(match Cc (ρ x) with
  |some a=> .fG (.conv kd a) (k (.a (.v n)) σ (n+1))
  |none=> .fail)
 |.toStr x=>(match agD σ.heap (ρ x) with
  |some a=> .fG (.toStr a) (k (.a (.v n)) σ (n+1))
  |none=> .fail)
 |.mk ay ety bytes zero l c=>(match Cc (ρ l),Cc (ρ c) with
  |some a,some b=> .fG (.mk ay bytes zero a b) (k (.arr σ.nx) (σ.new (.arr (.v n) ay ety false true)) (n+1))
  |_,_=> .fail)
 |.slc ay x lo hi=>(match I4 (lo.map ρ),I4 (hi.map ρ) with
  |some l,some h=>(match ρ x with
   |.a s=> .fG (.sub ay s l h) (k (.a (.v n)) σ (n+1))
   |.full s=> .fG (.sub ay s l h) (k (.a (.v n)) σ (n+1))
   |.arr i=>(match dm σ.heap i with
    |.arr s jW ety _ al=>if jW=ay then .fG (.sub ay s l h) (k (.view i (.v n)) (σ.upd [(i,.arr s ay ety true al)]) (n+1)) else .fail
    |_=> .fail)
   |_=> .fail)
  |_,_=> .fail)
 |.clip ay x lo hi mx=>(match A7 σ.heap (ρ x),I4 (lo.map ρ),Cc (ρ hi),Cc (ρ mx) with
  |some (s,us),some l,some a,some b=> .fG (.clip ay s l a b) (k (.full (.v n)) (σ.upd us) (n+1))
  |_,_,_,_=> .fail)
 |.sls x lo hi=>(match I4 (lo.map ρ),I4 (hi.map ρ),Cc (ρ x) with
  |some l,some h,some s=> .fG (.Mq s l h) (k (.a (.v n)) σ (n+1))
  |_,_,_=> .fail)
 |.Qa off x=>(match ρ x with
  |.loc i o=>k (.loc i (o+off)) σ n
  |.ptr r o ay=>k (.ptr r (o+off) ay) σ n
  |.nY i x o=>k (.nY i x (o+off)) σ n
  |_=> .fail)
 |.fld off agg size x=>(match ρ x with
  |.agg ds=>(match agg with
   |true=>if off+size<=ds.length then k (.agg ((ds.drop off).take size)) σ n else .fail
   |false=>(match ds[off]? with
    |some d=>k d σ n
    |none=> .fail))
  |_=> .fail)
 |.Iq ay x i=>(match Cc (ρ i) with
  |some a=>(match ρ x with
   |.a s=> .row ay s a (k (.ptr n 0 ay) (σ.len n ay) (n+1))
   |.full s=> .row ay s a (k (.ptr n 0 ay) (σ.len n ay) (n+1))
   |.arr i=>(match dm σ.heap i with
    |.arr s jW _ _ _=>if jW=ay then .row ay s a (k (.nY i a 0) (σ.len n ay) (n+1)) else .fail
    |_=> .fail)
   |_=> .fail)
  |none=> .fail)
 |.Ct x i=>(match Cc (ρ x),Cc (ρ i) with
  |some a,some b=> .fG (.Ct a b) (k (.a (.v n)) σ (n+1))
  |_,_=> .fail)
 |.ext x i=>(match ρ x with
  |.lC ds=>(match ds[i]? with
   |some d=>k d σ n
   |none=> .fail)
  |_=> .fail)
 |.len isStr x=>(match BQ σ.heap (ρ x) with
  |some a=> .fG (.len isStr a) (k (.a (.v n)) σ (n+1))
  |none=> .fail)
 |.app ay ety bytes x y=>(match lM σ.heap ay (ρ y) with
  |some t=>(match ρ x with
   |.full s=> .fG (.app ay bytes s t) (k (.arr σ.nx) (σ.new (.arr (.v n) ay ety (!isZ s) false)) (n+1))
   |.arr i=>(match dm σ.heap i with
    |.arr s jW mh fr al=>if jW=ay/\mh=ety then .fG (.app ay bytes s t) (k (.arr σ.nx) ((σ.upd [(i,.dead)]).new (.arr (.v n) ay ety fr al)) (n+1)) else .fail
    |_=> .fail)
   |_=> .fail)
  |none=> .fail)
 |.R6 ay x y=>(match lM σ.heap ay (ρ y),ρ x with
  |some t,.arr i=>(match dm σ.heap i with
   |.arr s jW ety false true=>if jW=ay then .fG (.R6 ay s t) (.fG (.cnt ay s t) (k (.a (.v (n+1))) (σ.upd [(i,.arr (.v n) ay ety false true)]) (n+2))) else .fail
   |_=> .fail)
  |_,_=> .fail)
 |.mx x y=>(match Cc (ρ x),Cc (ρ y) with
  |some a,some b=> .fG (.mm true a b) (k (.a (.v n)) σ (n+1))
  |_,_=> .fail)
 |.mn x y=>(match Cc (ρ x),Cc (ρ y) with
  |some a,some b=> .fG (.mm false a b) (k (.a (.v n)) σ (n+1))
  |_,_=> .fail)
 |.mkf f xs=>(match VG ρ xs with
  |some ls=>k (.fD f ls) σ n
  |none=> .fail)
 |_=> .fail
inductive CK where
 |c
 |d
 |full
 |own (ay ety:Nat) (fr al:Bool)
inductive RS where
 |one (k:CK)
 |agg (ks:List CK)
structure fC where
 params:List PS
 boxes:List Nat
 rs:List RS
 nat:Bool:=false
 code:Option Nat:=none
 alts:List Nat:=[]
def fC.cd (s:fC) (f:Nat):Nat:=s.code.getD f
def CK.isC:CK->Bool
 |.c=>true
 |_=>false
def CK.WC:CK->Bool
 |.c=>false
 |_=>true
def RS.isC:RS->Bool
 |.one k=>k.isC
 |.agg ks=>ks.all CK.isC
def RS.WC:RS->Bool
 |.one k=>k.WC
 |.agg ks=>ks.all CK.WC
def RS.shape:RS->Option Nat
 |.one _=>none
 |.agg ks=>some ks.length
def P5:List (Option Nat)->Nat->List SD×List (Nat×Nat)
 |[],_=>([],[])
 |none::ss,n=>match P5 ss (n+1) with|(ds,ls)=>(.a (.v n)::ds,ls)
 |some m::ss,n=>match P5 ss (n+1) with|(ds,ls)=>(.agg ((Cq n 0 m).map .a)::ds,(n,m)::ls)
def ZK:List SD->SD
 |[d]=>d
 |ds=> .lC ds
def Sy.I5 (σ:Sy) (l:List (Nat×Nat)):Sy:={ σ with lens:=l++σ.lens}
def Gm (sig:Nat->Option fC) (σ:Sy) (n:Nat) (f:Nat) (ds:List SD) (k:SD->Sy->Nat->Tree):Tree:=
 match sig f,Ia σ.lens σ.heap ds with
 |some s,some (vs,us)=>
  let sh:=s.rs.map RS.shape
  if s.code=none then
  (match P5 sh n with|(ds,ls)=> .call f (vs.map .v) [] sh [] (k (ZK ds) ((σ.upd us).I5 ls) (n+sh.length)))
  else .fail
 |_,_=> .fail
def ckS (σ:Sy) (x:At):CK->SD×Sy
 |.c=>(.a x,σ)
 |.d=>(.a x,σ)
 |.full=>(.full x,σ)
 |.own ay ety fr al=>(.arr σ.nx,σ.new (.arr x ay ety fr al))
def ZE (σ:Sy) (i:Nat):List CK->Nat->List SD×Sy
 |[],_=>([],σ)
 |c::cs,j=>match ckS σ (.n i j) c with|(d,σ)=>match ZE σ i cs (j+1) with|(ds,σ)=>(d::ds,σ)
def Py (σ:Sy):List RS->Nat->List SD×Sy
 |[],_=>([],σ)
 |.one c::ss,n=>match ckS σ (.v n) c with|(d,σ)=>match Py σ ss (n+1) with|(ds,σ)=>(d::ds,σ)
 |.agg cs::ss,n=>match ZE (σ.len n cs.length) n cs 0 with|(xs,σ)=>match Py σ ss (n+1) with|(ds,σ)=>(.agg xs::ds,σ)
def mH (σ:Sy):List Nat->List Nat->Nat->Sy
 |i::is,m::ms,n=>mH { σ with heap:=(i,.box ((Cq n 0 m).map .a))::σ.heap,lens:=(n,m)::σ.lens} is ms (n+1)
 |_,_,_=>σ
def abz (bx:List Nat):List (Nat×Nat)->List (Nat×Nat)->Bool
 |[],[]=>true
 |(b,o)::r,(i,o')::r'=>bx[b]?==some i && o'==o && abz bx r r'
 |_,_=>false
def Gr:List (Nat×Nat)->List (Nat×Nat)->Nat->Option Nat
 |(b',_)::r,(i,_)::r',b=>if b'=b then some i else Gr r r' b
 |_,_,_=>none
def Br (lens:List (Nat×Nat)) (h:List (Nat×SO)) (bx:List Nat):List PS->List SD->Option (List TA×List (Nat×SO))
 |[],[]=>some ([],[])
 |.ref b off::ps,.loc i o::ds=>if bx[b]?=some i/\o=off then (Br lens h bx ps ds).bind fun q=>some (.ref b off::q.1,q.2) else none
 |.ref _ _::_,_=>none
 |.fD g caps::ps,.fD g' jC::ds=>if g'=g/\abz bx caps jC=true then (Br lens h bx ps ds).bind fun q=>some (.ref 0 0::q.1,q.2) else none
 |.fD _ _::_,_=>none
 |_::ps,d::ds=>(GX lens h d).bind fun p=>(Br lens (H9 h p.2) bx ps ds).bind fun q=>some (.v p.1::q.1,p.2++q.2)
 |_,_=>none
def qc:List PS->List SD->Nat->Option Nat
 |.ref b' _::ps,.loc i _::ds,b=>if b'=b then some i else qc ps ds b
 |.fD _ caps::ps,.fD _ jC::ds,b=>(match Gr caps jC b with|some i=>some i|none=>qc ps ds b)
 |_::ps,_::ds,b=>qc ps ds b
 |_,_,_=>none
def Bj (ps:List PS) (ds:List SD):Nat->Nat->Option (List Nat)
 |_,0=>some []
 |b,m+1=>(qc ps ds b).bind fun i=>(Bj ps ds (b+1) m).bind fun is=>some (i::is)
def nodupB:List Nat->Bool
 |[]=>true
 |i::is=>!is.contains i && nodupB is
def su (lens:List (Nat×Nat)) (h:List (Nat×SO)):List Nat->List Nat->Option (List SL)
 |[],[]=>some []
 |i::is,m::ms=>(match dm h i with
  |.box ds=>(Ea ds).bind fun aY=>if aY.length=m then (su lens h is ms).bind fun r=>some (JZ lens aY::r) else none
  |_=>none)
 |_,_=>none
def Ye:List PS->List SD->Bool
 |[],[]=>true
 |.fD g caps::ps,.fD g' jC::ds=>g'==g && caps.length==jC.length && Ye ps ds
 |.fD _ _::_,_=>false
 |_::_,.fD _ _::_=>false
 |_::ps,_::ds=>Ye ps ds
 |_,_=>false
def acY (sig:Nat->Option fC) (f:Nat) (ds:List SD):List Nat->Nat
 |[]=>f
 |g::gs=>(match sig g with
  |some s=>if Ye s.params ds then g else acY sig f ds gs
  |none=>acY sig f ds gs)
def keyOf (sig:Nat->Option fC) (f:Nat) (ds:List SD):Nat:=
 match sig f with
 |some s=>acY sig f ds s.alts
 |none=>f
def F5 (sig:Nat->Option fC) (own:Bool) (σ:Sy) (n:Nat) (f g:Nat) (ds:List SD) (k:SD->Sy->Nat->Tree):Tree:=
 match sig g with
 |some s=>if s.nat=true\/s.cd g≠f then .fail else if (if own then s.rs.all RS.WC else s.rs.all RS.isC) then (match Bj s.params ds 0 s.boxes.length with
  |some bx=>if nodupB bx then (match Br σ.lens σ.heap bx s.params ds with
   |some (aY,us)=>(match su σ.lens (H9 σ.heap us) bx s.boxes with
    |some bs=>
     let sh:=s.rs.map RS.shape
     let σ1:=mH (σ.upd us) bx s.boxes (n+sh.length)
     (match Py σ1 s.rs n with|(ds,σ2)=> .call g aY bs sh s.boxes (k (ZK ds) σ2 (n+sh.length+s.boxes.length)))
    |none=> .fail)
   |none=> .fail) else .fail
  |none=> .fail) else .fail
 |none=> .fail
def Uh (sig:Nat->Option fC) (own:Bool) (σ:Sy) (n:Nat) (f:Nat) (ds:List SD) (k:SD->Sy->Nat->Tree):Tree:=
 F5 sig own σ n f (keyOf sig f ds) ds k
def nR:Nat->List PS->Option Nat
 |b,[]=>some b
 |b,.ref q off::ps=>if q=b/\off=0 then nR (b+1) ps else none
 |b,.one::ps=>nR b ps
 |b,.agg _::ps=>nR b ps
 |_,.fD _ _::_=>none
def Sa (sig:Nat->Option fC) (σ:Sy) (n:Nat) (f:Nat) (ds:List SD) (k:SD->Sy->Nat->Tree):Tree:=
 match sig f with
 |some s=>if nR 0 s.params=some s.boxes.length then F5 sig false σ n f f ds k else .fail
 |none=> .fail
def Ke (σ:Sy) (kn:Kn) (g:Option (Nat×Bool)) (k:Bool->Kn->Tree):Tree:=
 match g with
 |none=>k true kn
 |some (t,want)=>(match Bn σ.env t with
  |.lC []=>k false kn
  |d=>Cz kn d fun b kn=>k (b==want) kn)
def qK (sig:Nat->Option fC) (k:Sy->Nat->Kn->Tree):List jl->Sy->Nat->Kn->Tree
 |[],σ,n,kn=>k σ n kn
 |i::is,σ,n,kn=>Ke σ kn i.guard fun w kn=>
  match w with
  |false=>qK sig k is (σ.put i.dst (.lC [])) n kn
  |true=>match i.ins with
   |.pick c a b=>Cz kn (xS σ c) fun t kn=>qK sig k is (σ.put i.dst (xS σ (if t then a else b))) n kn
   |.call f xs=>Gm sig σ n f (xs.map (xS σ)) fun d σ n=>qK sig k is (σ.put i.dst d) n kn
   |.jB f own xs=>if own=2 then .fail else Uh sig (own !=0) σ n f (xs.map (xS σ)) fun d σ n=>qK sig k is (σ.put i.dst d) n kn
   |.kX x xs=>(match xS σ x with
    |.fD f caps=>Uh sig false σ n f (xs.map (xS σ)++caps.map fun p=> .loc p.1 p.2) fun d σ n=>qK sig k is (σ.put i.dst d) n kn
    |_=> .fail)
   |ins=>bD σ n (xS σ) (fun d σ n=>qK sig k is (σ.put i.dst d) n kn) ins
def Un:SD->List Nat
 |.arr i=>[i]
 |.view i _=>[i]
 |_=>[]
def zO:SD->List Nat
 |.agg ds=>ds.flatMap Un
 |d=>Un d
def nG (d:SD):List Nat:=match d with|.loc i _=>[i]|d=>zO d
def jF (ρ:X->SD):Ins->List Nat
 |.load _ _ x=>(match ρ x with|.loc i _=>[i]|.nY i _ _=>[i]|_=>[])
 |.store _ a v=>(match ρ a with|.loc i _=>[i]|.nY i _ _=>[i]|_=>[])++zO (ρ v)
 |.lits _ _ _ _ ps=>ps.flatMap fun p=>zO (ρ p.2.2)
 |.toStr x=>zO (ρ x)
 |.slc _ x _ _=>zO (ρ x)
 |.clip _ x _ _ _=>zO (ρ x)
 |.Iq _ x _=>zO (ρ x)
 |.app _ _ _ x y=>zO (ρ x)++zO (ρ y)
 |.R6 _ x y=>zO (ρ x)++zO (ρ y)
 |.call _ xs=>xs.flatMap fun x=>zO (ρ x)
 |.mV _ xs=>xs.flatMap fun x=>nG (ρ x)
 |_=>[]
def LC:Ins->Bool
 |.load _ _ _|.toStr _|.slc _ _ _ _|.Iq _ _ _=>true
 |_=>false
def Wx (ρ:X->SD) (i:Ins):List Nat:=if LC i then [] else jF ρ i
def FZ (nx nx':Nat) (ts:List Nat):List Nat:=ts++(List.range (nx' - nx)).map (nx+·)
def xu (sig:Nat->Option fC) (k:Sy->Nat->Kn->List Trace->Tree):List jl->Sy->Nat->Kn->List Trace->Tree
 |[],σ,n,kn,ts=>k σ n kn ts
 |i::is,σ,n,kn,ts=>Ke σ kn i.guard fun w kn=>
  let gt:List Nat:=match i.guard with|some (t,_)=>[t]|none=>[]
  match w with
  |false=>xu sig k is (σ.put i.dst (.lC [])) n kn (ts++[⟨gt,i.dst.toList,[],[]⟩])
  |true=>
   let go:=fun (d:SD) (σ':Sy) (n:Nat) (kn:Kn)=>xu sig k is (σ'.put i.dst d) n kn
    (ts++[⟨gt++Bo (nM i.ins),i.dst.toList,jF (xS σ) i.ins,FZ σ.nx σ'.nx (Wx (xS σ) i.ins)⟩])
   match i.ins with
   |.pick c a b=>Cz kn (xS σ c) fun t kn=>go (xS σ (if t then a else b)) σ n kn
   |.call f xs=>Gm sig σ n f (xs.map (xS σ)) fun d σ n=>go d σ n kn
   |.jB _ _ _=> .fail
   |.kX _ _=> .fail
   |.mV f xs=>Sa sig σ n f (xs.map (xS σ)) fun d σ n=>go d σ n kn
   |ins=>bD σ n (xS σ) (fun d σ n=>go d σ n kn) ins
inductive Sh where
 |uf
 |a
 |full
 |loc (i off:Nat)
 |arr (i:Nat)
 |fD (f:Nat) (caps:List (Nat×Nat))
 |abZ (m:Nat)
 |agg (ds:List Sh)
inductive NF where
 |mH (m:Nat)
 |box (ds:List Sh)
 |arr (ay ety:Nat) (fr al:Bool)
structure HS where
 p:List Nat
 env:List (Nat×Sh)
 heap:List NF
end Go.Ey
