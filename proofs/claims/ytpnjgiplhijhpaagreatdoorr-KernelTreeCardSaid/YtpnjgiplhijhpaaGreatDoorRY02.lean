/- A part. -/
import Derived.Test.YtpnjgiplhijhpaaGreatDoorRY01
set_option linter.all false
namespace Go.Ey
inductive W where
 |c (x:C)
 |l (xs:List C)
def eu:List W->Nat->Option W
 |[],_=>none
 |w::_,0=>some w
 |_::r,i+1=>eu r i
def bG:List C->Nat->C
 |[],_=> .lit (.bool false)
 |x::_,0=>x
 |_::r,i+1=>bG r i
inductive At where
 |v (i:Nat)
 |n (i j:Nat)
 |k (v:Value)
 |z
def aV (ρ:List W):At->Option C
 |.v i=>(match eu ρ i with|some (.c x)=>some x|_=>none)
 |.n i j=>(match eu ρ i with|some (.l xs)=>some (bG xs j)|_=>none)
 |.k v=>some (.lit v)
 |.z=>some (.slice [] 0)
def iM (ρ:List W):List At->Option (List C)
 |[]=>some []
 |a::ax=>(aV ρ a).bind fun x=>(iM ρ ax).bind fun xs=>some (x::xs)
def BJ (ρ:List W):Option At->Option (Option C)
 |none=>some none
 |some a=>(aV ρ a).bind fun x=>some (some x)
inductive SL where
 |lit (ax:List At)
 |all (i:Nat)
def Dn (ρ:List W):SL->Option (List C)
 |.lit ax=>iM ρ ax
 |.all i=>(match eu ρ i with|some (.l xs)=>some xs|_=>none)
def uz (ρ:List W):List SL->Option (List (List C))
 |[]=>some []
 |s::ss=>(Dn ρ s).bind fun x=>(uz ρ ss).bind fun xs=>some (x::xs)
def pM (n:Int):C:=.lit (.int .i64 n)
def eG (op:BinOp) (oC:Bool):C->C->Option C
 |.lit x,.lit y=>(if oC then uu op x y else iL op x y).bind fun v=>some (.lit v)
 |_,_=>none
def YL (op:UnOp):C->Option C
 |.lit x=>(O7 op x).bind fun v=>some (.lit v)
 |_=>none
def Qy (k:IntKind):C->Option C
 |.lit (.int _ n)=>some (.lit (.int k (k.wrap n)))
 |_=>none
def yw:List Nat->List C->List C->Option Bool
 |[],[],[]=>some true
 |k::ks,a::ax,b::bs=>(Mv k a b).bind fun x=>(yw ks ax bs).bind fun y=>some (x && y)
 |_,_,_=>none
def Nb (ks:List Nat) (neg:Bool) (ax bs:List C):Option C:=(yw ks ax bs).bind fun b=>some (.lit (.bool (if neg then !b else b)))
def oh (isStr:Bool):C->Option C
 |.slice _ n=>if isStr then none else some (pM n)
 |.lit (.string s)=>if isStr then some (pM s.size) else none
 |_=>none
def Bq (aa:Nat):C->Option (List C×Nat)
 |.slice cs n=>if cs.length=n * aa then some (cs,n) else none
 |.lit (.string s)=>if aa=1 then some (s.data.toList.map fun b=> .lit (.int .u8 b.toNat),s.size) else none
 |_=>none
def BK (aa bytes:Nat) (t:C):C->Option C
 |.slice ds m=>(Bq aa t).bind fun p=>
   if p.1.length=p.2 * aa/\ds.length=m * aa/\(m+p.2) * bytes<=aD/\0 < aa/\m+p.2<=aD then some (.slice (ds++p.1) (m+p.2)) else none
 |_=>none
def tO (aa:Nat):C->C->Option (List C)
 |.slice cs n,.lit (.int _ k)=>if 0<=k/\k < n/\(k.toNat+1) * aa<=cs.length then some ((cs.drop (k.toNat * aa)).take aa) else none
 |_,_=>none
def Yk (aa:Nat) (off:Nat) (vs:List C):C->C->Option C
 |.slice cs n,.lit (.int _ k)=>if 0<=k/\k < n/\off+vs.length<=aa/\cs.length=n * aa then some (.slice (splice cs (k.toNat * aa+off) vs) n) else none
 |_,_=>none
def VA:Option C->Option Nat
 |none=>some 0
 |some (.lit (.int _ n))=>if 0<=n then some n.toNat else none
 |_=>none
def RV (len:Nat):Option C->Option Nat
 |none=>some len
 |some (.lit (.int _ n))=>if 0<=n then some n.toNat else none
 |_=>none
def yz (aa:Nat) (lo hi:Option C):C->Option C
 |.slice cs n=>(VA lo).bind fun l=>(RV n hi).bind fun r=>if l<=r/\r<=n then some (.slice ((cs.drop (l * aa)).take ((r - l) * aa)) (r - l)) else none
 |_=>none
def QU (aa:Nat) (lo:Option C):C->C->C->Option C
 |.lit (.int _ a),.lit (.int _ b),s=>if a=b then yz aa lo (some (.lit (.int .i64 a))) s else none
 |_,_,_=>none
def Qj (lo hi:Option C):C->Option C
 |.lit (.string s)=>(VA lo).bind fun l=>(RV s.size hi).bind fun r=>if l<=r/\r<=s.size then some (.lit (.string (s.extract l r))) else none
 |_=>none
def Ow:C->C->Option C
 |.lit (.string s),.lit (.int _ n)=>if 0<=n then (s.data[n.toNat]?).bind fun b=>some (.lit (.int .u8 b.toNat)) else none
 |_,_=>none
def D7:C->Option C
 |.slice cs n=>(bytesOf cs).bind fun bs=>if cs.length=n then some (.lit (.string ⟨bs.toArray⟩)) else none
 |_=>none
def mkC (aa bytes:Nat) (zero:List Value):C->C->Option C
 |.lit (.int _ n),.lit (.int _ m)=>if 0<=n/\n<=m/\m.toNat * bytes<=aD/\m.toNat<=aD/\zero.length=aa/\0 < aa then some (.slice (zeros zero n.toNat) n.toNat) else none
 |_,_=>none
def Zj (aa:Nat) (t:C):C->Option C
 |.slice xs len=>(Bq aa t).bind fun p=>if p.1.length=p.2 * aa/\xs.length=len * aa then some (.slice (splice xs 0 (p.1.take (min p.2 len * aa))) len) else none
 |_=>none
def aaq (aa:Nat) (t:C):C->Option C
 |.slice _ len=>(Bq aa t).bind fun p=>some (pM (min p.2 len:Nat))
 |_=>none
def YE (isMax:Bool):C->C->Option C
 |.lit x,.lit y=>(lF isMax x y).bind fun v=>some (.lit v)
 |_,_=>none
def qg (aa len:Nat) (xs:List C):Option C:=if xs.length=len * aa/\len<=aD/\0 < aa then some (.slice xs len) else none
def tQ {α:Type} (c:C) (t e:Option α):Option α:=
 match c with
 |.lit (.bool true)=>t
 |.lit (.bool false)=>e
 |_=>none
inductive OpC where
 |bin (op:BinOp) (oC:Bool) (a b:At)
 |un (op:UnOp) (a:At)
 |conv (k:IntKind) (a:At)
 |eqs (ks:List Nat) (neg:Bool) (ax bs:SL)
 |len (isStr:Bool) (a:At)
 |app (aa bytes:Nat) (s t:At)
 |set (aa:Nat) (s i:At) (off:Nat) (vs:List At)
 |sub (aa:Nat) (s:At) (lo hi:Option At)
 |clip (aa:Nat) (s:At) (lo:Option At) (hi mx:At)
 |GU (s:At) (lo hi:Option At)
 |nM (s i:At)
 |toStr (s:At)
 |mk (aa bytes:Nat) (zero:List Value) (l c:At)
 |EZ (aa:Nat) (d s:At)
 |cnt (aa:Nat) (d s:At)
 |mm (isMax:Bool) (a b:At)
 |lits (aa len:Nat) (xs:List At)
def bB (ρ:List W):OpC->Option C
 |.bin op oC a b=>(aV ρ a).bind fun x=>(aV ρ b).bind fun y=>eG op oC x y
 |.un op a=>(aV ρ a).bind fun x=>YL op x
 |.conv k a=>(aV ρ a).bind fun x=>Qy k x
 |.eqs ks neg ax bs=>(Dn ρ ax).bind fun xs=>(Dn ρ bs).bind fun ys=>Nb ks neg xs ys
 |.len b a=>(aV ρ a).bind fun x=>oh b x
 |.app aa bytes s t=>(aV ρ s).bind fun x=>(aV ρ t).bind fun y=>BK aa bytes y x
 |.set aa s i off vs=>(aV ρ s).bind fun x=>(aV ρ i).bind fun y=>(iM ρ vs).bind fun zs=>Yk aa off zs x y
 |.sub aa s lo hi=>(aV ρ s).bind fun x=>(BJ ρ lo).bind fun l=>(BJ ρ hi).bind fun h=>yz aa l h x
 |.clip aa s lo hi mx=>(aV ρ s).bind fun x=>(BJ ρ lo).bind fun l=>(aV ρ hi).bind fun a=>(aV ρ mx).bind fun b=>QU aa l a b x
 |.GU s lo hi=>(aV ρ s).bind fun x=>(BJ ρ lo).bind fun l=>(BJ ρ hi).bind fun h=>Qj l h x
 |.nM s i=>(aV ρ s).bind fun x=>(aV ρ i).bind fun y=>Ow x y
 |.toStr s=>(aV ρ s).bind fun x=>D7 x
 |.mk aa bytes zero l c=>(aV ρ l).bind fun x=>(aV ρ c).bind fun y=>mkC aa bytes zero x y
 |.EZ aa d s=>(aV ρ d).bind fun x=>(aV ρ s).bind fun y=>Zj aa y x
 |.cnt aa d s=>(aV ρ d).bind fun x=>(aV ρ s).bind fun y=>aaq aa y x
 |.mm isMax a b=>(aV ρ a).bind fun x=>(aV ρ b).bind fun y=>YE isMax x y
 |.lits aa len xs=>(iM ρ xs).bind fun ys=>qg aa len ys
inductive TV where
 |one (a:At)
 |agg (s:SL)
inductive TA where
 |v (x:TV)
 |ref (b off:Nat)
inductive TW where
 |c (a:At)
 |l (s:SL)
inductive LA where
 |v (x:V)
 |ref (b off:Nat)
abbrev R:=List V×List (List C)
abbrev uL:=Nat->List LA->List (List C)->Option R
abbrev wu:=Nat->List W->Option R
inductive Tree where
 |aY (o:OpC) (t:Tree)
 |row (aa:Nat) (s i:At) (t:Tree)
 |ite (a:At) (t e:Tree)
 |call (f:Nat) (args:List TA) (bs:List SL) (rs:List (Option Nat)) (bl:List Nat) (t:Tree)
 |goto (h:Nat) (args:List TW)
 |ret (rs:List TV) (bs:List SL)
 |fail
def Kl (ρ:List W):TV->Option V
 |.one a=>(aV ρ a).bind fun x=>some (.one x)
 |.agg s=>(Dn ρ s).bind fun x=>some (.agg x)
def tq (ρ:List W):List TV->Option (List V)
 |[]=>some []
 |s::ss=>(Kl ρ s).bind fun x=>(tq ρ ss).bind fun xs=>some (x::xs)
def NG (ρ:List W):TA->Option LA
 |.v x=>(Kl ρ x).bind fun y=>some (.v y)
 |.ref b off=>some (.ref b off)
def jY (ρ:List W):List TA->Option (List LA)
 |[]=>some []
 |s::ss=>(NG ρ s).bind fun x=>(jY ρ ss).bind fun xs=>some (x::xs)
def VG (ρ:List W):TW->Option W
 |.c a=>(aV ρ a).bind fun x=>some (.c x)
 |.l s=>(Dn ρ s).bind fun x=>some (.l x)
def gy (ρ:List W):List TW->Option (List W)
 |[]=>some []
 |s::ss=>(VG ρ s).bind fun x=>(gy ρ ss).bind fun xs=>some (x::xs)
def getOne (vs:List V) (j:Nat):Option C:=match vs[j]? with|some (.one c)=>some c|_=>none
def zx (vs:List V) (j m:Nat):Option (List C):=match vs[j]? with|some (.agg xs)=>if xs.length=m then some xs else none|_=>none
def EN (bs:List (List C)) (j m:Nat):Option (List C):=match bs[j]? with|some xs=>if xs.length=m then some xs else none|_=>none
def cZ {α:Type} (vs:List V) (k:List W->Option α):List (Option Nat)->Nat->List W->Option α
 |[],_,ρ=>k ρ
 |none::ss,j,ρ=>(getOne vs j).bind fun c=>cZ vs k ss (j+1) (ρ++[.c c])
 |some m::ss,j,ρ=>(zx vs j m).bind fun xs=>cZ vs k ss (j+1) (ρ++[.l xs])
def eF {α:Type} (bs:List (List C)) (k:List W->Option α):List Nat->Nat->List W->Option α
 |[],_,ρ=>k ρ
 |m::ms,j,ρ=>(EN bs j m).bind fun xs=>eF bs k ms (j+1) (ρ++[.l xs])
def sized {α:Type} (r:R) (a b:Nat) (k:Option α):Option α:=if r.1.length=a/\r.2.length=b then k else none
def az (call:uL) (head:wu):Tree->List W->Option R
 |.aY o t,ρ=>(bB ρ o).bind fun c=>az call head t (ρ++[.c c])
 |.row aa s i t,ρ=>((aV ρ s).bind fun x=>(aV ρ i).bind fun y=>tO aa x y).bind fun xs=>az call head t (ρ++[.l xs])
 |.ite a t e,ρ=>(aV ρ a).bind fun c=>tQ c (az call head t ρ) (az call head e ρ)
 |.call f args bs rs bl t,ρ=>(jY ρ args).bind fun ax=>(uz ρ bs).bind fun xs=>(call f ax xs).bind fun r=>
   sized r rs.length bl.length (cZ r.1 (fun ρ=>eF r.2 (fun ρ=>az call head t ρ) bl 0 ρ) rs 0 ρ)
 |.goto h args,ρ=>(gy ρ args).bind fun ws=>head h ws
 |.ret rs bs,ρ=>(tq ρ rs).bind fun vs=>(uz ρ bs).bind fun xs=>some (vs,xs)
 |.fail,_=>none
inductive PS where
 |one
 |agg (m:Nat)
 |ref (b off:Nat)
 |bJ (f:Nat) (caps:List (Nat×Nat))
structure pJ where
 params:List PS
 boxes:List Nat
 body:Tree
 heads:List Tree
def aK {α:Type} (k:List W->Option α):List PS->List LA->List W->Option α
 |[],[],ρ=>k ρ
 |.one::ps,.v (.one c)::ax,ρ=>aK k ps ax (ρ++[.c c])
 |.agg m::ps,.v (.agg xs)::ax,ρ=>if xs.length=m then aK k ps ax (ρ++[.l xs]) else none
 |.ref b o::ps,.ref b' o'::ax,ρ=>if b=b'/\o=o' then aK k ps ax ρ else none
 |.bJ _ _::ps,.ref b' o'::ax,ρ=>if b'=0/\o'=0 then aK k ps ax ρ else none
 |_,_,_=>none
def di {α:Type} (k:List W->Option α):List Nat->List (List C)->List W->Option α
 |[],[],ρ=>k ρ
 |m::ms,xs::bs,ρ=>if xs.length=m then di k ms bs (ρ++[.l xs]) else none
 |_,_,_=>none
def rZ (call:uL) (head:wu) (tf:pJ) (ax:List LA) (bs:List (List C)):Option R:=
 aK (fun ρ=>di (fun ρ=>az call head tf.body ρ) tf.boxes bs ρ) tf.params ax []
structure GT where
 fn:Nat->Option pJ
 nat:uL
mutual
def runT (G:GT):Nat->uL
 |0,_,_,_=>none
 |n+1,f,ax,bs=>match G.fn f with|some tf=>rZ (runT G n) (gT G n f) tf ax bs|none=>G.nat f ax bs
def gT (G:GT):Nat->Nat->wu
 |0,_,_,_=>none
 |n+1,f,h,ws=>(G.fn f).bind fun tf=>(tf.heads[h]?).bind fun t=>az (runT G n) (gT G n f) t ws
end
def Le {α:Type} (a b:Option α):Prop:=∀r,a=some r->b=some r
theorem Le.refl {α:Type} (a:Option α):Le a a:=fun _ h=>h
theorem Le.bind {α β:Type} {a b:Option α} {f g:α->Option β} (h:Le a b) (hf:∀x,Le (f x) (g x)):Le (a.bind f) (b.bind g):=by
 intro r hr;cases ha:a with
 |none=>rw [ha] at hr;cases hr
 |some x=>rw [ha] at hr;rw [h x ha];exact hf x r hr
theorem Le.cZ {α:Type} {vs:List V} {k k':List W->Option α} (h:∀ρ,Le (k ρ) (k' ρ)):∀(ss:List (Option Nat)) (j:Nat) (ρ:List W),Le (cZ vs k ss j ρ) (cZ vs k' ss j ρ)
 |[],_,ρ=>h ρ
 |none::ss,j,ρ=>Le.bind (Le.refl _) fun c=>Le.cZ h ss (j+1) _
 |some _::ss,j,ρ=>Le.bind (Le.refl _) fun c=>Le.cZ h ss (j+1) _
theorem Le.eF {α:Type} {bs:List (List C)} {k k':List W->Option α} (h:∀ρ,Le (k ρ) (k' ρ)):∀(ss:List Nat) (j:Nat) (ρ:List W),Le (eF bs k ss j ρ) (eF bs k' ss j ρ)
 |[],_,ρ=>h ρ
 |_::ss,j,ρ=>Le.bind (Le.refl _) fun c=>Le.eF h ss (j+1) _
theorem Le.aK {α:Type} {k k':List W->Option α} (h:∀ρ,Le (k ρ) (k' ρ)):∀(ps:List PS) (ax:List LA) (ρ:List W),Le (aK k ps ax ρ) (aK k' ps ax ρ):=by
 intro ps;induction ps with
 |nil=>intro ax ρ;cases ax with
  |nil=>exact h ρ
  |cons _ _=>exact Le.refl _
 |cons p ps ih=>
  intro ax ρ;cases ax with
  |nil=>cases p<;>exact Le.refl _
  |cons a ax=>
   cases p with
   |one=>cases a with
    |v x=>cases x with
     |one c=>exact ih ax _
     |agg xs=>exact Le.refl _
     |full _ _=>exact Le.refl _
    |ref b o=>exact Le.refl _
   |agg m=>cases a with
    |v x=>cases x with
     |one c=>exact Le.refl _
     |agg xs=>simp only [Ey.aK];split<;>first|exact ih ax _|exact Le.refl _
     |full _ _=>exact Le.refl _
    |ref b o=>exact Le.refl _
   |ref b o=>cases a with
    |v x=>exact Le.refl _
    |ref b' o'=>simp only [Ey.aK];split<;>first|exact ih ax _|exact Le.refl _
   |bJ g cs=>cases a with
    |v x=>exact Le.refl _
    |ref b' o'=>simp only [Ey.aK];split<;>first|exact ih ax _|exact Le.refl _
theorem Le.di {α:Type} {k k':List W->Option α} (h:∀ρ,Le (k ρ) (k' ρ)):∀(ms:List Nat) (bs:List (List C)) (ρ:List W),Le (di k ms bs ρ) (di k' ms bs ρ)
 |[],[],ρ=>h ρ
 |[],_::_,_=>Le.refl _
 |_::_,[],_=>Le.refl _
 |m::ms,xs::bs,ρ=>by simp only [Ey.di];split<;>first|exact Le.di h ms bs _|exact Le.refl _
theorem Le.tQ {α:Type} {c:C} {t t' e e':Option α} (h1:Le t t') (h2:Le e e'):Le (tQ c t e) (tQ c t' e'):=by
 unfold Ey.tQ;split
 ·exact h1
 ·exact h2
 ·exact Le.refl _
theorem gN {call call':uL} {head head':wu} (hc:∀f ax bs,Le (call f ax bs) (call' f ax bs)) (hh:∀h ws,Le (head h ws) (head' h ws)):∀(t:Tree) (ρ:List W),Le (az call head t ρ) (az call' head' t ρ)
 |.aY o t,ρ=>Le.bind (Le.refl _) fun c=>gN hc hh t _
 |.row aa s i t,ρ=>Le.bind (Le.refl _) fun c=>gN hc hh t _
 |.ite a t e,ρ=>Le.bind (Le.refl _) fun c=>Le.tQ (gN hc hh t ρ) (gN hc hh e ρ)
 |.call f args bs rs bl t,ρ=>by
  refine Le.bind (Le.refl _) fun ax=>Le.bind (Le.refl _) fun xs=>Le.bind (hc _ _ _) fun r=>?_
  unfold sized;split
  ·exact Le.cZ (fun ρ=>Le.eF (fun ρ=>gN hc hh t ρ) _ _ _) _ _ _
  ·exact Le.refl _
 |.goto h args,ρ=>Le.bind (Le.refl _) fun ws=>hh h ws
 |.ret rs bs,ρ=>Le.refl _
 |.fail,ρ=>Le.refl _
theorem Bp (G:GT):∀n,(∀f ax bs,Le (runT G n f ax bs) (runT G (n+1) f ax bs))/\(∀f h ws,Le (gT G n f h ws) (gT G (n+1) f h ws))
 |0=>⟨fun f ax bs r h=>by simp [runT] at h,fun f h ws r hh=>by simp [gT] at hh⟩
 |n+1=>by
  obtain ⟨h1,h2⟩:=Bp G n;refine ⟨fun f ax bs=>?_,fun f h ws=>?_⟩
  ·rw [runT,runT];split
   case h_2=>exact Le.refl _
   exact Le.aK (fun ρ=>Le.di (fun ρ=>gN h1 (h2 f) _ _) _ _ _) _ _ _
  ·rw [gT,gT];exact Le.bind (Le.refl _) fun tf=>Le.bind (Le.refl _) fun t=>gN h1 (h2 f) _ _
theorem LQ {G:GT} {n n':Nat} (h:n<=n') (f:Nat) (ax:List LA) (bs:List (List C)):Le (runT G n f ax bs) (runT G n' f ax bs):=by
 induction h with
 |refl=>exact Le.refl _
 |step _ ih=>exact fun r hr=>(Bp G _).1 f ax bs r (ih r hr)
theorem Hq {G:GT} {n n':Nat} (h:n<=n') (f i:Nat) (ws:List W):Le (gT G n f i ws) (gT G n' f i ws):=by
 induction h with
 |refl=>exact Le.refl _
 |step _ ih=>exact fun r hr=>(Bp G _).2 f i ws r (ih r hr)
open Classical in
noncomputable def lim {α:Type} (g:Nat->Option α):Option α:=if h:∃n a,g n=some a then some h.choose_spec.choose else none
theorem Py {α:Type} {g:Nat->Option α} (hm:∀n n',n<=n'->Le (g n) (g n')) {n:Nat} {a:α} (h:g n=some a):lim g=some a:=by have hx:∃n a,g n=some a:=⟨n,a,h⟩;unfold lim;rw [dif_pos hx];have h2:=hx.choose_spec.choose_spec;have h3:=hm _ _ (Nat.le_max_left n hx.choose) a h;have h4:=hm _ _ (Nat.le_max_right n hx.choose) _ h2;rw [h3] at h4;exact h4.symm
theorem KI {α:Type} {g:Nat->Option α} {a:α} (h:lim g=some a):∃n,g n=some a:=by
 unfold lim at h;split at h
 ·rename_i hx;simp only [Option.some.injEq] at h;exact ⟨hx.choose,h▸hx.choose_spec.choose_spec⟩
 ·cases h
noncomputable def kL (G:GT):uL:=fun f ax bs=>lim fun n=>runT G n f ax bs
noncomputable def uh (G:GT) (f:Nat):wu:=fun h ws=>lim fun n=>gT G n f h ws
variable {G:GT}
theorem Es {n f:Nat} {ax:List LA} {bs:List (List C)} {r:R} (h:runT G n f ax bs=some r):kL G f ax bs=some r:=Py (fun _ _ hn=>LQ hn f ax bs) h
theorem Ka {n f i:Nat} {ws:List W} {r:R} (h:gT G n f i ws=some r):uh G f i ws=some r:=Py (fun _ _ hn=>Hq hn f i ws) h
theorem EP {f:Nat} {ax:List LA} {bs:List (List C)} {r:R} (h:kL G f ax bs=some r):∃n,runT G n f ax bs=some r:=KI h
theorem Ko {f i:Nat} {ws:List W} {r:R} (h:uh G f i ws=some r):∃n,gT G n f i ws=some r:=KI h
def Ev {α:Type} (a:Option α) (g:Nat->Option α):Prop:=∀r,a=some r->∃n0,∀n,n0<=n->g n=some r
theorem Ev.const {α:Type} (a:Option α):Ev a fun _=>a:=fun _ h=>⟨0,fun _ _=>h⟩
theorem Ev.bind {α β:Type} {a:Option α} {g:Nat->Option α} {f:α->Option β} {k:Nat->α->Option β} (h:Ev a g) (hf:∀x,Ev (f x) fun n=>k n x):Ev (a.bind f) fun n=>(g n).bind (k n):=by
 intro r hr;cases ha:a with
 |none=>rw [ha] at hr;cases hr
 |some x=>
  rw [ha] at hr;obtain ⟨n1,h1⟩:=h x ha;obtain ⟨n2,h2⟩:=hf x r hr;refine ⟨max n1 n2,fun n hn=>?_⟩
  show (g n).bind (k n)=some r
  rw [h1 n (by omega)]
  exact h2 n (by omega)
theorem Ev.cZ {α:Type} {vs:List V} {k:List W->Option α} {k':Nat->List W->Option α} (h:∀ρ,Ev (k ρ) fun n=>k' n ρ):∀(ss:List (Option Nat)) (j:Nat) (ρ:List W),Ev (Ey.cZ vs k ss j ρ) fun n=>Ey.cZ vs (k' n) ss j ρ
 |[],_,ρ=>h ρ
 |none::ss,j,ρ=>Ev.bind (Ev.const _) fun c=>Ev.cZ h ss (j+1) _
 |some _::ss,j,ρ=>Ev.bind (Ev.const _) fun c=>Ev.cZ h ss (j+1) _
theorem Ev.eF {α:Type} {bs:List (List C)} {k:List W->Option α} {k':Nat->List W->Option α} (h:∀ρ,Ev (k ρ) fun n=>k' n ρ):∀(ss:List Nat) (j:Nat) (ρ:List W),Ev (Ey.eF bs k ss j ρ) fun n=>Ey.eF bs (k' n) ss j ρ
 |[],_,ρ=>h ρ
 |_::ss,j,ρ=>Ev.bind (Ev.const _) fun c=>Ev.eF h ss (j+1) _
theorem Ev.tQ {α:Type} {c:C} {t e:Option α} {t' e':Nat->Option α} (h1:Ev t t') (h2:Ev e e'):Ev (Ey.tQ c t e) fun n=>Ey.tQ c (t' n) (e' n):=by
 unfold Ey.tQ;split
 ·exact h1
 ·exact h2
 ·exact fun r h=>by cases h
theorem og {call:uL} {head:wu} {call':Nat->uL} {head':Nat->wu} (hc:∀f ax bs,Ev (call f ax bs) fun n=>call' n f ax bs) (hh:∀h ws,Ev (head h ws) fun n=>head' n h ws):
  ∀(t:Tree) (ρ:List W),Ev (az call head t ρ) fun n=>az (call' n) (head' n) t ρ
 |.aY o t,ρ=>Ev.bind (Ev.const _) fun c=>og hc hh t _
 |.row aa s i t,ρ=>Ev.bind (Ev.const _) fun c=>og hc hh t _
 |.ite a t e,ρ=>Ev.bind (Ev.const _) fun c=>Ev.tQ (og hc hh t ρ) (og hc hh e ρ)
 |.call f args bs rs bl t,ρ=>by
  refine Ev.bind (Ev.const _) fun ax=>Ev.bind (Ev.const _) fun xs=>Ev.bind (hc _ _ _) fun r=>?_
  unfold sized;split
  ·exact Ev.cZ (fun ρ=>Ev.eF (fun ρ=>og hc hh t ρ) _ _ _) _ _ _
  ·exact fun r h=>by cases h
 |.goto h args,ρ=>Ev.bind (Ev.const _) fun ws=>hh h ws
 |.ret rs bs,ρ=>Ev.const _
 |.fail,ρ=>Ev.const _
theorem PT (f:Nat) (ax:List LA) (bs:List (List C)):Ev (kL G f ax bs) fun n=>runT G n f ax bs:=fun r h=>by obtain ⟨n,hn⟩:=EP h;exact ⟨n,fun n' hn'=>LQ hn' f ax bs r hn⟩
theorem Od (f i:Nat) (ws:List W):Ev (uh G f i ws) fun n=>gT G n f i ws:=fun r h=>by obtain ⟨n,hn⟩:=Ko h;exact ⟨n,fun n' hn'=>Hq hn' f i ws r hn⟩
theorem gH {f:Nat} {tf:pJ} (hf:G.fn f=some tf) {i:Nat} {t:Tree} (ht:tf.heads[i]?=some t) (ws:List W):uh G f i ws=az (kL G) (uh G f) t ws:=by
 have h1:Le (uh G f i ws) (az (kL G) (uh G f) t ws):=by
  intro r h;obtain ⟨n,hn⟩:=Ko h;cases n with
  |zero=>simp [gT] at hn
  |succ n=>
   rw [gT,hf,Option.bind_some,ht,Option.bind_some] at hn;exact gN (fun f ax bs r h=>Es h) (fun h ws r hh=>Ka hh) t ws r hn
 have h2:Le (az (kL G) (uh G f) t ws) (uh G f i ws):=by intro r h;obtain ⟨n,hn⟩:=og (PT (G:=G)) (Od f) t ws r h;refine Ka (n:=n+1) ?_;rw [gT,hf,Option.bind_some,ht,Option.bind_some];exact hn n (Nat.le_refl _)
 cases h:uh G f i ws with
 |some r=>exact (h1 r h).symm
 |none=>cases h':az (kL G) (uh G f) t ws with
  |none=>rfl
  |some r=>rw [h2 r h'] at h;cases h
theorem Ev.aK {α:Type} {k:List W->Option α} {k':Nat->List W->Option α} (h:∀ρ,Ev (k ρ) fun n=>k' n ρ):∀(ps:List PS) (ax:List LA) (ρ:List W),Ev (Ey.aK k ps ax ρ) fun n=>Ey.aK (k' n) ps ax ρ:=by
 intro ps;induction ps with
 |nil=>intro ax ρ;cases ax with
  |nil=>exact h ρ
  |cons _ _=>exact fun r h=>by cases h
 |cons p ps ih=>
  intro ax ρ;cases ax with
  |nil=>cases p<;>exact fun r h=>by cases h
  |cons a ax=>
   cases p with
   |one=>cases a with
    |v x=>cases x with
     |one c=>exact ih ax _
     |agg xs=>exact fun r h=>by cases h
     |full _ _=>exact fun r h=>by cases h
    |ref b o=>exact fun r h=>by cases h
   |agg m=>cases a with
    |v x=>cases x with
     |one c=>exact fun r h=>by cases h
     |agg xs=>simp only [Ey.aK];split<;>first|exact ih ax _|exact fun r h=>by cases h
     |full _ _=>exact fun r h=>by cases h
    |ref b o=>exact fun r h=>by cases h
   |ref b o=>cases a with
    |v x=>exact fun r h=>by cases h
    |ref b' o'=>simp only [Ey.aK];split<;>first|exact ih ax _|exact fun r h=>by cases h
   |bJ g cs=>cases a with
    |v x=>exact fun r h=>by cases h
    |ref b' o'=>simp only [Ey.aK];split<;>first|exact ih ax _|exact fun r h=>by cases h
theorem Ev.di {α:Type} {k:List W->Option α} {k':Nat->List W->Option α} (h:∀ρ,Ev (k ρ) fun n=>k' n ρ):∀(ms:List Nat) (bs:List (List C)) (ρ:List W),Ev (Ey.di k ms bs ρ) fun n=>Ey.di (k' n) ms bs ρ
 |[],[],ρ=>h ρ
 |[],_::_,_=>fun r h=>by cases h
 |_::_,[],_=>fun r h=>by cases h
 |m::ms,xs::bs,ρ=>by simp only [Ey.di];split<;>first|exact Ev.di h ms bs _|exact fun r h=>by cases h
theorem jD {f:Nat} {tf:pJ} (hf:G.fn f=some tf) (ax:List LA) (bs:List (List C)):kL G f ax bs=rZ (kL G) (uh G f) tf ax bs:=by
 have h1:Le (kL G f ax bs) (rZ (kL G) (uh G f) tf ax bs):=by
  intro r h;obtain ⟨n,hn⟩:=EP h;cases n with
  |zero=>simp [runT] at hn
  |succ n=>
   rw [runT,hf] at hn;exact Le.aK (fun ρ=>Le.di (fun ρ=>gN (fun f ax bs r h=>Es h) (fun h ws r hh=>Ka hh) _ _) _ _ _) _ _ _ r hn
 have h2:Le (rZ (kL G) (uh G f) tf ax bs) (kL G f ax bs):=by
  intro r h;obtain ⟨n,hn⟩:=Ev.aK (fun ρ=>Ev.di (fun ρ=>og (PT (G:=G)) (Od f) tf.body ρ) tf.boxes bs ρ) tf.params ax [] r h
  refine Es (n:=n+1) ?_;rw [runT,hf];exact hn n (Nat.le_refl _)
 cases h:kL G f ax bs with
 |some r=>exact (h1 r h).symm
 |none=>cases h':rZ (kL G) (uh G f) tf ax bs with
  |none=>rfl
  |some r=>rw [h2 r h'] at h;cases h
theorem KP {f:Nat} (hf:G.fn f=none) {ax:List LA} {bs:List (List C)} {r:R} (h:G.nat f ax bs=some r):kL G f ax bs=some r:=Es (n:=1) (by rw [runT,hf];exact h)
end Go.Ey
namespace Go.Ey
inductive SD where
 |fK
 |a (x:At)
 |full (x:At)
 |loc (i off:Nat)
 |arr (i:Nat)
 |view (i:Nat) (x:At)
 |gU (i:Nat) (x:At) (off:Nat)
 |ptr (r off aa:Nat)
 |bJ (f:Nat) (caps:List (Nat×Nat))
 |agg (ds:List SD)
 |dB (ds:List SD)
inductive SO where
 |dead
 |box (ds:List SD)
 |arr (x:At) (aa ety:Nat) (fr al:Bool)
structure Sy where
 env:List (Nat×SD)
 heap:List (Nat×SO)
 nx:Nat
 lens:List (Nat×Nat)
def lS:List (Nat×SD)->Nat->SD
 |[],_=> .fK
 |(t',d)::r,t=>if t'=t then d else lS r t
def aM:List (Nat×SO)->Nat->SO
 |[],_=> .dead
 |(i',o)::r,i=>if i'=i then o else aM r i
def sP (h:List (Nat×SO)):List (Nat×SO)->List (Nat×SO)
 |[]=>h
 |u::us=>sP (u::h) us
def Sy.upd (σ:Sy) (us:List (Nat×SO)):Sy:={ σ with heap:=sP σ.heap us}
def Sy.new (σ:Sy) (o:SO):Sy:={ σ with heap:=(σ.nx,o)::σ.heap,nx:=σ.nx+1}
def Sy.put (σ:Sy) (dst:Option Nat) (d:SD):Sy:=match dst with|some t=>{ σ with env:=(t,d)::σ.env}|none=>σ
def Sy.len (σ:Sy) (i m:Nat):Sy:={ σ with lens:=(i,m)::σ.lens}
def nk (i:Nat):Nat->Nat->List At
 |_,0=>[]
 |j,m+1=> .n i j::nk i (j+1) m
def sK (i:Nat):Nat->List At->Bool
 |_,[]=>true
 |j,.n i' j'::r=>i'==i && j'==j && sK i (j+1) r
 |_,_=>false
def OP (lens:List (Nat×Nat)) (i m:Nat):Bool:=lens.any fun p=>p.1==i && p.2==m
def vg (lens:List (Nat×Nat)) (ax:List At):SL:=
 match ax with
 |.n i 0::_=>if sK i 0 ax && OP lens i ax.length then .all i else .lit ax
 |_=> .lit ax
def mU:SD->Option At
 |.a x=>some x
 |_=>none
def pz:List SD->Option (List At)
 |[]=>some []
 |.a x::ds=>(pz ds).bind fun xs=>some (x::xs)
 |_=>none
def vG:Option SD->Option (Option At)
 |none=>some none
 |some (.a x)=>some (some x)
 |_=>none
def mE (h:List (Nat×SO)):SD->Option At
 |.a x=>some x
 |.full x=>some x
 |.arr i=>(match aM h i with|.arr x _ _ _ _=>some x|_=>none)
 |.view i x=>(match aM h i with|.arr _ _ _ _ _=>some x|_=>none)
 |_=>none
def fe (h:List (Nat×SO)) (aa:Nat):SD->Option At
 |.a x=>some x
 |.full x=>some x
 |.arr i=>(match aM h i with|.arr x e _ _ _=>if e=aa then some x else none|_=>none)
 |.view i x=>(match aM h i with|.arr _ e _ _ _=>if e=aa then some x else none|_=>none)
 |_=>none
def TF (h:List (Nat×SO)) (d:SD):Option At:=fe h 1 d
def lg (h:List (Nat×SO)):SD->Option (At×List (Nat×SO))
 |.a x=>some (x,[])
 |.full x=>some (x,[])
 |.arr i=>(match aM h i with|.arr x e t _ al=>some (x,[(i,.arr x e t true al)])|_=>none)
 |.view i x=>(match aM h i with|.arr y e t _ al=>some (x,[(i,.arr y e t true al)])|_=>none)
 |_=>none
def uA (h:List (Nat×SO)):List SD->Option (List At×List (Nat×SO))
 |[]=>some ([],[])
 |d::ds=>(lg h d).bind fun p=>(uA (sP h p.2) ds).bind fun q=>some (p.1::q.1,p.2++q.2)
def GN (h:List (Nat×SO)):SD->Option (List At×List (Nat×SO))
 |.agg ds=>uA h ds
 |d=>(lg h d).bind fun p=>some ([p.1],p.2)
def si (lens:List (Nat×Nat)) (h:List (Nat×SO)):SD->Option (TV×List (Nat×SO))
 |.agg ds=>(uA h ds).bind fun p=>some (.agg (vg lens p.1),p.2)
 |d=>(lg h d).bind fun p=>some (.one p.1,p.2)
def tF (lens:List (Nat×Nat)) (h:List (Nat×SO)):List SD->Option (List TV×List (Nat×SO))
 |[]=>some ([],[])
 |d::ds=>(si lens h d).bind fun p=>(tF lens (sP h p.2) ds).bind fun q=>some (p.1::q.1,p.2++q.2)
def mh:SD->Bool
 |.a _|.full _|.loc _ _|.arr _|.view _ _|.gU _ _ _|.ptr _ _ _|.bJ _ _=>true
 |_=>false
def cellsS:SD->Option (List SD)
 |.agg ds=>if ds.all mh then some ds else none
 |d=>if mh d then some [d] else none
def o9 (ρ:X->SD):List SD->List (Nat×Nat×X)->Option (List SD)
 |cs,[]=>some cs
 |cs,(off,size,x)::r=>(cellsS (ρ x)).bind fun ds=>if ds.length=size/\off+size<=cs.length then o9 ρ (splice cs off ds) r else none
def MP:Value->SD
 |.slice none 0 0=> .full .z
 |v=> .a (.k v)
def NY:Value->At
 |.slice none 0 0=> .z
 |v=> .k v
def tV (zero:List Value):Nat->List SD
 |0=>[]
 |n+1=>zero.map (fun v=> .a (NY v))++tV zero n
def xS (σ:Sy):X->SD
 |.t n=>lS σ.env n
 |.k v=>if scalar v then .a (.k v) else (match v with|.slice none 0 0=> .full .z|_=> .fK)
 |.f n=> .bJ n []
def Fp (ρ:X->SD):List X->Option (List (Nat×Nat))
 |[]=>some []
 |x::xs=>(match ρ x with|.loc i off=>(Fp ρ xs).bind fun r=>some ((i,off)::r)|_=>none)
abbrev Kn:=List ((Nat×Nat)×Bool)
def JQ:Kn->Nat->Nat->Option Bool
 |[],_,_=>none
 |((i,j),b)::r,p,q=>if i=p/\j=q then some b else JQ r p q
def nW (kn:Kn) (d:SD) (k:Bool->Kn->Tree):Tree:=
 match d with
 |.a (.k (.bool b))=>k b kn
 |.a (.v i)=>(match JQ kn i 0 with
  |some b=>k b kn
  |none=> .ite (.v i) (k true (((i,0),true)::kn)) (k false (((i,0),false)::kn)))
 |.a (.n i j)=>(match JQ kn i (j+1) with
  |some b=>k b kn
  |none=> .ite (.n i j) (k true (((i,j+1),true)::kn)) (k false (((i,j+1),false)::kn)))
 |_=> .fail
def isZ:At->Bool
 |.z=>true
 |_=>false
def ay (σ:Sy) (n:Nat) (ρ:X->SD) (k:SD->Sy->Nat->Tree):Ins->Tree
 |.Mq x=>k (ρ x) σ n
 |.alloc zero=>k (.loc σ.nx 0) (σ.new (.box (zero.map MP))) n
 |.box x=>(match cellsS (ρ x) with
  |some ds=>k (.loc σ.nx 0) (σ.new (.box ds)) n
  |none=> .fail)
 |.build zero parts=>(match o9 ρ (zero.map MP) parts with
  |some ds=>k (.agg ds) σ n
  |none=> .fail)
 |.lits aa ety len zero parts=>(match (o9 ρ (tV zero len) parts).bind fun ds=>uA σ.heap ds with
  |some (ax,us)=> .aY (.lits aa len ax) (k (.arr σ.nx) ((σ.upd us).new (.arr (.v n) aa ety false true)) (n+1))
  |none=> .fail)
 |.load agg size x=>(match ρ x with
  |.loc i off=>(match aM σ.heap i with
   |.box ds=>(match agg with
    |true=>if off+size<=ds.length then k (.agg ((ds.drop off).take size)) σ n else .fail
    |false=>(match ds[off]? with
     |some d=>k d σ n
     |none=> .fail))
   |_=> .fail)
  |.ptr r off aa=>(match agg with
   |true=>if off+size<=aa then k (.agg ((nk r off size).map .a)) σ n else .fail
   |false=>if off < aa then k (.a (.n r off)) σ n else .fail)
  |.gU i x off=>(match aM σ.heap i with
   |.arr s aa _ _ _=>(match agg with
    |true=>if off+size<=aa then .row aa s x (k (.agg ((nk n off size).map .a)) (σ.len n aa) (n+1)) else .fail
    |false=>if off < aa then .row aa s x (k (.a (.n n off)) (σ.len n aa) (n+1)) else .fail)
   |_=> .fail)
  |_=> .fail)
 |.store size a v=>(match ρ a with
  |.loc i off=>(match aM σ.heap i,cellsS (ρ v) with
   |.box ds,some xs=>if xs.length=size/\off+size<=ds.length then k .fK (σ.upd [(i,.box (splice ds off xs))]) n else .fail
   |_,_=> .fail)
  |.gU i x off=>(match GN σ.heap (ρ v) with
   |some (ax,us)=>(match aM (sP σ.heap us) i with
    |.arr s aa ety false al=>if ax.length=size/\off+size<=aa then .aY (.set aa s x off ax) (k .fK (σ.upd (us++[(i,.arr (.v n) aa ety false al)])) (n+1)) else .fail
    |_=> .fail)
   |none=> .fail)
  |_=> .fail)
 |.pg x=>(match ρ x with
  |.loc i off=>k (.loc i off) σ n
  |.ptr r off aa=>k (.ptr r off aa) σ n
  |.gU i x off=>k (.gU i x off) σ n
  |_=> .fail)
 |.bin op oC x y=>(match mU (ρ x),mU (ρ y) with
  |some a,some b=> .aY (.bin op oC a b) (k (.a (.v n)) σ (n+1))
  |_,_=> .fail)
 |.eqs ks neg x y=>(match ρ x,ρ y with
  |.agg ax,.agg bs=>(match pz ax,pz bs with
   |some xs,some ys=> .aY (.eqs ks neg (vg σ.lens xs) (vg σ.lens ys)) (k (.a (.v n)) σ (n+1))
   |_,_=> .fail)
  |_,_=> .fail)
 |.un op x=>(match op,mU (ρ x) with
  |.not,some (.k (.bool b))=>k (.a (.k (.bool !b))) σ n
  |op,some a=> .aY (.un op a) (k (.a (.v n)) σ (n+1))
  |_,none=> .fail)
 |.conv kd x=>(match mU (ρ x) with
  |some a=> .aY (.conv kd a) (k (.a (.v n)) σ (n+1))
  |none=> .fail)
 |.toStr x=>(match TF σ.heap (ρ x) with
  |some a=> .aY (.toStr a) (k (.a (.v n)) σ (n+1))
  |none=> .fail)
 |.mk aa ety bytes zero l c=>(match mU (ρ l),mU (ρ c) with
  |some a,some b=> .aY (.mk aa bytes zero a b) (k (.arr σ.nx) (σ.new (.arr (.v n) aa ety false true)) (n+1))
  |_,_=> .fail)
 |.slc aa x lo hi=>(match vG (lo.map ρ),vG (hi.map ρ) with
  |some l,some h=>(match ρ x with
   |.a s=> .aY (.sub aa s l h) (k (.a (.v n)) σ (n+1))
   |.full s=> .aY (.sub aa s l h) (k (.a (.v n)) σ (n+1))
   |.arr i=>(match aM σ.heap i with
    |.arr s bU ety _ al=>if bU=aa then .aY (.sub aa s l h) (k (.view i (.v n)) (σ.upd [(i,.arr s aa ety true al)]) (n+1)) else .fail
    |_=> .fail)
   |_=> .fail)
  |_,_=> .fail)
 |.clip aa x lo hi mx=>(match lg σ.heap (ρ x),vG (lo.map ρ),mU (ρ hi),mU (ρ mx) with
  |some (s,us),some l,some a,some b=> .aY (.clip aa s l a b) (k (.full (.v n)) (σ.upd us) (n+1))
  |_,_,_,_=> .fail)
 |.Q8 x lo hi=>(match vG (lo.map ρ),vG (hi.map ρ),mU (ρ x) with
  |some l,some h,some s=> .aY (.GU s l h) (k (.a (.v n)) σ (n+1))
  |_,_,_=> .fail)
 |.yC off x=>(match ρ x with
  |.loc i o=>k (.loc i (o+off)) σ n
  |.ptr r o aa=>k (.ptr r (o+off) aa) σ n
  |.gU i x o=>k (.gU i x (o+off)) σ n
  |_=> .fail)
 |.NL off agg size x=>(match ρ x with
  |.agg ds=>(match agg with
   |true=>if off+size<=ds.length then k (.agg ((ds.drop off).take size)) σ n else .fail
   |false=>(match ds[off]? with
    |some d=>k d σ n
    |none=> .fail))
  |_=> .fail)
 |.pY aa x i=>(match mU (ρ i) with
  |some a=>(match ρ x with
   |.a s=> .row aa s a (k (.ptr n 0 aa) (σ.len n aa) (n+1))
   |.full s=> .row aa s a (k (.ptr n 0 aa) (σ.len n aa) (n+1))
   |.arr i=>(match aM σ.heap i with
    |.arr s bU _ _ _=>if bU=aa then .row aa s a (k (.gU i a 0) (σ.len n aa) (n+1)) else .fail
    |_=> .fail)
   |_=> .fail)
  |none=> .fail)
 |.nM x i=>(match mU (ρ x),mU (ρ i) with
  |some a,some b=> .aY (.nM a b) (k (.a (.v n)) σ (n+1))
  |_,_=> .fail)
 |.ext x i=>(match ρ x with
  |.dB ds=>(match ds[i]? with
   |some d=>k d σ n
   |none=> .fail)
  |_=> .fail)
 |.len isStr x=>(match mE σ.heap (ρ x) with
  |some a=> .aY (.len isStr a) (k (.a (.v n)) σ (n+1))
  |none=> .fail)
 |.app aa ety bytes x y=>(match fe σ.heap aa (ρ y) with
  |some t=>(match ρ x with
   |.full s=> .aY (.app aa bytes s t) (k (.arr σ.nx) (σ.new (.arr (.v n) aa ety (!isZ s) false)) (n+1))
   |.arr i=>(match aM σ.heap i with
    |.arr s bU dW fr al=>if bU=aa/\dW=ety then .aY (.app aa bytes s t) (k (.arr σ.nx) ((σ.upd [(i,.dead)]).new (.arr (.v n) aa ety fr al)) (n+1)) else .fail
    |_=> .fail)
   |_=> .fail)
  |none=> .fail)
 |.EZ aa x y=>(match fe σ.heap aa (ρ y),ρ x with
  |some t,.arr i=>(match aM σ.heap i with
   |.arr s bU ety false true=>if bU=aa then .aY (.EZ aa s t) (.aY (.cnt aa s t) (k (.a (.v (n+1))) (σ.upd [(i,.arr (.v n) aa ety false true)]) (n+2))) else .fail
   |_=> .fail)
  |_,_=> .fail)
 |.mx x y=>(match mU (ρ x),mU (ρ y) with
  |some a,some b=> .aY (.mm true a b) (k (.a (.v n)) σ (n+1))
  |_,_=> .fail)
 |.mn x y=>(match mU (ρ x),mU (ρ y) with
  |some a,some b=> .aY (.mm false a b) (k (.a (.v n)) σ (n+1))
  |_,_=> .fail)
 |.R3 f xs=>(match Fp ρ xs with
  |some ls=>k (.bJ f ls) σ n
  |none=> .fail)
 |_=> .fail
inductive CK where
 |c
 |d
 |full
 |own (aa ety:Nat) (fr al:Bool)
inductive RS where
 |one (k:CK)
 |agg (ks:List CK)
structure aN where
 params:List PS
 boxes:List Nat
 rs:List RS
 nat:Bool:=false
 code:Option Nat:=none
 alts:List Nat:=[]
def aN.cd (s:aN) (f:Nat):Nat:=s.code.getD f
def CK.Ty:CK->Bool
 |.c=>true
 |_=>false
def CK.Fv:CK->Bool
 |.c=>false
 |_=>true
def RS.Ty:RS->Bool
 |.one k=>k.Ty
 |.agg ks=>ks.all CK.Ty
def RS.Fv:RS->Bool
 |.one k=>k.Fv
 |.agg ks=>ks.all CK.Fv
def RS.shape:RS->Option Nat
 |.one _=>none
 |.agg ks=>some ks.length
def BB:List (Option Nat)->Nat->List SD×List (Nat×Nat)
 |[],_=>([],[])
 |none::ss,n=>match BB ss (n+1) with|(ds,ls)=>(.a (.v n)::ds,ls)
 |some m::ss,n=>match BB ss (n+1) with|(ds,ls)=>(.agg ((nk n 0 m).map .a)::ds,(n,m)::ls)
def JA:List SD->SD
 |[d]=>d
 |ds=> .dB ds
def Sy.vF (σ:Sy) (l:List (Nat×Nat)):Sy:={ σ with lens:=l++σ.lens}
def qJ (sig:Nat->Option aN) (σ:Sy) (n:Nat) (f:Nat) (ds:List SD) (k:SD->Sy->Nat->Tree):Tree:=
 match sig f,tF σ.lens σ.heap ds with
 |some s,some (vs,us)=>
  let sh:=s.rs.map RS.shape
  if s.code=none then
  (match BB sh n with|(ds,ls)=> .call f (vs.map .v) [] sh [] (k (JA ds) ((σ.upd us).vF ls) (n+sh.length)))
  else .fail
 |_,_=> .fail
def Uq (σ:Sy) (x:At):CK->SD×Sy
 |.c=>(.a x,σ)
 |.d=>(.a x,σ)
 |.full=>(.full x,σ)
 |.own aa ety fr al=>(.arr σ.nx,σ.new (.arr x aa ety fr al))
def IV (σ:Sy) (i:Nat):List CK->Nat->List SD×Sy
 |[],_=>([],σ)
 |c::cs,j=>match Uq σ (.n i j) c with|(d,σ)=>match IV σ i cs (j+1) with|(ds,σ)=>(d::ds,σ)
def zS (σ:Sy):List RS->Nat->List SD×Sy
 |[],_=>([],σ)
 |.one c::ss,n=>match Uq σ (.v n) c with|(d,σ)=>match zS σ ss (n+1) with|(ds,σ)=>(d::ds,σ)
 |.agg cs::ss,n=>match IV (σ.len n cs.length) n cs 0 with|(xs,σ)=>match zS σ ss (n+1) with|(ds,σ)=>(.agg xs::ds,σ)
def bg (σ:Sy):List Nat->List Nat->Nat->Sy
 |i::is,m::ms,n=>bg { σ with heap:=(i,.box ((nk n 0 m).map .a))::σ.heap,lens:=(n,m)::σ.lens} is ms (n+1)
 |_,_,_=>σ
def Nf (bx:List Nat):List (Nat×Nat)->List (Nat×Nat)->Bool
 |[],[]=>true
 |(b,o)::r,(i,o')::r'=>bx[b]?==some i && o'==o && Nf bx r r'
 |_,_=>false
def qO:List (Nat×Nat)->List (Nat×Nat)->Nat->Option Nat
 |(b',_)::r,(i,_)::r',b=>if b'=b then some i else qO r r' b
 |_,_,_=>none
def lW (lens:List (Nat×Nat)) (h:List (Nat×SO)) (bx:List Nat):List PS->List SD->Option (List TA×List (Nat×SO))
 |[],[]=>some ([],[])
 |.ref b off::ps,.loc i o::ds=>if bx[b]?=some i/\o=off then (lW lens h bx ps ds).bind fun q=>some (.ref b off::q.1,q.2) else none
 |.ref _ _::_,_=>none
 |.bJ g caps::ps,.bJ g' dA::ds=>if g'=g/\Nf bx caps dA=true then (lW lens h bx ps ds).bind fun q=>some (.ref 0 0::q.1,q.2) else none
 |.bJ _ _::_,_=>none
 |_::ps,d::ds=>(si lens h d).bind fun p=>(lW lens (sP h p.2) bx ps ds).bind fun q=>some (.v p.1::q.1,p.2++q.2)
 |_,_=>none
def iJ:List PS->List SD->Nat->Option Nat
 |.ref b' _::ps,.loc i _::ds,b=>if b'=b then some i else iJ ps ds b
 |.bJ _ caps::ps,.bJ _ dA::ds,b=>(match qO caps dA b with|some i=>some i|none=>iJ ps ds b)
 |_::ps,_::ds,b=>iJ ps ds b
 |_,_,_=>none
def lH (ps:List PS) (ds:List SD):Nat->Nat->Option (List Nat)
 |_,0=>some []
 |b,m+1=>(iJ ps ds b).bind fun i=>(lH ps ds (b+1) m).bind fun is=>some (i::is)
def nodupB:List Nat->Bool
 |[]=>true
 |i::is=>!is.contains i && nodupB is
def iX (lens:List (Nat×Nat)) (h:List (Nat×SO)):List Nat->List Nat->Option (List SL)
 |[],[]=>some []
 |i::is,m::ms=>(match aM h i with
  |.box ds=>(pz ds).bind fun ax=>if ax.length=m then (iX lens h is ms).bind fun r=>some (vg lens ax::r) else none
  |_=>none)
 |_,_=>none
def Jh:List PS->List SD->Bool
 |[],[]=>true
 |.bJ g caps::ps,.bJ g' dA::ds=>g'==g && caps.length==dA.length && Jh ps ds
 |.bJ _ _::_,_=>false
 |_::_,.bJ _ _::_=>false
 |_::ps,_::ds=>Jh ps ds
 |_,_=>false
def Q6 (sig:Nat->Option aN) (f:Nat) (ds:List SD):List Nat->Nat
 |[]=>f
 |g::gs=>(match sig g with
  |some s=>if Jh s.params ds then g else Q6 sig f ds gs
  |none=>Q6 sig f ds gs)
def keyOf (sig:Nat->Option aN) (f:Nat) (ds:List SD):Nat:=
 match sig f with
 |some s=>Q6 sig f ds s.alts
 |none=>f
def qw (sig:Nat->Option aN) (own:Bool) (σ:Sy) (n:Nat) (f g:Nat) (ds:List SD) (k:SD->Sy->Nat->Tree):Tree:=
 match sig g with
 |some s=>if s.nat=true\/s.cd g≠f then .fail else if (if own then s.rs.all RS.Fv else s.rs.all RS.Ty) then (match lH s.params ds 0 s.boxes.length with
  |some bx=>if nodupB bx then (match lW σ.lens σ.heap bx s.params ds with
   |some (ax,us)=>(match iX σ.lens (sP σ.heap us) bx s.boxes with
    |some bs=>
     let sh:=s.rs.map RS.shape
     let σ1:=bg (σ.upd us) bx s.boxes (n+sh.length)
     (match zS σ1 s.rs n with|(ds,σ2)=> .call g ax bs sh s.boxes (k (JA ds) σ2 (n+sh.length+s.boxes.length)))
    |none=> .fail)
   |none=> .fail) else .fail
  |none=> .fail) else .fail
 |none=> .fail
def Ee (sig:Nat->Option aN) (own:Bool) (σ:Sy) (n:Nat) (f:Nat) (ds:List SD) (k:SD->Sy->Nat->Tree):Tree:=
 qw sig own σ n f (keyOf sig f ds) ds k
def gV:Nat->List PS->Option Nat
 |b,[]=>some b
 |b,.ref q off::ps=>if q=b/\off=0 then gV (b+1) ps else none
 |b,.one::ps=>gV b ps
 |b,.agg _::ps=>gV b ps
 |_,.bJ _ _::_=>none
def DV (sig:Nat->Option aN) (σ:Sy) (n:Nat) (f:Nat) (ds:List SD) (k:SD->Sy->Nat->Tree):Tree:=
 match sig f with
 |some s=>if gV 0 s.params=some s.boxes.length then qw sig false σ n f f ds k else .fail
 |none=> .fail
def wP (σ:Sy) (kn:Kn) (g:Option (Nat×Bool)) (k:Bool->Kn->Tree):Tree:=
 match g with
 |none=>k true kn
 |some (t,want)=>(match lS σ.env t with
  |.dB []=>k false kn
  |d=>nW kn d fun b kn=>k (b==want) kn)
def jb (sig:Nat->Option aN) (k:Sy->Nat->Kn->Tree):List aW->Sy->Nat->Kn->Tree
 |[],σ,n,kn=>k σ n kn
 |i::is,σ,n,kn=>wP σ kn i.guard fun w kn=>
  match w with
  |false=>jb sig k is (σ.put i.dst (.dB [])) n kn
  |true=>match i.ins with
   |.pick c a b=>nW kn (xS σ c) fun t kn=>jb sig k is (σ.put i.dst (xS σ (if t then a else b))) n kn
   |.call f xs=>qJ sig σ n f (xs.map (xS σ)) fun d σ n=>jb sig k is (σ.put i.dst d) n kn
   |.cu f own xs=>if own=2 then .fail else Ee sig (own !=0) σ n f (xs.map (xS σ)) fun d σ n=>jb sig k is (σ.put i.dst d) n kn
   |.dQ x xs=>(match xS σ x with
    |.bJ f caps=>Ee sig false σ n f (xs.map (xS σ)++caps.map fun p=> .loc p.1 p.2) fun d σ n=>jb sig k is (σ.put i.dst d) n kn
    |_=> .fail)
   |ins=>ay σ n (xS σ) (fun d σ n=>jb sig k is (σ.put i.dst d) n kn) ins
def EF:SD->List Nat
 |.arr i=>[i]
 |.view i _=>[i]
 |_=>[]
def kH:SD->List Nat
 |.agg ds=>ds.flatMap EF
 |d=>EF d
def gP (d:SD):List Nat:=match d with|.loc i _=>[i]|d=>kH d
def dM (ρ:X->SD):Ins->List Nat
 |.load _ _ x=>(match ρ x with|.loc i _=>[i]|.gU i _ _=>[i]|_=>[])
 |.store _ a v=>(match ρ a with|.loc i _=>[i]|.gU i _ _=>[i]|_=>[])++kH (ρ v)
 |.lits _ _ _ _ ps=>ps.flatMap fun p=>kH (ρ p.2.2)
 |.toStr x=>kH (ρ x)
 |.slc _ x _ _=>kH (ρ x)
 |.clip _ x _ _ _=>kH (ρ x)
 |.pY _ x _=>kH (ρ x)
 |.app _ _ _ x y=>kH (ρ x)++kH (ρ y)
 |.EZ _ x y=>kH (ρ x)++kH (ρ y)
 |.call _ xs=>xs.flatMap fun x=>kH (ρ x)
 |.eZ _ xs=>xs.flatMap fun x=>gP (ρ x)
 |_=>[]
def xm:Ins->Bool
 |.load _ _ _|.toStr _|.slc _ _ _ _|.pY _ _ _=>true
 |_=>false
def HZ (ρ:X->SD) (i:Ins):List Nat:=if xm i then [] else dM ρ i
def qB (nx nx':Nat) (ts:List Nat):List Nat:=ts++(List.range (nx' - nx)).map (nx+·)
def jG (sig:Nat->Option aN) (k:Sy->Nat->Kn->List Trace->Tree):List aW->Sy->Nat->Kn->List Trace->Tree
 |[],σ,n,kn,ts=>k σ n kn ts
 |i::is,σ,n,kn,ts=>wP σ kn i.guard fun w kn=>
  let gt:List Nat:=match i.guard with|some (t,_)=>[t]|none=>[]
  match w with
  |false=>jG sig k is (σ.put i.dst (.dB [])) n kn (ts++[⟨gt,i.dst.toList,[],[]⟩])
  |true=>
   let go:=fun (d:SD) (σ':Sy) (n:Nat) (kn:Kn)=>jG sig k is (σ'.put i.dst d) n kn
    (ts++[⟨gt++gQ (eY i.ins),i.dst.toList,dM (xS σ) i.ins,qB σ.nx σ'.nx (HZ (xS σ) i.ins)⟩])
   match i.ins with
   |.pick c a b=>nW kn (xS σ c) fun t kn=>go (xS σ (if t then a else b)) σ n kn
   |.call f xs=>qJ sig σ n f (xs.map (xS σ)) fun d σ n=>go d σ n kn
   |.cu _ _ _=> .fail
   |.dQ _ _=> .fail
   |.eZ f xs=>DV sig σ n f (xs.map (xS σ)) fun d σ n=>go d σ n kn
   |ins=>ay σ n (xS σ) (fun d σ n=>go d σ n kn) ins
inductive Sh where
 |fK
 |a
 |full
 |loc (i off:Nat)
 |arr (i:Nat)
 |bJ (f:Nat) (caps:List (Nat×Nat))
 |MQ (m:Nat)
 |agg (ds:List Sh)
inductive Nc where
 |bg (m:Nat)
 |box (ds:List Sh)
 |arr (aa ety:Nat) (fr al:Bool)
structure HS where
 p:List Nat
 env:List (Nat×Sh)
 heap:List Nc
end Go.Ey
