/- A part. -/
import Derived.Test.YtolnnaanmfnkjaaGreatDoorZ02
import Derived.Test.YtolnnaanmfnkjaaGreatDoorZ03
set_option linter.all false
namespace Go.Ey
inductive K where
 |i (k:IntKind) (n:Int)
 |b (x:Bool)
 |s (len w:Nat)
 |sl (aj:Nat) (rev:List (List K)) (n:Nat)
 |o (v:Value)
inductive KW where
 |c (x:K)
 |l (n:Nat) (xs:List K)
inductive KA where
 |v (i:Nat)
 |n (i j:Nat)
 |k (c:K)
inductive KS where
 |lit (n:Nat) (aJ:List KA)
 |all (i:Nat)
inductive KV where
 |one (a:KA)
 |agg (s:KS)
inductive KO where
 |add (a b:KA)
 |sub (a b:KA)
 |mul (a b:KA)
 |quo (a b:KA)
 |rem (a b:KA)
 |eql (a b:KA)
 |neq (a b:KA)
 |lss (a b:KA)
 |leq (a b:KA)
 |gtr (a b:KA)
 |geq (a b:KA)
 |not (a:KA)
 |neg (a:KA)
 |conv (k:IntKind) (a:KA)
 |eqs (ks:List Nat) (neg:Bool) (aJ bs:KS)
 |len (isStr:Bool) (a:KA)
 |app (aj bytes:Nat) (s t:KA)
 |set (aj:Nat) (s i:KA) (off m:Nat) (vs:List KA)
 |slc (aj:Nat) (s:KA) (lo hi:Option KA)
 |Nu (s:KA) (lo hi:Option KA)
 |BV (s i:KA)
 |toStr (s:KA)
 |mk (aj bytes:Nat) (zero:List K) (l c:KA)
 |mx (a b:KA)
 |mn (a b:KA)
 |lits (aj len:Nat) (xs:List KA)
 |shz (a b:KA)
 |anz (a b:KA)
 |is (a:KA) (x:K)
 |isL (i:Nat) (xs:List K)
 |no
inductive oo where
 |dG (o:KO) (t:oo)
 |row (aj:Nat) (s i:KA) (t:oo)
 |ite (a:KA) (t e:oo)
 |call (f:Nat) (args:List KV) (bs:List KS) (rs:List (Option Nat)) (bl:List Nat) (t:oo)
 |goto (h n:Nat) (args:List KV)
 |ret (rs:List KV) (bs:List KS)
 |fail
inductive bD where
 |fail
 |ret (vs bs:List KW)
 |stop (ws:List KW)
noncomputable section
def jB (n:Nat) (k:Nat->bD):bD:=Nat.casesOn (motive:=fun _=>bD) n (k 0) fun m=>k (Nat.succ m)
def XP (n:Int) (k:Int->bD):bD:=Int.casesOn (motive:=fun _=>bD) n (fun m=>jB m fun m=>k (.ofNat m)) (fun m=>jB m fun m=>k (.negSucc m))
def afS (b:Bool) (k:Bool->bD):bD:=Bool.casesOn (motive:=fun _=>bD) b (k false) (k true)
def Bf {α:Type} (l:List α) (k:List α->bD):bD:=List.rec (motive:=fun _=>(List α->bD)->bD) (fun k=>k []) (fun x _ ih k=>ih fun r=>k (x::r)) l k
def VF (l:List KW):Nat->(KW->bD)->bD:=List.rec (motive:=fun _=>Nat->(KW->bD)->bD) (fun _ _=> .fail) (fun w _ ih i=>Nat.casesOn (motive:=fun _=>(KW->bD)->bD) i (fun k=>k w) ih) l
def aih (l:List K):Nat->(K->bD)->bD:=List.rec (motive:=fun _=>Nat->(K->bD)->bD) (fun _ _=> .fail) (fun w _ ih i=>Nat.casesOn (motive:=fun _=>(K->bD)->bD) i (fun k=>k w) ih) l
def onC (w:KW) (k:K->bD):bD:=KW.casesOn (motive:=fun _=>bD) w k fun _ _=> .fail
def onL (w:KW) (k:Nat->List K->bD):bD:=KW.casesOn (motive:=fun _=>bD) w (fun _=> .fail) k
def Sv (x:K) (k:IntKind->Int->bD):bD:=K.casesOn (motive_1:=fun _=>bD) x k (fun _=> .fail) (fun _ _=> .fail) (fun _ _ _=> .fail) (fun _=> .fail)
def onB (x:K) (k:Bool->bD):bD:=K.casesOn (motive_1:=fun _=>bD) x (fun _ _=> .fail) k (fun _ _=> .fail) (fun _ _ _=> .fail) (fun _=> .fail)
def Xb (n:Int) (k:Nat->bD):bD:=Int.casesOn (motive:=fun _=>bD) n k fun _=> .fail
def abB (x:K) (k:Nat->List (List K)->Nat->bD):bD:=K.casesOn (motive_1:=fun _=>bD) x (fun _ _=> .fail) (fun _=> .fail) (fun _ _=> .fail) k (fun _=> .fail)
def onS (x:K) (k:Nat->Nat->bD):bD:=K.casesOn (motive_1:=fun _=>bD) x (fun _ _=> .fail) (fun _=> .fail) k (fun _ _ _=> .fail) (fun _=> .fail)
def kk (k:IntKind):Nat:=IntKind.casesOn (motive:=fun _=>Nat) k 0 1 2 3 4 5 6 7
def Bu (x y:K) (k:IntKind->Int->Int->bD):bD:=Sv x fun p n=>Sv y fun q m=>cond (Nat.beq (kk p) (kk q)) (k p n m) .fail
def kA (ρ:List KW) (a:KA) (k:K->bD):bD:=KA.casesOn (motive:=fun _=>bD) a (fun i=>VF ρ i fun w=>onC w k) (fun i j=>VF ρ i fun w=>onL w fun _ xs=>aih xs j k) k
def kAs (ρ:List KW) (l:List KA):(List K->bD)->bD:=List.rec (motive:=fun _=>(List K->bD)->bD) (fun k=>k []) (fun a _ ih k=>kA ρ a fun x=>ih fun xs=>k (x::xs)) l
def kS (ρ:List KW) (s:KS) (k:Nat->List K->bD):bD:=KS.casesOn (motive:=fun _=>bD) s (fun n aJ=>kAs ρ aJ fun xs=>k n xs) (fun i=>VF ρ i fun w=>onL w k)
def kSs (ρ:List KW) (l:List KS):(List KW->bD)->bD:=List.rec (motive:=fun _=>(List KW->bD)->bD) (fun k=>k []) (fun a _ ih k=>kS ρ a fun n x=>ih fun xs=>k (.l n x::xs)) l
def kV (ρ:List KW) (v:KV) (k:KW->bD):bD:=KV.casesOn (motive:=fun _=>bD) v (fun a=>kA ρ a fun x=>k (.c x)) (fun s=>kS ρ s fun n xs=>k (.l n xs))
def kVs (ρ:List KW) (l:List KV):(List KW->bD)->bD:=List.rec (motive:=fun _=>(List KW->bD)->bD) (fun k=>k []) (fun a _ ih k=>kV ρ a fun x=>ih fun xs=>k (x::xs)) l
def kPs (ρ:List KW) (l:List KV):List KW->(List KW->bD)->bD:=List.rec (motive:=fun _=>List KW->(List KW->bD)->bD) (fun acc k=>k acc) (fun a _ ih acc k=>kV ρ a fun x=>ih (x::acc) k) l
def afb (k:IntKind) (n:Int):Int:=
 match k,n with
 |.i64,.ofNat m=>cond (Nat.ble m 9223372036854775807) n (k.wrap n)
 |.u8,.ofNat m=>cond (Nat.ble m 255) n (k.wrap n)
 |.i64,.negSucc m=>cond (Nat.ble m 9223372036854775807) n (k.wrap n)
 |k,n=>k.wrap n
def WZ:Int->Int->Bool
 |.ofNat a,.ofNat b=>Nat.beq a b
 |.negSucc a,.negSucc b=>Nat.beq a b
 |_,_=>false
def klt:Int->Int->Bool
 |.ofNat a,.ofNat b=>Nat.ble (Nat.succ a) b
 |.negSucc a,.negSucc b=>Nat.ble (Nat.succ b) a
 |.negSucc _,.ofNat _=>true
 |.ofNat _,.negSucc _=>false
def kIn (k:IntKind) (n:Int) (r:K->bD):bD:=XP (afb k n) fun m=>r (.i k m)
def Qk (b:Bool) (r:K->bD):bD:=afS b fun b=>r (.b b)
abbrev Xs:=List KW->(K->bD)->bD
def Wx:Nat:=140737488355328
def abo (a b:KA):Xs:=fun ρ r=>kA ρ a fun x=>kA ρ b fun y=>K.casesOn (motive_1:=fun _=>bD) x (fun _ _=>Bu x y fun k n m=>kIn k (n+m) r) (fun _=> .fail)
 (fun l v=>onS y fun m w=>jB (l+m) fun lm=>cond (Nat.ble lm Wx) (jB (v+Nat.shiftLeft w (8 * l)) fun u=>r (.s lm u)) .fail) (fun _ _ _=> .fail) (fun _=> .fail)
def aqy (a b:KA):Xs:=fun ρ r=>kA ρ a fun x=>kA ρ b fun y=>Bu x y fun k n m=>kIn k (n - m) r
def aqa (a b:KA):Xs:=fun ρ r=>kA ρ a fun x=>kA ρ b fun y=>Bu x y fun k n m=>kIn k (n * m) r
def apv (a b:KA):Xs:=fun ρ r=>kA ρ a fun x=>kA ρ b fun y=>Bu x y fun k n m=>cond (WZ m 0) .fail (kIn k (n.tdiv m) r)
def apB (a b:KA):Xs:=fun ρ r=>kA ρ a fun x=>kA ρ b fun y=>Bu x y fun k n m=>cond (WZ m 0) .fail (XP (n.tmod m) fun q=>r (.i k q))
def kEq (x y:K) (r:Bool->bD):bD:=K.casesOn (motive_1:=fun _=>bD) x (fun _ _=>Bu x y fun _ n m=>r (WZ n m)) (fun p=>onB y fun q=>r (not (xor p q))) (fun l v=>onS y fun m w=>r (and (Nat.beq l m) (Nat.beq v w))) (fun _ _ _=> .fail) (fun _=> .fail)
def Pm (x y:K) (r:Bool->bD):bD:=K.casesOn (motive_1:=fun _=>bD) x (fun _ _=>Bu x y fun _ n m=>r (WZ n m)) (fun _=> .fail) (fun l v=>onS y fun m w=>r (and (Nat.beq l m) (Nat.beq v w))) (fun _ _ _=> .fail) (fun _=> .fail)
def ape (a b:KA):Xs:=fun ρ r=>kA ρ a fun x=>kA ρ b fun y=>Pm x y fun q=>Qk q r
def aqe (a b:KA):Xs:=fun ρ r=>kA ρ a fun x=>kA ρ b fun y=>Pm x y fun q=>Qk (not q) r
def aoE (a b:KA):Xs:=fun ρ r=>kA ρ a fun x=>kA ρ b fun y=>Bu x y fun _ n m=>Qk (klt n m) r
def anE (a b:KA):Xs:=fun ρ r=>kA ρ a fun x=>kA ρ b fun y=>Bu x y fun _ n m=>Qk (not (klt m n)) r
def an2 (a b:KA):Xs:=fun ρ r=>kA ρ a fun x=>kA ρ b fun y=>Bu x y fun _ n m=>Qk (klt m n) r
def anv (a b:KA):Xs:=fun ρ r=>kA ρ a fun x=>kA ρ b fun y=>Bu x y fun _ n m=>Qk (not (klt n m)) r
def aoF (a:KA):Xs:=fun ρ r=>kA ρ a fun x=>onB x fun p=>Qk (not p) r
def anT (a:KA):Xs:=fun ρ r=>kA ρ a fun x=>Sv x fun k n=>kIn k (0 - n) r
def ajJ (k:IntKind) (a:KA):Xs:=fun ρ r=>kA ρ a fun x=>Sv x fun _ n=>kIn k n r
def PG (x:K):Nat:=K.casesOn (motive_1:=fun _=>Nat) x (fun _ _=>0) (fun _=>2) (fun _ _=>1) (fun _ _ _=>3) (fun _=>3)
def am8 (ks:List Nat):List K->List K->(Bool->bD)->bD:=List.rec (motive:=fun _=>List K->List K->(Bool->bD)->bD)
 (fun xs ys r=>List.casesOn (motive:=fun _=>bD) xs (List.casesOn (motive:=fun _=>bD) ys (r true) fun _ _=> .fail) fun _ _=> .fail)
 (fun n _ ih xs ys r=>List.casesOn (motive:=fun _=>bD) xs .fail fun x xs=>List.casesOn (motive:=fun _=>bD) ys .fail fun y ys=>cond (Nat.beq (PG x) n) (kEq x y fun q=>ih xs ys fun p=>r (and q p)) .fail) ks
def anJ (ks:List Nat) (neg:Bool) (aJ bs:KS):Xs:=fun ρ r=>kS ρ aJ fun _ xs=>kS ρ bs fun _ ys=>am8 ks xs ys fun q=>Qk (xor neg q) r
def apK (isStr:Bool) (a:KA):Xs:=fun ρ r=>kA ρ a fun x=>K.casesOn (motive_1:=fun _=>bD) x (fun _ _=> .fail) (fun _=> .fail) (fun l _=>cond isStr (r (.i .i64 (.ofNat l))) .fail) (fun _ _ n=>cond isStr .fail (r (.i .i64 (.ofNat n)))) (fun _=> .fail)
def Zg (aj e n:Nat) (k:bD):bD:=cond (Nat.beq e aj) k (cond (Nat.beq n 0) k .fail)
def Px (n:Nat):Nat->List (List K)->List (List K):=Nat.rec (motive:=fun _=>Nat->List (List K)->List (List K)) (fun _ acc=>acc) (fun _ ih w acc=>ih (Nat.shiftRight w 8) ([.i .u8 (.ofNat (Nat.mod w 256))]::acc)) n
def aoV (aj bytes:Nat) (s t:KA):Xs:=fun ρ r=>kA ρ s fun x=>kA ρ t fun y=>abB x fun e xs n=>Zg aj e n (K.casesOn (motive_1:=fun _=>bD) y (fun _ _=> .fail) (fun _=> .fail)
 (fun l w=>cond (Nat.beq aj 1) (Bf (Px l w xs) fun zs=>jB (n+l) fun m=>cond (Nat.ble (m * bytes) Wx) (cond (Nat.ble m Wx) (r (.sl aj zs m)) .fail) .fail) .fail)
 (fun e' ys m=>Zg aj e' m (cond (Nat.beq aj 0) .fail (Bf (ys++xs) fun zs=>jB (n+m) fun k=>cond (Nat.ble (k * bytes) Wx) (cond (Nat.ble k Wx) (r (.sl aj zs k)) .fail) .fail))) (fun _=> .fail))
def Wo (rev:List (List K)):Nat->(List K->List K)->List (List K):=List.rec (motive:=fun _=>Nat->(List K->List K)->List (List K)) (fun _ _=>[]) (fun x xs ih i g=>Nat.casesOn (motive:=fun _=>List (List K)) i (g x::xs) fun j=>x::ih j g) rev
def ap0 (aj:Nat) (s i:KA) (off m:Nat) (vs:List KA):Xs:=fun ρ r=>kA ρ s fun x=>kA ρ i fun y=>kAs ρ vs fun ys=>abB x fun e xs n=>Sv y fun _ p=>Xb p fun j=>cond (Nat.ble (Nat.succ j) n) (cond (Nat.beq e aj) (cond (Nat.ble (off+m) aj) (Bf (Wo xs (n - Nat.succ j) fun row=>splice row off ys) fun zs=>r (.sl aj zs n)) .fail) .fail) .fail
def klo (ρ:List KW) (a:Option KA) (d:Nat) (k:Nat->bD):bD:=Option.casesOn (motive:=fun _=>bD) a (k d) fun a=>kA ρ a fun x=>Sv x fun _ n=>Xb n k
def akM (aj:Nat) (s:KA) (lo hi:Option KA):Xs:=fun ρ r=>kA ρ s fun x=>abB x fun e xs n=>Zg aj e n (klo ρ lo 0 fun l=>klo ρ hi n fun h=>cond (and (Nat.ble l h) (Nat.ble h n)) (jB (h - l) fun m=>Bf ((xs.drop (n - h)).take m) fun zs=>r (.sl aj zs m)) .fail)
def ajq (s:KA) (lo hi:Option KA):Xs:=fun ρ r=>kA ρ s fun x=>onS x fun n w=>klo ρ lo 0 fun l=>klo ρ hi n fun h=>cond (and (Nat.ble l h) (Nat.ble h n)) (jB (h - l) fun m=>jB (Nat.mod (Nat.shiftRight w (8 * l)) (Nat.shiftLeft 1 (8 * m))) fun v=>r (.s m v)) .fail
def aju (s i:KA):Xs:=fun ρ r=>kA ρ s fun x=>kA ρ i fun y=>onS x fun n w=>Sv y fun _ m=>Xb m fun j=>cond (Nat.ble (Nat.succ j) n) (jB (Nat.mod (Nat.shiftRight w (8 * j)) 256) fun v=>r (.i .u8 (.ofNat v))) .fail
def adp (rev:List (List K)):Nat->(Nat->bD)->bD:=List.rec (motive:=fun _=>Nat->(Nat->bD)->bD) (fun w k=>k w) (fun row _ ih w k=>List.casesOn (motive:=fun _=>bD) row .fail fun x _=>Sv x fun p n=>cond (Nat.beq (kk p) 4) (Xb n fun b=>cond (Nat.ble b 255) (jB (b+256 * w) fun v=>ih v k) .fail) .fail) rev
def aeP (s:KA):Xs:=fun ρ r=>kA ρ s fun x=>abB x fun e xs n=>Zg 1 e n (adp xs 0 fun w=>r (.s n w))
def acp (zero:List K) (n:Nat):List (List K):=Nat.rec (motive:=fun _=>List (List K)) [] (fun _ ih=>zero::ih) n
def kMk (aj bytes:Nat) (zero:List K) (l c:KA):Xs:=fun ρ r=>kA ρ l fun x=>kA ρ c fun y=>Sv x fun _ n=>Xb n fun m=>Sv y fun _ p=>Xb p fun q=>cond (Nat.ble m q) (cond (Nat.ble (q * bytes) Wx) (cond (Nat.ble q Wx) (cond (Nat.beq aj 0) .fail (Bf (acp zero m) fun zs=>r (.sl aj zs m))) .fail) .fail) .fail
def kMx (a b:KA):Xs:=fun ρ r=>kA ρ a fun x=>kA ρ b fun y=>Bu x y fun k n m=>cond (klt n m) (r (.i k m)) (r (.i k n))
def kMn (a b:KA):Xs:=fun ρ r=>kA ρ a fun x=>kA ρ b fun y=>Bu x y fun k n m=>cond (klt m n) (r (.i k m)) (r (.i k n))
def Zx (aj n:Nat):List K->List (List K)->(List (List K)->bD)->bD:=Nat.rec (motive:=fun _=>List K->List (List K)->(List (List K)->bD)->bD) (fun _ acc k=>k acc) (fun _ ih xs acc k=>Bf (xs.take aj) fun row=>ih (xs.drop aj) (row::acc) k) n
def ajv (aj len:Nat) (xs:List KA):Xs:=fun ρ r=>kAs ρ xs fun ys=>cond (Nat.ble len Wx) (cond (Nat.beq aj 0) .fail (Zx aj len ys [] fun zs=>r (.sl aj zs len))) .fail
def asw (a b:KA):Xs:=fun ρ r=>kA ρ a fun x=>kA ρ b fun y=>Sv x fun p n=>Sv y fun _ m=>Xb m fun j=>cond (WZ n 0) (r (.i p (.ofNat 0))) (Xb n fun i=>cond (Nat.ble j 8) (jB (Nat.div i (Nat.pow 2 j)) fun q=>r (.i p (.ofNat q))) .fail)
def arn (a b:KA):Xs:=fun ρ r=>kA ρ a fun x=>kA ρ b fun y=>Bu x y fun p n _=>cond (WZ n 0) (r (.i p (.ofNat 0))) .fail
def ahm {α:Type} (f:α->α->Bool):List α->List α->Bool
 |[],[]=>true
 |x::xs,y::ys=>cond (f x y) (ahm f xs ys) false
 |_,_=>false
def ae9:Nat->K->K->Bool
 |0,_,_=>false
 |_+1,.i k a,.i l b=>cond (Nat.beq (kk k) (kk l)) (WZ a b) false
 |_+1,.b x,.b y=>not (xor x y)
 |_+1,.s l v,.s m w=>cond (Nat.beq l m) (Nat.beq v w) false
 |n+1,.sl e xs a,.sl f ys b=>cond (Nat.beq e f) (cond (Nat.beq a b) (ahm (ahm (ae9 n)) xs ys) false) false
 |_+1,_,_=>false
def kIs (a:KA) (x:K):Xs:=fun ρ r=>kA ρ a fun y=>Qk (ae9 60 y x) r
def ati (i:Nat) (xs:List K):Xs:=fun ρ r=>VF ρ i fun w=>onL w fun _ ys=>Qk (ahm (ae9 60) ys xs) r
def kop (o:KO):Xs:=KO.casesOn (motive:=fun _=>Xs) o abo aqy aqa apv apB ape aqe aoE anE an2 anv aoF anT ajJ anJ apK aoV ap0 akM ajq aju aeP kMk kMx kMn ajv asw arn kIs ati (fun _ _=> .fail)
def F9 (aj:Nat) (x y:K) (k:List K->bD):bD:=abB x fun e xs n=>Sv y fun _ m=>Xb m fun j=>cond (Nat.ble (Nat.succ j) n) (cond (Nat.beq e aj) (List.casesOn (motive:=fun _=>bD) (xs.drop (n - Nat.succ j)) .fail fun row _=>k row) .fail) .fail
def rA (ss:List (Option Nat)):List KW->List KW->(List KW->bD)->bD:=List.rec (motive:=fun _=>List KW->List KW->(List KW->bD)->bD)
 (fun vs ρ k=>List.casesOn (motive:=fun _=>bD) vs (k ρ) fun _ _=> .fail)
 (fun s _ ih vs ρ k=>List.casesOn (motive:=fun _=>bD) vs .fail fun v vs=>Option.casesOn (motive:=fun _=>bD) s (onC v fun x=>ih vs (.c x::ρ) k) fun m=>onL v fun n xs=>cond (Nat.beq n m) (ih vs (.l n xs::ρ) k) .fail) ss
def Aa (ms:List Nat):List KW->List KW->(List KW->bD)->bD:=List.rec (motive:=fun _=>List KW->List KW->(List KW->bD)->bD)
 (fun vs ρ k=>List.casesOn (motive:=fun _=>bD) vs (k ρ) fun _ _=> .fail)
 (fun m _ ih vs ρ k=>List.casesOn (motive:=fun _=>bD) vs .fail fun v vs=>onL v fun n xs=>cond (Nat.beq n m) (ih vs (.l n xs::ρ) k) .fail) ms
abbrev KFn:=Nat->List KW->List KW->bD
abbrev KHd:=Nat->Nat->List KW->bD
abbrev Den:=KFn->KHd->List KW->bD
def onR (r:bD) (k:List KW->List KW->bD):bD:=bD.casesOn (motive:=fun _=>bD) r .fail k fun _=> .fail
def atb (o:KO) (_:oo) (ih:Den):Den:=fun call head ρ=>kop o ρ fun x=>ih call head (.c x::ρ)
def aty (aj:Nat) (s i:KA) (_:oo) (ih:Den):Den:=fun call head ρ=>kA ρ s fun x=>kA ρ i fun y=>F9 aj x y fun xs=>ih call head (.l aj xs::ρ)
def asB (a:KA) (_ _:oo) (it ie:Den):Den:=fun call head ρ=>kA ρ a fun x=>onB x fun b=>Bool.casesOn (motive:=fun _=>bD) b (ie call head ρ) (it call head ρ)
def ann (f:Nat) (args:List KV) (bs:List KS) (rs:List (Option Nat)) (bl:List Nat) (_:oo) (ih:Den):Den:=fun call head ρ=>kVs ρ args fun aJ=>kSs ρ bs fun xs=>onR (call f aJ xs) fun vs ys=>rA rs vs ρ fun ρ=>Aa bl ys ρ fun ρ=>ih call head ρ
def aoU (h n:Nat) (args:List KV):Den:=fun _ head ρ=>kPs ρ args [] fun ws=>head h n ws
def as7 (rs:List KV) (bs:List KS):Den:=fun _ _ ρ=>kVs ρ rs fun vs=>kSs ρ bs fun xs=> .ret vs xs
def xx (t:oo):Den:=oo.rec (motive:=fun _=>Den) atb aty asB ann aoU as7 (fun _ _ _=> .fail) t
structure GG where
 params:List (Option Nat)
 boxes:List Nat
 body:oo
 heads:List (Nat×oo)
inductive KG where
 |leaf
 |node (k:Nat) (f:GG) (l r:KG)
def KG.get (g:KG):Nat->(GG->bD)->bD:=KG.rec (motive:=fun _=>Nat->(GG->bD)->bD) (fun _ _=> .fail) (fun k f _ _ il ir n r=>cond (Nat.beq n k) (r f) (cond (Nat.ble n k) (il n r) (ir n r))) g
def Yf (l:List (Nat×oo)):Nat->Nat->(oo->bD)->bD:=List.rec (motive:=fun _=>Nat->Nat->(oo->bD)->bD) (fun _ _ _=> .fail) (fun p _ ih i n k=>Nat.casesOn (motive:=fun _=>bD) i (Prod.casesOn (motive:=fun _=>bD) p fun m t=>cond (Nat.beq m n) (k t) .fail) fun j=>ih j n k) l
def adt (G:KG) (call:KFn) (head:Nat->KHd):KFn:=fun f aJ bs=>G.get f fun tf=>rA tf.params aJ [] fun ρ=>Aa tf.boxes bs ρ fun ρ=>xx tf.body call (head f) ρ
def kgo (G:KG) (f:Nat) (call:KFn) (head:KHd):KHd:=fun h n ws=>G.get f fun tf=>Yf tf.heads h n fun t=>xx t call head ws
structure Zm where
 fn:KFn
 hd:Nat->KHd
def jm (G:KG) (n:Nat):Zm:=Nat.rec (motive:=fun _=>Zm) ⟨fun _ _ _=> .fail,fun _ _ _ _=> .fail⟩ (fun _ r=>Zm.casesOn (motive:=fun _=>Zm) r fun fn hd=>⟨adt G fn hd,fun f=>kgo G f fn (hd f)⟩) n
def UT (G:KG) (call:KFn) (f h0 a:Nat) (n:Nat):KHd:=Nat.rec (motive:=fun _=>KHd) (fun _ _ _=> .fail) (fun _ ih h n ws=>cond (Nat.beq h h0) (cond (Nat.beq n a) (.stop ws) .fail) (kgo G f call ih h n ws)) n
def adz (r:bD) (k:List KW->bD):bD:=bD.casesOn (motive:=fun _=>bD) r .fail (fun _ _=> .fail) k
def lD (G:KG) (n m f h0 a:Nat) (rounds:Nat):List KW->bD:=Nat.rec (motive:=fun _=>List KW->bD) (fun ws=> .stop ws) (fun _ ih ws=>adz (kgo G f (jm G n).fn (UT G (jm G n).fn f h0 a m) h0 a ws) ih) rounds
def RF (G:KG) (n m f h0 a:Nat):List KW->List KW->bD:=adt G (jm G n).fn (fun _=>UT G (jm G n).fn f h0 a m) f
end
def strOf:Nat->Nat->List UInt8
 |0,_=>[]
 |l+1,w=>UInt8.ofNat (w % 256)::strOf l (w / 256)
def mq:List UInt8->Nat
 |[]=>0
 |x::xs=>x.toNat+256 * mq xs
theorem yz:∀l w,(strOf l w).length=l
 |0,_=>rfl
 |l+1,w=>by simp [strOf,yz l]
theorem LM:∀xs:List UInt8,mq xs < 256 ^ xs.length
 |[]=>by simp [mq]
 |x::xs=>by have h1:=LM xs;have h2:=x.toNat_lt;simp only [mq,C5,Mn];omega
theorem zT:∀xs:List UInt8,strOf xs.length (mq xs)=xs
 |[]=>rfl
 |x::xs=>by
  have h2:=x.toNat_lt;simp only [C5,strOf,mq];rw [show (x.toNat+256 * mq xs) % 256=x.toNat by omega,show (x.toNat+256 * mq xs) / 256=mq xs by omega,zT xs]
  simp
theorem F4:∀l w,w < 256 ^ l->mq (strOf l w)=w
 |0,w,h=>by simp at h;subst h;rfl
 |l+1,w,h=>by
  rw [Mn] at h;have h1:w / 256 < 256 ^ l:=by omega
  simp only [strOf,mq,F4 l _ h1];have:(UInt8.ofNat (w % 256)).toNat=w % 256:=by simp
  omega
mutual
inductive RK:K->C->Prop
 |i (k n):RK (.i k n) (.lit (.int k n))
 |b (x):RK (.b x) (.lit (.bool x))
 |s (len w) (b:ByteArray) (hb:b.data.toList=strOf len w) (hw:w < 256 ^ len):RK (.s len w) (.lit (.string b))
 |o (v):RK (.o v) (.lit v)
 |sl (aj rev n cs) (h:nO aj rev cs) (hn:rev.length=n):RK (.sl aj rev n) (.slice cs n)
inductive gJ:List K->List C->Prop
 |nil:gJ [] []
 |cons {x c xs cs}:RK x c->gJ xs cs->gJ (x::xs) (c::cs)
inductive nO:Nat->List (List K)->List C->Prop
 |nil {aj}:nO aj [] []
 |cons {aj row r rev cs}:gJ row r->row.length=aj->nO aj rev cs->nO aj (row::rev) (cs++r)
end
def RKW:KW->W->Prop
 |.c x,.c c=>RK x c
 |.l n xs,.l cs=>gJ xs cs/\xs.length=n
 |_,_=>False
def RE (ρ:List KW) (ρ':List W):Prop:=av RKW ρ ρ'.reverse
theorem RE.nil:RE [] []:=trivial
theorem RE.push {ρ:List KW} {ρ':List W} (h:RE ρ ρ') {w:KW} {w':W} (hw:RKW w w'):RE (w::ρ) (ρ'++[w']):=by unfold RE;rw [List.reverse_append];exact ⟨hw,h⟩
theorem RE.len {ρ:List KW} {ρ':List W} (h:RE ρ ρ'):ρ.length=ρ'.length:=by
 have:=av.len h
 simpa using this
theorem WA:∀(ρ:List W) (i:Nat),gG ρ i=ρ[i]?
 |[],_=>rfl
 |_::_,0=>rfl
 |_::r,i+1=>by simp [gG,WA r i]
theorem RE.get {ρ:List KW} {ρ':List W} (h:RE ρ ρ') {i:Nat} (hi:i < ρ'.length) {w:KW} (hw:ρ[ρ'.length - 1 - i]?=some w):∃w',gG ρ' i=some w'/\RKW w w':=by
 obtain ⟨w',h1,h2⟩:=av.get _ h hw;refine ⟨w',?_,h2⟩;rw [WA];rw [List.getElem?_reverse (by omega)] at h1
 rw [<-h1];congr 1;omega
theorem gJ.len {xs:List K} {cs:List C} (h:gJ xs cs):xs.length=cs.length:=by
 induction xs generalizing cs with
 |nil=>cases h;rfl
 |cons x xs ih=>cases h with|cons h1 h2=>simp [ih h2]
theorem gJ.nth {xs:List K} {cs:List C} (h:gJ xs cs) {j:Nat} {x:K} (hj:xs[j]?=some x):RK x (ak cs j):=by
 induction xs generalizing cs j with
 |nil=>simp at hj
 |cons y xs ih=>
  cases h with
  |cons h1 h2=>
   cases j with
   |zero=>simp only [C0,A0] at hj;subst hj;exact h1
   |succ j=>exact ih h2 (by simpa using hj)
def ags:Value->K
 |.int k n=> .i k n
 |.bool b=> .b b
 |.string s=> .s s.data.toList.length (mq s.data.toList)
 |v=> .o v
theorem Z6 (v:Value):RK (ags v) (.lit v):=by
 cases v<;>first|exact .i _ _|exact .b _|exact .o _|skip
 rename_i s;exact .s _ _ s (zT _).symm (LM _)
def cI (n i:Nat):Nat:=if i < n then n - 1 - i else n
def cA (n:Nat):At->KA
 |.v i=> .v (cI n i)
 |.n i j=> .n (cI n i) j
 |.k v=> .k (ags v)
 |.z=> .k (.sl 0 [] 0)
section
variable {a:bD} {ρ:List KW} {ρ':List W}
theorem Mj {k:KW->bD}:∀{l:List KW} {i:Nat},VF l i k=a->a≠.fail->∃w,l[i]?=some w/\k w=a
 |[],i,h,ha=>absurd h.symm ha
 |w::l,0,h,ha=>⟨w,rfl,h⟩
 |w::l,i+1,h,ha=>by obtain ⟨w',h1,h2⟩:=Mj (l:=l) (i:=i) h ha;exact ⟨w',by simpa using h1,h2⟩
theorem Zt {k:K->bD}:∀{l:List K} {i:Nat},aih l i k=a->a≠.fail->∃w,l[i]?=some w/\k w=a
 |[],i,h,ha=>absurd h.symm ha
 |w::l,0,h,ha=>⟨w,rfl,h⟩
 |w::l,i+1,h,ha=>by obtain ⟨w',h1,h2⟩:=Zt (l:=l) (i:=i) h ha;exact ⟨w',by simpa using h1,h2⟩
theorem Yw (h:RE ρ ρ') {i:Nat} {w:KW} (hw:ρ[cI ρ'.length i]?=some w):∃w',gG ρ' i=some w'/\RKW w w':=by
 unfold cI at hw;split at hw
 ·rename_i hi;exact h.get hi hw
 ·rw [Hp (by rw [h.len];exact An _)] at hw;cases hw
theorem zz (h:RE ρ ρ') {x:At} {k:K->bD} (hk:kA ρ (cA ρ'.length x) k=a) (ha:a≠.fail):∃y c,RK y c/\dH ρ' x=some c/\k y=a:=by
 cases x with
 |v i=>
  obtain ⟨w,h1,h2⟩:=Mj (show VF ρ (cI ρ'.length i) (fun w=>onC w k)=a from hk) ha
  obtain ⟨w',h3,h4⟩:=Yw h h1;cases w with
  |c y=>cases w' with
   |c c=>exact ⟨y,c,h4,by simp [dH,h3],h2⟩
   |l _=>exact h4.elim
  |l _ _=>exact absurd h2.symm ha
 |n i j=>
  obtain ⟨w,h1,h2⟩:=Mj (show VF ρ (cI ρ'.length i) (fun w=>onL w fun _ xs=>aih xs j k)=a from hk) ha
  obtain ⟨w',h3,h4⟩:=Yw h h1;cases w with
  |c y=>exact absurd h2.symm ha
  |l m xs=>cases w' with
   |c c=>exact h4.elim
   |l cs=>
    obtain ⟨y,h5,h6⟩:=Zt (show aih xs j k=a from h2) ha
    exact ⟨y,ak cs j,h4.1.nth h5,by simp [dH,h3],h6⟩
 |k v=>exact ⟨ags v,.lit v,Z6 v,rfl,hk⟩
 |z=>exact ⟨.sl 0 [] 0,.slice [] 0,.sl 0 [] 0 [] .nil rfl,rfl,hk⟩
theorem Si (h:RE ρ ρ'):∀{l:List At} {k:List K->bD},kAs ρ (l.map (cA ρ'.length)) k=a->a≠.fail->∃ys cs,gJ ys cs/\ys.length=l.length/\nA ρ' l=some cs/\k ys=a
 |[],k,hk,ha=>⟨[],[],.nil,rfl,rfl,hk⟩
 |x::l,k,hk,ha=>by
  obtain ⟨y,c,h1,h2,h3⟩:=zz h (show kA ρ (cA ρ'.length x) (fun x=>kAs ρ (l.map (cA ρ'.length)) fun xs=>k (x::xs))=a from hk) ha
  obtain ⟨ys,cs,h4,h7,h5,h6⟩:=Si h (l:=l) h3 ha;exact ⟨y::ys,c::cs,.cons h1 h4,by simp [h7],by simp [nA,h2,h5],h6⟩
def cS (n:Nat):SL->KS
 |.lit aJ=> .lit aJ.length (aJ.map (cA n))
 |.all i=> .all (cI n i)
theorem Ur (h:RE ρ ρ') {s:SL} {k:Nat->List K->bD} (hk:kS ρ (cS ρ'.length s) k=a) (ha:a≠.fail):∃n ys cs,gJ ys cs/\ys.length=n/\Tt ρ' s=some cs/\k n ys=a:=by
 cases s with
 |lit aJ=>
  obtain ⟨ys,cs,h1,h2,h3,h4⟩:=Si h (show kAs ρ (aJ.map (cA ρ'.length)) (fun xs=>k aJ.length xs)=a from hk) ha
  exact ⟨aJ.length,ys,cs,h1,h2,h3,h4⟩
 |all i=>
  obtain ⟨w,h1,h2⟩:=Mj (show VF ρ (cI ρ'.length i) (fun w=>onL w k)=a from hk) ha
  obtain ⟨w',h3,h4⟩:=Yw h h1;cases w with
  |c y=>exact absurd h2.symm ha
  |l m xs=>cases w' with
   |c c=>exact h4.elim
   |l cs=>exact ⟨m,xs,cs,h4.1,h4.2,by simp [Tt,h3],h2⟩
def RB:KW->List C->Prop
 |.l n xs,cs=>gJ xs cs/\xs.length=n
 |.c _,_=>False
def TY:KW->V->Prop
 |.c x,.one c=>RK x c
 |.l n xs,.agg cs=>gJ xs cs/\xs.length=n
 |_,_=>False
theorem Xw (h:RE ρ ρ'):∀{l:List SL} {k:List KW->bD},kSs ρ (l.map (cS ρ'.length)) k=a->a≠.fail->∃ys css,av RB ys css/\DK ρ' l=some css/\k ys=a
 |[],k,hk,ha=>⟨[],[],trivial,rfl,hk⟩
 |s::l,k,hk,ha=>by
  obtain ⟨n,ys,cs,h1,h2,h3,h4⟩:=Ur h (show kS ρ (cS ρ'.length s) (fun n x=>kSs ρ (l.map (cS ρ'.length)) fun xs=>k (.l n x::xs))=a from hk) ha
  obtain ⟨zs,css,h5,h6,h7⟩:=Xw h (l:=l) h4 ha;exact ⟨.l n ys::zs,cs::css,⟨⟨h1,h2⟩,h5⟩,by simp [DK,h3,h6],h7⟩
def cV (n:Nat):TV->KV
 |.one x=> .one (cA n x)
 |.agg s=> .agg (cS n s)
theorem ajR (h:RE ρ ρ') {v:TV} {k:KW->bD} (hk:kV ρ (cV ρ'.length v) k=a) (ha:a≠.fail):∃y u,TY y u/\Ua ρ' v=some u/\k y=a:=by
 cases v with
 |one x=>
  obtain ⟨y,c,h1,h2,h3⟩:=zz h (show kA ρ (cA ρ'.length x) (fun x=>k (.c x))=a from hk) ha
  exact ⟨.c y,.one c,h1,by simp [Ua,h2],h3⟩
 |agg s=>
  obtain ⟨n,ys,cs,h1,h2,h3,h4⟩:=Ur h (show kS ρ (cS ρ'.length s) (fun n xs=>k (.l n xs))=a from hk) ha
  exact ⟨.l n ys,.agg cs,⟨h1,h2⟩,by simp [Ua,h3],h4⟩
theorem afn (h:RE ρ ρ'):∀{l:List TV} {k:List KW->bD},kVs ρ (l.map (cV ρ'.length)) k=a->a≠.fail->∃ys us,av TY ys us/\Dl ρ' l=some us/\k ys=a
 |[],k,hk,ha=>⟨[],[],trivial,rfl,hk⟩
 |v::l,k,hk,ha=>by
  obtain ⟨y,u,h1,h2,h3⟩:=ajR h (show kV ρ (cV ρ'.length v) (fun x=>kVs ρ (l.map (cV ρ'.length)) fun xs=>k (x::xs))=a from hk) ha
  obtain ⟨zs,us,h5,h6,h7⟩:=afn h (l:=l) h3 ha;exact ⟨y::zs,u::us,⟨h1,h5⟩,by simp [Dl,h2,h6],h7⟩
def cTA (n:Nat):List TA->List KV
 |[]=>[]
 |.v x::l=>cV n x::cTA n l
 |.ref _ _::l=>cTA n l
def RLs:List TA->List KW->List LA->Prop
 |[],[],[]=>True
 |.v _::ts,y::ys,.v u::us=>TY y u/\RLs ts ys us
 |.ref b off::ts,ys,.ref b' off'::us=>b'=b/\off'=off/\RLs ts ys us
 |_,_,_=>False
theorem RJ (h:RE ρ ρ'):∀{l:List TA} {k:List KW->bD},kVs ρ (cTA ρ'.length l) k=a->a≠.fail->∃ys us,RLs l ys us/\sj ρ' l=some us/\k ys=a
 |[],k,hk,ha=>⟨[],[],trivial,rfl,hk⟩
 |.v v::l,k,hk,ha=>by
  obtain ⟨y,u,h1,h2,h3⟩:=ajR h (show kV ρ (cV ρ'.length v) (fun x=>kVs ρ (cTA ρ'.length l) fun xs=>k (x::xs))=a from hk) ha
  obtain ⟨zs,us,h5,h6,h7⟩:=RJ h (l:=l) h3 ha;exact ⟨y::zs,.v u::us,⟨h1,h5⟩,by simp [sj,XY,h2,h6],h7⟩
 |.ref b off::l,k,hk,ha=>by
  obtain ⟨zs,us,h5,h6,h7⟩:=RJ h (l:=l) (show kVs ρ (cTA ρ'.length l) k=a from hk) ha
  exact ⟨zs,.ref b off::us,⟨rfl,rfl,h5⟩,by simp [sj,XY,h6],h7⟩
def cTW (n:Nat):TW->KV
 |.c x=> .one (cA n x)
 |.l s=> .agg (cS n s)
theorem afO (h:RE ρ ρ'):∀{l:List TW} {acc:List KW} {acc':List W} {k:List KW->bD},RE acc acc'->kPs ρ (l.map (cTW ρ'.length)) acc k=a->a≠.fail->∃ws ws',RE ws (acc'++ws')/\fQ ρ' l=some ws'/\k ws=a
 |[],acc,acc',k,hacc,hk,ha=>⟨acc,[],by rw [Cl];exact hacc,rfl,hk⟩
 |w::l,acc,acc',k,hacc,hk,ha=>by
  have hw:∃y u,RKW y u/\Z8 ρ' w=some u/\kPs ρ (l.map (cTW ρ'.length)) (y::acc) k=a:=by
   cases w with
   |c x=>
    obtain ⟨y,c,h1,h2,h3⟩:=zz h (show kA ρ (cA ρ'.length x) (fun x=>kPs ρ (l.map (cTW ρ'.length)) (.c x::acc) k)=a from hk) ha
    exact ⟨.c y,.c c,h1,by simp [Z8,h2],h3⟩
   |l s=>
    obtain ⟨n,ys,cs,h1,h2,h3,h4⟩:=Ur h (show kS ρ (cS ρ'.length s) (fun n xs=>kPs ρ (l.map (cTW ρ'.length)) (.l n xs::acc) k)=a from hk) ha
    exact ⟨.l n ys,.l cs,⟨h1,h2⟩,by simp [Z8,h3],h4⟩
  obtain ⟨y,u,h1,h2,h3⟩:=hw;obtain ⟨ws,ws',h4,h5,h6⟩:=afO h (l:=l) (hacc.push h1) h3 ha;exact ⟨ws,u::ws',by rw [B9] at h4;exact h4,by simp [fQ,h2,h5],h6⟩
end
end Go.Ey
namespace Go.Ey
theorem aaF (b:ByteArray):∀(n i:Nat) (r:List UInt8),b.size - i=n->ByteArray.toList.loop b i r=r.reverse++b.data.toList.drop i
 |0,i,r,h=>by
  have hs:b.data.toList.length=b.size:=rfl;rw [ByteArray.toList.loop,E0 (by omega),List.drop_eq_nil_of_le (by omega)]
  simp
 |n+1,i,r,h=>by
  have hs:b.data.toList.length=b.size:=rfl;have hi:i < b.data.toList.length:=by omega
  rw [ByteArray.toList.loop,C6 (by omega),aaF b n (i+1) (b.get! i::r) (by omega),Hh hi]
  have:b.get! i=b.data.toList[i]:=by have h1:b.get! i=b.data[i]!:=rfl;rw [h1,getElem!_pos b.data i (by rw [Array.length_toList] at hi;exact hi),Array.getElem_toList]
  simp [this]
theorem Mh (b:ByteArray):b.toList=b.data.toList:=by unfold ByteArray.toList;rw [aaF _ _ 0 [] rfl];simp
section
variable {a:bD} {ρ:List KW} {ρ':List W}
theorem jc (n:Nat) (k:Nat->bD):jB n k=k n:=by cases n<;>rfl
theorem P6 (n:Int) (k:Int->bD):XP n k=k n:=by
 cases n with
 |ofNat m=>exact jc m fun m=>k (.ofNat m)
 |negSucc m=>exact jc m fun m=>k (.negSucc m)
theorem abr (b:Bool) (k:Bool->bD):afS b k=k b:=by cases b<;>rfl
theorem si {α:Type}:∀(l:List α) (k:List α->bD),Bf l k=k l
 |[],_=>rfl
 |x::l,k=>si l fun r=>k (x::r)
theorem dn {b:Bool} {x:bD} (h:(cond b x .fail)=a) (ha:a≠.fail):b=true/\x=a:=by
 cases b
 ·exact absurd h.symm ha
 ·exact ⟨rfl,h⟩
theorem BD {b:Bool} {x:bD} (h:(cond b .fail x)=a) (ha:a≠.fail):b=false/\x=a:=by
 cases b
 ·exact ⟨rfl,h⟩
 ·exact absurd h.symm ha
theorem qz {x:K} {k:IntKind->Int->bD} (h:Sv x k=a) (ha:a≠.fail):∃p n,x=.i p n/\k p n=a:=by cases x<;>first|exact ⟨_,_,rfl,h⟩|exact absurd h.symm ha
theorem Y0 {x:K} {k:Bool->bD} (h:onB x k=a) (ha:a≠.fail):∃p,x=.b p/\k p=a:=by cases x<;>first|exact ⟨_,rfl,h⟩|exact absurd h.symm ha
theorem NZ {x:K} {k:Nat->Nat->bD} (h:onS x k=a) (ha:a≠.fail):∃l w,x=.s l w/\k l w=a:=by cases x<;>first|exact ⟨_,_,rfl,h⟩|exact absurd h.symm ha
theorem He {x:K} {k:Nat->List (List K)->Nat->bD} (h:abB x k=a) (ha:a≠.fail):∃e r n,x=.sl e r n/\k e r n=a:=by cases x<;>first|exact ⟨_,_,_,rfl,h⟩|exact absurd h.symm ha
theorem Bl {n:Int} {k:Nat->bD} (h:Xb n k=a) (ha:a≠.fail):∃m:Nat,n=(m:Int)/\k m=a:=by
 cases n with
 |ofNat m=>exact ⟨m,rfl,h⟩
 |negSucc m=>exact absurd h.symm ha
theorem acy {p q:IntKind} (h:Nat.beq (kk p) (kk q)=true):p=q:=by cases p<;>cases q<;>first|rfl|exact absurd h (by decide)
theorem BQ {x y:K} {k:IntKind->Int->Int->bD} (h:Bu x y k=a) (ha:a≠.fail):∃p n m,x=.i p n/\y=.i p m/\k p n m=a:=by
 obtain ⟨p,n,h1,h2⟩:=qz h ha;obtain ⟨q,m,h3,h4⟩:=qz h2 ha;obtain ⟨h5,h6⟩:=dn h4 ha;have:=acy h5
 subst this;exact ⟨p,n,m,h1,h3,h6⟩
theorem Cy (n m:Int):WZ n m=(n==m):=by rw [Ks];cases n<;>cases m<;>simp [WZ,Nat.beq_eq]<;>omega
theorem Jm (n m:Int):klt n m=decide (n < m):=by rw [Ks];cases n<;>cases m<;>simp [klt,Ln]<;>omega
theorem adl (q:Int) (h1:0 < q) (h2:q<=9223372036854775808):IntKind.i64.wrap (-q)=-q:=by
 have h3:(-q) % 2 ^ 64=-q+18446744073709551616:=by omega
 simp only [IntKind.wrap,IntKind.bits,h3];rw [C6 (by simp [IntKind.signed];omega)]
 omega
theorem abO (m:Nat):(cond (Nat.ble m 9223372036854775807) (Int.negSucc m) (IntKind.i64.wrap (Int.negSucc m)))=IntKind.i64.wrap (Int.negSucc m):=by
 by_cases h:m<=9223372036854775807
 ·rw [show Nat.ble m 9223372036854775807=true from by rw [Ln];exact h,F1,Int.negSucc_eq,adl _ (by omega) (by omega)]
 ·rw [show Nat.ble m 9223372036854775807=false from by rw [Bool.eq_false_iff];intro e;rw [Ln] at e;exact h e,Ek]
theorem adM (k:IntKind) (n:Int):afb k n=k.wrap n:=by
 unfold afb;split
 ·rename_i m;cases h:Nat.ble m 9223372036854775807 with
  |false=>rfl
  |true=>
   rw [Ln] at h;have h2:(Int.ofNat m) % 2 ^ 64=(Int.ofNat m):=by simp only [Int.ofNat_eq_natCast];omega
   simp only [F1,IntKind.wrap,IntKind.bits,h2];rw [E0 (by simp [IntKind.signed];omega)]
 ·rename_i m;cases h:Nat.ble m 255 with
  |false=>rfl
  |true=>
   rw [Ln] at h;have h2:(Int.ofNat m) % 2 ^ 8=(Int.ofNat m):=by simp only [Int.ofNat_eq_natCast];omega
   simp only [F1,IntKind.wrap,IntKind.bits,h2];rw [E0 (by simp [IntKind.signed])]
 ·exact abO _
 ·rfl
end
end Go.Ey
namespace Go.Ey
section
variable {a:bD} {ρ:List KW} {ρ':List W}
theorem RK.int {p:IntKind} {n:Int} {c:C} (h:RK (.i p n) c):c=.lit (.int p n):=by cases h;rfl
theorem RK.bool {x:Bool} {c:C} (h:RK (.b x) c):c=.lit (.bool x):=by cases h;rfl
theorem RK.str {l w:Nat} {c:C} (h:RK (.s l w) c):∃b:ByteArray,c=.lit (.string b)/\b.data.toList=strOf l w/\w < 256 ^ l:=by
 cases h with
 |s _ _ b hb hw=>exact ⟨b,rfl,hb,hw⟩
theorem RK.sli {e n:Nat} {r:List (List K)} {c:C} (h:RK (.sl e r n) c):∃cs,c=.slice cs n/\nO e r cs/\r.length=n:=by
 cases h with
 |sl _ _ _ cs h hn=>exact ⟨cs,rfl,h,hn⟩
theorem two (h:RE ρ ρ') {x y:At} {f:K->K->bD} (hk:(kA ρ (cA ρ'.length x) fun u=>kA ρ (cA ρ'.length y) fun v=>f u v)=a) (ha:a≠.fail):
  ∃u v c d,RK u c/\RK v d/\dH ρ' x=some c/\dH ρ' y=some d/\f u v=a:=by
 obtain ⟨u,c,h1,h2,h3⟩:=zz h hk ha;obtain ⟨v,d,h4,h5,h6⟩:=zz h h3 ha;exact ⟨u,v,c,d,h1,h4,h2,h5,h6⟩
theorem J5 (k:IntKind) (n:Int) (r:K->bD):kIn k n r=r (.i k (k.wrap n)):=by unfold kIn;rw [P6,adM]
theorem EB (b:Bool) (r:K->bD):Qk b r=r (.b b):=abr b _
theorem abC {l w m v:Nat} (hw:w < 256 ^ l) (hv:v < 256 ^ m):(strOf l w=strOf m v)↔(l=m/\w=v):=by
 constructor
 ·intro h;have h1:l=m:=by have:=E6 List.length h;rwa [yz,yz] at this
  subst h1;refine ⟨rfl,?_⟩;have:=E6 mq h
  rwa [F4 _ _ hw,F4 _ _ hv] at this
 ·rintro ⟨rfl,rfl⟩;rfl
theorem RP {l w m v:Nat} {b d:ByteArray} (hb:b.data.toList=strOf l w) (hw:w < 256 ^ l) (hd:d.data.toList=strOf m v) (hv:v < 256 ^ m):(b.toList==d.toList)=(Nat.beq l m && Nat.beq w v):=by rw [Ks,K1,Mh,Mh,hb,hd,abC hw hv];simp [Nat.beq_eq]
abbrev I6 (a:bD) (ρ':List W) (o:OpC) (k:K->bD):Prop:=∃y c,RK y c/\dP ρ' o=some c/\k y=a
theorem ints {op:BinOp} {x y:At} {k:K->bD} {g:IntKind->Int->Int->bD} (hs:gM op=false) (h:RE ρ ρ') (hk:(kA ρ (cA ρ'.length x) fun u=>kA ρ (cA ρ'.length y) fun v=>Bu u v g)=a) (ha:a≠.fail)
  (hg:∀p n m,g p n m=a->∃z v,RK z (.lit v)/\jV op p n m=some v/\k z=a):I6 a ρ' (.bin op false x y) k:=by
 obtain ⟨u,v,c,d,h1,h2,h3,h4,h5⟩:=two h hk ha;obtain ⟨p,n,m,rfl,rfl,h6⟩:=BQ h5 ha;rw [h1.int] at h3;rw [h2.int] at h4;obtain ⟨z,w,h7,h8,h9⟩:=hg p n m h6;exact ⟨z,.lit w,h7,by simp [dP,h3,h4,bW,r9,hs,h8],h9⟩
theorem akv (h:RE ρ ρ') {x y:At} {k:K->bD} (hk:aqy (cA ρ'.length x) (cA ρ'.length y) ρ k=a) (ha:a≠.fail):I6 a ρ' (.bin .sub false x y) k:=
 ints rfl h hk ha fun p n m hg=>⟨_,_,.i _ _,rfl,by rw [<-hg,J5]⟩
theorem akz (h:RE ρ ρ') {x y:At} {k:K->bD} (hk:aqa (cA ρ'.length x) (cA ρ'.length y) ρ k=a) (ha:a≠.fail):I6 a ρ' (.bin .mul false x y) k:=
 ints rfl h hk ha fun p n m hg=>⟨_,_,.i _ _,rfl,by rw [<-hg,J5]⟩
theorem aj5 (h:RE ρ ρ') {x y:At} {k:K->bD} (hk:apv (cA ρ'.length x) (cA ρ'.length y) ρ k=a) (ha:a≠.fail):I6 a ρ' (.bin .quo false x y) k:=
 ints rfl h hk ha fun p n m hg=>by obtain ⟨h1,h2⟩:=BD hg ha;rw [Cy] at h1;exact ⟨_,_,.i _ _,by simp only [jV];rw [E0 (by simpa using h1)],by rw [<-h2,J5]⟩
theorem alF (h:RE ρ ρ') {x y:At} {k:K->bD} (hk:apB (cA ρ'.length x) (cA ρ'.length y) ρ k=a) (ha:a≠.fail):I6 a ρ' (.bin .rem false x y) k:=
 ints rfl h hk ha fun p n m hg=>by obtain ⟨h1,h2⟩:=BD hg ha;rw [Cy] at h1;exact ⟨_,_,.i _ _,by simp only [jV];rw [E0 (by simpa using h1)],by rw [<-h2,P6]⟩
theorem am7 (h:RE ρ ρ') {x y:At} {k:K->bD} (hk:aoE (cA ρ'.length x) (cA ρ'.length y) ρ k=a) (ha:a≠.fail):I6 a ρ' (.bin .lss false x y) k:=
 ints rfl h hk ha fun p n m hg=>⟨_,_,.b _,rfl,by rw [<-hg,EB,Jm]⟩
theorem amD (h:RE ρ ρ') {x y:At} {k:K->bD} (hk:an2 (cA ρ'.length x) (cA ρ'.length y) ρ k=a) (ha:a≠.fail):I6 a ρ' (.bin .gtr false x y) k:=
 ints rfl h hk ha fun p n m hg=>⟨_,_,.b _,rfl,by rw [<-hg,EB,Jm]⟩
theorem al8 (h:RE ρ ρ') {x y:At} {k:K->bD} (hk:anE (cA ρ'.length x) (cA ρ'.length y) ρ k=a) (ha:a≠.fail):I6 a ρ' (.bin .leq false x y) k:=
 ints rfl h hk ha fun p n m hg=>⟨_,_,.b _,rfl,by rw [<-hg,EB,Jm];congr 2;rw [Ks];simp⟩
theorem akm (h:RE ρ ρ') {x y:At} {k:K->bD} (hk:anv (cA ρ'.length x) (cA ρ'.length y) ρ k=a) (ha:a≠.fail):I6 a ρ' (.bin .geq false x y) k:=
 ints rfl h hk ha fun p n m hg=>⟨_,_,.b _,rfl,by rw [<-hg,EB,Jm];congr 2;rw [Ks];simp⟩
theorem afE {u v:K} {c d:C} (hu:RK u c) (hv:RK v d) {g:Bool->bD} (hk:Pm u v g=a) (ha:a≠.fail):
  ∃q,g q=a/\bW .eql false c d=some (.lit (.bool q))/\bW .neq false c d=some (.lit (.bool (!q))):=by
 cases u with
 |i p n=>
  obtain ⟨p',n',m,h1,rfl,h2⟩:=BQ (show Bu (.i p n) v (fun _ n m=>g (WZ n m))=a from hk) ha
  injection h1 with e1 e2;subst e1 e2;rw [hu.int,hv.int];refine ⟨_,h2,?_,?_⟩
  ·simp [bW,r9,gM,jV,Cy]
  ·simp [bW,r9,gM,jV,Cy,bne]
 |s l w=>
  obtain ⟨m,x,rfl,h2⟩:=NZ (show onS v (fun m x=>g (and (Nat.beq l m) (Nat.beq w x)))=a from hk) ha
  obtain ⟨b,rfl,hb,hw⟩:=hu.str;obtain ⟨d',rfl,hd,hx⟩:=hv.str;refine ⟨_,h2,?_,?_⟩
  ·simp only [bW,r9,DJ];rw [RP hb hw hd hx];rfl
  ·simp only [bW,r9,DJ];rw [RP hb hw hd hx];rfl
 |b _=>exact absurd hk.symm ha
 |sl _ _ _=>exact absurd hk.symm ha
 |o _=>exact absurd hk.symm ha
theorem amE (h:RE ρ ρ') {x y:At} {k:K->bD} (hk:ape (cA ρ'.length x) (cA ρ'.length y) ρ k=a) (ha:a≠.fail):I6 a ρ' (.bin .eql false x y) k:=by obtain ⟨u,v,c,d,h1,h2,h3,h4,h5⟩:=two h hk ha;obtain ⟨q,h6,h7,_⟩:=afE h1 h2 h5 ha;exact ⟨.b q,_,.b q,by simp [dP,h3,h4,h7],by rw [<-h6,EB]⟩
theorem ak4 (h:RE ρ ρ') {x y:At} {k:K->bD} (hk:aqe (cA ρ'.length x) (cA ρ'.length y) ρ k=a) (ha:a≠.fail):I6 a ρ' (.bin .neq false x y) k:=by obtain ⟨u,v,c,d,h1,h2,h3,h4,h5⟩:=two h hk ha;obtain ⟨q,h6,_,h7⟩:=afE h1 h2 h5 ha;exact ⟨.b (!q),_,.b _,by simp [dP,h3,h4,h7],by rw [<-h6,EB]⟩
theorem anb (h:RE ρ ρ') {x:At} {k:K->bD} (hk:aoF (cA ρ'.length x) ρ k=a) (ha:a≠.fail):I6 a ρ' (.un .not x) k:=by obtain ⟨u,c,h1,h2,h3⟩:=zz h hk ha;obtain ⟨p,rfl,h4⟩:=Y0 h3 ha;rw [h1.bool] at h2;exact ⟨.b (!p),_,.b _,by simp [dP,h2,unC,unV],by rw [<-h4,EB]⟩
theorem akT (h:RE ρ ρ') {x:At} {k:K->bD} (hk:anT (cA ρ'.length x) ρ k=a) (ha:a≠.fail):I6 a ρ' (.un .neg x) k:=by obtain ⟨u,c,h1,h2,h3⟩:=zz h hk ha;obtain ⟨p,n,rfl,h4⟩:=qz h3 ha;rw [h1.int] at h2;exact ⟨.i p (p.wrap (0 - n)),_,.i _ _,by simp [dP,h2,unC,unV],by rw [<-h4,J5]⟩
theorem ag1 (h:RE ρ ρ') {q:IntKind} {x:At} {k:K->bD} (hk:ajJ q (cA ρ'.length x) ρ k=a) (ha:a≠.fail):I6 a ρ' (.conv q x) k:=by obtain ⟨u,c,h1,h2,h3⟩:=zz h hk ha;obtain ⟨p,n,rfl,h4⟩:=qz h3 ha;rw [h1.int] at h2;exact ⟨.i q (q.wrap n),_,.i _ _,by simp [dP,h2,VM],by rw [<-h4,J5]⟩
theorem aqc (h:RE ρ ρ') {x y:At} {k:K->bD} (hk:kMx (cA ρ'.length x) (cA ρ'.length y) ρ k=a) (ha:a≠.fail):I6 a ρ' (.mm true x y) k:=by
 obtain ⟨u,v,c,d,h1,h2,h3,h4,h5⟩:=two h hk ha;obtain ⟨p,n,m,rfl,rfl,h6⟩:=BQ h5 ha;rw [h1.int] at h3;rw [h2.int] at h4;rw [Jm] at h6;refine ⟨.i p (if m > n then m else n),_,.i _ _,by simp [dP,h3,h4,mmC,za],?_⟩
 by_cases hlt:n < m
 ·rw [C6 hlt];simpa [hlt] using h6
 ·rw [E0 hlt];simpa [hlt] using h6
theorem apk (h:RE ρ ρ') {x y:At} {k:K->bD} (hk:kMn (cA ρ'.length x) (cA ρ'.length y) ρ k=a) (ha:a≠.fail):I6 a ρ' (.mm false x y) k:=by
 obtain ⟨u,v,c,d,h1,h2,h3,h4,h5⟩:=two h hk ha;obtain ⟨p,n,m,rfl,rfl,h6⟩:=BQ h5 ha;rw [h1.int] at h3;rw [h2.int] at h4;rw [Jm] at h6;refine ⟨.i p (if m < n then m else n),_,.i _ _,by simp [dP,h3,h4,mmC,za],?_⟩
 by_cases hlt:m < n
 ·rw [C6 hlt];simpa [hlt] using h6
 ·rw [E0 hlt];simpa [hlt] using h6
theorem amF {u v:K} {c d:C} (hu:RK u c) (hv:RK v d) {n:Nat} (hn:Nat.beq (PG u) n=true) {g:Bool->bD} (hk:kEq u v g=a) (ha:a≠.fail):∃q,g q=a/\Jd n c d=some q:=by
 have hn':PG u=n:=Bx hn;subst hn';cases u with
 |i p n=>
  obtain ⟨p',n',m,h1,rfl,h2⟩:=BQ (show Bu (.i p n) v (fun _ n m=>g (WZ n m))=a from hk) ha
  injection h1 with e1 e2;subst e1 e2;rw [hu.int,hv.int];exact ⟨_,h2,by simp [Jd,PG,Cy]⟩
 |s l w=>
  obtain ⟨m,x,rfl,h2⟩:=NZ (show onS v (fun m x=>g (and (Nat.beq l m) (Nat.beq w x)))=a from hk) ha
  obtain ⟨b,rfl,hb,hw⟩:=hu.str;obtain ⟨d',rfl,hd,hx⟩:=hv.str;exact ⟨_,h2,by simp only [Jd,PG];rw [RP hb hw hd hx]⟩
 |b p=>
  obtain ⟨q,rfl,h2⟩:=Y0 (show onB v (fun q=>g (not (xor p q)))=a from hk) ha
  rw [hu.bool,hv.bool];exact ⟨_,h2,by cases p<;>cases q<;>rfl⟩
 |sl _ _ _=>exact absurd hk.symm ha
 |o _=>exact absurd hk.symm ha
theorem aaY:∀{ks:List Nat} {xs ys:List K} {cs ds:List C} {g:Bool->bD},gJ xs cs->gJ ys ds->am8 ks xs ys g=a->a≠.fail->∃q,g q=a/\Cj ks cs ds=some q
 |[],xs,ys,cs,ds,g,hx,hy,hk,ha=>by
  cases xs with
  |cons _ _=>exact absurd hk.symm ha
  |nil=>cases ys with
   |cons _ _=>exact absurd hk.symm ha
   |nil=>cases hx;cases hy;exact ⟨true,hk,rfl⟩
 |n::ks,xs,ys,cs,ds,g,hx,hy,hk,ha=>by
  cases xs with
  |nil=>exact absurd hk.symm ha
  |cons x xs=>cases ys with
   |nil=>exact absurd hk.symm ha
   |cons y ys=>
    cases hx with
    |cons hx1 hx2=>cases hy with
     |cons hy1 hy2=>
      obtain ⟨h1,h2⟩:=dn (show (cond (Nat.beq (PG x) n) (kEq x y fun q=>am8 ks xs ys fun p=>g (and q p)) .fail)=a from hk) ha
      obtain ⟨q,h3,h4⟩:=amF hx1 hy1 h1 h2 ha;obtain ⟨p,h5,h6⟩:=aaY hx2 hy2 h3 ha;exact ⟨_,h5,by simp [Cj,h4,h6]⟩
theorem YC (h:RE ρ ρ') {ks:List Nat} {neg:Bool} {s t:SL} {k:K->bD} (hk:anJ ks neg (cS ρ'.length s) (cS ρ'.length t) ρ k=a) (ha:a≠.fail):I6 a ρ' (.eqs ks neg s t) k:=by
 obtain ⟨_,xs,cs,h1,_,h2,h3⟩:=Ur h hk ha;obtain ⟨_,ys,ds,h4,_,h5,h6⟩:=Ur h h3 ha;obtain ⟨q,h7,h8⟩:=aaY h1 h4 h6 ha;refine ⟨.b (if neg then !q else q),_,.b _,by simp [dP,h2,h5,Ea,h8],?_⟩
 rw [<-h7,EB];cases neg<;>cases q<;>rfl
theorem alx (h:RE ρ ρ') {b:Bool} {x:At} {k:K->bD} (hk:apK b (cA ρ'.length x) ρ k=a) (ha:a≠.fail):I6 a ρ' (.len b x) k:=by
 obtain ⟨u,c,h1,h2,h3⟩:=zz h hk ha;cases u with
 |s l w=>
  obtain ⟨s,rfl,hs,_⟩:=h1.str;obtain ⟨h4,h5⟩:=dn (show (cond b (k (.i .i64 (.ofNat l))) .fail)=a from h3) ha
  subst h4;have:s.size=l:=by
   have:=E6 List.length hs
   rw [yz] at this;exact this
  exact ⟨.i .i64 (.ofNat l),Ec s.size,by rw [this];exact .i _ _,by simp [dP,h2,jk],h5⟩
 |sl e r n=>
  obtain ⟨cs,rfl,_,_⟩:=h1.sli;obtain ⟨h4,h5⟩:=BD (show (cond b .fail (k (.i .i64 (.ofNat n))))=a from h3) ha
  subst h4;exact ⟨.i .i64 (.ofNat n),Ec n,.i _ _,by simp [dP,h2,jk],h5⟩
 |i _ _=>exact absurd h3.symm ha
 |b _=>exact absurd h3.symm ha
 |o _=>exact absurd h3.symm ha
end
end Go.Ey
namespace Go.Ey
noncomputable section
variable {α β:Type}
def fN (n:Nat) (k:Nat->α):α:=Nat.casesOn (motive:=fun _=>α) n (k 0) fun m=>k (Nat.succ m)
def nX (rt n:Nat):Nat->List Nat->List Nat:=Nat.rec (motive:=fun _=>Nat->List Nat->List Nat) (fun _ l=>l) (fun _ ih x l=>cond (Nat.blt x 64) (x::l) (fN (Nat.mod (Nat.shiftRight rt (Nat.mul 20 (Nat.sub x 64))) 1048576) fun p=>fN (Nat.div p 1024) fun a=>fN (Nat.mod p 1024) fun b=>ih a (ih b l))) n
def nT (rt n:Nat):Nat->List Nat->List Nat:=Nat.rec (motive:=fun _=>Nat->List Nat->List Nat) (fun _ l=>l) (fun _ ih s l=>fN s fun s=>cond (Nat.blt s 1024) l (ih (Nat.div s 1024) (fN (Nat.mod s 1024) fun x=>nX rt 64 x l))) n
variable (d:α)
def rC (l:List Nat) (k:Nat->List Nat->α):α:=List.casesOn (motive:=fun _=>α) l d k
def rG (c:Nat):List Nat->(Nat->List Nat->α)->α:=Nat.rec (motive:=fun _=>List Nat->(Nat->List Nat->α)->α) (fun l k=>k 0 l) (fun _ ih l k=>rC d l fun y l=>ih l fun v l=>fN (Nat.add y (Nat.mul 64 v)) fun v=>k v l) c
def rN (l:List Nat) (k:Nat->List Nat->α):α:=rC d l fun x l=>cond (Nat.blt x 48) (k x l) (rG d (Nat.sub x 48) l k)
def rB (l:List Nat) (k:Nat->List Nat->α):α:=rN d l fun n l=>rG d n l k
def rL (p:List Nat->(β->List Nat->α)->α) (l:List Nat) (k:List β->List Nat->α):α:=rN d l fun n l=>Nat.rec (motive:=fun _=>List Nat->(List β->List Nat->α)->α) (fun l k=>k [] l) (fun _ ih l k=>p l fun x l=>ih l fun xs l=>k (x::xs) l) n l k
def rI (l:List Nat) (k:IntKind->List Nat->α):α:=rC d l fun c l=>match c with
 |0=>k .i8 l|1=>k .i16 l|2=>k .i32 l|3=>k .i64 l|4=>k .u8 l|5=>k .u16 l|6=>k .u32 l|_=>k .u64 l
def rK (n:Nat):List Nat->(K->List Nat->α)->α:=Nat.rec (motive:=fun _=>List Nat->(K->List Nat->α)->α) (fun _ _=>d) (fun _ ih l k=>rC d l fun c l=>match c with
 |0=>rI d l fun i l=>rC d l fun s l=>rN d l fun m l=>k (.i i (match s with|0=> .ofNat m|_=> .negSucc m)) l
 |1=>rC d l fun b l=>k (.b (match b with|0=>false|_=>true)) l
 |2=>rN d l fun a l=>rB d l fun w l=>k (.s a w) l
 |_=>rN d l fun e l=>rL d (rL d ih) l fun r l=>rN d l fun n l=>k (.sl e r n) l) n
def rKs:=rL d (rK d 50)
end
end Go.Ey
