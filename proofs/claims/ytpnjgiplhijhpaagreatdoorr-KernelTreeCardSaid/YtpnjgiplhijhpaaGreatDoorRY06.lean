/- A part. -/
import Derived.Test.YtpnjgiplhijhpaaGreatDoorRY02
import Derived.Test.YtpnjgiplhijhpaaGreatDoorRY03
set_option linter.all false
namespace Go.Ey
inductive K where
 |i (k:IntKind) (n:Int)
 |b (x:Bool)
 |s (len w:Nat)
 |sl (aa:Nat) (rev:List (List K)) (n:Nat)
 |o (v:Value)
inductive KW where
 |c (x:K)
 |l (n:Nat) (xs:List K)
inductive KA where
 |v (i:Nat)
 |n (i j:Nat)
 |k (c:K)
inductive KS where
 |lit (n:Nat) (ax:List KA)
 |all (i:Nat)
inductive KV where
 |one (a:KA)
 |agg (s:KS)
inductive KO where
 |add (a b:KA)
 |sub (a b:KA)
 |mul (a b:KA)
 |quo (a b:KA)
 |rem (a b:KA)
 |eql (a b:KA)
 |neq (a b:KA)
 |lss (a b:KA)
 |leq (a b:KA)
 |gtr (a b:KA)
 |geq (a b:KA)
 |not (a:KA)
 |neg (a:KA)
 |conv (k:IntKind) (a:KA)
 |eqs (ks:List Nat) (neg:Bool) (ax bs:KS)
 |len (isStr:Bool) (a:KA)
 |app (aa bytes:Nat) (s t:KA)
 |set (aa:Nat) (s i:KA) (off m:Nat) (vs:List KA)
 |slc (aa:Nat) (s:KA) (lo hi:Option KA)
 |GU (s:KA) (lo hi:Option KA)
 |nM (s i:KA)
 |toStr (s:KA)
 |mk (aa bytes:Nat) (zero:List K) (l c:KA)
 |mx (a b:KA)
 |mn (a b:KA)
 |lits (aa len:Nat) (xs:List KA)
 |shz (a b:KA)
 |anz (a b:KA)
 |is (a:KA) (x:K)
 |isL (i:Nat) (xs:List K)
 |no
inductive gL where
 |aY (o:KO) (t:gL)
 |row (aa:Nat) (s i:KA) (t:gL)
 |ite (a:KA) (t e:gL)
 |call (f:Nat) (args:List KV) (bs:List KS) (rs:List (Option Nat)) (bl:List Nat) (t:gL)
 |goto (h n:Nat) (args:List KV)
 |ret (rs:List KV) (bs:List KS)
 |fail
inductive aB where
 |fail
 |ret (vs bs:List KW)
 |stop (ws:List KW)
noncomputable section
def eU (n:Nat) (k:Nat->aB):aB:=Nat.casesOn (motive:=fun _=>aB) n (k 0) fun m=>k (Nat.succ m)
def JW (n:Int) (k:Int->aB):aB:=Int.casesOn (motive:=fun _=>aB) n (fun m=>eU m fun m=>k (.ofNat m)) (fun m=>eU m fun m=>k (.negSucc m))
def Pv (b:Bool) (k:Bool->aB):aB:=Bool.casesOn (motive:=fun _=>aB) b (k false) (k true)
def mR {α:Type} (l:List α) (k:List α->aB):aB:=List.rec (motive:=fun _=>(List α->aB)->aB) (fun k=>k []) (fun x _ ih k=>ih fun r=>k (x::r)) l k
def GJ (l:List KW):Nat->(KW->aB)->aB:=List.rec (motive:=fun _=>Nat->(KW->aB)->aB) (fun _ _=> .fail) (fun w _ ih i=>Nat.casesOn (motive:=fun _=>(KW->aB)->aB) i (fun k=>k w) ih) l
def Tm (l:List K):Nat->(K->aB)->aB:=List.rec (motive:=fun _=>Nat->(K->aB)->aB) (fun _ _=> .fail) (fun w _ ih i=>Nat.casesOn (motive:=fun _=>(K->aB)->aB) i (fun k=>k w) ih) l
def JX (w:KW) (k:K->aB):aB:=KW.casesOn (motive:=fun _=>aB) w k fun _ _=> .fail
def Rx (w:KW) (k:Nat->List K->aB):aB:=KW.casesOn (motive:=fun _=>aB) w (fun _=> .fail) k
def yR (x:K) (k:IntKind->Int->aB):aB:=K.casesOn (motive_1:=fun _=>aB) x k (fun _=> .fail) (fun _ _=> .fail) (fun _ _ _=> .fail) (fun _=> .fail)
def YO (x:K) (k:Bool->aB):aB:=K.casesOn (motive_1:=fun _=>aB) x (fun _ _=> .fail) k (fun _ _=> .fail) (fun _ _ _=> .fail) (fun _=> .fail)
def wF (n:Int) (k:Nat->aB):aB:=Int.casesOn (motive:=fun _=>aB) n k fun _=> .fail
def MS (x:K) (k:Nat->List (List K)->Nat->aB):aB:=K.casesOn (motive_1:=fun _=>aB) x (fun _ _=> .fail) (fun _=> .fail) (fun _ _=> .fail) k (fun _=> .fail)
def Lb (x:K) (k:Nat->Nat->aB):aB:=K.casesOn (motive_1:=fun _=>aB) x (fun _ _=> .fail) (fun _=> .fail) k (fun _ _ _=> .fail) (fun _=> .fail)
def kk (k:IntKind):Nat:=IntKind.casesOn (motive:=fun _=>Nat) k 0 1 2 3 4 5 6 7
def nH (x y:K) (k:IntKind->Int->Int->aB):aB:=yR x fun p n=>yR y fun q m=>cond (Nat.beq (kk p) (kk q)) (k p n m) .fail
def kA (ρ:List KW) (a:KA) (k:K->aB):aB:=KA.casesOn (motive:=fun _=>aB) a (fun i=>GJ ρ i fun w=>JX w k) (fun i j=>GJ ρ i fun w=>Rx w fun _ xs=>Tm xs j k) k
def Ya (ρ:List KW) (l:List KA):(List K->aB)->aB:=List.rec (motive:=fun _=>(List K->aB)->aB) (fun k=>k []) (fun a _ ih k=>kA ρ a fun x=>ih fun xs=>k (x::xs)) l
def kS (ρ:List KW) (s:KS) (k:Nat->List K->aB):aB:=KS.casesOn (motive:=fun _=>aB) s (fun n ax=>Ya ρ ax fun xs=>k n xs) (fun i=>GJ ρ i fun w=>Rx w k)
def VI (ρ:List KW) (l:List KS):(List KW->aB)->aB:=List.rec (motive:=fun _=>(List KW->aB)->aB) (fun k=>k []) (fun a _ ih k=>kS ρ a fun n x=>ih fun xs=>k (.l n x::xs)) l
def kV (ρ:List KW) (v:KV) (k:KW->aB):aB:=KV.casesOn (motive:=fun _=>aB) v (fun a=>kA ρ a fun x=>k (.c x)) (fun s=>kS ρ s fun n xs=>k (.l n xs))
def Nv (ρ:List KW) (l:List KV):(List KW->aB)->aB:=List.rec (motive:=fun _=>(List KW->aB)->aB) (fun k=>k []) (fun a _ ih k=>kV ρ a fun x=>ih fun xs=>k (x::xs)) l
def YD (ρ:List KW) (l:List KV):List KW->(List KW->aB)->aB:=List.rec (motive:=fun _=>List KW->(List KW->aB)->aB) (fun acc k=>k acc) (fun a _ ih acc k=>kV ρ a fun x=>ih (x::acc) k) l
def yo (k:IntKind) (n:Int):Int:=
 match k,n with
 |.i64,.ofNat m=>cond (Nat.ble m 9223372036854775807) n (k.wrap n)
 |.u8,.ofNat m=>cond (Nat.ble m 255) n (k.wrap n)
 |.i64,.negSucc m=>cond (Nat.ble m 9223372036854775807) n (k.wrap n)
 |k,n=>k.wrap n
def zz:Int->Int->Bool
 |.ofNat a,.ofNat b=>Nat.beq a b
 |.negSucc a,.negSucc b=>Nat.beq a b
 |_,_=>false
def NI:Int->Int->Bool
 |.ofNat a,.ofNat b=>Nat.ble (Nat.succ a) b
 |.negSucc a,.negSucc b=>Nat.ble (Nat.succ b) a
 |.negSucc _,.ofNat _=>true
 |.ofNat _,.negSucc _=>false
def Ua (k:IntKind) (n:Int) (r:K->aB):aB:=JW (yo k n) fun m=>r (.i k m)
def BP (b:Bool) (r:K->aB):aB:=Pv b fun b=>r (.b b)
abbrev Op:=List KW->(K->aB)->aB
def Hw:Nat:=140737488355328
def YZ (a b:KA):Op:=fun ρ r=>kA ρ a fun x=>kA ρ b fun y=>K.casesOn (motive_1:=fun _=>aB) x (fun _ _=>nH x y fun k n m=>Ua k (n+m) r) (fun _=> .fail)
 (fun l v=>Lb y fun m w=>eU (l+m) fun lm=>cond (Nat.ble lm Hw) (eU (v+Nat.shiftLeft w (8 * l)) fun u=>r (.s lm u)) .fail) (fun _ _ _=> .fail) (fun _=> .fail)
def aaV (a b:KA):Op:=fun ρ r=>kA ρ a fun x=>kA ρ b fun y=>nH x y fun k n m=>Ua k (n - m) r
def aaX (a b:KA):Op:=fun ρ r=>kA ρ a fun x=>kA ρ b fun y=>nH x y fun k n m=>Ua k (n * m) r
def aah (a b:KA):Op:=fun ρ r=>kA ρ a fun x=>kA ρ b fun y=>nH x y fun k n m=>cond (zz m 0) .fail (Ua k (n.tdiv m) r)
def abh (a b:KA):Op:=fun ρ r=>kA ρ a fun x=>kA ρ b fun y=>nH x y fun k n m=>cond (zz m 0) .fail (JW (n.tmod m) fun q=>r (.i k q))
def kEq (x y:K) (r:Bool->aB):aB:=K.casesOn (motive_1:=fun _=>aB) x (fun _ _=>nH x y fun _ n m=>r (zz n m)) (fun p=>YO y fun q=>r (not (xor p q))) (fun l v=>Lb y fun m w=>r (and (Nat.beq l m) (Nat.beq v w))) (fun _ _ _=> .fail) (fun _=> .fail)
def BG (x y:K) (r:Bool->aB):aB:=K.casesOn (motive_1:=fun _=>aB) x (fun _ _=>nH x y fun _ n m=>r (zz n m)) (fun _=> .fail) (fun l v=>Lb y fun m w=>r (and (Nat.beq l m) (Nat.beq v w))) (fun _ _ _=> .fail) (fun _=> .fail)
def aac (a b:KA):Op:=fun ρ r=>kA ρ a fun x=>kA ρ b fun y=>BG x y fun q=>BP q r
def abv (a b:KA):Op:=fun ρ r=>kA ρ a fun x=>kA ρ b fun y=>BG x y fun q=>BP (not q) r
def abn (a b:KA):Op:=fun ρ r=>kA ρ a fun x=>kA ρ b fun y=>nH x y fun _ n m=>BP (NI n m) r
def Zz (a b:KA):Op:=fun ρ r=>kA ρ a fun x=>kA ρ b fun y=>nH x y fun _ n m=>BP (not (NI m n)) r
def ZE (a b:KA):Op:=fun ρ r=>kA ρ a fun x=>kA ρ b fun y=>nH x y fun _ n m=>BP (NI m n) r
def aax (a b:KA):Op:=fun ρ r=>kA ρ a fun x=>kA ρ b fun y=>nH x y fun _ n m=>BP (not (NI n m)) r
def Zd (a:KA):Op:=fun ρ r=>kA ρ a fun x=>YO x fun p=>BP (not p) r
def ZX (a:KA):Op:=fun ρ r=>kA ρ a fun x=>yR x fun k n=>Ua k (0 - n) r
def UY (k:IntKind) (a:KA):Op:=fun ρ r=>kA ρ a fun x=>yR x fun _ n=>Ua k n r
def Ch (x:K):Nat:=K.casesOn (motive_1:=fun _=>Nat) x (fun _ _=>0) (fun _=>2) (fun _ _=>1) (fun _ _ _=>3) (fun _=>3)
def XA (ks:List Nat):List K->List K->(Bool->aB)->aB:=List.rec (motive:=fun _=>List K->List K->(Bool->aB)->aB)
 (fun xs ys r=>List.casesOn (motive:=fun _=>aB) xs (List.casesOn (motive:=fun _=>aB) ys (r true) fun _ _=> .fail) fun _ _=> .fail)
 (fun n _ ih xs ys r=>List.casesOn (motive:=fun _=>aB) xs .fail fun x xs=>List.casesOn (motive:=fun _=>aB) ys .fail fun y ys=>cond (Nat.beq (Ch x) n) (kEq x y fun q=>ih xs ys fun p=>r (and q p)) .fail) ks
def aav (ks:List Nat) (neg:Bool) (ax bs:KS):Op:=fun ρ r=>kS ρ ax fun _ xs=>kS ρ bs fun _ ys=>XA ks xs ys fun q=>BP (xor neg q) r
def abe (isStr:Bool) (a:KA):Op:=fun ρ r=>kA ρ a fun x=>K.casesOn (motive_1:=fun _=>aB) x (fun _ _=> .fail) (fun _=> .fail) (fun l _=>cond isStr (r (.i .i64 (.ofNat l))) .fail) (fun _ _ n=>cond isStr .fail (r (.i .i64 (.ofNat n)))) (fun _=> .fail)
def IY (aa e n:Nat) (k:aB):aB:=cond (Nat.beq e aa) k (cond (Nat.beq n 0) k .fail)
def CO (n:Nat):Nat->List (List K)->List (List K):=Nat.rec (motive:=fun _=>Nat->List (List K)->List (List K)) (fun _ acc=>acc) (fun _ ih w acc=>ih (Nat.shiftRight w 8) ([.i .u8 (.ofNat (Nat.mod w 256))]::acc)) n
def abr (aa bytes:Nat) (s t:KA):Op:=fun ρ r=>kA ρ s fun x=>kA ρ t fun y=>MS x fun e xs n=>IY aa e n (K.casesOn (motive_1:=fun _=>aB) y (fun _ _=> .fail) (fun _=> .fail)
 (fun l w=>cond (Nat.beq aa 1) (mR (CO l w xs) fun zs=>eU (n+l) fun m=>cond (Nat.ble (m * bytes) Hw) (cond (Nat.ble m Hw) (r (.sl aa zs m)) .fail) .fail) .fail)
 (fun e' ys m=>IY aa e' m (cond (Nat.beq aa 0) .fail (mR (ys++xs) fun zs=>eU (n+m) fun k=>cond (Nat.ble (k * bytes) Hw) (cond (Nat.ble k Hw) (r (.sl aa zs k)) .fail) .fail))) (fun _=> .fail))
def Gb (rev:List (List K)):Nat->(List K->List K)->List (List K):=List.rec (motive:=fun _=>Nat->(List K->List K)->List (List K)) (fun _ _=>[]) (fun x xs ih i g=>Nat.casesOn (motive:=fun _=>List (List K)) i (g x::xs) fun j=>x::ih j g) rev
def Z0 (aa:Nat) (s i:KA) (off m:Nat) (vs:List KA):Op:=fun ρ r=>kA ρ s fun x=>kA ρ i fun y=>Ya ρ vs fun ys=>MS x fun e xs n=>yR y fun _ p=>wF p fun j=>cond (Nat.ble (Nat.succ j) n) (cond (Nat.beq e aa) (cond (Nat.ble (off+m) aa) (mR (Gb xs (n - Nat.succ j) fun row=>splice row off ys) fun zs=>r (.sl aa zs n)) .fail) .fail) .fail
def YN (ρ:List KW) (a:Option KA) (d:Nat) (k:Nat->aB):aB:=Option.casesOn (motive:=fun _=>aB) a (k d) fun a=>kA ρ a fun x=>yR x fun _ n=>wF n k
def WH (aa:Nat) (s:KA) (lo hi:Option KA):Op:=fun ρ r=>kA ρ s fun x=>MS x fun e xs n=>IY aa e n (YN ρ lo 0 fun l=>YN ρ hi n fun h=>cond (and (Nat.ble l h) (Nat.ble h n)) (eU (h - l) fun m=>mR ((xs.drop (n - h)).take m) fun zs=>r (.sl aa zs m)) .fail)
def Vj (s:KA) (lo hi:Option KA):Op:=fun ρ r=>kA ρ s fun x=>Lb x fun n w=>YN ρ lo 0 fun l=>YN ρ hi n fun h=>cond (and (Nat.ble l h) (Nat.ble h n)) (eU (h - l) fun m=>eU (Nat.mod (Nat.shiftRight w (8 * l)) (Nat.shiftLeft 1 (8 * m))) fun v=>r (.s m v)) .fail
def VE (s i:KA):Op:=fun ρ r=>kA ρ s fun x=>kA ρ i fun y=>Lb x fun n w=>yR y fun _ m=>wF m fun j=>cond (Nat.ble (Nat.succ j) n) (eU (Nat.mod (Nat.shiftRight w (8 * j)) 256) fun v=>r (.i .u8 (.ofNat v))) .fail
def QF (rev:List (List K)):Nat->(Nat->aB)->aB:=List.rec (motive:=fun _=>Nat->(Nat->aB)->aB) (fun w k=>k w) (fun row _ ih w k=>List.casesOn (motive:=fun _=>aB) row .fail fun x _=>yR x fun p n=>cond (Nat.beq (kk p) 4) (wF n fun b=>cond (Nat.ble b 255) (eU (b+256 * w) fun v=>ih v k) .fail) .fail) rev
def QG (s:KA):Op:=fun ρ r=>kA ρ s fun x=>MS x fun e xs n=>IY 1 e n (QF xs 0 fun w=>r (.s n w))
def P7 (zero:List K) (n:Nat):List (List K):=Nat.rec (motive:=fun _=>List (List K)) [] (fun _ ih=>zero::ih) n
def kMk (aa bytes:Nat) (zero:List K) (l c:KA):Op:=fun ρ r=>kA ρ l fun x=>kA ρ c fun y=>yR x fun _ n=>wF n fun m=>yR y fun _ p=>wF p fun q=>cond (Nat.ble m q) (cond (Nat.ble (q * bytes) Hw) (cond (Nat.ble q Hw) (cond (Nat.beq aa 0) .fail (mR (P7 zero m) fun zs=>r (.sl aa zs m))) .fail) .fail) .fail
def kMx (a b:KA):Op:=fun ρ r=>kA ρ a fun x=>kA ρ b fun y=>nH x y fun k n m=>cond (NI n m) (r (.i k m)) (r (.i k n))
def kMn (a b:KA):Op:=fun ρ r=>kA ρ a fun x=>kA ρ b fun y=>nH x y fun k n m=>cond (NI m n) (r (.i k m)) (r (.i k n))
def LM (aa n:Nat):List K->List (List K)->(List (List K)->aB)->aB:=Nat.rec (motive:=fun _=>List K->List (List K)->(List (List K)->aB)->aB) (fun _ acc k=>k acc) (fun _ ih xs acc k=>mR (xs.take aa) fun row=>ih (xs.drop aa) (row::acc) k) n
def Vs (aa len:Nat) (xs:List KA):Op:=fun ρ r=>Ya ρ xs fun ys=>cond (Nat.ble len Hw) (cond (Nat.beq aa 0) .fail (LM aa len ys [] fun zs=>r (.sl aa zs len))) .fail
def abX (a b:KA):Op:=fun ρ r=>kA ρ a fun x=>kA ρ b fun y=>yR x fun p n=>yR y fun _ m=>wF m fun j=>cond (zz n 0) (r (.i p (.ofNat 0))) (wF n fun i=>cond (Nat.ble j 8) (eU (Nat.div i (Nat.pow 2 j)) fun q=>r (.i p (.ofNat q))) .fail)
def adW (a b:KA):Op:=fun ρ r=>kA ρ a fun x=>kA ρ b fun y=>nH x y fun p n _=>cond (zz n 0) (r (.i p (.ofNat 0))) .fail
def Uv {α:Type} (f:α->α->Bool):List α->List α->Bool
 |[],[]=>true
 |x::xs,y::ys=>cond (f x y) (Uv f xs ys) false
 |_,_=>false
def Rq:Nat->K->K->Bool
 |0,_,_=>false
 |_+1,.i k a,.i l b=>cond (Nat.beq (kk k) (kk l)) (zz a b) false
 |_+1,.b x,.b y=>not (xor x y)
 |_+1,.s l v,.s m w=>cond (Nat.beq l m) (Nat.beq v w) false
 |n+1,.sl e xs a,.sl f ys b=>cond (Nat.beq e f) (cond (Nat.beq a b) (Uv (Uv (Rq n)) xs ys) false) false
 |_+1,_,_=>false
def kIs (a:KA) (x:K):Op:=fun ρ r=>kA ρ a fun y=>BP (Rq 60 y x) r
def adv (i:Nat) (xs:List K):Op:=fun ρ r=>GJ ρ i fun w=>Rx w fun _ ys=>BP (Uv (Rq 60) ys xs) r
def kop (o:KO):Op:=KO.casesOn (motive:=fun _=>Op) o YZ aaV aaX aah abh aac abv abn Zz ZE aax Zd ZX UY aav abe abr Z0 WH Vj VE QG kMk kMx kMn Vs abX adW kIs adv (fun _ _=> .fail)
def xe (aa:Nat) (x y:K) (k:List K->aB):aB:=MS x fun e xs n=>yR y fun _ m=>wF m fun j=>cond (Nat.ble (Nat.succ j) n) (cond (Nat.beq e aa) (List.casesOn (motive:=fun _=>aB) (xs.drop (n - Nat.succ j)) .fail fun row _=>k row) .fail) .fail
def jv (ss:List (Option Nat)):List KW->List KW->(List KW->aB)->aB:=List.rec (motive:=fun _=>List KW->List KW->(List KW->aB)->aB)
 (fun vs ρ k=>List.casesOn (motive:=fun _=>aB) vs (k ρ) fun _ _=> .fail)
 (fun s _ ih vs ρ k=>List.casesOn (motive:=fun _=>aB) vs .fail fun v vs=>Option.casesOn (motive:=fun _=>aB) s (JX v fun x=>ih vs (.c x::ρ) k) fun m=>Rx v fun n xs=>cond (Nat.beq n m) (ih vs (.l n xs::ρ) k) .fail) ss
def lC (ms:List Nat):List KW->List KW->(List KW->aB)->aB:=List.rec (motive:=fun _=>List KW->List KW->(List KW->aB)->aB)
 (fun vs ρ k=>List.casesOn (motive:=fun _=>aB) vs (k ρ) fun _ _=> .fail)
 (fun m _ ih vs ρ k=>List.casesOn (motive:=fun _=>aB) vs .fail fun v vs=>Rx v fun n xs=>cond (Nat.beq n m) (ih vs (.l n xs::ρ) k) .fail) ms
abbrev Va:=Nat->List KW->List KW->aB
abbrev UI:=Nat->Nat->List KW->aB
abbrev Den:=Va->UI->List KW->aB
def onR (r:aB) (k:List KW->List KW->aB):aB:=aB.casesOn (motive:=fun _=>aB) r .fail k fun _=> .fail
def ac1 (o:KO) (_:gL) (ih:Den):Den:=fun call head ρ=>kop o ρ fun x=>ih call head (.c x::ρ)
def ad2 (aa:Nat) (s i:KA) (_:gL) (ih:Den):Den:=fun call head ρ=>kA ρ s fun x=>kA ρ i fun y=>xe aa x y fun xs=>ih call head (.l aa xs::ρ)
def ae5 (a:KA) (_ _:gL) (it ie:Den):Den:=fun call head ρ=>kA ρ a fun x=>YO x fun b=>Bool.casesOn (motive:=fun _=>aB) b (ie call head ρ) (it call head ρ)
def ZM (f:Nat) (args:List KV) (bs:List KS) (rs:List (Option Nat)) (bl:List Nat) (_:gL) (ih:Den):Den:=fun call head ρ=>Nv ρ args fun ax=>VI ρ bs fun xs=>onR (call f ax xs) fun vs ys=>jv rs vs ρ fun ρ=>lC bl ys ρ fun ρ=>ih call head ρ
def aaR (h n:Nat) (args:List KV):Den:=fun _ head ρ=>YD ρ args [] fun ws=>head h n ws
def aec (rs:List KV) (bs:List KS):Den:=fun _ _ ρ=>Nv ρ rs fun vs=>VI ρ bs fun xs=> .ret vs xs
def kD (t:gL):Den:=gL.rec (motive:=fun _=>Den) ac1 ad2 ae5 ZM aaR aec (fun _ _ _=> .fail) t
structure vk where
 params:List (Option Nat)
 boxes:List Nat
 body:gL
 heads:List (Nat×gL)
inductive KG where
 |leaf
 |node (k:Nat) (f:vk) (l r:KG)
def KG.get (g:KG):Nat->(vk->aB)->aB:=KG.rec (motive:=fun _=>Nat->(vk->aB)->aB) (fun _ _=> .fail) (fun k f _ _ il ir n r=>cond (Nat.beq n k) (r f) (cond (Nat.ble n k) (il n r) (ir n r))) g
def Jt (l:List (Nat×gL)):Nat->Nat->(gL->aB)->aB:=List.rec (motive:=fun _=>Nat->Nat->(gL->aB)->aB) (fun _ _ _=> .fail) (fun p _ ih i n k=>Nat.casesOn (motive:=fun _=>aB) i (Prod.casesOn (motive:=fun _=>aB) p fun m t=>cond (Nat.beq m n) (k t) .fail) fun j=>ih j n k) l
def Og (G:KG) (call:Va) (head:Nat->UI):Va:=fun f ax bs=>G.get f fun tf=>jv tf.params ax [] fun ρ=>lC tf.boxes bs ρ fun ρ=>kD tf.body call (head f) ρ
def OU (G:KG) (f:Nat) (call:Va) (head:UI):UI:=fun h n ws=>G.get f fun tf=>Jt tf.heads h n fun t=>kD t call head ws
structure Kq where
 fn:Va
 hd:Nat->UI
def jk (G:KG) (n:Nat):Kq:=Nat.rec (motive:=fun _=>Kq) ⟨fun _ _ _=> .fail,fun _ _ _ _=> .fail⟩ (fun _ r=>Kq.casesOn (motive:=fun _=>Kq) r fun fn hd=>⟨Og G fn hd,fun f=>OU G f fn (hd f)⟩) n
def GV (G:KG) (call:Va) (f h0 a:Nat) (n:Nat):UI:=Nat.rec (motive:=fun _=>UI) (fun _ _ _=> .fail) (fun _ ih h n ws=>cond (Nat.beq h h0) (cond (Nat.beq n a) (.stop ws) .fail) (OU G f call ih h n ws)) n
def NR (r:aB) (k:List KW->aB):aB:=aB.casesOn (motive:=fun _=>aB) r .fail (fun _ _=> .fail) k
def gq (G:KG) (n m f h0 a:Nat) (rounds:Nat):List KW->aB:=Nat.rec (motive:=fun _=>List KW->aB) (fun ws=> .stop ws) (fun _ ih ws=>NR (OU G f (jk G n).fn (GV G (jk G n).fn f h0 a m) h0 a ws) ih) rounds
def D9 (G:KG) (n m f h0 a:Nat):List KW->List KW->aB:=Og G (jk G n).fn (fun _=>GV G (jk G n).fn f h0 a m) f
end
def strOf:Nat->Nat->List UInt8
 |0,_=>[]
 |l+1,w=>UInt8.ofNat (w % 256)::strOf l (w / 256)
def iG:List UInt8->Nat
 |[]=>0
 |x::xs=>x.toNat+256 * iG xs
theorem kP:∀l w,(strOf l w).length=l
 |0,_=>rfl
 |l+1,w=>by simp [strOf,kP l]
theorem DI:∀xs:List UInt8,iG xs < 256 ^ xs.length
 |[]=>by simp [iG]
 |x::xs=>by have h1:=DI xs;have h2:=x.toNat_lt;simp only [iG,List.length_cons,Nat.pow_succ];omega
theorem sF:∀xs:List UInt8,strOf xs.length (iG xs)=xs
 |[]=>rfl
 |x::xs=>by
  have h2:=x.toNat_lt;simp only [List.length_cons,strOf,iG];rw [show (x.toNat+256 * iG xs) % 256=x.toNat by omega,show (x.toNat+256 * iG xs) / 256=iG xs by omega,sF xs]
  simp
theorem sZ:∀l w,w < 256 ^ l->iG (strOf l w)=w
 |0,w,h=>by simp at h;subst h;rfl
 |l+1,w,h=>by
  rw [Nat.pow_succ] at h;have h1:w / 256 < 256 ^ l:=by omega
  simp only [strOf,iG,sZ l _ h1];have:(UInt8.ofNat (w % 256)).toNat=w % 256:=by simp
  omega
mutual
inductive RK:K->C->Prop
 |i (k n):RK (.i k n) (.lit (.int k n))
 |b (x):RK (.b x) (.lit (.bool x))
 |s (len w) (b:ByteArray) (hb:b.data.toList=strOf len w) (hw:w < 256 ^ len):RK (.s len w) (.lit (.string b))
 |o (v):RK (.o v) (.lit v)
 |sl (aa rev n cs) (h:kE aa rev cs) (hn:rev.length=n):RK (.sl aa rev n) (.slice cs n)
inductive nC:List K->List C->Prop
 |nil:nC [] []
 |cons {x c xs cs}:RK x c->nC xs cs->nC (x::xs) (c::cs)
inductive kE:Nat->List (List K)->List C->Prop
 |nil {aa}:kE aa [] []
 |cons {aa row r rev cs}:nC row r->row.length=aa->kE aa rev cs->kE aa (row::rev) (cs++r)
end
def ZG:KW->W->Prop
 |.c x,.c c=>RK x c
 |.l n xs,.l cs=>nC xs cs/\xs.length=n
 |_,_=>False
def RE (ρ:List KW) (ρ':List W):Prop:=aj ZG ρ ρ'.reverse
theorem RE.nil:RE [] []:=trivial
theorem RE.push {ρ:List KW} {ρ':List W} (h:RE ρ ρ') {w:KW} {w':W} (hw:ZG w w'):RE (w::ρ) (ρ'++[w']):=by unfold RE;rw [List.reverse_append];exact ⟨hw,h⟩
theorem RE.len {ρ:List KW} {ρ':List W} (h:RE ρ ρ'):ρ.length=ρ'.length:=by
 have:=aj.len h
 simpa using this
theorem GH:∀(ρ:List W) (i:Nat),eu ρ i=ρ[i]?
 |[],_=>rfl
 |_::_,0=>rfl
 |_::r,i+1=>by simp [eu,GH r i]
theorem RE.get {ρ:List KW} {ρ':List W} (h:RE ρ ρ') {i:Nat} (hi:i < ρ'.length) {w:KW} (hw:ρ[ρ'.length - 1 - i]?=some w):∃w',eu ρ' i=some w'/\ZG w w':=by
 obtain ⟨w',h1,h2⟩:=aj.get _ h hw;refine ⟨w',?_,h2⟩;rw [GH];rw [List.getElem?_reverse (by omega)] at h1
 rw [<-h1];congr 1;omega
theorem nC.len {xs:List K} {cs:List C} (h:nC xs cs):xs.length=cs.length:=by
 induction xs generalizing cs with
 |nil=>cases h;rfl
 |cons x xs ih=>cases h with|cons h1 h2=>simp [ih h2]
theorem nC.nth {xs:List K} {cs:List C} (h:nC xs cs) {j:Nat} {x:K} (hj:xs[j]?=some x):RK x (bG cs j):=by
 induction xs generalizing cs j with
 |nil=>simp at hj
 |cons y xs ih=>
  cases h with
  |cons h1 h2=>
   cases j with
   |zero=>simp only [List.getElem?_cons_zero,Option.some.injEq] at hj;subst hj;exact h1
   |succ j=>exact ih h2 (by simpa using hj)
def Tv:Value->K
 |.int k n=> .i k n
 |.bool b=> .b b
 |.string s=> .s s.data.toList.length (iG s.data.toList)
 |v=> .o v
theorem Lh (v:Value):RK (Tv v) (.lit v):=by
 cases v<;>first|exact .i _ _|exact .b _|exact .o _|skip
 rename_i s;exact .s _ _ s (sF _).symm (DI _)
def cI (n i:Nat):Nat:=if i < n then n - 1 - i else n
def cA (n:Nat):At->KA
 |.v i=> .v (cI n i)
 |.n i j=> .n (cI n i) j
 |.k v=> .k (Tv v)
 |.z=> .k (.sl 0 [] 0)
section
variable {a:aB} {ρ:List KW} {ρ':List W}
theorem y9 {k:KW->aB}:∀{l:List KW} {i:Nat},GJ l i k=a->a≠.fail->∃w,l[i]?=some w/\k w=a
 |[],i,h,ha=>absurd h.symm ha
 |w::l,0,h,ha=>⟨w,rfl,h⟩
 |w::l,i+1,h,ha=>by obtain ⟨w',h1,h2⟩:=y9 (l:=l) (i:=i) h ha;exact ⟨w',by simpa using h1,h2⟩
theorem KT {k:K->aB}:∀{l:List K} {i:Nat},Tm l i k=a->a≠.fail->∃w,l[i]?=some w/\k w=a
 |[],i,h,ha=>absurd h.symm ha
 |w::l,0,h,ha=>⟨w,rfl,h⟩
 |w::l,i+1,h,ha=>by obtain ⟨w',h1,h2⟩:=KT (l:=l) (i:=i) h ha;exact ⟨w',by simpa using h1,h2⟩
theorem JI (h:RE ρ ρ') {i:Nat} {w:KW} (hw:ρ[cI ρ'.length i]?=some w):∃w',eu ρ' i=some w'/\ZG w w':=by
 unfold cI at hw;split at hw
 ·rename_i hi;exact h.get hi hw
 ·rw [List.getElem?_eq_none (by rw [h.len];exact Nat.le_refl _)] at hw;cases hw
theorem lq (h:RE ρ ρ') {x:At} {k:K->aB} (hk:kA ρ (cA ρ'.length x) k=a) (ha:a≠.fail):∃y c,RK y c/\aV ρ' x=some c/\k y=a:=by
 cases x with
 |v i=>
  obtain ⟨w,h1,h2⟩:=y9 (show GJ ρ (cI ρ'.length i) (fun w=>JX w k)=a from hk) ha
  obtain ⟨w',h3,h4⟩:=JI h h1;cases w with
  |c y=>cases w' with
   |c c=>exact ⟨y,c,h4,by simp [aV,h3],h2⟩
   |l _=>exact h4.elim
  |l _ _=>exact absurd h2.symm ha
 |n i j=>
  obtain ⟨w,h1,h2⟩:=y9 (show GJ ρ (cI ρ'.length i) (fun w=>Rx w fun _ xs=>Tm xs j k)=a from hk) ha
  obtain ⟨w',h3,h4⟩:=JI h h1;cases w with
  |c y=>exact absurd h2.symm ha
  |l m xs=>cases w' with
   |c c=>exact h4.elim
   |l cs=>
    obtain ⟨y,h5,h6⟩:=KT (show Tm xs j k=a from h2) ha
    exact ⟨y,bG cs j,h4.1.nth h5,by simp [aV,h3],h6⟩
 |k v=>exact ⟨Tv v,.lit v,Lh v,rfl,hk⟩
 |z=>exact ⟨.sl 0 [] 0,.slice [] 0,.sl 0 [] 0 [] .nil rfl,rfl,hk⟩
theorem Ep (h:RE ρ ρ'):∀{l:List At} {k:List K->aB},Ya ρ (l.map (cA ρ'.length)) k=a->a≠.fail->∃ys cs,nC ys cs/\ys.length=l.length/\iM ρ' l=some cs/\k ys=a
 |[],k,hk,ha=>⟨[],[],.nil,rfl,rfl,hk⟩
 |x::l,k,hk,ha=>by
  obtain ⟨y,c,h1,h2,h3⟩:=lq h (show kA ρ (cA ρ'.length x) (fun x=>Ya ρ (l.map (cA ρ'.length)) fun xs=>k (x::xs))=a from hk) ha
  obtain ⟨ys,cs,h4,h7,h5,h6⟩:=Ep h (l:=l) h3 ha;exact ⟨y::ys,c::cs,.cons h1 h4,by simp [h7],by simp [iM,h2,h5],h6⟩
def cS (n:Nat):SL->KS
 |.lit ax=> .lit ax.length (ax.map (cA n))
 |.all i=> .all (cI n i)
theorem GL (h:RE ρ ρ') {s:SL} {k:Nat->List K->aB} (hk:kS ρ (cS ρ'.length s) k=a) (ha:a≠.fail):∃n ys cs,nC ys cs/\ys.length=n/\Dn ρ' s=some cs/\k n ys=a:=by
 cases s with
 |lit ax=>
  obtain ⟨ys,cs,h1,h2,h3,h4⟩:=Ep h (show Ya ρ (ax.map (cA ρ'.length)) (fun xs=>k ax.length xs)=a from hk) ha
  exact ⟨ax.length,ys,cs,h1,h2,h3,h4⟩
 |all i=>
  obtain ⟨w,h1,h2⟩:=y9 (show GJ ρ (cI ρ'.length i) (fun w=>Rx w k)=a from hk) ha
  obtain ⟨w',h3,h4⟩:=JI h h1;cases w with
  |c y=>exact absurd h2.symm ha
  |l m xs=>cases w' with
   |c c=>exact h4.elim
   |l cs=>exact ⟨m,xs,cs,h4.1,h4.2,by simp [Dn,h3],h2⟩
def RB:KW->List C->Prop
 |.l n xs,cs=>nC xs cs/\xs.length=n
 |.c _,_=>False
def EW:KW->V->Prop
 |.c x,.one c=>RK x c
 |.l n xs,.agg cs=>nC xs cs/\xs.length=n
 |_,_=>False
theorem JH (h:RE ρ ρ'):∀{l:List SL} {k:List KW->aB},VI ρ (l.map (cS ρ'.length)) k=a->a≠.fail->∃ys css,aj RB ys css/\uz ρ' l=some css/\k ys=a
 |[],k,hk,ha=>⟨[],[],trivial,rfl,hk⟩
 |s::l,k,hk,ha=>by
  obtain ⟨n,ys,cs,h1,h2,h3,h4⟩:=GL h (show kS ρ (cS ρ'.length s) (fun n x=>VI ρ (l.map (cS ρ'.length)) fun xs=>k (.l n x::xs))=a from hk) ha
  obtain ⟨zs,css,h5,h6,h7⟩:=JH h (l:=l) h4 ha;exact ⟨.l n ys::zs,cs::css,⟨⟨h1,h2⟩,h5⟩,by simp [uz,h3,h6],h7⟩
def cV (n:Nat):TV->KV
 |.one x=> .one (cA n x)
 |.agg s=> .agg (cS n s)
theorem Vt (h:RE ρ ρ') {v:TV} {k:KW->aB} (hk:kV ρ (cV ρ'.length v) k=a) (ha:a≠.fail):∃y u,EW y u/\Kl ρ' v=some u/\k y=a:=by
 cases v with
 |one x=>
  obtain ⟨y,c,h1,h2,h3⟩:=lq h (show kA ρ (cA ρ'.length x) (fun x=>k (.c x))=a from hk) ha
  exact ⟨.c y,.one c,h1,by simp [Kl,h2],h3⟩
 |agg s=>
  obtain ⟨n,ys,cs,h1,h2,h3,h4⟩:=GL h (show kS ρ (cS ρ'.length s) (fun n xs=>k (.l n xs))=a from hk) ha
  exact ⟨.l n ys,.agg cs,⟨h1,h2⟩,by simp [Kl,h3],h4⟩
theorem PN (h:RE ρ ρ'):∀{l:List TV} {k:List KW->aB},Nv ρ (l.map (cV ρ'.length)) k=a->a≠.fail->∃ys us,aj EW ys us/\tq ρ' l=some us/\k ys=a
 |[],k,hk,ha=>⟨[],[],trivial,rfl,hk⟩
 |v::l,k,hk,ha=>by
  obtain ⟨y,u,h1,h2,h3⟩:=Vt h (show kV ρ (cV ρ'.length v) (fun x=>Nv ρ (l.map (cV ρ'.length)) fun xs=>k (x::xs))=a from hk) ha
  obtain ⟨zs,us,h5,h6,h7⟩:=PN h (l:=l) h3 ha;exact ⟨y::zs,u::us,⟨h1,h5⟩,by simp [tq,h2,h6],h7⟩
def Ye (n:Nat):List TA->List KV
 |[]=>[]
 |.v x::l=>cV n x::Ye n l
 |.ref _ _::l=>Ye n l
def NK:List TA->List KW->List LA->Prop
 |[],[],[]=>True
 |.v _::ts,y::ys,.v u::us=>EW y u/\NK ts ys us
 |.ref b off::ts,ys,.ref b' off'::us=>b'=b/\off'=off/\NK ts ys us
 |_,_,_=>False
theorem DC (h:RE ρ ρ'):∀{l:List TA} {k:List KW->aB},Nv ρ (Ye ρ'.length l) k=a->a≠.fail->∃ys us,NK l ys us/\jY ρ' l=some us/\k ys=a
 |[],k,hk,ha=>⟨[],[],trivial,rfl,hk⟩
 |.v v::l,k,hk,ha=>by
  obtain ⟨y,u,h1,h2,h3⟩:=Vt h (show kV ρ (cV ρ'.length v) (fun x=>Nv ρ (Ye ρ'.length l) fun xs=>k (x::xs))=a from hk) ha
  obtain ⟨zs,us,h5,h6,h7⟩:=DC h (l:=l) h3 ha;exact ⟨y::zs,.v u::us,⟨h1,h5⟩,by simp [jY,NG,h2,h6],h7⟩
 |.ref b off::l,k,hk,ha=>by
  obtain ⟨zs,us,h5,h6,h7⟩:=DC h (l:=l) (show Nv ρ (Ye ρ'.length l) k=a from hk) ha
  exact ⟨zs,.ref b off::us,⟨rfl,rfl,h5⟩,by simp [jY,NG,h6],h7⟩
def YF (n:Nat):TW->KV
 |.c x=> .one (cA n x)
 |.l s=> .agg (cS n s)
theorem P6 (h:RE ρ ρ'):∀{l:List TW} {acc:List KW} {acc':List W} {k:List KW->aB},RE acc acc'->YD ρ (l.map (YF ρ'.length)) acc k=a->a≠.fail->∃ws ws',RE ws (acc'++ws')/\gy ρ' l=some ws'/\k ws=a
 |[],acc,acc',k,hacc,hk,ha=>⟨acc,[],by rw [List.append_nil];exact hacc,rfl,hk⟩
 |w::l,acc,acc',k,hacc,hk,ha=>by
  have hw:∃y u,ZG y u/\VG ρ' w=some u/\YD ρ (l.map (YF ρ'.length)) (y::acc) k=a:=by
   cases w with
   |c x=>
    obtain ⟨y,c,h1,h2,h3⟩:=lq h (show kA ρ (cA ρ'.length x) (fun x=>YD ρ (l.map (YF ρ'.length)) (.c x::acc) k)=a from hk) ha
    exact ⟨.c y,.c c,h1,by simp [VG,h2],h3⟩
   |l s=>
    obtain ⟨n,ys,cs,h1,h2,h3,h4⟩:=GL h (show kS ρ (cS ρ'.length s) (fun n xs=>YD ρ (l.map (YF ρ'.length)) (.l n xs::acc) k)=a from hk) ha
    exact ⟨.l n ys,.l cs,⟨h1,h2⟩,by simp [VG,h3],h4⟩
  obtain ⟨y,u,h1,h2,h3⟩:=hw;obtain ⟨ws,ws',h4,h5,h6⟩:=P6 h (l:=l) (hacc.push h1) h3 ha;exact ⟨ws,u::ws',by rw [List.append_assoc] at h4;exact h4,by simp [gy,h2,h5],h6⟩
end
end Go.Ey
namespace Go.Ey
theorem EG (b:ByteArray):∀(n i:Nat) (r:List UInt8),b.size - i=n->ByteArray.toList.loop b i r=r.reverse++b.data.toList.drop i
 |0,i,r,h=>by
  have hs:b.data.toList.length=b.size:=rfl;rw [ByteArray.toList.loop,if_neg (by omega),List.drop_eq_nil_of_le (by omega)]
  simp
 |n+1,i,r,h=>by
  have hs:b.data.toList.length=b.size:=rfl;have hi:i < b.data.toList.length:=by omega
  rw [ByteArray.toList.loop,if_pos (by omega),EG b n (i+1) (b.get! i::r) (by omega),List.drop_eq_getElem_cons hi]
  have:b.get! i=b.data.toList[i]:=by have h1:b.get! i=b.data[i]!:=rfl;rw [h1,getElem!_pos b.data i (by rw [Array.length_toList] at hi;exact hi),Array.getElem_toList]
  simp [this]
theorem yV (b:ByteArray):b.toList=b.data.toList:=by unfold ByteArray.toList;rw [EG _ _ 0 [] rfl];simp
section
variable {a:aB} {ρ:List KW} {ρ':List W}
theorem dX (n:Nat) (k:Nat->aB):eU n k=k n:=by cases n<;>rfl
theorem BV (n:Int) (k:Int->aB):JW n k=k n:=by
 cases n with
 |ofNat m=>exact dX m fun m=>k (.ofNat m)
 |negSucc m=>exact dX m fun m=>k (.negSucc m)
theorem M9 (b:Bool) (k:Bool->aB):Pv b k=k b:=by cases b<;>rfl
theorem jE {α:Type}:∀(l:List α) (k:List α->aB),mR l k=k l
 |[],_=>rfl
 |x::l,k=>jE l fun r=>k (x::r)
theorem aP {b:Bool} {x:aB} (h:(cond b x .fail)=a) (ha:a≠.fail):b=true/\x=a:=by
 cases b
 ·exact absurd h.symm ha
 ·exact ⟨rfl,h⟩
theorem nP {b:Bool} {x:aB} (h:(cond b .fail x)=a) (ha:a≠.fail):b=false/\x=a:=by
 cases b
 ·exact ⟨rfl,h⟩
 ·exact absurd h.symm ha
theorem jf {x:K} {k:IntKind->Int->aB} (h:yR x k=a) (ha:a≠.fail):∃p n,x=.i p n/\k p n=a:=by cases x<;>first|exact ⟨_,_,rfl,h⟩|exact absurd h.symm ha
theorem IW {x:K} {k:Bool->aB} (h:YO x k=a) (ha:a≠.fail):∃p,x=.b p/\k p=a:=by cases x<;>first|exact ⟨_,rfl,h⟩|exact absurd h.symm ha
theorem Ay {x:K} {k:Nat->Nat->aB} (h:Lb x k=a) (ha:a≠.fail):∃l w,x=.s l w/\k l w=a:=by cases x<;>first|exact ⟨_,_,rfl,h⟩|exact absurd h.symm ha
theorem vz {x:K} {k:Nat->List (List K)->Nat->aB} (h:MS x k=a) (ha:a≠.fail):∃e r n,x=.sl e r n/\k e r n=a:=by cases x<;>first|exact ⟨_,_,_,rfl,h⟩|exact absurd h.symm ha
theorem nu {n:Int} {k:Nat->aB} (h:wF n k=a) (ha:a≠.fail):∃m:Nat,n=(m:Int)/\k m=a:=by
 cases n with
 |ofNat m=>exact ⟨m,rfl,h⟩
 |negSucc m=>exact absurd h.symm ha
theorem OH {p q:IntKind} (h:Nat.beq (kk p) (kk q)=true):p=q:=by cases p<;>cases q<;>first|rfl|exact absurd h (by decide)
theorem oJ {x y:K} {k:IntKind->Int->Int->aB} (h:nH x y k=a) (ha:a≠.fail):∃p n m,x=.i p n/\y=.i p m/\k p n m=a:=by
 obtain ⟨p,n,h1,h2⟩:=jf h ha;obtain ⟨q,m,h3,h4⟩:=jf h2 ha;obtain ⟨h5,h6⟩:=aP h4 ha;have:=OH h5
 subst this;exact ⟨p,n,m,h1,h3,h6⟩
theorem jV (n m:Int):zz n m=(n==m):=by rw [Bool.eq_iff_iff];cases n<;>cases m<;>simp [zz,Nat.beq_eq]<;>omega
theorem sI (n m:Int):NI n m=decide (n < m):=by rw [Bool.eq_iff_iff];cases n<;>cases m<;>simp [NI,Nat.ble_eq]<;>omega
theorem Rp (q:Int) (h1:0 < q) (h2:q<=9223372036854775808):IntKind.i64.wrap (-q)=-q:=by
 have h3:(-q) % 2 ^ 64=-q+18446744073709551616:=by omega
 simp only [IntKind.wrap,IntKind.bits,h3];rw [if_pos (by simp [IntKind.signed];omega)]
 omega
theorem MZ (m:Nat):(cond (Nat.ble m 9223372036854775807) (Int.negSucc m) (IntKind.i64.wrap (Int.negSucc m)))=IntKind.i64.wrap (Int.negSucc m):=by
 by_cases h:m<=9223372036854775807
 ·rw [show Nat.ble m 9223372036854775807=true from by rw [Nat.ble_eq];exact h,cond_true,Int.negSucc_eq,Rp _ (by omega) (by omega)]
 ·rw [show Nat.ble m 9223372036854775807=false from by rw [Bool.eq_false_iff];intro e;rw [Nat.ble_eq] at e;exact h e,cond_false]
theorem zh (k:IntKind) (n:Int):yo k n=k.wrap n:=by
 unfold yo;split
 ·rename_i m;cases h:Nat.ble m 9223372036854775807 with
  |false=>rfl
  |true=>
   rw [Nat.ble_eq] at h;have h2:(Int.ofNat m) % 2 ^ 64=(Int.ofNat m):=by simp only [Int.ofNat_eq_natCast];omega
   simp only [cond_true,IntKind.wrap,IntKind.bits,h2];rw [if_neg (by simp [IntKind.signed];omega)]
 ·rename_i m;cases h:Nat.ble m 255 with
  |false=>rfl
  |true=>
   rw [Nat.ble_eq] at h;have h2:(Int.ofNat m) % 2 ^ 8=(Int.ofNat m):=by simp only [Int.ofNat_eq_natCast];omega
   simp only [cond_true,IntKind.wrap,IntKind.bits,h2];rw [if_neg (by simp [IntKind.signed])]
 ·exact MZ _
 ·rfl
end
end Go.Ey
namespace Go.Ey
section
variable {a:aB} {ρ:List KW} {ρ':List W}
theorem RK.int {p:IntKind} {n:Int} {c:C} (h:RK (.i p n) c):c=.lit (.int p n):=by cases h;rfl
theorem RK.bool {x:Bool} {c:C} (h:RK (.b x) c):c=.lit (.bool x):=by cases h;rfl
theorem RK.str {l w:Nat} {c:C} (h:RK (.s l w) c):∃b:ByteArray,c=.lit (.string b)/\b.data.toList=strOf l w/\w < 256 ^ l:=by
 cases h with
 |s _ _ b hb hw=>exact ⟨b,rfl,hb,hw⟩
theorem RK.sli {e n:Nat} {r:List (List K)} {c:C} (h:RK (.sl e r n) c):∃cs,c=.slice cs n/\kE e r cs/\r.length=n:=by
 cases h with
 |sl _ _ _ cs h hn=>exact ⟨cs,rfl,h,hn⟩
theorem two (h:RE ρ ρ') {x y:At} {f:K->K->aB} (hk:(kA ρ (cA ρ'.length x) fun u=>kA ρ (cA ρ'.length y) fun v=>f u v)=a) (ha:a≠.fail):
  ∃u v c d,RK u c/\RK v d/\aV ρ' x=some c/\aV ρ' y=some d/\f u v=a:=by
 obtain ⟨u,c,h1,h2,h3⟩:=lq h hk ha;obtain ⟨v,d,h4,h5,h6⟩:=lq h h3 ha;exact ⟨u,v,c,d,h1,h4,h2,h5,h6⟩
theorem wQ (k:IntKind) (n:Int) (r:K->aB):Ua k n r=r (.i k (k.wrap n)):=by unfold Ua;rw [BV,zh]
theorem qp (b:Bool) (r:K->aB):BP b r=r (.b b):=M9 b _
theorem Ny {l w m v:Nat} (hw:w < 256 ^ l) (hv:v < 256 ^ m):(strOf l w=strOf m v)↔(l=m/\w=v):=by
 constructor
 ·intro h;have h1:l=m:=by have:=congrArg List.length h;rwa [kP,kP] at this
  subst h1;refine ⟨rfl,?_⟩;have:=congrArg iG h
  rwa [sZ _ _ hw,sZ _ _ hv] at this
 ·rintro ⟨rfl,rfl⟩;rfl
theorem Ez {l w m v:Nat} {b d:ByteArray} (hb:b.data.toList=strOf l w) (hw:w < 256 ^ l) (hd:d.data.toList=strOf m v) (hv:v < 256 ^ m):(b.toList==d.toList)=(Nat.beq l m && Nat.beq w v):=by rw [Bool.eq_iff_iff,beq_iff_eq,yV,yV,hb,hd,Ny hw hv];simp [Nat.beq_eq]
abbrev uJ (a:aB) (ρ':List W) (o:OpC) (k:K->aB):Prop:=∃y c,RK y c/\bB ρ' o=some c/\k y=a
theorem ints {op:BinOp} {x y:At} {k:K->aB} {g:IntKind->Int->Int->aB} (hs:dn op=false) (h:RE ρ ρ') (hk:(kA ρ (cA ρ'.length x) fun u=>kA ρ (cA ρ'.length y) fun v=>nH u v g)=a) (ha:a≠.fail)
  (hg:∀p n m,g p n m=a->∃z v,RK z (.lit v)/\eT op p n m=some v/\k z=a):uJ a ρ' (.bin op false x y) k:=by
 obtain ⟨u,v,c,d,h1,h2,h3,h4,h5⟩:=two h hk ha;obtain ⟨p,n,m,rfl,rfl,h6⟩:=oJ h5 ha;rw [h1.int] at h3;rw [h2.int] at h4;obtain ⟨z,w,h7,h8,h9⟩:=hg p n m h6;exact ⟨z,.lit w,h7,by simp [bB,h3,h4,eG,iL,hs,h8],h9⟩
theorem Wo (h:RE ρ ρ') {x y:At} {k:K->aB} (hk:aaV (cA ρ'.length x) (cA ρ'.length y) ρ k=a) (ha:a≠.fail):uJ a ρ' (.bin .sub false x y) k:=
 ints rfl h hk ha fun p n m hg=>⟨_,_,.i _ _,rfl,by rw [<-hg,wQ]⟩
theorem WS (h:RE ρ ρ') {x y:At} {k:K->aB} (hk:aaX (cA ρ'.length x) (cA ρ'.length y) ρ k=a) (ha:a≠.fail):uJ a ρ' (.bin .mul false x y) k:=
 ints rfl h hk ha fun p n m hg=>⟨_,_,.i _ _,rfl,by rw [<-hg,wQ]⟩
theorem Wz (h:RE ρ ρ') {x y:At} {k:K->aB} (hk:aah (cA ρ'.length x) (cA ρ'.length y) ρ k=a) (ha:a≠.fail):uJ a ρ' (.bin .quo false x y) k:=
 ints rfl h hk ha fun p n m hg=>by obtain ⟨h1,h2⟩:=nP hg ha;rw [jV] at h1;exact ⟨_,_,.i _ _,by simp only [eT];rw [if_neg (by simpa using h1)],by rw [<-h2,wQ]⟩
theorem V5 (h:RE ρ ρ') {x y:At} {k:K->aB} (hk:abh (cA ρ'.length x) (cA ρ'.length y) ρ k=a) (ha:a≠.fail):uJ a ρ' (.bin .rem false x y) k:=
 ints rfl h hk ha fun p n m hg=>by obtain ⟨h1,h2⟩:=nP hg ha;rw [jV] at h1;exact ⟨_,_,.i _ _,by simp only [eT];rw [if_neg (by simpa using h1)],by rw [<-h2,BV]⟩
theorem Xw (h:RE ρ ρ') {x y:At} {k:K->aB} (hk:abn (cA ρ'.length x) (cA ρ'.length y) ρ k=a) (ha:a≠.fail):uJ a ρ' (.bin .lss false x y) k:=
 ints rfl h hk ha fun p n m hg=>⟨_,_,.b _,rfl,by rw [<-hg,qp,sI]⟩
theorem XB (h:RE ρ ρ') {x y:At} {k:K->aB} (hk:ZE (cA ρ'.length x) (cA ρ'.length y) ρ k=a) (ha:a≠.fail):uJ a ρ' (.bin .gtr false x y) k:=
 ints rfl h hk ha fun p n m hg=>⟨_,_,.b _,rfl,by rw [<-hg,qp,sI]⟩
theorem Yp (h:RE ρ ρ') {x y:At} {k:K->aB} (hk:Zz (cA ρ'.length x) (cA ρ'.length y) ρ k=a) (ha:a≠.fail):uJ a ρ' (.bin .leq false x y) k:=
 ints rfl h hk ha fun p n m hg=>⟨_,_,.b _,rfl,by rw [<-hg,qp,sI];congr 2;rw [Bool.eq_iff_iff];simp⟩
theorem Yf (h:RE ρ ρ') {x y:At} {k:K->aB} (hk:aax (cA ρ'.length x) (cA ρ'.length y) ρ k=a) (ha:a≠.fail):uJ a ρ' (.bin .geq false x y) k:=
 ints rfl h hk ha fun p n m hg=>⟨_,_,.b _,rfl,by rw [<-hg,qp,sI];congr 2;rw [Bool.eq_iff_iff];simp⟩
theorem OX {u v:K} {c d:C} (hu:RK u c) (hv:RK v d) {g:Bool->aB} (hk:BG u v g=a) (ha:a≠.fail):
  ∃q,g q=a/\eG .eql false c d=some (.lit (.bool q))/\eG .neq false c d=some (.lit (.bool (!q))):=by
 cases u with
 |i p n=>
  obtain ⟨p',n',m,h1,rfl,h2⟩:=oJ (show nH (.i p n) v (fun _ n m=>g (zz n m))=a from hk) ha
  injection h1 with e1 e2;subst e1 e2;rw [hu.int,hv.int];refine ⟨_,h2,?_,?_⟩
  ·simp [eG,iL,dn,eT,jV]
  ·simp [eG,iL,dn,eT,jV,bne]
 |s l w=>
  obtain ⟨m,x,rfl,h2⟩:=Ay (show Lb v (fun m x=>g (and (Nat.beq l m) (Nat.beq w x)))=a from hk) ha
  obtain ⟨b,rfl,hb,hw⟩:=hu.str;obtain ⟨d',rfl,hd,hx⟩:=hv.str;refine ⟨_,h2,?_,?_⟩
  ·simp only [eG,iL,kU];rw [Ez hb hw hd hx];rfl
  ·simp only [eG,iL,kU];rw [Ez hb hw hd hx];rfl
 |b _=>exact absurd hk.symm ha
 |sl _ _ _=>exact absurd hk.symm ha
 |o _=>exact absurd hk.symm ha
theorem Xx (h:RE ρ ρ') {x y:At} {k:K->aB} (hk:aac (cA ρ'.length x) (cA ρ'.length y) ρ k=a) (ha:a≠.fail):uJ a ρ' (.bin .eql false x y) k:=by obtain ⟨u,v,c,d,h1,h2,h3,h4,h5⟩:=two h hk ha;obtain ⟨q,h6,h7,_⟩:=OX h1 h2 h5 ha;exact ⟨.b q,_,.b q,by simp [bB,h3,h4,h7],by rw [<-h6,qp]⟩
theorem Yz (h:RE ρ ρ') {x y:At} {k:K->aB} (hk:abv (cA ρ'.length x) (cA ρ'.length y) ρ k=a) (ha:a≠.fail):uJ a ρ' (.bin .neq false x y) k:=by obtain ⟨u,v,c,d,h1,h2,h3,h4,h5⟩:=two h hk ha;obtain ⟨q,h6,_,h7⟩:=OX h1 h2 h5 ha;exact ⟨.b (!q),_,.b _,by simp [bB,h3,h4,h7],by rw [<-h6,qp]⟩
theorem Wu (h:RE ρ ρ') {x:At} {k:K->aB} (hk:Zd (cA ρ'.length x) ρ k=a) (ha:a≠.fail):uJ a ρ' (.un .not x) k:=by obtain ⟨u,c,h1,h2,h3⟩:=lq h hk ha;obtain ⟨p,rfl,h4⟩:=IW h3 ha;rw [h1.bool] at h2;exact ⟨.b (!p),_,.b _,by simp [bB,h2,YL,O7],by rw [<-h4,qp]⟩
theorem Xv (h:RE ρ ρ') {x:At} {k:K->aB} (hk:ZX (cA ρ'.length x) ρ k=a) (ha:a≠.fail):uJ a ρ' (.un .neg x) k:=by obtain ⟨u,c,h1,h2,h3⟩:=lq h hk ha;obtain ⟨p,n,rfl,h4⟩:=jf h3 ha;rw [h1.int] at h2;exact ⟨.i p (p.wrap (0 - n)),_,.i _ _,by simp [bB,h2,YL,O7],by rw [<-h4,wQ]⟩
theorem SN (h:RE ρ ρ') {q:IntKind} {x:At} {k:K->aB} (hk:UY q (cA ρ'.length x) ρ k=a) (ha:a≠.fail):uJ a ρ' (.conv q x) k:=by obtain ⟨u,c,h1,h2,h3⟩:=lq h hk ha;obtain ⟨p,n,rfl,h4⟩:=jf h3 ha;rw [h1.int] at h2;exact ⟨.i q (q.wrap n),_,.i _ _,by simp [bB,h2,Qy],by rw [<-h4,wQ]⟩
theorem Zy (h:RE ρ ρ') {x y:At} {k:K->aB} (hk:kMx (cA ρ'.length x) (cA ρ'.length y) ρ k=a) (ha:a≠.fail):uJ a ρ' (.mm true x y) k:=by
 obtain ⟨u,v,c,d,h1,h2,h3,h4,h5⟩:=two h hk ha;obtain ⟨p,n,m,rfl,rfl,h6⟩:=oJ h5 ha;rw [h1.int] at h3;rw [h2.int] at h4;rw [sI] at h6;refine ⟨.i p (if m > n then m else n),_,.i _ _,by simp [bB,h3,h4,YE,lF],?_⟩
 by_cases hlt:n < m
 ·rw [if_pos hlt];simpa [hlt] using h6
 ·rw [if_neg hlt];simpa [hlt] using h6
theorem ZA (h:RE ρ ρ') {x y:At} {k:K->aB} (hk:kMn (cA ρ'.length x) (cA ρ'.length y) ρ k=a) (ha:a≠.fail):uJ a ρ' (.mm false x y) k:=by
 obtain ⟨u,v,c,d,h1,h2,h3,h4,h5⟩:=two h hk ha;obtain ⟨p,n,m,rfl,rfl,h6⟩:=oJ h5 ha;rw [h1.int] at h3;rw [h2.int] at h4;rw [sI] at h6;refine ⟨.i p (if m < n then m else n),_,.i _ _,by simp [bB,h3,h4,YE,lF],?_⟩
 by_cases hlt:m < n
 ·rw [if_pos hlt];simpa [hlt] using h6
 ·rw [if_neg hlt];simpa [hlt] using h6
theorem Xp {u v:K} {c d:C} (hu:RK u c) (hv:RK v d) {n:Nat} (hn:Nat.beq (Ch u) n=true) {g:Bool->aB} (hk:kEq u v g=a) (ha:a≠.fail):∃q,g q=a/\Mv n c d=some q:=by
 have hn':Ch u=n:=Nat.eq_of_beq_eq_true hn;subst hn';cases u with
 |i p n=>
  obtain ⟨p',n',m,h1,rfl,h2⟩:=oJ (show nH (.i p n) v (fun _ n m=>g (zz n m))=a from hk) ha
  injection h1 with e1 e2;subst e1 e2;rw [hu.int,hv.int];exact ⟨_,h2,by simp [Mv,Ch,jV]⟩
 |s l w=>
  obtain ⟨m,x,rfl,h2⟩:=Ay (show Lb v (fun m x=>g (and (Nat.beq l m) (Nat.beq w x)))=a from hk) ha
  obtain ⟨b,rfl,hb,hw⟩:=hu.str;obtain ⟨d',rfl,hd,hx⟩:=hv.str;exact ⟨_,h2,by simp only [Mv,Ch];rw [Ez hb hw hd hx]⟩
 |b p=>
  obtain ⟨q,rfl,h2⟩:=IW (show YO v (fun q=>g (not (xor p q)))=a from hk) ha
  rw [hu.bool,hv.bool];exact ⟨_,h2,by cases p<;>cases q<;>rfl⟩
 |sl _ _ _=>exact absurd hk.symm ha
 |o _=>exact absurd hk.symm ha
theorem Mf:∀{ks:List Nat} {xs ys:List K} {cs ds:List C} {g:Bool->aB},nC xs cs->nC ys ds->XA ks xs ys g=a->a≠.fail->∃q,g q=a/\yw ks cs ds=some q
 |[],xs,ys,cs,ds,g,hx,hy,hk,ha=>by
  cases xs with
  |cons _ _=>exact absurd hk.symm ha
  |nil=>cases ys with
   |cons _ _=>exact absurd hk.symm ha
   |nil=>cases hx;cases hy;exact ⟨true,hk,rfl⟩
 |n::ks,xs,ys,cs,ds,g,hx,hy,hk,ha=>by
  cases xs with
  |nil=>exact absurd hk.symm ha
  |cons x xs=>cases ys with
   |nil=>exact absurd hk.symm ha
   |cons y ys=>
    cases hx with
    |cons hx1 hx2=>cases hy with
     |cons hy1 hy2=>
      obtain ⟨h1,h2⟩:=aP (show (cond (Nat.beq (Ch x) n) (kEq x y fun q=>XA ks xs ys fun p=>g (and q p)) .fail)=a from hk) ha
      obtain ⟨q,h3,h4⟩:=Xp hx1 hy1 h1 h2 ha;obtain ⟨p,h5,h6⟩:=Mf hx2 hy2 h3 ha;exact ⟨_,h5,by simp [yw,h4,h6]⟩
theorem IQ (h:RE ρ ρ') {ks:List Nat} {neg:Bool} {s t:SL} {k:K->aB} (hk:aav ks neg (cS ρ'.length s) (cS ρ'.length t) ρ k=a) (ha:a≠.fail):uJ a ρ' (.eqs ks neg s t) k:=by
 obtain ⟨_,xs,cs,h1,_,h2,h3⟩:=GL h hk ha;obtain ⟨_,ys,ds,h4,_,h5,h6⟩:=GL h h3 ha;obtain ⟨q,h7,h8⟩:=Mf h1 h4 h6 ha;refine ⟨.b (if neg then !q else q),_,.b _,by simp [bB,h2,h5,Nb,h8],?_⟩
 rw [<-h7,qp];cases neg<;>cases q<;>rfl
theorem XU (h:RE ρ ρ') {b:Bool} {x:At} {k:K->aB} (hk:abe b (cA ρ'.length x) ρ k=a) (ha:a≠.fail):uJ a ρ' (.len b x) k:=by
 obtain ⟨u,c,h1,h2,h3⟩:=lq h hk ha;cases u with
 |s l w=>
  obtain ⟨s,rfl,hs,_⟩:=h1.str;obtain ⟨h4,h5⟩:=aP (show (cond b (k (.i .i64 (.ofNat l))) .fail)=a from h3) ha
  subst h4;have:s.size=l:=by
   have:=congrArg List.length hs
   rw [kP] at this;exact this
  exact ⟨.i .i64 (.ofNat l),pM s.size,by rw [this];exact .i _ _,by simp [bB,h2,oh],h5⟩
 |sl e r n=>
  obtain ⟨cs,rfl,_,_⟩:=h1.sli;obtain ⟨h4,h5⟩:=nP (show (cond b .fail (k (.i .i64 (.ofNat n))))=a from h3) ha
  subst h4;exact ⟨.i .i64 (.ofNat n),pM n,.i _ _,by simp [bB,h2,oh],h5⟩
 |i _ _=>exact absurd h3.symm ha
 |b _=>exact absurd h3.symm ha
 |o _=>exact absurd h3.symm ha
end
end Go.Ey
namespace Go.Ey
noncomputable section
variable {α β:Type}
def fN (n:Nat) (k:Nat->α):α:=Nat.casesOn (motive:=fun _=>α) n (k 0) fun m=>k (Nat.succ m)
def nX (rt n:Nat):Nat->List Nat->List Nat:=Nat.rec (motive:=fun _=>Nat->List Nat->List Nat) (fun _ l=>l) (fun _ ih x l=>cond (Nat.blt x 64) (x::l) (fN (Nat.mod (Nat.shiftRight rt (Nat.mul 20 (Nat.sub x 64))) 1048576) fun p=>fN (Nat.div p 1024) fun a=>fN (Nat.mod p 1024) fun b=>ih a (ih b l))) n
def nT (rt n:Nat):Nat->List Nat->List Nat:=Nat.rec (motive:=fun _=>Nat->List Nat->List Nat) (fun _ l=>l) (fun _ ih s l=>fN s fun s=>cond (Nat.blt s 1024) l (ih (Nat.div s 1024) (fN (Nat.mod s 1024) fun x=>nX rt 64 x l))) n
variable (d:α)
def rC (l:List Nat) (k:Nat->List Nat->α):α:=List.casesOn (motive:=fun _=>α) l d k
def rG (c:Nat):List Nat->(Nat->List Nat->α)->α:=Nat.rec (motive:=fun _=>List Nat->(Nat->List Nat->α)->α) (fun l k=>k 0 l) (fun _ ih l k=>rC d l fun y l=>ih l fun v l=>fN (Nat.add y (Nat.mul 64 v)) fun v=>k v l) c
def rN (l:List Nat) (k:Nat->List Nat->α):α:=rC d l fun x l=>cond (Nat.blt x 48) (k x l) (rG d (Nat.sub x 48) l k)
def rB (l:List Nat) (k:Nat->List Nat->α):α:=rN d l fun n l=>rG d n l k
def rL (p:List Nat->(β->List Nat->α)->α) (l:List Nat) (k:List β->List Nat->α):α:=rN d l fun n l=>Nat.rec (motive:=fun _=>List Nat->(List β->List Nat->α)->α) (fun l k=>k [] l) (fun _ ih l k=>p l fun x l=>ih l fun xs l=>k (x::xs) l) n l k
def rI (l:List Nat) (k:IntKind->List Nat->α):α:=rC d l fun c l=>match c with
 |0=>k .i8 l|1=>k .i16 l|2=>k .i32 l|3=>k .i64 l|4=>k .u8 l|5=>k .u16 l|6=>k .u32 l|_=>k .u64 l
def rK (n:Nat):List Nat->(K->List Nat->α)->α:=Nat.rec (motive:=fun _=>List Nat->(K->List Nat->α)->α) (fun _ _=>d) (fun _ ih l k=>rC d l fun c l=>match c with
 |0=>rI d l fun i l=>rC d l fun s l=>rN d l fun m l=>k (.i i (match s with|0=> .ofNat m|_=> .negSucc m)) l
 |1=>rC d l fun b l=>k (.b (match b with|0=>false|_=>true)) l
 |2=>rN d l fun a l=>rB d l fun w l=>k (.s a w) l
 |_=>rN d l fun e l=>rL d (rL d ih) l fun r l=>rN d l fun n l=>k (.sl e r n) l) n
def rKs:=rL d (rK d 50)
def rA (l:List Nat) (k:KA->List Nat->α):α:=rC d l fun c l=>match c with
 |0=>rN d l fun i l=>k (.v i) l
 |1=>rN d l fun i l=>rN d l fun j l=>k (.n i j) l
 |_=>rK d 50 l fun x l=>k (.k x) l
def rS (l:List Nat) (k:KS->List Nat->α):α:=rC d l fun c l=>match c with
 |0=>rN d l fun i l=>rL d (rA d) l fun x l=>k (.lit i x) l
 |_=>rN d l fun i l=>k (.all i) l
def rV (l:List Nat) (k:KV->List Nat->α):α:=rC d l fun c l=>match c with
 |0=>rA d l fun a l=>k (.one a) l
 |_=>rS d l fun a l=>k (.agg a) l
def rON (l:List Nat) (k:Option Nat->List Nat->α):α:=rC d l fun c l=>match c with
 |0=>rN d l fun i l=>k (some i) l
 |_=>k none l
def rOA (l:List Nat) (k:Option KA->List Nat->α):α:=rC d l fun c l=>match c with
 |0=>rA d l fun i l=>k (some i) l
 |_=>k none l
def Jb (f:KA->KA->KO) (l:List Nat) (k:KO->List Nat->α):α:=rA d l fun a l=>rA d l fun b l=>k (f a b) l
def rO (l:List Nat) (k:KO->List Nat->α):α:=rC d l fun c l=>match c with
 |0=>Jb d .add l k
 |1=>Jb d .sub l k
 |2=>Jb d .mul l k
 |3=>Jb d .quo l k
 |4=>Jb d .rem l k
 |5=>Jb d .eql l k
 |6=>Jb d .neq l k
 |7=>Jb d .lss l k
 |8=>Jb d .leq l k
 |9=>Jb d .gtr l k
 |10=>Jb d .geq l k
 |11=>Jb d .mx l k
 |12=>Jb d .mn l k
 |13=>Jb d .shz l k
 |14=>Jb d .anz l k
 |15=>rA d l fun s l=>k (.not s) l
 |16=>rA d l fun s l=>k (.neg s) l
 |17=>rI d l fun s l=>rA d l fun t l=>k (.conv s t) l
 |18=>rL d (rN d) l fun s l=>rC d l fun t l=>rS d l fun u l=>rS d l fun v l=>k (.eqs s (Nat.beq t 1) u v) l
 |19=>rC d l fun s l=>rA d l fun t l=>k (.len (Nat.beq s 1) t) l
 |20=>rN d l fun s l=>rN d l fun t l=>rA d l fun u l=>rA d l fun v l=>k (.app s t u v) l
 |21=>rN d l fun s l=>rA d l fun t l=>rA d l fun u l=>rN d l fun v l=>rN d l fun w l=>rL d (rA d) l fun x l=>k (.set s t u v w x) l
 |22=>rN d l fun s l=>rA d l fun t l=>rOA d l fun u l=>rOA d l fun v l=>k (.slc s t u v) l
 |23=>rA d l fun s l=>rOA d l fun t l=>rOA d l fun u l=>k (.GU s t u) l
 |24=>rA d l fun s l=>rA d l fun t l=>k (.nM s t) l
 |25=>rA d l fun s l=>k (.toStr s) l
 |26=>rN d l fun s l=>rN d l fun t l=>rL d (rK d 50) l fun u l=>rA d l fun v l=>rA d l fun w l=>k (.mk s t u v w) l
 |27=>rN d l fun s l=>rN d l fun t l=>rL d (rA d) l fun u l=>k (.lits s t u) l
 |28=>rA d l fun s l=>rK d 50 l fun t l=>k (.is s t) l
 |29=>rN d l fun s l=>rL d (rK d 50) l fun t l=>k (.isL s t) l
 |_=>k .no l
def rT (n:Nat):List Nat->(gL->List Nat->α)->α:=Nat.rec (motive:=fun _=>List Nat->(gL->List Nat->α)->α) (fun _ _=>d) (fun _ ih l k=>rC d l fun c l=>match c with
 |0=>rO d l fun s l=>ih l fun t l=>k (.aY s t) l
 |1=>rN d l fun s l=>rA d l fun t l=>rA d l fun u l=>ih l fun v l=>k (.row s t u v) l
 |2=>rA d l fun s l=>ih l fun t l=>ih l fun u l=>k (.ite s t u) l
 |3=>rN d l fun s l=>rL d (rV d) l fun t l=>rL d (rS d) l fun u l=>rL d (rON d) l fun v l=>rL d (rN d) l fun w l=>ih l fun x l=>k (.call s t u v w x) l
 |4=>rN d l fun s l=>rN d l fun t l=>rL d (rV d) l fun u l=>k (.goto s t u) l
 |5=>rL d (rV d) l fun s l=>rL d (rS d) l fun t l=>k (.ret s t) l
 |_=>k .fail l) n
end
end Go.Ey
