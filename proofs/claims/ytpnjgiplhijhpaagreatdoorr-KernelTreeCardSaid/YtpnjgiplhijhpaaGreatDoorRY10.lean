/- A part. -/
import Derived.Test.YtpnjgiplhijhpaaGreatDoorRY06
set_option linter.all false
namespace Go.Ey.Fe
open Go.Ey
noncomputable section
universe u
variable {α:Type u}
def fN (n:Nat):(Nat->α)->α:=Nat.rec (motive:=fun _=>(Nat->α)->α) (fun k=>k 0) (fun m_ _=>(fun m k=>k (Nat.succ m)) m_) n
def fI (n:Int):(Int->α)->α:=Int.rec (motive:=fun _=>(Int->α)->α) (fun m k=>fN m fun m=>k (.ofNat m)) (fun m k=>fN m fun m=>k (.negSucc m)) n
def fB (b:Bool):(Bool->α)->α:=Bool.rec (motive:=fun _=>(Bool->α)->α) (fun k=>k false) (fun k=>k true) b
def fV (v:Value):(Value->α)->α:=Value.rec (motive_1:=fun _=>(Value->α)->α) (motive_2:=fun _=>PUnit) (motive_3:=fun _=>PUnit) (fun b k=>fB b fun b=>k (.bool b)) (fun i n k=>fI n fun n=>k (.int i n)) (fun a b k=>k (.float a b)) (fun a b c k=>k (.complex a b c)) (fun s k=>k (.string s)) (fun a k=>k (.pointer a)) (fun a b c k=>k (.slice a b c)) (fun a k=>k (.map a)) (fun a k=>k (.chan a)) (fun f_ a_ b_ _ _=>(fun a b c k=>k (.func a b c)) f_ a_ b_) (fun k=>k .nilFunc) (fun t_ v_ _=>(fun a b k=>k (.iface a b)) t_ v_) (fun k=>k .nilIface) (fun c_ _=>(fun a k=>k (.agg a)) c_) (fun c_ _=>(fun a k=>k (.tuple a)) c_) (fun _ _=>PUnit.unit) PUnit.unit (fun _ _ _ _=>PUnit.unit) v
def fC (c:C):(C->α)->α:=C.rec (motive_1:=fun _=>(C->α)->α) (motive_2:=fun _=>PUnit) (fun v k=>fV v fun v=>k (.lit v)) (fun c_ n_ _=>(fun cs n k=>fN n fun n=>k (.slice cs n)) c_ n_) PUnit.unit (fun _ _ _ _=>PUnit.unit) c
def fD (d:D):(D->α)->α:=D.rec (motive_1:=fun _=>(D->α)->α) (motive_2:=fun _=>PUnit) (fun k=>k .fK) (fun x k=>fC x fun x=>k (.c x)) (fun i o k=>fN i fun i=>fN o fun o=>k (.loc i o)) (fun i o l k=>fN i fun i=>fN o fun o=>fN l fun l=>k (.arr i o l)) (fun cs k=>k (.ptr cs)) (fun cs n k=>fN n fun n=>k (.full cs n)) (fun f cs k=>k (.bJ f cs)) (fun i k=>fN i fun i=>k (.mp i)) (fun d_ _=>(fun ds k=>k (.agg ds)) d_) (fun d_ _=>(fun ds k=>k (.dB ds)) d_) PUnit.unit (fun _ _ _ _=>PUnit.unit) d
theorem pU (n:Nat) (k:Nat->α):fN n k=k n:=by cases n<;>rfl
theorem aau (n:Int) (k:Int->α):fI n k=k n:=by cases n<;>simp only [fI,pU]
theorem abu (b:Bool) (k:Bool->α):fB b k=k b:=by cases b<;>rfl
theorem Y4 (v:Value) (k:Value->α):fV v k=k v:=by
 cases v with
 |bool b=>simp only [fV,abu]
 |int i n=>simp only [fV,aau]
 |_=>rfl
theorem aaH (c:C) (k:C->α):fC c k=k c:=by
 cases c with
 |lit v=>simp only [fC,Y4]
 |slice cs n=>simp only [fC,pU]
theorem BU (d:D) (k:D->α):fD d k=k d:=by
 cases d with
 |c x=>simp only [fD,aaH]
 |loc i o=>simp only [fD,pU]
 |arr i o l=>simp only [fD,pU]
 |full cs n=>simp only [fD,pU]
 |mp i=>simp only [fD,pU]
 |_=>rfl
def ob {β γ:Type} (o:Option β):(β->Option γ)->Option γ:=Option.rec (motive:=fun _=>(β->Option γ)->Option γ) (fun _=>none) (fun x k=>k x) o
theorem aS {β γ:Type} (o:Option β) (k:β->Option γ):ob o k=o.bind k:=by cases o<;>rfl
def omap {β γ:Type} (o:Option β):(β->γ)->Option γ:=Option.rec (motive:=fun _=>(β->γ)->Option γ) (fun _=>none) (fun x k=>some (k x)) o
theorem qY {β γ:Type} (o:Option β) (k:β->γ):omap o k=o.map k:=by cases o<;>rfl
def Qw (e:Env) (t:Nat):D:=List.rec (motive:=fun _=>D) .fK (fun p _ ih=>Prod.rec (motive:=fun _=>D) (fun t' d=>Bool.rec (motive:=fun _=>D) ih d (Nat.beq t' t)) p) e
theorem yE (n m:Nat):Nat.beq n m=decide (n=m):=by
 by_cases h:n=m
 ·subst h;simp
 ·rw [decide_eq_false h];cases hb:Nat.beq n m with
  |true=>exact absurd (Nat.eq_of_beq_eq_true hb) h
  |false=>rfl
theorem iW {n m:Nat} {β:Type u} (a b:β):cond (Nat.beq n m) a b=if n=m then a else b:=by rw [yE];by_cases h:n=m<;>simp [h]
theorem VY {β:Type u} (b:Bool) (x y:β):Bool.rec (motive:=fun _=>β) y x b=cond b x y:=by cases b<;>rfl
theorem DN:∀(e:Env) (t:Nat),Qw e t=bS e t
 |[],_=>rfl
 |(t',d)::r,t=>by
  have ih:=DN r t;show Bool.rec (motive:=fun _=>D) (Qw r t) d (Nat.beq t' t)=_
  rw [VY,iW,ih];rfl
def jr (h:Heap) (i:Nat):Obj:=List.rec (motive:=fun _=>Obj) .dead (fun p _ ih=>Prod.rec (motive:=fun _=>Obj) (fun i' o=>Bool.rec (motive:=fun _=>Obj) ih o (Nat.beq i' i)) p) h
theorem iq:∀(h:Heap) (i:Nat),jr h i=af h i
 |[],_=>rfl
 |(i',o)::r,i=>by
  have ih:=iq r i;show Bool.rec (motive:=fun _=>Obj) (jr r i) o (Nat.beq i' i)=_
  rw [VY,iW,ih];rfl
def nL (us:List (Nat×Obj)):Heap->Heap:=List.rec (motive:=fun _=>Heap->Heap) (fun h=>h) (fun u _ ih h=>ih (u::h)) us
theorem fu:∀(us:List (Nat×Obj)) (h:Heap),nL us h=ah h us
 |[],_=>rfl
 |u::us,h=>fu us (u::h)
def Ur (v:Value):D:=Value.rec (motive_1:=fun _=>D) (motive_2:=fun _=>PUnit) (motive_3:=fun _=>PUnit) (fun b=> .c (.lit (.bool b))) (fun i n=> .c (.lit (.int i n))) (fun a b=> .c (.lit (.float a b))) (fun a b c=> .c (.lit (.complex a b c))) (fun s=> .c (.lit (.string s))) (fun a=>Option.rec (motive:=fun _=>D) (.c (.lit (.pointer none))) (fun _=> .fK) a) (fun a l c=>match a,l,c with|none,0,0=> .full [] 0|_,_,_=> .fK) (fun a=>Option.rec (motive:=fun _=>D) (.c (.lit (.map none))) (fun _=> .fK) a) (fun _=> .fK) (fun f_ a_ b_ _ _=>(fun _ _ _=> .fK) f_ a_ b_) (.c (.lit .nilFunc)) (fun t_ v_ _=>(fun _ _=> .fK) t_ v_) (.c (.lit .nilIface)) (fun c_ _=>(fun _=> .fK) c_) (fun c_ _=>(fun _=> .fK) c_) (fun _ _=>PUnit.unit) PUnit.unit (fun _ _ _ _=>PUnit.unit) v
def xK (e:Env) (x:X):D:=X.rec (motive:=fun _=>D) (fun n=>Qw e n) Ur (fun n=> .bJ n []) x
theorem rM (e:Env):xK e=iI e:=by
 funext x;cases x with
 |t n=>exact DN e n
 |f n=>rfl
 |k v=>
  show Ur v=_
  cases v with
  |pointer a=>cases a<;>rfl
  |map a=>cases a<;>rfl
  |slice a l c=>
   cases a with
   |some a=>rfl
   |none=>
    cases l with
    |succ l=>rfl
    |zero=>cases c<;>rfl
  |_=>rfl
def wV (e:Env) (dst:Option Nat):D->Env:=Option.rec (motive:=fun _=>D->Env) (fun _=>e) (fun t d=>(t,d)::e) dst
theorem kG (e:Env) (dst:Option Nat) (d:D):wV e dst d=dO e dst d:=by cases dst<;>rfl
def bdV (v:Value):(Bool->α)->α->α:=Value.rec (motive_1:=fun _=>(Bool->α)->α->α) (motive_2:=fun _=>PUnit) (motive_3:=fun _=>PUnit) (fun b k _=>k b) (fun _ _ _ z=>z) (fun _ _ _ z=>z) (fun _ _ _ _ z=>z) (fun _ _ z=>z) (fun _ _ z=>z) (fun _ _ _ _ z=>z) (fun _ _ z=>z) (fun _ _ z=>z) (fun f_ a_ b_ _ _=>(fun _ _ _ _ z=>z) f_ a_ b_) (fun _ z=>z) (fun t_ v_ _=>(fun _ _ _ z=>z) t_ v_) (fun _ z=>z) (fun c_ _=>(fun _ _ z=>z) c_) (fun c_ _=>(fun _ _ z=>z) c_) (fun _ _=>PUnit.unit) PUnit.unit (fun _ _ _ _=>PUnit.unit) v
def bdC (c:C):(Bool->α)->α->α:=C.rec (motive_1:=fun _=>(Bool->α)->α->α) (motive_2:=fun _=>PUnit) bdV (fun c_ n_ _=>(fun _ _ _ z=>z) c_ n_) PUnit.unit (fun _ _ _ _=>PUnit.unit) c
def Qk (d:D):(Bool->α)->α->α:=D.rec (motive_1:=fun _=>(Bool->α)->α->α) (motive_2:=fun _=>PUnit) (fun _ z=>z) bdC (fun _ _ _ z=>z) (fun _ _ _ _ z=>z) (fun _ _ z=>z) (fun _ _ _ z=>z) (fun _ _ _ z=>z) (fun _ _ z=>z) (fun d_ _=>(fun _ _ z=>z) d_) (fun d_ _=>(fun _ _ z=>z) d_) PUnit.unit (fun _ _ _ _=>PUnit.unit) d
def ack (ds:List D) (_:Bool):Option Bool:=List.rec (motive:=fun _=>Option Bool) (some false) (fun x_ t_ _=>(fun _ _=>none) x_ t_) ds
def wBo (w b:Bool):Option Bool:=some (cond b w (not w))
def wC (x:C) (w:Bool):Option Bool:=bdC x (wBo w) none
def Vl (want:Bool) (d:D):Option Bool:=D.rec (motive_1:=fun _=>Bool->Option Bool) (motive_2:=fun _=>PUnit) (fun _=>none) wC (fun _ _ _=>none) (fun _ _ _ _=>none) (fun _ _=>none) (fun _ _ _=>none) (fun _ _ _=>none) (fun _ _=>none) (fun d_ _=>(fun _ _=>none) d_) (fun d_ _=>ack d_) PUnit.unit (fun _ _ _ _=>PUnit.unit) d want
def zC (e:Env) (g:Option (Nat×Bool)):Option Bool:=Option.rec (motive:=fun _=>Option Bool) (some true) (fun p=>Prod.rec (motive:=fun _=>Option Bool) (fun t want=>Vl want (Qw e t)) p) g
theorem AR (e:Env) (g:Option (Nat×Bool)):zC e g=wanted e g:=by
 cases g with
 |none=>rfl
 |some p=>
  obtain ⟨t,want⟩:=p;show Vl want (Qw e t)=(match bS e t with|.c (.lit (.bool b))=>some (b==want)|.dB []=>some false|_=>none)
  rw [DN];generalize bS e t=d;cases d with
  |c x=>
   cases x with
   |slice _ _=>rfl
   |lit v=>
    cases v with
    |bool b=>cases b<;>cases want<;>rfl
    |_=>rfl
  |dB ds=>cases ds<;>rfl
  |_=>rfl
section
variable {β γ:Type}
def jI (l:List β):Nat:=List.rec (motive:=fun _=>Nat) 0 (fun _ _ ih=>Nat.succ ih) l
theorem bK:∀l:List β,jI l=l.length
 |[]=>rfl
 |_::l=>congrArg Nat.succ (bK l)
def yj (n:Nat):List β->List β:=Nat.rec (motive:=fun _=>List β->List β) (fun l=>l) (fun _ ih l=>List.rec (motive:=fun _=>List β) [] (fun x_ t_ _=>(fun _ t=>ih t) x_ t_) l) n
theorem jP:∀(n:Nat) (l:List β),yj n l=l.drop n
 |0,_=>rfl
 |_+1,[]=>rfl
 |n+1,_::l=>jP n l
def rP (n:Nat):List β->List β:=Nat.rec (motive:=fun _=>List β->List β) (fun _=>[]) (fun _ ih l=>List.rec (motive:=fun _=>List β) [] (fun x_ t_ _=>(fun x t=>x::ih t) x_ t_) l) n
theorem gZ:∀(n:Nat) (l:List β),rP n l=l.take n
 |0,l=>by rw [List.take_zero];rfl
 |_+1,[]=>rfl
 |n+1,x::l=>congrArg (x::·) (gZ n l)
def mW (xs ys:List β):List β:=List.rec (motive:=fun _=>List β) ys (fun x _ ih=>x::ih) xs
theorem eH:∀xs ys:List β,mW xs ys=xs++ys
 |[],_=>rfl
 |x::xs,ys=>congrArg (x::·) (eH xs ys)
def iP (f:β->γ) (xs:List β):List γ:=List.rec (motive:=fun _=>List γ) [] (fun x _ ih=>f x::ih) xs
theorem dw (f:β->γ):∀xs:List β,iP f xs=xs.map f
 |[]=>rfl
 |x::xs=>congrArg (f x::·) (dw f xs)
def Um (f:β->Bool) (xs:List β):Bool:=List.rec (motive:=fun _=>Bool) true (fun x _ ih=>cond (f x) ih false) xs
theorem K4 (f:β->Bool):∀xs:List β,Um f xs=xs.all f
 |[]=>rfl
 |x::xs=>by
  show cond (f x) (Um f xs) false=_
  rw [K4 f xs,List.all_cons,Bool.cond_false_right]
def fL (l:List β):(List β->α)->α:=List.rec (motive:=fun _=>(List β->α)->α) (fun k=>k []) (fun x _ ih k=>ih fun r=>k (x::r)) l
theorem Cr:∀(l:List β) (k:List β->α),fL l k=k l
 |[],_=>rfl
 |x::l,k=>Cr l fun r=>k (x::r)
def yT (l:List β) (off:Nat) (xs:List β):List β:=mW (rP off l) (mW xs (yj (off+jI xs) l))
theorem Ai (l:List β) (off:Nat) (xs:List β):yT l off xs=splice l off xs:=by unfold yT splice;rw [eH,eH,gZ,jP,bK,List.append_assoc]
end
def a2 (a b:Bool):Bool:=Bool.rec (motive:=fun _=>Bool->Bool) (fun _=>false) (fun b=>b) a b
theorem xY (a b:Bool):a2 a b=(a && b):=by cases a<;>rfl
theorem BH (n m:Nat):Nat.ble n m=decide (n<=m):=by
 by_cases h:n<=m
 ·rw [Nat.ble_eq_true_of_le h,decide_eq_true h]
 ·rw [decide_eq_false h];cases hb:Nat.ble n m with
  |true=>exact absurd (Nat.le_of_ble_eq_true hb) h
  |false=>rfl
theorem kF {n m:Nat} {β:Type u} (a b:β):cond (Nat.ble n m) a b=if n<=m then a else b:=by rw [BH];by_cases h:n<=m<;>simp [h]
def yO (d:D):Bool:=D.rec (motive_1:=fun _=>Bool) (motive_2:=fun _=>PUnit) false (fun _=>true) (fun _ _=>true) (fun _ _ _=>true) (fun _=>true) (fun _ _=>true) (fun _ _=>true) (fun _=>true) (fun d_ _=>(fun _=>false) d_) (fun d_ _=>(fun _=>false) d_) PUnit.unit (fun _ _ _ _=>PUnit.unit) d
theorem Jj (d:D):yO d=lD d:=by cases d<;>rfl
def xg (d:D):Option (List D):=D.rec (motive_1:=fun _=>Option (List D)) (motive_2:=fun _=>PUnit) none (fun x=>some [.c x]) (fun i o=>some [.loc i o]) (fun i o l=>some [.arr i o l]) (fun cs=>some [.ptr cs]) (fun cs n=>some [.full cs n]) (fun f c=>some [.bJ f c]) (fun i=>some [.mp i]) (fun d_ _=>(fun ds=>cond (Um yO ds) (some ds) none) d_) (fun d_ _=>(fun _=>none) d_) PUnit.unit (fun _ _ _ _=>PUnit.unit) d
theorem xz (d:D):xg d=cellsD d:=by
 cases d with
 |agg ds=>
  show cond (Um yO ds) (some ds) none=if ds.all lD=true then some ds else none
  rw [K4,show yO=lD from funext Jj]
  cases ds.all lD<;>rfl
 |_=>rfl
abbrev FZ:=Option (C×List (Nat×Obj))
def fzO (o:Obj):Nat->Nat->Nat->FZ:=Obj.rec (motive:=fun _=>Nat->Nat->Nat->FZ) (fun _ _ _=>none) (fun _ _ _ _=>none) (fun cs aa fz ety id off len=>cond (Nat.ble (off+len * aa) (jI cs)) (some (.slice (rP (len * aa) (yj off cs)) len,cond (Nat.ble (off+len * aa) fz) [] [(id,.arr cs aa (off+len * aa) ety)])) none) (fun _ _ _ _=>none) o
def fzA (id off len:Nat) (h:Heap):FZ:=fzO (jr h id) id off len
def Po (d:D):Heap->FZ:=D.rec (motive_1:=fun _=>Heap->FZ) (motive_2:=fun _=>PUnit) (fun _=>none) (fun x _=>some (x,[])) (fun _ _ _=>none) fzA (fun _ _=>none) (fun cs n _=>some (.slice cs n,[])) (fun _ _ _=>none) (fun _ _=>none) (fun d_ _=>(fun _ _=>none) d_) (fun d_ _=>(fun _ _=>none) d_) PUnit.unit (fun _ _ _ _=>PUnit.unit) d
theorem EU (d:D) (h:Heap):Po d h=gM h d:=by
 cases d with
 |arr id off len=>
  show fzO (jr h id) id off len=(match af h id with
   |.arr cs aa fz ety=>if off+len * aa<=cs.length then some (.slice ((cs.drop off).take (len * aa)) len,if off+len * aa<=fz then [] else [(id,.arr cs aa (off+len * aa) ety)]) else none
   |_=>none)
  rw [iq];generalize af h id=o;cases o with
  |arr cs aa fz ety=>
   simp only [fzO];rw [kF,kF,bK,gZ,jP]
  |_=>rfl
 |_=>rfl
abbrev FL:=Option (List C×List (Nat×Obj))
def pL (c:C) (u:List (Nat×Obj)) (q:List C×List (Nat×Obj)):FL:=Prod.rec (motive:=fun _=>FL) (fun cs us=>some (c::cs,mW u us)) q
def AZ (ds:List D):Heap->FL:=List.rec (motive:=fun _=>Heap->FL) (fun _=>some ([],[])) (fun d _ ih h=>ob (Po d h) fun p=>Prod.rec (motive:=fun _=>FL) (fun c u=>ob (ih (nL u h)) (pL c u)) p) ds
theorem uo:∀(ds:List D) (h:Heap),AZ ds h=eD h ds
 |[],_=>rfl
 |d::ds,h=>by
  show ob (Po d h) (fun p=>ob (AZ ds (nL p.2 h)) (pL p.1 p.2))=(gM h d).bind fun p=>(eD (ah h p.2) ds).bind fun q=>some (p.1::q.1,p.2++q.2)
  rw [aS,EU];congr 1;funext p;rw [aS,uo ds,fu];congr 1;funext q;show some (p.1::q.1,mW p.2 q.2)=_
  rw [eH]
abbrev FV:=Option (V×List (Nat×Obj))
def fzC (p:C×List (Nat×Obj)):FV:=Prod.rec (motive:=fun _=>FV) (fun c u=>some (.one c,u)) p
def ZJ (p:List C×List (Nat×Obj)):FV:=Prod.rec (motive:=fun _=>FV) (fun cs u=>some (.agg cs,u)) p
def Mg (d:D):Heap->FV:=D.rec (motive_1:=fun _=>Heap->FV) (motive_2:=fun _=>PUnit) (fun _=>none) (fun x _=>some (.one x,[])) (fun _ _ _=>none) (fun i o l h=>ob (fzA i o l h) fzC) (fun _ _=>none) (fun cs n _=>some (.one (.slice cs n),[])) (fun _ _ _=>none) (fun _ _=>none) (fun d_ _=>(fun ds h=>ob (AZ ds h) ZJ) d_) (fun d_ _=>(fun _ _=>none) d_) PUnit.unit (fun _ _ _ _=>PUnit.unit) d
theorem Hf (d:D) (h:Heap):Mg d h=eP h d:=by
 cases d with
 |arr i o l=>
  show ob (Po (.arr i o l) h) fzC=(gM h (.arr i o l)).bind fun p=>some (.one p.1,p.2)
  rw [aS,EU];rfl
 |agg ds=>
  show ob (AZ ds h) ZJ=(eD h ds).bind fun p=>some (.agg p.1,p.2)
  rw [aS,uo];rfl
 |_=>rfl
abbrev ZP:=Option (List V×List (Nat×Obj))
def pV (c:V) (u:List (Nat×Obj)) (q:List V×List (Nat×Obj)):ZP:=Prod.rec (motive:=fun _=>ZP) (fun cs us=>some (c::cs,mW u us)) q
def wN (ds:List D):Heap->ZP:=List.rec (motive:=fun _=>Heap->ZP) (fun _=>some ([],[])) (fun d _ ih h=>ob (Mg d h) fun p=>Prod.rec (motive:=fun _=>ZP) (fun c u=>ob (ih (nL u h)) (pV c u)) p) ds
theorem nG:∀(ds:List D) (h:Heap),wN ds h=bY h ds
 |[],_=>rfl
 |d::ds,h=>by
  show ob (Mg d h) (fun p=>ob (wN ds (nL p.2 h)) (pV p.1 p.2))=(eP h d).bind fun p=>(bY (ah h p.2) ds).bind fun q=>some (p.1::q.1,p.2++q.2)
  rw [aS,Hf];congr 1;funext p;rw [aS,nG ds,fu];congr 1;funext q;show some (p.1::q.1,mW p.2 q.2)=_
  rw [eH]
abbrev FD:=Option (D×List (Nat×Obj))
abbrev YG:=Option (List D×List (Nat×Obj))
def fzS (p:C×List (Nat×Obj)):FD:=Prod.rec (motive:=fun _=>FD) (fun c u=>some (.c c,u)) p
def Gm (d:D) (_:Heap):FD:=some (d,[])
def zU (d:D):Heap->FD:=D.rec (motive_1:=fun _=>Heap->FD) (motive_2:=fun _=>PUnit) (Gm .fK) (fun x=>Gm (.c x)) (fun i o=>Gm (.loc i o)) (fun i o l h=>ob (fzA i o l h) fzS) (fun cs=>Gm (.ptr cs)) (fun cs n=>Gm (.full cs n)) (fun f c=>Gm (.bJ f c)) (fun i=>Gm (.mp i)) (fun d_ _=>(fun ds=>Gm (.agg ds)) d_) (fun d_ _=>(fun ds=>Gm (.dB ds)) d_) PUnit.unit (fun _ _ _ _=>PUnit.unit) d
theorem F3 (d:D) (h:Heap):zU d h=tL h d:=by
 cases d with
 |arr i o l=>
  show ob (Po (.arr i o l) h) fzS=(gM h (.arr i o l)).bind fun p=>some (.c p.1,p.2)
  rw [aS,EU];rfl
 |_=>rfl
def pD2 (c:D) (u:List (Nat×Obj)) (q:List D×List (Nat×Obj)):YG:=Prod.rec (motive:=fun _=>YG) (fun cs us=>some (c::cs,mW u us)) q
def vC (f:D->Heap->FD) (ds:List D):Heap->YG:=List.rec (motive:=fun _=>Heap->YG) (fun _=>some ([],[])) (fun d _ ih h=>ob (f d h) fun p=>Prod.rec (motive:=fun _=>YG) (fun c u=>ob (ih (nL u h)) (pD2 c u)) p) ds
theorem BZ:∀(ds:List D) (h:Heap),vC zU ds h=su h ds
 |[],_=>rfl
 |d::ds,h=>by
  show ob (zU d h) (fun p=>ob (vC zU ds (nL p.2 h)) (pD2 p.1 p.2))=(tL h d).bind fun p=>(su (ah h p.2) ds).bind fun q=>some (p.1::q.1,p.2++q.2)
  rw [aS,F3];congr 1;funext p;rw [aS,BZ ds,fu];congr 1;funext q;show some (p.1::q.1,mW p.2 q.2)=_
  rw [eH]
def agD (p:List D×List (Nat×Obj)):FD:=Prod.rec (motive:=fun _=>FD) (fun c u=>some (.agg c,u)) p
def A7 (d:D):Heap->FD:=D.rec (motive_1:=fun _=>Heap->FD) (motive_2:=fun _=>PUnit) (Gm .fK) (fun x=>Gm (.c x)) (fun i o=>Gm (.loc i o)) (fun i o l h=>ob (fzA i o l h) fzS) (fun cs=>Gm (.ptr cs)) (fun cs n=>Gm (.full cs n)) (fun f c=>Gm (.bJ f c)) (fun i=>Gm (.mp i)) (fun d_ _=>(fun ds h=>ob (vC zU ds h) agD) d_) (fun d_ _=>(fun ds=>Gm (.dB ds)) d_) PUnit.unit (fun _ _ _ _=>PUnit.unit) d
theorem NW (d:D) (h:Heap):A7 d h=zX h d:=by
 cases d with
 |arr i o l=>
  show zU (.arr i o l) h=tL h (.arr i o l)
  rw [F3]
 |agg ds=>
  show ob (vC zU ds h) agD=(su h ds).bind fun p=>some (.agg p.1,p.2)
  rw [aS,BZ];rfl
 |_=>rfl
theorem wJ:∀(ds:List D) (h:Heap),vC A7 ds h=iU h ds
 |[],_=>rfl
 |d::ds,h=>by
  show ob (A7 d h) (fun p=>ob (vC A7 ds (nL p.2 h)) (pD2 p.1 p.2))=(zX h d).bind fun p=>(iU (ah h p.2) ds).bind fun q=>some (p.1::q.1,p.2++q.2)
  rw [aS,NW];congr 1;funext p;rw [aS,wJ ds,fu];congr 1;funext q;show some (p.1::q.1,mW p.2 q.2)=_
  rw [eH]
def Qi (ds:List D):D:=List.rec (motive:=fun _=>D) (.dB []) (fun x_ t_ _=>(fun d r=>List.rec (motive:=fun _=>D->D) (fun d=>d) (fun x_ t_ _=>(fun x r d=> .dB (d::x::r)) x_ t_) r d) x_ t_) ds
theorem K7 (ds:List D):Qi ds=ko ds:=by
 cases ds with
 |nil=>rfl
 |cons d r=>cases r<;>rfl
def P5 (own:Nat) (h:Heap) (ds:List D):YG:=cond (Nat.beq own 2) (some (ds,[])) (vC A7 ds h)
theorem Qc (own:Nat) (h:Heap) (ds:List D):P5 own h ds=Af own h ds:=by unfold P5 Af;rw [iW,wJ]
abbrev LR:=Option (D×Heap×Nat)
def aaA (own:Nat) (rs:List D) (h:Heap) (nx:Nat):LR:=Nat.rec (motive:=fun _=>List D->Heap->Nat->LR) (fun rs h nx=>ob (vC A7 rs h) fun q=>Prod.rec (motive:=fun _=>LR) (fun rs us=>some (Qi rs,nL us h,nx)) q) (fun m_ _=>(fun _ rs h nx=>some (Qi rs,h,nx)) m_) own rs h nx
def aa0 (own:Nat) (q:List D×Heap×Nat):LR:=Prod.rec (motive:=fun _=>LR) (fun rs q=>Prod.rec (motive:=fun _=>LR) (fun h nx=>aaA own rs h nx) q) q
def Ld (aF:bn) (own f:Nat) (ds:List D) (h:Heap) (nx:Nat):LR:=ob (P5 own h ds) fun p=>Prod.rec (motive:=fun _=>LR) (fun ds us=>ob (aF f ds (nL us h) nx) (aa0 own)) p
theorem Ia (aF:bn) (own f:Nat) (ds:List D) (h:Heap) (nx:Nat):Ld aF own f ds h nx=iA aF own f ds h nx:=by
 unfold Ld iA;rw [aS,Qc];simp only [Option.bind_eq_bind];congr 1;funext p;obtain ⟨ds,us⟩:=p;show ob (aF f ds (nL us h) nx) (aa0 own)=_
 rw [aS,fu];congr 1;funext q;obtain ⟨rs,h',nx'⟩:=q;show aaA own rs h' nx'=_
 cases own with
 |zero=>
  show ob (vC A7 rs h') _=_
  rw [aS,wJ];show _=(iU h' rs).bind fun p=>some (ko p.1,ah h' p.2,nx')
  congr 1;funext p;obtain ⟨rs',us'⟩:=p;show some (Qi rs',nL us' h',nx')=_
  rw [K7,fu]
 |succ m=>show some (Qi rs,h',nx')=_;rw [K7];rfl
def cV (c:C):(Value->Option α)->Option α:=C.rec (motive_1:=fun _=>(Value->Option α)->Option α) (motive_2:=fun _=>PUnit) (fun v k=>k v) (fun c_ n_ _=>(fun _ _ _=>none) c_ n_) PUnit.unit (fun _ _ _ _=>PUnit.unit) c
def Vu (d:D):(Value->Option α)->Option α:=D.rec (motive_1:=fun _=>(Value->Option α)->Option α) (motive_2:=fun _=>PUnit) (fun _=>none) cV (fun _ _ _=>none) (fun _ _ _ _=>none) (fun _ _=>none) (fun _ _ _=>none) (fun _ _ _=>none) (fun _ _=>none) (fun d_ _=>(fun _ _=>none) d_) (fun d_ _=>(fun _ _=>none) d_) PUnit.unit (fun _ _ _ _=>PUnit.unit) d
theorem Jz {β:Type} (d:D) (k:Value->Option β):Vu d k=(jO d).bind k:=by
 cases d with
 |c x=>cases x<;>rfl
 |_=>rfl
def iiV (i j:IntKind) (a b:Int) (op:IntKind->Int->Int->Option Value):Option Value:=cond (Nat.beq (kk i) (kk j)) (op i a b) none
def ZU (k:IntKind) (a b:Int):Option Value:=some (.int k (yo k (a+b)))
def aat (k:IntKind) (a b:Int):Option Value:=some (.int k (yo k (a - b)))
def aa5 (k:IntKind) (a b:Int):Option Value:=some (.int k (yo k (a * b)))
def aaF (k:IntKind) (a b:Int):Option Value:=cond (zz b 0) none (some (.int k (yo k (a.tdiv b))))
def ZL (k:IntKind) (a b:Int):Option Value:=cond (zz b 0) none (some (.int k (a.tmod b)))
def bO (op:BinOp) (k:IntKind) (a b:Int):Option Value:=eT op k a b
def Z8 (_:IntKind) (a b:Int):Option Value:=some (.bool (zz a b))
def abg (_:IntKind) (a b:Int):Option Value:=some (.bool (not (zz a b)))
def abo (_:IntKind) (a b:Int):Option Value:=some (.bool (NI a b))
def YS (_:IntKind) (a b:Int):Option Value:=some (.bool (not (NI b a)))
def Z6 (_:IntKind) (a b:Int):Option Value:=some (.bool (NI b a))
def Y2 (_:IntKind) (a b:Int):Option Value:=some (.bool (not (NI a b)))
def bSh (op:BinOp) (i _:IntKind) (a b:Int):Option Value:=nU op i a b
def bI (f:IntKind->Int->Int->Option Value) (i j:IntKind) (a b:Int):Option Value:=iiV i j a b f
def Yc (op:BinOp):IntKind->IntKind->Int->Int->Option Value:=BinOp.rec (motive:=fun _=>IntKind->IntKind->Int->Int->Option Value) (bI ZU) (bI aat) (bI aa5) (bI aaF) (bI ZL) (bI (bO .and)) (bI (bO .or)) (bI (bO .xor)) (bSh .shl) (bSh .shr) (bI (bO .andNot)) (bI Z8) (bI abg) (bI abo) (bI YS) (bI Z6) (bI Y2) op
theorem kkq (i j:IntKind):Nat.beq (kk i) (kk j)=decide (i=j):=by cases i<;>cases j<;>rfl
theorem dle (a b:Int):(!decide (b < a))=decide (a<=b):=by rw [Bool.eq_iff_iff];simp
theorem Sv (op:BinOp) (i j:IntKind) (a b:Int):Yc op i j a b=iL op (.int i a) (.int j b):=by
 have h0:∀f:IntKind->Int->Int->Option Value,bI f i j a b=if i=j then f i a b else none:=fun f=>by unfold bI iiV;rw [kkq];by_cases h:i=j<;>simp [h]
 have hq:∀b:Int,zz b 0=decide (b=0):=fun b=>by rw [jV];rfl
 cases op<;>simp only [Yc,h0,iL,dn,bSh,if_true,Bool.false_eq_true,if_false,eT,ZU,aat,aa5,aaF,ZL,bO,Z8,abg,abo,YS,Z6,Y2,zh,sI,dle,hq,Bool.cond_decide,gt_iff_lt,ge_iff_le,bne]
 all_goals rw [jV]
def YH:List UInt8->List UInt8->Bool:=fun a=>List.rec (motive:=fun _=>List UInt8->Bool) (fun b=>List.rec (motive:=fun _=>Bool) true (fun x_ t_ _=>(fun _ _=>false) x_ t_) b) (fun x _ ih b=>List.rec (motive:=fun _=>Bool) false (fun x_ t_ _=>(fun y ys=>cond (Nat.beq x.toNat y.toNat) (ih ys) false) x_ t_) b) a
theorem J6:∀a b:List UInt8,YH a b=(a==b)
 |[],[]=>rfl
 |[],_::_=>rfl
 |_::_,[]=>rfl
 |x::xs,y::ys=>by
  have ih:=J6 xs ys;show cond (Nat.beq x.toNat y.toNat) (YH xs ys) false=_
  rw [ih,yE,List.cons_beq_cons];by_cases h:x=y
  ·subst h;simp
  ·have h1:¬x.toNat=y.toNat:=fun e=>h (UInt8.toNat_inj.1 e)
   simp [h,h1]
def YW (a b:ByteArray):Option Value:=some (.bool (YH a.data.toList b.data.toList))
def Y6 (a b:ByteArray):Option Value:=some (.bool (not (YH a.data.toList b.data.toList)))
def abb (a b:ByteArray):Option Value:=cond (Nat.ble (a.data.toList.length+b.data.toList.length) 140737488355328) (some (.string ⟨(a.data.toList++b.data.toList).toArray⟩)) none
def sO (op:BinOp) (a b:ByteArray):Option Value:=kU op a b
def Yv (op:BinOp):ByteArray->ByteArray->Option Value:=BinOp.rec (motive:=fun _=>ByteArray->ByteArray->Option Value) abb (sO .sub) (sO .mul) (sO .quo) (sO .rem) (sO .and) (sO .or) (sO .xor) (sO .shl) (sO .shr) (sO .andNot) YW Y6 (sO .lss) (sO .leq) (sO .gtr) (sO .geq) op
theorem toL (b:ByteArray):b.toList=b.data.toList:=by
 have h:=EG b b.size 0 [] (by simp)
 show ByteArray.toList.loop b 0 []=_
 rw [h];simp
theorem TS (op:BinOp) (a b:ByteArray):Yv op a b=kU op a b:=by
 have hs:∀b:ByteArray,b.data.toList.length=b.size:=fun _=>rfl
 have hap:(⟨(a.data.toList++b.data.toList).toArray⟩:ByteArray)=a++b:=by apply ByteArray.ext;rw [ByteArray.data_append];apply Array.ext';simp
 cases op<;>simp only [Yv,sO,YW,Y6,abb,kU,J6,toL,hs]
 rw [hap];by_cases h:a.size+b.size<=140737488355328
 ·rw [if_pos h,Nat.ble_eq_true_of_le h];rfl
 ·rw [if_neg h];cases hb:Nat.ble (a.size+b.size) 140737488355328 with
  |true=>exact absurd (Nat.le_of_ble_eq_true hb) h
  |false=>rfl
def vI (v:Value):(IntKind->Int->Option α)->(ByteArray->Option α)->Option α:=Value.rec (motive_1:=fun _=>(IntKind->Int->Option α)->(ByteArray->Option α)->Option α) (motive_2:=fun _=>PUnit) (motive_3:=fun _=>PUnit) (fun _ _ _=>none) (fun i n k _=>k i n) (fun _ _ _ _=>none) (fun _ _ _ _ _=>none) (fun b _ s=>s b) (fun _ _ _=>none) (fun _ _ _ _ _=>none) (fun _ _ _=>none) (fun _ _ _=>none) (fun f_ a_ b_ _ _=>(fun _ _ _ _ _=>none) f_ a_ b_) (fun _ _=>none) (fun t_ v_ _=>(fun _ _ _ _=>none) t_ v_) (fun _ _=>none) (fun c_ _=>(fun _ _ _=>none) c_) (fun c_ _=>(fun _ _ _=>none) c_) (fun _ _=>PUnit.unit) PUnit.unit (fun _ _ _ _=>PUnit.unit) v
def nS:ByteArray->Option α:=fun _=>none
def nI:IntKind->Int->Option α:=fun _ _=>none
def vI2 (v:Value) (k:IntKind->Int->Option α):Option α:=vI v k nS
def vI3 (v:Value) (k:ByteArray->Option α):Option α:=vI v nI k
def Yr (op:BinOp) (x y:Value):Option Value:=vI x (fun i a=>vI y (fun j b=>Yc op i j a b) nS) fun s=>vI y nI fun t=>Yv op s t
theorem Tu (op:BinOp) (x y:Value):Yr op x y=iL op x y:=by
 cases x with
 |int i a=>
  cases y with
  |int j b=>exact Sv op i j a b
  |_=>rfl
 |string s=>
  cases y with
  |string t=>exact TS op s t
  |_=>rfl
 |_=>rfl
def yR (d:D) (k:Int->Option α):Option α:=Vu d fun v=>vI v (fun _ n=>k n) nS
theorem QA {β:Type} (d:D) (k:Int->Option β):yR d k=(asInt d).bind k:=by
 cases d with
 |c x=>
  cases x with
  |slice _ _=>rfl
  |lit v=>cases v<;>rfl
 |_=>rfl
def iN (n:Int):(Nat->Option α)->Option α:=Int.rec (motive:=fun _=>(Nat->Option α)->Option α) (fun m k=>k m) (fun _ _=>none) n
def wF (d:D) (k:Nat->Option α):Option α:=yR d fun n=>iN n k
theorem wL {β:Type} (d:D) (k:Nat->Option β):wF d k=(asInt d).bind fun n=>if 0<=n then k n.toNat else none:=by
 unfold wF;rw [QA];congr 1;funext n;cases n with
 |ofNat m=>rw [if_pos (show (0:Int)<=Int.ofNat m from Int.natCast_nonneg m)];rfl
 |negSucc m=>rw [if_neg (by omega)];rfl
abbrev SH:=(X->D)->Heap->Nat->Stepped
def pD (d:Option D):Stepped:=Option.rec (motive:=fun _=>Stepped) none (fun x=>some (x,[])) d
theorem zB (d:Option D):pD d=aH d:=by cases d<;>rfl
def Yy (x:X):SH:=fun ρ _ _=>some (ρ x,[])
def K3 (c a b:X):SH:=fun ρ _ _=>Qk (ρ c) (fun t=>some (cond t (ρ a) (ρ b),[])) none
def ER (z:List Value):SH:=fun _ _ s=>some (.loc s 0,[(s,.box (iP qE z))])
def UN (x:X):SH:=fun ρ _ s=>ob (xg (ρ x)) fun ds=>some (.loc s 0,[(s,.box ds)])
abbrev FI:=List D->Option (List D)
def W9 (ds:List D) (off size:Nat) (cs:List D) (ih:FI):Option (List D):=cond (a2 (Nat.beq (jI ds) size) (Nat.ble (off+size) (jI cs))) (ih (yT cs off ds)) none
def aeV (p:Nat×Nat×X):(X->D)->FI->FI:=Prod.rec (motive:=fun _=>(X->D)->FI->FI) (fun off p=>Prod.rec (motive:=fun _=>(X->D)->FI->FI) (fun size x ρ ih cs=>ob (xg (ρ x)) fun ds=>W9 ds off size cs ih) p) p
def C9 (ρ:X->D) (ps:List (Nat×Nat×X)):FI:=List.rec (motive:=fun _=>FI) some (fun p _ ih=>aeV p ρ ih) ps
theorem AV (ρ:X->D):∀(ps:List (Nat×Nat×X)) (cs:List D),C9 ρ ps cs=gp ρ cs ps
 |[],_=>rfl
 |(off,size,x)::ps,cs=>by
  show ob (xg (ρ x)) (fun ds=>W9 ds off size cs (C9 ρ ps))=(cellsD (ρ x)).bind fun ds=>if ds.length=size/\off+size<=cs.length then gp ρ (splice cs off ds) ps else none
  rw [aS,xz];congr 1;funext ds;unfold W9;rw [bK,bK,AV ρ ps,Ai,yE,BH,xY,<-Bool.decide_and,Bool.cond_decide]
def Zp (ds:List D):D:=.agg ds
def D6 (z:List Value) (p:List (Nat×Nat×X)):SH:=fun ρ _ _=>pD (omap (C9 ρ p (iP qE z)) Zp)
def ET (zero:List Value) (n:Nat):List C:=Nat.rec (motive:=fun _=>List C) [] (fun _ ih=>mW (iP lG zero) ih) n
theorem BS (zero:List Value):∀n:Nat,ET zero n=zeros zero n
 |0=>rfl
 |n+1=>by
  show mW (iP lG zero) (ET zero n)=zero.map lG++zeros zero n
  rw [eH,dw,BS]
def ZB (q:List C×List (Nat×Obj)):Nat->Nat->Nat->Nat->Stepped:=Prod.rec (motive:=fun _=>Nat->Nat->Nat->Nat->Stepped) (fun cs us aa ety len s=>cond (a2 (Nat.beq (jI cs) (len * aa)) (Nat.ble len aD)) (fL cs fun cs=>some (.arr s 0 len,mW us [(s,.arr cs aa 0 ety)])) none) q
def Kw (aa ety len:Nat) (z:List Value) (p:List (Nat×Nat×X)):SH:=fun ρ h s=>ob (C9 ρ p (iP .c (ET z len))) fun ds=>ob (AZ ds h) fun q=>ZB q aa ety len s
def nth {β:Type} (l:List β):Nat->Option β:=List.rec (motive:=fun _=>Nat->Option β) (fun _=>none) (fun x _ ih i=>Nat.rec (motive:=fun _=>Option β) (some x) (fun m_ _=>ih m_) i) l
theorem p9 {β:Type}:∀(l:List β) (i:Nat),nth l i=l[i]?
 |[],_=>rfl
 |_::_,0=>rfl
 |_::l,i+1=>(p9 l i).trans (by rw [List.getElem?_cons_succ])
def Ve (agg:Bool):Nat->Nat->List D->Option D:=Bool.rec (motive:=fun _=>Nat->Nat->List D->Option D) (fun _ off ds=>nth ds off) (fun size off ds=>cond (Nat.ble (off+size) (jI ds)) (some (.agg (rP size (yj off ds)))) none) agg
def Vq (agg:Bool):Nat->Nat->List C->Option D:=Bool.rec (motive:=fun _=>Nat->Nat->List C->Option D) (fun _ off cs=>omap (nth cs off) .c) (fun size off cs=>cond (Nat.ble (off+size) (jI cs)) (some (.agg (iP .c (rP size (yj off cs))))) none) agg
def Vo (agg:Bool):Nat->List C->Option D:=Bool.rec (motive:=fun _=>Nat->List C->Option D) (fun _ cs=>omap (nth cs 0) .c) (fun size cs=>cond (Nat.ble size (jI cs)) (some (.agg (iP .c (rP size cs)))) none) agg
def onO (o:Obj):(List D->Option α)->(List C->Option α)->Option α:=Obj.rec (motive:=fun _=>(List D->Option α)->(List C->Option α)->Option α) (fun _ _=>none) (fun ds b _=>b ds) (fun cs _ _ _ _ r=>r cs) (fun _ _ _=>none) o
def VP (id off:Nat) (h:Heap) (agg:Bool) (size:Nat):Option D:=onO (jr h id) (Ve agg size off) (Vq agg size off)
def ldP (cs:List C) (_:Heap) (agg:Bool) (size:Nat):Option D:=Vo agg size cs
def ldK (h:Heap) (agg:Bool) (size:Nat) (d:D):Option D:=D.rec (motive_1:=fun _=>Heap->Bool->Nat->Option D) (motive_2:=fun _=>PUnit) (fun _ _ _=>none) (fun _ _ _ _=>none) VP (fun _ _ _ _ _ _=>none) ldP (fun _ _ _ _ _=>none) (fun _ _ _ _ _=>none) (fun _ _ _ _=>none) (fun d_ _=>(fun _ _ _ _=>none) d_) (fun d_ _=>(fun _ _ _ _=>none) d_) PUnit.unit (fun _ _ _ _=>PUnit.unit) d h agg size
theorem WA (h:Heap) (agg:Bool) (size:Nat) (d:D):ldK h agg size d=dG h agg size d:=by
 cases d with
 |loc id off=>
  simp only [ldK,VP,dG,iq];generalize af h id=o;cases o with
  |box ds=>cases agg<;>simp [onO,Ve,p9,kF,bK,gZ,jP]
  |arr cs a b c=>cases agg<;>simp [onO,Vq,p9,kF,qY,bK,gZ,jP,dw]
  |_=>rfl
 |ptr cs=>cases agg<;>simp [ldK,ldP,dG,Vo,p9,kF,qY,bK,gZ,dw]
 |_=>rfl
def LY (agg:Bool) (size:Nat) (x:X):SH:=fun ρ h _=>pD (ldK h agg size (ρ x))
def Vf (id off size:Nat) (ds:List D) (v:D):Stepped:=ob (xg v) fun xs=>cond (Nat.beq (jI xs) size) (cond (Nat.ble (off+size) (jI ds)) (fL (yT ds off xs) fun ds=>some (.fK,[(id,.box ds)])) none) none
def stO (o:Obj):Nat->Nat->Nat->D->Heap->Stepped:=Obj.rec (motive:=fun _=>Nat->Nat->Nat->D->Heap->Stepped) (fun _ _ _ _ _=>none) (fun ds id off size v _=>Vf id off size ds v) (fun _ _ _ _ id off size v h=>iF h size v (.loc id off)) (fun _ _ _ _ _ _=>none) o
def Ze (id off:Nat) (size:Nat) (v:D) (h:Heap):Stepped:=stO (jr h id) id off size v h
def stD (a:D):Nat->D->Heap->Stepped:=D.rec (motive_1:=fun _=>Nat->D->Heap->Stepped) (motive_2:=fun _=>PUnit) (fun _ _ _=>none) (fun _ _ _ _=>none) Ze (fun _ _ _ _ _ _=>none) (fun _ _ _ _=>none) (fun _ _ _ _ _=>none) (fun _ _ _ _ _=>none) (fun _ _ _ _=>none) (fun d_ _=>(fun _ _ _ _=>none) d_) (fun d_ _=>(fun _ _ _ _=>none) d_) PUnit.unit (fun _ _ _ _=>PUnit.unit) a
def xJ (size:Nat) (a v:X):SH:=fun ρ h _=>stD (ρ a) size (ρ v) h
def Mw (x:X):SH:=fun ρ _ _=>D.rec (motive_1:=fun _=>Stepped) (motive_2:=fun _=>PUnit) none (fun _=>none) (fun i o=>some (.loc i o,[])) (fun _ _ _=>none) (fun cs=>some (.ptr cs,[])) (fun _ _=>none) (fun _ _=>none) (fun _=>none) (fun d_ _=>(fun _=>none) d_) (fun d_ _=>(fun _=>none) d_) PUnit.unit (fun _ _ _ _=>PUnit.unit) (ρ x)
def Wt (v:Value):D:=.c (.lit v)
def bV (oC:Bool):BinOp->Value->Value->Option Value:=Bool.rec (motive:=fun _=>BinOp->Value->Value->Option Value) Yr uu oC
def Tq (op:BinOp) (oC:Bool) (x y:X):SH:=fun ρ _ _=>Vu (ρ x) fun a=>Vu (ρ y) fun b=>pD (omap (bV oC op a b) Wt)
abbrev VB:=Value->Value->Option Bool
def vq0:VB:=fun v w=>vI2 v fun i a=>vI2 w fun j b=>cond (Nat.beq (kk i) (kk j)) (some (zz a b)) none
def vq1:VB:=fun v w=>vI3 v fun s=>vI3 w fun t=>some (YH s.data.toList t.data.toList)
def vq2:VB:=fun v w=>bdV v (fun a=>bdV w (fun b=>some (cond a b (not b))) none) none
def vq (k:Nat):VB:=Nat.rec (motive:=fun _=>VB) vq0 (fun m_ _=>(fun k=>Nat.rec (motive:=fun _=>VB) vq1 (fun m_ _=>(fun k=>Nat.rec (motive:=fun _=>VB) vq2 (fun m_ _=>(fun _ _ _=>none) m_) k) m_) k) m_) k
def cq (a:C):C->Nat->Option Bool:=C.rec (motive_1:=fun _=>C->Nat->Option Bool) (motive_2:=fun _=>PUnit) (fun v b=>C.rec (motive_1:=fun _=>Value->Nat->Option Bool) (motive_2:=fun _=>PUnit) (fun w v k=>vq k v w) (fun c_ n_ _=>(fun _ _ _ _=>none) c_ n_) PUnit.unit (fun _ _ _ _=>PUnit.unit) b v) (fun c_ n_ _=>(fun _ _ _ _=>none) c_ n_) PUnit.unit (fun _ _ _ _=>PUnit.unit) a
def JX (d:D):(C->Option α)->Option α:=D.rec (motive_1:=fun _=>(C->Option α)->Option α) (motive_2:=fun _=>PUnit) (fun _=>none) (fun x k=>k x) (fun _ _ _=>none) (fun _ _ _ _=>none) (fun _ _=>none) (fun _ _ _=>none) (fun _ _ _=>none) (fun _ _=>none) (fun d_ _=>(fun _ _=>none) d_) (fun d_ _=>(fun _ _=>none) d_) PUnit.unit (fun _ _ _ _=>PUnit.unit) d
def eqF (ks:List Nat):List D->List D->Option Bool:=List.rec (motive:=fun _=>List D->List D->Option Bool) (fun ax bs=>List.rec (motive:=fun _=>Option Bool) (List.rec (motive:=fun _=>Option Bool) (some true) (fun x_ t_ _=>(fun _ _=>none) x_ t_) bs) (fun x_ t_ _=>(fun _ _=>none) x_ t_) ax)
 (fun k _ ih ax bs=>List.rec (motive:=fun _=>Option Bool) none (fun x_ t_ _=>(fun a ax=>List.rec (motive:=fun _=>Option Bool) none (fun x_ t_ _=>(fun b bs=>JX a fun a=>JX b fun b=>ob (cq a b k) fun x=>ob (ih ax bs) fun y=>some (cond x y false)) x_ t_) bs) x_ t_) ax) ks
def onA (d:D):(List D->Option α)->Option α:=D.rec (motive_1:=fun _=>(List D->Option α)->Option α) (motive_2:=fun _=>PUnit) (fun _=>none) (fun _ _=>none) (fun _ _ _=>none) (fun _ _ _ _=>none) (fun _ _=>none) (fun _ _ _=>none) (fun _ _ _=>none) (fun _ _=>none) (fun d_ _=>(fun ds k=>k ds) d_) (fun d_ _=>(fun _ _=>none) d_) PUnit.unit (fun _ _ _ _=>PUnit.unit) d
def SF (ks:List Nat) (neg:Bool) (x y:X):SH:=fun ρ _ _=>onA (ρ x) fun ax=>onA (ρ y) fun bs=>ob (eqF ks ax bs) fun b=>some (.c (.lit (.bool (cond neg (not b) b))),[])
def sUn (op:UnOp) (x:X):SH:=fun ρ _ _=>Vu (ρ x) fun a=>pD (omap (O7 op a) Wt)
def Kj (k:IntKind) (x:X):SH:=fun ρ _ _=>yR (ρ x) fun n=>some (.c (.lit (.int k (yo k n))),[])
def Jf (x:X):SH:=fun ρ h s=>step ρ h s (.toStr x)
def sMk (a b c:Nat) (z:List Value) (x y:X):SH:=fun ρ h s=>step ρ h s (.mk a b c z x y)
def ZI (o:Option D):Nat->(Nat->Option α)->Option α:=Option.rec (motive:=fun _=>Nat->(Nat->Option α)->Option α) (fun z k=>k z) (fun d _ k=>wF d k) o
def aaE (aa:Nat) (cs:List C) (n:Nat) (lo hi:Option D):Option (List C×Nat):=ZI lo 0 fun l=>ZI hi n fun r=>cond (a2 (Nat.ble l r) (Nat.ble r n)) (some (rP ((r - l) * aa) (yj (l * aa) cs),r - l)) none
def sl1 (q:List C×Nat):Stepped:=Prod.rec (motive:=fun _=>Stepped) (fun xs k=>some (.c (.slice xs k),[])) q
abbrev S4:=Nat->Option D->Option D->Heap->Stepped
def slN (cs:List C) (n:Nat):S4:=fun aa lo hi _=>ob (aaE aa cs n lo hi) sl1
def slC (c:C):S4:=C.rec (motive_1:=fun _=>S4) (motive_2:=fun _=>PUnit) (fun _ _ _ _ _=>none) (fun c_ n_ _=>slN c_ n_) PUnit.unit (fun _ _ _ _=>PUnit.unit) c
def slA (id off len:Nat):S4:=fun aa lo hi h=>aH (uW h aa lo hi (.arr id off len))
def Dn (d:D):S4:=D.rec (motive_1:=fun _=>S4) (motive_2:=fun _=>PUnit) (fun _ _ _ _=>none) slC (fun _ _ _ _ _ _=>none) slA (fun _ _ _ _ _=>none) slN (fun _ _ _ _ _ _=>none) (fun _ _ _ _ _=>none) (fun d_ _=>(fun _ _ _ _ _=>none) d_) (fun d_ _=>(fun _ _ _ _ _=>none) d_) PUnit.unit (fun _ _ _ _=>PUnit.unit) d
def TH (e:Nat) (x:X) (a b:Option X):SH:=fun ρ h _=>Dn (ρ x) e (a.map ρ) (b.map ρ) h
def QS (e:Nat) (x:X) (a:Option X) (b c:X):SH:=fun ρ h s=>step ρ h s (.clip e x a b c)
def loK (ρ:X->D) (o:Option X):Nat->(Nat->Option α)->Option α:=Option.rec (motive:=fun _=>Nat->(Nat->Option α)->Option α) (fun z k=>k z) (fun x _ k=>wF (ρ x) k) o
def Lb (d:D) (k:ByteArray->Option α):Option α:=Vu d fun v=>vI v nI k
def Nl (x:X) (lo hi:Option X):SH:=fun ρ _ _=>Lb (ρ x) fun s=>loK ρ lo 0 fun l=>loK ρ hi s.data.toList.length fun r=>cond (and (Nat.ble l r) (Nat.ble r s.data.toList.length)) (some (.c (.lit (.string ⟨((s.data.toList.drop l).take (r - l)).toArray⟩)),[])) none
def Cv (off:Nat) (x:X):SH:=fun ρ _ _=>D.rec (motive_1:=fun _=>Stepped) (motive_2:=fun _=>PUnit) none (fun _=>none) (fun i o=>some (.loc i (o+off),[])) (fun _ _ _=>none) (fun cs=>some (.ptr (cs.drop off),[])) (fun _ _=>none) (fun _ _=>none) (fun _=>none) (fun d_ _=>(fun _=>none) d_) (fun d_ _=>(fun _=>none) d_) PUnit.unit (fun _ _ _ _=>PUnit.unit) (ρ x)
def fl1 (agg:Bool):Nat->Nat->List D->Stepped:=Bool.rec (motive:=fun _=>Nat->Nat->List D->Stepped) (fun off _ ds=>pD (nth ds off)) (fun off size ds=>cond (Nat.ble (off+size) (jI ds)) (some (.agg (rP size (yj off ds)),[])) none) agg
abbrev S3:=Bool->Nat->Nat->Stepped
def flD (d:D):S3:=D.rec (motive_1:=fun _=>S3) (motive_2:=fun _=>PUnit) (fun _ _ _=>none) (fun _ _ _ _=>none) (fun _ _ _ _ _=>none) (fun _ _ _ _ _ _=>none) (fun _ _ _ _=>none) (fun _ _ _ _ _=>none) (fun _ _ _ _ _=>none) (fun _ _ _ _=>none) (fun d_ _=>(fun ds agg off size=>fl1 agg off size ds) d_) (fun d_ _=>(fun _ _ _ _=>none) d_) PUnit.unit (fun _ _ _ _=>PUnit.unit) d
def Uo (off:Nat) (agg:Bool) (size:Nat) (x:X):SH:=fun ρ _ _=>flD (ρ x) agg off size
def iaK (aa n:Nat) (cs:List C) (i:D):Stepped:=wF i fun k=>cond (Nat.ble (Nat.succ k) n) (some (.ptr (cs.drop (k * aa)),[])) none
def iaC (c:C):Nat->D->Heap->Stepped:=C.rec (motive_1:=fun _=>Nat->D->Heap->Stepped) (motive_2:=fun _=>PUnit) (fun _ _ _ _=>none) (fun c_ n_ _=>(fun cs n aa i _=>iaK aa n cs i) c_ n_) PUnit.unit (fun _ _ _ _=>PUnit.unit) c
def iaA (id off len:Nat) (aa:Nat) (i:D) (h:Heap):Stepped:=pD (mM h aa i (.arr id off len))
def iaF (cs:List C) (n:Nat) (aa:Nat) (i:D) (_:Heap):Stepped:=iaK aa n cs i
def iaD (d:D):Nat->D->Heap->Stepped:=D.rec (motive_1:=fun _=>Nat->D->Heap->Stepped) (motive_2:=fun _=>PUnit) (fun _ _ _=>none) iaC (fun _ _ _ _ _=>none) iaA (fun _ _ _ _=>none) iaF (fun _ _ _ _ _=>none) (fun _ _ _ _=>none) (fun d_ _=>(fun _ _ _ _=>none) d_) (fun d_ _=>(fun _ _ _ _=>none) d_) PUnit.unit (fun _ _ _ _=>PUnit.unit) d
def BX (aa:Nat) (x i:X):SH:=fun ρ h _=>iaD (ρ x) aa (ρ i) h
def Ki (x i:X):SH:=fun ρ _ _=>Lb (ρ x) fun s=>wF (ρ i) fun k=>ob (nth s.data.toList k) fun b=>some (.c (.lit (.int .u8 b.toNat)),[])
def exD (d:D):Nat->Stepped:=D.rec (motive_1:=fun _=>Nat->Stepped) (motive_2:=fun _=>PUnit) (fun _=>none) (fun _ _=>none) (fun _ _ _=>none) (fun _ _ _ _=>none) (fun _ _=>none) (fun _ _ _=>none) (fun _ _ _=>none) (fun _ _=>none) (fun d_ _=>(fun _ _=>none) d_) (fun d_ _=>(fun ds i=>pD (nth ds i)) d_) PUnit.unit (fun _ _ _ _=>PUnit.unit) d
def Sr (x:X) (i:Nat):SH:=fun ρ _ _=>exD (ρ x) i
def Vp (n:Nat):Stepped:=some (.c (.lit (.int .i64 (.ofNat n))),[])
def lnS (s:ByteArray):Stepped:=Vp s.data.toList.length
def lnV (v:Value) (b:Bool):Stepped:=cond b (vI v nI lnS) none
def lnN (n:Nat) (b:Bool):Stepped:=cond b none (Vp n)
def lnC (c:C):Bool->Stepped:=C.rec (motive_1:=fun _=>Bool->Stepped) (motive_2:=fun _=>PUnit) lnV (fun c_ n_ _=>(fun _ n=>lnN n) c_ n_) PUnit.unit (fun _ _ _ _=>PUnit.unit) c
def lnD (d:D):Bool->Stepped:=D.rec (motive_1:=fun _=>Bool->Stepped) (motive_2:=fun _=>PUnit) (fun _=>none) lnC (fun _ _ _=>none) (fun _ _ l=>lnN l) (fun _ _=>none) (fun _ n=>lnN n) (fun _ _ _=>none) (fun _ _=>none) (fun d_ _=>(fun _ _=>none) d_) (fun d_ _=>(fun _ _=>none) d_) PUnit.unit (fun _ _ _ _=>PUnit.unit) d
def sLen (b:Bool) (x:X):SH:=fun ρ _ _=>lnD (ρ x) b
abbrev SR:=Option (List C×Nat)
def byC (b:UInt8):C:=.lit (.int .u8 b.toNat)
def srV (v:Value) (aa:Nat):SR:=vI v nI fun s=>cond (Nat.beq aa 1) (some (iP byC s.data.toList,jI s.data.toList)) none
def srN (cs:List C) (n:Nat) (aa:Nat):SR:=cond (Nat.beq (jI cs) (n * aa)) (some (cs,n)) none
def srC (c:C):Nat->SR:=C.rec (motive_1:=fun _=>Nat->SR) (motive_2:=fun _=>PUnit) srV (fun c_ n_ _=>srN c_ n_) PUnit.unit (fun _ _ _ _=>PUnit.unit) c
def srO (o:Obj):Nat->Nat->Nat->SR:=Obj.rec (motive:=fun _=>Nat->Nat->Nat->SR) (fun _ _ _=>none) (fun _ _ _ _=>none) (fun cs bU _ _ off len aa=>cond (a2 (Nat.beq bU aa) (Nat.ble (off+len * aa) (jI cs))) (some (rP (len * aa) (yj off cs),len)) none) (fun _ _ _ _=>none) o
def Q3 (d:D):Nat->Heap->SR:=D.rec (motive_1:=fun _=>Nat->Heap->SR) (motive_2:=fun _=>PUnit) (fun _ _=>none) (fun c aa _=>srC c aa) (fun _ _ _ _=>none) (fun id off len aa h=>srO (jr h id) off len aa) (fun _ _ _=>none) (fun cs n aa _=>srN cs n aa) (fun _ _ _ _=>none) (fun _ _ _=>none) (fun d_ _=>(fun _ _ _=>none) d_) (fun d_ _=>(fun _ _ _=>none) d_) PUnit.unit (fun _ _ _ _=>PUnit.unit) d
theorem LC (d:D) (aa:Nat) (h:Heap):Q3 d aa h=bM h aa d:=by
 have hn:∀cs n,srN cs n aa=if cs.length=n * aa then some (cs,n) else none:=fun cs n=>by unfold srN;rw [iW,bK]
 cases d with
 |c x=>
  cases x with
  |slice cs n=>exact hn cs n
  |lit v=>
   cases v with
   |string b=>
    show cond (Nat.beq aa 1) _ none=if aa=1 then _ else none
    rw [iW,dw,bK];rfl
   |_=>rfl
 |full cs n=>exact hn cs n
 |arr id off len=>
  show srO (jr h id) off len aa=(match af h id with
   |.arr cs bU _ _=>if bU=aa/\off+len * aa<=cs.length then some ((cs.drop off).take (len * aa),len) else none
   |_=>none)
  rw [iq];generalize af h id=o;cases o with
  |arr cs e a b=>
   simp only [srO];rw [bK,gZ,jP,yE,BH,xY,<-Bool.decide_and,Bool.cond_decide]
  |_=>rfl
 |_=>rfl
def apO (o:Obj):Nat->Nat->Nat->Nat->Nat->Nat->Nat->List C->Nat->Stepped:=Obj.rec (motive:=fun _=>Nat->Nat->Nat->Nat->Nat->Nat->Nat->List C->Nat->Stepped) (fun _ _ _ _ _ _ _ _ _=>none) (fun _ _ _ _ _ _ _ _ _ _=>none) (fun xs bU fz dW id off len slot aa ety bytes cs n=>cond (a2 (Nat.beq (jI cs) (n * aa)) (a2 (Nat.ble ((len+n) * bytes) aD) (a2 (Nat.ble 1 aa) (a2 (Nat.ble (len+n) aD) (a2 (Nat.beq off 0) (a2 (Nat.beq bU aa) (a2 (Nat.beq dW ety) (a2 (Nat.ble fz (len * aa)) (Nat.ble (len * aa) (jI xs))))))))))
    (fL (mW (rP (len * aa) xs) cs) fun zs=>some (.arr slot 0 (len+n),[(id,.dead),(slot,.arr zs aa fz ety)])) none) (fun _ _ _ _ _ _ _ _ _ _=>none) o
def apF (ds:List C) (m:Nat) (slot aa ety bytes:Nat) (cs:List C) (n:Nat):Stepped:=cond (a2 (Nat.beq (jI cs) (n * aa)) (a2 (Nat.beq (jI ds) (m * aa)) (a2 (Nat.ble ((m+n) * bytes) aD) (a2 (Nat.ble 1 aa) (Nat.ble (m+n) aD)))))
 (cond (Nat.beq n 0) (some (.full ds m,[])) (fL (mW ds cs) fun zs=>some (.arr slot 0 (m+n),[(slot,.arr zs aa 0 ety)]))) none
abbrev A5:=D->Nat->Nat->Nat->Nat->Heap->Stepped
def XZ (ds:List C) (m:Nat):A5:=fun y slot aa ety bytes h=>ob (Q3 y aa h) fun p=>apF ds m slot aa ety bytes p.1 p.2
def aaD (id off len:Nat):A5:=fun y slot aa ety bytes h=>ob (Q3 y aa h) fun p=>apO (jr h id) id off len slot aa ety bytes p.1 p.2
def apD (x:D):A5:=D.rec (motive_1:=fun _=>A5) (motive_2:=fun _=>PUnit) (fun _ _ _ _ _ _=>none) (fun _ _ _ _ _ _ _=>none) (fun _ _ _ _ _ _ _ _=>none) aaD (fun _ _ _ _ _ _ _=>none) XZ (fun _ _ _ _ _ _ _ _=>none) (fun _ _ _ _ _ _ _=>none) (fun d_ _=>(fun _ _ _ _ _ _ _=>none) d_) (fun d_ _=>(fun _ _ _ _ _ _ _=>none) d_) PUnit.unit (fun _ _ _ _=>PUnit.unit) x
def Sq (aa ety bytes:Nat) (x y:X):SH:=fun ρ h s=>apD (ρ x) (ρ y) s aa ety bytes h
def V9 (a:Nat) (x y:X):SH:=fun ρ h s=>step ρ h s (.EZ a x y)
def sMx (x y:X):SH:=fun ρ h s=>step ρ h s (.mx x y)
def sMn (x y:X):SH:=fun ρ h s=>step ρ h s (.mn x y)
def WM (f:Nat) (xs:List X):SH:=fun ρ h s=>step ρ h s (.R3 f xs)
def Xd:SH:=fun ρ h s=>l8 ρ h s .Qq
def Q0 (a b:Nat) (c:Bool) (z:List Value) (d:Bool) (x k:X):SH:=fun ρ h s=>l8 ρ h s (.tK a b c z d x k)
def PK (a b:Nat) (x k v:X):SH:=fun ρ h s=>l8 ρ h s (.tY a b x k v)
def YJ:SH:=fun _ _ _=>none
theorem nA {β:Type} (o:Option β) (f:β->Option D):aH (o.bind f)=o.bind fun x=>aH (f x):=by cases o<;>rfl
theorem Lv {β:Type} (d:D) (k:Bool->Option β):Qk d k none=(asBool d).bind k:=by
 cases d with
 |c x=>
  cases x with
  |slice _ _=>rfl
  |lit v=>cases v<;>rfl
 |_=>rfl
theorem Ro (c a b:X) (ρ:X->D) (h:Heap) (s:Nat):K3 c a b ρ h s=step ρ h s (.pick c a b):=by
 show Qk (ρ c) _ none=aH ((asBool (ρ c)).bind fun t=>some (if t=true then ρ a else ρ b))
 rw [Lv,nA];congr 1;funext t;cases t<;>rfl
theorem Q4 (agg:Bool) (n:Nat) (x:X) (ρ:X->D) (h:Heap) (s:Nat):LY agg n x ρ h s=step ρ h s (.load agg n x):=by
 show pD _=aH _
 rw [zB,WA]
theorem MC (n:Nat) (a v:X) (ρ:X->D) (h:Heap) (s:Nat):xJ n a v ρ h s=step ρ h s (.store n a v):=by
 show xJ n a v ρ h s=iF h n (ρ v) (ρ a)
 unfold xJ;cases ρ a with
 |loc id off=>
  show stO (jr h id) id off n (ρ v) h=_
  rw [iq];cases hg:af h id with
  |box ds=>
   simp only [iF,hg,stO,Vf,aS,iW,kF,xz,bK,Cr,Ai];show Option.bind _ _=Option.bind _ _
   congr 1;funext xs;by_cases h1:xs.length=n<;>by_cases h2:off+n<=ds.length<;>simp [h1,h2]
  |arr cs a b c=>rfl
  |dead=>simp only [iF,hg];rfl
  |map es=>simp only [iF,hg];rfl
 |_=>rfl
theorem Tf (x:X) (ρ:X->D) (h:Heap) (s:Nat):Mw x ρ h s=step ρ h s (.pg x):=by
 show Mw x ρ h s=(match ρ x with|.loc id off=>some (.loc id off,[])|.ptr cs=>some (.ptr cs,[])|_=>none)
 unfold Mw;cases ρ x<;>rfl
theorem UE (op:BinOp) (oC:Bool) (x y:X) (ρ:X->D) (h:Heap) (s:Nat):Tq op oC x y ρ h s=step ρ h s (.bin op oC x y):=by
 show Vu (ρ x) _=aH ((jO (ρ x)).bind fun a=>(jO (ρ y)).bind fun b=>(if oC=true then uu op a b else iL op a b).map fun v=> .c (.lit v))
 rw [Jz,nA];congr 1;funext a;rw [Jz,nA];congr 1;funext b;rw [zB,qY];cases oC
 ·show aH (Option.map Wt (Yr op a b))=_
  rw [Tu];rfl
 ·rfl
theorem WB (op:UnOp) (x:X) (ρ:X->D) (h:Heap) (s:Nat):sUn op x ρ h s=step ρ h s (.un op x):=by
 show Vu (ρ x) _=aH ((jO (ρ x)).bind fun a=>(O7 op a).map fun v=> .c (.lit v))
 rw [Jz,nA];congr 1;funext a;rw [zB,qY];rfl
theorem Ol (k:IntKind) (x:X) (ρ:X->D) (h:Heap) (s:Nat):Kj k x ρ h s=step ρ h s (.conv k x):=by
 show yR (ρ x) _=aH ((asInt (ρ x)).bind fun n=>some (.c (.lit (.int k (k.wrap n)))))
 rw [QA,nA];congr 1;funext n;rw [zh];rfl
theorem Ra {β:Type} (d:D) (k:ByteArray->Option β):Lb d k=(match d with|.c (.lit (.string s))=>k s|_=>none):=by
 cases d with
 |c x=>
  cases x with
  |slice _ _=>rfl
  |lit v=>cases v<;>rfl
 |_=>rfl
theorem X9 {β:Type} (ρ:X->D) (o:Option X) (k:Nat->Option β):loK ρ o 0 k=(xw (o.map ρ)).bind k:=by
 cases o with
 |none=>rfl
 |some x=>
  show wF (ρ x) k=((asInt (ρ x)).bind fun n=>if 0<=n then some n.toNat else none).bind k
  rw [wL,Option.bind_assoc];congr 1;funext n;split<;>rfl
theorem VZ {β:Type} (ρ:X->D) (o:Option X) (z:Nat) (k:Nat->Option β):loK ρ o z k=(qA z (o.map ρ)).bind k:=by
 cases o with
 |none=>rfl
 |some x=>
  show wF (ρ x) k=((asInt (ρ x)).bind fun n=>if 0<=n then some n.toNat else none).bind k
  rw [wL,Option.bind_assoc];congr 1;funext n;split<;>rfl
theorem acB (s:ByteArray) (l r:Nat):(⟨((s.data.toList.drop l).take (r - l)).toArray⟩:ByteArray)=s.extract l r:=by apply ByteArray.ext;rw [ByteArray.data_extract];apply Array.ext';rw [Array.toList_extract]
theorem Uh (x:X) (lo hi:Option X) (ρ:X->D) (h:Heap) (s:Nat):Nl x lo hi ρ h s=step ρ h s (.Q8 x lo hi):=by
 show Nl x lo hi ρ h s=aH (OO (lo.map ρ) (hi.map ρ) (ρ x))
 have hs:∀b:ByteArray,b.data.toList.length=b.size:=fun _=>rfl
 unfold Nl;rw [Ra];unfold OO;split
 ·rename_i s h1;simp only [h1];rw [X9];show _=aH ((xw (lo.map ρ)).bind fun l=>(qA s.size (hi.map ρ)).bind fun r=>if l<=r/\r<=s.size then some (.c (.lit (.string (s.extract l r)))) else none)
  rw [nA];congr 1;funext l;rw [VZ,nA,hs];congr 1;funext r;rw [acB,BH,BH];by_cases h1:l<=r<;>by_cases h2:r<=s.size<;>simp [h1,h2,aH]
 ·rename_i h1;split
  ·rename_i s h2;exact absurd h2 (h1 s)
  ·rfl
theorem PY (off:Nat) (x:X) (ρ:X->D) (h:Heap) (s:Nat):Cv off x ρ h s=step ρ h s (.yC off x):=by
 show Cv off x ρ h s=(match ρ x with|.loc id o=>some (.loc id (o+off),[])|.ptr cs=>some (.ptr (cs.drop off),[])|_=>none)
 unfold Cv;cases ρ x<;>rfl
theorem NQ (aa n:Nat) (cs:List C) (i:D):iaK aa n cs i=aH ((asInt i).bind fun k=>if 0<=k/\k < n then some (.ptr (cs.drop (k.toNat * aa))) else none):=by
 unfold iaK;rw [wL,nA];congr 1;funext k;by_cases h:0<=k
 ·rw [if_pos h,kF];by_cases h2:k < n
  ·rw [if_pos (show Nat.succ k.toNat<=n by omega),if_pos ⟨h,h2⟩];rfl
  ·rw [if_neg (show ¬Nat.succ k.toNat<=n by omega),if_neg (fun h=>h2 h.2)];rfl
 ·rw [if_neg h,if_neg (fun h2=>h h2.1)];rfl
theorem Ri (aa:Nat) (x i:X) (ρ:X->D) (h:Heap) (s:Nat):BX aa x i ρ h s=step ρ h s (.pY aa x i):=by
 show BX aa x i ρ h s=aH (mM h aa (ρ i) (ρ x))
 unfold BX;cases ρ x with
 |c x=>
  cases x with
  |lit v=>rfl
  |slice cs n=>exact NQ _ _ _ _
 |arr a b c=>exact zB _
 |full cs n=>exact NQ _ _ _ _
 |_=>rfl
theorem Qp (x i:X) (ρ:X->D) (h:Heap) (s:Nat):Ki x i ρ h s=step ρ h s (.nM x i):=by
 show Lb (ρ x) _=aH (match ρ x with|.c (.lit (.string s))=>((asInt (ρ i)).bind fun n=>if 0<=n then (s.data[n.toNat]?).map fun b=> .c (.lit (.int .u8 b.toNat)) else none)|_=>none)
 rw [Ra];split
 ·rename_i s h1;rw [wL,nA];congr 1;funext n;split
  ·rw [aS,p9,Array.getElem?_toList];cases s.data[n.toNat]?<;>rfl
  ·rfl
 ·rfl
theorem Sn (b:Bool) (x:X) (ρ:X->D) (h:Heap) (s:Nat):sLen b x ρ h s=step ρ h s (.len b x):=by
 show sLen b x ρ h s=aH (BD b (ρ x))
 unfold sLen;cases ρ x with
 |c x=>
  cases x with
  |slice cs n=>cases b<;>rfl
  |lit v=>cases v<;>cases b<;>rfl
 |arr a b' c=>cases b<;>rfl
 |full cs n=>cases b<;>rfl
 |_=>rfl
theorem MF (z:List Value) (ρ:X->D) (h:Heap) (s:Nat):ER z ρ h s=step ρ h s (.alloc z):=by
 show some (D.loc s 0,[(s,Obj.box (iP qE z))])=some (.loc s 0,[(s,.box (z.map qE))])
 rw [dw]
theorem Td (x:X) (ρ:X->D) (h:Heap) (s:Nat):UN x ρ h s=step ρ h s (.box x):=by
 show ob (xg (ρ x)) _=(cellsD (ρ x)).bind fun ds=>some (D.loc s 0,[(s,Obj.box ds)])
 rw [aS,xz]
theorem Nz (z:List Value) (p:List (Nat×Nat×X)) (ρ:X->D) (h:Heap) (s:Nat):D6 z p ρ h s=step ρ h s (.build z p):=by
 show pD (omap (C9 ρ p (iP qE z)) Zp)=aH ((gp ρ (z.map qE) p).bind fun ds=>some (.agg ds))
 rw [zB,qY,AV,dw];cases gp ρ (z.map qE) p<;>rfl
theorem QX (aa ety len:Nat) (z:List Value) (p:List (Nat×Nat×X)) (ρ:X->D) (h:Heap) (s:Nat):Kw aa ety len z p ρ h s=step ρ h s (.lits aa ety len z p):=by
 show ob (C9 ρ p (iP .c (ET z len))) _=(gp ρ ((zeros z len).map .c) p).bind fun ds=>(eD h ds).bind fun q=>if q.1.length=len * aa/\len<=aD then some (D.arr s 0 len,q.2++[(s,Obj.arr q.1 aa 0 ety)]) else none
 rw [aS,AV,dw,BS];congr 1;funext ds;rw [aS,uo];congr 1;funext q;obtain ⟨cs,us⟩:=q;simp only [ZB];rw [Cr,eH,bK,yE,BH,xY,<-Bool.decide_and,Bool.cond_decide]
theorem XE {β:Type} (o:Option D) (k:Nat->Option β):ZI o 0 k=(xw o).bind k:=by
 cases o with
 |none=>rfl
 |some d=>
  show wF d k=((asInt d).bind fun n=>if 0<=n then some n.toNat else none).bind k
  rw [wL,Option.bind_assoc];congr 1;funext n;split<;>rfl
theorem Wi {β:Type} (o:Option D) (z:Nat) (k:Nat->Option β):ZI o z k=(qA z o).bind k:=by
 cases o with
 |none=>rfl
 |some d=>
  show wF d k=((asInt d).bind fun n=>if 0<=n then some n.toNat else none).bind k
  rw [wL,Option.bind_assoc];congr 1;funext n;split<;>rfl
theorem Ui (aa:Nat) (cs:List C) (n:Nat) (lo hi:Option D):aaE aa cs n lo hi=yx aa cs n lo hi:=by
 show ZI lo 0 _=(xw lo).bind fun l=>(qA n hi).bind fun r=>if l<=r/\r<=n then some ((cs.drop (l * aa)).take ((r - l) * aa),r - l) else none
 rw [XE];congr 1;funext l;rw [Wi];congr 1;funext r;rw [gZ,jP,BH,BH,xY,<-Bool.decide_and,Bool.cond_decide]
theorem Oi (cs:List C) (n aa:Nat) (lo hi:Option D) (h:Heap):slN cs n aa lo hi h=aH ((yx aa cs n lo hi).bind fun q=>some (.c (.slice q.1 q.2))):=by unfold slN;rw [aS,Ui,nA];rfl
theorem TR (e:Nat) (x:X) (a b:Option X) (ρ:X->D) (h:Heap) (s:Nat):TH e x a b ρ h s=step ρ h s (.slc e x a b):=by
 show Dn (ρ x) e (a.map ρ) (b.map ρ) h=aH (uW h e (a.map ρ) (b.map ρ) (ρ x))
 cases ρ x with
 |c c=>
  cases c with
  |lit v=>rfl
  |slice cs n=>exact Oi cs n e _ _ h
 |full cs n=>exact Oi cs n e _ _ h
 |_=>rfl
theorem Ul (off:Nat) (agg:Bool) (size:Nat) (x:X) (ρ:X->D) (h:Heap) (s:Nat):Uo off agg size x ρ h s=step ρ h s (.NL off agg size x):=by
 show flD (ρ x) agg off size=(match ρ x with|.agg ds=>if agg=true then (if off+size<=ds.length then some (D.agg ((ds.drop off).take size),[]) else none) else aH ds[off]?|_=>none)
 cases ρ x with
 |agg ds=>
  cases agg with
  |false=>show pD (nth ds off)=aH ds[off]?;rw [zB,p9]
  |true=>
   show cond _ _ none=if off+size<=ds.length then _ else none
   rw [kF,bK,gZ,jP]
 |_=>rfl
theorem Sw (x:X) (i:Nat) (ρ:X->D) (h:Heap) (s:Nat):Sr x i ρ h s=step ρ h s (.ext x i):=by
 show exD (ρ x) i=aH (match ρ x with|.dB ds=>ds[i]?|_=>none)
 cases ρ x with
 |dB ds=>show pD (nth ds i)=aH ds[i]?;rw [zB,p9]
 |_=>rfl
theorem SS (aa ety bytes:Nat) (x y:X) (ρ:X->D) (h:Heap) (s:Nat):Sq aa ety bytes x y ρ h s=step ρ h s (.app aa ety bytes x y):=by
 show apD (ρ x) (ρ y) s aa ety bytes h=vK h s aa ety bytes (ρ y) (ρ x)
 cases ρ x with
 |full ds m=>
  show ob (Q3 (ρ y) aa h) _=(bM h aa (ρ y)).bind fun p=>if p.1.length=p.2 * aa/\ds.length=m * aa/\(m+p.2) * bytes<=aD/\0 < aa/\m+p.2<=aD then
   (if p.2=0 then some (D.full ds m,[]) else some (D.arr s 0 (m+p.2),[(s,Obj.arr (ds++p.1) aa 0 ety)])) else none
  rw [aS,LC];congr 1;funext p;obtain ⟨cs,n⟩:=p;simp only [apF];rw [Cr,eH,bK,bK];have hc:a2 (Nat.beq cs.length (n * aa)) (a2 (Nat.beq ds.length (m * aa)) (a2 (Nat.ble ((m+n) * bytes) aD) (a2 (Nat.ble 1 aa) (Nat.ble (m+n) aD))))=decide (cs.length=n * aa/\ds.length=m * aa/\(m+n) * bytes<=aD/\0 < aa/\m+n<=aD):=by simp only [xY,yE,BH,Bool.decide_and];rfl
  rw [hc,Bool.cond_decide,iW]
 |arr id off len=>
  show ob (Q3 (ρ y) aa h) _=(match af h id with
   |.arr xs bU fz dW=>(bM h aa (ρ y)).bind fun p=>if p.1.length=p.2 * aa/\(len+p.2) * bytes<=aD/\0 < aa/\len+p.2<=aD/\off=0/\bU=aa/\dW=ety/\fz<=len * aa/\len * aa<=xs.length then
     some (D.arr s 0 (len+p.2),[(id,Obj.dead),(s,Obj.arr (xs.take (len * aa)++p.1) aa fz ety)]) else none
   |_=>none)
  rw [aS,LC,iq];generalize af h id=o;cases o with
  |arr xs bU fz dW=>
   simp only;congr 1;funext p;obtain ⟨cs,n⟩:=p;simp only [apO];rw [Cr,eH,gZ,bK,bK];have hc:a2 (Nat.beq cs.length (n * aa)) (a2 (Nat.ble ((len+n) * bytes) aD) (a2 (Nat.ble 1 aa) (a2 (Nat.ble (len+n) aD) (a2 (Nat.beq off 0) (a2 (Nat.beq bU aa) (a2 (Nat.beq dW ety) (a2 (Nat.ble fz (len * aa)) (Nat.ble (len * aa) xs.length))))))))=
     decide (cs.length=n * aa/\(len+n) * bytes<=aD/\0 < aa/\len+n<=aD/\off=0/\bU=aa/\dW=ety/\fz<=len * aa/\len * aa<=xs.length):=by
    simp only [xY,yE,BH,Bool.decide_and];rfl
   rw [hc,Bool.cond_decide]
  |_=>cases bM h aa (ρ y)<;>rfl
 |_=>rfl
theorem OM {β:Type} (d:D) (k:C->Option β):JX d k=(match d with|.c x=>k x|_=>none):=by cases d<;>rfl
theorem aaN (k:Nat) (a b:C):cq a b k=Mv k a b:=by
 cases a with
 |slice _ _=>cases b<;>(rcases k with _|_|_|k<;>rfl)
 |lit v=>
  cases b with
  |slice _ _=>cases v<;>(rcases k with _|_|_|k<;>rfl)
  |lit w=>
   show vq k v w=_
   rcases k with _|_|_|k
   ·cases v with
    |int i a=>
     cases w with
     |int j b=>
      show cond (Nat.beq (kk i) (kk j)) (some (zz a b)) none=if i=j then some (a==b) else none
      rw [kkq,jV];by_cases h:i=j<;>simp [h]
     |_=>rfl
    |_=>rfl
   ·cases v with
    |string x=>
     cases w with
     |string y=>
      show some (YH x.data.toList y.data.toList)=some (x.toList==y.toList)
      rw [J6,toL,toL]
     |_=>rfl
    |_=>rfl
   ·cases v with
    |bool x=>
     cases w with
     |bool y=>cases x<;>cases y<;>rfl
     |_=>rfl
    |_=>rfl
   ·cases v<;>cases w<;>rfl
theorem NZ:∀(ks:List Nat) (ax bs:List D),eqF ks ax bs=Ae ks ax bs
 |[],[],[]=>rfl
 |[],[],_::_=>rfl
 |[],_::_,_=>rfl
 |_::_,[],_=>rfl
 |_::_,a::_,[]=>by cases a<;>rfl
 |k::ks,a::ax,b::bs=>by
  show JX a (fun a=>JX b fun b=>ob (cq a b k) fun x=>ob (eqF ks ax bs) fun y=>some (cond x y false))=_
  rw [OM];cases a with
  |c a=>
   simp only;rw [OM];cases b with
   |c b=>
    show ob (cq a b k) _=(Mv k a b).bind fun x=>(Ae ks ax bs).bind fun y=>some (x && y)
    rw [aS,aaN];congr 1;funext x;rw [aS,NZ ks ax bs];congr 1;funext y;cases x<;>rfl
   |_=>rfl
  |_=>rfl
theorem PO {β:Type} (d:D) (k:List D->Option β):onA d k=(match d with|.agg ds=>k ds|_=>none):=by cases d<;>rfl
theorem Uc (ks:List Nat) (neg:Bool) (x y:X) (ρ:X->D) (h:Heap) (s:Nat):SF ks neg x y ρ h s=step ρ h s (.eqs ks neg x y):=by
 show onA (ρ x) _=aH (Qf ks neg (ρ x) (ρ y))
 rw [PO];cases ρ x with
 |agg ax=>
  simp only;rw [PO];cases ρ y with
  |agg bs=>
   show ob (eqF ks ax bs) _=aH ((Ae ks ax bs).map fun b=> .c (.lit (.bool (if neg=true then !b else b))))
   rw [aS,NZ];cases Ae ks ax bs with
   |none=>rfl
   |some b=>cases neg<;>rfl
  |_=>rfl
 |_=>rfl
def opK (i:Ins):SH:=Ins.rec (motive:=fun _=>SH) Yy K3 ER UN D6 Kw LY xJ Mw Tq SF sUn Kj Jf sMk TH QS Nl Cv Uo BX Ki Sr sLen Sq V9 sMx sMn WM (fun _ _=>YJ) (fun _ _ _=>YJ) (fun _ _=>YJ) (fun _ _=>YJ) Xd Q0 PK i
theorem OZ (i:Ins) (hc:∀f xs,i≠.call f xs) (call:Callee) (ρ:X->D) (h:Heap) (s:Nat):opK i ρ h s=gm call ρ h s i:=by
 cases i with
 |Mq x=>rfl
 |pick c a b=>exact Ro c a b ρ h s
 |alloc z=>exact MF z ρ h s
 |box x=>exact Td x ρ h s
 |build z p=>exact Nz z p ρ h s
 |lits a b c z p=>exact QX a b c z p ρ h s
 |eqs ks n x y=>exact Uc ks n x y ρ h s
 |slc e x a b=>exact TR e x a b ρ h s
 |NL o a n x=>exact Ul o a n x ρ h s
 |ext x i=>exact Sw x i ρ h s
 |app a b c x y=>exact SS a b c x y ρ h s
 |load a n x=>exact Q4 a n x ρ h s
 |store n a v=>exact MC n a v ρ h s
 |pg x=>exact Tf x ρ h s
 |bin op b x y=>exact UE op b x y ρ h s
 |un op x=>exact WB op x ρ h s
 |conv k x=>exact Ol k x ρ h s
 |Q8 x a b=>exact Uh x a b ρ h s
 |yC o x=>exact PY o x ρ h s
 |pY e x i=>exact Ri e x i ρ h s
 |nM x i=>exact Qp x i ρ h s
 |len b x=>exact Sn b x ρ h s
 |call f xs=>exact absurd rfl (hc f xs)
 |_=>rfl
abbrev IH:=Callee->bn->Option Nat->Env->Heap->Nat->(St->Option St)->Option St
def aaj (p:D×List (Nat×Obj)):Option Nat->Env->Heap->Nat->(St->Option St)->Option St:=Prod.rec (motive:=fun _=>Option Nat->Env->Heap->Nat->(St->Option St)->Option St) (fun d us dst e h nx k=>fD d fun d=>fN (nx+1) fun nx=>k ⟨wV e dst d,nL us h,nx⟩) p
def fin (dst:Option Nat) (e:Env) (h:Heap) (nx:Nat) (k:St->Option St) (r:Stepped):Option St:=Option.rec (motive:=fun _=>Option Nat->Env->Heap->Nat->(St->Option St)->Option St) (fun _ _ _ _ _=>none) aaj r dst e h nx k
def hp (f:SH):IH:=fun _ _ dst e h nx k=>fin dst e h nx k (f (xK e) h nx)
def call2 (rs:Option (List V)):List (Nat×Obj)->Option Nat->Env->Heap->Nat->(St->Option St)->Option St:=Option.rec (motive:=fun _=>List (Nat×Obj)->Option Nat->Env->Heap->Nat->(St->Option St)->Option St) (fun _ _ _ _ _ _=>none) (fun rs us dst e h nx k=>fD (sU rs) fun d=>fN (nx+1) fun nx=>k ⟨wV e dst d,nL us h,nx⟩) rs
def aai (p:List V×List (Nat×Obj)):Callee->Nat->Option Nat->Env->Heap->Nat->(St->Option St)->Option St:=Prod.rec (motive:=fun _=>Callee->Nat->Option Nat->Env->Heap->Nat->(St->Option St)->Option St) (fun vs us call f dst e h nx k=>call2 (call f vs) us dst e h nx k) p
def ZH (o:Option (List V×List (Nat×Obj))):Callee->Nat->Option Nat->Env->Heap->Nat->(St->Option St)->Option St:=Option.rec (motive:=fun _=>Callee->Nat->Option Nat->Env->Heap->Nat->(St->Option St)->Option St) (fun _ _ _ _ _ _ _=>none) aai o
def NU (f:Nat) (xs:List X):IH:=fun call _ dst e h nx k=>ZH (wN (iP (xK e) xs) h) call f dst e h nx k
def AB (p:D×Heap×Nat):Option Nat->Env->(St->Option St)->Option St:=Prod.rec (motive:=fun _=>Option Nat->Env->(St->Option St)->Option St) (fun d p=>Prod.rec (motive:=fun _=>Option Nat->Env->(St->Option St)->Option St) (fun h nx dst e k=>fD d fun d=>fN nx fun nx=>k ⟨wV e dst d,h,nx⟩) p) p
def ED (o:Option (D×Heap×Nat)):Option Nat->Env->(St->Option St)->Option St:=Option.rec (motive:=fun _=>Option Nat->Env->(St->Option St)->Option St) (fun _ _ _=>none) AB o
def Cy (aF:bn) (own f:Nat) (ds:List D) (dst:Option Nat) (e:Env) (h:Heap) (nx:Nat) (k:St->Option St):Option St:=ED (Ld aF own f ds h nx) dst e k
def XW (f own:Nat) (xs:List X):IH:=fun _ aF dst e h nx k=>Cy aF own f (iP (xK e) xs) dst e h nx k
def aaO (p:Nat×Nat):D:=.loc p.1 p.2
def J3 (x:X) (xs:List X):IH:=fun _ aF dst e h nx k=>D.rec (motive_1:=fun _=>Option St) (motive_2:=fun _=>PUnit) none (fun _=>none) (fun _ _=>none) (fun _ _ _=>none) (fun _=>none) (fun _ _=>none) (fun f caps=>Cy aF 0 f (mW (iP (xK e) xs) (iP aaO caps)) dst e h nx k) (fun _=>none) (fun d_ _=>(fun _=>none) d_) (fun d_ _=>(fun _=>none) d_) PUnit.unit (fun _ _ _ _=>PUnit.unit) (xK e x)
def hNo:IH:=fun _ _ _ _ _ _ _=>none
def Zr (i:Ins):IH:=Ins.rec (motive:=fun _=>IH) (fun x=>hp (Yy x)) (fun c a b=>hp (K3 c a b)) (fun z=>hp (ER z)) (fun x=>hp (UN x)) (fun z p=>hp (D6 z p)) (fun a b c z p=>hp (Kw a b c z p)) (fun a n x=>hp (LY a n x)) (fun n a v=>hp (xJ n a v)) (fun x=>hp (Mw x)) (fun o b x y=>hp (Tq o b x y)) (fun ks n x y=>hp (SF ks n x y)) (fun o x=>hp (sUn o x)) (fun k x=>hp (Kj k x)) (fun x=>hp (Jf x)) (fun a b c z x y=>hp (sMk a b c z x y)) (fun e x a b=>hp (TH e x a b)) (fun e x a b c=>hp (QS e x a b c)) (fun x a b=>hp (Nl x a b)) (fun o x=>hp (Cv o x)) (fun o a n x=>hp (Uo o a n x)) (fun e x i=>hp (BX e x i)) (fun x i=>hp (Ki x i)) (fun x i=>hp (Sr x i)) (fun b x=>hp (sLen b x)) (fun a b c x y=>hp (Sq a b c x y)) (fun a x y=>hp (V9 a x y)) (fun x y=>hp (sMx x y)) (fun x y=>hp (sMn x y)) (fun f xs=>hp (WM f xs)) NU XW (fun _ _=>hNo) J3 (hp Xd) (fun a b c z d x k=>hp (Q0 a b c z d x k)) (fun a b x k v=>hp (PK a b x k v)) i
def ab9 (w:Bool):Callee->bn->Ins->Option Nat->Env->Heap->Nat->(St->Option St)->Option St:=Bool.rec (motive:=fun _=>Callee->bn->Ins->Option Nat->Env->Heap->Nat->(St->Option St)->Option St) (fun _ _ _ dst e h nx k=>k ⟨wV e dst fF,h,nx⟩) (fun call aF ins dst e h nx k=>Zr ins call aF dst e h nx k) w
def Zk (o:Option Bool):Callee->bn->Ins->Option Nat->Env->Heap->Nat->(St->Option St)->Option St:=Option.rec (motive:=fun _=>Callee->bn->Ins->Option Nat->Env->Heap->Nat->(St->Option St)->Option St) (fun _ _ _ _ _ _ _ _=>none) ab9 o
def acr (s:St):Callee->bn->Ins->Option Nat->Option (Nat×Bool)->(St->Option St)->Option St:=St.rec (motive:=fun _=>Callee->bn->Ins->Option Nat->Option (Nat×Bool)->(St->Option St)->Option St) (fun e h nx call aF ins dst g k=>Zk (zC e g) call aF ins dst e h nx k) s
def ad6 (i:aW):Callee->bn->St->(St->Option St)->Option St:=aW.rec (motive:=fun _=>Callee->bn->St->(St->Option St)->Option St) (fun dst ins g call aF s k=>acr s call aF ins dst g k) i
def Pf (call:Callee) (aF:bn) (is:List aW):St->Option St:=List.rec (motive:=fun _=>St->Option St) some (fun i _ ih s=>ad6 i call aF s ih) is
theorem GK (aF:bn) (own f:Nat) (ds:List D) (dst:Option Nat) (e:Env) (h:Heap) (nx:Nat) (k:St->Option St):Cy aF own f ds dst e h nx k=(iA aF own f ds h nx).bind fun p=>k ⟨dO e dst p.1,p.2.1,p.2.2⟩:=by
 unfold Cy;rw [Ia];cases iA aF own f ds h nx with
 |none=>rfl
 |some p=>
  obtain ⟨d,h',nx'⟩:=p;simp only [ED,AB,BU,pU,kG,Option.bind_some]
theorem Xu (dst:Option Nat) (e:Env) (h:Heap) (nx:Nat) (k:St->Option St) (r:Stepped):fin dst e h nx k r=r.bind fun p=>k ⟨dO e dst p.1,ah h p.2,nx+1⟩:=by
 cases r with
 |none=>rfl
 |some p=>
  obtain ⟨d,us⟩:=p;simp only [fin,aaj,BU,pU,kG,fu,Option.bind_some]
theorem K5 (call:Callee) (aF:bn):∀(is:List aW) (s:St),Pf call aF is s=dR call aF is s
 |[],s=>rfl
 |⟨dst,ins,g⟩::is,⟨e,h,nx⟩=>by
  have ih:=K5 call aF is;have ihf:Pf call aF is=dR call aF is:=funext ih;show Zk (zC e g) call aF ins dst e h nx (Pf call aF is)=_
  rw [ihf,AR];simp only [dR,Option.bind_eq_bind];cases hw:wanted e g with
  |none=>rfl
  |some w=>
   cases w with
   |false=>
    show dR call aF is ⟨wV e dst fF,h,nx⟩=_
    rw [kG];rfl
   |true=>
    simp only [Option.bind_some,if_true];show Zr ins call aF dst e h nx (dR call aF is)=_
    have Yq:(∀f xs,ins≠.call f xs)->hp (opK ins) call aF dst e h nx (dR call aF is)=(gm call (iI e) h nx ins).bind fun p=>dR call aF is ⟨dO e dst p.1,ah h p.2,nx+1⟩:=fun hf=>by unfold hp;rw [Xu,rM,OZ ins hf call]
    cases ins with
    |cu f own xs=>
     show Cy aF own f (iP (xK e) xs) dst e h nx _=_
     rw [GK,rM,dw]
    |dQ x xs=>
     show J3 x xs call aF dst e h nx _=_
     unfold J3;rw [rM];dsimp only;generalize iI e x=d;cases d with
     |bJ f caps=>
      show Cy aF 0 f (mW (iP (iI e) xs) (iP aaO caps)) dst e h nx _=_
      rw [eH,dw,dw];exact GK aF 0 f _ dst e h nx _
     |_=>rfl
    |eZ f xs=>rfl
    |call f xs=>
     show NU f xs call aF dst e h nx _=_
     unfold NU;rw [rM,nG,dw];show _=((gm call (iI e) h nx (.call f xs)).bind _)
     have:gm call (iI e) h nx (.call f xs)=(bY h (xs.map (iI e))).bind fun p=>(call f p.1).bind fun rs=>some (sU rs,p.2):=rfl
     rw [this];cases bY h (xs.map (iI e)) with
     |none=>rfl
     |some p=>
      obtain ⟨vs,us⟩:=p;simp only [Option.bind_some];show call2 (call f vs) us dst e h nx _=_
      cases call f vs with
      |none=>rfl
      |some rs=>simp only [call2,BU,pU,kG,fu,Option.bind_some]
    |_=>exact Yq (by intro f xs hh;cases hh)
def mk (l:List Nat):Nat:=List.rec (motive:=fun _=>Nat) 0 (fun i _ ih=>Nat.lor (Nat.shiftLeft 1 i) ih) l
theorem D5 (i:Nat) (l:List Nat):mk (i::l)=(1 <<< i)|||mk l:=rfl
theorem qz:∀(l:List Nat) (j:Nat),(mk l).testBit j=l.contains j
 |[],j=>by show (0:Nat).testBit j=false;simp
 |i::l,j=>by
  rw [D5,Nat.testBit_or,qz l j,List.contains_cons,Nat.testBit_shiftLeft];by_cases h:j=i
  ·subst h;simp
  ·have h1:(j==i)=false:=by simpa using h
   rw [h1,Bool.false_or];by_cases h2:i<=j
   ·have h3:(1:Nat).testBit (j - i)=false:=by
     cases h4:j - i with
     |zero=>omega
     |succ k=>rw [Nat.testBit_succ];simp
    simp [h3]
   ·simp [h2]
def ov (a b:Nat):Bool:=not (Nat.beq (Nat.land a b) 0)
theorem Kk (a b:List Nat):ov (mk a) (mk b)=meets a b:=by
 rw [Bool.eq_iff_iff];unfold ov meets;rw [yE];simp only [Bool.not_eq_true',decide_eq_false_iff_not,List.any_eq_true];constructor
 ·intro h;by_cases hx:∃x,x∈a/\b.contains x=true
  ·exact hx
  ·exfalso;apply h;show (mk a &&& mk b)=0
   apply Nat.eq_of_testBit_eq;intro i;rw [Nat.testBit_and,qz,qz,Nat.zero_testBit];cases h1:a.contains i with
   |false=>rfl
   |true=>
    cases h2:b.contains i with
    |false=>rfl
    |true=>exact absurd ⟨i,by simpa using h1,h2⟩ hx
 ·rintro ⟨x,h1,h2⟩ h;have h3:(mk a &&& mk b).testBit x=true:=by
   rw [Nat.testBit_and,qz,qz,h2];simpa using h1
  have h4:(mk a &&& mk b)=0:=h;rw [h4,Nat.zero_testBit] at h3;cases h3
theorem kK:∀(a b:List Nat),mk (a++b)=Nat.lor (mk a) (mk b)
 |[],b=>by show mk b=(0|||mk b);simp
 |i::a,b=>by
  rw [List.cons_append,D5,kK a b,D5];show _=((1 <<< i)|||mk a)|||mk b
  rw [Nat.or_assoc];rfl
structure TM where
 rT:Nat
 wT:Nat
 rH:Nat
 wH:Nat
def tm (t:Trace):TM:=⟨mk t.E5,mk t.Bo,mk t.Dp,mk t.zO⟩
def oV (a b:TM):Bool:=TM.rec (motive:=fun _=>Bool) (fun r1 w1 r2 w2=>TM.rec (motive:=fun _=>Bool) (fun s1 v1 s2 v2=>cond (ov w1 (Nat.lor s1 v1)) true (cond (ov v1 r1) true (cond (ov w2 (Nat.lor s2 v2)) true (ov v2 r2)))) b) a
theorem Mm (a b:Trace):oV (tm a) (tm b)=clash a b:=by
 show cond (ov (mk a.Bo) (Nat.lor (mk b.E5) (mk b.Bo))) true (cond (ov (mk b.Bo) (mk a.E5)) true (cond (ov (mk a.zO) (Nat.lor (mk b.Dp) (mk b.zO))) true (ov (mk b.zO) (mk a.Dp))))=_
 rw [<-kK,<-kK,Kk,Kk,Kk,Kk];unfold clash;cases meets a.Bo (b.E5++b.Bo)<;>cases meets b.Bo a.E5<;>cases meets a.zO (b.Dp++b.zO)<;>rfl
def tb (m i:Nat):Bool:=not (Nat.beq (Nat.land 1 (Nat.shiftRight m i)) 0)
theorem Vn (m i:Nat):tb m i=m.testBit i:=by
 unfold tb Nat.testBit;rw [yE];show (!decide ((1 &&& (m >>> i))=0))=_
 simp [bne,BEq.beq]
def mP (m:Nat) (b:TM):List TM->Nat->Bool:=List.rec (motive:=fun _=>Nat->Bool) (fun _=>true) (fun a _ ih i=>cond (tb m i) (ih (i+1)) (cond (oV a b) false (ih (i+1))))
theorem LK (m:Nat) (b:Trace):∀(l:List Trace) (i:Nat),mP m (tm b) (l.map tm) i=vH m b i l
 |[],_=>rfl
 |a::l,i=>by
  have ih:=LK m b l (i+1);show cond (tb m i) (mP m (tm b) (l.map tm) (i+1)) (cond (oV (tm a) (tm b)) false (mP m (tm b) (l.map tm) (i+1)))=_
  rw [ih,Vn,Mm];simp only [vH];cases m.testBit i<;>cases clash a b<;>rfl
def lK (ts:List TM):List TM->List Nat->Bool:=List.rec (motive:=fun _=>List TM->List Nat->Bool) (fun _ _=>true) (fun b _ ih pre ws=>List.rec (motive:=fun _=>Bool) false (fun x_ t_ _=>(fun m ms=>cond (mP m b pre 0) (ih (pre++[b]) ms) false) x_ t_) ws) ts
theorem Bh:∀(ts pre:List Trace) (ws:List Nat),lK (ts.map tm) (pre.map tm) ws=dL pre ts ws
 |[],pre,ws=>by simp only [dL];rfl
 |b::bs,pre,[]=>by simp only [dL];rfl
 |b::bs,pre,m::ms=>by
  have ih:=Bh bs (pre++[b]) ms;show cond (mP m (tm b) (pre.map tm) 0) (lK (bs.map tm) (pre.map tm++[tm b]) ms) false=_
  rw [List.map_append] at ih;rw [LK,show [tm b]=[b].map tm from rfl,ih]
  simp only [dL];rw [Bool.cond_false_right]
def P9 (l:List Nat) (i:Nat):Bool:=List.rec (motive:=fun _=>Bool) false (fun x _ ih=>Bool.rec (motive:=fun _=>Bool) ih true (Nat.beq x i)) l
theorem G9:∀(l:List Nat) (i:Nat),P9 l i=l.contains i
 |[],_=>rfl
 |x::l,i=>by
  show Bool.rec (motive:=fun _=>Bool) (P9 l i) true (Nat.beq x i)=_
  rw [VY,G9 l i,List.contains_cons,yE];by_cases h:x=i
  ·subst h;simp
  ·have h2:(i==x)=false:=by simpa using fun e:i=x=>h e.symm
   simp [h,h2]
abbrev Wn:=Option (List LV×List Nat×List (Nat×Obj))
abbrev LG:=Heap->List Nat->Wn
def la1 (n:Nat) (q:List LV×List Nat×List (Nat×Obj)):Wn:=some (.ref n::q.1,q.2.1,q.2.2)
def la2 (x:V) (u:List (Nat×Obj)) (q:List LV×List Nat×List (Nat×Obj)):Wn:=some (.v x::q.1,q.2.1,mW u q.2.2)
def Ov (d:D) (h:Heap) (ids:List Nat) (ih:LG):Wn:=ob (Mg d h) fun p=>ob (ih (nL p.2 h) ids) (la2 p.1 p.2)
def laL (id off:Nat) (h:Heap) (ids:List Nat) (ih:LG):Wn:=cond (a2 (Nat.beq off 0) (not (P9 ids id))) (ob (ih h (mW ids [id])) (la1 (jI ids))) none
def laD (d:D):Heap->List Nat->LG->Wn:=D.rec (motive_1:=fun _=>Heap->List Nat->LG->Wn) (motive_2:=fun _=>PUnit) (Ov .fK) (fun x=>Ov (.c x)) laL (fun i o l=>Ov (.arr i o l)) (fun cs=>Ov (.ptr cs)) (fun cs n=>Ov (.full cs n)) (fun f cs=>Ov (.bJ f cs)) (fun i=>Ov (.mp i)) (fun ds _=>Ov (.agg ds)) (fun ds _=>Ov (.dB ds)) PUnit.unit (fun _ _ _ _=>PUnit.unit) d
def Av (ds:List D):LG:=List.rec (motive:=fun _=>LG) (fun _ ids=>some ([],ids,[])) (fun d _ ih h ids=>laD d h ids ih) ds
theorem wG:∀(ds:List D) (h:Heap) (ids:List Nat),Av ds h ids=aQ h ds ids
 |[],_,_=>rfl
 |d::ds,h,ids=>by
  have hv:Ov d h ids (Av ds)=(eP h d).bind fun p=>(aQ (ah h p.2) ds ids).bind fun q=>some (.v p.1::q.1,q.2.1,p.2++q.2.2):=by unfold Ov;rw [aS,Hf];congr 1;funext p;rw [aS,wG ds,fu];congr 1;funext q;unfold la2;rw [eH]
  cases d with
  |loc id off=>
   show laL id off h ids (Av ds)=if off=0/\ids.contains id=false then (aQ h ds (ids++[id])).bind fun q=>some (.ref ids.length::q.1,q.2.1,q.2.2) else none
   unfold laL;rw [G9,yE,aS,wG ds,eH,bK,xY];by_cases h1:off=0<;>cases h2:ids.contains id<;>simp [h1]<;>rfl
  |_=>exact hv
abbrev LP:=Option (List C)
def plC (x:C) (ih:LP):LP:=ob ih fun cs=>some (x::cs)
def plD (d:D):LP->LP:=D.rec (motive_1:=fun _=>LP->LP) (motive_2:=fun _=>PUnit) (fun _=>none) plC (fun _ _ _=>none) (fun _ _ _ _=>none) (fun _ _=>none) (fun xs n ih=>plC (.slice xs n) ih) (fun _ _ _=>none) (fun _ _=>none) (fun _ _ _=>none) (fun _ _ _=>none) PUnit.unit (fun _ _ _ _=>PUnit.unit) d
def plF (ds:List D):LP:=List.rec (motive:=fun _=>LP) (some []) (fun d _ ih=>plD d ih) ds
theorem QV:∀ds:List D,plF ds=dU ds
 |[]=>rfl
 |d::ds=>by
  have ih:=QV ds;show plD d (plF ds)=_
  rw [ih];cases d with
  |c x=>exact aS _ _
  |full xs n=>exact aS _ _
  |_=>rfl
abbrev LB:=Option (List (List C))
def pbO (o:Obj) (ih:LB):LB:=Obj.rec (motive:=fun _=>LB->LB) (fun _=>none) (fun ds ih=>ob (plF ds) fun cs=>ob ih fun r=>some (cs::r)) (fun _ _ _ _ _=>none) (fun _ _=>none) o ih
def pbF (ids:List Nat) (h:Heap):LB:=List.rec (motive:=fun _=>LB) (some []) (fun id _ ih=>pbO (jr h id) ih) ids
theorem Pb (h:Heap):∀ids:List Nat,pbF ids h=bW h ids
 |[]=>rfl
 |id::ids=>by
  have ih:=Pb h ids;show pbO (jr h id) (pbF ids h)=(match af h id with
   |.box ds=>(dU ds).bind fun cs=>(bW h ids).bind fun r=>some (cs::r)
   |_=>none)
  rw [ih,iq];generalize af h id=o;cases o with
  |box ds=>
   show ob (plF ds) _=_
   rw [aS,QV];congr 1;funext cs;exact aS _ _
  |_=>rfl
def zpF (ids:List Nat):List (List C)->List (Nat×Obj):=List.rec (motive:=fun _=>List (List C)->List (Nat×Obj)) (fun _=>[]) (fun i _ ih bs=>List.rec (motive:=fun _=>List (Nat×Obj)) [] (fun b r _=>(i,.box (iP .c b))::ih r) bs) ids
theorem RG:∀(ids:List Nat) (bs:List (List C)),zpF ids bs=(ids.zip bs).map fun p=>(p.1,.box (p.2.map .c))
 |[],_=>rfl
 |_::_,[]=>rfl
 |i::ids,b::bs=>by
  show (i,Obj.box (iP .c b))::zpF ids bs=_
  rw [dw,RG ids bs];rfl
def ln1 (q:List V×List (List C)) (ids:List Nat) (us:List (Nat×Obj)):Stepped:=cond (Nat.beq (jI q.2) (jI ids)) (some (sU q.1,mW us (zpF ids q.2))) none
def Rn (ai:fo) (h:Heap) (f:Nat) (ds:List D):Stepped:=ob (Av ds h []) fun p=>ob (pbF p.2.1 (nL p.2.2 h)) fun bs=>ob (ai f p.1 bs) fun q=>ln1 q p.2.1 p.2.2
theorem OJ (ai:fo) (h:Heap) (f:Nat) (ds:List D):Rn ai h f ds=mD ai h f ds:=by
 show ob (Av ds h []) _=(aQ h ds []).bind fun p=>(bW (ah h p.2.2) p.2.1).bind fun bs=>(ai f p.1 bs).bind fun q=>if q.2.length=p.2.1.length then some (sU q.1,p.2.2++(p.2.1.zip q.2).map fun p=>(p.1,.box (p.2.map .c))) else none
 rw [aS,wG];congr 1;funext p;rw [aS,Pb,fu];congr 1;funext bs;rw [aS];congr 1;funext q;unfold ln1;rw [iW,bK,bK,eH,RG]
def bxF (bs:List (List C)):Nat->Heap:=List.rec (motive:=fun _=>Nat->Heap) (fun _=>[]) (fun cs _ ih q=>(q,.box (iP .c cs))::ih (q+1)) bs
theorem QY:∀(bs:List (List C)) (q:Nat),bxF bs q=uX q bs
 |[],_=>rfl
 |cs::bs,q=>by
  show (q,Obj.box (iP .c cs))::bxF bs (q+1)=_
  rw [dw,QY bs];rfl
abbrev BA:=Option (List (List C)×List (Nat×Obj))
def baO (o:Obj):Nat->Heap->(Nat->Heap->BA)->BA:=Obj.rec (motive:=fun _=>Nat->Heap->(Nat->Heap->BA)->BA) (fun _ _ _=>none) (fun ds q h ih=>ob (AZ ds h) fun p=>ob (ih (q+1) (nL p.2 h)) fun r=>some (p.1::r.1,mW p.2 r.2)) (fun _ _ _ _ _ _ _=>none) (fun _ _ _ _=>none) o
def baF (m:Nat):Nat->Heap->BA:=Nat.rec (motive:=fun _=>Nat->Heap->BA) (fun _ _=>some ([],[])) (fun _ ih q h=>baO (jr h q) q h ih) m
theorem Pe:∀(m q:Nat) (h:Heap),baF m q h=iV h q m
 |0,_,_=>rfl
 |m+1,q,h=>by
  show baO (jr h q) q h (baF m)=(match af h q with
   |.box ds=>(eD h ds).bind fun p=>(iV (ah h p.2) (q+1) m).bind fun r=>some (p.1::r.1,p.2++r.2)
   |_=>none)
  rw [iq];generalize af h q=o;cases o with
  |box ds=>
   show ob (AZ ds h) _=_
   rw [aS,uo];congr 1;funext p;rw [aS,Pe m,fu];congr 1;funext r;rw [eH]
  |_=>rfl
def lvD (x:LV):D:=LV.rec (motive:=fun _=>D) V.fM (fun b=> .loc b 0) x
theorem XN:lvD=LV.fM:=by funext x;cases x<;>rfl
def Y5 (ai:fo) (f:Nat) (xs:List X):SH:=fun ρ h _=>Rn ai h f (iP ρ xs)
def Rj (call:Callee) (f:Nat) (xs:List X):SH:=fun ρ h _=>ob (wN (iP ρ xs) h) fun p=>Prod.rec (motive:=fun _=>Stepped) (fun vs us=>ob (call f vs) fun rs=>some (sU rs,us)) p
abbrev DH:=Callee->fo->SH
def pp (s:SH):DH:=fun _ _=>s
def drK (i:Ins):DH:=Ins.rec (motive:=fun _=>DH) (fun x=>pp (Yy x)) (fun c a b=>pp (K3 c a b)) (fun z=>pp (ER z)) (fun x=>pp (UN x)) (fun z p=>pp (D6 z p)) (fun a b c z p=>pp (Kw a b c z p)) (fun a n x=>pp (LY a n x)) (fun n a v=>pp (xJ n a v)) (fun x=>pp (Mw x)) (fun o b x y=>pp (Tq o b x y)) (fun ks n x y=>pp (SF ks n x y)) (fun o x=>pp (sUn o x)) (fun k x=>pp (Kj k x)) (fun x=>pp (Jf x)) (fun a b c z x y=>pp (sMk a b c z x y)) (fun e x a b=>pp (TH e x a b)) (fun e x a b c=>pp (QS e x a b c)) (fun x a b=>pp (Nl x a b)) (fun o x=>pp (Cv o x)) (fun o a n x=>pp (Uo o a n x)) (fun e x i=>pp (BX e x i)) (fun x i=>pp (Ki x i)) (fun x i=>pp (Sr x i)) (fun b x=>pp (sLen b x)) (fun a b c x y=>pp (Sq a b c x y)) (fun a x y=>pp (V9 a x y)) (fun x y=>pp (sMx x y)) (fun x y=>pp (sMn x y)) (fun f xs=>pp (WM f xs)) (fun f xs call _=>Rj call f xs) (fun _ _ _=>pp YJ) (fun f xs _ ai=>Y5 ai f xs) (fun _ _=>pp YJ) (pp Xd) (fun a b c z d x k=>pp (Q0 a b c z d x k)) (fun a b x k v=>pp (PK a b x k v)) i
theorem Qo (i:Ins) (call:Callee) (ai:fo) (ρ:X->D) (h:Heap) (s:Nat):drK i call ai ρ h s=dP call ai ρ h s i:=by
 have key:(∀f xs,i≠.call f xs)->(∀f xs,i≠.eZ f xs)->opK i ρ h s=dP call ai ρ h s i:=fun h1 h2=>by rw [OZ i h1 call];cases i<;>first|rfl|exact absurd rfl (h2 _ _)
 cases i with
 |call f xs=>
  show Rj call f xs ρ h s=((bY h (xs.map ρ)).bind fun p=>(call f p.1).bind fun rs=>some (sU rs,p.2))
  unfold Rj;rw [aS,nG,dw];congr 1;funext p;obtain ⟨vs,us⟩:=p;exact aS _ _
 |eZ f xs=>
  show Rn ai h f (iP ρ xs)=mD ai h f (xs.map ρ)
  rw [OJ,dw]
 |_=>exact key (by intro f xs hh;cases hh) (by intro f xs hh;cases hh)
def Vh (g:Option (Nat×Bool)):List Nat:=Option.rec (motive:=fun _=>List Nat) [] (fun p=>[p.1]) g
def Zb (us:List (Nat×Obj)):List Nat:=us.map (·.1)
def adx (us:List (Nat×Obj)):Bool->Bool:=List.rec (motive:=fun _=>Bool->Bool) (fun b=>b) (fun x_ t_ _=>(fun _ _ _=>true) x_ t_) us
abbrev KK (β:Type):=Env->Heap->Bool->List TM->Option β
abbrev DK (β:Type):=Nat->Env->Heap->KK β->Option β
def skT (g:Option (Nat×Bool)) (dst:Option Nat):TM:=⟨mk (Vh g),mk dst.toList,0,0⟩
def opT (g:Option (Nat×Bool)) (dst:Option Nat) (ins:Ins) (e:Env) (us:List (Nat×Obj)):TM:=⟨mk (Vh g++gQ (eY ins)),mk dst.toList,mk (touches (xK e) ins),mk (Zb us)⟩
def dr4 {β:Type} (p:D×List (Nat×Obj)):Ins->Option Nat->Option (Nat×Bool)->Nat->Env->Heap->DK β->KK β->Option β:=Prod.rec (motive:=fun _=>Ins->Option Nat->Option (Nat×Bool)->Nat->Env->Heap->DK β->KK β->Option β) (fun d us ins dst g j e h ih k=>fD d fun d=>ih (j+1) (wV e dst d) (nL us h) fun e' h' b ts=>k e' h' (adx us b) (opT g dst ins e us::ts)) p
def dr3 {β:Type} (o:Stepped):Ins->Option Nat->Option (Nat×Bool)->Nat->Env->Heap->DK β->KK β->Option β:=Option.rec (motive:=fun _=>Ins->Option Nat->Option (Nat×Bool)->Nat->Env->Heap->DK β->KK β->Option β) (fun _ _ _ _ _ _ _ _=>none) dr4 o
abbrev D2 (β:Type):=Callee->fo->Nat->Ins->Option Nat->Option (Nat×Bool)->Nat->Env->Heap->DK β->KK β->Option β
def dr2 {β:Type} (w:Bool):D2 β:=Bool.rec (motive:=fun _=>D2 β) (fun _ _ _ _ dst g j e h ih k=>ih (j+1) (wV e dst fF) h fun e' h' b ts=>k e' h' b (skT g dst::ts)) (fun call ai nx ins dst g j e h ih k=>dr3 (drK ins call ai (xK e) h (nx+j)) ins dst g j e h ih k) w
def dr1 {β:Type} (o:Option Bool):D2 β:=Option.rec (motive:=fun _=>D2 β) (fun _ _ _ _ _ _ _ _ _ _ _=>none) dr2 o
def dr0 {β:Type} (i:aW):Callee->fo->Nat->Nat->Env->Heap->DK β->KK β->Option β:=aW.rec (motive:=fun _=>Callee->fo->Nat->Nat->Env->Heap->DK β->KK β->Option β) (fun dst ins g call ai nx j e h ih k=>dr1 (zC e g) call ai nx ins dst g j e h ih k) i
def Ca {β:Type} (call:Callee) (ai:fo) (nx:Nat) (is:List aW):DK β:=List.rec (motive:=fun _=>DK β) (fun _ e h k=>k e h false []) (fun i _ ih j e h k=>dr0 i call ai nx j e h ih k) is
def aaa (t:Trace) (b:Bool):Bool:=match t.zO with
 |[]=>b
 |_=>true
def Ab (ts:List Trace):Bool:=ts.foldr aaa false
theorem Fy {β:Type} (call:Callee) (ai:fo) (nx:Nat):∀(is:List aW) (j:Nat) (e:Env) (h:Heap) (k:KK β),
  Ca call ai nx is j e h k=(bZ call ai nx j is e h).bind fun p=>k p.1 p.2.1 (Ab p.2.2) (p.2.2.map tm)
 |[],j,e,h,k=>rfl
 |⟨dst,ins,g⟩::is,j,e,h,k=>by
  have ih:=Fy (β:=β) call ai nx is;show dr1 (zC e g) call ai nx ins dst g j e h (Ca call ai nx is) k=_
  rw [AR];simp only [bZ,Option.bind_eq_bind];cases wanted e g with
  |none=>rfl
  |some w=>
   cases w with
   |false=>
    show Ca call ai nx is (j+1) (wV e dst fF) h _=_
    simp only [Option.bind_some,ih,kG,Bool.false_eq_true,if_false];cases bZ call ai nx (j+1) is (dO e dst fF) h<;>(rcases g with _|⟨t,w⟩<;>rfl)
   |true=>
    show dr3 (drK ins call ai (xK e) h (nx+j)) ins dst g j e h (Ca call ai nx is) k=_
    simp only [Option.bind_some,Qo,rM,if_true];cases dP call ai (iI e) h (nx+j) ins with
    |none=>rfl
    |some p=>
     obtain ⟨d,us⟩:=p;simp only [dr3,dr4,Option.bind_some,BU,ih,kG,fu,opT,rM];cases bZ call ai nx (j+1) is (dO e dst d) (ah h us)<;>(rcases g with _|⟨t,w⟩<;>cases us<;>rfl)
def stT (i:aW):TM:=aW.rec (motive:=fun _=>TM) (fun dst ins g=>⟨mk (Vh g++gQ (eY ins)),mk dst.toList,0,0⟩) i
def WJ (is:List aW) (ws:List Nat):Bool:=lK (is.map stT) [] ws
def chk (is:List aW) (ws:List Nat) (b:Bool) (ts:List TM):Bool:=cond (cond b false (WJ is ws)) true (lK ts [] ws)
theorem oZ (a b:Nat):ov a b=true↔∃i,a.testBit i=true/\b.testBit i=true:=by
 unfold ov;rw [yE];simp only [Bool.not_eq_true',decide_eq_false_iff_not];constructor
 ·intro h;by_cases hx:∃i,a.testBit i=true/\b.testBit i=true
  ·exact hx
  ·exfalso;apply h;show (a &&& b)=0
   apply Nat.eq_of_testBit_eq;intro i;rw [Nat.testBit_and,Nat.zero_testBit];cases h1:a.testBit i with
   |false=>rfl
   |true=>
    cases h2:b.testBit i with
    |false=>rfl
    |true=>exact absurd ⟨i,h1,h2⟩ hx
 ·rintro ⟨i,h1,h2⟩ h;have h3:(a &&& b).testBit i=true:=by rw [Nat.testBit_and,h1,h2];rfl
  have h4:(a &&& b)=0:=h;rw [h4,Nat.zero_testBit] at h3;cases h3
structure PM (a s:TM):Prop where
 w:a.wT=s.wT
 r:∀i,a.rT.testBit i=true->s.rT.testBit i=true
 h:a.wH=0
theorem PW {a b s t:TM} (h1:PM a s) (h2:PM b t) (hc:oV s t=false):oV a b=false:=by
 obtain ⟨r1,w1,q1,p1⟩:=a;obtain ⟨r2,w2,q2,p2⟩:=b;obtain ⟨r3,w3,q3,p3⟩:=s;obtain ⟨r4,w4,q4,p4⟩:=t;obtain ⟨e1,m1,z1⟩:=h1;obtain ⟨e2,m2,z2⟩:=h2;simp only at e1 e2 z1 z2 m1 m2;subst e1 e2 z1 z2;have hc2:cond (ov w1 (Nat.lor r4 w2)) true (cond (ov w2 r3) true (cond (ov p3 (Nat.lor q4 p4)) true (ov p4 q3)))=false:=hc;show cond (ov w1 (Nat.lor r2 w2)) true (cond (ov w2 r1) true (cond (ov 0 (Nat.lor q2 0)) true (ov 0 q1)))=false
 have z:∀x,ov 0 x=false:=fun x=>by
  cases hx:ov 0 x with
  |false=>rfl
  |true=>obtain ⟨i,h,_⟩:=(oZ _ _).1 hx;rw [Nat.zero_testBit] at h;cases h
 have k1:ov w1 (Nat.lor r2 w2)=false:=by
  cases hx:ov w1 (Nat.lor r2 w2) with
  |false=>rfl
  |true=>
   obtain ⟨i,h3,h4⟩:=(oZ _ _).1 hx;have h5:(r2|||w2).testBit i=true:=h4
   have h6:ov w1 (Nat.lor r4 w2)=true:=(oZ _ _).2 ⟨i,h3,by
    show (r4|||w2).testBit i=true
    rw [Nat.testBit_or,Bool.or_eq_true] at h5 |-;exact h5.imp (m2 i) id⟩
   rw [h6] at hc2;cases hc2
 have k2:ov w2 r1=false:=by
  cases hx:ov w2 r1 with
  |false=>rfl
  |true=>
   obtain ⟨i,h3,h4⟩:=(oZ _ _).1 hx;have h6:ov w2 r3=true:=(oZ _ _).2 ⟨i,h3,m1 i h4⟩;rw [h6] at hc2;cases hc2':ov w1 (Nat.lor r4 w2)<;>rw [hc2'] at hc2<;>cases hc2
 rw [k1,k2,z,z];rfl
theorem Jk {m:Nat} {b t:TM} (hb:PM b t):∀{l s:List TM} {i:Nat},aj PM l s->mP m t s i=true->mP m b l i=true
 |[],_,_,_,_=>rfl
 |a::l,[],_,h,_=>h.elim
 |a::l,x::s,i,h,hr=>by
  have hr2:cond (tb m i) (mP m t s (i+1)) (cond (oV x t) false (mP m t s (i+1)))=true:=hr;show cond (tb m i) (mP m b l (i+1)) (cond (oV a b) false (mP m b l (i+1)))=true
  cases h1:tb m i with
  |true=>rw [h1] at hr2;exact Jk hb h.2 hr2
  |false=>
   rw [h1,cond_false] at hr2;cases h2:oV x t with
   |true=>rw [h2] at hr2;cases hr2
   |false=>
    rw [h2] at hr2;rw [PW h.1 hb h2];exact Jk hb h.2 hr2
theorem MI {l s:List TM} {a x:TM}:aj PM l s->PM a x->aj PM (l++[a]) (s++[x]):=fun h hx=>by
 induction l generalizing s with
 |nil=>cases s with|nil=>exact ⟨hx,trivial⟩|cons _ _=>exact h.elim
 |cons y l ih=>cases s with|nil=>exact h.elim|cons z s=>exact ⟨h.1,ih h.2⟩
theorem Lc:∀{ts ss pre XL:List TM} {ws:List Nat},aj PM ts ss->aj PM pre XL->lK ss XL ws=true->lK ts pre ws=true
 |[],_,_,_,_,_,_,_=>rfl
 |_::_,[],_,_,_,h,_,_=>h.elim
 |b::ts,t::ss,pre,XL,[],_,_,h=>by cases h
 |b::ts,t::ss,pre,XL,m::ws,h,hp,hr=>by
  have hr2:cond (mP m t XL 0) (lK ss (XL++[t]) ws) false=true:=hr;show cond (mP m b pre 0) (lK ts (pre++[b]) ws) false=true
  cases h1:mP m t XL 0 with
  |false=>rw [h1] at hr2;cases hr2
  |true=>
   rw [h1] at hr2;rw [Jk h.1 hp h1];exact Lc h.2 (MI hp h.1) hr2
theorem EK {call:Callee} {ai:fo} {nx:Nat}:∀{is:List aW} {j:Nat} {e:Env} {h:Heap} {p:Env×Heap×List Trace},bZ call ai nx j is e h=some p->Ab p.2.2=false->aj PM (p.2.2.map tm) (is.map stT)
 |[],j,e,h,p,hp,_=>by simp only [bZ,Option.some.injEq] at hp;subst hp;trivial
 |⟨dst,ins,g⟩::is,j,e,h,p,hp,hd=>by
  have hgk:∀i,(mk (Vh g)).testBit i=true->(mk (Vh g++gQ (eY ins))).testBit i=true:=fun i hi=>by
   rw [kK];show (mk (Vh g)|||mk (gQ (eY ins))).testBit i=true
   rw [Nat.testBit_or,hi];rfl
  simp only [bZ,Option.bind_eq_bind] at hp;obtain ⟨w,hw,hp⟩:=Option.bind_eq_some_iff.1 hp;cases w with
  |false=>
   simp only [Bool.false_eq_true,if_false] at hp;obtain ⟨q,hq,hp⟩:=Option.bind_eq_some_iff.1 hp;simp only [Option.some.injEq] at hp;subst hp;have hd2:Ab q.2.2=false:=hd;refine ⟨⟨rfl,?_,rfl⟩,EK hq hd2⟩;rcases g with _|⟨t,b⟩<;>exact hgk
  |true=>
   simp only [if_true] at hp;obtain ⟨du,hdu,hp⟩:=Option.bind_eq_some_iff.1 hp;obtain ⟨q,hq,hp⟩:=Option.bind_eq_some_iff.1 hp;simp only [Option.some.injEq] at hp;subst hp;obtain ⟨d,us⟩:=du;cases us with
   |cons u us=>cases (show true=false from hd)
   |nil=>
    have hd2:Ab q.2.2=false:=hd;refine ⟨⟨rfl,?_,rfl⟩,EK hq hd2⟩;rcases g with _|⟨t,b⟩<;>exact fun i hi=>hi
theorem Xe {call:Callee} {ai:fo} {nx:Nat} {is:List aW} {j:Nat} {e:Env} {h:Heap} {p:Env×Heap×List Trace} (hp:bZ call ai nx j is e h=some p) (ws:List Nat):chk is ws (Ab p.2.2) (p.2.2.map tm)=iD p.2.2 ws:=by
 have h1:=Bh p.2.2 [] ws;simp only [List.map_nil] at h1;unfold chk iD;rw [h1];cases hd:Ab p.2.2 with
 |true=>rfl
 |false=>
  cases hs:WJ is ws with
  |false=>rfl
  |true=>
   have h2:lK (p.2.2.map tm) [] ws=true:=Lc (EK hp hd) (show aj PM [] [] from trivial) hs
   rw [<-h1,h2];rfl
def RY (n:Nat):Nat:=Nat.sub (Nat.pow 2 n) 1
theorem Ma (n i:Nat):(RY n).testBit i=decide (i < n):=Nat.testBit_two_pow_sub_one ..
def YX (x b k m:Nat):Bool:=(fun y=>Nat.beq (Nat.land y m) y) (Nat.land (Nat.shiftRight x b) (RY k))
def T9 (bT bH k m uR vR fT fW:Nat) (b:TM):Bool:=TM.rec (motive:=fun _=>Bool) (fun r w q p=>a2 (Nat.beq (Nat.land (Nat.lor r w) fT) 0) (a2 (Nat.beq (Nat.land (Nat.lor q p) fW) 0) (a2 (YX (Nat.lor r w) bT k m) (a2 (YX (Nat.lor q p) bH k m) (a2 (Nat.beq (Nat.land w uR) 0) (Nat.beq (Nat.land p vR) 0)))))) b
def Xj (p n:Nat):Nat:=Nat.xor p (Nat.land p (Nat.shiftLeft 1 n))
def Tn (bT bH:Nat) (ts:List TM):List Nat->Nat->Nat->Nat->Nat->Nat->Bool:=List.rec (motive:=fun _=>List Nat->Nat->Nat->Nat->Nat->Nat->Bool) (fun _ _ _ _ _ _=>true) (fun b _ ih ws k uR vR fT fW=>List.rec (motive:=fun _=>Bool) false (fun m ms _=>cond (T9 bT bH k m uR vR fT fW b) (ih ms (k+1) (Nat.lor uR b.rT) (Nat.lor vR b.rH) (Nat.lor fT (Xj b.wT (bT+k))) (Nat.lor fW (Xj b.wH (bH+k)))) false) ws) ts
structure Zf (bT bH i uR vR fT fW:Nat) (a:TM):Prop where
 w:∀j,a.wT.testBit j=true->j=bT+i\/fT.testBit j=true
 p:∀j,a.wH.testBit j=true->j=bH+i\/fW.testBit j=true
 r:∀j,a.rT.testBit j=true->uR.testBit j=true
 q:∀j,a.rH.testBit j=true->vR.testBit j=true
def Fh (bT bH uR vR fT fW:Nat):Nat->List TM->Prop
 |_,[]=>True
 |i,a::l=>Zf bT bH i uR vR fT fW a/\Fh bT bH uR vR fT fW (i+1) l
theorem Km {x b k m i:Nat} (h:YX x b k m=true) (hi:i < k) (hx:x.testBit (b+i)=true):m.testBit i=true:=by
 have h1:Nat.beq (Nat.land (Nat.land (Nat.shiftRight x b) (RY k)) m) (Nat.land (Nat.shiftRight x b) (RY k))=true:=h;have h2:((x >>> b) &&& RY k) &&& m=(x >>> b) &&& RY k:=Nat.eq_of_beq_eq_true h1;have h3:((x >>> b) &&& RY k).testBit i=true:=by rw [Nat.testBit_and,Nat.testBit_shiftRight,hx,Ma,decide_eq_true hi];rfl
 rw [<-h2,Nat.testBit_and,Bool.and_eq_true] at h3;exact h3.2
theorem Kz {p n j:Nat} (f:Nat) (hj:p.testBit j=true):j=n\/(Nat.lor f (Xj p n)).testBit j=true:=by
 by_cases e:j=n
 ·exact .inl e
 ·refine .inr ?_;show (f|||(p ^^^ (p &&& (1 <<< n)))).testBit j=true
  have h5:((1:Nat) <<< n).testBit j=false:=by
   rw [Nat.testBit_shiftLeft];by_cases h6:n<=j
   ·cases h7:j - n with
    |zero=>omega
    |succ n=>rw [Nat.testBit_succ];simp
   ·simp [h6]
  rw [Nat.testBit_or,Nat.testBit_xor,Nat.testBit_and,h5,hj];simp
theorem Kr {x y j:Nat} (h:Nat.beq (Nat.land x y) 0=true) (hx:x.testBit j=true):y.testBit j=false:=by
 have h1:(x &&& y)=0:=Nat.eq_of_beq_eq_true h;have h2:(x &&& y).testBit j=false:=by rw [h1,Nat.zero_testBit]
 rw [Nat.testBit_and,hx,Bool.true_and] at h2;exact h2
theorem KY {bT bH k m uR vR fT fW:Nat} {b:TM} (hb:T9 bT bH k m uR vR fT fW b=true):∀{pre:List TM} {i:Nat},Fh bT bH uR vR fT fW i pre->i+pre.length=k->mP m b pre i=true
 |[],_,_,_=>rfl
 |a::pre,i,hp,hk=>by
  obtain ⟨h1,h2⟩:=hp;have ih:=KY hb h2 (by simp at hk;omega)
  show cond (tb m i) (mP m b pre (i+1)) (cond (oV a b) false (mP m b pre (i+1)))=true
  rw [ih];cases ht:tb m i with
  |true=>rfl
  |false=>
   rw [Vn] at ht;have hik:i < k:=by simp at hk;omega
   obtain ⟨r2,w2,q2,p2⟩:=b;obtain ⟨r1,w1,q1,p1⟩:=a;obtain ⟨c1,c2,c3,c4⟩:=h1;simp only at c1 c2 c3 c4;have hl:a2 (Nat.beq (Nat.land (Nat.lor r2 w2) fT) 0) (a2 (Nat.beq (Nat.land (Nat.lor q2 p2) fW) 0) (a2 (YX (Nat.lor r2 w2) bT k m) (a2 (YX (Nat.lor q2 p2) bH k m) (a2 (Nat.beq (Nat.land w2 uR) 0) (Nat.beq (Nat.land p2 vR) 0)))))=true:=hb;simp only [xY,Bool.and_eq_true] at hl;obtain ⟨l1,l2,l3,l4,l5,l6⟩:=hl;have k1:ov w1 (Nat.lor r2 w2)=false:=by
    cases hx:ov w1 (Nat.lor r2 w2) with
    |false=>rfl
    |true=>
     obtain ⟨j,h3,h4⟩:=(oZ _ _).1 hx;rcases c1 j h3 with this|this
     ·subst this;rw [Km l3 hik h4] at ht;cases ht
     ·have h5:=Kr l1 h4;rw [this] at h5;cases h5
   have k2:ov w2 r1=false:=by
    cases hx:ov w2 r1 with
    |false=>rfl
    |true=>
     obtain ⟨j,h3,h4⟩:=(oZ _ _).1 hx;have:=Kr l5 h3
     rw [c3 j h4] at this;cases this
   have k3:ov p1 (Nat.lor q2 p2)=false:=by
    cases hx:ov p1 (Nat.lor q2 p2) with
    |false=>rfl
    |true=>
     obtain ⟨j,h3,h4⟩:=(oZ _ _).1 hx;rcases c2 j h3 with this|this
     ·subst this;rw [Km l4 hik h4] at ht;cases ht
     ·have h5:=Kr l2 h4;rw [this] at h5;cases h5
   have k4:ov p2 q1=false:=by
    cases hx:ov p2 q1 with
    |false=>rfl
    |true=>
     obtain ⟨j,h3,h4⟩:=(oZ _ _).1 hx;have:=Kr l6 h3
     rw [c4 j h4] at this;cases this
   show cond (cond (ov w1 (Nat.lor r2 w2)) true (cond (ov w2 r1) true (cond (ov p1 (Nat.lor q2 p2)) true (ov p2 q1)))) false true=true
   rw [k1,k2,k3,k4];rfl
theorem CJ {bT bH u u' v v' g g' f f':Nat} (hg:∀j,g.testBit j=true->g'.testBit j=true) (hu:∀j,u.testBit j=true->u'.testBit j=true) (hv:∀j,v.testBit j=true->v'.testBit j=true) (hf:∀j,f.testBit j=true->f'.testBit j=true):∀{l:List TM} {i:Nat},Fh bT bH u v g f i l->Fh bT bH u' v' g' f' i l
 |[],_,_=>trivial
 |_::_,_,h=>⟨⟨fun j hj=>(h.1.w j hj).imp id (hg j),fun j hj=>(h.1.p j hj).imp id (hf j),fun j hj=>hu j (h.1.r j hj),fun j hj=>hv j (h.1.q j hj)⟩,CJ hg hu hv hf h.2⟩
theorem Ci {bT bH u v g f:Nat} {b:TM}:∀{l:List TM} {i:Nat},Fh bT bH u v g f i l->Zf bT bH (i+l.length) u v g f b->Fh bT bH u v g f i (l++[b])
 |[],_,_,h=>⟨h,trivial⟩
 |a::l,i,h,hb=>by
  have e:i+1+l.length=i+(a::l).length:=by simp;omega
  exact ⟨h.1,Ci h.2 (by rw [e];exact hb)⟩
theorem Ga {bT bH:Nat}:∀{ts pre:List TM} {ws:List Nat} {k uR vR fT fW:Nat},Tn bT bH ts ws k uR vR fT fW=true->Fh bT bH uR vR fT fW 0 pre->pre.length=k->lK ts pre ws=true
 |[],_,_,_,_,_,_,_,_,_,_=>rfl
 |b::ts,pre,[],_,_,_,_,_,h,_,_=>by cases h
 |b::ts,pre,m::ms,k,uR,vR,fT,fW,h,hp,hk=>by
  have h2:cond (T9 bT bH k m uR vR fT fW b) (Tn bT bH ts ms (k+1) (Nat.lor uR b.rT) (Nat.lor vR b.rH) (Nat.lor fT (Xj b.wT (bT+k))) (Nat.lor fW (Xj b.wH (bH+k)))) false=true:=h;cases h3:T9 bT bH k m uR vR fT fW b with
  |false=>rw [h3] at h2;cases h2
  |true=>
   rw [h3,cond_true] at h2;show cond (mP m b pre 0) (lK ts (pre++[b]) ms) false=true
   rw [KY h3 hp (by omega),cond_true]
   refine Ga h2 (Ci (CJ (fun j hj=>?_) (fun j hj=>?_) (fun j hj=>?_) (fun j hj=>?_) hp) ?_) (by simp [hk])
   ·show (fT|||Xj b.wT (bT+k)).testBit j=true
    rw [Nat.testBit_or,hj];rfl
   ·show (uR|||b.rT).testBit j=true
    rw [Nat.testBit_or,hj];rfl
   ·show (vR|||b.rH).testBit j=true
    rw [Nat.testBit_or,hj];rfl
   ·show (fW|||Xj b.wH (bH+k)).testBit j=true
    rw [Nat.testBit_or,hj];rfl
   ·obtain ⟨r2,w2,q2,p2⟩:=b;rw [Nat.zero_add,hk];refine ⟨fun j hj=>Kz fT hj,fun j hj=>Kz fW hj,fun j hj=>?_,fun j hj=>?_⟩
    ·show (uR|||r2).testBit j=true
     rw [Nat.testBit_or,show r2.testBit j=true from hj,Bool.or_true]
    ·show (vR|||q2).testBit j=true
     rw [Nat.testBit_or,show q2.testBit j=true from hj,Bool.or_true]
def VF (is:List aW):Nat:=List.rec (motive:=fun _=>Nat) 0 (fun i _ _=>Option.rec (motive:=fun _=>Nat) 0 (fun n=>n) i.dst) is
def okD (is:List aW) (nx:Nat) (ts:List TM) (ws:List Nat):Bool:=cond (Tn (VF is) nx ts ws 0 0 0 0 0) true (lK ts [] ws)
theorem Ww (is:List aW) (nx:Nat) (ts:List TM) (ws:List Nat):okD is nx ts ws=lK ts [] ws:=by
 unfold okD;cases h:Tn (VF is) nx ts ws 0 0 0 0 0 with
 |false=>rfl
 |true=>rw [Ga h (show Fh _ _ _ _ _ _ 0 [] from trivial) rfl];rfl
def I8 (is:List aW) (nx:Nat) (ws:List Nat) (b:Bool) (ts:List TM):Bool:=cond (cond b false (WJ is ws)) true (okD is nx ts ws)
theorem Ue (is:List aW) (nx:Nat) (ws:List Nat) (b:Bool) (ts:List TM):I8 is nx ws b ts=chk is ws b ts:=by unfold I8 chk;rw [Ww]
theorem Yh (n:Nat) (l:List Nat):Nat.lor (RY n) (mk l)=mk (List.range n++l):=by
 rw [kK];show (RY n|||mk l)=(mk (List.range n)|||mk l)
 congr 1;apply Nat.eq_of_testBit_eq;intro i;rw [Ma,qz];rw [Bool.eq_iff_iff];simp
def ids (h:Heap):Nat:=List.rec (motive:=fun _=>Nat) 0 (fun p _ ih=>Nat.lor (Nat.shiftLeft 1 p.1) ih) h
theorem ES:∀h:Heap,ids h=mk (h.map (·.1))
 |[]=>rfl
 |p::h=>by
  show Nat.lor (Nat.shiftLeft 1 p.1) (ids h)=_
  rw [ES h];rfl
def UM (h h':Heap) (acc:List Nat):Nat:=List.rec (motive:=fun _=>Nat) 0 (fun i _ ih=>Bool.rec (motive:=fun _=>Nat) ih (Nat.lor (Nat.shiftLeft 1 i) ih) (vL (jr h i) (jr h' i))) acc
theorem KH (h h':Heap):∀(acc:List Nat) (j:Nat),(UM h h' acc).testBit j=(acc.contains j && vL (af h j) (af h' j))
 |[],j=>by show (0:Nat).testBit j=false;simp
 |i::acc,j=>by
  have ih:=KH h h' acc j;show (Bool.rec (motive:=fun _=>Nat) (UM h h' acc) (Nat.lor (Nat.shiftLeft 1 i) (UM h h' acc)) (vL (jr h i) (jr h' i))).testBit j=_
  rw [iq,iq,List.contains_cons];by_cases e:j=i
  ·subst e;cases hs:vL (af h j) (af h' j) with
   |false=>
    show (UM h h' acc).testBit j=_
    rw [ih,hs];simp
   |true=>
    show ((1 <<< j)|||UM h h' acc).testBit j=_
    rw [Nat.testBit_or,Nat.testBit_shiftLeft];simp
  ·have h1:(j==i)=false:=by simpa using e
   cases vL (af h i) (af h' i) with
   |false=>
    show (UM h h' acc).testBit j=_
    rw [ih,h1,Bool.false_or]
   |true=>
    show ((1 <<< i)|||UM h h' acc).testBit j=_
    rw [Nat.testBit_or,ih,h1,Bool.false_or,Nat.testBit_shiftLeft];by_cases h2:i<=j
    ·have h3:(1:Nat).testBit (j - i)=false:=by
      cases h4:j - i with
      |zero=>omega
      |succ k=>rw [Nat.testBit_succ];simp
     simp [h3]
    ·simp [h2]
def chg (acc:List Nat) (h h':Heap) (A:Nat):Nat:=Nat.xor A (Nat.land A (UM h h' acc))
theorem Wp (acc:List Nat) (h h':Heap):chg acc h h' (Nat.lor (ids h') (ids h))=mk (changed acc h h'):=by
 rw [ES,ES,<-kK];apply Nat.eq_of_testBit_eq;intro j;show (mk (h'.map (·.1)++h.map (·.1)) ^^^ (mk (h'.map (·.1)++h.map (·.1)) &&& UM h h' acc)).testBit j=_
 rw [Nat.testBit_xor,Nat.testBit_and,KH,qz,qz];unfold changed;rw [<-List.map_append];rw [Bool.eq_iff_iff];simp only [List.contains_eq_mem,List.mem_filter,decide_eq_true_eq,Bool.decide_and];by_cases hm:j∈List.map (·.1) (h'++h)<;>cases acc.contains j<;>cases vL (af h j) (af h' j)<;>simp_all
abbrev MK (β:Type):=Env->Heap->Nat->List TM->Option β
abbrev MR (β:Type):=Nat->Nat->List Nat->Env->Heap->MK β->Option β
def mxS (g:Option (Nat×Bool)) (xs:List X) (dst:Option Nat) (acc:List Nat) (h h':Heap) (n:Nat):TM:=⟨mk (Vh g++gQ xs),mk dst.toList,Nat.lor (RY n) (ids h),chg acc h h' (Nat.lor (ids h') (ids h))⟩
def mxO (g:Option (Nat×Bool)) (ins:Ins) (dst:Option Nat) (e:Env) (h:Heap) (us:List (Nat×Obj)):TM:=⟨mk (Vh g++gQ (eY ins)),mk dst.toList,mk (lJ (xK e) h ins),mk (Zb us)⟩
def mx5 {β:Type} (call:Callee) (ai:fo) (ins:Ins) (dst:Option Nat) (g:Option (Nat×Bool)) (k nx:Nat) (acc:List Nat) (e:Env) (h:Heap) (ih:MR β) (c:MK β):Option β:=ob (drK ins call ai (xK e) h (nx+k)) fun p=>fD p.1 fun d=>ih (k+1) nx (acc++lJ (xK e) h ins) (wV e dst d) (nL p.2 h) fun e' h' n ts=>c e' h' n (mxO g ins dst e h p.2::ts)
def mx4 {β:Type} (aF:bn) (f:Nat) (xs:List X) (dst:Option Nat) (g:Option (Nat×Bool)) (k nx:Nat) (acc:List Nat) (e:Env) (h:Heap) (ih:MR β) (c:MK β):Option β:=ob (Ld aF 2 f (iP (xK e) xs) h (nx+k)) fun p=>fD p.1 fun d=>fN p.2.2 fun n=>ih (k+1) n acc (wV e dst d) p.2.1 fun e' h' n' ts=>c e' h' n' (mxS g xs dst acc h p.2.1 (nx+k)::ts)
def isS (i:Ins):Option (Nat×Nat×List X):=match i with
 |.cu f o xs=>some (f,o,xs)
 |_=>none
def isV (i:Ins):Bool:=match i with
 |.dQ _ _=>true
 |_=>false
def mx3 {β:Type} (call:Callee) (ai:fo) (aF:bn) (ins:Ins) (dst:Option Nat) (g:Option (Nat×Bool)) (k nx:Nat) (acc:List Nat) (e:Env) (h:Heap) (ih:MR β) (c:MK β):Option β:=Option.rec (motive:=fun _=>Option β)
 (cond (isV ins) none (mx5 call ai ins dst g k nx acc e h ih c)) (fun q=>cond (Nat.beq q.2.1 2) (mx4 aF q.1 q.2.2 dst g k nx acc e h ih c) none) (isS ins)
def mx2 {β:Type} (w:Bool) (call:Callee) (ai:fo) (aF:bn) (ins:Ins) (dst:Option Nat) (g:Option (Nat×Bool)) (k nx:Nat) (acc:List Nat) (e:Env) (h:Heap) (ih:MR β) (c:MK β):Option β:=Bool.rec (motive:=fun _=>Option β) (ih (k+1) nx acc (wV e dst fF) h fun e' h' n ts=>c e' h' n (skT g dst::ts)) (mx3 call ai aF ins dst g k nx acc e h ih c) w
def Dq {β:Type} (call:Callee) (ai:fo) (aF:bn) (is:List aW):MR β:=List.rec (motive:=fun _=>MR β) (fun k nx _ e h c=>c e h (nx+k) []) (fun i _ ih k nx acc e h c=>ob (zC e i.guard) fun w=>mx2 w call ai aF i.ins i.dst i.guard k nx acc e h ih c) is
theorem Ls {β:Type} (call:Callee) (ai:fo) (aF:bn):∀(is:List aW) (k nx:Nat) (acc:List Nat) (e:Env) (h:Heap) (c:MK β),
  Dq call ai aF is k nx acc e h c=(jq call ai aF k nx acc is e h).bind fun p=>c p.1 p.2.1 p.2.2.1 (p.2.2.2.map tm)
 |[],k,nx,acc,e,h,c=>rfl
 |⟨dst,ins,g⟩::is,k,nx,acc,e,h,c=>by
  have ih:=Ls (β:=β) call ai aF is;show ob (zC e g) (fun w=>mx2 w call ai aF ins dst g k nx acc e h (Dq call ai aF is) c)=_
  rw [aS,AR];simp only [jq,Option.bind_eq_bind];cases wanted e g with
  |none=>rfl
  |some w=>
   cases w with
   |false=>
    show Dq call ai aF is (k+1) nx acc (wV e dst fF) h _=_
    simp only [Option.bind_some,ih,kG,Bool.false_eq_true,if_false];cases jq call ai aF (k+1) nx acc is (dO e dst fF) h<;>(rcases g with _|⟨t,w⟩<;>rfl)
   |true=>
    have Yq:isS ins=none->isV ins=false->mx2 true call ai aF ins dst g k nx acc e h (Dq call ai aF is) c=
      ((dP call ai (iI e) h (nx+k) ins).bind fun p=>(jq call ai aF (k+1) nx (acc++lJ (iI e) h ins) is (dO e dst p.1) (ah h p.2)).bind fun q=>some (q.1,q.2.1,q.2.2.1,
        (⟨(match g with|some (t,_)=>[t]|none=>[])++gQ (eY ins),dst.toList,lJ (iI e) h ins,p.2.map (·.1)⟩:Trace)::q.2.2.2)).bind fun p=>c p.1 p.2.1 p.2.2.1 (p.2.2.2.map tm):=fun h1 h2=>by
     show mx3 call ai aF ins dst g k nx acc e h (Dq call ai aF is) c=_
     unfold mx3;rw [h1,h2];show mx5 call ai ins dst g k nx acc e h (Dq call ai aF is) c=_
     unfold mx5;rw [aS,Qo,rM];cases dP call ai (iI e) h (nx+k) ins with
     |none=>rfl
     |some p=>
      obtain ⟨d,us⟩:=p;simp only [Option.bind_some,BU,ih,kG,fu,mxO,rM];cases jq call ai aF (k+1) nx (acc++lJ (iI e) h ins) is (dO e dst d) (ah h us)<;>(rcases g with _|⟨t,w⟩<;>rfl)
    cases ins with
    |cu f o xs=>
     show cond (Nat.beq o 2) (mx4 aF f xs dst g k nx acc e h (Dq call ai aF is) c) none=_
     simp only [Option.bind_some,if_true];rw [iW];by_cases ho:o=2
     ·subst ho;rw [if_pos rfl,if_pos rfl];unfold mx4;rw [aS,Ia,dw,rM];cases iA aF 2 f (xs.map (iI e)) h (nx+k) with
      |none=>rfl
      |some p=>
       obtain ⟨d,h',n⟩:=p;simp only [Option.bind_some,BU,pU,ih,kG];cases jq call ai aF (k+1) n acc is (dO e dst d) h' with
       |none=>rfl
       |some q=>
        simp only [Option.bind_some,List.map_cons];congr 2;unfold mxS tm;rw [Wp,ES,Yh];rcases g with _|⟨t,w⟩<;>rfl
     ·rw [if_neg ho,if_neg ho];rfl
    |dQ x xs=>rfl
    |_=>exact Yq rfl rfl
structure qZ where
 code:bC->St->Option (Ex×St)
 body:bn
 fn:Callee
 ai:fo
abbrev CH:=St->Option (Ex×St)
def V3 (x:Ex) (n:Option (Ex×St)) (e:Nat->Option (Ex×St)) (r:Option (Ex×St)):Option (Ex×St):=Ex.rec (motive:=fun _=>Option (Ex×St)) n e r x
def onP (o:Option (Ex×St)) (k:Ex->St->Option (Ex×St)):Option (Ex×St):=Option.rec (motive:=fun _=>Option (Ex×St)) none (fun p=>Prod.rec (motive:=fun _=>Option (Ex×St)) k p) o
def aei:CH:=fun s=>some (.ret,s)
def abp:CH:=fun s=>some (.normal,s)
def Zl (i:Nat):CH:=fun s=>some (.exit i,s)
def SA (r:qZ) (is:List aW):CH:=fun s=>omap (Pf r.fn r.body is s) fun s=>(.normal,s)
def aa4 (r:qZ) (is:List aW) (ws:List Nat):CH:=fun s=>St.rec (motive:=fun _=>Option (Ex×St)) (fun e h nx=>Ca r.fn r.ai nx is 0 e h fun e h b ts=>cond (I8 is nx ws b ts) (some (.normal,⟨e,h,nx+is.length⟩)) none) s
def aeA (r:qZ) (is:List aW) (ws:List Nat):CH:=fun s=>Dq r.fn r.ai r.body is 0 s.nx [] s.env s.heap fun e h n ts=>cond (lK ts [] ws) (some (.normal,⟨e,h,n⟩)) none
def X8 (r:qZ) (a b:bC):CH:=fun s=>onP (r.code a s) fun x s=>V3 x (r.code b s) (fun i=>some (.exit i,s)) (some (.ret,s))
def aaT (r:qZ) (c:X) (a b:bC):CH:=fun s=>Qk (xK s.env c) (fun t=>Bool.rec (motive:=fun _=>Option (Ex×St)) (r.code b s) (r.code a s) t) none
def Jm (r:qZ) (i:Nat) (c:bC):CH:=fun s=>onP (r.code c s) fun x s=>V3 x (some (.normal,s)) (fun j=>cond (Nat.beq j i) (some (.normal,s)) (some (.exit j,s))) (some (.ret,s))
def RL (r:qZ) (c:bC):CH:=fun s=>onP (r.code c s) fun x s=>V3 x (r.code (.loop c) s) (fun j=>some (.exit j,s)) (some (.ret,s))
def U0 (r:qZ) (c:bC):CH:=bC.rec (motive:=fun _=>CH) abp (SA r) (aa4 r) (aeA r) (fun a_ b_ _ _=>(X8 r) a_ b_) (fun c_ a_ b_ _ _=>(aaT r) c_ a_ b_) (fun i_ c_ _=>(Jm r) i_ c_) (fun c_ _=>(RL r) c_) Zl aei c
def abR (x:Ex) (k:Option α):Option α:=Ex.rec (motive:=fun _=>Option α) k (fun _=>none) k x
def ad7 (r:qZ) (I:uP):List D->Heap->Nat->Option (List D×Heap×Nat):=fun ds h k=>uP.rec (motive:=fun _=>Option (List D×Heap×Nat)) (fun np res body=>cond (Nat.beq (jI ds) np)
 (ob (r.code body ⟨dZ 0 ds,h,k⟩) fun p=>Prod.rec (motive:=fun _=>Option (List D×Heap×Nat)) (fun x s=>abR x (ob (oG s.env s.heap res) fun rs=>some (rs,s.heap,s.nx))) p) none) I
def VJ (F:nD) (r:qZ):bn:=fun f ds h k=>Option.rec (motive:=fun _=>Option (List D×Heap×Nat)) (ob (F.code f) fun I=>ad7 r I ds h k) (fun b=>b ds h k) (F.EX f)
def fnK (F:nD) (r:qZ):Callee:=fun f vs=>Option.rec (motive:=fun _=>Option (List V)) (ob (r.body f (iP V.fM vs) [] 0) fun p=>ob (wN p.1 p.2.1) fun q=>some q.1) some (F.nat f vs)
def Zo (r:qZ):fo:=fun f ax bs=>ob (r.body f (iP lvD ax) (bxF bs 0) (jI bs)) fun p=>ob (wN p.1 p.2.1) fun q=>ob (baF (jI bs) 0 (nL q.2 p.2.1)) fun b=>some (q.1,b.1)
def runs (F:nD) (n:Nat):qZ:=Nat.rec (motive:=fun _=>qZ) ⟨fun _ _=>none,fun _ _ _ _=>none,fun _ _=>none,fun _ _ _=>none⟩ (fun _ r=>⟨U0 r,VJ F r,fnK F r,Zo r⟩) n
theorem JD (o:Option (Ex×St)) (k:Ex->St->Option (Ex×St)):onP o k=o.bind fun p=>k p.1 p.2:=by cases o<;>rfl
theorem L9 (F:nD):∀n:Nat,runs F n=⟨aI F n,bQ F n,fQ F n,cK F n⟩
 |0=>by
  have e1:(fun (_:bC) (_:St)=>(none:Option (Ex×St)))=aI F 0:=by funext c s;simp only [aI]
  have e2:(fun (_:Nat) (_:List D) (_:Heap) (_:Nat)=>(none:Option (List D×Heap×Nat)))=bQ F 0:=by funext f ds h k;simp only [bQ]
  have e3:(fun (_:Nat) (_:List V)=>(none:Option (List V)))=fQ F 0:=by funext f vs;simp only [fQ]
  have e4:(fun (_:Nat) (_:List LV) (_:List (List C))=>(none:Option (List V×List (List C))))=cK F 0:=by funext f x y;simp only [cK]
  exact congr (congr (congr (congrArg qZ.mk e1) e2) e3) e4
 |n+1=>by
  have ih:=L9 F n;show (⟨U0 (runs F n),VJ F (runs F n),fnK F (runs F n),Zo (runs F n)⟩:qZ)=_
  rw [ih];congr
  ·funext c s;unfold aI;cases c with
   |skip=>rfl
   |exit i=>rfl
   |ret=>rfl
   |region is=>
    show omap (Pf _ _ is s) _=_
    rw [qY,K5];simp only [Option.bind_eq_bind];cases dR (fQ F n) (bQ F n) is s<;>rfl
   |draw is ws=>
    obtain ⟨e,h,nx⟩:=s;show Ca (fQ F n) (cK F n) nx is 0 e h _=_
    rw [Fy];simp only [Option.bind_eq_bind];cases hp:bZ (fQ F n) (cK F n) nx 0 is e h with
    |none=>rfl
    |some p=>
     have hc:=Xe hp ws;obtain ⟨e',h',ts⟩:=p;show cond (I8 is nx ws (Ab ts) (ts.map tm)) _ none=if iD ts ws=true then _ else none
     rw [Ue,hc];cases iD ts ws<;>rfl
   |mix is ws=>
    show Dq (fQ F n) (cK F n) (bQ F n) is 0 s.nx [] s.env s.heap _=_
    rw [Ls];simp only [Option.bind_eq_bind];congr 1;funext p;obtain ⟨e',h',nx',ts⟩:=p;have:=Bh ts [] ws
    simp only [List.map_nil] at this;show cond (lK (ts.map tm) [] ws) _ none=if iD ts ws=true then _ else none
    rw [this];unfold iD;cases dL [] ts ws<;>rfl
   |seq a b=>
    show X8 _ a b s=_
    unfold X8;rw [JD];simp only [Option.bind_eq_bind];congr 1;funext p;obtain ⟨x,s'⟩:=p;cases x<;>rfl
   |cond c a b=>
    show Qk (xK s.env c) _ none=_
    rw [Lv,rM];simp only [Option.bind_eq_bind];congr 1;funext t;cases t<;>rfl
   |block i c=>
    show Jm _ i c s=_
    unfold Jm;rw [JD];simp only [Option.bind_eq_bind];congr 1;funext p;obtain ⟨x,s'⟩:=p;cases x with
    |exit j=>show cond (Nat.beq j i) _ _=_;rw [iW]
    |_=>rfl
   |loop c=>
    show RL _ c s=_
    unfold RL;rw [JD];simp only [Option.bind_eq_bind];congr 1;funext p;obtain ⟨x,s'⟩:=p;cases x<;>rfl
  ·funext f ds h k;unfold bQ;show Option.rec (motive:=fun _=>Option (List D×Heap×Nat)) _ _ (F.EX f)=_
   cases F.EX f with
   |some b=>rfl
   |none=>
    show ob (F.code f) _=_
    rw [aS];simp only [Option.bind_eq_bind];congr 1;funext I;obtain ⟨np,res,body⟩:=I;show cond (Nat.beq (jI ds) np) (ob _ _) none=_
    rw [iW,aS,bK];congr 1;congr 1;funext p;obtain ⟨x,s'⟩:=p;cases x with
    |exit j=>rfl
    |_=>exact aS _ _
  ·funext f vs;unfold fQ;show Option.rec (motive:=fun _=>Option (List V)) _ _ (F.nat f vs)=_
   cases F.nat f vs with
   |some rs=>rfl
   |none=>
    show ob _ _=_
    rw [aS,dw];simp only [Option.bind_eq_bind];congr 1;funext p;rw [aS,nG]
  ·funext f a b;unfold cK;show ob _ _=_
   rw [aS,dw,QY,bK,XN];simp only [Option.bind_eq_bind];congr 1;funext p;show ob _ _=_
   rw [aS,nG];congr 1;funext q;show ob _ _=_
   rw [aS,fu,Pe]
theorem aak (F:nD) (n f:Nat) (vs:List V):(runs F n).fn f vs=fQ F n f vs:=by rw [L9]
end
end Go.Ey.Fe
