/- A part. -/
import Derived.Test.YtolnnaanmfnkjaaGreatDoorY11
set_option linter.all false
namespace Go.Ey
def strOf:Nat->Nat->List UInt8
 |0,_=>[]
 |l+1,w=>UInt8.ofNat (w % 256)::strOf l (w / 256)
def nD:List UInt8->Nat
 |[]=>0
 |x::xs=>x.toNat+256 * nD xs
theorem Ak:∀l w,(strOf l w).length=l
 |0,_=>rfl
 |l+1,w=>by simp [strOf,Ak l]
theorem MW:∀xs:List UInt8,nD xs < 256 ^ xs.length
 |[]=>by simp [nD]
 |x::xs=>by have h1:=MW xs;have h2:=x.toNat_lt;simp only [nD,Bm,Nd];omega
theorem Bh:∀xs:List UInt8,strOf xs.length (nD xs)=xs
 |[]=>rfl
 |x::xs=>by
  have h2:=x.toNat_lt;simp only [Bm,strOf,nD];rw [show (x.toNat+256 * nD xs) % 256=x.toNat by omega,show (x.toNat+256 * nD xs) / 256=nD xs by omega,Bh xs]
  simp
theorem HY:∀l w,w < 256 ^ l->nD (strOf l w)=w
 |0,w,h=>by simp at h;subst h;rfl
 |l+1,w,h=>by
  rw [Nd] at h;have h1:w / 256 < 256 ^ l:=by omega
  simp only [strOf,nD,HY l _ h1];have:(UInt8.ofNat (w % 256)).toNat=w % 256:=by simp
  omega
mutual
inductive RK:K->C->Prop
 |i (k n):RK (.i k n) (.lit (.int k n))
 |b (x):RK (.b x) (.lit (.bool x))
 |s (len w) (b:ByteArray) (hb:b.data.toList=strOf len w) (hw:w < 256 ^ len):RK (.s len w) (.lit (.string b))
 |o (v):RK (.o v) (.lit v)
 |sl (ay rev n cs) (h:nQ ay rev cs) (hn:rev.length=n):RK (.sl ay rev n) (.slice cs n)
inductive lU:List K->List C->Prop
 |nil:lU [] []
 |cons {x c xs cs}:RK x c->lU xs cs->lU (x::xs) (c::cs)
inductive nQ:Nat->List (List K)->List C->Prop
 |nil {ay}:nQ ay [] []
 |cons {ay row r rev cs}:lU row r->row.length=ay->nQ ay rev cs->nQ ay (row::rev) (cs++r)
end
def RKW:KW->W->Prop
 |.c x,.c c=>RK x c
 |.l n xs,.l cs=>lU xs cs/\xs.length=n
 |_,_=>False
def RE (ρ:List KW) (ρ':List W):Prop:=aF RKW ρ ρ'.reverse
theorem RE.nil:RE [] []:=trivial
theorem RE.push {ρ:List KW} {ρ':List W} (h:RE ρ ρ') {w:KW} {w':W} (hw:RKW w w'):RE (w::ρ) (ρ'++[w']):=by unfold RE;rw [List.reverse_append];exact ⟨hw,h⟩
theorem RE.len {ρ:List KW} {ρ':List W} (h:RE ρ ρ'):ρ.length=ρ'.length:=by
 have:=aF.len h
 simpa using this
theorem V4:∀(ρ:List W) (i:Nat),jm ρ i=ρ[i]?
 |[],_=>rfl
 |_::_,0=>rfl
 |_::r,i+1=>by simp [jm,V4 r i]
theorem RE.get {ρ:List KW} {ρ':List W} (h:RE ρ ρ') {i:Nat} (hi:i < ρ'.length) {w:KW} (hw:ρ[ρ'.length - 1 - i]?=some w):∃w',jm ρ' i=some w'/\RKW w w':=by
 obtain ⟨w',h1,h2⟩:=aF.get _ h hw;refine ⟨w',?_,h2⟩;rw [V4];rw [List.getElem?_reverse (by omega)] at h1
 rw [<-h1];congr 1;omega
theorem lU.len {xs:List K} {cs:List C} (h:lU xs cs):xs.length=cs.length:=by
 induction xs generalizing cs with
 |nil=>cases h;rfl
 |cons x xs ih=>cases h with|cons h1 h2=>simp [ih h2]
theorem lU.nth {xs:List K} {cs:List C} (h:lU xs cs) {j:Nat} {x:K} (hj:xs[j]?=some x):RK x (au cs j):=by
 induction xs generalizing cs j with
 |nil=>simp at hj
 |cons y xs ih=>
  cases h with
  |cons h1 h2=>
   cases j with
   |zero=>simp only [D2,A0] at hj;subst hj;exact h1
   |succ j=>exact ih h2 (by simpa using hj)
def aik:Value->K
 |.int k n=> .i k n
 |.bool b=> .b b
 |.string s=> .s s.data.toList.length (nD s.data.toList)
 |v=> .o v
theorem aag (v:Value):RK (aik v) (.lit v):=by
 cases v<;>first|exact .i _ _|exact .b _|exact .o _|skip
 rename_i s;exact .s _ _ s (Bh _).symm (MW _)
def cI (n i:Nat):Nat:=if i < n then n - 1 - i else n
def cA (n:Nat):At->KA
 |.v i=> .v (cI n i)
 |.n i j=> .n (cI n i) j
 |.k v=> .k (aik v)
 |.z=> .k (.sl 0 [] 0)
section
variable {a:bN} {ρ:List KW} {ρ':List W}
theorem MZ {k:KW->bN}:∀{l:List KW} {i:Nat},U4 l i k=a->a≠.fail->∃w,l[i]?=some w/\k w=a
 |[],i,h,ha=>absurd h.symm ha
 |w::l,0,h,ha=>⟨w,rfl,h⟩
 |w::l,i+1,h,ha=>by obtain ⟨w',h1,h2⟩:=MZ (l:=l) (i:=i) h ha;exact ⟨w',by simpa using h1,h2⟩
theorem Z0 {k:K->bN}:∀{l:List K} {i:Nat},aiW l i k=a->a≠.fail->∃w,l[i]?=some w/\k w=a
 |[],i,h,ha=>absurd h.symm ha
 |w::l,0,h,ha=>⟨w,rfl,h⟩
 |w::l,i+1,h,ha=>by obtain ⟨w',h1,h2⟩:=Z0 (l:=l) (i:=i) h ha;exact ⟨w',by simpa using h1,h2⟩
theorem YT (h:RE ρ ρ') {i:Nat} {w:KW} (hw:ρ[cI ρ'.length i]?=some w):∃w',jm ρ' i=some w'/\RKW w w':=by
 unfold cI at hw;split at hw
 ·rename_i hi;exact h.get hi hw
 ·rw [Hj (by rw [h.len];exact B9 _)] at hw;cases hw
theorem Am (h:RE ρ ρ') {x:At} {k:K->bN} (hk:kA ρ (cA ρ'.length x) k=a) (ha:a≠.fail):∃y c,RK y c/\dW ρ' x=some c/\k y=a:=by
 cases x with
 |v i=>
  obtain ⟨w,h1,h2⟩:=MZ (show U4 ρ (cI ρ'.length i) (fun w=>onC w k)=a from hk) ha
  obtain ⟨w',h3,h4⟩:=YT h h1;cases w with
  |c y=>cases w' with
   |c c=>exact ⟨y,c,h4,by simp [dW,h3],h2⟩
   |l _=>exact h4.elim
  |l _ _=>exact absurd h2.symm ha
 |n i j=>
  obtain ⟨w,h1,h2⟩:=MZ (show U4 ρ (cI ρ'.length i) (fun w=>onL w fun _ xs=>aiW xs j k)=a from hk) ha
  obtain ⟨w',h3,h4⟩:=YT h h1;cases w with
  |c y=>exact absurd h2.symm ha
  |l m xs=>cases w' with
   |c c=>exact h4.elim
   |l cs=>
    obtain ⟨y,h5,h6⟩:=Z0 (show aiW xs j k=a from h2) ha
    exact ⟨y,au cs j,h4.1.nth h5,by simp [dW,h3],h6⟩
 |k v=>exact ⟨aik v,.lit v,aag v,rfl,hk⟩
 |z=>exact ⟨.sl 0 [] 0,.slice [] 0,.sl 0 [] 0 [] .nil rfl,rfl,hk⟩
theorem TZ (h:RE ρ ρ'):∀{l:List At} {k:List K->bN},kAs ρ (l.map (cA ρ'.length)) k=a->a≠.fail->∃ys cs,lU ys cs/\ys.length=l.length/\nI ρ' l=some cs/\k ys=a
 |[],k,hk,ha=>⟨[],[],.nil,rfl,rfl,hk⟩
 |x::l,k,hk,ha=>by
  obtain ⟨y,c,h1,h2,h3⟩:=Am h (show kA ρ (cA ρ'.length x) (fun x=>kAs ρ (l.map (cA ρ'.length)) fun xs=>k (x::xs))=a from hk) ha
  obtain ⟨ys,cs,h4,h7,h5,h6⟩:=TZ h (l:=l) h3 ha;exact ⟨y::ys,c::cs,.cons h1 h4,by simp [h7],by simp [nI,h2,h5],h6⟩
def cS (n:Nat):SL->KS
 |.lit aY=> .lit aY.length (aY.map (cA n))
 |.all i=> .all (cI n i)
theorem Vt (h:RE ρ ρ') {s:SL} {k:Nat->List K->bN} (hk:kS ρ (cS ρ'.length s) k=a) (ha:a≠.fail):∃n ys cs,lU ys cs/\ys.length=n/\TF ρ' s=some cs/\k n ys=a:=by
 cases s with
 |lit aY=>
  obtain ⟨ys,cs,h1,h2,h3,h4⟩:=TZ h (show kAs ρ (aY.map (cA ρ'.length)) (fun xs=>k aY.length xs)=a from hk) ha
  exact ⟨aY.length,ys,cs,h1,h2,h3,h4⟩
 |all i=>
  obtain ⟨w,h1,h2⟩:=MZ (show U4 ρ (cI ρ'.length i) (fun w=>onL w k)=a from hk) ha
  obtain ⟨w',h3,h4⟩:=YT h h1;cases w with
  |c y=>exact absurd h2.symm ha
  |l m xs=>cases w' with
   |c c=>exact h4.elim
   |l cs=>exact ⟨m,xs,cs,h4.1,h4.2,by simp [TF,h3],h2⟩
def RB:KW->List C->Prop
 |.l n xs,cs=>lU xs cs/\xs.length=n
 |.c _,_=>False
def Uw:KW->V->Prop
 |.c x,.one c=>RK x c
 |.l n xs,.agg cs=>lU xs cs/\xs.length=n
 |_,_=>False
theorem XM (h:RE ρ ρ'):∀{l:List SL} {k:List KW->bN},kSs ρ (l.map (cS ρ'.length)) k=a->a≠.fail->∃ys css,aF RB ys css/\FL ρ' l=some css/\k ys=a
 |[],k,hk,ha=>⟨[],[],trivial,rfl,hk⟩
 |s::l,k,hk,ha=>by
  obtain ⟨n,ys,cs,h1,h2,h3,h4⟩:=Vt h (show kS ρ (cS ρ'.length s) (fun n x=>kSs ρ (l.map (cS ρ'.length)) fun xs=>k (.l n x::xs))=a from hk) ha
  obtain ⟨zs,css,h5,h6,h7⟩:=XM h (l:=l) h4 ha;exact ⟨.l n ys::zs,cs::css,⟨⟨h1,h2⟩,h5⟩,by simp [FL,h3,h6],h7⟩
def cV (n:Nat):TV->KV
 |.one x=> .one (cA n x)
 |.agg s=> .agg (cS n s)
theorem ajq (h:RE ρ ρ') {v:TV} {k:KW->bN} (hk:kV ρ (cV ρ'.length v) k=a) (ha:a≠.fail):∃y u,Uw y u/\Wn ρ' v=some u/\k y=a:=by
 cases v with
 |one x=>
  obtain ⟨y,c,h1,h2,h3⟩:=Am h (show kA ρ (cA ρ'.length x) (fun x=>k (.c x))=a from hk) ha
  exact ⟨.c y,.one c,h1,by simp [Wn,h2],h3⟩
 |agg s=>
  obtain ⟨n,ys,cs,h1,h2,h3,h4⟩:=Vt h (show kS ρ (cS ρ'.length s) (fun n xs=>k (.l n xs))=a from hk) ha
  exact ⟨.l n ys,.agg cs,⟨h1,h2⟩,by simp [Wn,h3],h4⟩
theorem ac6 (h:RE ρ ρ'):∀{l:List TV} {k:List KW->bN},kVs ρ (l.map (cV ρ'.length)) k=a->a≠.fail->∃ys us,aF Uw ys us/\Es ρ' l=some us/\k ys=a
 |[],k,hk,ha=>⟨[],[],trivial,rfl,hk⟩
 |v::l,k,hk,ha=>by
  obtain ⟨y,u,h1,h2,h3⟩:=ajq h (show kV ρ (cV ρ'.length v) (fun x=>kVs ρ (l.map (cV ρ'.length)) fun xs=>k (x::xs))=a from hk) ha
  obtain ⟨zs,us,h5,h6,h7⟩:=ac6 h (l:=l) h3 ha;exact ⟨y::zs,u::us,⟨h1,h5⟩,by simp [Es,h2,h6],h7⟩
def cTA (n:Nat):List TA->List KV
 |[]=>[]
 |.v x::l=>cV n x::cTA n l
 |.ref _ _::l=>cTA n l
def RLs:List TA->List KW->List LA->Prop
 |[],[],[]=>True
 |.v _::ts,y::ys,.v u::us=>Uw y u/\RLs ts ys us
 |.ref b off::ts,ys,.ref b' off'::us=>b'=b/\off'=off/\RLs ts ys us
 |_,_,_=>False
theorem Ud (h:RE ρ ρ'):∀{l:List TA} {k:List KW->bN},kVs ρ (cTA ρ'.length l) k=a->a≠.fail->∃ys us,RLs l ys us/\wC ρ' l=some us/\k ys=a
 |[],k,hk,ha=>⟨[],[],trivial,rfl,hk⟩
 |.v v::l,k,hk,ha=>by
  obtain ⟨y,u,h1,h2,h3⟩:=ajq h (show kV ρ (cV ρ'.length v) (fun x=>kVs ρ (cTA ρ'.length l) fun xs=>k (x::xs))=a from hk) ha
  obtain ⟨zs,us,h5,h6,h7⟩:=Ud h (l:=l) h3 ha;exact ⟨y::zs,.v u::us,⟨h1,h5⟩,by simp [wC,YX,h2,h6],h7⟩
 |.ref b off::l,k,hk,ha=>by
  obtain ⟨zs,us,h5,h6,h7⟩:=Ud h (l:=l) (show kVs ρ (cTA ρ'.length l) k=a from hk) ha
  exact ⟨zs,.ref b off::us,⟨rfl,rfl,h5⟩,by simp [wC,YX,h6],h7⟩
def cTW (n:Nat):TW->KV
 |.c x=> .one (cA n x)
 |.l s=> .agg (cS n s)
theorem afE (h:RE ρ ρ'):∀{l:List TW} {acc:List KW} {acc':List W} {k:List KW->bN},RE acc acc'->kPs ρ (l.map (cTW ρ'.length)) acc k=a->a≠.fail->∃ws ws',RE ws (acc'++ws')/\iA ρ' l=some ws'/\k ws=a
 |[],acc,acc',k,hacc,hk,ha=>⟨acc,[],by rw [D0];exact hacc,rfl,hk⟩
 |w::l,acc,acc',k,hacc,hk,ha=>by
  have hw:∃y u,RKW y u/\twD ρ' w=some u/\kPs ρ (l.map (cTW ρ'.length)) (y::acc) k=a:=by
   cases w with
   |c x=>
    obtain ⟨y,c,h1,h2,h3⟩:=Am h (show kA ρ (cA ρ'.length x) (fun x=>kPs ρ (l.map (cTW ρ'.length)) (.c x::acc) k)=a from hk) ha
    exact ⟨.c y,.c c,h1,by simp [twD,h2],h3⟩
   |l s=>
    obtain ⟨n,ys,cs,h1,h2,h3,h4⟩:=Vt h (show kS ρ (cS ρ'.length s) (fun n xs=>kPs ρ (l.map (cTW ρ'.length)) (.l n xs::acc) k)=a from hk) ha
    exact ⟨.l n ys,.l cs,⟨h1,h2⟩,by simp [twD,h3],h4⟩
  obtain ⟨y,u,h1,h2,h3⟩:=hw;obtain ⟨ws,ws',h4,h5,h6⟩:=afE h (l:=l) (hacc.push h1) h3 ha;exact ⟨ws,u::ws',by rw [Bk] at h4;exact h4,by simp [iA,h2,h5],h6⟩
end
end Go.Ey
namespace Go.Ey
theorem aaM (b:ByteArray):∀(n i:Nat) (r:List UInt8),b.size - i=n->ByteArray.toList.loop b i r=r.reverse++b.data.toList.drop i
 |0,i,r,h=>by
  have hs:b.data.toList.length=b.size:=rfl;rw [ByteArray.toList.loop,Dd (by omega),List.drop_eq_nil_of_le (by omega)]
  simp
 |n+1,i,r,h=>by
  have hs:b.data.toList.length=b.size:=rfl;have hi:i < b.data.toList.length:=by omega
  rw [ByteArray.toList.loop,C4 (by omega),aaM b n (i+1) (b.get! i::r) (by omega),Gk hi]
  have:b.get! i=b.data.toList[i]:=by have h1:b.get! i=b.data[i]!:=rfl;rw [h1,getElem!_pos b.data i (by rw [Array.length_toList] at hi;exact hi),Array.getElem_toList]
  simp [this]
theorem MM (b:ByteArray):b.toList=b.data.toList:=by unfold ByteArray.toList;rw [aaM _ _ 0 [] rfl];simp
section
variable {a:bN} {ρ:List KW} {ρ':List W}
theorem jZ (n:Nat) (k:Nat->bN):kL n k=k n:=by cases n<;>rfl
theorem Ru (n:Int) (k:Int->bN):YM n k=k n:=by
 cases n with
 |ofNat m=>exact jZ m fun m=>k (.ofNat m)
 |negSucc m=>exact jZ m fun m=>k (.negSucc m)
theorem abQ (b:Bool) (k:Bool->bN):acK b k=k b:=by cases b<;>rfl
theorem vw {α:Type}:∀(l:List α) (k:List α->bN),BZ l k=k l
 |[],_=>rfl
 |x::l,k=>vw l fun r=>k (x::r)
theorem dP {b:Bool} {x:bN} (h:(cond b x .fail)=a) (ha:a≠.fail):b=true/\x=a:=by
 cases b
 ·exact absurd h.symm ha
 ·exact ⟨rfl,h⟩
theorem CJ {b:Bool} {x:bN} (h:(cond b .fail x)=a) (ha:a≠.fail):b=false/\x=a:=by
 cases b
 ·exact ⟨rfl,h⟩
 ·exact absurd h.symm ha
theorem qN {x:K} {k:IntKind->Int->bN} (h:TK x k=a) (ha:a≠.fail):∃p n,x=.i p n/\k p n=a:=by cases x<;>first|exact ⟨_,_,rfl,h⟩|exact absurd h.symm ha
theorem Zf {x:K} {k:Bool->bN} (h:onB x k=a) (ha:a≠.fail):∃p,x=.b p/\k p=a:=by cases x<;>first|exact ⟨_,rfl,h⟩|exact absurd h.symm ha
theorem Oq {x:K} {k:Nat->Nat->bN} (h:onS x k=a) (ha:a≠.fail):∃l w,x=.s l w/\k l w=a:=by cases x<;>first|exact ⟨_,_,rfl,h⟩|exact absurd h.symm ha
theorem Jc {x:K} {k:Nat->List (List K)->Nat->bN} (h:ab5 x k=a) (ha:a≠.fail):∃e r n,x=.sl e r n/\k e r n=a:=by cases x<;>first|exact ⟨_,_,_,rfl,h⟩|exact absurd h.symm ha
theorem BU {n:Int} {k:Nat->bN} (h:XG n k=a) (ha:a≠.fail):∃m:Nat,n=(m:Int)/\k m=a:=by
 cases n with
 |ofNat m=>exact ⟨m,rfl,h⟩
 |negSucc m=>exact absurd h.symm ha
theorem ad9 {p q:IntKind} (h:Nat.beq (kk p) (kk q)=true):p=q:=by cases p<;>cases q<;>first|rfl|exact absurd h (by decide)
theorem Df {x y:K} {k:IntKind->Int->Int->bN} (h:CX x y k=a) (ha:a≠.fail):∃p n m,x=.i p n/\y=.i p m/\k p n m=a:=by
 obtain ⟨p,n,h1,h2⟩:=qN h ha;obtain ⟨q,m,h3,h4⟩:=qN h2 ha;obtain ⟨h5,h6⟩:=dP h4 ha;have:=ad9 h5
 subst this;exact ⟨p,n,m,h1,h3,h6⟩
theorem Dm (n m:Int):XH n m=(n==m):=by rw [Hx];cases n<;>cases m<;>simp [XH,Nat.beq_eq]<;>omega
theorem Kr (n m:Int):klt n m=decide (n < m):=by rw [Hx];cases n<;>cases m<;>simp [klt,N2]<;>omega
theorem acH (q:Int) (h1:0 < q) (h2:q<=9223372036854775808):IntKind.i64.wrap (-q)=-q:=by
 have h3:(-q) % 2 ^ 64=-q+18446744073709551616:=by omega
 simp only [IntKind.wrap,IntKind.bits,h3];rw [C4 (by simp [IntKind.signed];omega)]
 omega
theorem abu (m:Nat):(cond (Nat.ble m 9223372036854775807) (Int.negSucc m) (IntKind.i64.wrap (Int.negSucc m)))=IntKind.i64.wrap (Int.negSucc m):=by
 by_cases h:m<=9223372036854775807
 ·rw [show Nat.ble m 9223372036854775807=true from by rw [N2];exact h,Fi,Int.negSucc_eq,acH _ (by omega) (by omega)]
 ·rw [show Nat.ble m 9223372036854775807=false from by rw [Bool.eq_false_iff];intro e;rw [N2] at e;exact h e,E4]
theorem aga (k:IntKind) (n:Int):afk k n=k.wrap n:=by
 unfold afk;split
 ·rename_i m;cases h:Nat.ble m 9223372036854775807 with
  |false=>rfl
  |true=>
   rw [N2] at h;have h2:(Int.ofNat m) % 2 ^ 64=(Int.ofNat m):=by simp only [Int.ofNat_eq_natCast];omega
   simp only [Fi,IntKind.wrap,IntKind.bits,h2];rw [Dd (by simp [IntKind.signed];omega)]
 ·rename_i m;cases h:Nat.ble m 255 with
  |false=>rfl
  |true=>
   rw [N2] at h;have h2:(Int.ofNat m) % 2 ^ 8=(Int.ofNat m):=by simp only [Int.ofNat_eq_natCast];omega
   simp only [Fi,IntKind.wrap,IntKind.bits,h2];rw [Dd (by simp [IntKind.signed])]
 ·exact abu _
 ·rfl
end
end Go.Ey
namespace Go.Ey
section
variable {a:bN} {ρ:List KW} {ρ':List W}
theorem RK.int {p:IntKind} {n:Int} {c:C} (h:RK (.i p n) c):c=.lit (.int p n):=by cases h;rfl
theorem RK.bool {x:Bool} {c:C} (h:RK (.b x) c):c=.lit (.bool x):=by cases h;rfl
theorem RK.str {l w:Nat} {c:C} (h:RK (.s l w) c):∃b:ByteArray,c=.lit (.string b)/\b.data.toList=strOf l w/\w < 256 ^ l:=by
 cases h with
 |s _ _ b hb hw=>exact ⟨b,rfl,hb,hw⟩
theorem RK.sli {e n:Nat} {r:List (List K)} {c:C} (h:RK (.sl e r n) c):∃cs,c=.slice cs n/\nQ e r cs/\r.length=n:=by
 cases h with
 |sl _ _ _ cs h hn=>exact ⟨cs,rfl,h,hn⟩
theorem two (h:RE ρ ρ') {x y:At} {f:K->K->bN} (hk:(kA ρ (cA ρ'.length x) fun u=>kA ρ (cA ρ'.length y) fun v=>f u v)=a) (ha:a≠.fail):
  ∃u v c d,RK u c/\RK v d/\dW ρ' x=some c/\dW ρ' y=some d/\f u v=a:=by
 obtain ⟨u,c,h1,h2,h3⟩:=Am h hk ha;obtain ⟨v,d,h4,h5,h6⟩:=Am h h3 ha;exact ⟨u,v,c,d,h1,h4,h2,h5,h6⟩
theorem KJ (k:IntKind) (n:Int) (r:K->bN):kIn k n r=r (.i k (k.wrap n)):=by unfold kIn;rw [Ru,aga]
theorem ET (b:Bool) (r:K->bN):Q4 b r=r (.b b):=abQ b _
theorem abA {l w m v:Nat} (hw:w < 256 ^ l) (hv:v < 256 ^ m):(strOf l w=strOf m v)↔(l=m/\w=v):=by
 constructor
 ·intro h;have h1:l=m:=by have:=F0 List.length h;rwa [Ak,Ak] at this
  subst h1;refine ⟨rfl,?_⟩;have:=F0 nD h
  rwa [HY _ _ hw,HY _ _ hv] at this
 ·rintro ⟨rfl,rfl⟩;rfl
theorem TB {l w m v:Nat} {b d:ByteArray} (hb:b.data.toList=strOf l w) (hw:w < 256 ^ l) (hd:d.data.toList=strOf m v) (hv:v < 256 ^ m):(b.toList==d.toList)=(Nat.beq l m && Nat.beq w v):=by rw [Hx,Lw,MM,MM,hb,hd,abA hw hv];simp [Nat.beq_eq]
abbrev JU (a:bN) (ρ':List W) (o:OpC) (k:K->bN):Prop:=∃y c,RK y c/\eF ρ' o=some c/\k y=a
theorem ints {op:BinOp} {x y:At} {k:K->bN} {g:IntKind->Int->Int->bN} (hs:jr op=false) (h:RE ρ ρ') (hk:(kA ρ (cA ρ'.length x) fun u=>kA ρ (cA ρ'.length y) fun v=>CX u v g)=a) (ha:a≠.fail)
  (hg:∀p n m,g p n m=a->∃z v,RK z (.lit v)/\lQ op p n m=some v/\k z=a):JU a ρ' (.bin op false x y) k:=by
 obtain ⟨u,v,c,d,h1,h2,h3,h4,h5⟩:=two h hk ha;obtain ⟨p,n,m,rfl,rfl,h6⟩:=Df h5 ha;rw [h1.int] at h3;rw [h2.int] at h4;obtain ⟨z,w,h7,h8,h9⟩:=hg p n m h6;exact ⟨z,.lit w,h7,by simp [eF,h3,h4,cZ,wR,hs,h8],h9⟩
theorem alB (h:RE ρ ρ') {x y:At} {k:K->bN} (hk:am2 (cA ρ'.length x) (cA ρ'.length y) ρ k=a) (ha:a≠.fail):JU a ρ' (.bin .sub false x y) k:=
 ints rfl h hk ha fun p n m hg=>⟨_,_,.i _ _,rfl,by rw [<-hg,KJ]⟩
theorem amQ (h:RE ρ ρ') {x y:At} {k:K->bN} (hk:apb (cA ρ'.length x) (cA ρ'.length y) ρ k=a) (ha:a≠.fail):JU a ρ' (.bin .mul false x y) k:=
 ints rfl h hk ha fun p n m hg=>⟨_,_,.i _ _,rfl,by rw [<-hg,KJ]⟩
theorem alI (h:RE ρ ρ') {x y:At} {k:K->bN} (hk:aqf (cA ρ'.length x) (cA ρ'.length y) ρ k=a) (ha:a≠.fail):JU a ρ' (.bin .quo false x y) k:=
 ints rfl h hk ha fun p n m hg=>by obtain ⟨h1,h2⟩:=CJ hg ha;rw [Dm] at h1;exact ⟨_,_,.i _ _,by simp only [lQ];rw [Dd (by simpa using h1)],by rw [<-h2,KJ]⟩
theorem akh (h:RE ρ ρ') {x y:At} {k:K->bN} (hk:apq (cA ρ'.length x) (cA ρ'.length y) ρ k=a) (ha:a≠.fail):JU a ρ' (.bin .rem false x y) k:=
 ints rfl h hk ha fun p n m hg=>by obtain ⟨h1,h2⟩:=CJ hg ha;rw [Dm] at h1;exact ⟨_,_,.i _ _,by simp only [lQ];rw [Dd (by simpa using h1)],by rw [<-h2,Ru]⟩
theorem akZ (h:RE ρ ρ') {x y:At} {k:K->bN} (hk:aqa (cA ρ'.length x) (cA ρ'.length y) ρ k=a) (ha:a≠.fail):JU a ρ' (.bin .lss false x y) k:=
 ints rfl h hk ha fun p n m hg=>⟨_,_,.b _,rfl,by rw [<-hg,ET,Kr]⟩
theorem alW (h:RE ρ ρ') {x y:At} {k:K->bN} (hk:ant (cA ρ'.length x) (cA ρ'.length y) ρ k=a) (ha:a≠.fail):JU a ρ' (.bin .gtr false x y) k:=
 ints rfl h hk ha fun p n m hg=>⟨_,_,.b _,rfl,by rw [<-hg,ET,Kr]⟩
theorem akp (h:RE ρ ρ') {x y:At} {k:K->bN} (hk:apv (cA ρ'.length x) (cA ρ'.length y) ρ k=a) (ha:a≠.fail):JU a ρ' (.bin .leq false x y) k:=
 ints rfl h hk ha fun p n m hg=>⟨_,_,.b _,rfl,by rw [<-hg,ET,Kr];congr 2;rw [Hx];simp⟩
theorem alT (h:RE ρ ρ') {x y:At} {k:K->bN} (hk:ap1 (cA ρ'.length x) (cA ρ'.length y) ρ k=a) (ha:a≠.fail):JU a ρ' (.bin .geq false x y) k:=
 ints rfl h hk ha fun p n m hg=>⟨_,_,.b _,rfl,by rw [<-hg,ET,Kr];congr 2;rw [Hx];simp⟩
theorem adK {u v:K} {c d:C} (hu:RK u c) (hv:RK v d) {g:Bool->bN} (hk:Qj u v g=a) (ha:a≠.fail):
  ∃q,g q=a/\cZ .eql false c d=some (.lit (.bool q))/\cZ .neq false c d=some (.lit (.bool (!q))):=by
 cases u with
 |i p n=>
  obtain ⟨p',n',m,h1,rfl,h2⟩:=Df (show CX (.i p n) v (fun _ n m=>g (XH n m))=a from hk) ha
  injection h1 with e1 e2;subst e1 e2;rw [hu.int,hv.int];refine ⟨_,h2,?_,?_⟩
  ·simp [cZ,wR,jr,lQ,Dm]
  ·simp [cZ,wR,jr,lQ,Dm,bne]
 |s l w=>
  obtain ⟨m,x,rfl,h2⟩:=Oq (show onS v (fun m x=>g (and (Nat.beq l m) (Nat.beq w x)))=a from hk) ha
  obtain ⟨b,rfl,hb,hw⟩:=hu.str;obtain ⟨d',rfl,hd,hx⟩:=hv.str;refine ⟨_,h2,?_,?_⟩
  ·simp only [cZ,wR,Fz];rw [TB hb hw hd hx];rfl
  ·simp only [cZ,wR,Fz];rw [TB hb hw hd hx];rfl
 |b _=>exact absurd hk.symm ha
 |sl _ _ _=>exact absurd hk.symm ha
 |o _=>exact absurd hk.symm ha
theorem akD (h:RE ρ ρ') {x y:At} {k:K->bN} (hk:ana (cA ρ'.length x) (cA ρ'.length y) ρ k=a) (ha:a≠.fail):JU a ρ' (.bin .eql false x y) k:=by obtain ⟨u,v,c,d,h1,h2,h3,h4,h5⟩:=two h hk ha;obtain ⟨q,h6,h7,_⟩:=adK h1 h2 h5 ha;exact ⟨.b q,_,.b q,by simp [eF,h3,h4,h7],by rw [<-h6,ET]⟩
theorem ajY (h:RE ρ ρ') {x y:At} {k:K->bN} (hk:anP (cA ρ'.length x) (cA ρ'.length y) ρ k=a) (ha:a≠.fail):JU a ρ' (.bin .neq false x y) k:=by obtain ⟨u,v,c,d,h1,h2,h3,h4,h5⟩:=two h hk ha;obtain ⟨q,h6,_,h7⟩:=adK h1 h2 h5 ha;exact ⟨.b (!q),_,.b _,by simp [eF,h3,h4,h7],by rw [<-h6,ET]⟩
theorem amU (h:RE ρ ρ') {x:At} {k:K->bN} (hk:an1 (cA ρ'.length x) ρ k=a) (ha:a≠.fail):JU a ρ' (.un .not x) k:=by obtain ⟨u,c,h1,h2,h3⟩:=Am h hk ha;obtain ⟨p,rfl,h4⟩:=Zf h3 ha;rw [h1.bool] at h2;exact ⟨.b (!p),_,.b _,by simp [eF,h2,unC,unV],by rw [<-h4,ET]⟩
theorem aku (h:RE ρ ρ') {x:At} {k:K->bN} (hk:aoo (cA ρ'.length x) ρ k=a) (ha:a≠.fail):JU a ρ' (.un .neg x) k:=by obtain ⟨u,c,h1,h2,h3⟩:=Am h hk ha;obtain ⟨p,n,rfl,h4⟩:=qN h3 ha;rw [h1.int] at h2;exact ⟨.i p (p.wrap (0 - n)),_,.i _ _,by simp [eF,h2,unC,unV],by rw [<-h4,KJ]⟩
theorem ahl (h:RE ρ ρ') {q:IntKind} {x:At} {k:K->bN} (hk:ajp q (cA ρ'.length x) ρ k=a) (ha:a≠.fail):JU a ρ' (.conv q x) k:=by obtain ⟨u,c,h1,h2,h3⟩:=Am h hk ha;obtain ⟨p,n,rfl,h4⟩:=qN h3 ha;rw [h1.int] at h2;exact ⟨.i q (q.wrap n),_,.i _ _,by simp [eF,h2,WH],by rw [<-h4,KJ]⟩
theorem apZ (h:RE ρ ρ') {x y:At} {k:K->bN} (hk:kMx (cA ρ'.length x) (cA ρ'.length y) ρ k=a) (ha:a≠.fail):JU a ρ' (.mm true x y) k:=by
 obtain ⟨u,v,c,d,h1,h2,h3,h4,h5⟩:=two h hk ha;obtain ⟨p,n,m,rfl,rfl,h6⟩:=Df h5 ha;rw [h1.int] at h3;rw [h2.int] at h4;rw [Kr] at h6;refine ⟨.i p (if m > n then m else n),_,.i _ _,by simp [eF,h3,h4,mmC,AB],?_⟩
 by_cases hlt:n < m
 ·rw [C4 hlt];simpa [hlt] using h6
 ·rw [Dd hlt];simpa [hlt] using h6
theorem aoI (h:RE ρ ρ') {x y:At} {k:K->bN} (hk:kMn (cA ρ'.length x) (cA ρ'.length y) ρ k=a) (ha:a≠.fail):JU a ρ' (.mm false x y) k:=by
 obtain ⟨u,v,c,d,h1,h2,h3,h4,h5⟩:=two h hk ha;obtain ⟨p,n,m,rfl,rfl,h6⟩:=Df h5 ha;rw [h1.int] at h3;rw [h2.int] at h4;rw [Kr] at h6;refine ⟨.i p (if m < n then m else n),_,.i _ _,by simp [eF,h3,h4,mmC,AB],?_⟩
 by_cases hlt:m < n
 ·rw [C4 hlt];simpa [hlt] using h6
 ·rw [Dd hlt];simpa [hlt] using h6
theorem alS {u v:K} {c d:C} (hu:RK u c) (hv:RK v d) {n:Nat} (hn:Nat.beq (QV u) n=true) {g:Bool->bN} (hk:kEq u v g=a) (ha:a≠.fail):∃q,g q=a/\Kt n c d=some q:=by
 have hn':QV u=n:=C5 hn;subst hn';cases u with
 |i p n=>
  obtain ⟨p',n',m,h1,rfl,h2⟩:=Df (show CX (.i p n) v (fun _ n m=>g (XH n m))=a from hk) ha
  injection h1 with e1 e2;subst e1 e2;rw [hu.int,hv.int];exact ⟨_,h2,by simp [Kt,QV,Dm]⟩
 |s l w=>
  obtain ⟨m,x,rfl,h2⟩:=Oq (show onS v (fun m x=>g (and (Nat.beq l m) (Nat.beq w x)))=a from hk) ha
  obtain ⟨b,rfl,hb,hw⟩:=hu.str;obtain ⟨d',rfl,hd,hx⟩:=hv.str;exact ⟨_,h2,by simp only [Kt,QV];rw [TB hb hw hd hx]⟩
 |b p=>
  obtain ⟨q,rfl,h2⟩:=Zf (show onB v (fun q=>g (not (xor p q)))=a from hk) ha
  rw [hu.bool,hv.bool];exact ⟨_,h2,by cases p<;>cases q<;>rfl⟩
 |sl _ _ _=>exact absurd hk.symm ha
 |o _=>exact absurd hk.symm ha
theorem aan:∀{ks:List Nat} {xs ys:List K} {cs ds:List C} {g:Bool->bN},lU xs cs->lU ys ds->amy ks xs ys g=a->a≠.fail->∃q,g q=a/\DD ks cs ds=some q
 |[],xs,ys,cs,ds,g,hx,hy,hk,ha=>by
  cases xs with
  |cons _ _=>exact absurd hk.symm ha
  |nil=>cases ys with
   |cons _ _=>exact absurd hk.symm ha
   |nil=>cases hx;cases hy;exact ⟨true,hk,rfl⟩
 |n::ks,xs,ys,cs,ds,g,hx,hy,hk,ha=>by
  cases xs with
  |nil=>exact absurd hk.symm ha
  |cons x xs=>cases ys with
   |nil=>exact absurd hk.symm ha
   |cons y ys=>
    cases hx with
    |cons hx1 hx2=>cases hy with
     |cons hy1 hy2=>
      obtain ⟨h1,h2⟩:=dP (show (cond (Nat.beq (QV x) n) (kEq x y fun q=>amy ks xs ys fun p=>g (and q p)) .fail)=a from hk) ha
      obtain ⟨q,h3,h4⟩:=alS hx1 hy1 h1 h2 ha;obtain ⟨p,h5,h6⟩:=aan hx2 hy2 h3 ha;exact ⟨_,h5,by simp [DD,h4,h6]⟩
theorem YC (h:RE ρ ρ') {ks:List Nat} {neg:Bool} {s t:SL} {k:K->bN} (hk:ao5 ks neg (cS ρ'.length s) (cS ρ'.length t) ρ k=a) (ha:a≠.fail):JU a ρ' (.eqs ks neg s t) k:=by
 obtain ⟨_,xs,cs,h1,_,h2,h3⟩:=Vt h hk ha;obtain ⟨_,ys,ds,h4,_,h5,h6⟩:=Vt h h3 ha;obtain ⟨q,h7,h8⟩:=aan h1 h4 h6 ha;refine ⟨.b (if neg then !q else q),_,.b _,by simp [eF,h2,h5,wh,h8],?_⟩
 rw [<-h7,ET];cases neg<;>cases q<;>rfl
theorem akV (h:RE ρ ρ') {b:Bool} {x:At} {k:K->bN} (hk:anR b (cA ρ'.length x) ρ k=a) (ha:a≠.fail):JU a ρ' (.len b x) k:=by
 obtain ⟨u,c,h1,h2,h3⟩:=Am h hk ha;cases u with
 |s l w=>
  obtain ⟨s,rfl,hs,_⟩:=h1.str;obtain ⟨h4,h5⟩:=dP (show (cond b (k (.i .i64 (.ofNat l))) .fail)=a from h3) ha
  subst h4;have:s.size=l:=by
   have:=F0 List.length hs
   rw [Ak] at this;exact this
  exact ⟨.i .i64 (.ofNat l),E8 s.size,by rw [this];exact .i _ _,by simp [eF,h2,lN],h5⟩
 |sl e r n=>
  obtain ⟨cs,rfl,_,_⟩:=h1.sli;obtain ⟨h4,h5⟩:=CJ (show (cond b .fail (k (.i .i64 (.ofNat n))))=a from h3) ha
  subst h4;exact ⟨.i .i64 (.ofNat n),E8 n,.i _ _,by simp [eF,h2,lN],h5⟩
 |i _ _=>exact absurd h3.symm ha
 |b _=>exact absurd h3.symm ha
 |o _=>exact absurd h3.symm ha
end
end Go.Ey
