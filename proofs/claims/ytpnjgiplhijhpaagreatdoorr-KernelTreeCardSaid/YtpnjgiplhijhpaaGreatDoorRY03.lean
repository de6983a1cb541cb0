/- A part. -/
import Derived.Test.YtpnjgiplhijhpaaGreatDoorRY01
import GoSem.Core.Region
import GoSem.Core.Layout
import GoSem.Op.Equal
import Derived.Below
import Derived.Laws.Append
import Derived.Laws.OwnMore
import Derived.WalkKit
set_option linter.all false
namespace Go.Ey
def jF:Value->Bool
 |.slice none 0 0=>true
 |_=>false
def aC:Operand->Option X
 |.tmp t=>some (.t t)
 |.const v=>if scalar v||jF v then some (.k v) else none
 |.func f=>some (.f f)
 |_=>none
def dK:List Operand->Option (List X)
 |[]=>some []
 |o::os=>do
  let x <-aC o
  let xs <-dK os
  some (x::xs)
def ja:Option Operand->Option (Option X)
 |none=>some none
 |some o=>do
  let x <-aC o
  some (some x)
def uD (P:Program) (t:TypeId):Option Bool:=
 match P.underlying t with
 |some (.struct _)|some (.array _ _)=>some true
 |some _=>some false
 |none=>none
def zeroOf (P:Program) (t:TypeId):Option (List Value):=do
 let i <-P.info? t
 let z <-i.zero
 if (z.cells.toList.all fun v=>scalar v||jF v)/\z.cells.size=i.size then some z.cells.toList else none
def fieldsOf (P:Program) (t:TypeId):Option (List Field):=
 match P.underlying t with
 |some (.struct fs)=>some fs.toList
 |_=>none
def bP (P:Program) (t:TypeId):Option TypeId:=
 match P.underlying t with
 |some (.slice e)=>some e
 |_=>none
def compFields (P:Program) (fs:List Field):List (Nat×Operand)->Option (List (Nat×Nat×X))
 |[]=>some []
 |(i,o)::r=>do
  let f <-fs[i]?
  let info <-P.info? f.type
  let x <-aC o
  let ps <-compFields P fs r
  some ((f.offset,info.size,x)::ps)
def kT (size:Nat):List (Nat×Operand)->Option (List (Nat×Nat×X))
 |[]=>some []
 |(i,o)::r=>do
  let x <-aC o
  let ps <-kT size r
  some ((i * size,size,x)::ps)
def mG (P:Program) (fs:List Field):Bool:=fs.all fun f=>(P.info? f.type).isSome
def xX (P:Program) (t:TypeId):Option Nat:=
 match P.underlying t with
 |some (.int _)=>some 0
 |some .string=>some 1
 |some .bool=>some 2
 |_=>none
def eB (P:Program):Nat->List Field->Option (List Nat)
 |_,[]=>some []
 |j,f::fs=>do
  let k <-xX P f.type
  let ks <-eB P (j+1) fs
  if f.offset=j/\f.name≠ "_" then some (k::ks) else none
def z8 (ks:List Nat) (op:BinOp) (x y:X):Option Ins:=
 match op with
 |.eql=>some (.eqs ks false x y)
 |.neq=>some (.eqs ks true x y)
 |_=>none
def jg (P:Program) (aT:Nat->Nat) (op:Op):Option Ins:=
 match op with
 |.move x|.assign x=>do
  let x <-aC x
  some (.Mq x)
 |.pick c a b=>do
  let c <-aC c
  let a <-aC a
  let b <-aC b
  some (.pick c a b)
 |.alloc t=>do
  let z <-zeroOf P t
  some (.alloc z)
 |.box _ x=>do
  let x <-aC x
  some (.box x)
 |.build t parts=>do
  let fs <-fieldsOf P t
  let z <-zeroOf P t
  let ps <-compFields P fs parts.toList
  if mG P fs then some (.build z ps) else none
 |.buildSlice t len parts=>do
  let e <-bP P t
  let i <-P.info? e
  let z <-zeroOf P e
  let ps <-kT i.size parts.toList
  if len * i.size<=16777216/\0 < i.size then some (.lits i.size e len z ps) else none
 |.load t a=>do
  let agg <-uD P t
  let i <-P.info? t
  let x <-aC a
  some (.load agg i.size x)
 |.store t a v=>do
  let i <-P.info? t
  let a <-aC a
  let v <-aC v
  some (.store i.size a v)
 |.nilCheck x=>do
  let x <-aC x
  some (.pg x)
 |.binOp op t x y _=>do
  let x <-aC x
  let y <-aC y
  match P.underlying t with
  |some .bool=>some (.bin op true x y)
  |some (.int _)=>some (.bin op false x y)
  |some .string=>some (.bin op false x y)
  |some (.struct fs)=>do
   let ks <-eB P 0 fs.toList
   if P.stoodInHeld t=false/\P.eqGuardType P.depth t=false then z8 ks op x y else none
  |_=>none
 |.unOp op _ x=>do
  let x <-aC x
  some (.un op x)
 |.convert src dst x=>do
  let x <-aC x
  match P.underlying src,P.underlying dst with
  |some (.int _),some (.int k)=>some (.conv k x)
  |some (.slice e),some .string=>(match P.underlying e with
   |some (.int .u8)=>some (.toStr x)
   |_=>none)
  |_,_=>none
 |.makeSlice t l c=>do
  let e <-bP P t
  let i <-P.info? e
  let z <-zeroOf P e
  let l <-aC l
  let c <-aC c
  if 0 < i.size then some (.mk i.size e i.bytes z l c) else none
 |.slice t x lo hi none=>do
  let x <-aC x
  let lo <-ja lo
  let hi <-ja hi
  match P.underlying t with
  |some .string=>some (.Q8 x lo hi)
  |some (.slice e)=>do
   let i <-P.info? e
   some (.slc i.size x lo hi)
  |_=>none
 |.slice t x lo (some hi) (some mx)=>do
  let x <-aC x
  let lo <-ja lo
  let hi <-aC hi
  let mx <-aC mx
  match P.underlying t with
  |some (.slice e)=>do
   let i <-P.info? e
   some (.clip i.size x lo hi mx)
  |_=>none
 |.makeFunc (.func f) first captured=>do
  let xs <-dK captured.toList
  if first.size=0 then some (.R3 f xs) else none
 |.fieldAddr t x f=>do
  let fs <-fieldsOf P t
  let fl <-fs[f]?
  let i <-P.info? fl.type
  let x <-aC x
  if 0 < i.size then some (.yC fl.offset x) else none
 |.field t x f=>do
  let fs <-fieldsOf P t
  let fl <-fs[f]?
  let i <-P.info? fl.type
  let agg <-uD P fl.type
  let x <-aC x
  some (.NL fl.offset agg i.size x)
 |.indexAddr t x i=>do
  let e <-bP P t
  let info <-P.info? e
  let x <-aC x
  let i <-aC i
  some (.pY info.size x i)
 |.index t x i=>do
  let x <-aC x
  let i <-aC i
  match P.underlying t with
  |some .string=>some (.nM x i)
  |_=>none
 |.extract x i=>do
  let x <-aC x
  some (.ext x i)
 |.call { callee:=.value (.func f),args,argTypes:=_}=>do
  let xs <-dK args.toList
  some (match aT f with|0=> .call f xs|1=> .cu f 0 xs|3=> .eZ f xs|4=> .cu f 2 xs|_=> .cu f 1 xs)
 |.call { callee:=.value (.tmp t),args,argTypes:=_}=>do
  let xs <-dK args.toList
  some (.dQ (.t t) xs)
 |.call { callee:=.builtin b,args,argTypes}=>do
  let xs <-dK args.toList
  match b,xs,argTypes.toList with
  |.len,[x],[t]=>(match P.underlying t with
   |some .string=>some (.len true x)
   |some (.slice _)=>some (.len false x)
   |_=>none)
  |.append,[x,y],[t,t']=>do
   let e <-bP P t
   let i <-P.info? e
   let _ <-zeroOf P e
   (match P.underlying t' with
   |some (.slice _)=>if 0 < i.size then some (.app i.size e i.bytes x y) else none
   |some .string=>if 0 < i.size then some (.app i.size e i.bytes x y) else none
   |_=>none)
  |.copy,[x,y],[t,_]=>do
   let e <-bP P t
   let i <-P.info? e
   if 0 < i.size then some (.EZ i.size x y) else none
  |.max,[x,y],_=>some (.mx x y)
  |.min,[x,y],_=>some (.mn x y)
  |_,_,_=>none
 |_=>none
def l9 (P:Program) (t:TypeId):Option (Nat×Nat):=
 match xX P t with
 |some k=>some (k,1)
 |none=>(match P.underlying t with
  |some (.struct fs)=>(eB P 0 fs.toList).map fun ks=>(9,ks.length)
  |_=>none)
def Je:Value->Bool
 |.agg _=>true
 |_=>false
def ze (P:Program) (t:TypeId):Option Bool:=do
 let i <-P.info? t
 let z <-i.zero
 some (Je z)
def mJ (P:Program) (op:Op):Option Ins:=
 match op with
 |.makeMap _ none=>some .Qq
 |.lookup t x i ok=>(match P.underlying t with
  |some (.map k e)=>do
   let q <-l9 P k
   let z <-zeroOf P e
   let agg <-ze P e
   let x <-aC x
   let i <-aC i
   some (.tK q.1 q.2 agg z ok x i)
  |_=>none)
 |.mapUpdate t m i v|.insert t m i v=>(match P.underlying t with
  |some (.map k _)=>do
   let q <-l9 P k
   let m <-aC m
   let i <-aC i
   let v <-aC v
   some (.tY q.1 q.2 m i v)
  |_=>none)
 |_=>none
def vD (P:Program) (aT:Nat->Nat) (op:Op):Option Ins:=
 match mJ P op with
 |some i=>some i
 |none=>match jg P aT op with
  |some i=>if lN i then none else some i
  |none=>none
def Gy (nt:Nat):Option Tmp->Bool
 |none=>true
 |some t=>decide (t < nt)
def lU (P:Program) (aT:Nat->Nat) (nt:Nat) (ops:Array Oper) (o:Oper):Option aW:=do
 let i <-vD P aT o.op
 if Gy nt o.dst=false then none else
 match o.guard with
 |none=>some ⟨o.dst,i,none⟩
 |some (j,want)=>do
  let g <-ops[j]?
  let t <-g.dst
  some ⟨o.dst,i,some (t,want)⟩
def bX (P:Program) (aT:Nat->Nat) (nt:Nat) (ops:Array Oper):List Oper->Option (List aW)
 |[]=>some []
 |o::os=>do
  let i <-lU P aT nt ops o
  let is <-bX P aT nt ops os
  some (i::is)
def kr (acc:List Nat):List Edge->Nat
 |[]=>0
 |e::es=>if Region.binds .any e then ((1 <<< e.on)|||acc.getD e.on 0)|||kr acc es else kr acc es
def waits (acc:List Nat):List Oper->List Nat
 |[]=>acc
 |o::os=>waits (acc++[kr acc o.after.toList]) os
def vQ:Nat->List Oper->Bool
 |_,[]=>true
 |k,o::os=>(o.after.toList.all fun e=>!Region.binds .any e||decide (e.on < k)) && vQ (k+1) os
def jc:List aW->Bool
 |[]=>true
 |i::is=>(match i.ins with|.cu _ _ _|.dQ _ _=>false|_=>true) && jc is
def comp (P:Program) (aT:Nat->Nat) (nt:Nat):Code->Option bC
 |.skip=>some .skip
 |.ret=>some .ret
 |.exit id=>some (.exit id)
 |.region _ ops false=>do
  let is <-bX P aT nt ops ops.toList
  some (.region is)
 |.region _ ops true=>do
  let is <-bX P (fun f=>if aT f=1 then 3 else if aT f=4 then 4 else 0) nt ops ops.toList
  if vQ 0 ops.toList=true then (if jc is then some (.draw is (waits [] ops.toList)) else if xQ is (waits [] ops.toList)=true then some (.mix is (waits [] ops.toList)) else none) else none
 |.seq a b=>do
  let a <-comp P aT nt a
  let b <-comp P aT nt b
  some (.seq a b)
 |.cond c a b=>do
  let c <-aC c
  let a <-comp P aT nt a
  let b <-comp P aT nt b
  some (.cond c a b)
 |.block id c=>do
  let c <-comp P aT nt c
  some (.block id c)
 |.loop c=>do
  let c <-comp P aT nt c
  some (.loop c)
 |_=>none
def iR (P:Program):List ResultVar->Option (List RP)
 |[]=>some []
 |.tmp t::r=>do
  let rs <-iR P r
  some (.tmp t::rs)
 |.cell a t::r=>do
  let agg <-uD P t
  let i <-P.info? t
  let rs <-iR P r
  some (.cell a agg i.size::rs)
def xh (P:Program) (aT:Nat->Nat) (fn:Func):Option uP:=do
 let c <-fn.body
 let c <-comp P aT fn.ntmps c
 let rs <-iR P fn.results.toList
 if fn.params.size+fn.nfree<=fn.ntmps then some ⟨fn.params.size+fn.nfree,rs,c⟩ else none
open Go.RowKit
section
variable (w:World) (Sf:Nat->Nat->Prop)
mutual
def aJ:C->Value->Prop
 |.lit v,u=>u=v/\scalar v=true
 |.slice cs n,u=>(u=.slice none 0 0/\n=0/\cs=[])\/∃a cap,u=.slice (some a) n cap/\n<=cap/\(cs≠[]->a.spot=none)/\bN cs a.block a.off
def bN:List C->Nat->Nat->Prop
 |[],_,_=>True
 |c::cs,b,o=>(∃u,w.cell? ⟨b,o,none⟩=some u/\Sf b o/\aJ c u)/\bN cs b (o+1)
end
end
mutual
theorem aJ.mono {w w':World} {Sf J8:Nat->Nat->Prop} (h:∀b o u,w.cell? ⟨b,o,none⟩=some u->Sf b o->w'.cell? ⟨b,o,none⟩=some u/\J8 b o):
  ∀(c:C) (u:Value),aJ w Sf c u->aJ w' J8 c u
 |.lit v,u,hr=>by simpa [aJ] using hr
 |.slice cs n,u,hr=>by
  simp only [aJ] at hr |-;rcases hr with hr|⟨a,cap,h1,h2,h3,h4⟩
  ·exact .inl hr
  ·exact .inr ⟨a,cap,h1,h2,h3,bN.mono h cs _ _ h4⟩
theorem bN.mono {w w':World} {Sf J8:Nat->Nat->Prop} (h:∀b o u,w.cell? ⟨b,o,none⟩=some u->Sf b o->w'.cell? ⟨b,o,none⟩=some u/\J8 b o):
  ∀(cs:List C) (b o:Nat),bN w Sf cs b o->bN w' J8 cs b o
 |[],_,_,_=>by simp [bN]
 |c::cs,b,o,hr=>by simp only [bN] at hr |-;obtain ⟨⟨u,h1,h2,h3⟩,h4⟩:=hr;obtain ⟨h5,h6⟩:=h b o u h1 h2;exact ⟨⟨u,h5,h6,aJ.mono h c u h3⟩,bN.mono h cs b (o+1) h4⟩
end
def aj {α β:Type} (R:α->β->Prop):List α->List β->Prop
 |[],[]=>True
 |a::ax,b::bs=>R a b/\aj R ax bs
 |_,_=>False
section
variable {α β:Type} {R R':α->β->Prop}
theorem aj.mono (h:∀a b,R a b->R' a b):∀{ax:List α} {bs:List β},aj R ax bs->aj R' ax bs
 |[],[],_=>trivial
 |_::_,_::_,h1=>⟨h _ _ h1.1,aj.mono h h1.2⟩
 |[],_::_,h1=>h1.elim
 |_::_,[],h1=>h1.elim
theorem aj.len:∀{ax:List α} {bs:List β},aj R ax bs->ax.length=bs.length
 |[],[],_=>rfl
 |_::_,_::_,h1=>by simp [aj.len h1.2]
 |[],_::_,h1=>h1.elim
 |_::_,[],h1=>h1.elim
theorem aj.append:∀{ax:List α} {bs:List β} {as':List α} {bs':List β},aj R ax bs->aj R as' bs'->aj R (ax++as') (bs++bs')
 |[],[],_,_,_,h2=>h2
 |_::_,_::_,_,_,h1,h2=>⟨h1.1,aj.append h1.2 h2⟩
 |[],_::_,_,_,h1,_=>h1.elim
 |_::_,[],_,_,h1,_=>h1.elim
theorem aj.take:∀(n:Nat) {ax:List α} {bs:List β},aj R ax bs->aj R (ax.take n) (bs.take n)
 |0,_,_,_=>by simp [aj]
 |_+1,[],[],_=>by simp [aj]
 |n+1,_::_,_::_,h1=>by simp only [List.take_succ_cons];exact ⟨h1.1,aj.take n h1.2⟩
 |_+1,[],_::_,h1=>h1.elim
 |_+1,_::_,[],h1=>h1.elim
theorem aj.drop:∀(n:Nat) {ax:List α} {bs:List β},aj R ax bs->aj R (ax.drop n) (bs.drop n)
 |0,_,_,h1=>by simpa using h1
 |_+1,[],[],_=>by simp [aj]
 |n+1,_::_,_::_,h1=>by simp only [List.drop_succ_cons];exact aj.drop n h1.2
 |_+1,[],_::_,h1=>h1.elim
 |_+1,_::_,[],h1=>h1.elim
theorem aj.get:∀(n:Nat) {ax:List α} {bs:List β} {a:α},aj R ax bs->ax[n]?=some a->∃b,bs[n]?=some b/\R a b
 |_,[],[],_,_,h=>by simp at h
 |0,_::_,b::_,_,h1,h=>by simp at h;subst h;exact ⟨b,by simp,h1.1⟩
 |n+1,_::_,_::_,_,h1,h=>by simp at h;obtain ⟨b,h2,h3⟩:=aj.get n h1.2 h;exact ⟨b,by simpa using h2,h3⟩
 |_,[],_::_,_,h1,_=>h1.elim
 |_,_::_,[],_,h1,_=>h1.elim
theorem aj.gJ {γ:Type} {f:γ->α}:∀{ax:List γ} {bs:List β},aj (fun a b=>R (f a) b) ax bs->aj R (ax.map f) bs
 |[],[],_=>trivial
 |_::_,_::_,h1=>⟨h1.1,aj.gJ h1.2⟩
 |[],_::_,h1=>h1.elim
 |_::_,[],h1=>h1.elim
theorem aj.splice {ax:List α} {bs:List β} {xs:List α} {ys:List β} (off:Nat) (h:aj R ax bs) (hx:aj R xs ys):
  aj R (splice ax off xs) (bs.take off++ys++bs.drop (off+ys.length)):=by
 unfold Ey.splice;rw [hx.len];exact ((h.take off).append hx).append (h.drop _)
end
structure M where
 w:World
 h:Heap
 β:Nat->Nat
 U:Nat->Prop
def Safe (_:Nat) (S:Nat->Nat->Prop) (m:M) (b o:Nat):Prop:=
 S b o/\∀id,match af m.h id with
   |.dead=>True
   |.box _=>m.β id≠b
   |.map _=>m.β id≠b
   |.arr _ _ fz _=>m.β id=b->o < fz
def bA (w:World) (Sf:Nat->Nat->Prop):V->Value->Prop
 |.one c,u=>aJ w Sf c u
 |.agg cs,u=>∃us:List Value,u=.agg us.toArray/\aj (aJ w Sf) cs us
 |.full cs n,u=>(u=.slice none 0 0/\n=0/\cs=[])\/∃a,u=.slice (some a) n n/\(cs≠[]->a.spot=none)/\bN w Sf cs a.block a.off
theorem bA.mono {w w':World} {Sf J8:Nat->Nat->Prop} (h:∀b o u,w.cell? ⟨b,o,none⟩=some u->Sf b o->w'.cell? ⟨b,o,none⟩=some u/\J8 b o) {v:V} {u:Value} (hr:bA w Sf v u):bA w' J8 v u:=by
 cases v with
 |one c=>exact aJ.mono h c u hr
 |agg cs=>obtain ⟨us,h1,h2⟩:=hr;exact ⟨us,h1,h2.mono fun x u h3=>aJ.mono h x u h3⟩
 |full cs n=>exact hr.imp id fun ⟨a,h1,h2,h3⟩=>⟨a,h1,h2,bN.mono h cs _ _ h3⟩
theorem bA.full {w:World} {Sf:Nat->Nat->Prop} {cs:List C} {n:Nat} {u:Value} (h:bA w Sf (.full cs n) u):aJ w Sf (.slice cs n) u:=
 h.imp id fun ⟨a,h1,h2,h3⟩=>⟨a,n,h1,Nat.le_refl _,h2,h3⟩
section
variable (B:Nat) (S:Nat->Nat->Prop)
def bu (m:M):D->Value->Prop
 |.fK,_=>True
 |.c x,u=>aJ m.w (Safe B S m) x u
 |.loc id off,u=>m.U id/\u=.pointer (some ⟨m.β id,off,none⟩)
 |.arr id off len,u=>m.U id/\∃ad cap,u=.slice (some ad) len cap/\len<=cap/\match af m.h id with
  |.arr _ aa _ ety=>(ad=⟨m.β id,off,none⟩/\∃sz,m.w.shape? (m.β id)=some (ety,sz)/\off+cap * aa=sz/\cap<=maxLen)\/(len=0/\cap=0)
  |_=>True
 |.ptr cs,u=>∃a,u=.pointer (some a)/\(cs≠[]->a.spot=none)/\bN m.w (Safe B S m) cs a.block a.off
 |.full cs n,u=>(u=.slice none 0 0/\n=0/\cs=[])\/∃a,u=.slice (some a) n n/\(cs≠[]->a.spot=none)/\bN m.w (Safe B S m) cs a.block a.off
 |.bJ f caps,u=>u=.func (.func f) #[] (caps.map fun p=>Value.pointer (some ⟨m.β p.1,p.2,none⟩)).toArray/\∀p∈caps,m.U p.1
 |.mp id,u=>m.U id/\u=.map (some (m.β id))
 |_,_=>False
def fO (m:M):D->Value->Prop
 |.agg ds,u=>∃us:List Value,u=.agg us.toArray/\aj (bu B S m) ds us
 |d,u=>bu B S m d u
def aX (m:M):D->Value->Prop
 |.dB ds,u=>∃us:List Value,u=.tuple us.toArray/\aj (fO B S m) ds us
 |d,u=>fO B S m d u
def r9 (m:M) (k:Nat):Obj->Prop
 |.dead=>True
 |.box ds=>B<=k/\∃(us:List Value) (e:TypeId),m.w.heap[k]?=some (.cells us.toArray e (0,0))/\aj (bu B S m) ds us
 |.arr cs _ _ ety=>B<=k/\∃us:List Value,m.w.heap[k]?=some (.cells us.toArray ety (0,0))/\cs.length<=us.length/\aj (aJ m.w (Safe B S m)) cs (us.take cs.length)
 |.map es=>B<=k/\∃(sM:Array MapEntry) (ck:Nat),m.w.heap[k]?=some (.map sM ck)/\aj (fun e x=>bA m.w (Safe B S m) e.1 x.key/\bA m.w (Safe B S m) e.2 x.val) es sM.toList
def tT (m:M) (id:Nat):Prop:=r9 B S m (m.β id) (af m.h id)
structure bF (m:M):Prop where
 obj:∀id,tT B S m id
 inj:∀i j,af m.h i≠.dead->af m.h j≠.dead->m.β i=m.β j->i=j
 dom:∀id,¬m.U id->af m.h id=.dead
 base:B<=m.w.heap.size
 fresh:∀b o,m.w.heap.size<=b->S b o
 Bz:∀id cs aa fz ety,af m.h id=.arr cs aa fz ety->∀o,S (m.β id) o
structure ak (m m':M):Prop where
 cell:∀b o u,m.w.cell? ⟨b,o,none⟩=some u->Safe B S m b o->m'.w.cell? ⟨b,o,none⟩=some u/\Safe B S m' b o
 used:∀id,m.U id->m'.U id
 dead:∀id,m.U id->af m.h id=.dead->af m'.h id=.dead
 at_:∀id,m.U id->m'.β id=m.β id
 kind:∀id cs' bU gX dW,m.U id->af m'.h id=.arr cs' bU gX dW->∃cs fz,af m.h id=.arr cs bU fz dW/\m'.w.shape? (m.β id)=m.w.shape? (m.β id)
 rest:∀b,B<=b->b < m.w.heap.size->(∀id,af m.h id≠.dead->m.β id≠b)->m'.w.heap[b]?=m.w.heap[b]?/\∀id,af m'.h id≠.dead->m'.β id≠b
variable {B S}
theorem ak.refl (m:M):ak B S m m:=
 ⟨fun _ _ _ h1 h2=>⟨h1,h2⟩,fun _ h=>h,fun _ _ h=>h,fun _ _=>rfl,fun _ cs' _ gX _ _ h=>⟨cs',gX,h,rfl⟩,fun _ _ _ h=>⟨rfl,h⟩⟩
theorem ak.trans {m m' m'':M} (h:ak B S m m') (k:ak B S m' m''):ak B S m m'' where
 cell b o u h1 h2:=k.cell b o u (h.cell b o u h1 h2).1 (h.cell b o u h1 h2).2
 used id hu:=k.used id (h.used id hu)
 dead id hu hd:=k.dead id (h.used id hu) (h.dead id hu hd)
 at_ id hu:=by rw [k.at_ id (h.used id hu),h.at_ id hu]
 kind id cs' bU gX dW hu hk:=by obtain ⟨cs,fz,h1,h2⟩:=k.kind id cs' bU gX dW (h.used id hu) hk;obtain ⟨cs0,fz0,h3,h4⟩:=h.kind id cs bU fz dW hu h1;refine ⟨cs0,fz0,h3,?_⟩;rw [<-h4,<-h.at_ id hu,h2]
 rest b hB hb hn:=by
  obtain ⟨h1,h2⟩:=h.rest b hB hb hn;have hb':b < m'.w.heap.size:=by rw [Array.getElem?_eq_getElem hb] at h1;exact (Array.getElem?_eq_some_iff.1 h1).1
  obtain ⟨k1,k2⟩:=k.rest b hB hb' h2;exact ⟨k1.trans h1,k2⟩
theorem ak.jK {m m':M} (h:ak B S m m') {d:D} {u:Value} (hr:bu B S m d u):bu B S m' d u:=by
 cases d with
 |fK=>trivial
 |c x=>exact aJ.mono h.cell x u hr
 |loc id off=>
  obtain ⟨h1,h2⟩:=hr;exact ⟨h.used id h1,by rw [h.at_ id h1];exact h2⟩
 |arr id off len=>
  obtain ⟨h1,ad,cap,e1,e2,h2⟩:=hr;refine ⟨h.used id h1,ad,cap,e1,e2,?_⟩;split
  ·rename_i cs' bU gX dW hk;obtain ⟨cs,fz,h3,h4⟩:=h.kind id cs' bU gX dW h1 hk;have h5:=h.at_ id h1;rw [h3] at h2;simp only at h2;rcases h2 with ⟨e6,sz,e3,e4,e5⟩|h2
   ·exact .inl ⟨by rw [h5];exact e6,sz,by rw [h5,h4];exact e3,e4,e5⟩
   ·exact .inr h2
  ·trivial
 |ptr cs=>
  obtain ⟨a,h1,h2,h3⟩:=hr;exact ⟨a,h1,h2,bN.mono h.cell cs _ _ h3⟩
 |full cs n=>
  rcases hr with hr|⟨a,h1,h2,h3⟩
  ·exact .inl hr
  ·exact .inr ⟨a,h1,h2,bN.mono h.cell cs _ _ h3⟩
 |bJ f caps=>
  obtain ⟨h1,h2⟩:=hr;refine ⟨?_,fun p hp=>h.used _ (h2 p hp)⟩
  rw [h1];congr 2;exact List.map_congr_left fun p hp=>by rw [h.at_ _ (h2 p hp)]
 |mp id=>
  obtain ⟨h1,h2⟩:=hr;exact ⟨h.used id h1,by rw [h.at_ id h1];exact h2⟩
 |agg ds=>exact hr.elim
 |dB ds=>exact hr.elim
theorem ak.wz {m m':M} (h:ak B S m m') {d:D} {u:Value} (hr:fO B S m d u):fO B S m' d u:=by
 cases d with
 |agg ds=>obtain ⟨us,h1,h2⟩:=hr;exact ⟨us,h1,h2.mono fun _ _ h3=>h.jK h3⟩
 |fK=>exact h.jK (d:=.fK) (u:=u) hr
 |c x=>exact h.jK (d:=.c x) hr
 |loc id off=>exact h.jK (d:=.loc id off) hr
 |arr id off len=>exact h.jK (d:=.arr id off len) hr
 |ptr cs=>exact h.jK (d:=.ptr cs) hr
 |full cs n=>exact h.jK (d:=.full cs n) hr
 |bJ f caps=>exact h.jK (d:=.bJ f caps) hr
 |mp id=>exact h.jK (d:=.mp id) hr
 |dB ds=>exact h.jK (d:=.dB ds) (u:=u) hr
theorem ak.GI {m m':M} (h:ak B S m m') {d:D} {u:Value} (hr:aX B S m d u):aX B S m' d u:=by
 cases d with
 |dB ds=>obtain ⟨us,h1,h2⟩:=hr;exact ⟨us,h1,h2.mono fun _ _ h3=>h.wz h3⟩
 |fK=>exact h.wz (d:=.fK) (u:=u) hr
 |c x=>exact h.wz (d:=.c x) hr
 |loc id off=>exact h.wz (d:=.loc id off) hr
 |arr id off len=>exact h.wz (d:=.arr id off len) hr
 |ptr cs=>exact h.wz (d:=.ptr cs) hr
 |full cs n=>exact h.wz (d:=.full cs n) hr
 |bJ f caps=>exact h.wz (d:=.bJ f caps) hr
 |mp id=>exact h.wz (d:=.mp id) hr
 |agg ds=>exact h.wz (d:=.agg ds) hr
theorem ak.xZ {m m':M} (h:ak B S m m') {k:Nat} {o:Obj} (hb:m'.w.heap[k]?=m.w.heap[k]?) (hr:r9 B S m k o):r9 B S m' k o:=by
 cases o with
 |dead=>trivial
 |box ds=>
  obtain ⟨h1,us,e,h2,h3⟩:=hr;exact ⟨h1,us,e,by rw [hb];exact h2,h3.mono fun _ _ h4=>h.jK h4⟩
 |arr cs aa fz ety=>
  obtain ⟨h1,us,h2,h3,h4⟩:=hr;exact ⟨h1,us,by rw [hb];exact h2,h3,h4.mono fun x u h5=>aJ.mono h.cell x u h5⟩
 |map es=>
  obtain ⟨h1,sM,ck,h2,h3⟩:=hr;exact ⟨h1,sM,ck,by rw [hb];exact h2,h3.mono fun _ _ h4=>⟨bA.mono h.cell h4.1,bA.mono h.cell h4.2⟩⟩
theorem bF.lt {m:M} (hk:bF B S m) {id:Nat} (hd:af m.h id≠.dead):m.β id < m.w.heap.size:=by
 have h:=hk.obj id;unfold tT at h;cases ho:af m.h id with
 |dead=>exact absurd ho hd
 |box ds=>rw [ho] at h;obtain ⟨_,us,e,h2,_⟩:=h;exact (Array.getElem?_eq_some_iff.1 h2).1
 |map ds=>rw [ho] at h;obtain ⟨_,sM,ck,h2,_⟩:=h;exact (Array.getElem?_eq_some_iff.1 h2).1
 |arr cs aa fz ety=>rw [ho] at h;obtain ⟨_,us,h2,_⟩:=h;exact (Array.getElem?_eq_some_iff.1 h2).1
theorem bF.ge {m:M} (hk:bF B S m) {id:Nat} (hd:af m.h id≠.dead):B<=m.β id:=by
 have h:=hk.obj id;unfold tT at h;cases ho:af m.h id with
 |dead=>exact absurd ho hd
 |box ds=>rw [ho] at h;exact h.1
 |map ds=>rw [ho] at h;exact h.1
 |arr cs aa fz ety=>rw [ho] at h;exact h.1
theorem bF.used {m:M} (hk:bF B S m) {id:Nat} (hd:af m.h id≠.dead):m.U id:=
 Classical.byContradiction fun h=>hd (hk.dom id h)
theorem Ea {w:World} {b o:Nat} {u:Value} (h:w.cell? ⟨b,o,none⟩=some u):b < w.heap.size:=World.block_lt_of_cell? w _ h
def gB (β:Nat->Nat) (slot k:Nat):Nat->Nat:=fun i=>if i=slot then k else β i
def M.put (m:M) (w':World) (slot k:Nat) (o:Obj):M:=⟨w',(slot,o)::m.h,gB m.β slot k,fun i=>m.U i\/i=slot⟩
theorem aA (i:Nat) (o:Obj) (h:Heap) (j:Nat):af ((i,o)::h) j=if i=j then o else af h j:=rfl
theorem rR {m:M} (hk:bF B S m) {slot:Nat} (hs:¬m.U slot) {w':World} {ob:Go.Obj} (hw:w'.heap=m.w.heap.push ob) (o:Obj):
  ak B S m (m.put w' slot m.w.heap.size o) where
 cell b q u h1 h2:=by
  have hb:=Ea h1;refine ⟨?_,h2.1,fun id=>?_⟩
  ·have:w'.heap[b]?=m.w.heap[b]?:=by rw [hw,Array.getElem?_push,if_neg (by omega)]
   rw [<-h1];exact World.cell?_of_block (w:=m.w) (a:=⟨b,q,none⟩) this
  ·simp only [M.put,aA,gB];by_cases hi:slot=id
   ·subst hi;simp only [if_true];cases o<;>simp<;>omega
   ·have hi':¬id=slot:=fun e=>hi e.symm
    simp only [hi,hi',if_false];exact h2.2 id
 used id hu:=.inl hu
 dead id hu hd:=by
  have hi:¬slot=id:=fun e=>hs (e▸hu)
  simp only [M.put,aA,hi,if_false];exact hd
 at_ id hu:=by
  have hi:¬id=slot:=fun e=>hs (e▸hu)
  simp [M.put,gB,hi]
 kind id cs' bU gX dW hu h:=by
  have hi:¬slot=id:=fun e=>hs (e▸hu)
  simp only [M.put,aA,hi,if_false] at h;refine ⟨cs',gX,h,?_⟩;have hlt:=hk.lt (id:=id) (by rw [h];simp)
  have:w'.heap[m.β id]?=m.w.heap[m.β id]?:=by rw [hw,Array.getElem?_push,if_neg (by omega)]
  simp [World.shape?,M.put,this]
 rest b hB hb hn:=by
  refine ⟨by simp only [M.put];rw [hw,Array.getElem?_push,if_neg (by omega)],fun id hd=>?_⟩
  simp only [M.put,aA,gB] at hd |-;by_cases hi:slot=id
  ·subst hi;simp;omega
  ·have hi':¬id=slot:=fun e=>hi e.symm
   simp only [hi,if_false] at hd;simp only [hi',if_false];exact hn id hd
theorem MJ {m:M} (hk:bF B S m) {slot:Nat} (hs:¬m.U slot) {w':World} {ob:Go.Obj} (hw:w'.heap=m.w.heap.push ob) (o:Obj)
  (ho:r9 B S (m.put w' slot m.w.heap.size o) m.w.heap.size o):bF B S (m.put w' slot m.w.heap.size o):=by
 have hev:=rR hk hs hw o;refine ⟨fun id=>?_,fun i j hi hj he=>?_,fun id hu=>?_,?_,fun b q hb=>?_,fun id cs aa fz ety hg q=>?_⟩
 ·unfold tT;by_cases hi:slot=id
  ·subst hi;simp only [M.put,aA,gB,if_true] at *;exact ho
  ·have hi':¬id=slot:=fun e=>hi e.symm
   have h1:af (m.put w' slot m.w.heap.size o).h id=af m.h id:=by simp [M.put,aA,hi]
   have h2:(m.put w' slot m.w.heap.size o).β id=m.β id:=by simp [M.put,gB,hi']
   rw [h1,h2];by_cases hd:af m.h id=.dead
   ·rw [hd];trivial
   ·have hlt:=hk.lt hd;refine hev.xZ ?_ (hk.obj id);simp only [M.put];rw [hw,Array.getElem?_push,if_neg (by omega)]
 ·simp only [M.put,aA,gB] at *;by_cases h1:slot=i<;>by_cases h2:slot=j
  ·omega
  ·have h2':¬j=slot:=fun e=>h2 e.symm
   have h1':i=slot:=h1.symm;simp only [h2,h1',h2',if_true,if_false] at hj he;have:=hk.lt hj
   omega
  ·have h1':¬i=slot:=fun e=>h1 e.symm
   have h2':j=slot:=h2.symm;simp only [h1,h1',h2',if_true,if_false] at hi he;have:=hk.lt hi
   omega
  ·have h1':¬i=slot:=fun e=>h1 e.symm
   have h2':¬j=slot:=fun e=>h2 e.symm
   simp only [h1,h1',h2,h2',if_false] at hi hj he;exact hk.inj i j hi hj he
 ·simp only [M.put] at hu |-;have h1:¬m.U id:=fun h=>hu (.inl h)
  have h2:¬slot=id:=fun h=>hu (.inr h.symm)
  simp only [aA,h2,if_false];exact hk.dom id h1
 ·have:=hk.base
  simp only [M.put,hw,Array.size_push];omega
 ·simp only [M.put,hw,Array.size_push] at hb;exact hk.fresh b q (by omega)
 ·simp only [M.put,aA,gB] at hg |-;by_cases hi:slot=id
  ·subst hi;simp only [if_true];exact hk.fresh _ q (Nat.le_refl _)
  ·have hi':¬id=slot:=fun e=>hi e.symm
   simp only [hi,if_false] at hg;simp only [hi',if_false];exact hk.Bz id cs aa fz ety hg q
def M.upd (m:M) (w':World) (id:Nat) (o:Obj):M:=⟨w',(id,o)::m.h,m.β,m.U⟩
theorem gF {m:M} (hk:bF B S m) {id:Nat} {o o':Obj} {w':World} (ho:af m.h id=o)
  (hkind:match o,o' with
   |.box _,.box _=>True
   |.map _,.map _=>True
   |.arr _ aa fz ety,.arr _ bU gX dW=>bU=aa/\dW=ety/\fz<=gX
   |_,_=>False)
  (hother:∀k,k≠m.β id->w'.heap[k]?=m.w.heap[k]?)
  (hcell:∀q u,(match o with|.arr _ _ fz _=>q < fz|_=>False)->m.w.cell? ⟨m.β id,q,none⟩=some u->w'.cell? ⟨m.β id,q,none⟩=some u)
  (hshape:w'.shape? (m.β id)=m.w.shape? (m.β id)):
  ak B S m (m.upd w' id o') where
 cell b q u h1 h2:=by
  refine ⟨?_,h2.1,fun i=>?_⟩
  ·by_cases hb:b=m.β id
   ·subst hb;have h3:=h2.2 id;rw [ho] at h3;refine hcell q u ?_ h1;cases o with
    |dead=>cases o'<;>exact hkind.elim
    |box ds=>exact (h3 rfl).elim
    |map ds=>exact (h3 rfl).elim
    |arr cs aa fz ety=>exact h3 rfl
   ·rw [<-h1];exact World.cell?_of_block (w:=m.w) (a:=⟨b,q,none⟩) (hother b hb)
  ·simp only [M.upd,aA];by_cases hi:id=i
   ·subst hi;have h3:=h2.2 id;rw [ho] at h3;simp only [if_true];cases o<;>cases o'<;>first|exact hkind.elim|exact h3|(intro he;have:=h3 he;obtain ⟨_,_,h4⟩:=hkind;omega)
   ·simp only [hi,if_false];exact h2.2 i
 used _ hu:=hu
 dead i hu hd:=by
  by_cases hi:id=i
  ·subst hi;rw [ho] at hd;subst hd;cases o'<;>exact hkind.elim
  ·simp only [M.upd,aA,hi,if_false];exact hd
 at_ _ _:=rfl
 kind i cs' bU gX dW hu h:=by
  by_cases hi:id=i
  ·subst hi;simp only [M.upd,aA,if_true] at h;subst h;cases o with
   |dead=>exact hkind.elim
   |box ds=>exact hkind.elim
   |map ds=>exact hkind.elim
   |arr cs aa fz ety=>
    obtain ⟨rfl,rfl,_⟩:=hkind;exact ⟨cs,fz,ho,hshape⟩
  ·simp only [M.upd,aA,hi,if_false] at h;refine ⟨cs',gX,h,?_⟩;have hd:af m.h i≠.dead:=by rw [h];simp
   have hd':af m.h id≠.dead:=by
    rw [ho];cases o with
    |dead=>cases o'<;>exact hkind.elim
    |_=>simp
   have:m.β i≠m.β id:=fun e=>hi (hk.inj i id hd hd' e).symm
   simp [World.shape?,M.upd,hother _ this]
 rest b hB hb hn:=by
  have hd':af m.h id≠.dead:=by
   rw [ho];cases o with
   |dead=>cases o'<;>exact hkind.elim
   |_=>simp
  refine ⟨hother b fun e=>hn id hd' e.symm,fun i hd=>?_⟩
  simp only [M.upd,aA] at hd |-;by_cases hi:id=i
  ·subst hi;exact hn id hd'
  ·simp only [hi,if_false] at hd;exact hn i hd
theorem oo {m:M} (hk:bF B S m) {id:Nat} {o':Obj} {w':World} (hl:af m.h id≠.dead) (hev:ak B S m (m.upd w' id o'))
  (hother:∀k,k≠m.β id->w'.heap[k]?=m.w.heap[k]?) (hsz:m.w.heap.size<=w'.heap.size)
  (ho:r9 B S (m.upd w' id o') (m.β id) o'):bF B S (m.upd w' id o'):=by
 refine ⟨fun i=>?_,fun i j hi hj he=>?_,fun i hu=>?_,?_,fun b q hb=>hk.fresh b q (Nat.le_trans hsz hb),fun i cs aa fz ety hg q=>?_⟩
 ·unfold tT;by_cases hi:id=i
  ·subst hi;simp only [M.upd,aA,if_true] at *;exact ho
  ·have h1:af (m.upd w' id o').h i=af m.h i:=by simp [M.upd,aA,hi]
   rw [h1];show r9 B S _ (m.β i) _
   by_cases hd:af m.h i=.dead
   ·rw [hd];trivial
   ·exact hev.xZ (hother _ fun e=>hi (hk.inj i id hd hl e).symm) (hk.obj i)
 ·simp only [M.upd,aA] at hi hj he;by_cases h1:id=i<;>by_cases h2:id=j
  ·omega
  ·subst h1;simp only [h2,if_false] at hj;exact hk.inj _ _ hl hj he
  ·subst h2;simp only [h1,if_false] at hi;exact hk.inj _ _ hi hl he
  ·simp only [h1,h2,if_false] at hi hj;exact hk.inj _ _ hi hj he
 ·simp only [M.upd] at hu |-;have h2:¬id=i:=fun h=>hu (h▸hk.used hl)
  simp only [aA,h2,if_false];exact hk.dom i hu
 ·exact Nat.le_trans hk.base hsz
 ·have hu:m.U i:=by
   by_cases hi:id=i
   ·subst hi;exact hk.used hl
   ·simp only [M.upd,aA,hi,if_false] at hg;exact hk.used (by rw [hg];simp)
  obtain ⟨cs0,fz0,h0,_⟩:=hev.kind i cs aa fz ety hu hg;exact hk.Bz i cs0 aa fz0 ety h0 q
def M.world (m:M) (w':World):M:=⟨w',m.h,m.β,m.U⟩
theorem iy {m:M} (hk:bF B S m) {w':World} (hb:∀k,k < m.w.heap.size->w'.heap[k]?=m.w.heap[k]?):ak B S m (m.world w') where
 cell b q u h1 h2:=by refine ⟨?_,h2⟩;rw [<-h1];exact World.cell?_of_block (w:=m.w) (a:=⟨b,q,none⟩) (hb b (Ea h1))
 used _ hu:=hu
 dead _ _ hd:=hd
 at_ _ _:=rfl
 kind id cs' bU gX dW _ h:=by
  refine ⟨cs',gX,h,?_⟩;have hlt:=hk.lt (id:=id) (by show af m.h id≠_;rw [show af m.h id=_ from h];simp)
  simp [World.shape?,M.world,hb _ hlt]
 rest b _ hb' hn:=⟨hb b hb',hn⟩
theorem qW {m:M} (hk:bF B S m) {w':World} (hb:∀k,k < m.w.heap.size->w'.heap[k]?=m.w.heap[k]?) (hsz:m.w.heap.size<=w'.heap.size):bF B S (m.world w'):=by
 have hev:=iy hk hb;refine ⟨fun id=>?_,hk.inj,hk.dom,Nat.le_trans hk.base hsz,fun b q hb'=>hk.fresh b q (Nat.le_trans hsz hb'),hk.Bz⟩
 unfold tT;by_cases hd:af m.h id=.dead
 ·show r9 B S _ _ (af m.h id);rw [hd];trivial
 ·exact hev.xZ (hb _ (hk.lt hd)) (hk.obj id)
end
end Go.Ey
namespace Go.Ey
open Go.RowKit
section
variable {w:World} {Sf:Nat->Nat->Prop}
theorem AY:∀{cs:List C} {us:List Value} {b o:Nat},aj (aJ w Sf) cs us->(∀i u,us[i]?=some u->w.cell? ⟨b,o+i,none⟩=some u/\Sf b (o+i))->bN w Sf cs b o
 |[],[],_,_,_,_=>by simp [bN]
 |c::cs,u::us,b,o,h,hc=>by
  simp only [bN];obtain ⟨h1,h2⟩:=hc 0 u (by simp)
  refine ⟨⟨u,by simpa using h1,by simpa using h2,h.1⟩,AY h.2 fun i v hv=>?_⟩
  have:=hc (i+1) v (by simpa using hv)
  rw [show o+1+i=o+(i+1) by omega]
  exact this
 |[],_::_,_,_,h,_=>h.elim
 |_::_,[],_,_,h,_=>h.elim
theorem qK:∀{cs:List C} {b o:Nat},bN w Sf cs b o->∃us:List Value,aj (aJ w Sf) cs us/\(∀i u,us[i]?=some u->w.cell? ⟨b,o+i,none⟩=some u/\Sf b (o+i))
 |[],_,_,_=>⟨[],trivial,by simp⟩
 |c::cs,b,o,h=>by
  simp only [bN] at h;obtain ⟨⟨u,h1,h2,h3⟩,h4⟩:=h;obtain ⟨us,h5,h6⟩:=qK h4;refine ⟨u::us,⟨h3,h5⟩,fun i v hv=>?_⟩
  cases i with
  |zero=>simp at hv;subst hv;exact ⟨by simpa using h1,by simpa using h2⟩
  |succ i=>
   have:=h6 i v (by simpa using hv)
   rw [show o+(i+1)=o+1+i by omega]
   exact this
theorem kY:∀(n:Nat) {cs:List C} {b o:Nat},bN w Sf cs b o->bN w Sf (cs.drop n) b (o+n)
 |0,_,_,_,h=>by simpa using h
 |n+1,[],_,_,_=>by simp [bN]
 |n+1,c::cs,b,o,h=>by
  simp only [bN] at h;have:=kY n h.2
  simp only [List.drop_succ_cons];rw [show o+(n+1)=o+1+n by omega]
  exact this
theorem sw:∀(n:Nat) {cs:List C} {b o:Nat},bN w Sf cs b o->bN w Sf (cs.take n) b o
 |0,_,_,_,_=>by simp [bN]
 |n+1,[],_,_,_=>by simp [bN]
 |n+1,c::cs,b,o,h=>by simp only [bN,List.take_succ_cons] at h |-;exact ⟨h.1,sw n h.2⟩
theorem aJ.oneCell {c:C} {u:Value} (h:aJ w Sf c u):u.oneCell'=true:=by
 cases c with
 |lit v=>
  simp only [aJ] at h;obtain ⟨rfl,h⟩:=h;unfold scalar at h;split at h<;>first|rfl|cases h
 |slice cs n=>
  simp only [aJ] at h;rcases h with ⟨rfl,_⟩|⟨a,cap,rfl,_⟩
  ·rfl
  ·rfl
end
theorem aj.mem_right {α β:Type} {R:α->β->Prop} {p:β->Prop} (h:∀a b,R a b->p b):∀{ax:List α} {bs:List β},aj R ax bs->∀b∈bs,p b
 |[],[],_,_,hb=>by simp at hb
 |_::_,_::_,h1,b,hb=>by
  simp only [List.mem_cons] at hb;rcases hb with rfl|hb
  ·exact h _ _ h1.1
  ·exact aj.mem_right h h1.2 b hb
 |[],_::_,h1,_,_=>h1.elim
 |_::_,[],h1,_,_=>h1.elim
section
variable {B:Nat} {S:Nat->Nat->Prop}
def M.grow (m:M) (slot:Nat):M:=⟨m.w,m.h,m.β,fun i=>m.U i\/i=slot⟩
theorem bE (m:M) (slot:Nat):ak B S m (m.grow slot):=
 ⟨fun _ _ _ h1 h2=>⟨h1,h2⟩,fun _ h=> .inl h,fun _ _ h=>h,fun _ _=>rfl,fun _ cs' _ gX _ _ h=>⟨cs',gX,h,rfl⟩,fun _ _ _ h=>⟨rfl,h⟩⟩
theorem jd {m:M} (hk:bF B S m) (slot:Nat):bF B S (m.grow slot):=by
 refine ⟨fun id=>?_,hk.inj,fun id h=>hk.dom id fun hu=>h (.inl hu),hk.base,hk.fresh,hk.Bz⟩
 exact (bE m slot).xZ rfl (hk.obj id)
theorem bF.arr {m:M} (hk:bF B S m) {id:Nat} {cs:List C} {aa fz ety:Nat} (ho:af m.h id=.arr cs aa fz ety):
  B<=m.β id/\∃us:List Value,m.w.heap[m.β id]?=some (.cells us.toArray ety (0,0))/\cs.length<=us.length/\aj (aJ m.w (Safe B S m)) cs (us.take cs.length):=by
 have h:=hk.obj id;unfold tT at h;rw [ho] at h;exact h
theorem bF.box {m:M} (hk:bF B S m) {id:Nat} {ds:List D} (ho:af m.h id=.box ds):
  B<=m.β id/\∃(us:List Value) (e:TypeId),m.w.heap[m.β id]?=some (.cells us.toArray e (0,0))/\aj (bu B S m) ds us:=by
 have h:=hk.obj id;unfold tT at h;rw [ho] at h;exact h
theorem eO {w:World} {b o:Nat} {us:List Value} {e:TypeId} {fr:Nat×Nat} (h:w.heap[b]?=some (.cells us.toArray e fr)):w.cell? ⟨b,o,none⟩=us[o]?:=by simp [World.cell?,h]
def M.heap (m:M) (h:Heap):M:=⟨m.w,h,m.β,m.U⟩
theorem Am {m:M} (hk:bF B S m) {id:Nat} {cs:List C} {aa fz ety gX:Nat} (ho:af m.h id=.arr cs aa fz ety) (hf:fz<=gX):
  ak B S m (m.heap ((id,.arr cs aa gX ety)::m.h)):=
 gF hk ho (o':=.arr cs aa gX ety) (w':=m.w) ⟨rfl,rfl,hf⟩ (fun _ _=>rfl) (fun _ _ _ h=>h) rfl
theorem Wy {m:M} (hk:bF B S m) {id:Nat} {cs:List C} {aa fz ety gX:Nat} (ho:af m.h id=.arr cs aa fz ety) (hf:fz<=gX):
  bF B S (m.heap ((id,.arr cs aa gX ety)::m.h)):=by
 have hev:=Am hk ho hf;refine oo hk (w':=m.w) (by rw [ho];simp) hev (fun _ _=>rfl) (Nat.le_refl _) ?_
 obtain ⟨h1,us,h2,h3,h4⟩:=hk.arr ho;exact ⟨h1,us,h2,h3,h4.mono fun x u h5=>aJ.mono hev.cell x u h5⟩
theorem Er {m:M} (hk:bF B S m) {d:D} {u:Value} (hr:bu B S m d u) {c:C} {us:List (Nat×Obj)} (hf:gM m.h d=some (c,us)):
  bF B S (m.heap (ah m.h us))/\ak B S m (m.heap (ah m.h us))/\aJ m.w (Safe B S (m.heap (ah m.h us))) c u:=by
 cases d with
 |c x=>
  simp only [gM,Option.some.injEq,Prod.mk.injEq] at hf;obtain ⟨rfl,rfl⟩:=hf;exact ⟨hk,ak.refl m,hr⟩
 |arr id off len=>
  simp only [gM] at hf;obtain ⟨hu,ad,cap,hv,hcap,hr⟩:=hr;cases ho:af m.h id with
  |dead=>rw [ho] at hf;cases hf
  |box ds=>rw [ho] at hf;cases hf
  |map ds=>rw [ho] at hf;cases hf
  |arr cs aa fz ety=>
   rw [ho] at hf hr;simp only at hf hr;split at hf
   case isFalse=>cases hf
   rename_i hlen;simp only [Option.some.injEq,Prod.mk.injEq] at hf;obtain ⟨rfl,rfl⟩:=hf;obtain ⟨hB,vs,hv1,hv2,hv3⟩:=hk.arr ho;have key:∃gX,off+len * aa<=gX/\bF B S (m.heap (ah m.h (if off+len * aa<=fz then [] else [(id,.arr cs aa (off+len * aa) ety)])))/\
     ak B S m (m.heap (ah m.h (if off+len * aa<=fz then [] else [(id,.arr cs aa (off+len * aa) ety)])))/\
     af (ah m.h (if off+len * aa<=fz then [] else [(id,.arr cs aa (off+len * aa) ety)])) id=.arr cs aa gX ety:=by
    by_cases hz:off+len * aa<=fz
    ·rw [if_pos hz];exact ⟨fz,hz,hk,ak.refl m,ho⟩
    ·rw [if_neg hz];exact ⟨off+len * aa,Nat.le_refl _,Wy hk ho (by omega),Am hk ho (by omega),by simp [ah,aA]⟩
   obtain ⟨gX,hz1,hk',hev,ho'⟩:=key;refine ⟨hk',hev,?_⟩;generalize (if off+len * aa<=fz then [] else [(id,Obj.arr cs aa (off+len * aa) ety)])=us at *
   simp only [aJ];have hsub:∀i c,((cs.drop off).take (len * aa))[i]?=some c->i < len * aa:=by
    intro i c h;have:=(List.getElem?_eq_some_iff.1 h).1
    simp at this;omega
   have hall:aj (aJ m.w (Safe B S (m.heap (ah m.h us)))) ((cs.drop off).take (len * aa)) (((vs.take cs.length).drop off).take (len * aa)):=
    ((hv3.mono fun x u h5=>aJ.mono hev.cell x u h5).drop off).take _
   have hcs:bN m.w (Safe B S (m.heap (ah m.h us))) ((cs.drop off).take (len * aa)) (m.β id) off:=by
    refine AY hall fun i u hi=>?_
    have hi2:i < len * aa:=by
     have:=(List.getElem?_eq_some_iff.1 hi).1
     simp at this;omega
    have hi3:vs[off+i]?=some u:=by
     rw [List.getElem?_take_of_lt hi2,List.getElem?_drop,List.getElem?_take_of_lt (by omega)] at hi
     exact hi
    refine ⟨by rw [eO hv1];exact hi3,hk.Bz id cs aa fz ety ho _,fun j=>?_⟩
    ·show match af (ah m.h us) j with|.dead=>True|.box _=>m.β j≠m.β id|.map _=>m.β j≠m.β id|.arr _ _ fz _=>m.β j=m.β id->off+i < fz
     by_cases hj:j=id
     ·subst hj;rw [ho'];exact fun _=>by omega
     ·cases hoj:af (ah m.h us) j with
      |dead=>trivial
      |box ds=>exact fun e=>hj (hk'.inj j id (by show af (ah m.h us) j≠_;rw [hoj];simp) (by show af (ah m.h us) id≠_;rw [ho'];simp) e)
      |map ds=>exact fun e=>hj (hk'.inj j id (by show af (ah m.h us) j≠_;rw [hoj];simp) (by show af (ah m.h us) id≠_;rw [ho'];simp) e)
      |arr cs2 OL YC Rf=>exact fun e=>absurd (hk'.inj j id (by show af (ah m.h us) j≠_;rw [hoj];simp) (by show af (ah m.h us) id≠_;rw [ho'];simp) e) hj
   rcases hr with ⟨rfl,_⟩|⟨rfl,rfl⟩
   ·exact .inr ⟨⟨m.β id,off,none⟩,cap,hv,hcap,fun _=>rfl,hcs⟩
   ·refine .inr ⟨ad,0,hv,Nat.le_refl _,fun h=>?_,?_⟩
    ·simp at h
    ·simp [bN]
 |full cs n=>
  simp only [gM,Option.some.injEq,Prod.mk.injEq] at hf;obtain ⟨rfl,rfl⟩:=hf;refine ⟨hk,ak.refl m,?_⟩;simp only [aJ];rcases hr with hr|⟨a,h1,h2,h3⟩
  ·exact .inl hr
  ·exact .inr ⟨a,n,h1,Nat.le_refl _,h2,h3⟩
 |fK=>simp [gM] at hf
 |loc id off=>simp [gM] at hf
 |bJ f caps=>simp [gM] at hf
 |mp id=>simp [gM] at hf
 |ptr cs=>simp [gM] at hf
 |agg ds=>simp [gM] at hf
 |dB ds=>simp [gM] at hf
theorem aU:∀(us vs:List (Nat×Obj)) (h:Heap),ah h (us++vs)=ah (ah h us) vs
 |[],_,_=>rfl
 |u::us,vs,h=>by simp only [List.cons_append,ah];exact aU us vs (u::h)
theorem uU:∀{ds:List D} {us:List Value} {m:M},bF B S m->aj (bu B S m) ds us->∀{cs:List C} {xs:List (Nat×Obj)},eD m.h ds=some (cs,xs)->
  bF B S (m.heap (ah m.h xs))/\ak B S m (m.heap (ah m.h xs))/\aj (aJ m.w (Safe B S (m.heap (ah m.h xs)))) cs us
 |[],[],m,hk,_,cs,xs,hf=>by simp only [eD,Option.some.injEq,Prod.mk.injEq] at hf;obtain ⟨rfl,rfl⟩:=hf;exact ⟨hk,ak.refl m,trivial⟩
 |d::ds,u::us,m,hk,hr,cs,xs,hf=>by
  simp only [eD,Option.bind_eq_bind,Option.bind_eq_some_iff,Prod.exists,Option.some.injEq,Prod.mk.injEq] at hf;obtain ⟨c,x,h1,cs',xs',h2,rfl,rfl⟩:=hf;obtain ⟨k1,k2,k3⟩:=Er hk hr.1 h1;have hr2:aj (bu B S (m.heap (ah m.h x))) ds us:=hr.2.mono fun _ _ h=>k2.jK h
  obtain ⟨k4,k5,k6⟩:=uU (m:=m.heap (ah m.h x)) k1 hr2 h2;rw [aU];exact ⟨k4,k2.trans k5,aJ.mono k5.cell c u k3,k6⟩
 |[],_::_,_,_,hr,_,_,_=>hr.elim
 |_::_,[],_,_,hr,_,_,_=>hr.elim
theorem qI {m:M} (hk:bF B S m) {d:D} {u:Value} (hr:fO B S m d u) {v:V} {xs:List (Nat×Obj)} (hf:eP m.h d=some (v,xs)):
  bF B S (m.heap (ah m.h xs))/\ak B S m (m.heap (ah m.h xs))/\bA m.w (Safe B S (m.heap (ah m.h xs))) v u:=by
 have one:∀d,bu B S m d u->(do let (c,y) <-gM m.h d;some (V.one c,y))=some (v,xs)->
   bF B S (m.heap (ah m.h xs))/\ak B S m (m.heap (ah m.h xs))/\bA m.w (Safe B S (m.heap (ah m.h xs))) v u:=by
  intro d hr hf;simp only [Option.bind_eq_bind,Option.bind_eq_some_iff,Prod.exists,Option.some.injEq,Prod.mk.injEq] at hf;obtain ⟨c,x,h1,rfl,rfl⟩:=hf;exact Er hk hr h1
 cases d with
 |agg ds=>
  simp only [eP,Option.bind_eq_bind,Option.bind_eq_some_iff,Prod.exists,Option.some.injEq,Prod.mk.injEq] at hf;obtain ⟨cs,x,h1,rfl,rfl⟩:=hf;obtain ⟨us,rfl,h2⟩:=hr;obtain ⟨k1,k2,k3⟩:=uU hk h2 h1;exact ⟨k1,k2,us,rfl,k3⟩
 |fK=>exact one .fK hr hf
 |c x=>exact one (.c x) hr hf
 |loc id off=>exact one (.loc id off) hr hf
 |arr id off len=>exact one (.arr id off len) hr hf
 |ptr cs=>exact one (.ptr cs) hr hf
 |full cs n=>exact one (.full cs n) hr hf
 |bJ f caps=>exact one (.bJ f caps) hr hf
 |mp id=>exact one (.mp id) hr hf
 |dB ds=>exact one (.dB ds) hr hf
theorem Ad:∀{ds:List D} {us:List Value} {m:M},bF B S m->aj (fO B S m) ds us->∀{vs:List V} {xs:List (Nat×Obj)},bY m.h ds=some (vs,xs)->
  bF B S (m.heap (ah m.h xs))/\ak B S m (m.heap (ah m.h xs))/\aj (bA m.w (Safe B S (m.heap (ah m.h xs)))) vs us
 |[],[],m,hk,_,cs,xs,hf=>by simp only [bY,Option.some.injEq,Prod.mk.injEq] at hf;obtain ⟨rfl,rfl⟩:=hf;exact ⟨hk,ak.refl m,trivial⟩
 |d::ds,u::us,m,hk,hr,cs,xs,hf=>by
  simp only [bY,Option.bind_eq_bind,Option.bind_eq_some_iff,Prod.exists,Option.some.injEq,Prod.mk.injEq] at hf;obtain ⟨c,x,h1,cs',xs',h2,rfl,rfl⟩:=hf;obtain ⟨k1,k2,k3⟩:=qI hk hr.1 h1;have hr2:aj (fO B S (m.heap (ah m.h x))) ds us:=hr.2.mono fun _ _ h=>k2.wz h
  obtain ⟨k4,k5,k6⟩:=Ad (m:=m.heap (ah m.h x)) k1 hr2 h2;rw [aU];exact ⟨k4,k2.trans k5,bA.mono k5.cell k3,k6⟩
 |[],_::_,_,_,hr,_,_,_=>hr.elim
 |_::_,[],_,_,hr,_,_,_=>hr.elim
end
end Go.Ey
namespace Go.Ey
open Go.RowKit
structure Src (P:Program) (w:World) (size n:Nat) (x:Value) (news:List Value):Prop where
 len:Builtin.lenOf x=pure n
 cells:news.length=n * size
 first:∀w':World,w'.heap=w.heap->∀k,k<=n->(Builtin.firstCells size k x).run P w'=.ok (news.take (k * size)).toArray w'
section
variable {P:Program} {w:World}
theorem Src.all {size n:Nat} {x:Value} {news:List Value} (h:Src P w size n x news) {w':World} (hw:w'.heap=w.heap):(Builtin.firstCells size n x).run P w'=.ok news.toArray w':=by
 have h1:=h.first w' hw n (Nat.le_refl _);rw [List.take_of_length_le (by rw [h.cells];exact Nat.le_refl _)] at h1
 exact h1
theorem ku (b o j:Nat):(⟨b,o,none⟩:Addr).add j=⟨b,o+j,none⟩:=by unfold Addr.add;split<;>simp_all
theorem xy {size n cap:Nat} {a:Addr} {news:List Value} (hs:news≠[]->a.spot=none) (hl:news.length=n * size)
  (hc:∀j v,news[j]?=some v->w.cell? ⟨a.block,a.off+j,none⟩=some v):Src P w size n (.slice (some a) n cap) news:=by
 refine ⟨rfl,hl,fun w' hw k hk=>?_⟩
 have hk':k * size<=news.length:=by rw [hl];exact Nat.mul_le_mul_right _ hk
 refine run_firstCells_some (P:=P) w' size k a n cap _ (by simp;omega) fun j v hv=>?_
 have hj:j < k * size:=by have:=(List.getElem?_eq_some_iff.1 hv).1;simp at this;omega
 rw [List.getElem?_take_of_lt hj] at hv;have hne:news≠[]:=by intro e;rw [e] at hv;simp at hv
 obtain ⟨b,o,sp⟩:=a;have:sp=none:=hs hne
 subst this;rw [ku];have:=hc j v hv
 simp only [World.cell?,hw] at this |-;exact this
theorem Kv {size:Nat}:Src P w size 0 (.slice none 0 0) []:=by
 refine ⟨rfl,by simp,fun w' _ k hk=>?_⟩
 have:k=0:=by omega
 subst this;simp [Builtin.firstCells]
theorem I6 (s:ByteArray):Src P w 1 s.size (.string s) (s.data.toList.map fun b=> .int .u8 b.toNat):=by
 refine ⟨rfl,by rw [List.length_map,Nat.mul_one];rfl,fun w' _ k hk=>?_⟩
 simp only [Builtin.firstCells];have h:(s.extract 0 k).data=(s.data.extract 0 k):=by simp [ByteArray.extract,ByteArray.copySlice]
 rw [h];show Result.ok _ _=_
 congr 1;apply Array.ext';simp [Array.toList_extract,List.extract]
section append
variable {t t' ty e:TypeId} {i:TypeInfo} {z:Value} {d':TypeDesc}
theorem Ei (ht:P.underlying t=some (.slice e)) (ht':P.underlying t'=some d') (hd:∀k,d'≠.int k) (hi:P.info? e=some i) {x:Value} {news:List Value} (h:Src P w i.size 0 x news):
  (Builtin.append_ #[t,t'] ty #[.slice none 0 0,x]).run P w=.ok (.slice none 0 0) w:=by
 have hf:=h.all (w':=w) rfl;simp [Builtin.append_,run_underlying ht,run_underlying ht',sizeOf,typeInfo,hi,h.len,hf]
theorem uS (ht:P.underlying t=some (.slice e)) (ht':P.underlying t'=some d') (hd:∀k,d'≠.int k) (hi:P.info? e=some i) {x:Value} {news:List Value} (h:Src P w i.size 0 x news) (ad:Addr) (sLen sCap:Nat) (hc:sLen<=sCap):
  (Builtin.append_ #[t,t'] ty #[.slice (some ad) sLen sCap,x]).run P w=.ok (.slice (some ad) sLen sCap) w:=by
 have hf:=h.all (w':=w) rfl;have hn:news=[]:=List.eq_nil_of_length_eq_zero (by simpa using h.cells)
 subst hn;simp [Builtin.append_,run_underlying ht,run_underlying ht',sizeOf,typeInfo,hi,h.len,hf,storeCells,hc]
theorem Iq (ht:P.underlying t=some (.slice e)) (ht':P.underlying t'=some d') (hd:∀k,d'≠.int k) (hi:P.info? e=some i) (hz:i.zero=some z) {x:Value} {n:Nat} {news:List Value} (h:Src P w i.size n x news)
  (h0:0 < n) (h63:(n:Int)<=9223372036854775807) (h48:n * i.bytes<=281474976710656):
  (Builtin.append_ #[t,t'] ty #[.slice none 0 0,x]).run P w=
   .ok (.slice (some ⟨w.heap.size,0,none⟩) n (grownCap w n 0 e)) (w.drew.alloc (.cells (news.toArray++Builtin.zeroCells z.cells (grownCap w n 0 e - n)) e)):=by
 have hn:n≠0:=by omega
 have h63':¬(9223372036854775807 < (n:Int)):=by omega
 have h48':¬(281474976710656 < Builtin.nextslicecap n 0 * i.bytes):=by rw [nextslicecap_zero h0];omega
 have hf:=h.all (w':=w.drew) rfl;simp [Builtin.append_,run_underlying ht,run_underlying ht',sizeOf,typeInfo,zeroValue,hi,hz,h.len,hn,h63',h48',Question.forced,run_firstCells_none,hf,newRow,grownCap]
theorem uT (ht:P.underlying t=some (.slice e)) (ht':P.underlying t'=some d') (hd:∀k,d'≠.int k) (hi:P.info? e=some i) (hz:i.zero=some z) {x:Value} {n:Nat} {news:List Value} (h:Src P w i.size n x news)
  (b:Addr) (sLen sCap:Nat) (olds:List Value) (hlo:olds.length=sLen * i.size) (holds:∀j v,olds[j]?=some v->w.cell? (b.add j)=some v)
  (hg:sCap < sLen+n) (h63:((sLen+n:Nat):Int)<=9223372036854775807) (hfit:Builtin.nextslicecap (sLen+n) sCap * i.bytes<=281474976710656):
  (Builtin.append_ #[t,t'] ty #[.slice (some b) sLen sCap,x]).run P w=
   .ok (.slice (some ⟨w.heap.size,0,none⟩) (sLen+n) (grownCap w (sLen+n) sCap e))
    (w.drew.alloc (.cells (olds.toArray++news.toArray++Builtin.zeroCells z.cells (grownCap w (sLen+n) sCap e - (sLen+n))) e)):=by
 have hn:¬(sLen+n<=sCap):=by omega
 have h63':¬(9223372036854775807 < ((sLen:Int)+(n:Int))):=by omega
 have h48':¬(281474976710656 < Builtin.nextslicecap (sLen+n) sCap * i.bytes):=by omega
 have hf:=h.all (w':=w.drew) rfl;have hfo:=run_firstCells_some (P:=P) w.drew i.size sLen b sLen sCap olds hlo (by simpa using holds)
 simp [Builtin.append_,run_underlying ht,run_underlying ht',sizeOf,typeInfo,zeroValue,hi,hz,h.len,hn,h63',h48',Question.forced,hf,hfo,newRow,grownCap];congr 2;apply Array.ext';simp [List.append_assoc]
theorem DT (ht:P.underlying t=some (.slice e)) (ht':P.underlying t'=some d') (hd:∀k,d'≠.int k) (hi:P.info? e=some i) {x:Value} {n:Nat} {news:List Value} (h:Src P w i.size n x news)
  (g sLen sCap:Nat) (cur:Array Value) (hg:w.heap[g]?=some (.cells cur e (0,0))) (h1:∀u∈news,u.oneCell'=true)
  (hroom:sLen+n<=sCap) (hfit:sLen * i.size+news.length<=cur.size):
  (Builtin.append_ #[t,t'] ty #[.slice (some ⟨g,0,none⟩) sLen sCap,x]).run P w=
   .ok (.slice (some ⟨g,0,none⟩) (sLen+n) sCap) (w.setRow g (cur.toList.take (sLen * i.size)++news++cur.toList.drop (sLen * i.size+news.length)).toArray):=by
 have hf:=h.all (w':=w) rfl;have hst:=run_storeCells_at P g (sLen * i.size) e news 0 cur w hg (by simpa using hfit) h1
 simp only [Nat.add_zero] at hst;simp [Builtin.append_,run_underlying ht,run_underlying ht',sizeOf,typeInfo,hi,h.len,hroom,hf,Addr.add_lit,hst]
end append
theorem SC {dT sT ty e:TypeId} {i:TypeInfo} (ht:P.underlying dT=some (.slice e)) (hi:P.info? e=some i) {x:Value} {n:Nat} {news:List Value} (h:Src P w i.size n x news)
  (g o dLen dCap:Nat) (cur:Array Value) (t:TypeId) (hg:w.heap[g]?=some (.cells cur t (0,0))) (h1:∀u∈news,u.oneCell'=true) (hfit:o+dLen * i.size<=cur.size):
  (Builtin.copy_ #[dT,sT] ty #[.slice (some ⟨g,o,none⟩) dLen dCap,x]).run P w=
   .ok (goInt (Nat.min n dLen:Nat)) (w.setRow g (cur.toList.take o++news.take (Nat.min n dLen * i.size)++cur.toList.drop (o+(news.take (Nat.min n dLen * i.size)).length)).toArray):=by
 have hmin:Nat.min n dLen<=n:=Nat.min_le_left _ _;have Qu:Nat.min n dLen<=dLen:=Nat.min_le_right _ _;have hf:=h.first w rfl (Nat.min n dLen) hmin;have hlen:(news.take (Nat.min n dLen * i.size)).length=Nat.min n dLen * i.size:=by
  rw [List.length_take,h.cells];have:=Nat.mul_le_mul_right i.size hmin
  omega
 have hle:=Nat.mul_le_mul_right i.size Qu;have hst:=run_storeCells_at P g o t (news.take (Nat.min n dLen * i.size)) 0 cur w hg (by rw [hlen];omega) (fun u hu=>h1 u (List.mem_of_mem_take hu))
 simp only [Nat.add_zero] at hst;simp [Builtin.copy_,run_underlying ht,sizeOf,typeInfo,hi,h.len,hf,hst]
theorem BI {dT sT ty e:TypeId} {i:TypeInfo} (ht:P.underlying dT=some (.slice e)) (hi:P.info? e=some i) {x:Value} {n:Nat} {news:List Value} (h:Src P w i.size n x news) (a:Addr) (dCap:Nat):
  (Builtin.copy_ #[dT,sT] ty #[.slice (some a) 0 dCap,x]).run P w=.ok (goInt 0) w:=by
 have hf:=h.first w rfl 0 (Nat.zero_le _);simp at hf;simp [Builtin.copy_,run_underlying ht,sizeOf,typeInfo,hi,h.len,hf,storeCells]
end
section
variable {B:Nat} {S:Nat->Nat->Prop} {P:Program}
theorem uw {m:M} {cs:List C} {n aa cap:Nat} {a:Addr} (h2:cs≠[]->a.spot=none) (h3:bN m.w (Safe B S m) cs a.block a.off) (hl:cs.length=n * aa):
  ∃news,aj (aJ m.w (Safe B S m)) cs news/\Src P m.w aa n (.slice (some a) n cap) news:=by
 obtain ⟨us,h4,h5⟩:=qK h3;refine ⟨us,h4,xy (fun hne=>h2 fun e=>hne ?_) (by rw [<-h4.len];exact hl) fun j v hv=>(h5 j v hv).1⟩
 subst e;cases us with
 |nil=>rfl
 |cons _ _=>exact h4.elim
theorem uO {m:M} (hk:bF B S m) {d:D} {u:Value} (hr:aX B S m d u) {aa n:Nat} {cs:List C} (hs:bM m.h aa d=some (cs,n)) (hl:cs.length=n * aa):
  ∃news,aj (aJ m.w (Safe B S m)) cs news/\Src P m.w aa n u news:=by
 cases d with
 |c x=>
  replace hr:aJ m.w (Safe B S m) x u:=hr;cases x with
  |lit v=>
   simp only [aJ] at hr;obtain ⟨rfl,hsc⟩:=hr;unfold bM at hs;split at hs<;>try (simp only [reduceCtorEq,D.c.injEq] at *;done)
   ·rename_i s h;simp only [D.c.injEq,C.lit.injEq] at h;subst h;split at hs
    ·rename_i he;subst he;simp only [Option.some.injEq,Prod.mk.injEq] at hs;obtain ⟨rfl,rfl⟩:=hs;refine ⟨_,?_,I6 s⟩;clear hl hsc;generalize s.data.toList=l;induction l with
     |nil=>trivial
     |cons b l ih=>exact ⟨⟨rfl,rfl⟩,ih⟩
    ·cases hs
  |slice cs' n'=>
   simp only [aJ] at hr;simp only [bM] at hs;split at hs
   case isFalse=>cases hs
   simp only [Option.some.injEq,Prod.mk.injEq] at hs;obtain ⟨rfl,rfl⟩:=hs;rcases hr with ⟨rfl,rfl,rfl⟩|⟨a,cap,rfl,h1,h2,h3⟩
   ·exact ⟨[],trivial,Kv⟩
   ·exact uw h2 h3 hl
 |full cs' n'=>
  simp only [bM] at hs;split at hs
  case isFalse=>cases hs
  simp only [Option.some.injEq,Prod.mk.injEq] at hs;obtain ⟨rfl,rfl⟩:=hs;rcases hr with ⟨rfl,rfl,rfl⟩|⟨a,rfl,h2,h3⟩
  ·exact ⟨[],trivial,Kv⟩
  ·exact uw h2 h3 hl
 |arr id off len=>
  obtain ⟨hu,ad,cap,hv,hcap,hr⟩:=hr;simp only [bM] at hs;cases ho:af m.h id with
  |dead=>rw [ho] at hs;cases hs
  |box ds=>rw [ho] at hs;cases hs
  |map ds=>rw [ho] at hs;cases hs
  |arr cs0 Ym fz ety=>
   rw [ho] at hs hr;simp only at hs hr;split at hs
   case isFalse=>cases hs
   rename_i hc;obtain ⟨rfl,hlen⟩:=hc;simp only [Option.some.injEq,Prod.mk.injEq] at hs;obtain ⟨rfl,rfl⟩:=hs;obtain ⟨hB,vs,hv1,hv2,hv3⟩:=hk.arr ho;have hall:=(hv3.drop off).take (len * Ym);refine ⟨_,hall,?_⟩;subst hv;rcases hr with ⟨rfl,_⟩|⟨rfl,rfl⟩
   ·refine xy (fun _=>rfl) (by rw [<-hall.len];exact hl) fun j v hv=>?_
    have hj:j < len * Ym:=by have:=(List.getElem?_eq_some_iff.1 hv).1;simp at this;omega
    rw [List.getElem?_take_of_lt hj,List.getElem?_drop,List.getElem?_take_of_lt (by omega)] at hv
    show m.w.cell? ⟨m.β id,off+j,none⟩=_
    rw [eO hv1];exact hv
   ·refine xy (fun h=>?_) (by simp) fun j v hv=>?_
    ·simp at h
    ·simp at hv
 |fK=>simp [bM] at hs
 |loc id off=>simp [bM] at hs
 |bJ f caps=>simp [bM] at hs
 |mp id=>simp [bM] at hs
 |ptr cs=>simp [bM] at hs
 |agg ds=>simp [bM] at hs
 |dB ds=>simp [bM] at hs
end
end Go.Ey
