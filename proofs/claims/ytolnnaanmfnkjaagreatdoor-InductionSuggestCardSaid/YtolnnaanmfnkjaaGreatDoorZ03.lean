/- A part. -/
import Derived.Test.YtolnnaanmfnkjaaGreatDoorZ01
import GoSem.Core.Region
import GoSem.Core.Layout
import GoSem.Op.Equal
import Derived.Below
set_option linter.all false
namespace Go.Ey
def zb:Value->Bool
 |.slice none 0 0=>true
 |_=>false
def bI:Operand->Option X
 |.tmp t=>some (.t t)
 |.const v=>if scalar v||zb v then some (.k v) else none
 |.func f=>some (.f f)
 |_=>none
def iw:List Operand->Option (List X)
 |[]=>some []
 |o::os=>do
  let x <-bI o
  let xs <-iw os
  some (x::xs)
def qg:Option Operand->Option (Option X)
 |none=>some none
 |some o=>do
  let x <-bI o
  some (some x)
def Hl (P:Program) (t:TypeId):Option Bool:=
 match P.underlying t with
 |some (.struct _)|some (.array _ _)=>some true
 |some _=>some false
 |none=>none
def zeroOf (P:Program) (t:TypeId):Option (List Value):=do
 let i <-P.info? t
 let z <-i.zero
 if (z.cells.toList.all fun v=>scalar v||zb v)/\z.cells.size=i.size then some z.cells.toList else none
def fieldsOf (P:Program) (t:TypeId):Option (List Field):=
 match P.underlying t with
 |some (.struct fs)=>some fs.toList
 |_=>none
def fH (P:Program) (t:TypeId):Option TypeId:=
 match P.underlying t with
 |some (.slice e)=>some e
 |_=>none
def compFields (P:Program) (fs:List Field):List (Nat×Operand)->Option (List (Nat×Nat×X))
 |[]=>some []
 |(i,o)::r=>do
  let f <-fs[i]?
  let info <-P.info? f.type
  let x <-bI o
  let ps <-compFields P fs r
  some ((f.offset,info.size,x)::ps)
def yx (size:Nat):List (Nat×Operand)->Option (List (Nat×Nat×X))
 |[]=>some []
 |(i,o)::r=>do
  let x <-bI o
  let ps <-yx size r
  some ((i * size,size,x)::ps)
def AR (P:Program) (fs:List Field):Bool:=fs.all fun f=>(P.info? f.type).isSome
def fZ (P:Program) (t:TypeId):Option Nat:=
 match P.underlying t with
 |some (.int _)=>some 0
 |some .string=>some 1
 |some .bool=>some 2
 |_=>none
def tN (P:Program):Nat->List Field->Option (List Nat)
 |_,[]=>some []
 |j,f::fs=>do
  let k <-fZ P f.type
  let ks <-tN P (j+1) fs
  if f.offset=j/\f.name≠ "_" then some (k::ks) else none
def N9 (ks:List Nat) (op:BinOp) (x y:X):Option Ins:=
 match op with
 |.eql=>some (.eqs ks false x y)
 |.neq=>some (.eqs ks true x y)
 |_=>none
def qi (P:Program) (gp:Nat->Nat) (op:Op):Option Ins:=
 match op with
 |.move x|.assign x=>do
  let x <-bI x
  some (.YY x)
 |.pick c a b=>do
  let c <-bI c
  let a <-bI a
  let b <-bI b
  some (.pick c a b)
 |.alloc t=>do
  let z <-zeroOf P t
  some (.alloc z)
 |.box _ x=>do
  let x <-bI x
  some (.box x)
 |.build t parts=>do
  let fs <-fieldsOf P t
  let z <-zeroOf P t
  let ps <-compFields P fs parts.toList
  if AR P fs then some (.build z ps) else none
 |.buildSlice t len parts=>do
  let e <-fH P t
  let i <-P.info? e
  let z <-zeroOf P e
  let ps <-yx i.size parts.toList
  if len * i.size<=16777216/\0 < i.size then some (.lits i.size e len z ps) else none
 |.load t a=>do
  let agg <-Hl P t
  let i <-P.info? t
  let x <-bI a
  some (.load agg i.size x)
 |.store t a v=>do
  let i <-P.info? t
  let a <-bI a
  let v <-bI v
  some (.store i.size a v)
 |.nilCheck x=>do
  let x <-bI x
  some (.FE x)
 |.binOp op t x y _=>do
  let x <-bI x
  let y <-bI y
  match P.underlying t with
  |some .bool=>some (.bin op true x y)
  |some (.int _)=>some (.bin op false x y)
  |some .string=>some (.bin op false x y)
  |some (.struct fs)=>do
   let ks <-tN P 0 fs.toList
   if P.stoodInHeld t=false/\P.eqGuardType P.depth t=false then N9 ks op x y else none
  |_=>none
 |.unOp op _ x=>do
  let x <-bI x
  some (.un op x)
 |.convert src dst x=>do
  let x <-bI x
  match P.underlying src,P.underlying dst with
  |some (.int _),some (.int k)=>some (.conv k x)
  |some (.slice e),some .string=>(match P.underlying e with
   |some (.int .u8)=>some (.toStr x)
   |_=>none)
  |_,_=>none
 |.makeSlice t l c=>do
  let e <-fH P t
  let i <-P.info? e
  let z <-zeroOf P e
  let l <-bI l
  let c <-bI c
  if 0 < i.size then some (.mk i.size e i.bytes z l c) else none
 |.slice t x lo hi none=>do
  let x <-bI x
  let lo <-qg lo
  let hi <-qg hi
  match P.underlying t with
  |some .string=>some (.sls x lo hi)
  |some (.slice e)=>do
   let i <-P.info? e
   some (.slc i.size x lo hi)
  |_=>none
 |.slice t x lo (some hi) (some mx)=>do
  let x <-bI x
  let lo <-qg lo
  let hi <-bI hi
  let mx <-bI mx
  match P.underlying t with
  |some (.slice e)=>do
   let i <-P.info? e
   some (.clip i.size x lo hi mx)
  |_=>none
 |.makeFunc (.func f) first captured=>do
  let xs <-iw captured.toList
  if first.size=0 then some (.mkf f xs) else none
 |.fieldAddr t x f=>do
  let fs <-fieldsOf P t
  let fl <-fs[f]?
  let i <-P.info? fl.type
  let x <-bI x
  if 0 < i.size then some (.O4 fl.offset x) else none
 |.field t x f=>do
  let fs <-fieldsOf P t
  let fl <-fs[f]?
  let i <-P.info? fl.type
  let agg <-Hl P fl.type
  let x <-bI x
  some (.fld fl.offset agg i.size x)
 |.indexAddr t x i=>do
  let e <-fH P t
  let info <-P.info? e
  let x <-bI x
  let i <-bI i
  some (.Gt info.size x i)
 |.index t x i=>do
  let x <-bI x
  let i <-bI i
  match P.underlying t with
  |some .string=>some (.BV x i)
  |_=>none
 |.extract x i=>do
  let x <-bI x
  some (.ext x i)
 |.call { callee:=.value (.func f),args,argTypes:=_}=>do
  let xs <-iw args.toList
  some (match gp f with|0=> .call f xs|1=> .gU f 0 xs|3=> .lH f xs|4=> .gU f 2 xs|_=> .gU f 1 xs)
 |.call { callee:=.value (.tmp t),args,argTypes:=_}=>do
  let xs <-iw args.toList
  some (.jv (.t t) xs)
 |.call { callee:=.builtin b,args,argTypes}=>do
  let xs <-iw args.toList
  match b,xs,argTypes.toList with
  |.len,[x],[t]=>(match P.underlying t with
   |some .string=>some (.len true x)
   |some (.slice _)=>some (.len false x)
   |_=>none)
  |.append,[x,y],[t,t']=>do
   let e <-fH P t
   let i <-P.info? e
   let _ <-zeroOf P e
   (match P.underlying t' with
   |some (.slice _)=>if 0 < i.size then some (.app i.size e i.bytes x y) else none
   |some .string=>if 0 < i.size then some (.app i.size e i.bytes x y) else none
   |_=>none)
  |.copy,[x,y],[t,_]=>do
   let e <-fH P t
   let i <-P.info? e
   if 0 < i.size then some (.Tf i.size x y) else none
  |.max,[x,y],_=>some (.mx x y)
  |.min,[x,y],_=>some (.mn x y)
  |_,_,_=>none
 |_=>none
def Fh (_:Program) (_:Op):Option Ins:=none
def GY (P:Program) (gp:Nat->Nat) (op:Op):Option Ins:=
 match Fh P op with
 |some i=>some i
 |none=>match qi P gp op with
  |some i=>if wQ i then none else some i
  |none=>none
def U5 (nt:Nat):Option Tmp->Bool
 |none=>true
 |some t=>decide (t < nt)
def zx (P:Program) (gp:Nat->Nat) (nt:Nat) (ops:Array Oper) (o:Oper):Option gD:=do
 let i <-GY P gp o.op
 if U5 nt o.dst=false then none else
 match o.guard with
 |none=>some ⟨o.dst,i,none⟩
 |some (j,want)=>do
  let g <-ops[j]?
  let t <-g.dst
  some ⟨o.dst,i,some (t,want)⟩
def gZ (P:Program) (gp:Nat->Nat) (nt:Nat) (ops:Array Oper):List Oper->Option (List gD)
 |[]=>some []
 |o::os=>do
  let i <-zx P gp nt ops o
  let is <-gZ P gp nt ops os
  some (i::is)
def EW (acc:List Nat):List Edge->Nat
 |[]=>0
 |e::es=>if Region.binds .any e then ((1 <<< e.on)|||acc.getD e.on 0)|||EW acc es else EW acc es
def waits (acc:List Nat):List Oper->List Nat
 |[]=>acc
 |o::os=>waits (acc++[EW acc o.after.toList]) os
def La:Nat->List Oper->Bool
 |_,[]=>true
 |k,o::os=>(o.after.toList.all fun e=>!Region.binds .any e||decide (e.on < k)) && La (k+1) os
def ve:List gD->Bool
 |[]=>true
 |i::is=>(match i.ins with|.gU _ _ _|.jv _ _=>false|_=>true) && ve is
def comp (P:Program) (gp:Nat->Nat) (nt:Nat):Code->Option gQ
 |.skip=>some .skip
 |.ret=>some .ret
 |.exit id=>some (.exit id)
 |.region _ ops false=>do
  let is <-gZ P gp nt ops ops.toList
  some (.region is)
 |.region _ ops true=>do
  let is <-gZ P (fun f=>if gp f=1 then 3 else if gp f=4 then 4 else 0) nt ops ops.toList
  if La 0 ops.toList=true then (if ve is then some (.draw is (waits [] ops.toList)) else if MK is (waits [] ops.toList)=true then some (.mix is (waits [] ops.toList)) else none) else none
 |.seq a b=>do
  let a <-comp P gp nt a
  let b <-comp P gp nt b
  some (.seq a b)
 |.cond c a b=>do
  let c <-bI c
  let a <-comp P gp nt a
  let b <-comp P gp nt b
  some (.cond c a b)
 |.block id c=>do
  let c <-comp P gp nt c
  some (.block id c)
 |.loop c=>do
  let c <-comp P gp nt c
  some (.loop c)
 |_=>none
def yf (P:Program):List ResultVar->Option (List Res)
 |[]=>some []
 |.tmp t::r=>do
  let rs <-yf P r
  some (.tmp t::rs)
 |.cell a t::r=>do
  let agg <-Hl P t
  let i <-P.info? t
  let rs <-yf P r
  some (.cell a agg i.size::rs)
def Ku (P:Program) (gp:Nat->Nat) (fn:Func):Option Lh:=do
 let c <-fn.body
 let c <-comp P gp fn.ntmps c
 let rs <-yf P fn.results.toList
 if fn.params.size+fn.nfree<=fn.ntmps then some ⟨fn.params.size+fn.nfree,rs,c⟩ else none
open RowKit
section
variable (w:World) (Sf:Nat->Nat->Prop)
mutual
def bJ:C->Value->Prop
 |.lit v,u=>u=v/\scalar v=true
 |.slice cs n,u=>(u=.slice none 0 0/\n=0/\cs=[])\/∃a cap,u=.slice (some a) n cap/\n<=cap/\(cs≠[]->a.spot=none)/\fo cs a.block a.off
def fo:List C->Nat->Nat->Prop
 |[],_,_=>True
 |c::cs,b,o=>(∃u,w.cell? ⟨b,o,none⟩=some u/\Sf b o/\bJ c u)/\fo cs b (o+1)
end
end
mutual
theorem bJ.mono {w w':World} {Sf Xd:Nat->Nat->Prop} (h:∀b o u,w.cell? ⟨b,o,none⟩=some u->Sf b o->w'.cell? ⟨b,o,none⟩=some u/\Xd b o):
  ∀(c:C) (u:Value),bJ w Sf c u->bJ w' Xd c u
 |.lit v,u,hr=>by simpa [bJ] using hr
 |.slice cs n,u,hr=>by
  simp only [bJ] at hr |-;rcases hr with hr|⟨a,cap,h1,h2,h3,h4⟩
  ·exact .inl hr
  ·exact .inr ⟨a,cap,h1,h2,h3,fo.mono h cs _ _ h4⟩
theorem fo.mono {w w':World} {Sf Xd:Nat->Nat->Prop} (h:∀b o u,w.cell? ⟨b,o,none⟩=some u->Sf b o->w'.cell? ⟨b,o,none⟩=some u/\Xd b o):
  ∀(cs:List C) (b o:Nat),fo w Sf cs b o->fo w' Xd cs b o
 |[],_,_,_=>by simp [fo]
 |c::cs,b,o,hr=>by simp only [fo] at hr |-;obtain ⟨⟨u,h1,h2,h3⟩,h4⟩:=hr;obtain ⟨h5,h6⟩:=h b o u h1 h2;exact ⟨⟨u,h5,h6,bJ.mono h c u h3⟩,fo.mono h cs b (o+1) h4⟩
end
def av {α β:Type} (R:α->β->Prop):List α->List β->Prop
 |[],[]=>True
 |a::aJ,b::bs=>R a b/\av R aJ bs
 |_,_=>False
section
variable {α β:Type} {R R':α->β->Prop}
theorem av.mono (h:∀a b,R a b->R' a b):∀{aJ:List α} {bs:List β},av R aJ bs->av R' aJ bs
 |[],[],_=>trivial
 |_::_,_::_,h1=>⟨h _ _ h1.1,av.mono h h1.2⟩
 |[],_::_,h1=>h1.elim
 |_::_,[],h1=>h1.elim
theorem av.len:∀{aJ:List α} {bs:List β},av R aJ bs->aJ.length=bs.length
 |[],[],_=>rfl
 |_::_,_::_,h1=>by simp [av.len h1.2]
 |[],_::_,h1=>h1.elim
 |_::_,[],h1=>h1.elim
theorem av.append:∀{aJ:List α} {bs:List β} {as':List α} {bs':List β},av R aJ bs->av R as' bs'->av R (aJ++as') (bs++bs')
 |[],[],_,_,_,h2=>h2
 |_::_,_::_,_,_,h1,h2=>⟨h1.1,av.append h1.2 h2⟩
 |[],_::_,_,_,h1,_=>h1.elim
 |_::_,[],_,_,h1,_=>h1.elim
theorem av.take:∀(n:Nat) {aJ:List α} {bs:List β},av R aJ bs->av R (aJ.take n) (bs.take n)
 |0,_,_,_=>by simp [av]
 |_+1,[],[],_=>by simp [av]
 |n+1,_::_,_::_,h1=>by simp only [L3];exact ⟨h1.1,av.take n h1.2⟩
 |_+1,[],_::_,h1=>h1.elim
 |_+1,_::_,[],h1=>h1.elim
theorem av.drop:∀(n:Nat) {aJ:List α} {bs:List β},av R aJ bs->av R (aJ.drop n) (bs.drop n)
 |0,_,_,h1=>by simpa using h1
 |_+1,[],[],_=>by simp [av]
 |n+1,_::_,_::_,h1=>by simp only [List.drop_succ_cons];exact av.drop n h1.2
 |_+1,[],_::_,h1=>h1.elim
 |_+1,_::_,[],h1=>h1.elim
theorem av.get:∀(n:Nat) {aJ:List α} {bs:List β} {a:α},av R aJ bs->aJ[n]?=some a->∃b,bs[n]?=some b/\R a b
 |_,[],[],_,_,h=>by simp at h
 |0,_::_,b::_,_,h1,h=>by simp at h;subst h;exact ⟨b,by simp,h1.1⟩
 |n+1,_::_,_::_,_,h1,h=>by simp at h;obtain ⟨b,h2,h3⟩:=av.get n h1.2 h;exact ⟨b,by simpa using h2,h3⟩
 |_,[],_::_,_,h1,_=>h1.elim
 |_,_::_,[],_,h1,_=>h1.elim
theorem av.mE {γ:Type} {f:γ->α}:∀{aJ:List γ} {bs:List β},av (fun a b=>R (f a) b) aJ bs->av R (aJ.map f) bs
 |[],[],_=>trivial
 |_::_,_::_,h1=>⟨h1.1,av.mE h1.2⟩
 |[],_::_,h1=>h1.elim
 |_::_,[],h1=>h1.elim
theorem av.splice {aJ:List α} {bs:List β} {xs:List α} {ys:List β} (off:Nat) (h:av R aJ bs) (hx:av R xs ys):
  av R (splice aJ off xs) (bs.take off++ys++bs.drop (off+ys.length)):=by
 unfold Ey.splice;rw [hx.len];exact ((h.take off).append hx).append (h.drop _)
end
structure M where
 w:World
 h:Heap
 β:Nat->Nat
 U:Nat->Prop
def Safe (_:Nat) (S:Nat->Nat->Prop) (m:M) (b o:Nat):Prop:=
 S b o/\∀id,match ax m.h id with
   |.dead=>True
   |.box _=>m.β id≠b
   |.map _=>m.β id≠b
   |.arr _ _ fz _=>m.β id=b->o < fz
def fP (w:World) (Sf:Nat->Nat->Prop):V->Value->Prop
 |.one c,u=>bJ w Sf c u
 |.agg cs,u=>∃us:List Value,u=.agg us.toArray/\av (bJ w Sf) cs us
 |.full cs n,u=>(u=.slice none 0 0/\n=0/\cs=[])\/∃a,u=.slice (some a) n n/\(cs≠[]->a.spot=none)/\fo w Sf cs a.block a.off
theorem fP.mono {w w':World} {Sf Xd:Nat->Nat->Prop} (h:∀b o u,w.cell? ⟨b,o,none⟩=some u->Sf b o->w'.cell? ⟨b,o,none⟩=some u/\Xd b o) {v:V} {u:Value} (hr:fP w Sf v u):fP w' Xd v u:=by
 cases v with
 |one c=>exact bJ.mono h c u hr
 |agg cs=>obtain ⟨us,h1,h2⟩:=hr;exact ⟨us,h1,h2.mono fun x u h3=>bJ.mono h x u h3⟩
 |full cs n=>exact hr.imp id fun ⟨a,h1,h2,h3⟩=>⟨a,h1,h2,fo.mono h cs _ _ h3⟩
theorem fP.full {w:World} {Sf:Nat->Nat->Prop} {cs:List C} {n:Nat} {u:Value} (h:fP w Sf (.full cs n) u):bJ w Sf (.slice cs n) u:=
 h.imp id fun ⟨a,h1,h2,h3⟩=>⟨a,n,h1,An _,h2,h3⟩
section
variable (B:Nat) (S:Nat->Nat->Prop)
def fA (m:M):D->Value->Prop
 |.rq,_=>True
 |.c x,u=>bJ m.w (Safe B S m) x u
 |.loc id off,u=>m.U id/\u=.pointer (some ⟨m.β id,off,none⟩)
 |.arr id off len,u=>m.U id/\∃ad cap,u=.slice (some ad) len cap/\len<=cap/\match ax m.h id with
  |.arr _ aj _ ety=>(ad=⟨m.β id,off,none⟩/\∃sz,m.w.shape? (m.β id)=some (ety,sz)/\off+cap * aj=sz/\cap<=maxLen)\/(len=0/\cap=0)
  |_=>True
 |.ptr cs,u=>∃a,u=.pointer (some a)/\(cs≠[]->a.spot=none)/\fo m.w (Safe B S m) cs a.block a.off
 |.full cs n,u=>(u=.slice none 0 0/\n=0/\cs=[])\/∃a,u=.slice (some a) n n/\(cs≠[]->a.spot=none)/\fo m.w (Safe B S m) cs a.block a.off
 |.fq f caps,u=>u=.func (.func f) #[] (caps.map fun p=>Value.pointer (some ⟨m.β p.1,p.2,none⟩)).toArray/\∀p∈caps,m.U p.1
 |.mp id,u=>m.U id/\u=.map (some (m.β id))
 |_,_=>False
def ni (m:M):D->Value->Prop
 |.agg ds,u=>∃us:List Value,u=.agg us.toArray/\av (fA B S m) ds us
 |d,u=>fA B S m d u
def dZ (m:M):D->Value->Prop
 |.jG ds,u=>∃us:List Value,u=.tuple us.toArray/\av (ni B S m) ds us
 |d,u=>ni B S m d u
def FM (m:M) (k:Nat):Obj->Prop
 |.dead=>True
 |.box ds=>B<=k/\∃(us:List Value) (e:TypeId),m.w.heap[k]?=some (.cells us.toArray e (0,0))/\av (fA B S m) ds us
 |.arr cs _ _ ety=>B<=k/\∃us:List Value,m.w.heap[k]?=some (.cells us.toArray ety (0,0))/\cs.length<=us.length/\av (bJ m.w (Safe B S m)) cs (us.take cs.length)
 |.map es=>B<=k/\∃(ac1:Array MapEntry) (ck:Nat),m.w.heap[k]?=some (.map ac1 ck)/\av (fun e x=>fP m.w (Safe B S m) e.1 x.key/\fP m.w (Safe B S m) e.2 x.val) es ac1.toList
def Kh (m:M) (id:Nat):Prop:=FM B S m (m.β id) (ax m.h id)
structure fu (m:M):Prop where
 obj:∀id,Kh B S m id
 inj:∀i j,ax m.h i≠.dead->ax m.h j≠.dead->m.β i=m.β j->i=j
 dom:∀id,¬m.U id->ax m.h id=.dead
 base:B<=m.w.heap.size
 fresh:∀b o,m.w.heap.size<=b->S b o
 Pb:∀id cs aj fz ety,ax m.h id=.arr cs aj fz ety->∀o,S (m.β id) o
structure aB (m m':M):Prop where
 cell:∀b o u,m.w.cell? ⟨b,o,none⟩=some u->Safe B S m b o->m'.w.cell? ⟨b,o,none⟩=some u/\Safe B S m' b o
 used:∀id,m.U id->m'.U id
 dead:∀id,m.U id->ax m.h id=.dead->ax m'.h id=.dead
 at_:∀id,m.U id->m'.β id=m.β id
 kind:∀id cs' ja nG jY,m.U id->ax m'.h id=.arr cs' ja nG jY->∃cs fz,ax m.h id=.arr cs ja fz jY/\m'.w.shape? (m.β id)=m.w.shape? (m.β id)
 rest:∀b,B<=b->b < m.w.heap.size->(∀id,ax m.h id≠.dead->m.β id≠b)->m'.w.heap[b]?=m.w.heap[b]?/\∀id,ax m'.h id≠.dead->m'.β id≠b
variable {B S}
theorem aB.refl (m:M):aB B S m m:=
 ⟨fun _ _ _ h1 h2=>⟨h1,h2⟩,fun _ h=>h,fun _ _ h=>h,fun _ _=>rfl,fun _ cs' _ nG _ _ h=>⟨cs',nG,h,rfl⟩,fun _ _ _ h=>⟨rfl,h⟩⟩
theorem aB.trans {m m' m'':M} (h:aB B S m m') (k:aB B S m' m''):aB B S m m'' where
 cell b o u h1 h2:=k.cell b o u (h.cell b o u h1 h2).1 (h.cell b o u h1 h2).2
 used id hu:=k.used id (h.used id hu)
 dead id hu hd:=k.dead id (h.used id hu) (h.dead id hu hd)
 at_ id hu:=by rw [k.at_ id (h.used id hu),h.at_ id hu]
 kind id cs' ja nG jY hu hk:=by obtain ⟨cs,fz,h1,h2⟩:=k.kind id cs' ja nG jY (h.used id hu) hk;obtain ⟨cs0,fz0,h3,h4⟩:=h.kind id cs ja fz jY hu h1;refine ⟨cs0,fz0,h3,?_⟩;rw [<-h4,<-h.at_ id hu,h2]
 rest b hB hb hn:=by
  obtain ⟨h1,h2⟩:=h.rest b hB hb hn;have hb':b < m'.w.heap.size:=by rw [Kf hb] at h1;exact (Bk.1 h1).1
  obtain ⟨k1,k2⟩:=k.rest b hB hb' h2;exact ⟨k1.trans h1,k2⟩
theorem aB.vw {m m':M} (h:aB B S m m') {d:D} {u:Value} (hr:fA B S m d u):fA B S m' d u:=by
 cases d with
 |rq=>trivial
 |c x=>exact bJ.mono h.cell x u hr
 |loc id off=>
  obtain ⟨h1,h2⟩:=hr;exact ⟨h.used id h1,by rw [h.at_ id h1];exact h2⟩
 |arr id off len=>
  obtain ⟨h1,ad,cap,e1,e2,h2⟩:=hr;refine ⟨h.used id h1,ad,cap,e1,e2,?_⟩;split
  ·rename_i cs' ja nG jY hk;obtain ⟨cs,fz,h3,h4⟩:=h.kind id cs' ja nG jY h1 hk;have h5:=h.at_ id h1;rw [h3] at h2;simp only at h2;rcases h2 with ⟨e6,sz,e3,e4,e5⟩|h2
   ·exact .inl ⟨by rw [h5];exact e6,sz,by rw [h5,h4];exact e3,e4,e5⟩
   ·exact .inr h2
  ·trivial
 |ptr cs=>
  obtain ⟨a,h1,h2,h3⟩:=hr;exact ⟨a,h1,h2,fo.mono h.cell cs _ _ h3⟩
 |full cs n=>
  rcases hr with hr|⟨a,h1,h2,h3⟩
  ·exact .inl hr
  ·exact .inr ⟨a,h1,h2,fo.mono h.cell cs _ _ h3⟩
 |fq f caps=>
  obtain ⟨h1,h2⟩:=hr;refine ⟨?_,fun p hp=>h.used _ (h2 p hp)⟩
  rw [h1];congr 2;exact List.map_congr_left fun p hp=>by rw [h.at_ _ (h2 p hp)]
 |mp id=>
  obtain ⟨h1,h2⟩:=hr;exact ⟨h.used id h1,by rw [h.at_ id h1];exact h2⟩
 |agg ds=>exact hr.elim
 |jG ds=>exact hr.elim
theorem aB.Ji {m m':M} (h:aB B S m m') {d:D} {u:Value} (hr:ni B S m d u):ni B S m' d u:=by
 cases d with
 |agg ds=>obtain ⟨us,h1,h2⟩:=hr;exact ⟨us,h1,h2.mono fun _ _ h3=>h.vw h3⟩
 |rq=>exact h.vw (d:=.rq) (u:=u) hr
 |c x=>exact h.vw (d:=.c x) hr
 |loc id off=>exact h.vw (d:=.loc id off) hr
 |arr id off len=>exact h.vw (d:=.arr id off len) hr
 |ptr cs=>exact h.vw (d:=.ptr cs) hr
 |full cs n=>exact h.vw (d:=.full cs n) hr
 |fq f caps=>exact h.vw (d:=.fq f caps) hr
 |mp id=>exact h.vw (d:=.mp id) hr
 |jG ds=>exact h.vw (d:=.jG ds) (u:=u) hr
theorem aB.Yg {m m':M} (h:aB B S m m') {d:D} {u:Value} (hr:dZ B S m d u):dZ B S m' d u:=by
 cases d with
 |jG ds=>obtain ⟨us,h1,h2⟩:=hr;exact ⟨us,h1,h2.mono fun _ _ h3=>h.Ji h3⟩
 |rq=>exact h.Ji (d:=.rq) (u:=u) hr
 |c x=>exact h.Ji (d:=.c x) hr
 |loc id off=>exact h.Ji (d:=.loc id off) hr
 |arr id off len=>exact h.Ji (d:=.arr id off len) hr
 |ptr cs=>exact h.Ji (d:=.ptr cs) hr
 |full cs n=>exact h.Ji (d:=.full cs n) hr
 |fq f caps=>exact h.Ji (d:=.fq f caps) hr
 |mp id=>exact h.Ji (d:=.mp id) hr
 |agg ds=>exact h.Ji (d:=.agg ds) hr
theorem aB.KT {m m':M} (h:aB B S m m') {k:Nat} {o:Obj} (hb:m'.w.heap[k]?=m.w.heap[k]?) (hr:FM B S m k o):FM B S m' k o:=by
 cases o with
 |dead=>trivial
 |box ds=>
  obtain ⟨h1,us,e,h2,h3⟩:=hr;exact ⟨h1,us,e,by rw [hb];exact h2,h3.mono fun _ _ h4=>h.vw h4⟩
 |arr cs aj fz ety=>
  obtain ⟨h1,us,h2,h3,h4⟩:=hr;exact ⟨h1,us,by rw [hb];exact h2,h3,h4.mono fun x u h5=>bJ.mono h.cell x u h5⟩
 |map es=>
  obtain ⟨h1,ac1,ck,h2,h3⟩:=hr;exact ⟨h1,ac1,ck,by rw [hb];exact h2,h3.mono fun _ _ h4=>⟨fP.mono h.cell h4.1,fP.mono h.cell h4.2⟩⟩
theorem fu.lt {m:M} (hk:fu B S m) {id:Nat} (hd:ax m.h id≠.dead):m.β id < m.w.heap.size:=by
 have h:=hk.obj id;unfold Kh at h;cases ho:ax m.h id with
 |dead=>exact absurd ho hd
 |box ds=>rw [ho] at h;obtain ⟨_,us,e,h2,_⟩:=h;exact (Bk.1 h2).1
 |map ds=>rw [ho] at h;obtain ⟨_,ac1,ck,h2,_⟩:=h;exact (Bk.1 h2).1
 |arr cs aj fz ety=>rw [ho] at h;obtain ⟨_,us,h2,_⟩:=h;exact (Bk.1 h2).1
theorem fu.ge {m:M} (hk:fu B S m) {id:Nat} (hd:ax m.h id≠.dead):B<=m.β id:=by
 have h:=hk.obj id;unfold Kh at h;cases ho:ax m.h id with
 |dead=>exact absurd ho hd
 |box ds=>rw [ho] at h;exact h.1
 |map ds=>rw [ho] at h;exact h.1
 |arr cs aj fz ety=>rw [ho] at h;exact h.1
theorem fu.used {m:M} (hk:fu B S m) {id:Nat} (hd:ax m.h id≠.dead):m.U id:=
 Classical.byContradiction fun h=>hd (hk.dom id h)
theorem TC {w:World} {b o:Nat} {u:Value} (h:w.cell? ⟨b,o,none⟩=some u):b < w.heap.size:=World.block_lt_of_cell? w _ h
def nI (β:Nat->Nat) (slot k:Nat):Nat->Nat:=fun i=>if i=slot then k else β i
def M.put (m:M) (w':World) (slot k:Nat) (o:Obj):M:=⟨w',(slot,o)::m.h,nI m.β slot k,fun i=>m.U i\/i=slot⟩
theorem bu (i:Nat) (o:Obj) (h:Heap) (j:Nat):ax ((i,o)::h) j=if i=j then o else ax h j:=rfl
theorem FK {m:M} (hk:fu B S m) {slot:Nat} (hs:¬m.U slot) {w':World} {ob:Go.Obj} (hw:w'.heap=m.w.heap.push ob) (o:Obj):
  aB B S m (m.put w' slot m.w.heap.size o) where
 cell b q u h1 h2:=by
  have hb:=TC h1;refine ⟨?_,h2.1,fun id=>?_⟩
  ·have:w'.heap[b]?=m.w.heap[b]?:=by rw [hw,Array.getElem?_push,E0 (by omega)]
   rw [<-h1];exact World.cell?_of_block (w:=m.w) (a:=⟨b,q,none⟩) this
  ·simp only [M.put,bu,nI];by_cases hi:slot=id
   ·subst hi;simp only [E7];cases o<;>simp<;>omega
   ·have hi':¬id=slot:=fun e=>hi e.symm
    simp only [hi,hi',C7];exact h2.2 id
 used id hu:=.inl hu
 dead id hu hd:=by
  have hi:¬slot=id:=fun e=>hs (e▸hu)
  simp only [M.put,bu,hi,C7];exact hd
 at_ id hu:=by
  have hi:¬id=slot:=fun e=>hs (e▸hu)
  simp [M.put,nI,hi]
 kind id cs' ja nG jY hu h:=by
  have hi:¬slot=id:=fun e=>hs (e▸hu)
  simp only [M.put,bu,hi,C7] at h;refine ⟨cs',nG,h,?_⟩;have hlt:=hk.lt (id:=id) (by rw [h];simp)
  have:w'.heap[m.β id]?=m.w.heap[m.β id]?:=by rw [hw,Array.getElem?_push,E0 (by omega)]
  simp [World.shape?,M.put,this]
 rest b hB hb hn:=by
  refine ⟨by simp only [M.put];rw [hw,Array.getElem?_push,E0 (by omega)],fun id hd=>?_⟩
  simp only [M.put,bu,nI] at hd |-;by_cases hi:slot=id
  ·subst hi;simp;omega
  ·have hi':¬id=slot:=fun e=>hi e.symm
   simp only [hi,C7] at hd;simp only [hi',C7];exact hn id hd
theorem abh {m:M} (hk:fu B S m) {slot:Nat} (hs:¬m.U slot) {w':World} {ob:Go.Obj} (hw:w'.heap=m.w.heap.push ob) (o:Obj)
  (ho:FM B S (m.put w' slot m.w.heap.size o) m.w.heap.size o):fu B S (m.put w' slot m.w.heap.size o):=by
 have hev:=FK hk hs hw o;refine ⟨fun id=>?_,fun i j hi hj he=>?_,fun id hu=>?_,?_,fun b q hb=>?_,fun id cs aj fz ety hg q=>?_⟩
 ·unfold Kh;by_cases hi:slot=id
  ·subst hi;simp only [M.put,bu,nI,E7] at *;exact ho
  ·have hi':¬id=slot:=fun e=>hi e.symm
   have h1:ax (m.put w' slot m.w.heap.size o).h id=ax m.h id:=by simp [M.put,bu,hi]
   have h2:(m.put w' slot m.w.heap.size o).β id=m.β id:=by simp [M.put,nI,hi']
   rw [h1,h2];by_cases hd:ax m.h id=.dead
   ·rw [hd];trivial
   ·have hlt:=hk.lt hd;refine hev.KT ?_ (hk.obj id);simp only [M.put];rw [hw,Array.getElem?_push,E0 (by omega)]
 ·simp only [M.put,bu,nI] at *;by_cases h1:slot=i<;>by_cases h2:slot=j
  ·omega
  ·have h2':¬j=slot:=fun e=>h2 e.symm
   have h1':i=slot:=h1.symm;simp only [h2,h1',h2',E7,C7] at hj he;have:=hk.lt hj
   omega
  ·have h1':¬i=slot:=fun e=>h1 e.symm
   have h2':j=slot:=h2.symm;simp only [h1,h1',h2',E7,C7] at hi he;have:=hk.lt hi
   omega
  ·have h1':¬i=slot:=fun e=>h1 e.symm
   have h2':¬j=slot:=fun e=>h2 e.symm
   simp only [h1,h1',h2,h2',C7] at hi hj he;exact hk.inj i j hi hj he
 ·simp only [M.put] at hu |-;have h1:¬m.U id:=fun h=>hu (.inl h)
  have h2:¬slot=id:=fun h=>hu (.inr h.symm)
  simp only [bu,h2,C7];exact hk.dom id h1
 ·have:=hk.base
  simp only [M.put,hw,Array.size_push];omega
 ·simp only [M.put,hw,Array.size_push] at hb;exact hk.fresh b q (by omega)
 ·simp only [M.put,bu,nI] at hg |-;by_cases hi:slot=id
  ·subst hi;simp only [E7];exact hk.fresh _ q (An _)
  ·have hi':¬id=slot:=fun e=>hi e.symm
   simp only [hi,C7] at hg;simp only [hi',C7];exact hk.Pb id cs aj fz ety hg q
def M.upd (m:M) (w':World) (id:Nat) (o:Obj):M:=⟨w',(id,o)::m.h,m.β,m.U⟩
theorem vU {m:M} (hk:fu B S m) {id:Nat} {o o':Obj} {w':World} (ho:ax m.h id=o)
  (hkind:match o,o' with
   |.box _,.box _=>True
   |.map _,.map _=>True
   |.arr _ aj fz ety,.arr _ ja nG jY=>ja=aj/\jY=ety/\fz<=nG
   |_,_=>False)
  (hother:∀k,k≠m.β id->w'.heap[k]?=m.w.heap[k]?)
  (hcell:∀q u,(match o with|.arr _ _ fz _=>q < fz|_=>False)->m.w.cell? ⟨m.β id,q,none⟩=some u->w'.cell? ⟨m.β id,q,none⟩=some u)
  (hshape:w'.shape? (m.β id)=m.w.shape? (m.β id)):
  aB B S m (m.upd w' id o') where
 cell b q u h1 h2:=by
  refine ⟨?_,h2.1,fun i=>?_⟩
  ·by_cases hb:b=m.β id
   ·subst hb;have h3:=h2.2 id;rw [ho] at h3;refine hcell q u ?_ h1;cases o with
    |dead=>cases o'<;>exact hkind.elim
    |box ds=>exact (h3 rfl).elim
    |map ds=>exact (h3 rfl).elim
    |arr cs aj fz ety=>exact h3 rfl
   ·rw [<-h1];exact World.cell?_of_block (w:=m.w) (a:=⟨b,q,none⟩) (hother b hb)
  ·simp only [M.upd,bu];by_cases hi:id=i
   ·subst hi;have h3:=h2.2 id;rw [ho] at h3;simp only [E7];cases o<;>cases o'<;>first|exact hkind.elim|exact h3|(intro he;have:=h3 he;obtain ⟨_,_,h4⟩:=hkind;omega)
   ·simp only [hi,C7];exact h2.2 i
 used _ hu:=hu
 dead i hu hd:=by
  by_cases hi:id=i
  ·subst hi;rw [ho] at hd;subst hd;cases o'<;>exact hkind.elim
  ·simp only [M.upd,bu,hi,C7];exact hd
 at_ _ _:=rfl
 kind i cs' ja nG jY hu h:=by
  by_cases hi:id=i
  ·subst hi;simp only [M.upd,bu,E7] at h;subst h;cases o with
   |dead=>exact hkind.elim
   |box ds=>exact hkind.elim
   |map ds=>exact hkind.elim
   |arr cs aj fz ety=>
    obtain ⟨rfl,rfl,_⟩:=hkind;exact ⟨cs,fz,ho,hshape⟩
  ·simp only [M.upd,bu,hi,C7] at h;refine ⟨cs',nG,h,?_⟩;have hd:ax m.h i≠.dead:=by rw [h];simp
   have hd':ax m.h id≠.dead:=by
    rw [ho];cases o with
    |dead=>cases o'<;>exact hkind.elim
    |_=>simp
   have:m.β i≠m.β id:=fun e=>hi (hk.inj i id hd hd' e).symm
   simp [World.shape?,M.upd,hother _ this]
 rest b hB hb hn:=by
  have hd':ax m.h id≠.dead:=by
   rw [ho];cases o with
   |dead=>cases o'<;>exact hkind.elim
   |_=>simp
  refine ⟨hother b fun e=>hn id hd' e.symm,fun i hd=>?_⟩
  simp only [M.upd,bu] at hd |-;by_cases hi:id=i
  ·subst hi;exact hn id hd'
  ·simp only [hi,C7] at hd;exact hn i hd
theorem Ho {m:M} (hk:fu B S m) {id:Nat} {o':Obj} {w':World} (hl:ax m.h id≠.dead) (hev:aB B S m (m.upd w' id o'))
  (hother:∀k,k≠m.β id->w'.heap[k]?=m.w.heap[k]?) (hsz:m.w.heap.size<=w'.heap.size)
  (ho:FM B S (m.upd w' id o') (m.β id) o'):fu B S (m.upd w' id o'):=by
 refine ⟨fun i=>?_,fun i j hi hj he=>?_,fun i hu=>?_,?_,fun b q hb=>hk.fresh b q (E1 hsz hb),fun i cs aj fz ety hg q=>?_⟩
 ·unfold Kh;by_cases hi:id=i
  ·subst hi;simp only [M.upd,bu,E7] at *;exact ho
  ·have h1:ax (m.upd w' id o').h i=ax m.h i:=by simp [M.upd,bu,hi]
   rw [h1];show FM B S _ (m.β i) _
   by_cases hd:ax m.h i=.dead
   ·rw [hd];trivial
   ·exact hev.KT (hother _ fun e=>hi (hk.inj i id hd hl e).symm) (hk.obj i)
 ·simp only [M.upd,bu] at hi hj he;by_cases h1:id=i<;>by_cases h2:id=j
  ·omega
  ·subst h1;simp only [h2,C7] at hj;exact hk.inj _ _ hl hj he
  ·subst h2;simp only [h1,C7] at hi;exact hk.inj _ _ hi hl he
  ·simp only [h1,h2,C7] at hi hj;exact hk.inj _ _ hi hj he
 ·simp only [M.upd] at hu |-;have h2:¬id=i:=fun h=>hu (h▸hk.used hl)
  simp only [bu,h2,C7];exact hk.dom i hu
 ·exact E1 hk.base hsz
 ·have hu:m.U i:=by
   by_cases hi:id=i
   ·subst hi;exact hk.used hl
   ·simp only [M.upd,bu,hi,C7] at hg;exact hk.used (by rw [hg];simp)
  obtain ⟨cs0,fz0,h0,_⟩:=hev.kind i cs aj fz ety hu hg;exact hk.Pb i cs0 aj fz0 ety h0 q
def M.world (m:M) (w':World):M:=⟨w',m.h,m.β,m.U⟩
theorem Bj {m:M} (hk:fu B S m) {w':World} (hb:∀k,k < m.w.heap.size->w'.heap[k]?=m.w.heap[k]?):aB B S m (m.world w') where
 cell b q u h1 h2:=by refine ⟨?_,h2⟩;rw [<-h1];exact World.cell?_of_block (w:=m.w) (a:=⟨b,q,none⟩) (hb b (TC h1))
 used _ hu:=hu
 dead _ _ hd:=hd
 at_ _ _:=rfl
 kind id cs' ja nG jY _ h:=by
  refine ⟨cs',nG,h,?_⟩;have hlt:=hk.lt (id:=id) (by show ax m.h id≠_;rw [show ax m.h id=_ from h];simp)
  simp [World.shape?,M.world,hb _ hlt]
 rest b _ hb' hn:=⟨hb b hb',hn⟩
theorem PI {m:M} (hk:fu B S m) {w':World} (hb:∀k,k < m.w.heap.size->w'.heap[k]?=m.w.heap[k]?) (hsz:m.w.heap.size<=w'.heap.size):fu B S (m.world w'):=by
 have hev:=Bj hk hb;refine ⟨fun id=>?_,hk.inj,hk.dom,E1 hk.base hsz,fun b q hb'=>hk.fresh b q (E1 hsz hb'),hk.Pb⟩
 unfold Kh;by_cases hd:ax m.h id=.dead
 ·show FM B S _ _ (ax m.h id);rw [hd];trivial
 ·exact hev.KT (hb _ (hk.lt hd)) (hk.obj id)
end
end Go.Ey
