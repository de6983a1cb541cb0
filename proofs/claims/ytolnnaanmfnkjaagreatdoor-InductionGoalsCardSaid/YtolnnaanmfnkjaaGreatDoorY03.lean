/- A part. -/
import Derived.Test.YtolnnaanmfnkjaaGreatDoorY01
import GoSem.Core.Region
import GoSem.Core.Layout
import GoSem.Op.Equal
import Derived.Below
set_option linter.all false
namespace Go.Ey
def AY:Value->Bool
 |.slice none 0 0=>true
 |_=>false
def bY:Operand->Option X
 |.tmp t=>some (.t t)
 |.const v=>if scalar v||AY v then some (.k v) else none
 |.func f=>some (.f f)
 |_=>none
def jM:List Operand->Option (List X)
 |[]=>some []
 |o::os=>do
  let x <-bY o
  let xs <-jM os
  some (x::xs)
def qZ:Option Operand->Option (Option X)
 |none=>some none
 |some o=>do
  let x <-bY o
  some (some x)
def IY (P:Program) (t:TypeId):Option Bool:=
 match P.underlying t with
 |some (.struct _)|some (.array _ _)=>some true
 |some _=>some false
 |none=>none
def zeroOf (P:Program) (t:TypeId):Option (List Value):=do
 let i <-P.info? t
 let z <-i.zero
 if (z.cells.toList.all fun v=>scalar v||AY v)/\z.cells.size=i.size then some z.cells.toList else none
def fieldsOf (P:Program) (t:TypeId):Option (List Field):=
 match P.underlying t with
 |some (.struct fs)=>some fs.toList
 |_=>none
def gN (P:Program) (t:TypeId):Option TypeId:=
 match P.underlying t with
 |some (.slice e)=>some e
 |_=>none
def compFields (P:Program) (fs:List Field):List (Nat×Operand)->Option (List (Nat×Nat×X))
 |[]=>some []
 |(i,o)::r=>do
  let f <-fs[i]?
  let info <-P.info? f.type
  let x <-bY o
  let ps <-compFields P fs r
  some ((f.offset,info.size,x)::ps)
def Ae (size:Nat):List (Nat×Operand)->Option (List (Nat×Nat×X))
 |[]=>some []
 |(i,o)::r=>do
  let x <-bY o
  let ps <-Ae size r
  some ((i * size,size,x)::ps)
def BF (P:Program) (fs:List Field):Bool:=fs.all fun f=>(P.info? f.type).isSome
def kH (P:Program) (t:TypeId):Option Nat:=
 match P.underlying t with
 |some (.int _)=>some 0
 |some .string=>some 1
 |some .bool=>some 2
 |_=>none
def vk (P:Program):Nat->List Field->Option (List Nat)
 |_,[]=>some []
 |j,f::fs=>do
  let k <-kH P f.type
  let ks <-vk P (j+1) fs
  if f.offset=j/\f.name≠ "_" then some (k::ks) else none
def Oj (ks:List Nat) (op:BinOp) (x y:X):Option Ins:=
 match op with
 |.eql=>some (.eqs ks false x y)
 |.neq=>some (.eqs ks true x y)
 |_=>none
def sw (P:Program) (iR:Nat->Nat) (op:Op):Option Ins:=
 match op with
 |.move x|.assign x=>do
  let x <-bY x
  some (.ZN x)
 |.pick c a b=>do
  let c <-bY c
  let a <-bY a
  let b <-bY b
  some (.pick c a b)
 |.alloc t=>do
  let z <-zeroOf P t
  some (.alloc z)
 |.box _ x=>do
  let x <-bY x
  some (.box x)
 |.build t parts=>do
  let fs <-fieldsOf P t
  let z <-zeroOf P t
  let ps <-compFields P fs parts.toList
  if BF P fs then some (.build z ps) else none
 |.buildSlice t len parts=>do
  let e <-gN P t
  let i <-P.info? e
  let z <-zeroOf P e
  let ps <-Ae i.size parts.toList
  if len * i.size<=16777216/\0 < i.size then some (.lits i.size e len z ps) else none
 |.load t a=>do
  let agg <-IY P t
  let i <-P.info? t
  let x <-bY a
  some (.load agg i.size x)
 |.store t a v=>do
  let i <-P.info? t
  let a <-bY a
  let v <-bY v
  some (.store i.size a v)
 |.nilCheck x=>do
  let x <-bY x
  some (.GY x)
 |.binOp op t x y _=>do
  let x <-bY x
  let y <-bY y
  match P.underlying t with
  |some .bool=>some (.bin op true x y)
  |some (.int _)=>some (.bin op false x y)
  |some .string=>some (.bin op false x y)
  |some (.struct fs)=>do
   let ks <-vk P 0 fs.toList
   if P.stoodInHeld t=false/\P.eqGuardType P.depth t=false then Oj ks op x y else none
  |_=>none
 |.unOp op _ x=>do
  let x <-bY x
  some (.un op x)
 |.convert src dst x=>do
  let x <-bY x
  match P.underlying src,P.underlying dst with
  |some (.int _),some (.int k)=>some (.conv k x)
  |some (.slice e),some .string=>(match P.underlying e with
   |some (.int .u8)=>some (.toStr x)
   |_=>none)
  |_,_=>none
 |.makeSlice t l c=>do
  let e <-gN P t
  let i <-P.info? e
  let z <-zeroOf P e
  let l <-bY l
  let c <-bY c
  if 0 < i.size then some (.mk i.size e i.bytes z l c) else none
 |.slice t x lo hi none=>do
  let x <-bY x
  let lo <-qZ lo
  let hi <-qZ hi
  match P.underlying t with
  |some .string=>some (.sls x lo hi)
  |some (.slice e)=>do
   let i <-P.info? e
   some (.slc i.size x lo hi)
  |_=>none
 |.slice t x lo (some hi) (some mx)=>do
  let x <-bY x
  let lo <-qZ lo
  let hi <-bY hi
  let mx <-bY mx
  match P.underlying t with
  |some (.slice e)=>do
   let i <-P.info? e
   some (.clip i.size x lo hi mx)
  |_=>none
 |.makeFunc (.func f) first captured=>do
  let xs <-jM captured.toList
  if first.size=0 then some (.mkf f xs) else none
 |.fieldAddr t x f=>do
  let fs <-fieldsOf P t
  let fl <-fs[f]?
  let i <-P.info? fl.type
  let x <-bY x
  if 0 < i.size then some (.Qa fl.offset x) else none
 |.field t x f=>do
  let fs <-fieldsOf P t
  let fl <-fs[f]?
  let i <-P.info? fl.type
  let agg <-IY P fl.type
  let x <-bY x
  some (.fld fl.offset agg i.size x)
 |.indexAddr t x i=>do
  let e <-gN P t
  let info <-P.info? e
  let x <-bY x
  let i <-bY i
  some (.Iq info.size x i)
 |.index t x i=>do
  let x <-bY x
  let i <-bY i
  match P.underlying t with
  |some .string=>some (.Ct x i)
  |_=>none
 |.extract x i=>do
  let x <-bY x
  some (.ext x i)
 |.call { callee:=.value (.func f),args,argTypes:=_}=>do
  let xs <-jM args.toList
  some (match iR f with|0=> .call f xs|1=> .jB f 0 xs|3=> .mV f xs|4=> .jB f 2 xs|_=> .jB f 1 xs)
 |.call { callee:=.value (.tmp t),args,argTypes:=_}=>do
  let xs <-jM args.toList
  some (.kX (.t t) xs)
 |.call { callee:=.builtin b,args,argTypes}=>do
  let xs <-jM args.toList
  match b,xs,argTypes.toList with
  |.len,[x],[t]=>(match P.underlying t with
   |some .string=>some (.len true x)
   |some (.slice _)=>some (.len false x)
   |_=>none)
  |.append,[x,y],[t,t']=>do
   let e <-gN P t
   let i <-P.info? e
   let _ <-zeroOf P e
   (match P.underlying t' with
   |some (.slice _)=>if 0 < i.size then some (.app i.size e i.bytes x y) else none
   |some .string=>if 0 < i.size then some (.app i.size e i.bytes x y) else none
   |_=>none)
  |.copy,[x,y],[t,_]=>do
   let e <-gN P t
   let i <-P.info? e
   if 0 < i.size then some (.R6 i.size x y) else none
  |.max,[x,y],_=>some (.mx x y)
  |.min,[x,y],_=>some (.mn x y)
  |_,_,_=>none
 |_=>none
def Gl (_:Program) (_:Op):Option Ins:=none
def JO (P:Program) (iR:Nat->Nat) (op:Op):Option Ins:=
 match Gl P op with
 |some i=>some i
 |none=>match sw P iR op with
  |some i=>if zn i then none else some i
  |none=>none
def UO (nt:Nat):Option Tmp->Bool
 |none=>true
 |some t=>decide (t < nt)
def AR (P:Program) (iR:Nat->Nat) (nt:Nat) (ops:Array Oper) (o:Oper):Option jl:=do
 let i <-JO P iR o.op
 if UO nt o.dst=false then none else
 match o.guard with
 |none=>some ⟨o.dst,i,none⟩
 |some (j,want)=>do
  let g <-ops[j]?
  let t <-g.dst
  some ⟨o.dst,i,some (t,want)⟩
def jD (P:Program) (iR:Nat->Nat) (nt:Nat) (ops:Array Oper):List Oper->Option (List jl)
 |[]=>some []
 |o::os=>do
  let i <-AR P iR nt ops o
  let is <-jD P iR nt ops os
  some (i::is)
def Gs (acc:List Nat):List Edge->Nat
 |[]=>0
 |e::es=>if Region.binds .any e then ((1 <<< e.on)|||acc.getD e.on 0)|||Gs acc es else Gs acc es
def waits (acc:List Nat):List Oper->List Nat
 |[]=>acc
 |o::os=>waits (acc++[Gs acc o.after.toList]) os
def Mk:Nat->List Oper->Bool
 |_,[]=>true
 |k,o::os=>(o.after.toList.all fun e=>!Region.binds .any e||decide (e.on < k)) && Mk (k+1) os
def yj:List jl->Bool
 |[]=>true
 |i::is=>(match i.ins with|.jB _ _ _|.kX _ _=>false|_=>true) && yj is
def comp (P:Program) (iR:Nat->Nat) (nt:Nat):Code->Option jA
 |.skip=>some .skip
 |.ret=>some .ret
 |.exit id=>some (.exit id)
 |.region _ ops false=>do
  let is <-jD P iR nt ops ops.toList
  some (.region is)
 |.region _ ops true=>do
  let is <-jD P (fun f=>if iR f=1 then 3 else if iR f=4 then 4 else 0) nt ops ops.toList
  if Mk 0 ops.toList=true then (if yj is then some (.draw is (waits [] ops.toList)) else if Pz is (waits [] ops.toList)=true then some (.mix is (waits [] ops.toList)) else none) else none
 |.seq a b=>do
  let a <-comp P iR nt a
  let b <-comp P iR nt b
  some (.seq a b)
 |.cond c a b=>do
  let c <-bY c
  let a <-comp P iR nt a
  let b <-comp P iR nt b
  some (.cond c a b)
 |.block id c=>do
  let c <-comp P iR nt c
  some (.block id c)
 |.loop c=>do
  let c <-comp P iR nt c
  some (.loop c)
 |_=>none
def Aa (P:Program):List ResultVar->Option (List Res)
 |[]=>some []
 |.tmp t::r=>do
  let rs <-Aa P r
  some (.tmp t::rs)
 |.cell a t::r=>do
  let agg <-IY P t
  let i <-P.info? t
  let rs <-Aa P r
  some (.cell a agg i.size::rs)
def KT (P:Program) (iR:Nat->Nat) (fn:Func):Option Pj:=do
 let c <-fn.body
 let c <-comp P iR fn.ntmps c
 let rs <-Aa P fn.results.toList
 if fn.params.size+fn.nfree<=fn.ntmps then some ⟨fn.params.size+fn.nfree,rs,c⟩ else none
open Go.RowKit
section
variable (w:World) (Sf:Nat->Nat->Prop)
mutual
def cK:C->Value->Prop
 |.lit v,u=>u=v/\scalar v=true
 |.slice cs n,u=>(u=.slice none 0 0/\n=0/\cs=[])\/∃a cap,u=.slice (some a) n cap/\n<=cap/\(cs≠[]->a.spot=none)/\fK cs a.block a.off
def fK:List C->Nat->Nat->Prop
 |[],_,_=>True
 |c::cs,b,o=>(∃u,w.cell? ⟨b,o,none⟩=some u/\Sf b o/\cK c u)/\fK cs b (o+1)
end
end
mutual
theorem cK.mono {w w':World} {Sf XC:Nat->Nat->Prop} (h:∀b o u,w.cell? ⟨b,o,none⟩=some u->Sf b o->w'.cell? ⟨b,o,none⟩=some u/\XC b o):
  ∀(c:C) (u:Value),cK w Sf c u->cK w' XC c u
 |.lit v,u,hr=>by simpa [cK] using hr
 |.slice cs n,u,hr=>by
  simp only [cK] at hr |-;rcases hr with hr|⟨a,cap,h1,h2,h3,h4⟩
  ·exact .inl hr
  ·exact .inr ⟨a,cap,h1,h2,h3,fK.mono h cs _ _ h4⟩
theorem fK.mono {w w':World} {Sf XC:Nat->Nat->Prop} (h:∀b o u,w.cell? ⟨b,o,none⟩=some u->Sf b o->w'.cell? ⟨b,o,none⟩=some u/\XC b o):
  ∀(cs:List C) (b o:Nat),fK w Sf cs b o->fK w' XC cs b o
 |[],_,_,_=>by simp [fK]
 |c::cs,b,o,hr=>by simp only [fK] at hr |-;obtain ⟨⟨u,h1,h2,h3⟩,h4⟩:=hr;obtain ⟨h5,h6⟩:=h b o u h1 h2;exact ⟨⟨u,h5,h6,cK.mono h c u h3⟩,fK.mono h cs b (o+1) h4⟩
end
def aF {α β:Type} (R:α->β->Prop):List α->List β->Prop
 |[],[]=>True
 |a::aY,b::bs=>R a b/\aF R aY bs
 |_,_=>False
section
variable {α β:Type} {R R':α->β->Prop}
theorem aF.mono (h:∀a b,R a b->R' a b):∀{aY:List α} {bs:List β},aF R aY bs->aF R' aY bs
 |[],[],_=>trivial
 |_::_,_::_,h1=>⟨h _ _ h1.1,aF.mono h h1.2⟩
 |[],_::_,h1=>h1.elim
 |_::_,[],h1=>h1.elim
theorem aF.len:∀{aY:List α} {bs:List β},aF R aY bs->aY.length=bs.length
 |[],[],_=>rfl
 |_::_,_::_,h1=>by simp [aF.len h1.2]
 |[],_::_,h1=>h1.elim
 |_::_,[],h1=>h1.elim
theorem aF.append:∀{aY:List α} {bs:List β} {as':List α} {bs':List β},aF R aY bs->aF R as' bs'->aF R (aY++as') (bs++bs')
 |[],[],_,_,_,h2=>h2
 |_::_,_::_,_,_,h1,h2=>⟨h1.1,aF.append h1.2 h2⟩
 |[],_::_,_,_,h1,_=>h1.elim
 |_::_,[],_,_,h1,_=>h1.elim
theorem aF.take:∀(n:Nat) {aY:List α} {bs:List β},aF R aY bs->aF R (aY.take n) (bs.take n)
 |0,_,_,_=>by simp [aF]
 |_+1,[],[],_=>by simp [aF]
 |n+1,_::_,_::_,h1=>by simp only [Ly];exact ⟨h1.1,aF.take n h1.2⟩
 |_+1,[],_::_,h1=>h1.elim
 |_+1,_::_,[],h1=>h1.elim
theorem aF.drop:∀(n:Nat) {aY:List α} {bs:List β},aF R aY bs->aF R (aY.drop n) (bs.drop n)
 |0,_,_,h1=>by simpa using h1
 |_+1,[],[],_=>by simp [aF]
 |n+1,_::_,_::_,h1=>by simp only [Lz];exact aF.drop n h1.2
 |_+1,[],_::_,h1=>h1.elim
 |_+1,_::_,[],h1=>h1.elim
theorem aF.get:∀(n:Nat) {aY:List α} {bs:List β} {a:α},aF R aY bs->aY[n]?=some a->∃b,bs[n]?=some b/\R a b
 |_,[],[],_,_,h=>by simp at h
 |0,_::_,b::_,_,h1,h=>by simp at h;subst h;exact ⟨b,by simp,h1.1⟩
 |n+1,_::_,_::_,_,h1,h=>by simp at h;obtain ⟨b,h2,h3⟩:=aF.get n h1.2 h;exact ⟨b,by simpa using h2,h3⟩
 |_,[],_::_,_,h1,_=>h1.elim
 |_,_::_,[],_,h1,_=>h1.elim
theorem aF.nA {γ:Type} {f:γ->α}:∀{aY:List γ} {bs:List β},aF (fun a b=>R (f a) b) aY bs->aF R (aY.map f) bs
 |[],[],_=>trivial
 |_::_,_::_,h1=>⟨h1.1,aF.nA h1.2⟩
 |[],_::_,h1=>h1.elim
 |_::_,[],h1=>h1.elim
theorem aF.splice {aY:List α} {bs:List β} {xs:List α} {ys:List β} (off:Nat) (h:aF R aY bs) (hx:aF R xs ys):
  aF R (splice aY off xs) (bs.take off++ys++bs.drop (off+ys.length)):=by
 unfold Ey.splice;rw [hx.len];exact ((h.take off).append hx).append (h.drop _)
end
structure M where
 w:World
 h:Heap
 β:Nat->Nat
 U:Nat->Prop
def Safe (_:Nat) (S:Nat->Nat->Prop) (m:M) (b o:Nat):Prop:=
 S b o/\∀id,match aH m.h id with
   |.dead=>True
   |.box _=>m.β id≠b
   |.map _=>m.β id≠b
   |.arr _ _ fz _=>m.β id=b->o < fz
def gQ (w:World) (Sf:Nat->Nat->Prop):V->Value->Prop
 |.one c,u=>cK w Sf c u
 |.agg cs,u=>∃us:List Value,u=.agg us.toArray/\aF (cK w Sf) cs us
 |.full cs n,u=>(u=.slice none 0 0/\n=0/\cs=[])\/∃a,u=.slice (some a) n n/\(cs≠[]->a.spot=none)/\fK w Sf cs a.block a.off
theorem gQ.mono {w w':World} {Sf XC:Nat->Nat->Prop} (h:∀b o u,w.cell? ⟨b,o,none⟩=some u->Sf b o->w'.cell? ⟨b,o,none⟩=some u/\XC b o) {v:V} {u:Value} (hr:gQ w Sf v u):gQ w' XC v u:=by
 cases v with
 |one c=>exact cK.mono h c u hr
 |agg cs=>obtain ⟨us,h1,h2⟩:=hr;exact ⟨us,h1,h2.mono fun x u h3=>cK.mono h x u h3⟩
 |full cs n=>exact hr.imp id fun ⟨a,h1,h2,h3⟩=>⟨a,h1,h2,fK.mono h cs _ _ h3⟩
theorem gQ.full {w:World} {Sf:Nat->Nat->Prop} {cs:List C} {n:Nat} {u:Value} (h:gQ w Sf (.full cs n) u):cK w Sf (.slice cs n) u:=
 h.imp id fun ⟨a,h1,h2,h3⟩=>⟨a,n,h1,B9 _,h2,h3⟩
section
variable (B:Nat) (S:Nat->Nat->Prop)
def gu (m:M):D->Value->Prop
 |.uf,_=>True
 |.c x,u=>cK m.w (Safe B S m) x u
 |.loc id off,u=>m.U id/\u=.pointer (some ⟨m.β id,off,none⟩)
 |.arr id off len,u=>m.U id/\∃ad cap,u=.slice (some ad) len cap/\len<=cap/\match aH m.h id with
  |.arr _ ay _ ety=>(ad=⟨m.β id,off,none⟩/\∃sz,m.w.shape? (m.β id)=some (ety,sz)/\off+cap * ay=sz/\cap<=maxLen)\/(len=0/\cap=0)
  |_=>True
 |.ptr cs,u=>∃a,u=.pointer (some a)/\(cs≠[]->a.spot=none)/\fK m.w (Safe B S m) cs a.block a.off
 |.full cs n,u=>(u=.slice none 0 0/\n=0/\cs=[])\/∃a,u=.slice (some a) n n/\(cs≠[]->a.spot=none)/\fK m.w (Safe B S m) cs a.block a.off
 |.fD f caps,u=>u=.func (.func f) #[] (caps.map fun p=>Value.pointer (some ⟨m.β p.1,p.2,none⟩)).toArray/\∀p∈caps,m.U p.1
 |.mp id,u=>m.U id/\u=.map (some (m.β id))
 |_,_=>False
def nH (m:M):D->Value->Prop
 |.agg ds,u=>∃us:List Value,u=.agg us.toArray/\aF (gu B S m) ds us
 |d,u=>gu B S m d u
def eX (m:M):D->Value->Prop
 |.lC ds,u=>∃us:List Value,u=.tuple us.toArray/\aF (nH B S m) ds us
 |d,u=>nH B S m d u
def GR (m:M) (k:Nat):Obj->Prop
 |.dead=>True
 |.box ds=>B<=k/\∃(us:List Value) (e:TypeId),m.w.heap[k]?=some (.cells us.toArray e (0,0))/\aF (gu B S m) ds us
 |.arr cs _ _ ety=>B<=k/\∃us:List Value,m.w.heap[k]?=some (.cells us.toArray ety (0,0))/\cs.length<=us.length/\aF (cK m.w (Safe B S m)) cs (us.take cs.length)
 |.map es=>B<=k/\∃(aeU:Array MapEntry) (ck:Nat),m.w.heap[k]?=some (.map aeU ck)/\aF (fun e x=>gQ m.w (Safe B S m) e.1 x.key/\gQ m.w (Safe B S m) e.2 x.val) es aeU.toList
def K7 (m:M) (id:Nat):Prop:=GR B S m (m.β id) (aH m.h id)
structure gq (m:M):Prop where
 obj:∀id,K7 B S m id
 inj:∀i j,aH m.h i≠.dead->aH m.h j≠.dead->m.β i=m.β j->i=j
 dom:∀id,¬m.U id->aH m.h id=.dead
 base:B<=m.w.heap.size
 fresh:∀b o,m.w.heap.size<=b->S b o
 Qb:∀id cs ay fz ety,aH m.h id=.arr cs ay fz ety->∀o,S (m.β id) o
structure aS (m m':M):Prop where
 cell:∀b o u,m.w.cell? ⟨b,o,none⟩=some u->Safe B S m b o->m'.w.cell? ⟨b,o,none⟩=some u/\Safe B S m' b o
 used:∀id,m.U id->m'.U id
 dead:∀id,m.U id->aH m.h id=.dead->aH m'.h id=.dead
 at_:∀id,m.U id->m'.β id=m.β id
 kind:∀id cs' jW nW mh,m.U id->aH m'.h id=.arr cs' jW nW mh->∃cs fz,aH m.h id=.arr cs jW fz mh/\m'.w.shape? (m.β id)=m.w.shape? (m.β id)
 rest:∀b,B<=b->b < m.w.heap.size->(∀id,aH m.h id≠.dead->m.β id≠b)->m'.w.heap[b]?=m.w.heap[b]?/\∀id,aH m'.h id≠.dead->m'.β id≠b
variable {B S}
theorem aS.refl (m:M):aS B S m m:=
 ⟨fun _ _ _ h1 h2=>⟨h1,h2⟩,fun _ h=>h,fun _ _ h=>h,fun _ _=>rfl,fun _ cs' _ nW _ _ h=>⟨cs',nW,h,rfl⟩,fun _ _ _ h=>⟨rfl,h⟩⟩
theorem aS.trans {m m' m'':M} (h:aS B S m m') (k:aS B S m' m''):aS B S m m'' where
 cell b o u h1 h2:=k.cell b o u (h.cell b o u h1 h2).1 (h.cell b o u h1 h2).2
 used id hu:=k.used id (h.used id hu)
 dead id hu hd:=k.dead id (h.used id hu) (h.dead id hu hd)
 at_ id hu:=by rw [k.at_ id (h.used id hu),h.at_ id hu]
 kind id cs' jW nW mh hu hk:=by obtain ⟨cs,fz,h1,h2⟩:=k.kind id cs' jW nW mh (h.used id hu) hk;obtain ⟨cs0,fz0,h3,h4⟩:=h.kind id cs jW fz mh hu h1;refine ⟨cs0,fz0,h3,?_⟩;rw [<-h4,<-h.at_ id hu,h2]
 rest b hB hb hn:=by
  obtain ⟨h1,h2⟩:=h.rest b hB hb hn;have hb':b < m'.w.heap.size:=by rw [L5 hb] at h1;exact (C3.1 h1).1
  obtain ⟨k1,k2⟩:=k.rest b hB hb' h2;exact ⟨k1.trans h1,k2⟩
theorem aS.yt {m m':M} (h:aS B S m m') {d:D} {u:Value} (hr:gu B S m d u):gu B S m' d u:=by
 cases d with
 |uf=>trivial
 |c x=>exact cK.mono h.cell x u hr
 |loc id off=>
  obtain ⟨h1,h2⟩:=hr;exact ⟨h.used id h1,by rw [h.at_ id h1];exact h2⟩
 |arr id off len=>
  obtain ⟨h1,ad,cap,e1,e2,h2⟩:=hr;refine ⟨h.used id h1,ad,cap,e1,e2,?_⟩;split
  ·rename_i cs' jW nW mh hk;obtain ⟨cs,fz,h3,h4⟩:=h.kind id cs' jW nW mh h1 hk;have h5:=h.at_ id h1;rw [h3] at h2;simp only at h2;rcases h2 with ⟨e6,sz,e3,e4,e5⟩|h2
   ·exact .inl ⟨by rw [h5];exact e6,sz,by rw [h5,h4];exact e3,e4,e5⟩
   ·exact .inr h2
  ·trivial
 |ptr cs=>
  obtain ⟨a,h1,h2,h3⟩:=hr;exact ⟨a,h1,h2,fK.mono h.cell cs _ _ h3⟩
 |full cs n=>
  rcases hr with hr|⟨a,h1,h2,h3⟩
  ·exact .inl hr
  ·exact .inr ⟨a,h1,h2,fK.mono h.cell cs _ _ h3⟩
 |fD f caps=>
  obtain ⟨h1,h2⟩:=hr;refine ⟨?_,fun p hp=>h.used _ (h2 p hp)⟩
  rw [h1];congr 2;exact List.map_congr_left fun p hp=>by rw [h.at_ _ (h2 p hp)]
 |mp id=>
  obtain ⟨h1,h2⟩:=hr;exact ⟨h.used id h1,by rw [h.at_ id h1];exact h2⟩
 |agg ds=>exact hr.elim
 |lC ds=>exact hr.elim
theorem aS.K8 {m m':M} (h:aS B S m m') {d:D} {u:Value} (hr:nH B S m d u):nH B S m' d u:=by
 cases d with
 |agg ds=>obtain ⟨us,h1,h2⟩:=hr;exact ⟨us,h1,h2.mono fun _ _ h3=>h.yt h3⟩
 |uf=>exact h.yt (d:=.uf) (u:=u) hr
 |c x=>exact h.yt (d:=.c x) hr
 |loc id off=>exact h.yt (d:=.loc id off) hr
 |arr id off len=>exact h.yt (d:=.arr id off len) hr
 |ptr cs=>exact h.yt (d:=.ptr cs) hr
 |full cs n=>exact h.yt (d:=.full cs n) hr
 |fD f caps=>exact h.yt (d:=.fD f caps) hr
 |mp id=>exact h.yt (d:=.mp id) hr
 |lC ds=>exact h.yt (d:=.lC ds) (u:=u) hr
theorem aS.XP {m m':M} (h:aS B S m m') {d:D} {u:Value} (hr:eX B S m d u):eX B S m' d u:=by
 cases d with
 |lC ds=>obtain ⟨us,h1,h2⟩:=hr;exact ⟨us,h1,h2.mono fun _ _ h3=>h.K8 h3⟩
 |uf=>exact h.K8 (d:=.uf) (u:=u) hr
 |c x=>exact h.K8 (d:=.c x) hr
 |loc id off=>exact h.K8 (d:=.loc id off) hr
 |arr id off len=>exact h.K8 (d:=.arr id off len) hr
 |ptr cs=>exact h.K8 (d:=.ptr cs) hr
 |full cs n=>exact h.K8 (d:=.full cs n) hr
 |fD f caps=>exact h.K8 (d:=.fD f caps) hr
 |mp id=>exact h.K8 (d:=.mp id) hr
 |agg ds=>exact h.K8 (d:=.agg ds) hr
theorem aS.Md {m m':M} (h:aS B S m m') {k:Nat} {o:Obj} (hb:m'.w.heap[k]?=m.w.heap[k]?) (hr:GR B S m k o):GR B S m' k o:=by
 cases o with
 |dead=>trivial
 |box ds=>
  obtain ⟨h1,us,e,h2,h3⟩:=hr;exact ⟨h1,us,e,by rw [hb];exact h2,h3.mono fun _ _ h4=>h.yt h4⟩
 |arr cs ay fz ety=>
  obtain ⟨h1,us,h2,h3,h4⟩:=hr;exact ⟨h1,us,by rw [hb];exact h2,h3,h4.mono fun x u h5=>cK.mono h.cell x u h5⟩
 |map es=>
  obtain ⟨h1,aeU,ck,h2,h3⟩:=hr;exact ⟨h1,aeU,ck,by rw [hb];exact h2,h3.mono fun _ _ h4=>⟨gQ.mono h.cell h4.1,gQ.mono h.cell h4.2⟩⟩
theorem gq.lt {m:M} (hk:gq B S m) {id:Nat} (hd:aH m.h id≠.dead):m.β id < m.w.heap.size:=by
 have h:=hk.obj id;unfold K7 at h;cases ho:aH m.h id with
 |dead=>exact absurd ho hd
 |box ds=>rw [ho] at h;obtain ⟨_,us,e,h2,_⟩:=h;exact (C3.1 h2).1
 |map ds=>rw [ho] at h;obtain ⟨_,aeU,ck,h2,_⟩:=h;exact (C3.1 h2).1
 |arr cs ay fz ety=>rw [ho] at h;obtain ⟨_,us,h2,_⟩:=h;exact (C3.1 h2).1
theorem gq.ge {m:M} (hk:gq B S m) {id:Nat} (hd:aH m.h id≠.dead):B<=m.β id:=by
 have h:=hk.obj id;unfold K7 at h;cases ho:aH m.h id with
 |dead=>exact absurd ho hd
 |box ds=>rw [ho] at h;exact h.1
 |map ds=>rw [ho] at h;exact h.1
 |arr cs ay fz ety=>rw [ho] at h;exact h.1
theorem gq.used {m:M} (hk:gq B S m) {id:Nat} (hd:aH m.h id≠.dead):m.U id:=
 L1 fun h=>hd (hk.dom id h)
theorem Te {w:World} {b o:Nat} {u:Value} (h:w.cell? ⟨b,o,none⟩=some u):b < w.heap.size:=World.block_lt_of_cell? w _ h
def nO (β:Nat->Nat) (slot k:Nat):Nat->Nat:=fun i=>if i=slot then k else β i
def M.put (m:M) (w':World) (slot k:Nat) (o:Obj):M:=⟨w',(slot,o)::m.h,nO m.β slot k,fun i=>m.U i\/i=slot⟩
theorem bJ (i:Nat) (o:Obj) (h:Heap) (j:Nat):aH ((i,o)::h) j=if i=j then o else aH h j:=rfl
theorem GU {m:M} (hk:gq B S m) {slot:Nat} (hs:¬m.U slot) {w':World} {ob:Go.Obj} (hw:w'.heap=m.w.heap.push ob) (o:Obj):
  aS B S m (m.put w' slot m.w.heap.size o) where
 cell b q u h1 h2:=by
  have hb:=Te h1;refine ⟨?_,h2.1,fun id=>?_⟩
  ·have:w'.heap[b]?=m.w.heap[b]?:=by rw [hw,Array.getElem?_push,Dd (by omega)]
   rw [<-h1];exact World.cell?_of_block (w:=m.w) (a:=⟨b,q,none⟩) this
  ·simp only [M.put,bJ,nO];by_cases hi:slot=id
   ·subst hi;simp only [Ek];cases o<;>simp<;>omega
   ·have hi':¬id=slot:=fun e=>hi e.symm
    simp only [hi,hi',Cd];exact h2.2 id
 used id hu:=.inl hu
 dead id hu hd:=by
  have hi:¬slot=id:=fun e=>hs (e▸hu)
  simp only [M.put,bJ,hi,Cd];exact hd
 at_ id hu:=by
  have hi:¬id=slot:=fun e=>hs (e▸hu)
  simp [M.put,nO,hi]
 kind id cs' jW nW mh hu h:=by
  have hi:¬slot=id:=fun e=>hs (e▸hu)
  simp only [M.put,bJ,hi,Cd] at h;refine ⟨cs',nW,h,?_⟩;have hlt:=hk.lt (id:=id) (by rw [h];simp)
  have:w'.heap[m.β id]?=m.w.heap[m.β id]?:=by rw [hw,Array.getElem?_push,Dd (by omega)]
  simp [World.shape?,M.put,this]
 rest b hB hb hn:=by
  refine ⟨by simp only [M.put];rw [hw,Array.getElem?_push,Dd (by omega)],fun id hd=>?_⟩
  simp only [M.put,bJ,nO] at hd |-;by_cases hi:slot=id
  ·subst hi;simp;omega
  ·have hi':¬id=slot:=fun e=>hi e.symm
   simp only [hi,Cd] at hd;simp only [hi',Cd];exact hn id hd
theorem acz {m:M} (hk:gq B S m) {slot:Nat} (hs:¬m.U slot) {w':World} {ob:Go.Obj} (hw:w'.heap=m.w.heap.push ob) (o:Obj)
  (ho:GR B S (m.put w' slot m.w.heap.size o) m.w.heap.size o):gq B S (m.put w' slot m.w.heap.size o):=by
 have hev:=GU hk hs hw o;refine ⟨fun id=>?_,fun i j hi hj he=>?_,fun id hu=>?_,?_,fun b q hb=>?_,fun id cs ay fz ety hg q=>?_⟩
 ·unfold K7;by_cases hi:slot=id
  ·subst hi;simp only [M.put,bJ,nO,Ek] at *;exact ho
  ·have hi':¬id=slot:=fun e=>hi e.symm
   have h1:aH (m.put w' slot m.w.heap.size o).h id=aH m.h id:=by simp [M.put,bJ,hi]
   have h2:(m.put w' slot m.w.heap.size o).β id=m.β id:=by simp [M.put,nO,hi']
   rw [h1,h2];by_cases hd:aH m.h id=.dead
   ·rw [hd];trivial
   ·have hlt:=hk.lt hd;refine hev.Md ?_ (hk.obj id);simp only [M.put];rw [hw,Array.getElem?_push,Dd (by omega)]
 ·simp only [M.put,bJ,nO] at *;by_cases h1:slot=i<;>by_cases h2:slot=j
  ·omega
  ·have h2':¬j=slot:=fun e=>h2 e.symm
   have h1':i=slot:=h1.symm;simp only [h2,h1',h2',Ek,Cd] at hj he;have:=hk.lt hj
   omega
  ·have h1':¬i=slot:=fun e=>h1 e.symm
   have h2':j=slot:=h2.symm;simp only [h1,h1',h2',Ek,Cd] at hi he;have:=hk.lt hi
   omega
  ·have h1':¬i=slot:=fun e=>h1 e.symm
   have h2':¬j=slot:=fun e=>h2 e.symm
   simp only [h1,h1',h2,h2',Cd] at hi hj he;exact hk.inj i j hi hj he
 ·simp only [M.put] at hu |-;have h1:¬m.U id:=fun h=>hu (.inl h)
  have h2:¬slot=id:=fun h=>hu (.inr h.symm)
  simp only [bJ,h2,Cd];exact hk.dom id h1
 ·have:=hk.base
  simp only [M.put,hw,Array.size_push];omega
 ·simp only [M.put,hw,Array.size_push] at hb;exact hk.fresh b q (by omega)
 ·simp only [M.put,bJ,nO] at hg |-;by_cases hi:slot=id
  ·subst hi;simp only [Ek];exact hk.fresh _ q (B9 _)
  ·have hi':¬id=slot:=fun e=>hi e.symm
   simp only [hi,Cd] at hg;simp only [hi',Cd];exact hk.Qb id cs ay fz ety hg q
def M.upd (m:M) (w':World) (id:Nat) (o:Obj):M:=⟨w',(id,o)::m.h,m.β,m.U⟩
theorem yg {m:M} (hk:gq B S m) {id:Nat} {o o':Obj} {w':World} (ho:aH m.h id=o)
  (hkind:match o,o' with
   |.box _,.box _=>True
   |.map _,.map _=>True
   |.arr _ ay fz ety,.arr _ jW nW mh=>jW=ay/\mh=ety/\fz<=nW
   |_,_=>False)
  (hother:∀k,k≠m.β id->w'.heap[k]?=m.w.heap[k]?)
  (hcell:∀q u,(match o with|.arr _ _ fz _=>q < fz|_=>False)->m.w.cell? ⟨m.β id,q,none⟩=some u->w'.cell? ⟨m.β id,q,none⟩=some u)
  (hshape:w'.shape? (m.β id)=m.w.shape? (m.β id)):
  aS B S m (m.upd w' id o') where
 cell b q u h1 h2:=by
  refine ⟨?_,h2.1,fun i=>?_⟩
  ·by_cases hb:b=m.β id
   ·subst hb;have h3:=h2.2 id;rw [ho] at h3;refine hcell q u ?_ h1;cases o with
    |dead=>cases o'<;>exact hkind.elim
    |box ds=>exact (h3 rfl).elim
    |map ds=>exact (h3 rfl).elim
    |arr cs ay fz ety=>exact h3 rfl
   ·rw [<-h1];exact World.cell?_of_block (w:=m.w) (a:=⟨b,q,none⟩) (hother b hb)
  ·simp only [M.upd,bJ];by_cases hi:id=i
   ·subst hi;have h3:=h2.2 id;rw [ho] at h3;simp only [Ek];cases o<;>cases o'<;>first|exact hkind.elim|exact h3|(intro he;have:=h3 he;obtain ⟨_,_,h4⟩:=hkind;omega)
   ·simp only [hi,Cd];exact h2.2 i
 used _ hu:=hu
 dead i hu hd:=by
  by_cases hi:id=i
  ·subst hi;rw [ho] at hd;subst hd;cases o'<;>exact hkind.elim
  ·simp only [M.upd,bJ,hi,Cd];exact hd
 at_ _ _:=rfl
 kind i cs' jW nW mh hu h:=by
  by_cases hi:id=i
  ·subst hi;simp only [M.upd,bJ,Ek] at h;subst h;cases o with
   |dead=>exact hkind.elim
   |box ds=>exact hkind.elim
   |map ds=>exact hkind.elim
   |arr cs ay fz ety=>
    obtain ⟨rfl,rfl,_⟩:=hkind;exact ⟨cs,fz,ho,hshape⟩
  ·simp only [M.upd,bJ,hi,Cd] at h;refine ⟨cs',nW,h,?_⟩;have hd:aH m.h i≠.dead:=by rw [h];simp
   have hd':aH m.h id≠.dead:=by
    rw [ho];cases o with
    |dead=>cases o'<;>exact hkind.elim
    |_=>simp
   have:m.β i≠m.β id:=fun e=>hi (hk.inj i id hd hd' e).symm
   simp [World.shape?,M.upd,hother _ this]
 rest b hB hb hn:=by
  have hd':aH m.h id≠.dead:=by
   rw [ho];cases o with
   |dead=>cases o'<;>exact hkind.elim
   |_=>simp
  refine ⟨hother b fun e=>hn id hd' e.symm,fun i hd=>?_⟩
  simp only [M.upd,bJ] at hd |-;by_cases hi:id=i
  ·subst hi;exact hn id hd'
  ·simp only [hi,Cd] at hd;exact hn i hd
theorem JE {m:M} (hk:gq B S m) {id:Nat} {o':Obj} {w':World} (hl:aH m.h id≠.dead) (hev:aS B S m (m.upd w' id o'))
  (hother:∀k,k≠m.β id->w'.heap[k]?=m.w.heap[k]?) (hsz:m.w.heap.size<=w'.heap.size)
  (ho:GR B S (m.upd w' id o') (m.β id) o'):gq B S (m.upd w' id o'):=by
 refine ⟨fun i=>?_,fun i j hi hj he=>?_,fun i hu=>?_,?_,fun b q hb=>hk.fresh b q (Dg hsz hb),fun i cs ay fz ety hg q=>?_⟩
 ·unfold K7;by_cases hi:id=i
  ·subst hi;simp only [M.upd,bJ,Ek] at *;exact ho
  ·have h1:aH (m.upd w' id o').h i=aH m.h i:=by simp [M.upd,bJ,hi]
   rw [h1];show GR B S _ (m.β i) _
   by_cases hd:aH m.h i=.dead
   ·rw [hd];trivial
   ·exact hev.Md (hother _ fun e=>hi (hk.inj i id hd hl e).symm) (hk.obj i)
 ·simp only [M.upd,bJ] at hi hj he;by_cases h1:id=i<;>by_cases h2:id=j
  ·omega
  ·subst h1;simp only [h2,Cd] at hj;exact hk.inj _ _ hl hj he
  ·subst h2;simp only [h1,Cd] at hi;exact hk.inj _ _ hi hl he
  ·simp only [h1,h2,Cd] at hi hj;exact hk.inj _ _ hi hj he
 ·simp only [M.upd] at hu |-;have h2:¬id=i:=fun h=>hu (h▸hk.used hl)
  simp only [bJ,h2,Cd];exact hk.dom i hu
 ·exact Dg hk.base hsz
 ·have hu:m.U i:=by
   by_cases hi:id=i
   ·subst hi;exact hk.used hl
   ·simp only [M.upd,bJ,hi,Cd] at hg;exact hk.used (by rw [hg];simp)
  obtain ⟨cs0,fz0,h0,_⟩:=hev.kind i cs ay fz ety hu hg;exact hk.Qb i cs0 ay fz0 ety h0 q
def M.world (m:M) (w':World):M:=⟨w',m.h,m.β,m.U⟩
theorem Ca {m:M} (hk:gq B S m) {w':World} (hb:∀k,k < m.w.heap.size->w'.heap[k]?=m.w.heap[k]?):aS B S m (m.world w') where
 cell b q u h1 h2:=by refine ⟨?_,h2⟩;rw [<-h1];exact World.cell?_of_block (w:=m.w) (a:=⟨b,q,none⟩) (hb b (Te h1))
 used _ hu:=hu
 dead _ _ hd:=hd
 at_ _ _:=rfl
 kind id cs' jW nW mh _ h:=by
  refine ⟨cs',nW,h,?_⟩;have hlt:=hk.lt (id:=id) (by show aH m.h id≠_;rw [show aH m.h id=_ from h];simp)
  simp [World.shape?,M.world,hb _ hlt]
 rest b _ hb' hn:=⟨hb b hb',hn⟩
theorem Rk {m:M} (hk:gq B S m) {w':World} (hb:∀k,k < m.w.heap.size->w'.heap[k]?=m.w.heap[k]?) (hsz:m.w.heap.size<=w'.heap.size):gq B S (m.world w'):=by
 have hev:=Ca hk hb;refine ⟨fun id=>?_,hk.inj,hk.dom,Dg hk.base hsz,fun b q hb'=>hk.fresh b q (Dg hsz hb'),hk.Qb⟩
 unfold K7;by_cases hd:aH m.h id=.dead
 ·show GR B S _ _ (aH m.h id);rw [hd];trivial
 ·exact hev.Md (hb _ (hk.lt hd)) (hk.obj id)
end
end Go.Ey
