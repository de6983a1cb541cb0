/- A part of the proof. -/
import Derived.Test.YtpginbppmgdndaaGreatDoorY01
import GoSem.Core.Region
import GoSem.Core.Layout
import GoSem.Op.Equal
set_option linter.all false
namespace Go.Ey
inductive SD where
 |unk
 |a (x:At)
 |full (x:At)
 |loc (i off:Nat)
 |arr (i:Nat)
 |view (i:Nat) (x:At)
 |eloc (i:Nat) (x:At) (off:Nat)
 |ptr (r off esz:Nat)
 |clo (f:Nat) (caps:List (Nat×Nat))
 |agg (ds:List SD)
 |tup (ds:List SD)
inductive SO where
 |dead
 |box (ds:List SD)
 |arr (x:At) (esz ety:Nat) (fr al:Bool)
structure Sy where
 env:List (Nat×SD)
 heap:List (Nat×SO)
 nx:Nat
 lens:List (Nat×Nat)
def getS:List (Nat×SD)→Nat→SD
 |[],_=> .unk
 |(t',d)::r,t=>if t'=t then d else getS r t
def getO:List (Nat×SO)→Nat→SO
 |[],_=> .dead
 |(i',o)::r,i=>if i'=i then o else getO r i
def updS (h:List (Nat×SO)):List (Nat×SO)→List (Nat×SO)
 |[]=>h
 |u::us=>updS (u::h) us
def Sy.upd (σ:Sy) (us:List (Nat×SO)):Sy:={ σ with heap:=updS σ.heap us}
def Sy.new (σ:Sy) (o:SO):Sy:={ σ with heap:=(σ.nx,o)::σ.heap,nx:=σ.nx+1}
def Sy.put (σ:Sy) (dst:Option Nat) (d:SD):Sy:=match dst with|some t=>{ σ with env:=(t,d)::σ.env}|none=>σ
def Sy.len (σ:Sy) (i m:Nat):Sy:={ σ with lens:=(i,m)::σ.lens}
def nths (i:Nat):Nat→Nat→List At
 |_,0=>[]
 |j,m+1=> .n i j::nths i (j+1) m
def isNths (i:Nat):Nat→List At→Bool
 |_,[]=>true
 |j,.n i' j'::r=>i'==i && j'==j && isNths i (j+1) r
 |_,_=>false
def hasLen (lens:List (Nat×Nat)) (i m:Nat):Bool:=lens.any fun p=>p.1==i && p.2==m
def mkSL (lens:List (Nat×Nat)) (as:List At):SL:=
 match as with
 |.n i 0::_=>if isNths i 0 as && hasLen lens i as.length then .all i else .lit as
 |_=> .lit as
def asAt:SD→Option At
 |.a x=>some x
 |_=>none
def asAts:List SD→Option (List At)
 |[]=>some []
 |.a x::ds=>(asAts ds).bind fun xs=>some (x::xs)
 |_=>none
def asAtO:Option SD→Option (Option At)
 |none=>some none
 |some (.a x)=>some (some x)
 |_=>none
def srcAt (h:List (Nat×SO)):SD→Option At
 |.a x=>some x
 |.full x=>some x
 |.arr i=>(match getO h i with|.arr x _ _ _ _=>some x|_=>none)
 |.view i x=>(match getO h i with|.arr _ _ _ _ _=>some x|_=>none)
 |_=>none
def srcAtE (h:List (Nat×SO)) (esz:Nat):SD→Option At
 |.a x=>some x
 |.full x=>some x
 |.arr i=>(match getO h i with|.arr x e _ _ _=>if e=esz then some x else none|_=>none)
 |.view i x=>(match getO h i with|.arr _ e _ _ _=>if e=esz then some x else none|_=>none)
 |_=>none
def bytesAt (h:List (Nat×SO)) (d:SD):Option At:=srcAtE h 1 d
def frzS (h:List (Nat×SO)):SD→Option (At×List (Nat×SO))
 |.a x=>some (x,[])
 |.full x=>some (x,[])
 |.arr i=>(match getO h i with|.arr x e t _ al=>some (x,[(i,.arr x e t true al)])|_=>none)
 |.view i x=>(match getO h i with|.arr y e t _ al=>some (x,[(i,.arr y e t true al)])|_=>none)
 |_=>none
def frzLS (h:List (Nat×SO)):List SD→Option (List At×List (Nat×SO))
 |[]=>some ([],[])
 |d::ds=>(frzS h d).bind fun p=>(frzLS (updS h p.2) ds).bind fun q=>some (p.1::q.1,p.2++q.2)
def frzCS (h:List (Nat×SO)):SD→Option (List At×List (Nat×SO))
 |.agg ds=>frzLS h ds
 |d=>(frzS h d).bind fun p=>some ([p.1],p.2)
def frzVS (lens:List (Nat×Nat)) (h:List (Nat×SO)):SD→Option (TV×List (Nat×SO))
 |.agg ds=>(frzLS h ds).bind fun p=>some (.agg (mkSL lens p.1),p.2)
 |d=>(frzS h d).bind fun p=>some (.one p.1,p.2)
def frzVSs (lens:List (Nat×Nat)) (h:List (Nat×SO)):List SD→Option (List TV×List (Nat×SO))
 |[]=>some ([],[])
 |d::ds=>(frzVS lens h d).bind fun p=>(frzVSs lens (updS h p.2) ds).bind fun q=>some (p.1::q.1,p.2++q.2)
def isCellS:SD→Bool
 |.a _|.full _|.loc _ _|.arr _|.view _ _|.eloc _ _ _|.ptr _ _ _|.clo _ _=>true
 |_=>false
def cellsS:SD→Option (List SD)
 |.agg ds=>if ds.all isCellS then some ds else none
 |d=>if isCellS d then some [d] else none
def fillS (ρ:X→SD):List SD→List (Nat×Nat×X)→Option (List SD)
 |cs,[]=>some cs
 |cs,(off,size,x)::r=>(cellsS (ρ x)).bind fun ds=>if ds.length=size∧off+size≤cs.length then fillS ρ (splice cs off ds) r else none
def litS:Value→SD
 |.slice none 0 0=> .full .z
 |v=> .a (.k v)
def litA:Value→At
 |.slice none 0 0=> .z
 |v=> .k v
def zerosS (zero:List Value):Nat→List SD
 |0=>[]
 |n+1=>zero.map (fun v=> .a (litA v))++zerosS zero n
def xS (σ:Sy):X→SD
 |.t n=>getS σ.env n
 |.k v=>if scalar v then .a (.k v) else (match v with|.slice none 0 0=> .full .z|_=> .unk)
 |.f n=> .clo n []
def capsS (ρ:X→SD):List X→Option (List (Nat×Nat))
 |[]=>some []
 |x::xs=>(match ρ x with|.loc i off=>(capsS ρ xs).bind fun r=>some ((i,off)::r)|_=>none)
abbrev Kn:=List ((Nat×Nat)×Bool)
def knOf:Kn→Nat→Nat→Option Bool
 |[],_,_=>none
 |((i,j),b)::r,p,q=>if i=p∧j=q then some b else knOf r p q
def withBool (kn:Kn) (d:SD) (k:Bool→Kn→Tree):Tree:=
 match d with
 |.a (.k (.bool b))=>k b kn
 |.a (.v i)=>(match knOf kn i 0 with
  |some b=>k b kn
  |none=> .ite (.v i) (k true (((i,0),true)::kn)) (k false (((i,0),false)::kn)))
 |.a (.n i j)=>(match knOf kn i (j+1) with
  |some b=>k b kn
  |none=> .ite (.n i j) (k true (((i,j+1),true)::kn)) (k false (((i,j+1),false)::kn)))
 |_=> .fail
def isZ:At→Bool
 |.z=>true
 |_=>false
def symIns (σ:Sy) (n:Nat) (ρ:X→SD) (k:SD→Sy→Nat→Tree):Ins→Tree
 |.mov x=>k (ρ x) σ n
 |.alloc zero=>k (.loc σ.nx 0) (σ.new (.box (zero.map litS))) n
 |.box x=>(match cellsS (ρ x) with
  |some ds=>k (.loc σ.nx 0) (σ.new (.box ds)) n
  |none=> .fail)
 |.build zero parts=>(match fillS ρ (zero.map litS) parts with
  |some ds=>k (.agg ds) σ n
  |none=> .fail)
 |.lits esz ety len zero parts=>(match (fillS ρ (zerosS zero len) parts).bind fun ds=>frzLS σ.heap ds with
  |some (as,us)=> .opc (.lits esz len as) (k (.arr σ.nx) ((σ.upd us).new (.arr (.v n) esz ety false true)) (n+1))
  |none=> .fail)
 |.load agg size x=>(match ρ x with
  |.loc i off=>(match getO σ.heap i with
   |.box ds=>(match agg with
    |true=>if off+size≤ds.length then k (.agg ((ds.drop off).take size)) σ n else .fail
    |false=>(match ds[off]? with
     |some d=>k d σ n
     |none=> .fail))
   |_=> .fail)
  |.ptr r off esz=>(match agg with
   |true=>if off+size≤esz then k (.agg ((nths r off size).map .a)) σ n else .fail
   |false=>if off < esz then k (.a (.n r off)) σ n else .fail)
  |.eloc i x off=>(match getO σ.heap i with
   |.arr s esz _ _ _=>(match agg with
    |true=>if off+size≤esz then .row esz s x (k (.agg ((nths n off size).map .a)) (σ.len n esz) (n+1)) else .fail
    |false=>if off < esz then .row esz s x (k (.a (.n n off)) (σ.len n esz) (n+1)) else .fail)
   |_=> .fail)
  |_=> .fail)
 |.store size a v=>(match ρ a with
  |.loc i off=>(match getO σ.heap i,cellsS (ρ v) with
   |.box ds,some xs=>if xs.length=size∧off+size≤ds.length then k .unk (σ.upd [(i,.box (splice ds off xs))]) n else .fail
   |_,_=> .fail)
  |.eloc i x off=>(match frzCS σ.heap (ρ v) with
   |some (as,us)=>(match getO (updS σ.heap us) i with
    |.arr s esz ety false al=>if as.length=size∧off+size≤esz then .opc (.set esz s x off as) (k .unk (σ.upd (us++[(i,.arr (.v n) esz ety false al)])) (n+1)) else .fail
    |_=> .fail)
   |none=> .fail)
  |_=> .fail)
 |.nilck x=>(match ρ x with
  |.loc i off=>k (.loc i off) σ n
  |.ptr r off esz=>k (.ptr r off esz) σ n
  |.eloc i x off=>k (.eloc i x off) σ n
  |_=> .fail)
 |.bin op isB x y=>(match asAt (ρ x),asAt (ρ y) with
  |some a,some b=> .opc (.bin op isB a b) (k (.a (.v n)) σ (n+1))
  |_,_=> .fail)
 |.eqs ks neg x y=>(match ρ x,ρ y with
  |.agg as,.agg bs=>(match asAts as,asAts bs with
   |some xs,some ys=> .opc (.eqs ks neg (mkSL σ.lens xs) (mkSL σ.lens ys)) (k (.a (.v n)) σ (n+1))
   |_,_=> .fail)
  |_,_=> .fail)
 |.un op x=>(match op,asAt (ρ x) with
  |.not,some (.k (.bool b))=>k (.a (.k (.bool !b))) σ n
  |op,some a=> .opc (.un op a) (k (.a (.v n)) σ (n+1))
  |_,none=> .fail)
 |.conv kd x=>(match asAt (ρ x) with
  |some a=> .opc (.conv kd a) (k (.a (.v n)) σ (n+1))
  |none=> .fail)
 |.toStr x=>(match bytesAt σ.heap (ρ x) with
  |some a=> .opc (.toStr a) (k (.a (.v n)) σ (n+1))
  |none=> .fail)
 |.mk esz ety bytes zero l c=>(match asAt (ρ l),asAt (ρ c) with
  |some a,some b=> .opc (.mk esz bytes zero a b) (k (.arr σ.nx) (σ.new (.arr (.v n) esz ety false true)) (n+1))
  |_,_=> .fail)
 |.slc esz x lo hi=>(match asAtO (lo.map ρ),asAtO (hi.map ρ) with
  |some l,some h=>(match ρ x with
   |.a s=> .opc (.sub esz s l h) (k (.a (.v n)) σ (n+1))
   |.full s=> .opc (.sub esz s l h) (k (.a (.v n)) σ (n+1))
   |.arr i=>(match getO σ.heap i with
    |.arr s esz' ety _ al=>if esz'=esz then .opc (.sub esz s l h) (k (.view i (.v n)) (σ.upd [(i,.arr s esz ety true al)]) (n+1)) else .fail
    |_=> .fail)
   |_=> .fail)
  |_,_=> .fail)
 |.clip esz x lo hi mx=>(match frzS σ.heap (ρ x),asAtO (lo.map ρ),asAt (ρ hi),asAt (ρ mx) with
  |some (s,us),some l,some a,some b=> .opc (.clip esz s l a b) (k (.full (.v n)) (σ.upd us) (n+1))
  |_,_,_,_=> .fail)
 |.sls x lo hi=>(match asAtO (lo.map ρ),asAtO (hi.map ρ),asAt (ρ x) with
  |some l,some h,some s=> .opc (.sstr s l h) (k (.a (.v n)) σ (n+1))
  |_,_,_=> .fail)
 |.fadr off x=>(match ρ x with
  |.loc i o=>k (.loc i (o+off)) σ n
  |.ptr r o esz=>k (.ptr r (o+off) esz) σ n
  |.eloc i x o=>k (.eloc i x (o+off)) σ n
  |_=> .fail)
 |.fld off agg size x=>(match ρ x with
  |.agg ds=>(match agg with
   |true=>if off+size≤ds.length then k (.agg ((ds.drop off).take size)) σ n else .fail
   |false=>(match ds[off]? with
    |some d=>k d σ n
    |none=> .fail))
  |_=> .fail)
 |.iadr esz x i=>(match asAt (ρ i) with
  |some a=>(match ρ x with
   |.a s=> .row esz s a (k (.ptr n 0 esz) (σ.len n esz) (n+1))
   |.full s=> .row esz s a (k (.ptr n 0 esz) (σ.len n esz) (n+1))
   |.arr i=>(match getO σ.heap i with
    |.arr s esz' _ _ _=>if esz'=esz then .row esz s a (k (.eloc i a 0) (σ.len n esz) (n+1)) else .fail
    |_=> .fail)
   |_=> .fail)
  |none=> .fail)
 |.sidx x i=>(match asAt (ρ x),asAt (ρ i) with
  |some a,some b=> .opc (.sidx a b) (k (.a (.v n)) σ (n+1))
  |_,_=> .fail)
 |.ext x i=>(match ρ x with
  |.tup ds=>(match ds[i]? with
   |some d=>k d σ n
   |none=> .fail)
  |_=> .fail)
 |.len isStr x=>(match srcAt σ.heap (ρ x) with
  |some a=> .opc (.len isStr a) (k (.a (.v n)) σ (n+1))
  |none=> .fail)
 |.app esz ety bytes x y=>(match srcAtE σ.heap esz (ρ y) with
  |some t=>(match ρ x with
   |.full s=> .opc (.app esz bytes s t) (k (.arr σ.nx) (σ.new (.arr (.v n) esz ety (!isZ s) false)) (n+1))
   |.arr i=>(match getO σ.heap i with
    |.arr s esz' ety' fr al=>if esz'=esz∧ety'=ety then .opc (.app esz bytes s t) (k (.arr σ.nx) ((σ.upd [(i,.dead)]).new (.arr (.v n) esz ety fr al)) (n+1)) else .fail
    |_=> .fail)
   |_=> .fail)
  |none=> .fail)
 |.cpy esz x y=>(match srcAtE σ.heap esz (ρ y),ρ x with
  |some t,.arr i=>(match getO σ.heap i with
   |.arr s esz' ety false true=>if esz'=esz then .opc (.cpy esz s t) (.opc (.cnt esz s t) (k (.a (.v (n+1))) (σ.upd [(i,.arr (.v n) esz ety false true)]) (n+2))) else .fail
   |_=> .fail)
  |_,_=> .fail)
 |.mx x y=>(match asAt (ρ x),asAt (ρ y) with
  |some a,some b=> .opc (.mm true a b) (k (.a (.v n)) σ (n+1))
  |_,_=> .fail)
 |.mn x y=>(match asAt (ρ x),asAt (ρ y) with
  |some a,some b=> .opc (.mm false a b) (k (.a (.v n)) σ (n+1))
  |_,_=> .fail)
 |.mkf f xs=>(match capsS ρ xs with
  |some ls=>k (.clo f ls) σ n
  |none=> .fail)
 |_=> .fail
inductive CK where
 |c
 |d
 |full
 |own (esz ety:Nat) (fr al:Bool)
inductive RS where
 |one (k:CK)
 |agg (ks:List CK)
structure Sig where
 params:List PS
 boxes:List Nat
 rs:List RS
 nat:Bool:=false
 code:Option Nat:=none
 alts:List Nat:=[]
def Sig.cd (s:Sig) (f:Nat):Nat:=s.code.getD f
def CK.isC:CK→Bool
 |.c=>true
 |_=>false
def CK.notC:CK→Bool
 |.c=>false
 |_=>true
def RS.isC:RS→Bool
 |.one k=>k.isC
 |.agg ks=>ks.all CK.isC
def RS.notC:RS→Bool
 |.one k=>k.notC
 |.agg ks=>ks.all CK.notC
def RS.shape:RS→Option Nat
 |.one _=>none
 |.agg ks=>some ks.length
def resC:List (Option Nat)→Nat→List SD×List (Nat×Nat)
 |[],_=>([],[])
 |none::ss,n=>match resC ss (n+1) with|(ds,ls)=>(.a (.v n)::ds,ls)
 |some m::ss,n=>match resC ss (n+1) with|(ds,ls)=>(.agg ((nths n 0 m).map .a)::ds,(n,m)::ls)
def tupS:List SD→SD
 |[d]=>d
 |ds=> .tup ds
def Sy.addLens (σ:Sy) (l:List (Nat×Nat)):Sy:={ σ with lens:=l++σ.lens}
def symCall (sig:Nat→Option Sig) (σ:Sy) (n:Nat) (f:Nat) (ds:List SD) (k:SD→Sy→Nat→Tree):Tree:=
 match sig f,frzVSs σ.lens σ.heap ds with
 |some s,some (vs,us)=>
  let sh:=s.rs.map RS.shape
  if s.code=none then
  (match resC sh n with|(ds,ls)=> .call f (vs.map .v) [] sh [] (k (tupS ds) ((σ.upd us).addLens ls) (n+sh.length)))
  else .fail
 |_,_=> .fail
def ckS (σ:Sy) (x:At):CK→SD×Sy
 |.c=>(.a x,σ)
 |.d=>(.a x,σ)
 |.full=>(.full x,σ)
 |.own esz ety fr al=>(.arr σ.nx,σ.new (.arr x esz ety fr al))
def ckSs (σ:Sy) (i:Nat):List CK→Nat→List SD×Sy
 |[],_=>([],σ)
 |c::cs,j=>match ckS σ (.n i j) c with|(d,σ)=>match ckSs σ i cs (j+1) with|(ds,σ)=>(d::ds,σ)
def resL (σ:Sy):List RS→Nat→List SD×Sy
 |[],_=>([],σ)
 |.one c::ss,n=>match ckS σ (.v n) c with|(d,σ)=>match resL σ ss (n+1) with|(ds,σ)=>(d::ds,σ)
 |.agg cs::ss,n=>match ckSs (σ.len n cs.length) n cs 0 with|(xs,σ)=>match resL σ ss (n+1) with|(ds,σ)=>(.agg xs::ds,σ)
def boxL (σ:Sy):List Nat→List Nat→Nat→Sy
 |i::is,m::ms,n=>boxL { σ with heap:=(i,.box ((nths n 0 m).map .a))::σ.heap,lens:=(n,m)::σ.lens} is ms (n+1)
 |_,_,_=>σ
def capL (bx:List Nat):List (Nat×Nat)→List (Nat×Nat)→Bool
 |[],[]=>true
 |(b,o)::r,(i,o')::r'=>bx[b]?==some i && o'==o && capL bx r r'
 |_,_=>false
def findCap:List (Nat×Nat)→List (Nat×Nat)→Nat→Option Nat
 |(b',_)::r,(i,_)::r',b=>if b'=b then some i else findCap r r' b
 |_,_,_=>none
def argL (lens:List (Nat×Nat)) (h:List (Nat×SO)) (bx:List Nat):List PS→List SD→Option (List TA×List (Nat×SO))
 |[],[]=>some ([],[])
 |.ref b off::ps,.loc i o::ds=>if bx[b]?=some i∧o=off then (argL lens h bx ps ds).bind fun q=>some (.ref b off::q.1,q.2) else none
 |.ref _ _::_,_=>none
 |.clo g caps::ps,.clo g' caps'::ds=>if g'=g∧capL bx caps caps'=true then (argL lens h bx ps ds).bind fun q=>some (.ref 0 0::q.1,q.2) else none
 |.clo _ _::_,_=>none
 |_::ps,d::ds=>(frzVS lens h d).bind fun p=>(argL lens (updS h p.2) bx ps ds).bind fun q=>some (.v p.1::q.1,p.2++q.2)
 |_,_=>none
def findB:List PS→List SD→Nat→Option Nat
 |.ref b' _::ps,.loc i _::ds,b=>if b'=b then some i else findB ps ds b
 |.clo _ caps::ps,.clo _ caps'::ds,b=>(match findCap caps caps' b with|some i=>some i|none=>findB ps ds b)
 |_::ps,_::ds,b=>findB ps ds b
 |_,_,_=>none
def findBs (ps:List PS) (ds:List SD):Nat→Nat→Option (List Nat)
 |_,0=>some []
 |b,m+1=>(findB ps ds b).bind fun i=>(findBs ps ds (b+1) m).bind fun is=>some (i::is)
def nodupB:List Nat→Bool
 |[]=>true
 |i::is=>!is.contains i && nodupB is
def boxesOf (lens:List (Nat×Nat)) (h:List (Nat×SO)):List Nat→List Nat→Option (List SL)
 |[],[]=>some []
 |i::is,m::ms=>(match getO h i with
  |.box ds=>(asAts ds).bind fun as=>if as.length=m then (boxesOf lens h is ms).bind fun r=>some (mkSL lens as::r) else none
  |_=>none)
 |_,_=>none
def cloFit:List PS→List SD→Bool
 |[],[]=>true
 |.clo g caps::ps,.clo g' caps'::ds=>g'==g && caps.length==caps'.length && cloFit ps ds
 |.clo _ _::_,_=>false
 |_::_,.clo _ _::_=>false
 |_::ps,_::ds=>cloFit ps ds
 |_,_=>false
def pickK (sig:Nat→Option Sig) (f:Nat) (ds:List SD):List Nat→Nat
 |[]=>f
 |g::gs=>(match sig g with
  |some s=>if cloFit s.params ds then g else pickK sig f ds gs
  |none=>pickK sig f ds gs)
def keyOf (sig:Nat→Option Sig) (f:Nat) (ds:List SD):Nat:=
 match sig f with
 |some s=>pickK sig f ds s.alts
 |none=>f
def symLendK (sig:Nat→Option Sig) (own:Bool) (σ:Sy) (n:Nat) (f g:Nat) (ds:List SD) (k:SD→Sy→Nat→Tree):Tree:=
 match sig g with
 |some s=>if s.nat=true∨s.cd g≠f then .fail else if (if own then s.rs.all RS.notC else s.rs.all RS.isC) then (match findBs s.params ds 0 s.boxes.length with
  |some bx=>if nodupB bx then (match argL σ.lens σ.heap bx s.params ds with
   |some (as,us)=>(match boxesOf σ.lens (updS σ.heap us) bx s.boxes with
    |some bs=>
     let sh:=s.rs.map RS.shape
     let σ1:=boxL (σ.upd us) bx s.boxes (n+sh.length)
     (match resL σ1 s.rs n with|(ds,σ2)=> .call g as bs sh s.boxes (k (tupS ds) σ2 (n+sh.length+s.boxes.length)))
    |none=> .fail)
   |none=> .fail) else .fail
  |none=> .fail) else .fail
 |none=> .fail
def symLend (sig:Nat→Option Sig) (own:Bool) (σ:Sy) (n:Nat) (f:Nat) (ds:List SD) (k:SD→Sy→Nat→Tree):Tree:=
 symLendK sig own σ n f (keyOf sig f ds) ds k
def refsUp:Nat→List PS→Option Nat
 |b,[]=>some b
 |b,.ref q off::ps=>if q=b∧off=0 then refsUp (b+1) ps else none
 |b,.one::ps=>refsUp b ps
 |b,.agg _::ps=>refsUp b ps
 |_,.clo _ _::_=>none
def symLent (sig:Nat→Option Sig) (σ:Sy) (n:Nat) (f:Nat) (ds:List SD) (k:SD→Sy→Nat→Tree):Tree:=
 match sig f with
 |some s=>if refsUp 0 s.params=some s.boxes.length then symLendK sig false σ n f f ds k else .fail
 |none=> .fail
def guardS (σ:Sy) (kn:Kn) (g:Option (Nat×Bool)) (k:Bool→Kn→Tree):Tree:=
 match g with
 |none=>k true kn
 |some (t,want)=>(match getS σ.env t with
  |.tup []=>k false kn
  |d=>withBool kn d fun b kn=>k (b==want) kn)
def symSeq (sig:Nat→Option Sig) (k:Sy→Nat→Kn→Tree):List Inst→Sy→Nat→Kn→Tree
 |[],σ,n,kn=>k σ n kn
 |i::is,σ,n,kn=>guardS σ kn i.guard fun w kn=>
  match w with
  |false=>symSeq sig k is (σ.put i.dst (.tup [])) n kn
  |true=>match i.ins with
   |.pick c a b=>withBool kn (xS σ c) fun t kn=>symSeq sig k is (σ.put i.dst (xS σ (if t then a else b))) n kn
   |.call f xs=>symCall sig σ n f (xs.map (xS σ)) fun d σ n=>symSeq sig k is (σ.put i.dst d) n kn
   |.callS f own xs=>symLend sig own σ n f (xs.map (xS σ)) fun d σ n=>symSeq sig k is (σ.put i.dst d) n kn
   |.callV x xs=>(match xS σ x with
    |.clo f caps=>symLend sig false σ n f (xs.map (xS σ)++caps.map fun p=> .loc p.1 p.2) fun d σ n=>symSeq sig k is (σ.put i.dst d) n kn
    |_=> .fail)
   |ins=>symIns σ n (xS σ) (fun d σ n=>symSeq sig k is (σ.put i.dst d) n kn) ins
def idS:SD→List Nat
 |.arr i=>[i]
 |.view i _=>[i]
 |_=>[]
def idsS:SD→List Nat
 |.agg ds=>ds.flatMap idS
 |d=>idS d
def touchLS (d:SD):List Nat:=match d with|.loc i _=>[i]|d=>idsS d
def touchS (ρ:X→SD):Ins→List Nat
 |.load _ _ x=>(match ρ x with|.loc i _=>[i]|.eloc i _ _=>[i]|_=>[])
 |.store _ a v=>(match ρ a with|.loc i _=>[i]|.eloc i _ _=>[i]|_=>[])++idsS (ρ v)
 |.lits _ _ _ _ ps=>ps.flatMap fun p=>idsS (ρ p.2.2)
 |.toStr x=>idsS (ρ x)
 |.slc _ x _ _=>idsS (ρ x)
 |.clip _ x _ _ _=>idsS (ρ x)
 |.iadr _ x _=>idsS (ρ x)
 |.app _ _ _ x y=>idsS (ρ x)++idsS (ρ y)
 |.cpy _ x y=>idsS (ρ x)++idsS (ρ y)
 |.call _ xs=>xs.flatMap fun x=>idsS (ρ x)
 |.callL _ xs=>xs.flatMap fun x=>touchLS (ρ x)
 |_=>[]
def readsOnly:Ins→Bool
 |.load _ _ _|.toStr _|.slc _ _ _ _|.iadr _ _ _=>true
 |_=>false
def turnS (ρ:X→SD) (i:Ins):List Nat:=if readsOnly i then [] else touchS ρ i
def wroteS (nx nx':Nat) (ts:List Nat):List Nat:=ts++(List.range (nx' - nx)).map (nx+·)
def symDraw (sig:Nat→Option Sig) (k:Sy→Nat→Kn→List Trace→Tree):List Inst→Sy→Nat→Kn→List Trace→Tree
 |[],σ,n,kn,ts=>k σ n kn ts
 |i::is,σ,n,kn,ts=>guardS σ kn i.guard fun w kn=>
  let gt:List Nat:=match i.guard with|some (t,_)=>[t]|none=>[]
  match w with
  |false=>symDraw sig k is (σ.put i.dst (.tup [])) n kn (ts++[⟨gt,i.dst.toList,[],[]⟩])
  |true=>
   let go:=fun (d:SD) (σ':Sy) (n:Nat) (kn:Kn)=>symDraw sig k is (σ'.put i.dst d) n kn
    (ts++[⟨gt++tmpsX (opX i.ins),i.dst.toList,touchS (xS σ) i.ins,wroteS σ.nx σ'.nx (turnS (xS σ) i.ins)⟩])
   match i.ins with
   |.pick c a b=>withBool kn (xS σ c) fun t kn=>go (xS σ (if t then a else b)) σ n kn
   |.call f xs=>symCall sig σ n f (xs.map (xS σ)) fun d σ n=>go d σ n kn
   |.callS _ _ _=> .fail
   |.callV _ _=> .fail
   |.callL f xs=>symLent sig σ n f (xs.map (xS σ)) fun d σ n=>go d σ n kn
   |ins=>symIns σ n (xS σ) (fun d σ n=>go d σ n kn) ins
inductive Sh where
 |unk
 |a
 |full
 |loc (i off:Nat)
 |arr (i:Nat)
 |clo (f:Nat) (caps:List (Nat×Nat))
 |aggL (m:Nat)
 |agg (ds:List Sh)
inductive SOh where
 |boxL (m:Nat)
 |box (ds:List Sh)
 |arr (esz ety:Nat) (fr al:Bool)
structure HS where
 p:List Nat
 env:List (Nat×Sh)
 heap:List SOh
end Go.Ey

namespace Go.Ey
def instC (n:Nat):Sh→SD×Nat
 |.a=>(.a (.v n),n+1)
 |.full=>(.full (.v n),n+1)
 |.loc i off=>(.loc i off,n)
 |.arr i=>(.arr i,n)
 |.clo f caps=>(.clo f caps,n)
 |_=>(.unk,n)
def instCs:Nat→List Sh→List SD×Nat
 |n,[]=>([],n)
 |n,s::ss=>match instC n s with|(d,n)=>match instCs n ss with|(ds,n)=>(d::ds,n)
def instD (n:Nat):Sh→SD×Nat×List (Nat×Nat)
 |.aggL m=>(.agg ((nths n 0 m).map .a),n+1,[(n,m)])
 |.agg ss=>match instCs n ss with|(ds,n)=>(.agg ds,n,[])
 |s=>match instC n s with|(d,n)=>(d,n,[])
def instO (n:Nat):SOh→SO×Nat×List (Nat×Nat)
 |.boxL m=>(.box ((nths n 0 m).map .a),n+1,[(n,m)])
 |.box ss=>match instCs n ss with|(ds,n)=>(.box ds,n,[])
 |.arr esz ety fr al=>(.arr (.v n) esz ety fr al,n+1,[])
def instE:Nat→List (Nat×Sh)→List (Nat×SD)×Nat×List (Nat×Nat)
 |n,[]=>([],n,[])
 |n,(t,s)::r=>match instD n s with|(d,n,l)=>match instE n r with|(e,n,l')=>((t,d)::e,n,l++l')
def instH:Nat→Nat→List SOh→List (Nat×SO)×Nat×List (Nat×Nat)
 |_,n,[]=>([],n,[])
 |q,n,o::r=>match instO n o with|(x,n,l)=>match instH (q+1) n r with|(h,n,l')=>((q,x)::h,n,l++l')
def shSyN (h:HS):Sy×Nat:=match instE 0 h.env with|(e,n,l)=>match instH 0 n h.heap with|(hp,n,l')=>(⟨e,hp,h.heap.length,l++l'⟩,n)
def capOk (μ:List (Option Nat)):List (Nat×Nat)→List (Nat×Nat)→Bool
 |[],[]=>true
 |(i,o)::r,(i',o')::r'=>(match μ[i]? with|some (some j)=>j==i'|_=>false) && o==o' && capOk μ r r'
 |_,_=>false
def argC (μ:List (Option Nat)):Sh→SD→Option (List TW)
 |.unk,_=>some []
 |.a,.a x=>some [.c x]
 |.a,.full x=>some [.c x]
 |.full,.full x=>some [.c x]
 |.loc i off,.loc i' off'=>if μ[i]?=some (some i')∧off=off' then some [] else none
 |.arr i,.arr i'=>if μ[i]?=some (some i') then some [] else none
 |.arr i,.full .z=>if μ[i]?=some none then some [] else none
 |.clo f caps,.clo f' caps'=>if f=f'∧capOk μ caps caps'=true then some [] else none
 |_,_=>none
def argCs (μ:List (Option Nat)):List Sh→List SD→Option (List TW)
 |[],[]=>some []
 |s::ss,d::ds=>(argC μ s d).bind fun x=>(argCs μ ss ds).bind fun y=>some (x++y)
 |_,_=>none
def argD (lens:List (Nat×Nat)) (μ:List (Option Nat)):Sh→SD→Option (List TW)
 |.aggL m,.agg ds=>(asAts ds).bind fun as=>if as.length=m then some [.l (mkSL lens as)] else none
 |.agg ss,.agg ds=>argCs μ ss ds
 |.aggL _,_=>none
 |.agg _,_=>none
 |s,d=>argC μ s d
def argE (σ:Sy) (μ:List (Option Nat)):List (Nat×Sh)→Option (List TW)
 |[]=>some []
 |(t,s)::r=>(argD σ.lens μ s (getS σ.env t)).bind fun x=>(argE σ μ r).bind fun y=>some (x++y)
def argO (σ:Sy) (μ:List (Option Nat)):Option Nat→SOh→Option (List TW)
 |none,.arr _ _ _ false=>some [.c .z]
 |none,_=>none
 |some i,o=>match o,getO σ.heap i with
  |.boxL m,.box ds=>(asAts ds).bind fun as=>if as.length=m then some [.l (mkSL σ.lens as)] else none
  |.box ss,.box ds=>argCs μ ss ds
  |.arr esz ety fr al,.arr x esz' ety' fr' al'=>if esz'=esz∧ety'=ety∧(fr'=true→fr=true)∧(al=true→al'=true) then some [.c x] else none
  |_,_=>none
def argH (σ:Sy) (μ:List (Option Nat)):List (Option Nat)→List SOh→Option (List TW)
 |[],[]=>some []
 |j::js,o::os=>(argO σ μ j o).bind fun x=>(argH σ μ js os).bind fun y=>some (x++y)
 |_,_=>none
def muCap:List (Nat×Nat)→List (Nat×Nat)→List (Nat×Option Nat)
 |(i,_)::r,(i',_)::r'=>(i,some i')::muCap r r'
 |_,_=>[]
def muC:Sh→SD→List (Nat×Option Nat)
 |.loc i _,.loc i' _=>[(i,some i')]
 |.arr i,.arr i'=>[(i,some i')]
 |.clo _ caps,.clo _ caps'=>muCap caps caps'
 |_,_=>[]
def muCs:List Sh→List SD→List (Nat×Option Nat)
 |s::ss,d::ds=>muC s d++muCs ss ds
 |_,_=>[]
def muD:Sh→SD→List (Nat×Option Nat)
 |.agg ss,.agg ds=>muCs ss ds
 |s,d=>muC s d
def muGet:List (Nat×Option Nat)→Nat→Option Nat
 |[],_=>none
 |(i,j)::r,q=>if i=q then j else muGet r q
def muH (h:List (Nat×SO)):List (Nat×Option Nat)→Nat→List SOh→List (Nat×Option Nat)
 |acc,_,[]=>acc
 |acc,q,.box ss::os=>(match muGet acc q with
  |some i=>(match getO h i with
   |.box ds=>muH h (acc++muCs ss ds) (q+1) os
   |_=>muH h acc (q+1) os)
  |none=>muH h acc (q+1) os)
 |acc,q,_::os=>muH h acc (q+1) os
def somes:List (Option Nat)→List Nat
 |[]=>[]
 |some i::r=>i::somes r
 |none::r=>somes r
def lentOk (μ:List (Option Nat)):Nat→Nat→Bool
 |_,0=>true
 |b,k+1=>(match μ[b]? with|some (some i)=>i==b|_=>false) && lentOk μ (b+1) k
def headArgs (k:Nat) (h:HS) (σ:Sy):Option (List TW):=
 let acc:=muH σ.heap ((List.range k).map (fun b=>(b,some b))++h.env.flatMap fun p=>muD p.2 (getS σ.env p.1)) 0 h.heap
 let μ:=(List.range h.heap.length).map (muGet acc)
 if nodupB (somes μ) && lentOk μ 0 k then (argE σ μ h.env).bind fun x=>(argH σ μ μ h.heap).bind fun y=>some (x++y) else none
structure Cx where
 sig:Nat→Option Sig
 heads:List HS
 res:List Res
 rs:List RS
 bl:List Nat
def tryHeads (k:Nat) (p:List Nat) (σ:Sy):Nat→List HS→Tree
 |_,[]=> .fail
 |i,h::hs=>if h.p=p then (match headArgs k h σ with
  |some ws=> .goto i ws
  |none=>tryHeads k p σ (i+1) hs) else tryHeads k p σ (i+1) hs
def resS (σ:Sy):List Res→Option (List SD)
 |[]=>some []
 |.tmp t::r=>(resS σ r).bind fun ds=>(match getS σ.env t with
  |.tup _=>none
  |.unk=>none
  |d=>some (d::ds))
 |.cell t agg size::r=>(match getS σ.env t with
  |.loc i off=>(match getO σ.heap i with
   |.box ds=>(match agg with
    |true=>if off+size≤ds.length then (resS σ r).bind fun l=>some (.agg ((ds.drop off).take size)::l) else none
    |false=>(ds[off]?).bind fun d=>(resS σ r).bind fun l=>some (d::l))
   |_=>none)
  |_=>none)
def ckOk (h:List (Nat×SO)):CK→SD→Option (At×List Nat)
 |.c,.a x=>some (x,[])
 |.c,.full x=>some (x,[])
 |.c,.view i x=>(match getO h i with
  |.arr _ _ _ _ _=>some (x,[])
  |_=>none)
 |.c,.arr i=>(match getO h i with
  |.arr x _ _ _ _=>some (x,[])
  |_=>none)
 |.d,.a x=>some (x,[])
 |.d,.full x=>some (x,[])
 |.full,.full x=>some (x,[])
 |.own esz ety fr al,.arr i=>(match getO h i with
  |.arr x esz' ety' fr' al'=>if esz'=esz∧ety'=ety∧(fr'=true→fr=true)∧(al=true→al'=true) then some (x,[i]) else none
  |_=>none)
 |.own _ _ _ false,.full .z=>some (.z,[])
 |_,_=>none
def ckOks (h:List (Nat×SO)):List CK→List SD→Option (List At×List Nat)
 |[],[]=>some ([],[])
 |k::ks,d::ds=>(ckOk h k d).bind fun p=>(ckOks h ks ds).bind fun q=>some (p.1::q.1,p.2++q.2)
 |_,_=>none
def rsOk (lens:List (Nat×Nat)) (h:List (Nat×SO)):RS→SD→Option (TV×List Nat)
 |.one k,d=>(ckOk h k d).bind fun p=>some (.one p.1,p.2)
 |.agg ks,.agg ds=>(ckOks h ks ds).bind fun p=>some (.agg (mkSL lens p.1),p.2)
 |_,_=>none
def rsOks (lens:List (Nat×Nat)) (h:List (Nat×SO)):List RS→List SD→Option (List TV×List Nat)
 |[],[]=>some ([],[])
 |k::ks,d::ds=>(rsOk lens h k d).bind fun p=>(rsOks lens h ks ds).bind fun q=>some (p.1::q.1,p.2++q.2)
 |_,_=>none
def symFin (cx:Cx) (σ:Sy):Tree:=
 match resS σ cx.res with
 |some ds=>(match rsOks σ.lens σ.heap cx.rs ds with
  |some (vs,own)=>(match boxesOf σ.lens σ.heap (List.range cx.bl.length) cx.bl with
   |some bs=>if nodupB own then .ret vs bs else .fail
   |none=> .fail)
  |none=> .fail)
 |none=> .fail
inductive Fr where
 |seq (p:List Nat) (b:ICode)
 |blk (id:Nat)
 |loop (p:List Nat) (c:ICode)
def normK (cx:Cx) (rec:List Nat→ICode→List Fr→Sy→Nat→Kn→Tree):List Fr→Sy→Nat→Kn→Tree
 |[],σ,_,_=>symFin cx σ
 |.seq p b::K,σ,n,kn=>rec p b K σ n kn
 |.blk _::K,σ,n,kn=>normK cx rec K σ n kn
 |.loop p _::_,σ,_,_=>tryHeads cx.bl.length p σ 0 cx.heads
def exitK (cx:Cx) (rec:List Nat→ICode→List Fr→Sy→Nat→Kn→Tree) (id:Nat):List Fr→Sy→Nat→Kn→Tree
 |[],_,_,_=> .fail
 |.blk id'::K,σ,n,kn=>if id=id' then normK cx rec K σ n kn else exitK cx rec id K σ n kn
 |.seq _ _::K,σ,n,kn=>exitK cx rec id K σ n kn
 |.loop _ _::K,σ,n,kn=>exitK cx rec id K σ n kn
def symGo (cx:Cx):Nat→List Nat→ICode→List Fr→Sy→Nat→Kn→Tree
 |0,_,_,_,_,_,_=> .fail
 |fuel+1,p,c,K,σ,n,kn=>match c with
  |.skip=>normK cx (symGo cx fuel) K σ n kn
  |.ret=>symFin cx σ
  |.exit id=>exitK cx (symGo cx fuel) id K σ n kn
  |.region is=>symSeq cx.sig (fun σ n kn=>normK cx (symGo cx fuel) K σ n kn) is σ n kn
  |.draw is ws=>symDraw cx.sig (fun σ n kn ts=>if drawOk ts ws then normK cx (symGo cx fuel) K σ n kn else .fail) is σ n kn []
  |.seq a b=>symGo cx fuel (0::p) a (.seq (1::p) b::K) σ n kn
  |.cond x a b=>withBool kn (xS σ x) fun t kn=>match t with
   |true=>symGo cx fuel (0::p) a K σ n kn
   |false=>symGo cx fuel (1::p) b K σ n kn
  |.block id c=>symGo cx fuel (0::p) c (.blk id::K) σ n kn
  |.loop _=>tryHeads cx.bl.length p σ 0 cx.heads
def locate (B:ICode):List Nat→Option (ICode×List Fr)
 |[]=>some (B,[])
 |i::q=>(locate B q).bind fun r=>match r.1,i with
  |.seq a b,0=>some (a,.seq (1::q) b::r.2)
  |.seq _ b,1=>some (b,r.2)
  |.cond _ a _,0=>some (a,r.2)
  |.cond _ _ b,1=>some (b,r.2)
  |.block id c,0=>some (c,.blk id::r.2)
  |.loop c,0=>some (c,.loop q c::r.2)
  |_,_=>none
def entP:List PS→Nat→Nat→List (Nat×SD)×Nat×List (Nat×Nat)
 |[],_,n=>([],n,[])
 |.one::ps,t,n=>match entP ps (t+1) (n+1) with|(e,k,l)=>((t,.a (.v n))::e,k,l)
 |.agg m::ps,t,n=>match entP ps (t+1) (n+1) with|(e,k,l)=>((t,.agg ((nths n 0 m).map .a))::e,k,(n,m)::l)
 |.ref b off::ps,t,n=>match entP ps (t+1) n with|(e,k,l)=>((t,.loc b off)::e,k,l)
 |.clo g caps::ps,t,n=>match entP ps (t+1) n with|(e,k,l)=>((t,.clo g caps)::e,k,l)
def entB:List Nat→Nat→Nat→List (Nat×SO)×Nat×List (Nat×Nat)
 |[],_,n=>([],n,[])
 |m::ms,b,n=>match entB ms (b+1) (n+1) with|(h,k,l)=>((b,.box ((nths n 0 m).map .a))::h,k,(n,m)::l)
def entSyN (s:Sig):Sy×Nat:=match entP s.params 0 0 with|(e,n,l)=>match entB s.boxes 0 n with|(h,n,l')=>(⟨e,h,s.boxes.length,l++l'⟩,n)
def headTree (cx:Cx) (fuel:Nat) (B:ICode) (h:HS):Tree:=
 match locate B h.p with
 |some (.loop c,K)=>(match shSyN h with|(σ,n)=>symGo cx fuel (0::h.p) c (.loop h.p c::K) σ n [])
 |_=> .fail
def symFn (sig:Nat→Option Sig) (fuel:Nat) (s:Sig) (hs:List HS) (I:IFunc):TFun:=
 let cx:Cx:=⟨sig,hs,I.res,s.rs,s.boxes⟩
 ⟨s.params,s.boxes,(match entSyN s with|(σ,n)=>symGo cx fuel [] I.body [] σ n []),hs.map (headTree cx fuel I.body)⟩
end Go.Ey

namespace Go.Ey
def isNilS:Value→Bool
 |.slice none 0 0=>true
 |_=>false
def compX:Operand→Option X
 |.tmp t=>some (.t t)
 |.const v=>if scalar v||isNilS v then some (.k v) else none
 |.func f=>some (.f f)
 |_=>none
def compXs:List Operand→Option (List X)
 |[]=>some []
 |o::os=>do
  let x ←compX o
  let xs ←compXs os
  some (x::xs)
def compOX:Option Operand→Option (Option X)
 |none=>some none
 |some o=>do
  let x ←compX o
  some (some x)
def aggB (P:Program) (t:TypeId):Option Bool:=
 match P.underlying t with
 |some (.struct _)|some (.array _ _)=>some true
 |some _=>some false
 |none=>none
def zeroOf (P:Program) (t:TypeId):Option (List Value):=do
 let i ←P.info? t
 let z ←i.zero
 if (z.cells.toList.all fun v=>scalar v||isNilS v)∧z.cells.size=i.size then some z.cells.toList else none
def fieldsOf (P:Program) (t:TypeId):Option (List Field):=
 match P.underlying t with
 |some (.struct fs)=>some fs.toList
 |_=>none
def elemOfSlice (P:Program) (t:TypeId):Option TypeId:=
 match P.underlying t with
 |some (.slice e)=>some e
 |_=>none
def compFields (P:Program) (fs:List Field):List (Nat×Operand)→Option (List (Nat×Nat×X))
 |[]=>some []
 |(i,o)::r=>do
  let f ←fs[i]?
  let info ←P.info? f.type
  let x ←compX o
  let ps ←compFields P fs r
  some ((f.offset,info.size,x)::ps)
def compElems (size:Nat):List (Nat×Operand)→Option (List (Nat×Nat×X))
 |[]=>some []
 |(i,o)::r=>do
  let x ←compX o
  let ps ←compElems size r
  some ((i * size,size,x)::ps)
def fieldsKnown (P:Program) (fs:List Field):Bool:=fs.all fun f=>(P.info? f.type).isSome
def kindT (P:Program) (t:TypeId):Option Nat:=
 match P.underlying t with
 |some (.int _)=>some 0
 |some .string=>some 1
 |some .bool=>some 2
 |_=>none
def fieldKinds (P:Program):Nat→List Field→Option (List Nat)
 |_,[]=>some []
 |j,f::fs=>do
  let k ←kindT P f.type
  let ks ←fieldKinds P (j+1) fs
  if f.offset=j∧f.name≠ "_" then some (k::ks) else none
def eqIns (ks:List Nat) (op:BinOp) (x y:X):Option Ins:=
 match op with
 |.eql=>some (.eqs ks false x y)
 |.neq=>some (.eqs ks true x y)
 |_=>none
def compOp (P:Program) (sharedF:Nat→Nat) (op:Op):Option Ins:=
 match op with
 |.move x|.assign x=>do
  let x ←compX x
  some (.mov x)
 |.pick c a b=>do
  let c ←compX c
  let a ←compX a
  let b ←compX b
  some (.pick c a b)
 |.alloc t=>do
  let z ←zeroOf P t
  some (.alloc z)
 |.box _ x=>do
  let x ←compX x
  some (.box x)
 |.build t parts=>do
  let fs ←fieldsOf P t
  let z ←zeroOf P t
  let ps ←compFields P fs parts.toList
  if fieldsKnown P fs then some (.build z ps) else none
 |.buildSlice t len parts=>do
  let e ←elemOfSlice P t
  let i ←P.info? e
  let z ←zeroOf P e
  let ps ←compElems i.size parts.toList
  if len * i.size≤16777216∧0 < i.size then some (.lits i.size e len z ps) else none
 |.load t a=>do
  let agg ←aggB P t
  let i ←P.info? t
  let x ←compX a
  some (.load agg i.size x)
 |.store t a v=>do
  let i ←P.info? t
  let a ←compX a
  let v ←compX v
  some (.store i.size a v)
 |.nilCheck x=>do
  let x ←compX x
  some (.nilck x)
 |.binOp op t x y _=>do
  let x ←compX x
  let y ←compX y
  match P.underlying t with
  |some .bool=>some (.bin op true x y)
  |some (.int _)=>some (.bin op false x y)
  |some .string=>some (.bin op false x y)
  |some (.struct fs)=>do
   let ks ←fieldKinds P 0 fs.toList
   if P.stoodInHeld t=false∧P.eqGuardType P.depth t=false then eqIns ks op x y else none
  |_=>none
 |.unOp op _ x=>do
  let x ←compX x
  some (.un op x)
 |.convert src dst x=>do
  let x ←compX x
  match P.underlying src,P.underlying dst with
  |some (.int _),some (.int k)=>some (.conv k x)
  |some (.slice e),some .string=>(match P.underlying e with
   |some (.int .u8)=>some (.toStr x)
   |_=>none)
  |_,_=>none
 |.makeSlice t l c=>do
  let e ←elemOfSlice P t
  let i ←P.info? e
  let z ←zeroOf P e
  let l ←compX l
  let c ←compX c
  if 0 < i.size then some (.mk i.size e i.bytes z l c) else none
 |.slice t x lo hi none=>do
  let x ←compX x
  let lo ←compOX lo
  let hi ←compOX hi
  match P.underlying t with
  |some .string=>some (.sls x lo hi)
  |some (.slice e)=>do
   let i ←P.info? e
   some (.slc i.size x lo hi)
  |_=>none
 |.slice t x lo (some hi) (some mx)=>do
  let x ←compX x
  let lo ←compOX lo
  let hi ←compX hi
  let mx ←compX mx
  match P.underlying t with
  |some (.slice e)=>do
   let i ←P.info? e
   some (.clip i.size x lo hi mx)
  |_=>none
 |.makeFunc (.func f) first captured=>do
  let xs ←compXs captured.toList
  if first.size=0 then some (.mkf f xs) else none
 |.fieldAddr t x f=>do
  let fs ←fieldsOf P t
  let fl ←fs[f]?
  let i ←P.info? fl.type
  let x ←compX x
  if 0 < i.size then some (.fadr fl.offset x) else none
 |.field t x f=>do
  let fs ←fieldsOf P t
  let fl ←fs[f]?
  let i ←P.info? fl.type
  let agg ←aggB P fl.type
  let x ←compX x
  some (.fld fl.offset agg i.size x)
 |.indexAddr t x i=>do
  let e ←elemOfSlice P t
  let info ←P.info? e
  let x ←compX x
  let i ←compX i
  some (.iadr info.size x i)
 |.index t x i=>do
  let x ←compX x
  let i ←compX i
  match P.underlying t with
  |some .string=>some (.sidx x i)
  |_=>none
 |.extract x i=>do
  let x ←compX x
  some (.ext x i)
 |.call { callee:=.value (.func f),args,argTypes:=_}=>do
  let xs ←compXs args.toList
  some (match sharedF f with|0=> .call f xs|1=> .callS f false xs|3=> .callL f xs|_=> .callS f true xs)
 |.call { callee:=.value (.tmp t),args,argTypes:=_}=>do
  let xs ←compXs args.toList
  some (.callV (.t t) xs)
 |.call { callee:=.builtin b,args,argTypes}=>do
  let xs ←compXs args.toList
  match b,xs,argTypes.toList with
  |.len,[x],[t]=>(match P.underlying t with
   |some .string=>some (.len true x)
   |some (.slice _)=>some (.len false x)
   |_=>none)
  |.append,[x,y],[t,t']=>do
   let e ←elemOfSlice P t
   let i ←P.info? e
   let _ ←zeroOf P e
   (match P.underlying t' with
   |some (.slice _)=>if 0 < i.size then some (.app i.size e i.bytes x y) else none
   |some .string=>if 0 < i.size then some (.app i.size e i.bytes x y) else none
   |_=>none)
  |.copy,[x,y],[t,_]=>do
   let e ←elemOfSlice P t
   let i ←P.info? e
   if 0 < i.size then some (.cpy i.size x y) else none
  |.max,[x,y],_=>some (.mx x y)
  |.min,[x,y],_=>some (.mn x y)
  |_,_,_=>none
 |_=>none
def keyKind (P:Program) (t:TypeId):Option (Nat×Nat):=
 match kindT P t with
 |some k=>some (k,1)
 |none=>(match P.underlying t with
  |some (.struct fs)=>(fieldKinds P 0 fs.toList).map fun ks=>(9,ks.length)
  |_=>none)
def isAggV:Value→Bool
 |.agg _=>true
 |_=>false
def zeroAgg (P:Program) (t:TypeId):Option Bool:=do
 let i ←P.info? t
 let z ←i.zero
 some (isAggV z)
def compMap (P:Program) (op:Op):Option Ins:=
 match op with
 |.makeMap _ none=>some .mkm
 |.lookup t x i ok=>(match P.underlying t with
  |some (.map k e)=>do
   let q ←keyKind P k
   let z ←zeroOf P e
   let agg ←zeroAgg P e
   let x ←compX x
   let i ←compX i
   some (.mget q.1 q.2 agg z ok x i)
  |_=>none)
 |.mapUpdate t m i v|.insert t m i v=>(match P.underlying t with
  |some (.map k _)=>do
   let q ←keyKind P k
   let m ←compX m
   let i ←compX i
   let v ←compX v
   some (.mput q.1 q.2 m i v)
  |_=>none)
 |_=>none
def compOpM (P:Program) (sharedF:Nat→Nat) (op:Op):Option Ins:=
 match compMap P op with
 |some i=>some i
 |none=>match compOp P sharedF op with
  |some i=>if isMapI i then none else some i
  |none=>none
def dstOk (nt:Nat):Option Tmp→Bool
 |none=>true
 |some t=>decide (t < nt)
def compInst (P:Program) (sharedF:Nat→Nat) (nt:Nat) (ops:Array Oper) (o:Oper):Option Inst:=do
 let i ←compOpM P sharedF o.op
 if dstOk nt o.dst=false then none else
 match o.guard with
 |none=>some ⟨o.dst,i,none⟩
 |some (j,want)=>do
  let g ←ops[j]?
  let t ←g.dst
  some ⟨o.dst,i,some (t,want)⟩
def compInsts (P:Program) (sharedF:Nat→Nat) (nt:Nat) (ops:Array Oper):List Oper→Option (List Inst)
 |[]=>some []
 |o::os=>do
  let i ←compInst P sharedF nt ops o
  let is ←compInsts P sharedF nt ops os
  some (i::is)
def waitsOf (acc:List Nat):List Edge→Nat
 |[]=>0
 |e::es=>if Region.binds .any e then ((1 <<< e.on)|||acc.getD e.on 0)|||waitsOf acc es else waitsOf acc es
def waits (acc:List Nat):List Oper→List Nat
 |[]=>acc
 |o::os=>waits (acc++[waitsOf acc o.after.toList]) os
def downB:Nat→List Oper→Bool
 |_,[]=>true
 |k,o::os=>(o.after.toList.all fun e=>!Region.binds .any e||decide (e.on < k)) && downB (k+1) os
def noShared:List Inst→Bool
 |[]=>true
 |i::is=>(match i.ins with|.callS _ _ _|.callV _ _=>false|_=>true) && noShared is
def comp (P:Program) (sharedF:Nat→Nat) (nt:Nat):Code→Option ICode
 |.skip=>some .skip
 |.ret=>some .ret
 |.exit id=>some (.exit id)
 |.region _ ops false=>do
  let is ←compInsts P sharedF nt ops ops.toList
  some (.region is)
 |.region _ ops true=>do
  let is ←compInsts P (fun f=>if sharedF f=1 then 3 else 0) nt ops ops.toList
  if noShared is∧downB 0 ops.toList=true then some (.draw is (waits [] ops.toList)) else none
 |.seq a b=>do
  let a ←comp P sharedF nt a
  let b ←comp P sharedF nt b
  some (.seq a b)
 |.cond c a b=>do
  let c ←compX c
  let a ←comp P sharedF nt a
  let b ←comp P sharedF nt b
  some (.cond c a b)
 |.block id c=>do
  let c ←comp P sharedF nt c
  some (.block id c)
 |.loop c=>do
  let c ←comp P sharedF nt c
  some (.loop c)
 |_=>none
def compRes (P:Program):List ResultVar→Option (List Res)
 |[]=>some []
 |.tmp t::r=>do
  let rs ←compRes P r
  some (.tmp t::rs)
 |.cell a t::r=>do
  let agg ←aggB P t
  let i ←P.info? t
  let rs ←compRes P r
  some (.cell a agg i.size::rs)
def compFn (P:Program) (sharedF:Nat→Nat) (fn:Func):Option IFunc:=do
 let c ←fn.body
 let c ←comp P sharedF fn.ntmps c
 let rs ←compRes P fn.results.toList
 if fn.params.size+fn.nfree≤fn.ntmps then some ⟨fn.params.size+fn.nfree,rs,c⟩ else none
end Go.Ey
