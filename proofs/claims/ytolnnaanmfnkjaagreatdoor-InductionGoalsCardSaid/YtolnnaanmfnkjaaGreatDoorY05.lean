/- A part. -/
import Derived.Test.YtolnnaanmfnkjaaGreatDoorY02
import Derived.Test.YtolnnaanmfnkjaaGreatDoorY03
set_option linter.all false
namespace Go.Ey
def uw (n:Nat):Sh->SD×Nat
 |.a=>(.a (.v n),n+1)
 |.full=>(.full (.v n),n+1)
 |.loc i off=>(.loc i off,n)
 |.arr i=>(.arr i,n)
 |.fD f caps=>(.fD f caps,n)
 |_=>(.uf,n)
def oh:Nat->List Sh->List SD×Nat
 |n,[]=>([],n)
 |n,s::ss=>match uw n s with|(d,n)=>match oh n ss with|(ds,n)=>(d::ds,n)
def I9 (n:Nat):Sh->SD×Nat×List (Nat×Nat)
 |.abZ m=>(.agg ((Cq n 0 m).map .a),n+1,[(n,m)])
 |.agg ss=>match oh n ss with|(ds,n)=>(.agg ds,n,[])
 |s=>match uw n s with|(d,n)=>(d,n,[])
def zK (n:Nat):NF->SO×Nat×List (Nat×Nat)
 |.mH m=>(.box ((Cq n 0 m).map .a),n+1,[(n,m)])
 |.box ss=>match oh n ss with|(ds,n)=>(.box ds,n,[])
 |.arr ay ety fr al=>(.arr (.v n) ay ety fr al,n+1,[])
def GL:Nat->List (Nat×Sh)->List (Nat×SD)×Nat×List (Nat×Nat)
 |n,[]=>([],n,[])
 |n,(t,s)::r=>match I9 n s with|(d,n,l)=>match GL n r with|(e,n,l')=>((t,d)::e,n,l++l')
def PE:Nat->Nat->List NF->List (Nat×SO)×Nat×List (Nat×Nat)
 |_,n,[]=>([],n,[])
 |q,n,o::r=>match zK n o with|(x,n,l)=>match PE (q+1) n r with|(h,n,l')=>((q,x)::h,n,l++l')
def LY (h:HS):Sy×Nat:=match GL 0 h.env with|(e,n,l)=>match PE 0 n h.heap with|(hp,n,l')=>(⟨e,hp,h.heap.length,l++l'⟩,n)
def Q0 (μ:List (Option Nat)):List (Nat×Nat)->List (Nat×Nat)->Bool
 |[],[]=>true
 |(i,o)::r,(i',o')::r'=>(match μ[i]? with|some (some j)=>j==i'|_=>false) && o==o' && Q0 μ r r'
 |_,_=>false
def zw (μ:List (Option Nat)):Sh->SD->Option (List TW)
 |.uf,_=>some []
 |.a,.a x=>some [.c x]
 |.a,.full x=>some [.c x]
 |.full,.full x=>some [.c x]
 |.loc i off,.loc i' off'=>if μ[i]?=some (some i')/\off=off' then some [] else none
 |.arr i,.arr i'=>if μ[i]?=some (some i') then some [] else none
 |.arr i,.full .z=>if μ[i]?=some none then some [] else none
 |.fD f caps,.fD f' jC=>if f=f'/\Q0 μ caps jC=true then some [] else none
 |_,_=>none
def BR (μ:List (Option Nat)):List Sh->List SD->Option (List TW)
 |[],[]=>some []
 |s::ss,d::ds=>(zw μ s d).bind fun x=>(BR μ ss ds).bind fun y=>some (x++y)
 |_,_=>none
def Mx (lens:List (Nat×Nat)) (μ:List (Option Nat)):Sh->SD->Option (List TW)
 |.abZ m,.agg ds=>(Ea ds).bind fun aY=>if aY.length=m then some [.l (JZ lens aY)] else none
 |.agg ss,.agg ds=>BR μ ss ds
 |.abZ _,_=>none
 |.agg _,_=>none
 |s,d=>zw μ s d
def VE (σ:Sy) (μ:List (Option Nat)):List (Nat×Sh)->Option (List TW)
 |[]=>some []
 |(t,s)::r=>(Mx σ.lens μ s (Bn σ.env t)).bind fun x=>(VE σ μ r).bind fun y=>some (x++y)
def Gz (σ:Sy) (μ:List (Option Nat)):Option Nat->NF->Option (List TW)
 |none,.arr _ _ _ false=>some [.c .z]
 |none,_=>none
 |some i,o=>match o,dm σ.heap i with
  |.mH m,.box ds=>(Ea ds).bind fun aY=>if aY.length=m then some [.l (JZ σ.lens aY)] else none
  |.box ss,.box ds=>BR μ ss ds
  |.arr ay ety fr al,.arr x jW mh fr' al'=>if jW=ay/\mh=ety/\(fr'=true->fr=true)/\(al=true->al'=true) then some [.c x] else none
  |_,_=>none
def ZM (σ:Sy) (μ:List (Option Nat)):List (Option Nat)->List NF->Option (List TW)
 |[],[]=>some []
 |j::js,o::os=>(Gz σ μ j o).bind fun x=>(ZM σ μ js os).bind fun y=>some (x++y)
 |_,_=>none
def ajw:List (Nat×Nat)->List (Nat×Nat)->List (Nat×Option Nat)
 |(i,_)::r,(i',_)::r'=>(i,some i')::ajw r r'
 |_,_=>[]
def muC:Sh->SD->List (Nat×Option Nat)
 |.loc i _,.loc i' _=>[(i,some i')]
 |.arr i,.arr i'=>[(i,some i')]
 |.fD _ caps,.fD _ jC=>ajw caps jC
 |_,_=>[]
def aj4:List Sh->List SD->List (Nat×Option Nat)
 |s::ss,d::ds=>muC s d++aj4 ss ds
 |_,_=>[]
def muD:Sh->SD->List (Nat×Option Nat)
 |.agg ss,.agg ds=>aj4 ss ds
 |s,d=>muC s d
def aef:List (Nat×Option Nat)->Nat->Option Nat
 |[],_=>none
 |(i,j)::r,q=>if i=q then j else aef r q
def muH (h:List (Nat×SO)):List (Nat×Option Nat)->Nat->List NF->List (Nat×Option Nat)
 |acc,_,[]=>acc
 |acc,q,.box ss::os=>(match aef acc q with
  |some i=>(match dm h i with
   |.box ds=>muH h (acc++aj4 ss ds) (q+1) os
   |_=>muH h acc (q+1) os)
  |none=>muH h acc (q+1) os)
 |acc,q,_::os=>muH h acc (q+1) os
def GM:List (Option Nat)->List Nat
 |[]=>[]
 |some i::r=>i::GM r
 |none::r=>GM r
def R9 (μ:List (Option Nat)):Nat->Nat->Bool
 |_,0=>true
 |b,k+1=>(match μ[b]? with|some (some i)=>i==b|_=>false) && R9 μ (b+1) k
def Fa (k:Nat) (h:HS) (σ:Sy):Option (List TW):=
 let acc:=muH σ.heap ((List.range k).map (fun b=>(b,some b))++h.env.flatMap fun p=>muD p.2 (Bn σ.env p.1)) 0 h.heap
 let μ:=(List.range h.heap.length).map (aef acc)
 if nodupB (GM μ) && R9 μ 0 k then (VE σ μ h.env).bind fun x=>(ZM σ μ μ h.heap).bind fun y=>some (x++y) else none
structure Cx where
 sig:Nat->Option fC
 heads:List HS
 res:List Res
 rs:List RS
 bl:List Nat
def sj (k:Nat) (p:List Nat) (σ:Sy):Nat->List HS->Tree
 |_,[]=> .fail
 |i,h::hs=>if h.p=p then (match Fa k h σ with
  |some ws=> .goto i ws
  |none=>sj k p σ (i+1) hs) else sj k p σ (i+1) hs
def Xa (σ:Sy):List Res->Option (List SD)
 |[]=>some []
 |.tmp t::r=>(Xa σ r).bind fun ds=>(match Bn σ.env t with
  |.lC _=>none
  |.uf=>none
  |d=>some (d::ds))
 |.cell t agg size::r=>(match Bn σ.env t with
  |.loc i off=>(match dm σ.heap i with
   |.box ds=>(match agg with
    |true=>if off+size<=ds.length then (Xa σ r).bind fun l=>some (.agg ((ds.drop off).take size)::l) else none
    |false=>(ds[off]?).bind fun d=>(Xa σ r).bind fun l=>some (d::l))
   |_=>none)
  |_=>none)
def DN (h:List (Nat×SO)):CK->SD->Option (At×List Nat)
 |.c,.a x=>some (x,[])
 |.c,.full x=>some (x,[])
 |.c,.view i x=>(match dm h i with
  |.arr _ _ _ _ _=>some (x,[])
  |_=>none)
 |.c,.arr i=>(match dm h i with
  |.arr x _ _ _ _=>some (x,[])
  |_=>none)
 |.d,.a x=>some (x,[])
 |.d,.full x=>some (x,[])
 |.full,.full x=>some (x,[])
 |.own ay ety fr al,.arr i=>(match dm h i with
  |.arr x jW mh fr' al'=>if jW=ay/\mh=ety/\(fr'=true->fr=true)/\(al=true->al'=true) then some (x,[i]) else none
  |_=>none)
 |.own _ _ _ false,.full .z=>some (.z,[])
 |_,_=>none
def Ns (h:List (Nat×SO)):List CK->List SD->Option (List At×List Nat)
 |[],[]=>some ([],[])
 |k::ks,d::ds=>(DN h k d).bind fun p=>(Ns h ks ds).bind fun q=>some (p.1::q.1,p.2++q.2)
 |_,_=>none
def adF (lens:List (Nat×Nat)) (h:List (Nat×SO)):RS->SD->Option (TV×List Nat)
 |.one k,d=>(DN h k d).bind fun p=>some (.one p.1,p.2)
 |.agg ks,.agg ds=>(Ns h ks ds).bind fun p=>some (.agg (JZ lens p.1),p.2)
 |_,_=>none
def PD (lens:List (Nat×Nat)) (h:List (Nat×SO)):List RS->List SD->Option (List TV×List Nat)
 |[],[]=>some ([],[])
 |k::ks,d::ds=>(adF lens h k d).bind fun p=>(PD lens h ks ds).bind fun q=>some (p.1::q.1,p.2++q.2)
 |_,_=>none
def TH (cx:Cx) (σ:Sy):Tree:=
 match Xa σ cx.res with
 |some ds=>(match PD σ.lens σ.heap cx.rs ds with
  |some (vs,own)=>(match su σ.lens σ.heap (List.range cx.bl.length) cx.bl with
   |some bs=>if nodupB own then .ret vs bs else .fail
   |none=> .fail)
  |none=> .fail)
 |none=> .fail
inductive Fr where
 |seq (p:List Nat) (b:jA)
 |blk (id:Nat)
 |loop (p:List Nat) (c:jA)
def QC (cx:Cx) (rec:List Nat->jA->List Fr->Sy->Nat->Kn->Tree):List Fr->Sy->Nat->Kn->Tree
 |[],σ,_,_=>TH cx σ
 |.seq p b::K,σ,n,kn=>rec p b K σ n kn
 |.blk _::K,σ,n,kn=>QC cx rec K σ n kn
 |.loop p _::_,σ,_,_=>sj cx.bl.length p σ 0 cx.heads
def NH (cx:Cx) (rec:List Nat->jA->List Fr->Sy->Nat->Kn->Tree) (id:Nat):List Fr->Sy->Nat->Kn->Tree
 |[],_,_,_=> .fail
 |.blk id'::K,σ,n,kn=>if id=id' then QC cx rec K σ n kn else NH cx rec id K σ n kn
 |.seq _ _::K,σ,n,kn=>NH cx rec id K σ n kn
 |.loop _ _::K,σ,n,kn=>NH cx rec id K σ n kn
def Bz (cx:Cx):Nat->List Nat->jA->List Fr->Sy->Nat->Kn->Tree
 |0,_,_,_,_,_,_=> .fail
 |fuel+1,p,c,K,σ,n,kn=>match c with
  |.skip=>QC cx (Bz cx fuel) K σ n kn
  |.ret=>TH cx σ
  |.exit id=>NH cx (Bz cx fuel) id K σ n kn
  |.region is=>qK cx.sig (fun σ n kn=>QC cx (Bz cx fuel) K σ n kn) is σ n kn
  |.draw is ws=>xu cx.sig (fun σ n kn ts=>if D6 ts ws then QC cx (Bz cx fuel) K σ n kn else .fail) is σ n kn []
  |.mix _ _=> .fail
  |.seq a b=>Bz cx fuel (0::p) a (.seq (1::p) b::K) σ n kn
  |.cond x a b=>Cz kn (xS σ x) fun t kn=>match t with
   |true=>Bz cx fuel (0::p) a K σ n kn
   |false=>Bz cx fuel (1::p) b K σ n kn
  |.block id c=>Bz cx fuel (0::p) c (.blk id::K) σ n kn
  |.loop _=>sj cx.bl.length p σ 0 cx.heads
def jN (B:jA):List Nat->Option (jA×List Fr)
 |[]=>some (B,[])
 |i::q=>(jN B q).bind fun r=>match r.1,i with
  |.seq a b,0=>some (a,.seq (1::q) b::r.2)
  |.seq _ b,1=>some (b,r.2)
  |.cond _ a _,0=>some (a,r.2)
  |.cond _ _ b,1=>some (b,r.2)
  |.block id c,0=>some (c,.blk id::r.2)
  |.loop c,0=>some (c,.loop q c::r.2)
  |_,_=>none
def Gx:List PS->Nat->Nat->List (Nat×SD)×Nat×List (Nat×Nat)
 |[],_,n=>([],n,[])
 |.one::ps,t,n=>match Gx ps (t+1) (n+1) with|(e,k,l)=>((t,.a (.v n))::e,k,l)
 |.agg m::ps,t,n=>match Gx ps (t+1) (n+1) with|(e,k,l)=>((t,.agg ((Cq n 0 m).map .a))::e,k,(n,m)::l)
 |.ref b off::ps,t,n=>match Gx ps (t+1) n with|(e,k,l)=>((t,.loc b off)::e,k,l)
 |.fD g caps::ps,t,n=>match Gx ps (t+1) n with|(e,k,l)=>((t,.fD g caps)::e,k,l)
def YI:List Nat->Nat->Nat->List (Nat×SO)×Nat×List (Nat×Nat)
 |[],_,n=>([],n,[])
 |m::ms,b,n=>match YI ms (b+1) (n+1) with|(h,k,l)=>((b,.box ((Cq n 0 m).map .a))::h,k,(n,m)::l)
def XU (s:fC):Sy×Nat:=match Gx s.params 0 0 with|(e,n,l)=>match YI s.boxes 0 n with|(h,n,l')=>(⟨e,h,s.boxes.length,l++l'⟩,n)
def UC (cx:Cx) (fuel:Nat) (B:jA) (h:HS):Tree:=
 match jN B h.p with
 |some (.loop c,K)=>(match LY h with|(σ,n)=>Bz cx fuel (0::h.p) c (.loop h.p c::K) σ n [])
 |_=> .fail
def UT (sig:Nat->Option fC) (fuel:Nat) (s:fC) (hs:List HS) (I:Pj):bO:=
 let cx:Cx:=⟨sig,hs,I.res,s.rs,s.boxes⟩
 ⟨s.params,s.boxes,(match XU s with|(σ,n)=>Bz cx fuel [] I.body [] σ n []),hs.map (UC cx fuel I.body)⟩
structure Nm where
 ρ:List W
 μ:Nat->Option Nat
 hs:List (Nat×SO)
 nx:Nat
def uq (N:Nm):SD->D->Prop
 |.uf,_=>True
 |.a x,d=>∃c,dW N.ρ x=some c/\(d=.c c\/∃cs n,c=.slice cs n/\d=.full cs n)
 |.full x,d=>∃cs n,dW N.ρ x=some (.slice cs n)/\d=.full cs n
 |.loc i off,d=>i < N.nx/\∃j,N.μ i=some j/\d=.loc j off
 |.arr i,d=>i < N.nx/\((∃j len,N.μ i=some j/\d=.arr j 0 len/\∀x ay ety fr al,dm N.hs i=.arr x ay ety fr al->∃cs,dW N.ρ x=some (.slice cs len))\/
   (N.μ i=none/\∃cs n,d=.full cs n/\∀x ay ety fr al,dm N.hs i=.arr x ay ety fr al->dW N.ρ x=some (.slice cs n)))
 |.view i x,d=>i < N.nx/\∃cs len,dW N.ρ x=some (.slice cs len)/\(d=.c (.slice cs len)\/∃j off,N.μ i=some j/\d=.arr j off len/\
   ∀y ay ety fr al,dm N.hs i=.arr y ay ety fr al->fr=true/\∃ys n,dW N.ρ y=some (.slice ys n)/\off+len * ay<=ys.length/\cs=(ys.drop off).take (len * ay))
 |.nY i x off,d=>i < N.nx/\∃kd k,dW N.ρ x=some (.lit (.int kd k))/\0<=k/\((∃j o,N.μ i=some j/\d=.loc j o/\∀y ay ety fr al,dm N.hs i=.arr y ay ety fr al->o=k.toNat * ay+off)\/
   (N.μ i=none/\∃cs,d=.ptr cs/\∀y ay ety fr al,dm N.hs i=.arr y ay ety fr al->∃ys n,dW N.ρ y=some (.slice ys n)/\cs=ys.drop (k.toNat * ay+off)))
 |.ptr r off ay,d=>∃xs rest,jm N.ρ r=some (.l xs)/\xs.length=ay/\d=.ptr ((xs++rest).drop off)
 |.fD f caps,d=>∃jC:List (Nat×Nat),d=.fD f jC/\aF (fun p q:Nat×Nat=>p.1 < N.nx/\N.μ p.1=some q.1/\q.2=p.2) caps jC
 |.agg _,_=>False
 |.lC _,_=>False
def RA (N:Nm):SD->D->Prop
 |.agg ds,d=>∃ds',d=.agg ds'/\aF (uq N) ds ds'
 |sd,d=>uq N sd d
def RD (N:Nm):SD->D->Prop
 |.lC ds,d=>∃ds',d=.lC ds'/\aF (RA N) ds ds'
 |sd,d=>RA N sd d
theorem uq.toA {N:Nm} {sd:SD} {d:D} (h:uq N sd d):RA N sd d:=by cases sd<;>first|exact h|exact h.elim
theorem RA.nE {N:Nm} {sd:SD} {d:D} (h:RA N sd d):RD N sd d:=by cases sd<;>first|exact h|exact False.elim h
theorem uq.nE {N:Nm} {sd:SD} {d:D} (h:uq N sd d):RD N sd d:=h.toA.nE
structure l9 (N N':Nm):Prop where
 at_:∀x c,dW N.ρ x=some c->dW N'.ρ x=some c
 row:∀r w,jm N.ρ r=some w->jm N'.ρ r=some w
 nx:N.nx<=N'.nx
 mu:∀i,i < N.nx->N'.μ i=N.μ i
 arr:∀i y' ay ety fr' al',i < N.nx->dm N'.hs i=.arr y' ay ety fr' al'->∃y fr al,dm N.hs i=.arr y ay ety fr al/\(fr=true->fr'=true)/\
  ∀cs n,dW N.ρ y=some (.slice cs n)->∃cs',dW N'.ρ y'=some (.slice cs' n)/\(fr=true\/N.μ i=none->cs'=cs)
theorem l9.refl (N:Nm):l9 N N:=
 ⟨fun _ _ h=>h,fun _ _ h=>h,B9 _,fun _ _=>rfl,fun _ y' _ _ fr' al' _ h=>⟨y',fr',al',h,id,fun cs _ hc=>⟨cs,hc,fun _=>rfl⟩⟩⟩
theorem l9.trans {N N' N'':Nm} (h:l9 N N') (k:l9 N' N''):l9 N N'' where
 at_ x c hx:=k.at_ x c (h.at_ x c hx)
 row r w hr:=k.row r w (h.row r w hr)
 nx:=Dg h.nx k.nx
 mu i hi:=by rw [k.mu i (Fk hi h.nx),h.mu i hi]
 arr i y' ay ety fr' al' hi hg:=by
  obtain ⟨y1,fr1,al1,h1,h2,h3⟩:=k.arr i y' ay ety fr' al' (Fk hi h.nx) hg;obtain ⟨y,fr,al,h4,h5,h6⟩:=h.arr i y1 ay ety fr1 al1 hi h1;refine ⟨y,fr,al,h4,fun e=>h2 (h5 e),fun cs n hc=>?_⟩
  obtain ⟨cs1,h7,h8⟩:=h6 cs n hc;obtain ⟨cs2,h9,h10⟩:=h3 cs1 n h7;refine ⟨cs2,h9,fun he=>?_⟩
  rw [h10 (he.imp h5 fun e=>by rw [h.mu i hi];exact e),h8 he]
section
variable {N N':Nm} (h:l9 N N')
include h
theorem l9.dc {sd:SD} {d:D} (hr:uq N sd d):uq N' sd d:=by
 cases sd with
 |uf=>trivial
 |a x=>obtain ⟨c,h1,h2⟩:=hr;exact ⟨c,h.at_ x c h1,h2⟩
 |full x=>obtain ⟨cs,n,h1,h2⟩:=hr;exact ⟨cs,n,h.at_ x _ h1,h2⟩
 |loc i off=>obtain ⟨h0,j,h1,h2⟩:=hr;exact ⟨Fk h0 h.nx,j,by rw [h.mu i h0];exact h1,h2⟩
 |arr i=>
  obtain ⟨h0,hr⟩:=hr;refine ⟨Fk h0 h.nx,?_⟩;rcases hr with ⟨j,len,h1,h2,h3⟩|⟨h1,cs,n,h2,h3⟩
  ·refine .inl ⟨j,len,by rw [h.mu i h0];exact h1,h2,fun x ay ety fr al hg=>?_⟩
   obtain ⟨y,fr0,al0,h4,_,h6⟩:=h.arr i x ay ety fr al h0 hg;obtain ⟨cs,h7⟩:=h3 _ _ _ _ _ h4;obtain ⟨cs',h8,_⟩:=h6 _ _ h7;exact ⟨cs',h8⟩
  ·refine .inr ⟨by rw [h.mu i h0];exact h1,cs,n,h2,fun x ay ety fr al hg=>?_⟩
   obtain ⟨y,fr0,al0,h4,_,h6⟩:=h.arr i x ay ety fr al h0 hg;obtain ⟨cs',h8,h9⟩:=h6 _ _ (h3 _ _ _ _ _ h4);rw [h8,h9 (.inr h1)]
 |view i x=>
  obtain ⟨h0,cs,len,h1,hr⟩:=hr;refine ⟨Fk h0 h.nx,cs,len,h.at_ _ _ h1,?_⟩;rcases hr with hr|⟨j,off,h2,h3,h4⟩
  ·exact .inl hr
  ·refine .inr ⟨j,off,by rw [h.mu i h0];exact h2,h3,fun y ay ety fr al hg=>?_⟩
   obtain ⟨y0,fr0,al0,h5,h6,h7⟩:=h.arr i y ay ety fr al h0 hg;obtain ⟨h8,ys,n,h9,h10,h11⟩:=h4 _ _ _ _ _ h5;obtain ⟨cs',h12,h13⟩:=h7 _ _ h9;exact ⟨h6 h8,ys,n,by rw [h12,h13 (.inl h8)],h10,h11⟩
 |nY i x off=>
  obtain ⟨h0,kd,k,h1,h2,hr⟩:=hr;refine ⟨Fk h0 h.nx,kd,k,h.at_ _ _ h1,h2,?_⟩;rcases hr with ⟨j,o,h3,h4,h5⟩|⟨h3,cs,h4,h5⟩
  ·refine .inl ⟨j,o,by rw [h.mu i h0];exact h3,h4,fun y ay ety fr al hg=>?_⟩
   obtain ⟨y0,fr0,al0,h6,_,_⟩:=h.arr i y ay ety fr al h0 hg;exact h5 _ _ _ _ _ h6
  ·refine .inr ⟨by rw [h.mu i h0];exact h3,cs,h4,fun y ay ety fr al hg=>?_⟩
   obtain ⟨y0,fr0,al0,h6,_,h7⟩:=h.arr i y ay ety fr al h0 hg;obtain ⟨ys,n,h8,h9⟩:=h5 _ _ _ _ _ h6;obtain ⟨cs',h10,h11⟩:=h7 _ _ h8;exact ⟨ys,n,by rw [h10,h11 (.inr h3)],h9⟩
 |ptr r off ay=>obtain ⟨xs,rest,h1,h2,h3⟩:=hr;exact ⟨xs,rest,h.row _ _ h1,h2,h3⟩
 |fD f caps=>
  obtain ⟨jC,h1,h2⟩:=hr;exact ⟨jC,h1,h2.mono fun p q ⟨k1,k2,k3⟩=>⟨Fk k1 h.nx,by rw [h.mu _ k1];exact k2,k3⟩⟩
 |agg ds=>exact hr.elim
 |lC ds=>exact hr.elim
theorem l9.ra {sd:SD} {d:D} (hr:RA N sd d):RA N' sd d:=by
 cases sd with
 |agg ds=>obtain ⟨ds',h1,h2⟩:=hr;exact ⟨ds',h1,h2.mono fun _ _=>h.dc⟩
 |uf=>exact (h.dc (sd:=(.uf)) hr).toA
 |a x=>exact (h.dc (sd:=(.a x)) hr).toA
 |full x=>exact (h.dc (sd:=(.full x)) hr).toA
 |loc i off=>exact (h.dc (sd:=(.loc i off)) hr).toA
 |arr i=>exact (h.dc (sd:=(.arr i)) hr).toA
 |view i x=>exact (h.dc (sd:=(.view i x)) hr).toA
 |nY i x off=>exact (h.dc (sd:=(.nY i x off)) hr).toA
 |ptr q off ay=>exact (h.dc (sd:=(.ptr q off ay)) hr).toA
 |fD f caps=>exact (h.dc (sd:=(.fD f caps)) hr).toA
 |lC ds=>exact (h.dc (sd:=(.lC ds)) hr).toA
theorem l9.rd {sd:SD} {d:D} (hr:RD N sd d):RD N' sd d:=by
 cases sd with
 |lC ds=>obtain ⟨ds',h1,h2⟩:=hr;exact ⟨ds',h1,h2.mono fun _ _=>h.ra⟩
 |uf=>exact (h.ra (sd:=(.uf)) hr).nE
 |a x=>exact (h.ra (sd:=(.a x)) hr).nE
 |full x=>exact (h.ra (sd:=(.full x)) hr).nE
 |loc i off=>exact (h.ra (sd:=(.loc i off)) hr).nE
 |arr i=>exact (h.ra (sd:=(.arr i)) hr).nE
 |view i x=>exact (h.ra (sd:=(.view i x)) hr).nE
 |nY i x off=>exact (h.ra (sd:=(.nY i x off)) hr).nE
 |ptr q off ay=>exact (h.ra (sd:=(.ptr q off ay)) hr).nE
 |fD f caps=>exact (h.ra (sd:=(.fD f caps)) hr).nE
 |agg ds=>exact (h.ra (sd:=(.agg ds)) hr).nE
end
def Us (N:Nm) (h:Heap) (i:Nat):SO->Prop
 |.dead=>True
 |.box ds=>∃j ds',N.μ i=some j/\aH h j=.box ds'/\aF (uq N) ds ds'
 |.arr x ay ety fr al=>∃cs n,dW N.ρ x=some (.slice cs n)/\cs.length=n * ay/\
   ((∃j fz,N.μ i=some j/\aH h j=.arr cs ay fz ety/\0 < ay/\fz<=cs.length/\(fr=false->fz=0))\/(N.μ i=none/\al=false/\(fr=false->cs=[]/\n=0)))
structure Bs where
 h0:Heap
 k0:Nat
 bg:List Nat
structure Rm (b:Bs) (N:Nm) (h:Heap) (k:Nat) (lens:List (Nat×Nat)):Prop where
 obj:∀i,Us N h i (dm N.hs i)
 inj:∀i i' j,i < N.nx->i' < N.nx->N.μ i=some j->N.μ i'=some j->i=i'
 lt:∀i j,i < N.nx->N.μ i=some j->j < k
 dom:∀i,N.nx<=i->dm N.hs i=.dead
 base:∀i j,i < N.nx->N.μ i=some j->b.k0<=j\/j∈b.bg
 frame:∀j,j < b.k0->j ∉ b.bg->aH h j=aH b.h0 j
 le:b.k0<=k
 lens:∀i m,(i,m)∈lens->∃xs,jm N.ρ i=some (.l xs)/\xs.length=m
theorem eu (i:Nat) (o:SO) (h:List (Nat×SO)) (j:Nat):dm ((i,o)::h) j=if i=j then o else dm h j:=rfl
theorem Us.mono {N N':Nm} (hv:l9 N N') {h h':Heap} {i:Nat} (hi:i < N.nx) (hh:∀j,N.μ i=some j->aH h' j=aH h j) {o:SO} (hr:Us N h i o):Us N' h' i o:=by
 cases o with
 |dead=>trivial
 |box ds=>
  obtain ⟨j,ds',h1,h2,h3⟩:=hr;exact ⟨j,ds',by rw [hv.mu i hi];exact h1,by rw [hh j h1];exact h2,h3.mono fun _ _=>hv.dc⟩
 |arr x ay ety fr al=>
  obtain ⟨cs,n,h1,h2,h3⟩:=hr;refine ⟨cs,n,hv.at_ _ _ h1,h2,?_⟩;rcases h3 with ⟨j,fz,h4,h5,h6,h7⟩|⟨h4,h5⟩
  ·exact .inl ⟨j,fz,by rw [hv.mu i hi];exact h4,by rw [hh j h4];exact h5,h6,h7⟩
  ·exact .inr ⟨by rw [hv.mu i hi];exact h4,h5⟩
theorem Rm.ajN {b:Bs} {N:Nm} {h:Heap} {k:Nat} {lens:List (Nat×Nat)} (hm:Rm b N h k lens) {i:Nat} (hd:dm N.hs i≠.dead):i < N.nx:=
 Nat.lt_of_not_le fun hle=>hd (hm.dom i hle)
theorem Bw {ρ ws:List W} {i:Nat} {w:W} (h:jm ρ i=some w):jm (ρ++ws) i=some w:=by
 induction ρ generalizing i with
 |nil=>cases h
 |cons a r ih=>cases i with
  |zero=>exact h
  |succ i=>exact ih h
theorem mR (ρ:List W) (w:W) (ws:List W):jm (ρ++w::ws) ρ.length=some w:=by
 induction ρ with
 |nil=>rfl
 |cons a r ih=>exact ih
theorem jK {ρ ws:List W} {x:At} {c:C} (h:dW ρ x=some c):dW (ρ++ws) x=some c:=by
 cases x with
 |v i=>
  simp only [dW] at h |-;cases hg:jm ρ i with
  |none=>rw [hg] at h;cases h
  |some w=>rw [Bw hg];rw [hg] at h;exact h
 |n i j=>
  simp only [dW] at h |-;cases hg:jm ρ i with
  |none=>rw [hg] at h;cases h
  |some w=>rw [Bw hg];rw [hg] at h;exact h
 |k v=>exact h
 |z=>exact h
def Nm.ext (N:Nm) (ws:List W):Nm:={ N with ρ:=N.ρ++ws}
theorem mK (N:Nm) (ws:List W):l9 N (N.ext ws):=
 ⟨fun _ _ h=>jK h,fun _ _ h=>Bw h,B9 _,fun _ _=>rfl,fun _ y' _ _ fr' al' _ h=>⟨y',fr',al',h,id,fun cs _ hc=>⟨cs,jK hc,fun _=>rfl⟩⟩⟩
theorem Rm.ext {b:Bs} {N:Nm} {h:Heap} {k:Nat} {lens:List (Nat×Nat)} (hm:Rm b N h k lens) (ws:List W):Rm b (N.ext ws) h k lens where
 obj i:=by
  by_cases hi:i < N.nx
  ·exact (hm.obj i).mono (mK N ws) hi fun _ _=>rfl
  ·show Us _ h i (dm N.hs i);rw [hm.dom i (My hi)];trivial
 inj:=hm.inj
 lt:=hm.lt
 dom:=hm.dom
 base:=hm.base
 frame:=hm.frame
 le:=hm.le
 lens i m hi:=by obtain ⟨xs,h1,h2⟩:=hm.lens i m hi;exact ⟨xs,Bw h1,h2⟩
theorem Rm.tick {b:Bs} {N:Nm} {h:Heap} {k k':Nat} {lens:List (Nat×Nat)} (hm:Rm b N h k lens) (hk:k<=k'):Rm b N h k' lens:=
 { hm with lt:=fun i j h1 h2=>Fk (hm.lt i j h1 h2) hk,le:=Dg hm.le hk}
theorem Rm.lens' {b:Bs} {N:Nm} {h:Heap} {k:Nat} {lens:List (Nat×Nat)} (hm:Rm b N h k lens) {l:List (Nat×Nat)} (hl:∀i m,(i,m)∈l->∃xs,jm N.ρ i=some (.l xs)/\xs.length=m):Rm b N h k l:=
 { hm with lens:=hl}
def Nm.set (N:Nm) (i:Nat) (o:SO):Nm:={ N with hs:=(i,o)::N.hs}
theorem Rm.set {b:Bs} {N:Nm} {h:Heap} {k:Nat} {lens:List (Nat×Nat)} (hm:Rm b N h k lens) {i:Nat} (hi:i < N.nx) {o':SO} {h':Heap}
  (hoth:∀j,N.μ i≠some j->aH h' j=aH h j)
  (harr:∀y' ay ety fr' al',o'=.arr y' ay ety fr' al'->∃y fr al,dm N.hs i=.arr y ay ety fr al/\(fr=true->fr'=true)/\
   ∀cs n,dW N.ρ y=some (.slice cs n)->∃cs',dW N.ρ y'=some (.slice cs' n)/\(fr=true\/N.μ i=none->cs'=cs))
  (zg:l9 N (N.set i o')->Us (N.set i o') h' i o'):l9 N (N.set i o')/\Rm b (N.set i o') h' k lens:=by
 have hv:l9 N (N.set i o'):=by
  refine ⟨fun _ _ h=>h,fun _ _ h=>h,B9 _,fun _ _=>rfl,fun q y' ay ety fr' al' hq hg=>?_⟩
  simp only [Nm.set,eu] at hg |-;by_cases he:i=q
  ·subst he;rw [C4 rfl] at hg;exact harr _ _ _ _ _ hg
  ·rw [Dd he] at hg;exact ⟨y',fr',al',hg,id,fun cs _ hc=>⟨cs,hc,fun _=>rfl⟩⟩
 refine ⟨hv,fun q=>?_,hm.inj,hm.lt,fun q hq=>?_,hm.base,fun j h1 h2=>?_,hm.le,hm.lens⟩
 ·show Us (N.set i o') h' q (dm ((i,o')::N.hs) q)
  rw [eu];by_cases he:i=q
  ·subst he;rw [C4 rfl];exact zg hv
  ·rw [Dd he];by_cases hq:q < N.nx
   ·exact (hm.obj q).mono hv hq fun j hj=>hoth j fun e=>he (hm.inj i q j hi hq e hj)
   ·rw [hm.dom q (My hq)];trivial
 ·show dm ((i,o')::N.hs) q=.dead
  have hq':N.nx<=q:=hq;rw [eu,Dd (by omega)]
  exact hm.dom q hq
 ·rw [hoth j fun e=>?_]
  ·exact hm.frame j h1 h2
  ·rcases hm.base i j hi e with h3|h3
   ·omega
   ·exact h2 h3
def Nm.new (N:Nm) (j:Option Nat) (o:SO):Nm:=⟨N.ρ,fun i=>if i=N.nx then j else N.μ i,(N.nx,o)::N.hs,N.nx+1⟩
theorem Rm.new {b:Bs} {N:Nm} {h:Heap} {k:Nat} {lens:List (Nat×Nat)} (hm:Rm b N h k lens) {j:Option Nat} {o:SO} {h':Heap} (hj:j=none\/j=some k)
  (hoth:∀q,q≠k->aH h' q=aH h q) (zg:l9 N (N.new j o)->Us (N.new j o) h' N.nx o):l9 N (N.new j o)/\Rm b (N.new j o) h' (k+1) lens:=by
 have hv:l9 N (N.new j o):=by
  refine ⟨fun _ _ h=>h,fun _ _ h=>h,N4 _,fun i hi=>?_,fun q y' ay ety fr' al' hq hg=>?_⟩
  ·show (if i=N.nx then j else N.μ i)=N.μ i
   rw [Dd (by omega)]
  ·simp only [Nm.new,eu] at hg;rw [Dd (by omega)] at hg
   exact ⟨y',fr',al',hg,id,fun cs _ hc=>⟨cs,hc,fun _=>rfl⟩⟩
 have hmu:∀i q,i < N.nx+1->(N.new j o).μ i=some q->(i=N.nx/\q=k)\/(i < N.nx/\N.μ i=some q):=by
  intro i q hi hq;by_cases he:i=N.nx
  ·have hq':j=some q:=by simpa [Nm.new,he] using hq
   rcases hj with rfl|rfl
   ·cases hq'
   ·injection hq' with hq';exact .inl ⟨he,hq'.symm⟩
  ·have hq':N.μ i=some q:=by simpa [Nm.new,he] using hq
   exact .inr ⟨by omega,hq'⟩
 refine ⟨hv,fun q=>?_,fun i i' q h1 h2 h3 h4=>?_,fun i q h1 h2=>?_,fun q hq=>?_,fun i q h1 h2=>?_,fun q h1 h2=>?_,Nat.le_succ_of_le hm.le,hm.lens⟩
 ·show Us (N.new j o) h' q (dm ((N.nx,o)::N.hs) q)
  rw [eu];by_cases he:N.nx=q
  ·subst he;rw [C4 rfl];exact zg hv
  ·rw [Dd he];by_cases hq:q < N.nx
   ·exact (hm.obj q).mono hv hq fun p hp=>hoth p (by have:=hm.lt q p hq hp;omega)
   ·rw [hm.dom q (My hq)];trivial
 ·rcases hmu i q h1 h3 with ⟨a1,a2⟩|⟨a1,a2⟩<;>rcases hmu i' q h2 h4 with ⟨b1,b2⟩|⟨b1,b2⟩
  ·omega
  ·have:=hm.lt _ _ b1 b2;omega
  ·have:=hm.lt _ _ a1 a2;omega
  ·exact hm.inj i i' q a1 b1 a2 b2
 ·rcases hmu i q h1 h2 with ⟨_,a2⟩|⟨a1,a2⟩
  ·omega
  ·have:=hm.lt _ _ a1 a2;omega
 ·show dm ((N.nx,o)::N.hs) q=.dead
  have hq':N.nx+1<=q:=hq;rw [eu,Dd (by omega)]
  exact hm.dom q (by omega)
 ·rcases hmu i q h1 h2 with ⟨_,a2⟩|⟨a1,a2⟩
  ·left;have:=hm.le;omega
  ·exact hm.base i q a1 a2
 ·rw [hoth q (by have:=hm.le;omega)]
  exact hm.frame q h1 h2
theorem Jg {ρ:List W}:∀{aY:List At} {xs:List C},nI ρ aY=some xs->xs.length=aY.length
 |[],xs,h=>by simp only [nI,A0] at h;subst h;rfl
 |a::aY,xs,h=>by simp only [nI,A1,A0] at h;obtain ⟨x,_,ys,h2,rfl⟩:=h;simp [Jg h2]
theorem Ai (xs:List C) (j:Nat) (h:j < xs.length):au xs j=xs[j]:=by
 induction xs generalizing j with
 |nil=>simp at h
 |cons a r ih=>cases j with
  |zero=>rfl
  |succ j=>exact ih j (by simpa using h)
theorem QZ {ρ:List W} {i:Nat} {xs:List C} (hw:jm ρ i=some (.l xs)):∀(aY:List At) (j:Nat),Hy i j aY=true->j+aY.length=xs.length->nI ρ aY=some (xs.drop j)
 |[],j,_,hl=>by simp only [F2] at hl;simp only [nI];rw [List.drop_of_length_le (by omega)]
 |a::r,j,hn,hl=>by
  cases a with
  |n i' j'=>
   simp only [Hy,As,Lw] at hn;obtain ⟨⟨rfl,rfl⟩,hn⟩:=hn;have hlt:j' < xs.length:=by simp at hl;omega
   simp only [nI,dW,hw,A4];rw [QZ hw r (j'+1) hn (by simp at hl;omega)]
   simp only [A4,A0];rw [Ai xs j' hlt];exact (Gk hlt).symm
  |v i=>simp [Hy] at hn
  |k v=>simp [Hy] at hn
  |z=>simp [Hy] at hn
theorem Gb {b:Bs} {N:Nm} {h:Heap} {k:Nat} {lens:List (Nat×Nat)} (hm:Rm b N h k lens) (aY:List At):TF N.ρ (JZ lens aY)=nI N.ρ aY:=by
 unfold JZ;split
 ·rename_i i r;split
  ·rename_i hc;simp only [As,aeS,I3,Lw] at hc;obtain ⟨h1,p,h2,h3,h4⟩:=hc;obtain ⟨xs,h5,h6⟩:=hm.lens p.1 p.2 h2;rw [h3] at h5;have:=QZ h5 _ 0 h1 (by omega)
   rw [this];simp [TF,h5]
  ·rfl
 ·rfl
theorem EW {N:Nm}:∀{ds:List SD} {ds':List D} {aY:List At},aF (uq N) ds ds'->Ea ds=some aY->∃xs,nI N.ρ aY=some xs/\aF (fun c d=>d=.c c\/∃cs n,c=.slice cs n/\d=.full cs n) xs ds'
 |[],[],aY,_,h=>by simp only [Ea,A0] at h;subst h;exact ⟨[],rfl,trivial⟩
 |sd::ds,d::ds',aY,hr,h=>by
  cases sd with
  |a x=>
   simp only [Ea,A1,A0] at h;obtain ⟨as',h1,rfl⟩:=h;obtain ⟨xs,h2,h3⟩:=EW hr.2 h1;obtain ⟨c,h4,h5⟩:=hr.1;exact ⟨c::xs,by simp [nI,h4,h2],h5,h3⟩
  |_=>simp [Ea] at h
 |[],_::_,_,hr,_=>hr.elim
 |_::_,[],_,hr,_=>hr.elim
end Go.Ey
