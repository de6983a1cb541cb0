/- A part. -/
import Derived.Test.YtolnnaanmfnkjaaGreatDoorZ02
import Derived.Test.YtolnnaanmfnkjaaGreatDoorZ03
set_option linter.all false
namespace Go.Ey
def ru (n:Nat):Sh->SD×Nat
 |.a=>(.a (.v n),n+1)
 |.full=>(.full (.v n),n+1)
 |.loc i off=>(.loc i off,n)
 |.arr i=>(.arr i,n)
 |.fq f caps=>(.fq f caps,n)
 |_=>(.rq,n)
def nL:Nat->List Sh->List SD×Nat
 |n,[]=>([],n)
 |n,s::ss=>match ru n s with|(d,n)=>match nL n ss with|(ds,n)=>(d::ds,n)
def G8 (n:Nat):Sh->SD×Nat×List (Nat×Nat)
 |.abj m=>(.agg ((Ba n 0 m).map .a),n+1,[(n,m)])
 |.agg ss=>match nL n ss with|(ds,n)=>(.agg ds,n,[])
 |s=>match ru n s with|(d,n)=>(d,n,[])
def xu (n:Nat):Jb->SO×Nat×List (Nat×Nat)
 |.kQ m=>(.box ((Ba n 0 m).map .a),n+1,[(n,m)])
 |.box ss=>match nL n ss with|(ds,n)=>(.box ds,n,[])
 |.arr aj ety fr al=>(.arr (.v n) aj ety fr al,n+1,[])
def FN:Nat->List (Nat×Sh)->List (Nat×SD)×Nat×List (Nat×Nat)
 |n,[]=>([],n,[])
 |n,(t,s)::r=>match G8 n s with|(d,n,l)=>match FN n r with|(e,n,l')=>((t,d)::e,n,l++l')
def ML:Nat->Nat->List Jb->List (Nat×SO)×Nat×List (Nat×Nat)
 |_,n,[]=>([],n,[])
 |q,n,o::r=>match xu n o with|(x,n,l)=>match ML (q+1) n r with|(h,n,l')=>((q,x)::h,n,l++l')
def KR (h:HS):Sy×Nat:=match FN 0 h.env with|(e,n,l)=>match ML 0 n h.heap with|(hp,n,l')=>(⟨e,hp,h.heap.length,l++l'⟩,n)
def QX (μ:List (Option Nat)):List (Nat×Nat)->List (Nat×Nat)->Bool
 |[],[]=>true
 |(i,o)::r,(i',o')::r'=>(match μ[i]? with|some (some j)=>j==i'|_=>false) && o==o' && QX μ r r'
 |_,_=>false
def wG (μ:List (Option Nat)):Sh->SD->Option (List TW)
 |.rq,_=>some []
 |.a,.a x=>some [.c x]
 |.a,.full x=>some [.c x]
 |.full,.full x=>some [.c x]
 |.loc i off,.loc i' off'=>if μ[i]?=some (some i')/\off=off' then some [] else none
 |.arr i,.arr i'=>if μ[i]?=some (some i') then some [] else none
 |.arr i,.full .z=>if μ[i]?=some none then some [] else none
 |.fq f caps,.fq f' gT=>if f=f'/\QX μ caps gT=true then some [] else none
 |_,_=>none
def AQ (μ:List (Option Nat)):List Sh->List SD->Option (List TW)
 |[],[]=>some []
 |s::ss,d::ds=>(wG μ s d).bind fun x=>(AQ μ ss ds).bind fun y=>some (x++y)
 |_,_=>none
def Lp (lens:List (Nat×Nat)) (μ:List (Option Nat)):Sh->SD->Option (List TW)
 |.abj m,.agg ds=>(CJ ds).bind fun aJ=>if aJ.length=m then some [.l (IB lens aJ)] else none
 |.agg ss,.agg ds=>AQ μ ss ds
 |.abj _,_=>none
 |.agg _,_=>none
 |s,d=>wG μ s d
def VC (σ:Sy) (μ:List (Option Nat)):List (Nat×Sh)->Option (List TW)
 |[]=>some []
 |(t,s)::r=>(Lp σ.lens μ s (Ae σ.env t)).bind fun x=>(VC σ μ r).bind fun y=>some (x++y)
def Fs (σ:Sy) (μ:List (Option Nat)):Option Nat->Jb->Option (List TW)
 |none,.arr _ _ _ false=>some [.c .z]
 |none,_=>none
 |some i,o=>match o,bX σ.heap i with
  |.kQ m,.box ds=>(CJ ds).bind fun aJ=>if aJ.length=m then some [.l (IB σ.lens aJ)] else none
  |.box ss,.box ds=>AQ μ ss ds
  |.arr aj ety fr al,.arr x ja jY fr' al'=>if ja=aj/\jY=ety/\(fr'=true->fr=true)/\(al=true->al'=true) then some [.c x] else none
  |_,_=>none
def Xl (σ:Sy) (μ:List (Option Nat)):List (Option Nat)->List Jb->Option (List TW)
 |[],[]=>some []
 |j::js,o::os=>(Fs σ μ j o).bind fun x=>(Xl σ μ js os).bind fun y=>some (x++y)
 |_,_=>none
def ajI:List (Nat×Nat)->List (Nat×Nat)->List (Nat×Option Nat)
 |(i,_)::r,(i',_)::r'=>(i,some i')::ajI r r'
 |_,_=>[]
def muC:Sh->SD->List (Nat×Option Nat)
 |.loc i _,.loc i' _=>[(i,some i')]
 |.arr i,.arr i'=>[(i,some i')]
 |.fq _ caps,.fq _ gT=>ajI caps gT
 |_,_=>[]
def am5:List Sh->List SD->List (Nat×Option Nat)
 |s::ss,d::ds=>muC s d++am5 ss ds
 |_,_=>[]
def muD:Sh->SD->List (Nat×Option Nat)
 |.agg ss,.agg ds=>am5 ss ds
 |s,d=>muC s d
def afg:List (Nat×Option Nat)->Nat->Option Nat
 |[],_=>none
 |(i,j)::r,q=>if i=q then j else afg r q
def muH (h:List (Nat×SO)):List (Nat×Option Nat)->Nat->List Jb->List (Nat×Option Nat)
 |acc,_,[]=>acc
 |acc,q,.box ss::os=>(match afg acc q with
  |some i=>(match bX h i with
   |.box ds=>muH h (acc++am5 ss ds) (q+1) os
   |_=>muH h acc (q+1) os)
  |none=>muH h acc (q+1) os)
 |acc,q,_::os=>muH h acc (q+1) os
def FH:List (Option Nat)->List Nat
 |[]=>[]
 |some i::r=>i::FH r
 |none::r=>FH r
def TB (μ:List (Option Nat)):Nat->Nat->Bool
 |_,0=>true
 |b,k+1=>(match μ[b]? with|some (some i)=>i==b|_=>false) && TB μ (b+1) k
def DW (k:Nat) (h:HS) (σ:Sy):Option (List TW):=
 let acc:=muH σ.heap ((List.range k).map (fun b=>(b,some b))++h.env.flatMap fun p=>muD p.2 (Ae σ.env p.1)) 0 h.heap
 let μ:=(List.range h.heap.length).map (afg acc)
 if nodupB (FH μ) && TB μ 0 k then (VC σ μ h.env).bind fun x=>(Xl σ μ μ h.heap).bind fun y=>some (x++y) else none
structure Cx where
 sig:Nat->Option eT
 heads:List HS
 res:List Res
 rs:List RS
 bl:List Nat
def qo (k:Nat) (p:List Nat) (σ:Sy):Nat->List HS->Tree
 |_,[]=> .fail
 |i,h::hs=>if h.p=p then (match DW k h σ with
  |some ws=> .goto i ws
  |none=>qo k p σ (i+1) hs) else qo k p σ (i+1) hs
def UJ (σ:Sy):List Res->Option (List SD)
 |[]=>some []
 |.tmp t::r=>(UJ σ r).bind fun ds=>(match Ae σ.env t with
  |.jG _=>none
  |.rq=>none
  |d=>some (d::ds))
 |.cell t agg size::r=>(match Ae σ.env t with
  |.loc i off=>(match bX σ.heap i with
   |.box ds=>(match agg with
    |true=>if off+size<=ds.length then (UJ σ r).bind fun l=>some (.agg ((ds.drop off).take size)::l) else none
    |false=>(ds[off]?).bind fun d=>(UJ σ r).bind fun l=>some (d::l))
   |_=>none)
  |_=>none)
def Ck (h:List (Nat×SO)):CK->SD->Option (At×List Nat)
 |.c,.a x=>some (x,[])
 |.c,.full x=>some (x,[])
 |.c,.view i x=>(match bX h i with
  |.arr _ _ _ _ _=>some (x,[])
  |_=>none)
 |.c,.arr i=>(match bX h i with
  |.arr x _ _ _ _=>some (x,[])
  |_=>none)
 |.d,.a x=>some (x,[])
 |.d,.full x=>some (x,[])
 |.full,.full x=>some (x,[])
 |.own aj ety fr al,.arr i=>(match bX h i with
  |.arr x ja jY fr' al'=>if ja=aj/\jY=ety/\(fr'=true->fr=true)/\(al=true->al'=true) then some (x,[i]) else none
  |_=>none)
 |.own _ _ _ false,.full .z=>some (.z,[])
 |_,_=>none
def Oo (h:List (Nat×SO)):List CK->List SD->Option (List At×List Nat)
 |[],[]=>some ([],[])
 |k::ks,d::ds=>(Ck h k d).bind fun p=>(Oo h ks ds).bind fun q=>some (p.1::q.1,p.2++q.2)
 |_,_=>none
def afz (lens:List (Nat×Nat)) (h:List (Nat×SO)):RS->SD->Option (TV×List Nat)
 |.one k,d=>(Ck h k d).bind fun p=>some (.one p.1,p.2)
 |.agg ks,.agg ds=>(Oo h ks ds).bind fun p=>some (.agg (IB lens p.1),p.2)
 |_,_=>none
def NL (lens:List (Nat×Nat)) (h:List (Nat×SO)):List RS->List SD->Option (List TV×List Nat)
 |[],[]=>some ([],[])
 |k::ks,d::ds=>(afz lens h k d).bind fun p=>(NL lens h ks ds).bind fun q=>some (p.1::q.1,p.2++q.2)
 |_,_=>none
def Ty (cx:Cx) (σ:Sy):Tree:=
 match UJ σ cx.res with
 |some ds=>(match NL σ.lens σ.heap cx.rs ds with
  |some (vs,own)=>(match qa σ.lens σ.heap (List.range cx.bl.length) cx.bl with
   |some bs=>if nodupB own then .ret vs bs else .fail
   |none=> .fail)
  |none=> .fail)
 |none=> .fail
inductive Fr where
 |seq (p:List Nat) (b:gQ)
 |blk (id:Nat)
 |loop (p:List Nat) (c:gQ)
def Qu (cx:Cx) (rec:List Nat->gQ->List Fr->Sy->Nat->Kn->Tree):List Fr->Sy->Nat->Kn->Tree
 |[],σ,_,_=>Ty cx σ
 |.seq p b::K,σ,n,kn=>rec p b K σ n kn
 |.blk _::K,σ,n,kn=>Qu cx rec K σ n kn
 |.loop p _::_,σ,_,_=>qo cx.bl.length p σ 0 cx.heads
def Ng (cx:Cx) (rec:List Nat->gQ->List Fr->Sy->Nat->Kn->Tree) (id:Nat):List Fr->Sy->Nat->Kn->Tree
 |[],_,_,_=> .fail
 |.blk id'::K,σ,n,kn=>if id=id' then Qu cx rec K σ n kn else Ng cx rec id K σ n kn
 |.seq _ _::K,σ,n,kn=>Ng cx rec id K σ n kn
 |.loop _ _::K,σ,n,kn=>Ng cx rec id K σ n kn
def xk (cx:Cx):Nat->List Nat->gQ->List Fr->Sy->Nat->Kn->Tree
 |0,_,_,_,_,_,_=> .fail
 |fuel+1,p,c,K,σ,n,kn=>match c with
  |.skip=>Qu cx (xk cx fuel) K σ n kn
  |.ret=>Ty cx σ
  |.exit id=>Ng cx (xk cx fuel) id K σ n kn
  |.region is=>pX cx.sig (fun σ n kn=>Qu cx (xk cx fuel) K σ n kn) is σ n kn
  |.draw is ws=>uh cx.sig (fun σ n kn ts=>if BO ts ws then Qu cx (xk cx fuel) K σ n kn else .fail) is σ n kn []
  |.mix _ _=> .fail
  |.seq a b=>xk cx fuel (0::p) a (.seq (1::p) b::K) σ n kn
  |.cond x a b=>Bn kn (xS σ x) fun t kn=>match t with
   |true=>xk cx fuel (0::p) a K σ n kn
   |false=>xk cx fuel (1::p) b K σ n kn
  |.block id c=>xk cx fuel (0::p) c (.blk id::K) σ n kn
  |.loop _=>qo cx.bl.length p σ 0 cx.heads
def iO (B:gQ):List Nat->Option (gQ×List Fr)
 |[]=>some (B,[])
 |i::q=>(iO B q).bind fun r=>match r.1,i with
  |.seq a b,0=>some (a,.seq (1::q) b::r.2)
  |.seq _ b,1=>some (b,r.2)
  |.cond _ a _,0=>some (a,r.2)
  |.cond _ _ b,1=>some (b,r.2)
  |.block id c,0=>some (c,.blk id::r.2)
  |.loop c,0=>some (c,.loop q c::r.2)
  |_,_=>none
def Fy:List PS->Nat->Nat->List (Nat×SD)×Nat×List (Nat×Nat)
 |[],_,n=>([],n,[])
 |.one::ps,t,n=>match Fy ps (t+1) (n+1) with|(e,k,l)=>((t,.a (.v n))::e,k,l)
 |.agg m::ps,t,n=>match Fy ps (t+1) (n+1) with|(e,k,l)=>((t,.agg ((Ba n 0 m).map .a))::e,k,(n,m)::l)
 |.ref b off::ps,t,n=>match Fy ps (t+1) n with|(e,k,l)=>((t,.loc b off)::e,k,l)
 |.fq g caps::ps,t,n=>match Fy ps (t+1) n with|(e,k,l)=>((t,.fq g caps)::e,k,l)
def Yc:List Nat->Nat->Nat->List (Nat×SO)×Nat×List (Nat×Nat)
 |[],_,n=>([],n,[])
 |m::ms,b,n=>match Yc ms (b+1) (n+1) with|(h,k,l)=>((b,.box ((Ba n 0 m).map .a))::h,k,(n,m)::l)
def MP (s:eT):Sy×Nat:=match Fy s.params 0 0 with|(e,n,l)=>match Yc s.boxes 0 n with|(h,n,l')=>(⟨e,h,s.boxes.length,l++l'⟩,n)
def uu (cx:Cx) (fuel:Nat) (B:gQ) (h:HS):Tree:=
 match iO B h.p with
 |some (.loop c,K)=>(match KR h with|(σ,n)=>xk cx fuel (0::h.p) c (.loop h.p c::K) σ n [])
 |_=> .fail
def PR (sig:Nat->Option eT) (fuel:Nat) (s:eT) (hs:List HS) (I:Lh):cB:=
 let cx:Cx:=⟨sig,hs,I.res,s.rs,s.boxes⟩
 ⟨s.params,s.boxes,(match MP s with|(σ,n)=>xk cx fuel [] I.body [] σ n []),hs.map (uu cx fuel I.body)⟩
structure Nm where
 ρ:List W
 μ:Nat->Option Nat
 hs:List (Nat×SO)
 nx:Nat
def rJ (N:Nm):SD->D->Prop
 |.rq,_=>True
 |.a x,d=>∃c,dH N.ρ x=some c/\(d=.c c\/∃cs n,c=.slice cs n/\d=.full cs n)
 |.full x,d=>∃cs n,dH N.ρ x=some (.slice cs n)/\d=.full cs n
 |.loc i off,d=>i < N.nx/\∃j,N.μ i=some j/\d=.loc j off
 |.arr i,d=>i < N.nx/\((∃j len,N.μ i=some j/\d=.arr j 0 len/\∀x aj ety fr al,bX N.hs i=.arr x aj ety fr al->∃cs,dH N.ρ x=some (.slice cs len))\/
   (N.μ i=none/\∃cs n,d=.full cs n/\∀x aj ety fr al,bX N.hs i=.arr x aj ety fr al->dH N.ρ x=some (.slice cs n)))
 |.view i x,d=>i < N.nx/\∃cs len,dH N.ρ x=some (.slice cs len)/\(d=.c (.slice cs len)\/∃j off,N.μ i=some j/\d=.arr j off len/\
   ∀y aj ety fr al,bX N.hs i=.arr y aj ety fr al->fr=true/\∃ys n,dH N.ρ y=some (.slice ys n)/\off+len * aj<=ys.length/\cs=(ys.drop off).take (len * aj))
 |.nK i x off,d=>i < N.nx/\∃kd k,dH N.ρ x=some (.lit (.int kd k))/\0<=k/\((∃j o,N.μ i=some j/\d=.loc j o/\∀y aj ety fr al,bX N.hs i=.arr y aj ety fr al->o=k.toNat * aj+off)\/
   (N.μ i=none/\∃cs,d=.ptr cs/\∀y aj ety fr al,bX N.hs i=.arr y aj ety fr al->∃ys n,dH N.ρ y=some (.slice ys n)/\cs=ys.drop (k.toNat * aj+off)))
 |.ptr r off aj,d=>∃xs rest,gG N.ρ r=some (.l xs)/\xs.length=aj/\d=.ptr ((xs++rest).drop off)
 |.fq f caps,d=>∃gT:List (Nat×Nat),d=.fq f gT/\av (fun p q:Nat×Nat=>p.1 < N.nx/\N.μ p.1=some q.1/\q.2=p.2) caps gT
 |.agg _,_=>False
 |.jG _,_=>False
def RA (N:Nm):SD->D->Prop
 |.agg ds,d=>∃ds',d=.agg ds'/\av (rJ N) ds ds'
 |sd,d=>rJ N sd d
def RD (N:Nm):SD->D->Prop
 |.jG ds,d=>∃ds',d=.jG ds'/\av (RA N) ds ds'
 |sd,d=>RA N sd d
theorem rJ.toA {N:Nm} {sd:SD} {d:D} (h:rJ N sd d):RA N sd d:=by cases sd<;>first|exact h|exact h.elim
theorem RA.mY {N:Nm} {sd:SD} {d:D} (h:RA N sd d):RD N sd d:=by cases sd<;>first|exact h|exact False.elim h
theorem rJ.mY {N:Nm} {sd:SD} {d:D} (h:rJ N sd d):RD N sd d:=h.toA.mY
structure j4 (N N':Nm):Prop where
 at_:∀x c,dH N.ρ x=some c->dH N'.ρ x=some c
 row:∀r w,gG N.ρ r=some w->gG N'.ρ r=some w
 nx:N.nx<=N'.nx
 mu:∀i,i < N.nx->N'.μ i=N.μ i
 arr:∀i y' aj ety fr' al',i < N.nx->bX N'.hs i=.arr y' aj ety fr' al'->∃y fr al,bX N.hs i=.arr y aj ety fr al/\(fr=true->fr'=true)/\
  ∀cs n,dH N.ρ y=some (.slice cs n)->∃cs',dH N'.ρ y'=some (.slice cs' n)/\(fr=true\/N.μ i=none->cs'=cs)
theorem j4.refl (N:Nm):j4 N N:=
 ⟨fun _ _ h=>h,fun _ _ h=>h,An _,fun _ _=>rfl,fun _ y' _ _ fr' al' _ h=>⟨y',fr',al',h,id,fun cs _ hc=>⟨cs,hc,fun _=>rfl⟩⟩⟩
theorem j4.trans {N N' N'':Nm} (h:j4 N N') (k:j4 N' N''):j4 N N'' where
 at_ x c hx:=k.at_ x c (h.at_ x c hx)
 row r w hr:=k.row r w (h.row r w hr)
 nx:=E1 h.nx k.nx
 mu i hi:=by rw [k.mu i (F0 hi h.nx),h.mu i hi]
 arr i y' aj ety fr' al' hi hg:=by
  obtain ⟨y1,fr1,al1,h1,h2,h3⟩:=k.arr i y' aj ety fr' al' (F0 hi h.nx) hg;obtain ⟨y,fr,al,h4,h5,h6⟩:=h.arr i y1 aj ety fr1 al1 hi h1;refine ⟨y,fr,al,h4,fun e=>h2 (h5 e),fun cs n hc=>?_⟩
  obtain ⟨cs1,h7,h8⟩:=h6 cs n hc;obtain ⟨cs2,h9,h10⟩:=h3 cs1 n h7;refine ⟨cs2,h9,fun he=>?_⟩
  rw [h10 (he.imp h5 fun e=>by rw [h.mu i hi];exact e),h8 he]
section
variable {N N':Nm} (h:j4 N N')
include h
theorem j4.dc {sd:SD} {d:D} (hr:rJ N sd d):rJ N' sd d:=by
 cases sd with
 |rq=>trivial
 |a x=>obtain ⟨c,h1,h2⟩:=hr;exact ⟨c,h.at_ x c h1,h2⟩
 |full x=>obtain ⟨cs,n,h1,h2⟩:=hr;exact ⟨cs,n,h.at_ x _ h1,h2⟩
 |loc i off=>obtain ⟨h0,j,h1,h2⟩:=hr;exact ⟨F0 h0 h.nx,j,by rw [h.mu i h0];exact h1,h2⟩
 |arr i=>
  obtain ⟨h0,hr⟩:=hr;refine ⟨F0 h0 h.nx,?_⟩;rcases hr with ⟨j,len,h1,h2,h3⟩|⟨h1,cs,n,h2,h3⟩
  ·refine .inl ⟨j,len,by rw [h.mu i h0];exact h1,h2,fun x aj ety fr al hg=>?_⟩
   obtain ⟨y,fr0,al0,h4,_,h6⟩:=h.arr i x aj ety fr al h0 hg;obtain ⟨cs,h7⟩:=h3 _ _ _ _ _ h4;obtain ⟨cs',h8,_⟩:=h6 _ _ h7;exact ⟨cs',h8⟩
  ·refine .inr ⟨by rw [h.mu i h0];exact h1,cs,n,h2,fun x aj ety fr al hg=>?_⟩
   obtain ⟨y,fr0,al0,h4,_,h6⟩:=h.arr i x aj ety fr al h0 hg;obtain ⟨cs',h8,h9⟩:=h6 _ _ (h3 _ _ _ _ _ h4);rw [h8,h9 (.inr h1)]
 |view i x=>
  obtain ⟨h0,cs,len,h1,hr⟩:=hr;refine ⟨F0 h0 h.nx,cs,len,h.at_ _ _ h1,?_⟩;rcases hr with hr|⟨j,off,h2,h3,h4⟩
  ·exact .inl hr
  ·refine .inr ⟨j,off,by rw [h.mu i h0];exact h2,h3,fun y aj ety fr al hg=>?_⟩
   obtain ⟨y0,fr0,al0,h5,h6,h7⟩:=h.arr i y aj ety fr al h0 hg;obtain ⟨h8,ys,n,h9,h10,h11⟩:=h4 _ _ _ _ _ h5;obtain ⟨cs',h12,h13⟩:=h7 _ _ h9;exact ⟨h6 h8,ys,n,by rw [h12,h13 (.inl h8)],h10,h11⟩
 |nK i x off=>
  obtain ⟨h0,kd,k,h1,h2,hr⟩:=hr;refine ⟨F0 h0 h.nx,kd,k,h.at_ _ _ h1,h2,?_⟩;rcases hr with ⟨j,o,h3,h4,h5⟩|⟨h3,cs,h4,h5⟩
  ·refine .inl ⟨j,o,by rw [h.mu i h0];exact h3,h4,fun y aj ety fr al hg=>?_⟩
   obtain ⟨y0,fr0,al0,h6,_,_⟩:=h.arr i y aj ety fr al h0 hg;exact h5 _ _ _ _ _ h6
  ·refine .inr ⟨by rw [h.mu i h0];exact h3,cs,h4,fun y aj ety fr al hg=>?_⟩
   obtain ⟨y0,fr0,al0,h6,_,h7⟩:=h.arr i y aj ety fr al h0 hg;obtain ⟨ys,n,h8,h9⟩:=h5 _ _ _ _ _ h6;obtain ⟨cs',h10,h11⟩:=h7 _ _ h8;exact ⟨ys,n,by rw [h10,h11 (.inr h3)],h9⟩
 |ptr r off aj=>obtain ⟨xs,rest,h1,h2,h3⟩:=hr;exact ⟨xs,rest,h.row _ _ h1,h2,h3⟩
 |fq f caps=>
  obtain ⟨gT,h1,h2⟩:=hr;exact ⟨gT,h1,h2.mono fun p q ⟨k1,k2,k3⟩=>⟨F0 k1 h.nx,by rw [h.mu _ k1];exact k2,k3⟩⟩
 |agg ds=>exact hr.elim
 |jG ds=>exact hr.elim
theorem j4.ra {sd:SD} {d:D} (hr:RA N sd d):RA N' sd d:=by
 cases sd with
 |agg ds=>obtain ⟨ds',h1,h2⟩:=hr;exact ⟨ds',h1,h2.mono fun _ _=>h.dc⟩
 |rq=>exact (h.dc (sd:=(.rq)) hr).toA
 |a x=>exact (h.dc (sd:=(.a x)) hr).toA
 |full x=>exact (h.dc (sd:=(.full x)) hr).toA
 |loc i off=>exact (h.dc (sd:=(.loc i off)) hr).toA
 |arr i=>exact (h.dc (sd:=(.arr i)) hr).toA
 |view i x=>exact (h.dc (sd:=(.view i x)) hr).toA
 |nK i x off=>exact (h.dc (sd:=(.nK i x off)) hr).toA
 |ptr q off aj=>exact (h.dc (sd:=(.ptr q off aj)) hr).toA
 |fq f caps=>exact (h.dc (sd:=(.fq f caps)) hr).toA
 |jG ds=>exact (h.dc (sd:=(.jG ds)) hr).toA
theorem j4.rd {sd:SD} {d:D} (hr:RD N sd d):RD N' sd d:=by
 cases sd with
 |jG ds=>obtain ⟨ds',h1,h2⟩:=hr;exact ⟨ds',h1,h2.mono fun _ _=>h.ra⟩
 |rq=>exact (h.ra (sd:=(.rq)) hr).mY
 |a x=>exact (h.ra (sd:=(.a x)) hr).mY
 |full x=>exact (h.ra (sd:=(.full x)) hr).mY
 |loc i off=>exact (h.ra (sd:=(.loc i off)) hr).mY
 |arr i=>exact (h.ra (sd:=(.arr i)) hr).mY
 |view i x=>exact (h.ra (sd:=(.view i x)) hr).mY
 |nK i x off=>exact (h.ra (sd:=(.nK i x off)) hr).mY
 |ptr q off aj=>exact (h.ra (sd:=(.ptr q off aj)) hr).mY
 |fq f caps=>exact (h.ra (sd:=(.fq f caps)) hr).mY
 |agg ds=>exact (h.ra (sd:=(.agg ds)) hr).mY
end
def Sr (N:Nm) (h:Heap) (i:Nat):SO->Prop
 |.dead=>True
 |.box ds=>∃j ds',N.μ i=some j/\ax h j=.box ds'/\av (rJ N) ds ds'
 |.arr x aj ety fr al=>∃cs n,dH N.ρ x=some (.slice cs n)/\cs.length=n * aj/\
   ((∃j fz,N.μ i=some j/\ax h j=.arr cs aj fz ety/\0 < aj/\fz<=cs.length/\(fr=false->fz=0))\/(N.μ i=none/\al=false/\(fr=false->cs=[]/\n=0)))
structure Bs where
 h0:Heap
 k0:Nat
 aK:List Nat
structure Rm (b:Bs) (N:Nm) (h:Heap) (k:Nat) (lens:List (Nat×Nat)):Prop where
 obj:∀i,Sr N h i (bX N.hs i)
 inj:∀i i' j,i < N.nx->i' < N.nx->N.μ i=some j->N.μ i'=some j->i=i'
 lt:∀i j,i < N.nx->N.μ i=some j->j < k
 dom:∀i,N.nx<=i->bX N.hs i=.dead
 base:∀i j,i < N.nx->N.μ i=some j->b.k0<=j\/j∈b.aK
 frame:∀j,j < b.k0->j ∉ b.aK->ax h j=ax b.h0 j
 le:b.k0<=k
 lens:∀i m,(i,m)∈lens->∃xs,gG N.ρ i=some (.l xs)/\xs.length=m
theorem dN (i:Nat) (o:SO) (h:List (Nat×SO)) (j:Nat):bX ((i,o)::h) j=if i=j then o else bX h j:=rfl
theorem Sr.mono {N N':Nm} (hv:j4 N N') {h h':Heap} {i:Nat} (hi:i < N.nx) (hh:∀j,N.μ i=some j->ax h' j=ax h j) {o:SO} (hr:Sr N h i o):Sr N' h' i o:=by
 cases o with
 |dead=>trivial
 |box ds=>
  obtain ⟨j,ds',h1,h2,h3⟩:=hr;exact ⟨j,ds',by rw [hv.mu i hi];exact h1,by rw [hh j h1];exact h2,h3.mono fun _ _=>hv.dc⟩
 |arr x aj ety fr al=>
  obtain ⟨cs,n,h1,h2,h3⟩:=hr;refine ⟨cs,n,hv.at_ _ _ h1,h2,?_⟩;rcases h3 with ⟨j,fz,h4,h5,h6,h7⟩|⟨h4,h5⟩
  ·exact .inl ⟨j,fz,by rw [hv.mu i hi];exact h4,by rw [hh j h4];exact h5,h6,h7⟩
  ·exact .inr ⟨by rw [hv.mu i hi];exact h4,h5⟩
theorem Rm.ajx {b:Bs} {N:Nm} {h:Heap} {k:Nat} {lens:List (Nat×Nat)} (hm:Rm b N h k lens) {i:Nat} (hd:bX N.hs i≠.dead):i < N.nx:=
 Nat.lt_of_not_le fun hle=>hd (hm.dom i hle)
theorem AU {ρ ws:List W} {i:Nat} {w:W} (h:gG ρ i=some w):gG (ρ++ws) i=some w:=by
 induction ρ generalizing i with
 |nil=>cases h
 |cons a r ih=>cases i with
  |zero=>exact h
  |succ i=>exact ih h
theorem mJ (ρ:List W) (w:W) (ws:List W):gG (ρ++w::ws) ρ.length=some w:=by
 induction ρ with
 |nil=>rfl
 |cons a r ih=>exact ih
theorem iF {ρ ws:List W} {x:At} {c:C} (h:dH ρ x=some c):dH (ρ++ws) x=some c:=by
 cases x with
 |v i=>
  simp only [dH] at h |-;cases hg:gG ρ i with
  |none=>rw [hg] at h;cases h
  |some w=>rw [AU hg];rw [hg] at h;exact h
 |n i j=>
  simp only [dH] at h |-;cases hg:gG ρ i with
  |none=>rw [hg] at h;cases h
  |some w=>rw [AU hg];rw [hg] at h;exact h
 |k v=>exact h
 |z=>exact h
def Nm.ext (N:Nm) (ws:List W):Nm:={ N with ρ:=N.ρ++ws}
theorem lC (N:Nm) (ws:List W):j4 N (N.ext ws):=
 ⟨fun _ _ h=>iF h,fun _ _ h=>AU h,An _,fun _ _=>rfl,fun _ y' _ _ fr' al' _ h=>⟨y',fr',al',h,id,fun cs _ hc=>⟨cs,iF hc,fun _=>rfl⟩⟩⟩
theorem Rm.ext {b:Bs} {N:Nm} {h:Heap} {k:Nat} {lens:List (Nat×Nat)} (hm:Rm b N h k lens) (ws:List W):Rm b (N.ext ws) h k lens where
 obj i:=by
  by_cases hi:i < N.nx
  ·exact (hm.obj i).mono (lC N ws) hi fun _ _=>rfl
  ·show Sr _ h i (bX N.hs i);rw [hm.dom i (Ly hi)];trivial
 inj:=hm.inj
 lt:=hm.lt
 dom:=hm.dom
 base:=hm.base
 frame:=hm.frame
 le:=hm.le
 lens i m hi:=by obtain ⟨xs,h1,h2⟩:=hm.lens i m hi;exact ⟨xs,AU h1,h2⟩
theorem Rm.tick {b:Bs} {N:Nm} {h:Heap} {k k':Nat} {lens:List (Nat×Nat)} (hm:Rm b N h k lens) (hk:k<=k'):Rm b N h k' lens:=
 { hm with lt:=fun i j h1 h2=>F0 (hm.lt i j h1 h2) hk,le:=E1 hm.le hk}
theorem Rm.lens' {b:Bs} {N:Nm} {h:Heap} {k:Nat} {lens:List (Nat×Nat)} (hm:Rm b N h k lens) {l:List (Nat×Nat)} (hl:∀i m,(i,m)∈l->∃xs,gG N.ρ i=some (.l xs)/\xs.length=m):Rm b N h k l:=
 { hm with lens:=hl}
def Nm.set (N:Nm) (i:Nat) (o:SO):Nm:={ N with hs:=(i,o)::N.hs}
theorem Rm.set {b:Bs} {N:Nm} {h:Heap} {k:Nat} {lens:List (Nat×Nat)} (hm:Rm b N h k lens) {i:Nat} (hi:i < N.nx) {o':SO} {h':Heap}
  (hoth:∀j,N.μ i≠some j->ax h' j=ax h j)
  (harr:∀y' aj ety fr' al',o'=.arr y' aj ety fr' al'->∃y fr al,bX N.hs i=.arr y aj ety fr al/\(fr=true->fr'=true)/\
   ∀cs n,dH N.ρ y=some (.slice cs n)->∃cs',dH N.ρ y'=some (.slice cs' n)/\(fr=true\/N.μ i=none->cs'=cs))
  (wC:j4 N (N.set i o')->Sr (N.set i o') h' i o'):j4 N (N.set i o')/\Rm b (N.set i o') h' k lens:=by
 have hv:j4 N (N.set i o'):=by
  refine ⟨fun _ _ h=>h,fun _ _ h=>h,An _,fun _ _=>rfl,fun q y' aj ety fr' al' hq hg=>?_⟩
  simp only [Nm.set,dN] at hg |-;by_cases he:i=q
  ·subst he;rw [C6 rfl] at hg;exact harr _ _ _ _ _ hg
  ·rw [E0 he] at hg;exact ⟨y',fr',al',hg,id,fun cs _ hc=>⟨cs,hc,fun _=>rfl⟩⟩
 refine ⟨hv,fun q=>?_,hm.inj,hm.lt,fun q hq=>?_,hm.base,fun j h1 h2=>?_,hm.le,hm.lens⟩
 ·show Sr (N.set i o') h' q (bX ((i,o')::N.hs) q)
  rw [dN];by_cases he:i=q
  ·subst he;rw [C6 rfl];exact wC hv
  ·rw [E0 he];by_cases hq:q < N.nx
   ·exact (hm.obj q).mono hv hq fun j hj=>hoth j fun e=>he (hm.inj i q j hi hq e hj)
   ·rw [hm.dom q (Ly hq)];trivial
 ·show bX ((i,o')::N.hs) q=.dead
  have hq':N.nx<=q:=hq;rw [dN,E0 (by omega)]
  exact hm.dom q hq
 ·rw [hoth j fun e=>?_]
  ·exact hm.frame j h1 h2
  ·rcases hm.base i j hi e with h3|h3
   ·omega
   ·exact h2 h3
def Nm.new (N:Nm) (j:Option Nat) (o:SO):Nm:=⟨N.ρ,fun i=>if i=N.nx then j else N.μ i,(N.nx,o)::N.hs,N.nx+1⟩
theorem Rm.new {b:Bs} {N:Nm} {h:Heap} {k:Nat} {lens:List (Nat×Nat)} (hm:Rm b N h k lens) {j:Option Nat} {o:SO} {h':Heap} (hj:j=none\/j=some k)
  (hoth:∀q,q≠k->ax h' q=ax h q) (wC:j4 N (N.new j o)->Sr (N.new j o) h' N.nx o):j4 N (N.new j o)/\Rm b (N.new j o) h' (k+1) lens:=by
 have hv:j4 N (N.new j o):=by
  refine ⟨fun _ _ h=>h,fun _ _ h=>h,Mb _,fun i hi=>?_,fun q y' aj ety fr' al' hq hg=>?_⟩
  ·show (if i=N.nx then j else N.μ i)=N.μ i
   rw [E0 (by omega)]
  ·simp only [Nm.new,dN] at hg;rw [E0 (by omega)] at hg
   exact ⟨y',fr',al',hg,id,fun cs _ hc=>⟨cs,hc,fun _=>rfl⟩⟩
 have hmu:∀i q,i < N.nx+1->(N.new j o).μ i=some q->(i=N.nx/\q=k)\/(i < N.nx/\N.μ i=some q):=by
  intro i q hi hq;by_cases he:i=N.nx
  ·have hq':j=some q:=by simpa [Nm.new,he] using hq
   rcases hj with rfl|rfl
   ·cases hq'
   ·injection hq' with hq';exact .inl ⟨he,hq'.symm⟩
  ·have hq':N.μ i=some q:=by simpa [Nm.new,he] using hq
   exact .inr ⟨by omega,hq'⟩
 refine ⟨hv,fun q=>?_,fun i i' q h1 h2 h3 h4=>?_,fun i q h1 h2=>?_,fun q hq=>?_,fun i q h1 h2=>?_,fun q h1 h2=>?_,Nat.le_succ_of_le hm.le,hm.lens⟩
 ·show Sr (N.new j o) h' q (bX ((N.nx,o)::N.hs) q)
  rw [dN];by_cases he:N.nx=q
  ·subst he;rw [C6 rfl];exact wC hv
  ·rw [E0 he];by_cases hq:q < N.nx
   ·exact (hm.obj q).mono hv hq fun p hp=>hoth p (by have:=hm.lt q p hq hp;omega)
   ·rw [hm.dom q (Ly hq)];trivial
 ·rcases hmu i q h1 h3 with ⟨a1,a2⟩|⟨a1,a2⟩<;>rcases hmu i' q h2 h4 with ⟨b1,b2⟩|⟨b1,b2⟩
  ·omega
  ·have:=hm.lt _ _ b1 b2;omega
  ·have:=hm.lt _ _ a1 a2;omega
  ·exact hm.inj i i' q a1 b1 a2 b2
 ·rcases hmu i q h1 h2 with ⟨_,a2⟩|⟨a1,a2⟩
  ·omega
  ·have:=hm.lt _ _ a1 a2;omega
 ·show bX ((N.nx,o)::N.hs) q=.dead
  have hq':N.nx+1<=q:=hq;rw [dN,E0 (by omega)]
  exact hm.dom q (by omega)
 ·rcases hmu i q h1 h2 with ⟨_,a2⟩|⟨a1,a2⟩
  ·left;have:=hm.le;omega
  ·exact hm.base i q a1 a2
 ·rw [hoth q (by have:=hm.le;omega)]
  exact hm.frame q h1 h2
theorem IQ {ρ:List W}:∀{aJ:List At} {xs:List C},nA ρ aJ=some xs->xs.length=aJ.length
 |[],xs,h=>by simp only [nA,A0] at h;subst h;rfl
 |a::aJ,xs,h=>by simp only [nA,A1,A0] at h;obtain ⟨x,_,ys,h2,rfl⟩:=h;simp [IQ h2]
theorem yw (xs:List C) (j:Nat) (h:j < xs.length):ak xs j=xs[j]:=by
 induction xs generalizing j with
 |nil=>simp at h
 |cons a r ih=>cases j with
  |zero=>rfl
  |succ j=>exact ih j (by simpa using h)
theorem QJ {ρ:List W} {i:Nat} {xs:List C} (hw:gG ρ i=some (.l xs)):∀(aJ:List At) (j:Nat),F6 i j aJ=true->j+aJ.length=xs.length->nA ρ aJ=some (xs.drop j)
 |[],j,_,hl=>by simp only [G3] at hl;simp only [nA];rw [List.drop_of_length_le (by omega)]
 |a::r,j,hn,hl=>by
  cases a with
  |n i' j'=>
   simp only [F6,A5,K1] at hn;obtain ⟨⟨rfl,rfl⟩,hn⟩:=hn;have hlt:j' < xs.length:=by simp at hl;omega
   simp only [nA,dH,hw,A4];rw [QJ hw r (j'+1) hn (by simp at hl;omega)]
   simp only [A4,A0];rw [yw xs j' hlt];exact (Hh hlt).symm
  |v i=>simp [F6] at hn
  |k v=>simp [F6] at hn
  |z=>simp [F6] at hn
theorem ER {b:Bs} {N:Nm} {h:Heap} {k:Nat} {lens:List (Nat×Nat)} (hm:Rm b N h k lens) (aJ:List At):Tt N.ρ (IB lens aJ)=nA N.ρ aJ:=by
 unfold IB;split
 ·rename_i i r;split
  ·rename_i hc;simp only [A5,afp,Ix,K1] at hc;obtain ⟨h1,p,h2,h3,h4⟩:=hc;obtain ⟨xs,h5,h6⟩:=hm.lens p.1 p.2 h2;rw [h3] at h5;have:=QJ h5 _ 0 h1 (by omega)
   rw [this];simp [Tt,h5]
  ·rfl
 ·rfl
theorem EI {N:Nm}:∀{ds:List SD} {ds':List D} {aJ:List At},av (rJ N) ds ds'->CJ ds=some aJ->∃xs,nA N.ρ aJ=some xs/\av (fun c d=>d=.c c\/∃cs n,c=.slice cs n/\d=.full cs n) xs ds'
 |[],[],aJ,_,h=>by simp only [CJ,A0] at h;subst h;exact ⟨[],rfl,trivial⟩
 |sd::ds,d::ds',aJ,hr,h=>by
  cases sd with
  |a x=>
   simp only [CJ,A1,A0] at h;obtain ⟨as',h1,rfl⟩:=h;obtain ⟨xs,h2,h3⟩:=EI hr.2 h1;obtain ⟨c,h4,h5⟩:=hr.1;exact ⟨c::xs,by simp [nA,h4,h2],h5,h3⟩
  |_=>simp [CJ] at h
 |[],_::_,_,hr,_=>hr.elim
 |_::_,[],_,hr,_=>hr.elim
end Go.Ey
