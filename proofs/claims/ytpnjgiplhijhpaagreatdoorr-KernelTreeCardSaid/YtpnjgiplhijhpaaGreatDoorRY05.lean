/- A part. -/
import Derived.Test.YtpnjgiplhijhpaaGreatDoorRY02
import Derived.Test.YtpnjgiplhijhpaaGreatDoorRY03
set_option linter.all false
namespace Go.Ey
def jm (n:Nat):Sh->SD×Nat
 |.a=>(.a (.v n),n+1)
 |.full=>(.full (.v n),n+1)
 |.loc i off=>(.loc i off,n)
 |.arr i=>(.arr i,n)
 |.bJ f caps=>(.bJ f caps,n)
 |_=>(.fK,n)
def gW:Nat->List Sh->List SD×Nat
 |n,[]=>([],n)
 |n,s::ss=>match jm n s with|(d,n)=>match gW n ss with|(ds,n)=>(d::ds,n)
def wo (n:Nat):Sh->SD×Nat×List (Nat×Nat)
 |.MQ m=>(.agg ((nk n 0 m).map .a),n+1,[(n,m)])
 |.agg ss=>match gW n ss with|(ds,n)=>(.agg ds,n,[])
 |s=>match jm n s with|(d,n)=>(d,n,[])
def jX (n:Nat):Nc->SO×Nat×List (Nat×Nat)
 |.bg m=>(.box ((nk n 0 m).map .a),n+1,[(n,m)])
 |.box ss=>match gW n ss with|(ds,n)=>(.box ds,n,[])
 |.arr aa ety fr al=>(.arr (.v n) aa ety fr al,n+1,[])
def rX:Nat->List (Nat×Sh)->List (Nat×SD)×Nat×List (Nat×Nat)
 |n,[]=>([],n,[])
 |n,(t,s)::r=>match wo n s with|(d,n,l)=>match rX n r with|(e,n,l')=>((t,d)::e,n,l++l')
def AJ:Nat->Nat->List Nc->List (Nat×SO)×Nat×List (Nat×Nat)
 |_,n,[]=>([],n,[])
 |q,n,o::r=>match jX n o with|(x,n,l)=>match AJ (q+1) n r with|(h,n,l')=>((q,x)::h,n,l++l')
def ym (h:HS):Sy×Nat:=match rX 0 h.env with|(e,n,l)=>match AJ 0 n h.heap with|(hp,n,l')=>(⟨e,hp,h.heap.length,l++l'⟩,n)
def CV (μ:List (Option Nat)):List (Nat×Nat)->List (Nat×Nat)->Bool
 |[],[]=>true
 |(i,o)::r,(i',o')::r'=>(match μ[i]? with|some (some j)=>j==i'|_=>false) && o==o' && CV μ r r'
 |_,_=>false
def jU (μ:List (Option Nat)):Sh->SD->Option (List TW)
 |.fK,_=>some []
 |.a,.a x=>some [.c x]
 |.a,.full x=>some [.c x]
 |.full,.full x=>some [.c x]
 |.loc i off,.loc i' off'=>if μ[i]?=some (some i')/\off=off' then some [] else none
 |.arr i,.arr i'=>if μ[i]?=some (some i') then some [] else none
 |.arr i,.full .z=>if μ[i]?=some none then some [] else none
 |.bJ f caps,.bJ f' dA=>if f=f'/\CV μ caps dA=true then some [] else none
 |_,_=>none
def mI (μ:List (Option Nat)):List Sh->List SD->Option (List TW)
 |[],[]=>some []
 |s::ss,d::ds=>(jU μ s d).bind fun x=>(mI μ ss ds).bind fun y=>some (x++y)
 |_,_=>none
def yu (lens:List (Nat×Nat)) (μ:List (Option Nat)):Sh->SD->Option (List TW)
 |.MQ m,.agg ds=>(pz ds).bind fun ax=>if ax.length=m then some [.l (vg lens ax)] else none
 |.agg ss,.agg ds=>mI μ ss ds
 |.MQ _,_=>none
 |.agg _,_=>none
 |s,d=>jU μ s d
def Ie (σ:Sy) (μ:List (Option Nat)):List (Nat×Sh)->Option (List TW)
 |[]=>some []
 |(t,s)::r=>(yu σ.lens μ s (lS σ.env t)).bind fun x=>(Ie σ μ r).bind fun y=>some (x++y)
def ry (σ:Sy) (μ:List (Option Nat)):Option Nat->Nc->Option (List TW)
 |none,.arr _ _ _ false=>some [.c .z]
 |none,_=>none
 |some i,o=>match o,aM σ.heap i with
  |.bg m,.box ds=>(pz ds).bind fun ax=>if ax.length=m then some [.l (vg σ.lens ax)] else none
  |.box ss,.box ds=>mI μ ss ds
  |.arr aa ety fr al,.arr x bU dW fr' al'=>if bU=aa/\dW=ety/\(fr'=true->fr=true)/\(al=true->al'=true) then some [.c x] else none
  |_,_=>none
def Jy (σ:Sy) (μ:List (Option Nat)):List (Option Nat)->List Nc->Option (List TW)
 |[],[]=>some []
 |j::js,o::os=>(ry σ μ j o).bind fun x=>(Jy σ μ js os).bind fun y=>some (x++y)
 |_,_=>none
def U3:List (Nat×Nat)->List (Nat×Nat)->List (Nat×Option Nat)
 |(i,_)::r,(i',_)::r'=>(i,some i')::U3 r r'
 |_,_=>[]
def muC:Sh->SD->List (Nat×Option Nat)
 |.loc i _,.loc i' _=>[(i,some i')]
 |.arr i,.arr i'=>[(i,some i')]
 |.bJ _ caps,.bJ _ dA=>U3 caps dA
 |_,_=>[]
def Xm:List Sh->List SD->List (Nat×Option Nat)
 |s::ss,d::ds=>muC s d++Xm ss ds
 |_,_=>[]
def muD:Sh->SD->List (Nat×Option Nat)
 |.agg ss,.agg ds=>Xm ss ds
 |s,d=>muC s d
def N7:List (Nat×Option Nat)->Nat->Option Nat
 |[],_=>none
 |(i,j)::r,q=>if i=q then j else N7 r q
def muH (h:List (Nat×SO)):List (Nat×Option Nat)->Nat->List Nc->List (Nat×Option Nat)
 |acc,_,[]=>acc
 |acc,q,.box ss::os=>(match N7 acc q with
  |some i=>(match aM h i with
   |.box ds=>muH h (acc++Xm ss ds) (q+1) os
   |_=>muH h acc (q+1) os)
  |none=>muH h acc (q+1) os)
 |acc,q,_::os=>muH h acc (q+1) os
def rQ:List (Option Nat)->List Nat
 |[]=>[]
 |some i::r=>i::rQ r
 |none::r=>rQ r
def EB (μ:List (Option Nat)):Nat->Nat->Bool
 |_,0=>true
 |b,k+1=>(match μ[b]? with|some (some i)=>i==b|_=>false) && EB μ (b+1) k
def pW (k:Nat) (h:HS) (σ:Sy):Option (List TW):=
 let acc:=muH σ.heap ((List.range k).map (fun b=>(b,some b))++h.env.flatMap fun p=>muD p.2 (lS σ.env p.1)) 0 h.heap
 let μ:=(List.range h.heap.length).map (N7 acc)
 if nodupB (rQ μ) && EB μ 0 k then (Ie σ μ h.env).bind fun x=>(Jy σ μ μ h.heap).bind fun y=>some (x++y) else none
structure Cx where
 sig:Nat->Option aN
 heads:List HS
 res:List RP
 rs:List RS
 bl:List Nat
def iZ (k:Nat) (p:List Nat) (σ:Sy):Nat->List HS->Tree
 |_,[]=> .fail
 |i,h::hs=>if h.p=p then (match pW k h σ with
  |some ws=> .goto i ws
  |none=>iZ k p σ (i+1) hs) else iZ k p σ (i+1) hs
def Ir (σ:Sy):List RP->Option (List SD)
 |[]=>some []
 |.tmp t::r=>(Ir σ r).bind fun ds=>(match lS σ.env t with
  |.dB _=>none
  |.fK=>none
  |d=>some (d::ds))
 |.cell t agg size::r=>(match lS σ.env t with
  |.loc i off=>(match aM σ.heap i with
   |.box ds=>(match agg with
    |true=>if off+size<=ds.length then (Ir σ r).bind fun l=>some (.agg ((ds.drop off).take size)::l) else none
    |false=>(ds[off]?).bind fun d=>(Ir σ r).bind fun l=>some (d::l))
   |_=>none)
  |_=>none)
def oF (h:List (Nat×SO)):CK->SD->Option (At×List Nat)
 |.c,.a x=>some (x,[])
 |.c,.full x=>some (x,[])
 |.c,.view i x=>(match aM h i with
  |.arr _ _ _ _ _=>some (x,[])
  |_=>none)
 |.c,.arr i=>(match aM h i with
  |.arr x _ _ _ _=>some (x,[])
  |_=>none)
 |.d,.a x=>some (x,[])
 |.d,.full x=>some (x,[])
 |.full,.full x=>some (x,[])
 |.own aa ety fr al,.arr i=>(match aM h i with
  |.arr x bU dW fr' al'=>if bU=aa/\dW=ety/\(fr'=true->fr=true)/\(al=true->al'=true) then some (x,[i]) else none
  |_=>none)
 |.own _ _ _ false,.full .z=>some (.z,[])
 |_,_=>none
def Br (h:List (Nat×SO)):List CK->List SD->Option (List At×List Nat)
 |[],[]=>some ([],[])
 |k::ks,d::ds=>(oF h k d).bind fun p=>(Br h ks ds).bind fun q=>some (p.1::q.1,p.2++q.2)
 |_,_=>none
def Pt (lens:List (Nat×Nat)) (h:List (Nat×SO)):RS->SD->Option (TV×List Nat)
 |.one k,d=>(oF h k d).bind fun p=>some (.one p.1,p.2)
 |.agg ks,.agg ds=>(Br h ks ds).bind fun p=>some (.agg (vg lens p.1),p.2)
 |_,_=>none
def Aw (lens:List (Nat×Nat)) (h:List (Nat×SO)):List RS->List SD->Option (List TV×List Nat)
 |[],[]=>some ([],[])
 |k::ks,d::ds=>(Pt lens h k d).bind fun p=>(Aw lens h ks ds).bind fun q=>some (p.1::q.1,p.2++q.2)
 |_,_=>none
def Dy (cx:Cx) (σ:Sy):Tree:=
 match Ir σ cx.res with
 |some ds=>(match Aw σ.lens σ.heap cx.rs ds with
  |some (vs,own)=>(match iX σ.lens σ.heap (List.range cx.bl.length) cx.bl with
   |some bs=>if nodupB own then .ret vs bs else .fail
   |none=> .fail)
  |none=> .fail)
 |none=> .fail
inductive Fr where
 |seq (p:List Nat) (b:bC)
 |blk (id:Nat)
 |loop (p:List Nat) (c:bC)
def Cz (cx:Cx) (rec:List Nat->bC->List Fr->Sy->Nat->Kn->Tree):List Fr->Sy->Nat->Kn->Tree
 |[],σ,_,_=>Dy cx σ
 |.seq p b::K,σ,n,kn=>rec p b K σ n kn
 |.blk _::K,σ,n,kn=>Cz cx rec K σ n kn
 |.loop p _::_,σ,_,_=>iZ cx.bl.length p σ 0 cx.heads
def Ag (cx:Cx) (rec:List Nat->bC->List Fr->Sy->Nat->Kn->Tree) (id:Nat):List Fr->Sy->Nat->Kn->Tree
 |[],_,_,_=> .fail
 |.blk id'::K,σ,n,kn=>if id=id' then Cz cx rec K σ n kn else Ag cx rec id K σ n kn
 |.seq _ _::K,σ,n,kn=>Ag cx rec id K σ n kn
 |.loop _ _::K,σ,n,kn=>Ag cx rec id K σ n kn
def l7 (cx:Cx):Nat->List Nat->bC->List Fr->Sy->Nat->Kn->Tree
 |0,_,_,_,_,_,_=> .fail
 |fuel+1,p,c,K,σ,n,kn=>match c with
  |.skip=>Cz cx (l7 cx fuel) K σ n kn
  |.ret=>Dy cx σ
  |.exit id=>Ag cx (l7 cx fuel) id K σ n kn
  |.region is=>jb cx.sig (fun σ n kn=>Cz cx (l7 cx fuel) K σ n kn) is σ n kn
  |.draw is ws=>jG cx.sig (fun σ n kn ts=>if iD ts ws then Cz cx (l7 cx fuel) K σ n kn else .fail) is σ n kn []
  |.mix _ _=> .fail
  |.seq a b=>l7 cx fuel (0::p) a (.seq (1::p) b::K) σ n kn
  |.cond x a b=>nW kn (xS σ x) fun t kn=>match t with
   |true=>l7 cx fuel (0::p) a K σ n kn
   |false=>l7 cx fuel (1::p) b K σ n kn
  |.block id c=>l7 cx fuel (0::p) c (.blk id::K) σ n kn
  |.loop _=>iZ cx.bl.length p σ 0 cx.heads
def dH (B:bC):List Nat->Option (bC×List Fr)
 |[]=>some (B,[])
 |i::q=>(dH B q).bind fun r=>match r.1,i with
  |.seq a b,0=>some (a,.seq (1::q) b::r.2)
  |.seq _ b,1=>some (b,r.2)
  |.cond _ a _,0=>some (a,r.2)
  |.cond _ _ b,1=>some (b,r.2)
  |.block id c,0=>some (c,.blk id::r.2)
  |.loop c,0=>some (c,.loop q c::r.2)
  |_,_=>none
def rq:List PS->Nat->Nat->List (Nat×SD)×Nat×List (Nat×Nat)
 |[],_,n=>([],n,[])
 |.one::ps,t,n=>match rq ps (t+1) (n+1) with|(e,k,l)=>((t,.a (.v n))::e,k,l)
 |.agg m::ps,t,n=>match rq ps (t+1) (n+1) with|(e,k,l)=>((t,.agg ((nk n 0 m).map .a))::e,k,(n,m)::l)
 |.ref b off::ps,t,n=>match rq ps (t+1) n with|(e,k,l)=>((t,.loc b off)::e,k,l)
 |.bJ g caps::ps,t,n=>match rq ps (t+1) n with|(e,k,l)=>((t,.bJ g caps)::e,k,l)
def J7:List Nat->Nat->Nat->List (Nat×SO)×Nat×List (Nat×Nat)
 |[],_,n=>([],n,[])
 |m::ms,b,n=>match J7 ms (b+1) (n+1) with|(h,k,l)=>((b,.box ((nk n 0 m).map .a))::h,k,(n,m)::l)
def IK (s:aN):Sy×Nat:=match rq s.params 0 0 with|(e,n,l)=>match J7 s.boxes 0 n with|(h,n,l')=>(⟨e,h,s.boxes.length,l++l'⟩,n)
def FO (cx:Cx) (fuel:Nat) (B:bC) (h:HS):Tree:=
 match dH B h.p with
 |some (.loop c,K)=>(match ym h with|(σ,n)=>l7 cx fuel (0::h.p) c (.loop h.p c::K) σ n [])
 |_=> .fail
def FM (sig:Nat->Option aN) (fuel:Nat) (s:aN) (hs:List HS) (I:uP):pJ:=
 let cx:Cx:=⟨sig,hs,I.res,s.rs,s.boxes⟩
 ⟨s.params,s.boxes,(match IK s with|(σ,n)=>l7 cx fuel [] I.body [] σ n []),hs.map (FO cx fuel I.body)⟩
structure Nm where
 ρ:List W
 μ:Nat->Option Nat
 hs:List (Nat×SO)
 nx:Nat
def jo (N:Nm):SD->D->Prop
 |.fK,_=>True
 |.a x,d=>∃c,aV N.ρ x=some c/\(d=.c c\/∃cs n,c=.slice cs n/\d=.full cs n)
 |.full x,d=>∃cs n,aV N.ρ x=some (.slice cs n)/\d=.full cs n
 |.loc i off,d=>i < N.nx/\∃j,N.μ i=some j/\d=.loc j off
 |.arr i,d=>i < N.nx/\((∃j len,N.μ i=some j/\d=.arr j 0 len/\∀x aa ety fr al,aM N.hs i=.arr x aa ety fr al->∃cs,aV N.ρ x=some (.slice cs len))\/
   (N.μ i=none/\∃cs n,d=.full cs n/\∀x aa ety fr al,aM N.hs i=.arr x aa ety fr al->aV N.ρ x=some (.slice cs n)))
 |.view i x,d=>i < N.nx/\∃cs len,aV N.ρ x=some (.slice cs len)/\(d=.c (.slice cs len)\/∃j off,N.μ i=some j/\d=.arr j off len/\
   ∀y aa ety fr al,aM N.hs i=.arr y aa ety fr al->fr=true/\∃ys n,aV N.ρ y=some (.slice ys n)/\off+len * aa<=ys.length/\cs=(ys.drop off).take (len * aa))
 |.gU i x off,d=>i < N.nx/\∃kd k,aV N.ρ x=some (.lit (.int kd k))/\0<=k/\((∃j o,N.μ i=some j/\d=.loc j o/\∀y aa ety fr al,aM N.hs i=.arr y aa ety fr al->o=k.toNat * aa+off)\/
   (N.μ i=none/\∃cs,d=.ptr cs/\∀y aa ety fr al,aM N.hs i=.arr y aa ety fr al->∃ys n,aV N.ρ y=some (.slice ys n)/\cs=ys.drop (k.toNat * aa+off)))
 |.ptr r off aa,d=>∃xs rest,eu N.ρ r=some (.l xs)/\xs.length=aa/\d=.ptr ((xs++rest).drop off)
 |.bJ f caps,d=>∃dA:List (Nat×Nat),d=.bJ f dA/\aj (fun p q:Nat×Nat=>p.1 < N.nx/\N.μ p.1=some q.1/\q.2=p.2) caps dA
 |.agg _,_=>False
 |.dB _,_=>False
def RA (N:Nm):SD->D->Prop
 |.agg ds,d=>∃ds',d=.agg ds'/\aj (jo N) ds ds'
 |sd,d=>jo N sd d
def RD (N:Nm):SD->D->Prop
 |.dB ds,d=>∃ds',d=.dB ds'/\aj (RA N) ds ds'
 |sd,d=>RA N sd d
theorem jo.toA {N:Nm} {sd:SD} {d:D} (h:jo N sd d):RA N sd d:=by cases sd<;>first|exact h|exact h.elim
theorem RA.fM {N:Nm} {sd:SD} {d:D} (h:RA N sd d):RD N sd d:=by cases sd<;>first|exact h|exact False.elim h
theorem jo.fM {N:Nm} {sd:SD} {d:D} (h:jo N sd d):RD N sd d:=h.toA.fM
structure fG (N N':Nm):Prop where
 at_:∀x c,aV N.ρ x=some c->aV N'.ρ x=some c
 row:∀r w,eu N.ρ r=some w->eu N'.ρ r=some w
 nx:N.nx<=N'.nx
 mu:∀i,i < N.nx->N'.μ i=N.μ i
 arr:∀i y' aa ety fr' al',i < N.nx->aM N'.hs i=.arr y' aa ety fr' al'->∃y fr al,aM N.hs i=.arr y aa ety fr al/\(fr=true->fr'=true)/\
  ∀cs n,aV N.ρ y=some (.slice cs n)->∃cs',aV N'.ρ y'=some (.slice cs' n)/\(fr=true\/N.μ i=none->cs'=cs)
theorem fG.refl (N:Nm):fG N N:=
 ⟨fun _ _ h=>h,fun _ _ h=>h,Nat.le_refl _,fun _ _=>rfl,fun _ y' _ _ fr' al' _ h=>⟨y',fr',al',h,id,fun cs _ hc=>⟨cs,hc,fun _=>rfl⟩⟩⟩
theorem fG.trans {N N' N'':Nm} (h:fG N N') (k:fG N' N''):fG N N'' where
 at_ x c hx:=k.at_ x c (h.at_ x c hx)
 row r w hr:=k.row r w (h.row r w hr)
 nx:=Nat.le_trans h.nx k.nx
 mu i hi:=by rw [k.mu i (Nat.lt_of_lt_of_le hi h.nx),h.mu i hi]
 arr i y' aa ety fr' al' hi hg:=by
  obtain ⟨y1,fr1,al1,h1,h2,h3⟩:=k.arr i y' aa ety fr' al' (Nat.lt_of_lt_of_le hi h.nx) hg;obtain ⟨y,fr,al,h4,h5,h6⟩:=h.arr i y1 aa ety fr1 al1 hi h1;refine ⟨y,fr,al,h4,fun e=>h2 (h5 e),fun cs n hc=>?_⟩
  obtain ⟨cs1,h7,h8⟩:=h6 cs n hc;obtain ⟨cs2,h9,h10⟩:=h3 cs1 n h7;refine ⟨cs2,h9,fun he=>?_⟩
  rw [h10 (he.imp h5 fun e=>by rw [h.mu i hi];exact e),h8 he]
section
variable {N N':Nm} (h:fG N N')
include h
theorem fG.dc {sd:SD} {d:D} (hr:jo N sd d):jo N' sd d:=by
 cases sd with
 |fK=>trivial
 |a x=>obtain ⟨c,h1,h2⟩:=hr;exact ⟨c,h.at_ x c h1,h2⟩
 |full x=>obtain ⟨cs,n,h1,h2⟩:=hr;exact ⟨cs,n,h.at_ x _ h1,h2⟩
 |loc i off=>obtain ⟨h0,j,h1,h2⟩:=hr;exact ⟨Nat.lt_of_lt_of_le h0 h.nx,j,by rw [h.mu i h0];exact h1,h2⟩
 |arr i=>
  obtain ⟨h0,hr⟩:=hr;refine ⟨Nat.lt_of_lt_of_le h0 h.nx,?_⟩;rcases hr with ⟨j,len,h1,h2,h3⟩|⟨h1,cs,n,h2,h3⟩
  ·refine .inl ⟨j,len,by rw [h.mu i h0];exact h1,h2,fun x aa ety fr al hg=>?_⟩
   obtain ⟨y,RX,VC,h4,_,h6⟩:=h.arr i x aa ety fr al h0 hg;obtain ⟨cs,h7⟩:=h3 _ _ _ _ _ h4;obtain ⟨cs',h8,_⟩:=h6 _ _ h7;exact ⟨cs',h8⟩
  ·refine .inr ⟨by rw [h.mu i h0];exact h1,cs,n,h2,fun x aa ety fr al hg=>?_⟩
   obtain ⟨y,RX,VC,h4,_,h6⟩:=h.arr i x aa ety fr al h0 hg;obtain ⟨cs',h8,h9⟩:=h6 _ _ (h3 _ _ _ _ _ h4);rw [h8,h9 (.inr h1)]
 |view i x=>
  obtain ⟨h0,cs,len,h1,hr⟩:=hr;refine ⟨Nat.lt_of_lt_of_le h0 h.nx,cs,len,h.at_ _ _ h1,?_⟩;rcases hr with hr|⟨j,off,h2,h3,h4⟩
  ·exact .inl hr
  ·refine .inr ⟨j,off,by rw [h.mu i h0];exact h2,h3,fun y aa ety fr al hg=>?_⟩
   obtain ⟨y0,RX,VC,h5,h6,h7⟩:=h.arr i y aa ety fr al h0 hg;obtain ⟨h8,ys,n,h9,h10,h11⟩:=h4 _ _ _ _ _ h5;obtain ⟨cs',h12,h13⟩:=h7 _ _ h9;exact ⟨h6 h8,ys,n,by rw [h12,h13 (.inl h8)],h10,h11⟩
 |gU i x off=>
  obtain ⟨h0,kd,k,h1,h2,hr⟩:=hr;refine ⟨Nat.lt_of_lt_of_le h0 h.nx,kd,k,h.at_ _ _ h1,h2,?_⟩;rcases hr with ⟨j,o,h3,h4,h5⟩|⟨h3,cs,h4,h5⟩
  ·refine .inl ⟨j,o,by rw [h.mu i h0];exact h3,h4,fun y aa ety fr al hg=>?_⟩
   obtain ⟨y0,RX,VC,h6,_,_⟩:=h.arr i y aa ety fr al h0 hg;exact h5 _ _ _ _ _ h6
  ·refine .inr ⟨by rw [h.mu i h0];exact h3,cs,h4,fun y aa ety fr al hg=>?_⟩
   obtain ⟨y0,RX,VC,h6,_,h7⟩:=h.arr i y aa ety fr al h0 hg;obtain ⟨ys,n,h8,h9⟩:=h5 _ _ _ _ _ h6;obtain ⟨cs',h10,h11⟩:=h7 _ _ h8;exact ⟨ys,n,by rw [h10,h11 (.inr h3)],h9⟩
 |ptr r off aa=>obtain ⟨xs,rest,h1,h2,h3⟩:=hr;exact ⟨xs,rest,h.row _ _ h1,h2,h3⟩
 |bJ f caps=>
  obtain ⟨dA,h1,h2⟩:=hr;exact ⟨dA,h1,h2.mono fun p q ⟨k1,k2,k3⟩=>⟨Nat.lt_of_lt_of_le k1 h.nx,by rw [h.mu _ k1];exact k2,k3⟩⟩
 |agg ds=>exact hr.elim
 |dB ds=>exact hr.elim
theorem fG.ra {sd:SD} {d:D} (hr:RA N sd d):RA N' sd d:=by
 cases sd with
 |agg ds=>obtain ⟨ds',h1,h2⟩:=hr;exact ⟨ds',h1,h2.mono fun _ _=>h.dc⟩
 |fK=>exact (h.dc (sd:=(.fK)) hr).toA
 |a x=>exact (h.dc (sd:=(.a x)) hr).toA
 |full x=>exact (h.dc (sd:=(.full x)) hr).toA
 |loc i off=>exact (h.dc (sd:=(.loc i off)) hr).toA
 |arr i=>exact (h.dc (sd:=(.arr i)) hr).toA
 |view i x=>exact (h.dc (sd:=(.view i x)) hr).toA
 |gU i x off=>exact (h.dc (sd:=(.gU i x off)) hr).toA
 |ptr q off aa=>exact (h.dc (sd:=(.ptr q off aa)) hr).toA
 |bJ f caps=>exact (h.dc (sd:=(.bJ f caps)) hr).toA
 |dB ds=>exact (h.dc (sd:=(.dB ds)) hr).toA
theorem fG.rd {sd:SD} {d:D} (hr:RD N sd d):RD N' sd d:=by
 cases sd with
 |dB ds=>obtain ⟨ds',h1,h2⟩:=hr;exact ⟨ds',h1,h2.mono fun _ _=>h.ra⟩
 |fK=>exact (h.ra (sd:=(.fK)) hr).fM
 |a x=>exact (h.ra (sd:=(.a x)) hr).fM
 |full x=>exact (h.ra (sd:=(.full x)) hr).fM
 |loc i off=>exact (h.ra (sd:=(.loc i off)) hr).fM
 |arr i=>exact (h.ra (sd:=(.arr i)) hr).fM
 |view i x=>exact (h.ra (sd:=(.view i x)) hr).fM
 |gU i x off=>exact (h.ra (sd:=(.gU i x off)) hr).fM
 |ptr q off aa=>exact (h.ra (sd:=(.ptr q off aa)) hr).fM
 |bJ f caps=>exact (h.ra (sd:=(.bJ f caps)) hr).fM
 |agg ds=>exact (h.ra (sd:=(.agg ds)) hr).fM
end
def Du (N:Nm) (h:Heap) (i:Nat):SO->Prop
 |.dead=>True
 |.box ds=>∃j ds',N.μ i=some j/\af h j=.box ds'/\aj (jo N) ds ds'
 |.arr x aa ety fr al=>∃cs n,aV N.ρ x=some (.slice cs n)/\cs.length=n * aa/\
   ((∃j fz,N.μ i=some j/\af h j=.arr cs aa fz ety/\0 < aa/\fz<=cs.length/\(fr=false->fz=0))\/(N.μ i=none/\al=false/\(fr=false->cs=[]/\n=0)))
structure Bs where
 h0:Heap
 k0:Nat
 ai:List Nat
structure Rm (b:Bs) (N:Nm) (h:Heap) (k:Nat) (lens:List (Nat×Nat)):Prop where
 obj:∀i,Du N h i (aM N.hs i)
 inj:∀i i' j,i < N.nx->i' < N.nx->N.μ i=some j->N.μ i'=some j->i=i'
 lt:∀i j,i < N.nx->N.μ i=some j->j < k
 dom:∀i,N.nx<=i->aM N.hs i=.dead
 base:∀i j,i < N.nx->N.μ i=some j->b.k0<=j\/j∈b.ai
 frame:∀j,j < b.k0->j ∉ b.ai->af h j=af b.h0 j
 le:b.k0<=k
 lens:∀i m,(i,m)∈lens->∃xs,eu N.ρ i=some (.l xs)/\xs.length=m
theorem aZ (i:Nat) (o:SO) (h:List (Nat×SO)) (j:Nat):aM ((i,o)::h) j=if i=j then o else aM h j:=rfl
theorem Du.mono {N N':Nm} (hv:fG N N') {h h':Heap} {i:Nat} (hi:i < N.nx) (hh:∀j,N.μ i=some j->af h' j=af h j) {o:SO} (hr:Du N h i o):Du N' h' i o:=by
 cases o with
 |dead=>trivial
 |box ds=>
  obtain ⟨j,ds',h1,h2,h3⟩:=hr;exact ⟨j,ds',by rw [hv.mu i hi];exact h1,by rw [hh j h1];exact h2,h3.mono fun _ _=>hv.dc⟩
 |arr x aa ety fr al=>
  obtain ⟨cs,n,h1,h2,h3⟩:=hr;refine ⟨cs,n,hv.at_ _ _ h1,h2,?_⟩;rcases h3 with ⟨j,fz,h4,h5,h6,h7⟩|⟨h4,h5⟩
  ·exact .inl ⟨j,fz,by rw [hv.mu i hi];exact h4,by rw [hh j h4];exact h5,h6,h7⟩
  ·exact .inr ⟨by rw [hv.mu i hi];exact h4,h5⟩
theorem Rm.Vb {b:Bs} {N:Nm} {h:Heap} {k:Nat} {lens:List (Nat×Nat)} (hm:Rm b N h k lens) {i:Nat} (hd:aM N.hs i≠.dead):i < N.nx:=
 Nat.lt_of_not_le fun hle=>hd (hm.dom i hle)
theorem lY {ρ ws:List W} {i:Nat} {w:W} (h:eu ρ i=some w):eu (ρ++ws) i=some w:=by
 induction ρ generalizing i with
 |nil=>cases h
 |cons a r ih=>cases i with
  |zero=>exact h
  |succ i=>exact ih h
theorem gD (ρ:List W) (w:W) (ws:List W):eu (ρ++w::ws) ρ.length=some w:=by
 induction ρ with
 |nil=>rfl
 |cons a r ih=>exact ih
theorem dF {ρ ws:List W} {x:At} {c:C} (h:aV ρ x=some c):aV (ρ++ws) x=some c:=by
 cases x with
 |v i=>
  simp only [aV] at h |-;cases hg:eu ρ i with
  |none=>rw [hg] at h;cases h
  |some w=>rw [lY hg];rw [hg] at h;exact h
 |n i j=>
  simp only [aV] at h |-;cases hg:eu ρ i with
  |none=>rw [hg] at h;cases h
  |some w=>rw [lY hg];rw [hg] at h;exact h
 |k v=>exact h
 |z=>exact h
def Nm.ext (N:Nm) (ws:List W):Nm:={ N with ρ:=N.ρ++ws}
theorem gu (N:Nm) (ws:List W):fG N (N.ext ws):=
 ⟨fun _ _ h=>dF h,fun _ _ h=>lY h,Nat.le_refl _,fun _ _=>rfl,fun _ y' _ _ fr' al' _ h=>⟨y',fr',al',h,id,fun cs _ hc=>⟨cs,dF hc,fun _=>rfl⟩⟩⟩
theorem Rm.ext {b:Bs} {N:Nm} {h:Heap} {k:Nat} {lens:List (Nat×Nat)} (hm:Rm b N h k lens) (ws:List W):Rm b (N.ext ws) h k lens where
 obj i:=by
  by_cases hi:i < N.nx
  ·exact (hm.obj i).mono (gu N ws) hi fun _ _=>rfl
  ·show Du _ h i (aM N.hs i);rw [hm.dom i (Nat.le_of_not_lt hi)];trivial
 inj:=hm.inj
 lt:=hm.lt
 dom:=hm.dom
 base:=hm.base
 frame:=hm.frame
 le:=hm.le
 lens i m hi:=by obtain ⟨xs,h1,h2⟩:=hm.lens i m hi;exact ⟨xs,lY h1,h2⟩
theorem Rm.tick {b:Bs} {N:Nm} {h:Heap} {k k':Nat} {lens:List (Nat×Nat)} (hm:Rm b N h k lens) (hk:k<=k'):Rm b N h k' lens:=
 { hm with lt:=fun i j h1 h2=>Nat.lt_of_lt_of_le (hm.lt i j h1 h2) hk,le:=Nat.le_trans hm.le hk}
theorem Rm.lens' {b:Bs} {N:Nm} {h:Heap} {k:Nat} {lens:List (Nat×Nat)} (hm:Rm b N h k lens) {l:List (Nat×Nat)} (hl:∀i m,(i,m)∈l->∃xs,eu N.ρ i=some (.l xs)/\xs.length=m):Rm b N h k l:=
 { hm with lens:=hl}
def Nm.set (N:Nm) (i:Nat) (o:SO):Nm:={ N with hs:=(i,o)::N.hs}
theorem Rm.set {b:Bs} {N:Nm} {h:Heap} {k:Nat} {lens:List (Nat×Nat)} (hm:Rm b N h k lens) {i:Nat} (hi:i < N.nx) {o':SO} {h':Heap}
  (hoth:∀j,N.μ i≠some j->af h' j=af h j)
  (harr:∀y' aa ety fr' al',o'=.arr y' aa ety fr' al'->∃y fr al,aM N.hs i=.arr y aa ety fr al/\(fr=true->fr'=true)/\
   ∀cs n,aV N.ρ y=some (.slice cs n)->∃cs',aV N.ρ y'=some (.slice cs' n)/\(fr=true\/N.μ i=none->cs'=cs))
  (jh:fG N (N.set i o')->Du (N.set i o') h' i o'):fG N (N.set i o')/\Rm b (N.set i o') h' k lens:=by
 have hv:fG N (N.set i o'):=by
  refine ⟨fun _ _ h=>h,fun _ _ h=>h,Nat.le_refl _,fun _ _=>rfl,fun q y' aa ety fr' al' hq hg=>?_⟩
  simp only [Nm.set,aZ] at hg |-;by_cases he:i=q
  ·subst he;rw [if_pos rfl] at hg;exact harr _ _ _ _ _ hg
  ·rw [if_neg he] at hg;exact ⟨y',fr',al',hg,id,fun cs _ hc=>⟨cs,hc,fun _=>rfl⟩⟩
 refine ⟨hv,fun q=>?_,hm.inj,hm.lt,fun q hq=>?_,hm.base,fun j h1 h2=>?_,hm.le,hm.lens⟩
 ·show Du (N.set i o') h' q (aM ((i,o')::N.hs) q)
  rw [aZ];by_cases he:i=q
  ·subst he;rw [if_pos rfl];exact jh hv
  ·rw [if_neg he];by_cases hq:q < N.nx
   ·exact (hm.obj q).mono hv hq fun j hj=>hoth j fun e=>he (hm.inj i q j hi hq e hj)
   ·rw [hm.dom q (Nat.le_of_not_lt hq)];trivial
 ·show aM ((i,o')::N.hs) q=.dead
  have hq':N.nx<=q:=hq;rw [aZ,if_neg (by omega)]
  exact hm.dom q hq
 ·rw [hoth j fun e=>?_]
  ·exact hm.frame j h1 h2
  ·rcases hm.base i j hi e with h3|h3
   ·omega
   ·exact h2 h3
def Nm.new (N:Nm) (j:Option Nat) (o:SO):Nm:=⟨N.ρ,fun i=>if i=N.nx then j else N.μ i,(N.nx,o)::N.hs,N.nx+1⟩
theorem Rm.new {b:Bs} {N:Nm} {h:Heap} {k:Nat} {lens:List (Nat×Nat)} (hm:Rm b N h k lens) {j:Option Nat} {o:SO} {h':Heap} (hj:j=none\/j=some k)
  (hoth:∀q,q≠k->af h' q=af h q) (jh:fG N (N.new j o)->Du (N.new j o) h' N.nx o):fG N (N.new j o)/\Rm b (N.new j o) h' (k+1) lens:=by
 have hv:fG N (N.new j o):=by
  refine ⟨fun _ _ h=>h,fun _ _ h=>h,Nat.le_succ _,fun i hi=>?_,fun q y' aa ety fr' al' hq hg=>?_⟩
  ·show (if i=N.nx then j else N.μ i)=N.μ i
   rw [if_neg (by omega)]
  ·simp only [Nm.new,aZ] at hg;rw [if_neg (by omega)] at hg
   exact ⟨y',fr',al',hg,id,fun cs _ hc=>⟨cs,hc,fun _=>rfl⟩⟩
 have hmu:∀i q,i < N.nx+1->(N.new j o).μ i=some q->(i=N.nx/\q=k)\/(i < N.nx/\N.μ i=some q):=by
  intro i q hi hq;by_cases he:i=N.nx
  ·have hq':j=some q:=by simpa [Nm.new,he] using hq
   rcases hj with rfl|rfl
   ·cases hq'
   ·injection hq' with hq';exact .inl ⟨he,hq'.symm⟩
  ·have hq':N.μ i=some q:=by simpa [Nm.new,he] using hq
   exact .inr ⟨by omega,hq'⟩
 refine ⟨hv,fun q=>?_,fun i i' q h1 h2 h3 h4=>?_,fun i q h1 h2=>?_,fun q hq=>?_,fun i q h1 h2=>?_,fun q h1 h2=>?_,Nat.le_succ_of_le hm.le,hm.lens⟩
 ·show Du (N.new j o) h' q (aM ((N.nx,o)::N.hs) q)
  rw [aZ];by_cases he:N.nx=q
  ·subst he;rw [if_pos rfl];exact jh hv
  ·rw [if_neg he];by_cases hq:q < N.nx
   ·exact (hm.obj q).mono hv hq fun p hp=>hoth p (by have:=hm.lt q p hq hp;omega)
   ·rw [hm.dom q (Nat.le_of_not_lt hq)];trivial
 ·rcases hmu i q h1 h3 with ⟨a1,a2⟩|⟨a1,a2⟩<;>rcases hmu i' q h2 h4 with ⟨b1,b2⟩|⟨b1,b2⟩
  ·omega
  ·have:=hm.lt _ _ b1 b2;omega
  ·have:=hm.lt _ _ a1 a2;omega
  ·exact hm.inj i i' q a1 b1 a2 b2
 ·rcases hmu i q h1 h2 with ⟨_,a2⟩|⟨a1,a2⟩
  ·omega
  ·have:=hm.lt _ _ a1 a2;omega
 ·show aM ((N.nx,o)::N.hs) q=.dead
  have hq':N.nx+1<=q:=hq;rw [aZ,if_neg (by omega)]
  exact hm.dom q (by omega)
 ·rcases hmu i q h1 h2 with ⟨_,a2⟩|⟨a1,a2⟩
  ·left;have:=hm.le;omega
  ·exact hm.base i q a1 a2
 ·rw [hoth q (by have:=hm.le;omega)]
  exact hm.frame q h1 h2
theorem uG {ρ:List W}:∀{ax:List At} {xs:List C},iM ρ ax=some xs->xs.length=ax.length
 |[],xs,h=>by simp only [iM,Option.some.injEq] at h;subst h;rfl
 |a::ax,xs,h=>by simp only [iM,Option.bind_eq_some_iff,Option.some.injEq] at h;obtain ⟨x,_,ys,h2,rfl⟩:=h;simp [uG h2]
theorem kM (xs:List C) (j:Nat) (h:j < xs.length):bG xs j=xs[j]:=by
 induction xs generalizing j with
 |nil=>simp at h
 |cons a r ih=>cases j with
  |zero=>rfl
  |succ j=>exact ih j (by simpa using h)
theorem CZ {ρ:List W} {i:Nat} {xs:List C} (hw:eu ρ i=some (.l xs)):∀(ax:List At) (j:Nat),sK i j ax=true->j+ax.length=xs.length->iM ρ ax=some (xs.drop j)
 |[],j,_,hl=>by simp only [List.length_nil] at hl;simp only [iM];rw [List.drop_of_length_le (by omega)]
 |a::r,j,hn,hl=>by
  cases a with
  |n i' j'=>
   simp only [sK,Bool.and_eq_true,beq_iff_eq] at hn;obtain ⟨⟨rfl,rfl⟩,hn⟩:=hn;have hlt:j' < xs.length:=by simp at hl;omega
   simp only [iM,aV,hw,Option.bind_some];rw [CZ hw r (j'+1) hn (by simp at hl;omega)]
   simp only [Option.bind_some,Option.some.injEq];rw [kM xs j' hlt];exact (List.drop_eq_getElem_cons hlt).symm
  |v i=>simp [sK] at hn
  |k v=>simp [sK] at hn
  |z=>simp [sK] at hn
theorem qM {b:Bs} {N:Nm} {h:Heap} {k:Nat} {lens:List (Nat×Nat)} (hm:Rm b N h k lens) (ax:List At):Dn N.ρ (vg lens ax)=iM N.ρ ax:=by
 unfold vg;split
 ·rename_i i r;split
  ·rename_i hc;simp only [Bool.and_eq_true,OP,List.any_eq_true,beq_iff_eq] at hc;obtain ⟨h1,p,h2,h3,h4⟩:=hc;obtain ⟨xs,h5,h6⟩:=hm.lens p.1 p.2 h2;rw [h3] at h5;have:=CZ h5 _ 0 h1 (by omega)
   rw [this];simp [Dn,h5]
  ·rfl
 ·rfl
theorem qb {N:Nm}:∀{ds:List SD} {ds':List D} {ax:List At},aj (jo N) ds ds'->pz ds=some ax->∃xs,iM N.ρ ax=some xs/\aj (fun c d=>d=.c c\/∃cs n,c=.slice cs n/\d=.full cs n) xs ds'
 |[],[],ax,_,h=>by simp only [pz,Option.some.injEq] at h;subst h;exact ⟨[],rfl,trivial⟩
 |sd::ds,d::ds',ax,hr,h=>by
  cases sd with
  |a x=>
   simp only [pz,Option.bind_eq_some_iff,Option.some.injEq] at h;obtain ⟨as',h1,rfl⟩:=h;obtain ⟨xs,h2,h3⟩:=qb hr.2 h1;obtain ⟨c,h4,h5⟩:=hr.1;exact ⟨c::xs,by simp [iM,h4,h2],h5,h3⟩
  |_=>simp [pz] at h
 |[],_::_,_,hr,_=>hr.elim
 |_::_,[],_,hr,_=>hr.elim
end Go.Ey
