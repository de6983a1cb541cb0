/- A part. -/
import Derived.Test.YtolnnaanmfnkjaaGreatDoorZ03
import Derived.Laws.Append
import Derived.Laws.OwnMore
import Derived.WalkKit
set_option linter.all false
namespace Go.Ey
open RowKit
section
variable {w:World} {Sf:Nat->Nat->Prop}
theorem Hz:∀{cs:List C} {us:List Value} {b o:Nat},av (bJ w Sf) cs us->(∀i u,us[i]?=some u->w.cell? ⟨b,o+i,none⟩=some u/\Sf b (o+i))->fo w Sf cs b o
 |[],[],_,_,_,_=>by simp [fo]
 |c::cs,u::us,b,o,h,hc=>by
  simp only [fo];obtain ⟨h1,h2⟩:=hc 0 u (by simp)
  refine ⟨⟨u,by simpa using h1,by simpa using h2,h.1⟩,Hz h.2 fun i v hv=>?_⟩
  have:=hc (i+1) v (by simpa using hv)
  rw [show o+1+i=o+(i+1) by omega]
  exact this
 |[],_::_,_,_,h,_=>h.elim
 |_::_,[],_,_,h,_=>h.elim
theorem E8:∀{cs:List C} {b o:Nat},fo w Sf cs b o->∃us:List Value,av (bJ w Sf) cs us/\(∀i u,us[i]?=some u->w.cell? ⟨b,o+i,none⟩=some u/\Sf b (o+i))
 |[],_,_,_=>⟨[],trivial,by simp⟩
 |c::cs,b,o,h=>by
  simp only [fo] at h;obtain ⟨⟨u,h1,h2,h3⟩,h4⟩:=h;obtain ⟨us,h5,h6⟩:=E8 h4;refine ⟨u::us,⟨h3,h5⟩,fun i v hv=>?_⟩
  cases i with
  |zero=>simp at hv;subst hv;exact ⟨by simpa using h1,by simpa using h2⟩
  |succ i=>
   have:=h6 i v (by simpa using hv)
   rw [show o+(i+1)=o+1+i by omega]
   exact this
theorem zk:∀(n:Nat) {cs:List C} {b o:Nat},fo w Sf cs b o->fo w Sf (cs.drop n) b (o+n)
 |0,_,_,_,h=>by simpa using h
 |n+1,[],_,_,_=>by simp [fo]
 |n+1,c::cs,b,o,h=>by
  simp only [fo] at h;have:=zk n h.2
  simp only [List.drop_succ_cons];rw [show o+(n+1)=o+1+n by omega]
  exact this
theorem Gr:∀(n:Nat) {cs:List C} {b o:Nat},fo w Sf cs b o->fo w Sf (cs.take n) b o
 |0,_,_,_,_=>by simp [fo]
 |n+1,[],_,_,_=>by simp [fo]
 |n+1,c::cs,b,o,h=>by simp only [fo,L3] at h |-;exact ⟨h.1,Gr n h.2⟩
theorem bJ.oneCell {c:C} {u:Value} (h:bJ w Sf c u):u.oneCell'=true:=by
 cases c with
 |lit v=>
  simp only [bJ] at h;obtain ⟨rfl,h⟩:=h;unfold scalar at h;split at h<;>first|rfl|cases h
 |slice cs n=>
  simp only [bJ] at h;rcases h with ⟨rfl,_⟩|⟨a,cap,rfl,_⟩
  ·rfl
  ·rfl
end
theorem av.mem_right {α β:Type} {R:α->β->Prop} {p:β->Prop} (h:∀a b,R a b->p b):∀{aJ:List α} {bs:List β},av R aJ bs->∀b∈bs,p b
 |[],[],_,_,hb=>by simp at hb
 |_::_,_::_,h1,b,hb=>by
  simp only [D2] at hb;rcases hb with rfl|hb
  ·exact h _ _ h1.1
  ·exact av.mem_right h h1.2 b hb
 |[],_::_,h1,_,_=>h1.elim
 |_::_,[],h1,_,_=>h1.elim
section
variable {B:Nat} {S:Nat->Nat->Prop}
def M.grow (m:M) (slot:Nat):M:=⟨m.w,m.h,m.β,fun i=>m.U i\/i=slot⟩
theorem fD (m:M) (slot:Nat):aB B S m (m.grow slot):=
 ⟨fun _ _ _ h1 h2=>⟨h1,h2⟩,fun _ h=> .inl h,fun _ _ h=>h,fun _ _=>rfl,fun _ cs' _ nG _ _ h=>⟨cs',nG,h,rfl⟩,fun _ _ _ h=>⟨rfl,h⟩⟩
theorem vT {m:M} (hk:fu B S m) (slot:Nat):fu B S (m.grow slot):=by
 refine ⟨fun id=>?_,hk.inj,fun id h=>hk.dom id fun hu=>h (.inl hu),hk.base,hk.fresh,hk.Pb⟩
 exact (fD m slot).KT rfl (hk.obj id)
theorem fu.arr {m:M} (hk:fu B S m) {id:Nat} {cs:List C} {aj fz ety:Nat} (ho:ax m.h id=.arr cs aj fz ety):
  B<=m.β id/\∃us:List Value,m.w.heap[m.β id]?=some (.cells us.toArray ety (0,0))/\cs.length<=us.length/\av (bJ m.w (Safe B S m)) cs (us.take cs.length):=by
 have h:=hk.obj id;unfold Kh at h;rw [ho] at h;exact h
theorem fu.box {m:M} (hk:fu B S m) {id:Nat} {ds:List D} (ho:ax m.h id=.box ds):
  B<=m.β id/\∃(us:List Value) (e:TypeId),m.w.heap[m.β id]?=some (.cells us.toArray e (0,0))/\av (fA B S m) ds us:=by
 have h:=hk.obj id;unfold Kh at h;rw [ho] at h;exact h
theorem jw {w:World} {b o:Nat} {us:List Value} {e:TypeId} {fr:Nat×Nat} (h:w.heap[b]?=some (.cells us.toArray e fr)):w.cell? ⟨b,o,none⟩=us[o]?:=by simp [World.cell?,h]
def M.heap (m:M) (h:Heap):M:=⟨m.w,h,m.β,m.U⟩
theorem M8 {m:M} (hk:fu B S m) {id:Nat} {cs:List C} {aj fz ety nG:Nat} (ho:ax m.h id=.arr cs aj fz ety) (hf:fz<=nG):
  aB B S m (m.heap ((id,.arr cs aj nG ety)::m.h)):=
 vU hk ho (o':=.arr cs aj nG ety) (w':=m.w) ⟨rfl,rfl,hf⟩ (fun _ _=>rfl) (fun _ _ _ h=>h) rfl
theorem akc {m:M} (hk:fu B S m) {id:Nat} {cs:List C} {aj fz ety nG:Nat} (ho:ax m.h id=.arr cs aj fz ety) (hf:fz<=nG):
  fu B S (m.heap ((id,.arr cs aj nG ety)::m.h)):=by
 have hev:=M8 hk ho hf;refine Ho hk (w':=m.w) (by rw [ho];simp) hev (fun _ _=>rfl) (An _) ?_
 obtain ⟨h1,us,h2,h3,h4⟩:=hk.arr ho;exact ⟨h1,us,h2,h3,h4.mono fun x u h5=>bJ.mono hev.cell x u h5⟩
theorem Tz {m:M} (hk:fu B S m) {d:D} {u:Value} (hr:fA B S m d u) {c:C} {us:List (Nat×Obj)} (hf:nP m.h d=some (c,us)):
  fu B S (m.heap (ay m.h us))/\aB B S m (m.heap (ay m.h us))/\bJ m.w (Safe B S (m.heap (ay m.h us))) c u:=by
 cases d with
 |c x=>
  simp only [nP,A0,A3] at hf;obtain ⟨rfl,rfl⟩:=hf;exact ⟨hk,aB.refl m,hr⟩
 |arr id off len=>
  simp only [nP] at hf;obtain ⟨hu,ad,cap,hv,hcap,hr⟩:=hr;cases ho:ax m.h id with
  |dead=>rw [ho] at hf;cases hf
  |box ds=>rw [ho] at hf;cases hf
  |map ds=>rw [ho] at hf;cases hf
  |arr cs aj fz ety=>
   rw [ho] at hf hr;simp only at hf hr;split at hf
   case isFalse=>cases hf
   rename_i hlen;simp only [A0,A3] at hf;obtain ⟨rfl,rfl⟩:=hf;obtain ⟨hB,vs,hv1,hv2,hv3⟩:=hk.arr ho;have key:∃nG,off+len * aj<=nG/\fu B S (m.heap (ay m.h (if off+len * aj<=fz then [] else [(id,.arr cs aj (off+len * aj) ety)])))/\
     aB B S m (m.heap (ay m.h (if off+len * aj<=fz then [] else [(id,.arr cs aj (off+len * aj) ety)])))/\
     ax (ay m.h (if off+len * aj<=fz then [] else [(id,.arr cs aj (off+len * aj) ety)])) id=.arr cs aj nG ety:=by
    by_cases hz:off+len * aj<=fz
    ·rw [C6 hz];exact ⟨fz,hz,hk,aB.refl m,ho⟩
    ·rw [E0 hz];exact ⟨off+len * aj,An _,akc hk ho (by omega),M8 hk ho (by omega),by simp [ay,bu]⟩
   obtain ⟨nG,hz1,hk',hev,ho'⟩:=key;refine ⟨hk',hev,?_⟩;generalize (if off+len * aj<=fz then [] else [(id,Obj.arr cs aj (off+len * aj) ety)])=us at *
   simp only [bJ];have hsub:∀i c,((cs.drop off).take (len * aj))[i]?=some c->i < len * aj:=by
    intro i c h;have:=(As.1 h).1
    simp at this;omega
   have hall:av (bJ m.w (Safe B S (m.heap (ay m.h us)))) ((cs.drop off).take (len * aj)) (((vs.take cs.length).drop off).take (len * aj)):=
    ((hv3.mono fun x u h5=>bJ.mono hev.cell x u h5).drop off).take _
   have hcs:fo m.w (Safe B S (m.heap (ay m.h us))) ((cs.drop off).take (len * aj)) (m.β id) off:=by
    refine Hz hall fun i u hi=>?_
    have hi2:i < len * aj:=by
     have:=(As.1 hi).1
     simp at this;omega
    have hi3:vs[off+i]?=some u:=by
     rw [Fc hi2,M1,Fc (by omega)] at hi
     exact hi
    refine ⟨by rw [jw hv1];exact hi3,hk.Pb id cs aj fz ety ho _,fun j=>?_⟩
    ·show match ax (ay m.h us) j with|.dead=>True|.box _=>m.β j≠m.β id|.map _=>m.β j≠m.β id|.arr _ _ fz _=>m.β j=m.β id->off+i < fz
     by_cases hj:j=id
     ·subst hj;rw [ho'];exact fun _=>by omega
     ·cases hoj:ax (ay m.h us) j with
      |dead=>trivial
      |box ds=>exact fun e=>hj (hk'.inj j id (by show ax (ay m.h us) j≠_;rw [hoj];simp) (by show ax (ay m.h us) id≠_;rw [ho'];simp) e)
      |map ds=>exact fun e=>hj (hk'.inj j id (by show ax (ay m.h us) j≠_;rw [hoj];simp) (by show ax (ay m.h us) id≠_;rw [ho'];simp) e)
      |arr cs2 acD fz2 afN=>exact fun e=>absurd (hk'.inj j id (by show ax (ay m.h us) j≠_;rw [hoj];simp) (by show ax (ay m.h us) id≠_;rw [ho'];simp) e) hj
   rcases hr with ⟨rfl,_⟩|⟨rfl,rfl⟩
   ·exact .inr ⟨⟨m.β id,off,none⟩,cap,hv,hcap,fun _=>rfl,hcs⟩
   ·refine .inr ⟨ad,0,hv,An _,fun h=>?_,?_⟩
    ·simp at h
    ·simp [fo]
 |full cs n=>
  simp only [nP,A0,A3] at hf;obtain ⟨rfl,rfl⟩:=hf;refine ⟨hk,aB.refl m,?_⟩;simp only [bJ];rcases hr with hr|⟨a,h1,h2,h3⟩
  ·exact .inl hr
  ·exact .inr ⟨a,n,h1,An _,h2,h3⟩
 |rq=>simp [nP] at hf
 |loc id off=>simp [nP] at hf
 |fq f caps=>simp [nP] at hf
 |mp id=>simp [nP] at hf
 |ptr cs=>simp [nP] at hf
 |agg ds=>simp [nP] at hf
 |jG ds=>simp [nP] at hf
theorem eD:∀(us vs:List (Nat×Obj)) (h:Heap),ay h (us++vs)=ay (ay h us) vs
 |[],_,_=>rfl
 |u::us,vs,h=>by simp only [E3,ay];exact eD us vs (u::h)
theorem Hr:∀{ds:List D} {us:List Value} {m:M},fu B S m->av (fA B S m) ds us->∀{cs:List C} {xs:List (Nat×Obj)},jZ m.h ds=some (cs,xs)->
  fu B S (m.heap (ay m.h xs))/\aB B S m (m.heap (ay m.h xs))/\av (bJ m.w (Safe B S (m.heap (ay m.h xs)))) cs us
 |[],[],m,hk,_,cs,xs,hf=>by simp only [jZ,A0,A3] at hf;obtain ⟨rfl,rfl⟩:=hf;exact ⟨hk,aB.refl m,trivial⟩
 |d::ds,u::us,m,hk,hr,cs,xs,hf=>by
  simp only [jZ,A2,A1,C1,A0,A3] at hf;obtain ⟨c,x,h1,cs',xs',h2,rfl,rfl⟩:=hf;obtain ⟨k1,k2,k3⟩:=Tz hk hr.1 h1;have hr2:av (fA B S (m.heap (ay m.h x))) ds us:=hr.2.mono fun _ _ h=>k2.vw h
  obtain ⟨k4,k5,k6⟩:=Hr (m:=m.heap (ay m.h x)) k1 hr2 h2;rw [eD];exact ⟨k4,k2.trans k5,bJ.mono k5.cell c u k3,k6⟩
 |[],_::_,_,_,hr,_,_,_=>hr.elim
 |_::_,[],_,_,hr,_,_,_=>hr.elim
theorem Iq {m:M} (hk:fu B S m) {d:D} {u:Value} (hr:ni B S m d u) {v:V} {xs:List (Nat×Obj)} (hf:nN m.h d=some (v,xs)):
  fu B S (m.heap (ay m.h xs))/\aB B S m (m.heap (ay m.h xs))/\fP m.w (Safe B S (m.heap (ay m.h xs))) v u:=by
 have one:∀d,fA B S m d u->(do let (c,y) <-nP m.h d;some (V.one c,y))=some (v,xs)->
   fu B S (m.heap (ay m.h xs))/\aB B S m (m.heap (ay m.h xs))/\fP m.w (Safe B S (m.heap (ay m.h xs))) v u:=by
  intro d hr hf;simp only [A2,A1,C1,A0,A3] at hf;obtain ⟨c,x,h1,rfl,rfl⟩:=hf;exact Tz hk hr h1
 cases d with
 |agg ds=>
  simp only [nN,A2,A1,C1,A0,A3] at hf;obtain ⟨cs,x,h1,rfl,rfl⟩:=hf;obtain ⟨us,rfl,h2⟩:=hr;obtain ⟨k1,k2,k3⟩:=Hr hk h2 h1;exact ⟨k1,k2,us,rfl,k3⟩
 |rq=>exact one .rq hr hf
 |c x=>exact one (.c x) hr hf
 |loc id off=>exact one (.loc id off) hr hf
 |arr id off len=>exact one (.arr id off len) hr hf
 |ptr cs=>exact one (.ptr cs) hr hf
 |full cs n=>exact one (.full cs n) hr hf
 |fq f caps=>exact one (.fq f caps) hr hf
 |mp id=>exact one (.mp id) hr hf
 |jG ds=>exact one (.jG ds) hr hf
theorem M5:∀{ds:List D} {us:List Value} {m:M},fu B S m->av (ni B S m) ds us->∀{vs:List V} {xs:List (Nat×Obj)},iX m.h ds=some (vs,xs)->
  fu B S (m.heap (ay m.h xs))/\aB B S m (m.heap (ay m.h xs))/\av (fP m.w (Safe B S (m.heap (ay m.h xs)))) vs us
 |[],[],m,hk,_,cs,xs,hf=>by simp only [iX,A0,A3] at hf;obtain ⟨rfl,rfl⟩:=hf;exact ⟨hk,aB.refl m,trivial⟩
 |d::ds,u::us,m,hk,hr,cs,xs,hf=>by
  simp only [iX,A2,A1,C1,A0,A3] at hf;obtain ⟨c,x,h1,cs',xs',h2,rfl,rfl⟩:=hf;obtain ⟨k1,k2,k3⟩:=Iq hk hr.1 h1;have hr2:av (ni B S (m.heap (ay m.h x))) ds us:=hr.2.mono fun _ _ h=>k2.Ji h
  obtain ⟨k4,k5,k6⟩:=M5 (m:=m.heap (ay m.h x)) k1 hr2 h2;rw [eD];exact ⟨k4,k2.trans k5,fP.mono k5.cell k3,k6⟩
 |[],_::_,_,_,hr,_,_,_=>hr.elim
 |_::_,[],_,_,hr,_,_,_=>hr.elim
end
end Go.Ey
namespace Go.Ey
open RowKit
structure Src (P:Program) (w:World) (size n:Nat) (x:Value) (news:List Value):Prop where
 len:Builtin.lenOf x=pure n
 cells:news.length=n * size
 first:∀w':World,w'.heap=w.heap->∀k,k<=n->(Builtin.firstCells size k x).run P w'=.ok (news.take (k * size)).toArray w'
section
variable {P:Program} {w:World}
theorem Src.all {size n:Nat} {x:Value} {news:List Value} (h:Src P w size n x news) {w':World} (hw:w'.heap=w.heap):(Builtin.firstCells size n x).run P w'=.ok news.toArray w':=by
 have h1:=h.first w' hw n (An _);rw [Jx (by rw [h.cells];exact An _)] at h1
 exact h1
theorem x9 (b o j:Nat):(⟨b,o,none⟩:Addr).add j=⟨b,o+j,none⟩:=by unfold Addr.add;split<;>simp_all
theorem KE {size n cap:Nat} {a:Addr} {news:List Value} (hs:news≠[]->a.spot=none) (hl:news.length=n * size)
  (hc:∀j v,news[j]?=some v->w.cell? ⟨a.block,a.off+j,none⟩=some v):Src P w size n (.slice (some a) n cap) news:=by
 refine ⟨rfl,hl,fun w' hw k hk=>?_⟩
 have hk':k * size<=news.length:=by rw [hl];exact Cd _ hk
 refine run_firstCells_some (P:=P) w' size k a n cap _ (by simp;omega) fun j v hv=>?_
 have hj:j < k * size:=by have:=(As.1 hv).1;simp at this;omega
 rw [Fc hj] at hv;have hne:news≠[]:=by intro e;rw [e] at hv;simp at hv
 obtain ⟨b,o,sp⟩:=a;have:sp=none:=hs hne
 subst this;rw [x9];have:=hc j v hv
 simp only [World.cell?,hw] at this |-;exact this
theorem ZQ {size:Nat}:Src P w size 0 (.slice none 0 0) []:=by
 refine ⟨rfl,by simp,fun w' _ k hk=>?_⟩
 have:k=0:=by omega
 subst this;simp [Builtin.firstCells]
theorem YV (s:ByteArray):Src P w 1 s.size (.string s) (s.data.toList.map fun b=> .int .u8 b.toNat):=by
 refine ⟨rfl,by rw [Lw,Nat.mul_one];rfl,fun w' _ k hk=>?_⟩
 simp only [Builtin.firstCells];have h:(s.extract 0 k).data=(s.data.extract 0 k):=by simp [ByteArray.extract,ByteArray.copySlice]
 rw [h];show Result.ok _ _=_
 congr 1;apply Array.ext';simp [Array.toList_extract,List.extract]
section append
variable {t t' ty e:TypeId} {i:TypeInfo} {z:Value} {d':TypeDesc}
theorem SB (ht:P.underlying t=some (.slice e)) (ht':P.underlying t'=some d') (hd:∀k,d'≠.int k) (hi:P.info? e=some i) {x:Value} {news:List Value} (h:Src P w i.size 0 x news):
  (Builtin.append_ #[t,t'] ty #[.slice none 0 0,x]).run P w=.ok (.slice none 0 0) w:=by
 have hf:=h.all (w':=w) rfl;simp [Builtin.append_,run_underlying ht,run_underlying ht',sizeOf,typeInfo,hi,h.len,hf]
theorem HY (ht:P.underlying t=some (.slice e)) (ht':P.underlying t'=some d') (hd:∀k,d'≠.int k) (hi:P.info? e=some i) {x:Value} {news:List Value} (h:Src P w i.size 0 x news) (ad:Addr) (sLen sCap:Nat) (hc:sLen<=sCap):
  (Builtin.append_ #[t,t'] ty #[.slice (some ad) sLen sCap,x]).run P w=.ok (.slice (some ad) sLen sCap) w:=by
 have hf:=h.all (w':=w) rfl;have hn:news=[]:=Cp (by simpa using h.cells)
 subst hn;simp [Builtin.append_,run_underlying ht,run_underlying ht',sizeOf,typeInfo,hi,h.len,hf,storeCells,hc]
theorem UC (ht:P.underlying t=some (.slice e)) (ht':P.underlying t'=some d') (hd:∀k,d'≠.int k) (hi:P.info? e=some i) (hz:i.zero=some z) {x:Value} {n:Nat} {news:List Value} (h:Src P w i.size n x news)
  (h0:0 < n) (h63:(n:Int)<=9223372036854775807) (h48:n * i.bytes<=281474976710656):
  (Builtin.append_ #[t,t'] ty #[.slice none 0 0,x]).run P w=
   .ok (.slice (some ⟨w.heap.size,0,none⟩) n (grownCap w n 0 e)) (w.drew.alloc (.cells (news.toArray++Builtin.zeroCells z.cells (grownCap w n 0 e - n)) e)):=by
 have hn:n≠0:=by omega
 have h63':¬(9223372036854775807 < (n:Int)):=by omega
 have h48':¬(281474976710656 < Builtin.nextslicecap n 0 * i.bytes):=by rw [nextslicecap_zero h0];omega
 have hf:=h.all (w':=w.drew) rfl;simp [Builtin.append_,run_underlying ht,run_underlying ht',sizeOf,typeInfo,zeroValue,hi,hz,h.len,hn,h63',h48',Question.forced,run_firstCells_none,hf,newRow,grownCap]
theorem IC (ht:P.underlying t=some (.slice e)) (ht':P.underlying t'=some d') (hd:∀k,d'≠.int k) (hi:P.info? e=some i) (hz:i.zero=some z) {x:Value} {n:Nat} {news:List Value} (h:Src P w i.size n x news)
  (b:Addr) (sLen sCap:Nat) (olds:List Value) (hlo:olds.length=sLen * i.size) (holds:∀j v,olds[j]?=some v->w.cell? (b.add j)=some v)
  (hg:sCap < sLen+n) (h63:((sLen+n:Nat):Int)<=9223372036854775807) (hfit:Builtin.nextslicecap (sLen+n) sCap * i.bytes<=281474976710656):
  (Builtin.append_ #[t,t'] ty #[.slice (some b) sLen sCap,x]).run P w=
   .ok (.slice (some ⟨w.heap.size,0,none⟩) (sLen+n) (grownCap w (sLen+n) sCap e))
    (w.drew.alloc (.cells (olds.toArray++news.toArray++Builtin.zeroCells z.cells (grownCap w (sLen+n) sCap e - (sLen+n))) e)):=by
 have hn:¬(sLen+n<=sCap):=by omega
 have h63':¬(9223372036854775807 < ((sLen:Int)+(n:Int))):=by omega
 have h48':¬(281474976710656 < Builtin.nextslicecap (sLen+n) sCap * i.bytes):=by omega
 have hf:=h.all (w':=w.drew) rfl;have hfo:=run_firstCells_some (P:=P) w.drew i.size sLen b sLen sCap olds hlo (by simpa using holds)
 simp [Builtin.append_,run_underlying ht,run_underlying ht',sizeOf,typeInfo,zeroValue,hi,hz,h.len,hn,h63',h48',Question.forced,hf,hfo,newRow,grownCap];congr 2;apply Array.ext';simp [B9]
theorem Tq (ht:P.underlying t=some (.slice e)) (ht':P.underlying t'=some d') (hd:∀k,d'≠.int k) (hi:P.info? e=some i) {x:Value} {n:Nat} {news:List Value} (h:Src P w i.size n x news)
  (g sLen sCap:Nat) (cur:Array Value) (hg:w.heap[g]?=some (.cells cur e (0,0))) (h1:∀u∈news,u.oneCell'=true)
  (hroom:sLen+n<=sCap) (hfit:sLen * i.size+news.length<=cur.size):
  (Builtin.append_ #[t,t'] ty #[.slice (some ⟨g,0,none⟩) sLen sCap,x]).run P w=
   .ok (.slice (some ⟨g,0,none⟩) (sLen+n) sCap) (w.setRow g (cur.toList.take (sLen * i.size)++news++cur.toList.drop (sLen * i.size+news.length)).toArray):=by
 have hf:=h.all (w':=w) rfl;have hst:=run_storeCells_at P g (sLen * i.size) e news 0 cur w hg (by simpa using hfit) h1
 simp only [Hx] at hst;simp [Builtin.append_,run_underlying ht,run_underlying ht',sizeOf,typeInfo,hi,h.len,hroom,hf,Addr.add_lit,hst]
end append
theorem aif {dT sT ty e:TypeId} {i:TypeInfo} (ht:P.underlying dT=some (.slice e)) (hi:P.info? e=some i) {x:Value} {n:Nat} {news:List Value} (h:Src P w i.size n x news)
  (g o dLen dCap:Nat) (cur:Array Value) (t:TypeId) (hg:w.heap[g]?=some (.cells cur t (0,0))) (h1:∀u∈news,u.oneCell'=true) (hfit:o+dLen * i.size<=cur.size):
  (Builtin.copy_ #[dT,sT] ty #[.slice (some ⟨g,o,none⟩) dLen dCap,x]).run P w=
   .ok (goInt (Nat.min n dLen:Nat)) (w.setRow g (cur.toList.take o++news.take (Nat.min n dLen * i.size)++cur.toList.drop (o+(news.take (Nat.min n dLen * i.size)).length)).toArray):=by
 have hmin:Nat.min n dLen<=n:=Nat.min_le_left _ _;have aes:Nat.min n dLen<=dLen:=Nat.min_le_right _ _;have hf:=h.first w rfl (Nat.min n dLen) hmin;have hlen:(news.take (Nat.min n dLen * i.size)).length=Nat.min n dLen * i.size:=by
  rw [Fo,h.cells];have:=Cd i.size hmin
  omega
 have hle:=Cd i.size aes;have hst:=run_storeCells_at P g o t (news.take (Nat.min n dLen * i.size)) 0 cur w hg (by rw [hlen];omega) (fun u hu=>h1 u (Hs hu))
 simp only [Hx] at hst;simp [Builtin.copy_,run_underlying ht,sizeOf,typeInfo,hi,h.len,hf,hst]
theorem O9 {dT sT ty e:TypeId} {i:TypeInfo} (ht:P.underlying dT=some (.slice e)) (hi:P.info? e=some i) {x:Value} {n:Nat} {news:List Value} (h:Src P w i.size n x news) (a:Addr) (dCap:Nat):
  (Builtin.copy_ #[dT,sT] ty #[.slice (some a) 0 dCap,x]).run P w=.ok (goInt 0) w:=by
 have hf:=h.first w rfl 0 (Fl _);simp at hf;simp [Builtin.copy_,run_underlying ht,sizeOf,typeInfo,hi,h.len,hf,storeCells]
end
section
variable {B:Nat} {S:Nat->Nat->Prop} {P:Program}
theorem Il {m:M} {cs:List C} {n aj cap:Nat} {a:Addr} (h2:cs≠[]->a.spot=none) (h3:fo m.w (Safe B S m) cs a.block a.off) (hl:cs.length=n * aj):
  ∃news,av (bJ m.w (Safe B S m)) cs news/\Src P m.w aj n (.slice (some a) n cap) news:=by
 obtain ⟨us,h4,h5⟩:=E8 h3;refine ⟨us,h4,KE (fun hne=>h2 fun e=>hne ?_) (by rw [<-h4.len];exact hl) fun j v hv=>(h5 j v hv).1⟩
 subst e;cases us with
 |nil=>rfl
 |cons _ _=>exact h4.elim
theorem GV {m:M} (hk:fu B S m) {d:D} {u:Value} (hr:dZ B S m d u) {aj n:Nat} {cs:List C} (hs:iY m.h aj d=some (cs,n)) (hl:cs.length=n * aj):
  ∃news,av (bJ m.w (Safe B S m)) cs news/\Src P m.w aj n u news:=by
 cases d with
 |c x=>
  replace hr:bJ m.w (Safe B S m) x u:=hr;cases x with
  |lit v=>
   simp only [bJ] at hr;obtain ⟨rfl,hsc⟩:=hr;unfold iY at hs;split at hs<;>try (simp only [reduceCtorEq,D.c.injEq] at *;done)
   ·rename_i s h;simp only [D.c.injEq,C.lit.injEq] at h;subst h;split at hs
    ·rename_i he;subst he;simp only [A0,A3] at hs;obtain ⟨rfl,rfl⟩:=hs;refine ⟨_,?_,YV s⟩;clear hl hsc;generalize s.data.toList=l;induction l with
     |nil=>trivial
     |cons b l ih=>exact ⟨⟨rfl,rfl⟩,ih⟩
    ·cases hs
  |slice cs' n'=>
   simp only [bJ] at hr;simp only [iY] at hs;split at hs
   case isFalse=>cases hs
   simp only [A0,A3] at hs;obtain ⟨rfl,rfl⟩:=hs;rcases hr with ⟨rfl,rfl,rfl⟩|⟨a,cap,rfl,h1,h2,h3⟩
   ·exact ⟨[],trivial,ZQ⟩
   ·exact Il h2 h3 hl
 |full cs' n'=>
  simp only [iY] at hs;split at hs
  case isFalse=>cases hs
  simp only [A0,A3] at hs;obtain ⟨rfl,rfl⟩:=hs;rcases hr with ⟨rfl,rfl,rfl⟩|⟨a,rfl,h2,h3⟩
  ·exact ⟨[],trivial,ZQ⟩
  ·exact Il h2 h3 hl
 |arr id off len=>
  obtain ⟨hu,ad,cap,hv,hcap,hr⟩:=hr;simp only [iY] at hs;cases ho:ax m.h id with
  |dead=>rw [ho] at hs;cases hs
  |box ds=>rw [ho] at hs;cases hs
  |map ds=>rw [ho] at hs;cases hs
  |arr cs0 alM fz ety=>
   rw [ho] at hs hr;simp only at hs hr;split at hs
   case isFalse=>cases hs
   rename_i hc;obtain ⟨rfl,hlen⟩:=hc;simp only [A0,A3] at hs;obtain ⟨rfl,rfl⟩:=hs;obtain ⟨hB,vs,hv1,hv2,hv3⟩:=hk.arr ho;have hall:=(hv3.drop off).take (len * alM);refine ⟨_,hall,?_⟩;subst hv;rcases hr with ⟨rfl,_⟩|⟨rfl,rfl⟩
   ·refine KE (fun _=>rfl) (by rw [<-hall.len];exact hl) fun j v hv=>?_
    have hj:j < len * alM:=by have:=(As.1 hv).1;simp at this;omega
    rw [Fc hj,M1,Fc (by omega)] at hv
    show m.w.cell? ⟨m.β id,off+j,none⟩=_
    rw [jw hv1];exact hv
   ·refine KE (fun h=>?_) (by simp) fun j v hv=>?_
    ·simp at h
    ·simp at hv
 |rq=>simp [iY] at hs
 |loc id off=>simp [iY] at hs
 |fq f caps=>simp [iY] at hs
 |mp id=>simp [iY] at hs
 |ptr cs=>simp [iY] at hs
 |agg ds=>simp [iY] at hs
 |jG ds=>simp [iY] at hs
end
end Go.Ey
