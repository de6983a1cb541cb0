/- A part. -/
import Derived.Test.YtolnnaanmfnkjaaGreatDoorY03
import Derived.Laws.Append
import Derived.Laws.OwnMore
import Derived.WalkKit
import Derived.Deep.Slices
set_option linter.all false
namespace Go.Ey
open Go.RowKit
section
variable {w:World} {Sf:Nat->Nat->Prop}
theorem Jo:∀{cs:List C} {us:List Value} {b o:Nat},aF (cK w Sf) cs us->(∀i u,us[i]?=some u->w.cell? ⟨b,o+i,none⟩=some u/\Sf b (o+i))->fK w Sf cs b o
 |[],[],_,_,_,_=>by simp [fK]
 |c::cs,u::us,b,o,h,hc=>by
  simp only [fK];obtain ⟨h1,h2⟩:=hc 0 u (by simp)
  refine ⟨⟨u,by simpa using h1,by simpa using h2,h.1⟩,Jo h.2 fun i v hv=>?_⟩
  have:=hc (i+1) v (by simpa using hv)
  rw [show o+1+i=o+(i+1) by omega]
  exact this
 |[],_::_,_,_,h,_=>h.elim
 |_::_,[],_,_,h,_=>h.elim
theorem Gn:∀{cs:List C} {b o:Nat},fK w Sf cs b o->∃us:List Value,aF (cK w Sf) cs us/\(∀i u,us[i]?=some u->w.cell? ⟨b,o+i,none⟩=some u/\Sf b (o+i))
 |[],_,_,_=>⟨[],trivial,by simp⟩
 |c::cs,b,o,h=>by
  simp only [fK] at h;obtain ⟨⟨u,h1,h2,h3⟩,h4⟩:=h;obtain ⟨us,h5,h6⟩:=Gn h4;refine ⟨u::us,⟨h3,h5⟩,fun i v hv=>?_⟩
  cases i with
  |zero=>simp at hv;subst hv;exact ⟨by simpa using h1,by simpa using h2⟩
  |succ i=>
   have:=h6 i v (by simpa using hv)
   rw [show o+(i+1)=o+1+i by omega]
   exact this
theorem Bb:∀(n:Nat) {cs:List C} {b o:Nat},fK w Sf cs b o->fK w Sf (cs.drop n) b (o+n)
 |0,_,_,_,h=>by simpa using h
 |n+1,[],_,_,_=>by simp [fK]
 |n+1,c::cs,b,o,h=>by
  simp only [fK] at h;have:=Bb n h.2
  simp only [Lz];rw [show o+(n+1)=o+1+n by omega]
  exact this
theorem Iu:∀(n:Nat) {cs:List C} {b o:Nat},fK w Sf cs b o->fK w Sf (cs.take n) b o
 |0,_,_,_,_=>by simp [fK]
 |n+1,[],_,_,_=>by simp [fK]
 |n+1,c::cs,b,o,h=>by simp only [fK,Ly] at h |-;exact ⟨h.1,Iu n h.2⟩
theorem cK.oneCell {c:C} {u:Value} (h:cK w Sf c u):u.oneCell'=true:=by
 cases c with
 |lit v=>
  simp only [cK] at h;obtain ⟨rfl,h⟩:=h;unfold scalar at h;split at h<;>first|rfl|cases h
 |slice cs n=>
  simp only [cK] at h;rcases h with ⟨rfl,_⟩|⟨a,cap,rfl,_⟩
  ·rfl
  ·rfl
end
theorem aF.mem_right {α β:Type} {R:α->β->Prop} {p:β->Prop} (h:∀a b,R a b->p b):∀{aY:List α} {bs:List β},aF R aY bs->∀b∈bs,p b
 |[],[],_,_,hb=>by simp at hb
 |_::_,_::_,h1,b,hb=>by
  simp only [D1] at hb;rcases hb with rfl|hb
  ·exact h _ _ h1.1
  ·exact aF.mem_right h h1.2 b hb
 |[],_::_,h1,_,_=>h1.elim
 |_::_,[],h1,_,_=>h1.elim
section
variable {B:Nat} {S:Nat->Nat->Prop}
def M.grow (m:M) (slot:Nat):M:=⟨m.w,m.h,m.β,fun i=>m.U i\/i=slot⟩
theorem gL (m:M) (slot:Nat):aS B S m (m.grow slot):=
 ⟨fun _ _ _ h1 h2=>⟨h1,h2⟩,fun _ h=> .inl h,fun _ _ h=>h,fun _ _=>rfl,fun _ cs' _ nW _ _ h=>⟨cs',nW,h,rfl⟩,fun _ _ _ h=>⟨rfl,h⟩⟩
theorem x9 {m:M} (hk:gq B S m) (slot:Nat):gq B S (m.grow slot):=by
 refine ⟨fun id=>?_,hk.inj,fun id h=>hk.dom id fun hu=>h (.inl hu),hk.base,hk.fresh,hk.Qb⟩
 exact (gL m slot).Md rfl (hk.obj id)
theorem gq.arr {m:M} (hk:gq B S m) {id:Nat} {cs:List C} {ay fz ety:Nat} (ho:aH m.h id=.arr cs ay fz ety):
  B<=m.β id/\∃us:List Value,m.w.heap[m.β id]?=some (.cells us.toArray ety (0,0))/\cs.length<=us.length/\aF (cK m.w (Safe B S m)) cs (us.take cs.length):=by
 have h:=hk.obj id;unfold K7 at h;rw [ho] at h;exact h
theorem gq.box {m:M} (hk:gq B S m) {id:Nat} {ds:List D} (ho:aH m.h id=.box ds):
  B<=m.β id/\∃(us:List Value) (e:TypeId),m.w.heap[m.β id]?=some (.cells us.toArray e (0,0))/\aF (gu B S m) ds us:=by
 have h:=hk.obj id;unfold K7 at h;rw [ho] at h;exact h
theorem kW {w:World} {b o:Nat} {us:List Value} {e:TypeId} {fr:Nat×Nat} (h:w.heap[b]?=some (.cells us.toArray e fr)):w.cell? ⟨b,o,none⟩=us[o]?:=by simp [World.cell?,h]
def M.heap (m:M) (h:Heap):M:=⟨m.w,h,m.β,m.U⟩
theorem NJ {m:M} (hk:gq B S m) {id:Nat} {cs:List C} {ay fz ety nW:Nat} (ho:aH m.h id=.arr cs ay fz ety) (hf:fz<=nW):
  aS B S m (m.heap ((id,.arr cs ay nW ety)::m.h)):=
 yg hk ho (o':=.arr cs ay nW ety) (w':=m.w) ⟨rfl,rfl,hf⟩ (fun _ _=>rfl) (fun _ _ _ h=>h) rfl
theorem alY {m:M} (hk:gq B S m) {id:Nat} {cs:List C} {ay fz ety nW:Nat} (ho:aH m.h id=.arr cs ay fz ety) (hf:fz<=nW):
  gq B S (m.heap ((id,.arr cs ay nW ety)::m.h)):=by
 have hev:=NJ hk ho hf;refine JE hk (w':=m.w) (by rw [ho];simp) hev (fun _ _=>rfl) (B9 _) ?_
 obtain ⟨h1,us,h2,h3,h4⟩:=hk.arr ho;exact ⟨h1,us,h2,h3,h4.mono fun x u h5=>cK.mono hev.cell x u h5⟩
theorem Tv {m:M} (hk:gq B S m) {d:D} {u:Value} (hr:gu B S m d u) {c:C} {us:List (Nat×Obj)} (hf:oo m.h d=some (c,us)):
  gq B S (m.heap (aK m.h us))/\aS B S m (m.heap (aK m.h us))/\cK m.w (Safe B S (m.heap (aK m.h us))) c u:=by
 cases d with
 |c x=>
  simp only [oo,A0,A3] at hf;obtain ⟨rfl,rfl⟩:=hf;exact ⟨hk,aS.refl m,hr⟩
 |arr id off len=>
  simp only [oo] at hf;obtain ⟨hu,ad,cap,hv,hcap,hr⟩:=hr;cases ho:aH m.h id with
  |dead=>rw [ho] at hf;cases hf
  |box ds=>rw [ho] at hf;cases hf
  |map ds=>rw [ho] at hf;cases hf
  |arr cs ay fz ety=>
   rw [ho] at hf hr;simp only at hf hr;split at hf
   case isFalse=>cases hf
   rename_i hlen;simp only [A0,A3] at hf;obtain ⟨rfl,rfl⟩:=hf;obtain ⟨hB,vs,hv1,hv2,hv3⟩:=hk.arr ho;have key:∃nW,off+len * ay<=nW/\gq B S (m.heap (aK m.h (if off+len * ay<=fz then [] else [(id,.arr cs ay (off+len * ay) ety)])))/\
     aS B S m (m.heap (aK m.h (if off+len * ay<=fz then [] else [(id,.arr cs ay (off+len * ay) ety)])))/\
     aH (aK m.h (if off+len * ay<=fz then [] else [(id,.arr cs ay (off+len * ay) ety)])) id=.arr cs ay nW ety:=by
    by_cases hz:off+len * ay<=fz
    ·rw [C4 hz];exact ⟨fz,hz,hk,aS.refl m,ho⟩
    ·rw [Dd hz];exact ⟨off+len * ay,B9 _,alY hk ho (by omega),NJ hk ho (by omega),by simp [aK,bJ]⟩
   obtain ⟨nW,hz1,hk',hev,ho'⟩:=key;refine ⟨hk',hev,?_⟩;generalize (if off+len * ay<=fz then [] else [(id,Obj.arr cs ay (off+len * ay) ety)])=us at *
   simp only [cK];have hsub:∀i c,((cs.drop off).take (len * ay))[i]?=some c->i < len * ay:=by
    intro i c h;have:=(B0.1 h).1
    simp at this;omega
   have hall:aF (cK m.w (Safe B S (m.heap (aK m.h us)))) ((cs.drop off).take (len * ay)) (((vs.take cs.length).drop off).take (len * ay)):=
    ((hv3.mono fun x u h5=>cK.mono hev.cell x u h5).drop off).take _
   have hcs:fK m.w (Safe B S (m.heap (aK m.h us))) ((cs.drop off).take (len * ay)) (m.β id) off:=by
    refine Jo hall fun i u hi=>?_
    have hi2:i < len * ay:=by
     have:=(B0.1 hi).1
     simp at this;omega
    have hi3:vs[off+i]?=some u:=by
     rw [Fl hi2,N3,Fl (by omega)] at hi
     exact hi
    refine ⟨by rw [kW hv1];exact hi3,hk.Qb id cs ay fz ety ho _,fun j=>?_⟩
    ·show match aH (aK m.h us) j with|.dead=>True|.box _=>m.β j≠m.β id|.map _=>m.β j≠m.β id|.arr _ _ fz _=>m.β j=m.β id->off+i < fz
     by_cases hj:j=id
     ·subst hj;rw [ho'];exact fun _=>by omega
     ·cases hoj:aH (aK m.h us) j with
      |dead=>trivial
      |box ds=>exact fun e=>hj (hk'.inj j id (by show aH (aK m.h us) j≠_;rw [hoj];simp) (by show aH (aK m.h us) id≠_;rw [ho'];simp) e)
      |map ds=>exact fun e=>hj (hk'.inj j id (by show aH (aK m.h us) j≠_;rw [hoj];simp) (by show aH (aK m.h us) id≠_;rw [ho'];simp) e)
      |arr cs2 adQ fz2 afQ=>exact fun e=>absurd (hk'.inj j id (by show aH (aK m.h us) j≠_;rw [hoj];simp) (by show aH (aK m.h us) id≠_;rw [ho'];simp) e) hj
   rcases hr with ⟨rfl,_⟩|⟨rfl,rfl⟩
   ·exact .inr ⟨⟨m.β id,off,none⟩,cap,hv,hcap,fun _=>rfl,hcs⟩
   ·refine .inr ⟨ad,0,hv,B9 _,fun h=>?_,?_⟩
    ·simp at h
    ·simp [fK]
 |full cs n=>
  simp only [oo,A0,A3] at hf;obtain ⟨rfl,rfl⟩:=hf;refine ⟨hk,aS.refl m,?_⟩;simp only [cK];rcases hr with hr|⟨a,h1,h2,h3⟩
  ·exact .inl hr
  ·exact .inr ⟨a,n,h1,B9 _,h2,h3⟩
 |uf=>simp [oo] at hf
 |loc id off=>simp [oo] at hf
 |fD f caps=>simp [oo] at hf
 |mp id=>simp [oo] at hf
 |ptr cs=>simp [oo] at hf
 |agg ds=>simp [oo] at hf
 |lC ds=>simp [oo] at hf
theorem eY:∀(us vs:List (Nat×Obj)) (h:Heap),aK h (us++vs)=aK (aK h us) vs
 |[],_,_=>rfl
 |u::us,vs,h=>by simp only [E3,aK];exact eY us vs (u::h)
theorem Jh:∀{ds:List D} {us:List Value} {m:M},gq B S m->aF (gu B S m) ds us->∀{cs:List C} {xs:List (Nat×Obj)},lZ m.h ds=some (cs,xs)->
  gq B S (m.heap (aK m.h xs))/\aS B S m (m.heap (aK m.h xs))/\aF (cK m.w (Safe B S (m.heap (aK m.h xs)))) cs us
 |[],[],m,hk,_,cs,xs,hf=>by simp only [lZ,A0,A3] at hf;obtain ⟨rfl,rfl⟩:=hf;exact ⟨hk,aS.refl m,trivial⟩
 |d::ds,u::us,m,hk,hr,cs,xs,hf=>by
  simp only [lZ,A2,A1,C0,A0,A3] at hf;obtain ⟨c,x,h1,cs',xs',h2,rfl,rfl⟩:=hf;obtain ⟨k1,k2,k3⟩:=Tv hk hr.1 h1;have hr2:aF (gu B S (m.heap (aK m.h x))) ds us:=hr.2.mono fun _ _ h=>k2.yt h
  obtain ⟨k4,k5,k6⟩:=Jh (m:=m.heap (aK m.h x)) k1 hr2 h2;rw [eY];exact ⟨k4,k2.trans k5,cK.mono k5.cell c u k3,k6⟩
 |[],_::_,_,_,hr,_,_,_=>hr.elim
 |_::_,[],_,_,hr,_,_,_=>hr.elim
theorem II {m:M} (hk:gq B S m) {d:D} {u:Value} (hr:nH B S m d u) {v:V} {xs:List (Nat×Obj)} (hf:nP m.h d=some (v,xs)):
  gq B S (m.heap (aK m.h xs))/\aS B S m (m.heap (aK m.h xs))/\gQ m.w (Safe B S (m.heap (aK m.h xs))) v u:=by
 have one:∀d,gu B S m d u->(do let (c,y) <-oo m.h d;some (V.one c,y))=some (v,xs)->
   gq B S (m.heap (aK m.h xs))/\aS B S m (m.heap (aK m.h xs))/\gQ m.w (Safe B S (m.heap (aK m.h xs))) v u:=by
  intro d hr hf;simp only [A2,A1,C0,A0,A3] at hf;obtain ⟨c,x,h1,rfl,rfl⟩:=hf;exact Tv hk hr h1
 cases d with
 |agg ds=>
  simp only [nP,A2,A1,C0,A0,A3] at hf;obtain ⟨cs,x,h1,rfl,rfl⟩:=hf;obtain ⟨us,rfl,h2⟩:=hr;obtain ⟨k1,k2,k3⟩:=Jh hk h2 h1;exact ⟨k1,k2,us,rfl,k3⟩
 |uf=>exact one .uf hr hf
 |c x=>exact one (.c x) hr hf
 |loc id off=>exact one (.loc id off) hr hf
 |arr id off len=>exact one (.arr id off len) hr hf
 |ptr cs=>exact one (.ptr cs) hr hf
 |full cs n=>exact one (.full cs n) hr hf
 |fD f caps=>exact one (.fD f caps) hr hf
 |mp id=>exact one (.mp id) hr hf
 |lC ds=>exact one (.lC ds) hr hf
theorem Ni:∀{ds:List D} {us:List Value} {m:M},gq B S m->aF (nH B S m) ds us->∀{vs:List V} {xs:List (Nat×Obj)},jV m.h ds=some (vs,xs)->
  gq B S (m.heap (aK m.h xs))/\aS B S m (m.heap (aK m.h xs))/\aF (gQ m.w (Safe B S (m.heap (aK m.h xs)))) vs us
 |[],[],m,hk,_,cs,xs,hf=>by simp only [jV,A0,A3] at hf;obtain ⟨rfl,rfl⟩:=hf;exact ⟨hk,aS.refl m,trivial⟩
 |d::ds,u::us,m,hk,hr,cs,xs,hf=>by
  simp only [jV,A2,A1,C0,A0,A3] at hf;obtain ⟨c,x,h1,cs',xs',h2,rfl,rfl⟩:=hf;obtain ⟨k1,k2,k3⟩:=II hk hr.1 h1;have hr2:aF (nH B S (m.heap (aK m.h x))) ds us:=hr.2.mono fun _ _ h=>k2.K8 h
  obtain ⟨k4,k5,k6⟩:=Ni (m:=m.heap (aK m.h x)) k1 hr2 h2;rw [eY];exact ⟨k4,k2.trans k5,gQ.mono k5.cell k3,k6⟩
 |[],_::_,_,_,hr,_,_,_=>hr.elim
 |_::_,[],_,_,hr,_,_,_=>hr.elim
end
end Go.Ey
namespace Go.Ey
open Go.RowKit
structure Src (P:Program) (w:World) (size n:Nat) (x:Value) (news:List Value):Prop where
 len:Builtin.lenOf x=pure n
 cells:news.length=n * size
 first:∀w':World,w'.heap=w.heap->∀k,k<=n->(Builtin.firstCells size k x).run P w'=.ok (news.take (k * size)).toArray w'
section
variable {P:Program} {w:World}
theorem Src.all {size n:Nat} {x:Value} {news:List Value} (h:Src P w size n x news) {w':World} (hw:w'.heap=w.heap):(Builtin.firstCells size n x).run P w'=.ok news.toArray w':=by
 have h1:=h.first w' hw n (B9 _);rw [K2 (by rw [h.cells];exact B9 _)] at h1
 exact h1
theorem Ab (b o j:Nat):(⟨b,o,none⟩:Addr).add j=⟨b,o+j,none⟩:=by unfold Addr.add;split<;>simp_all
theorem Ki {size n cap:Nat} {a:Addr} {news:List Value} (hs:news≠[]->a.spot=none) (hl:news.length=n * size)
  (hc:∀j v,news[j]?=some v->w.cell? ⟨a.block,a.off+j,none⟩=some v):Src P w size n (.slice (some a) n cap) news:=by
 refine ⟨rfl,hl,fun w' hw k hk=>?_⟩
 have hk':k * size<=news.length:=by rw [hl];exact Cl _ hk
 refine run_firstCells_some (P:=P) w' size k a n cap _ (by simp;omega) fun j v hv=>?_
 have hj:j < k * size:=by have:=(B0.1 hv).1;simp at this;omega
 rw [Fl hj] at hv;have hne:news≠[]:=by intro e;rw [e] at hv;simp at hv
 obtain ⟨b,o,sp⟩:=a;have:sp=none:=hs hne
 subst this;rw [Ab];have:=hc j v hv
 simp only [World.cell?,hw] at this |-;exact this
theorem aa6 {size:Nat}:Src P w size 0 (.slice none 0 0) []:=by
 refine ⟨rfl,by simp,fun w' _ k hk=>?_⟩
 have:k=0:=by omega
 subst this;simp [Builtin.firstCells]
theorem Yj (s:ByteArray):Src P w 1 s.size (.string s) (s.data.toList.map fun b=> .int .u8 b.toNat):=by
 refine ⟨rfl,by rw [Mn,Nat.mul_one];rfl,fun w' _ k hk=>?_⟩
 simp only [Builtin.firstCells];have h:(s.extract 0 k).data=(s.data.extract 0 k):=by simp [ByteArray.extract,ByteArray.copySlice]
 rw [h];show Result.ok _ _=_
 congr 1;apply Array.ext';simp [Array.toList_extract,List.extract]
section append
variable {t t' ty e:TypeId} {i:TypeInfo} {z:Value} {d':TypeDesc}
theorem Tc (ht:P.underlying t=some (.slice e)) (ht':P.underlying t'=some d') (hd:∀k,d'≠.int k) (hi:P.info? e=some i) {x:Value} {news:List Value} (h:Src P w i.size 0 x news):
  (Builtin.append_ #[t,t'] ty #[.slice none 0 0,x]).run P w=.ok (.slice none 0 0) w:=by
 have hf:=h.all (w':=w) rfl;simp [Builtin.append_,run_underlying ht,run_underlying ht',sizeOf,typeInfo,hi,h.len,hf]
theorem Jv (ht:P.underlying t=some (.slice e)) (ht':P.underlying t'=some d') (hd:∀k,d'≠.int k) (hi:P.info? e=some i) {x:Value} {news:List Value} (h:Src P w i.size 0 x news) (ad:Addr) (sLen sCap:Nat) (hc:sLen<=sCap):
  (Builtin.append_ #[t,t'] ty #[.slice (some ad) sLen sCap,x]).run P w=.ok (.slice (some ad) sLen sCap) w:=by
 have hf:=h.all (w':=w) rfl;have hn:news=[]:=E7 (by simpa using h.cells)
 subst hn;simp [Builtin.append_,run_underlying ht,run_underlying ht',sizeOf,typeInfo,hi,h.len,hf,storeCells,hc]
theorem U0 (ht:P.underlying t=some (.slice e)) (ht':P.underlying t'=some d') (hd:∀k,d'≠.int k) (hi:P.info? e=some i) (hz:i.zero=some z) {x:Value} {n:Nat} {news:List Value} (h:Src P w i.size n x news)
  (h0:0 < n) (h63:(n:Int)<=9223372036854775807) (h48:n * i.bytes<=281474976710656):
  (Builtin.append_ #[t,t'] ty #[.slice none 0 0,x]).run P w=
   .ok (.slice (some ⟨w.heap.size,0,none⟩) n (grownCap w n 0 e)) (w.drew.alloc (.cells (news.toArray++Builtin.zeroCells z.cells (grownCap w n 0 e - n)) e)):=by
 have hn:n≠0:=by omega
 have h63':¬(9223372036854775807 < (n:Int)):=by omega
 have h48':¬(281474976710656 < Builtin.nextslicecap n 0 * i.bytes):=by rw [nextslicecap_zero h0];omega
 have hf:=h.all (w':=w.drew) rfl;simp [Builtin.append_,run_underlying ht,run_underlying ht',sizeOf,typeInfo,zeroValue,hi,hz,h.len,hn,h63',h48',Question.forced,run_firstCells_none,hf,newRow,grownCap]
theorem I8 (ht:P.underlying t=some (.slice e)) (ht':P.underlying t'=some d') (hd:∀k,d'≠.int k) (hi:P.info? e=some i) (hz:i.zero=some z) {x:Value} {n:Nat} {news:List Value} (h:Src P w i.size n x news)
  (b:Addr) (sLen sCap:Nat) (olds:List Value) (hlo:olds.length=sLen * i.size) (holds:∀j v,olds[j]?=some v->w.cell? (b.add j)=some v)
  (hg:sCap < sLen+n) (h63:((sLen+n:Nat):Int)<=9223372036854775807) (hfit:Builtin.nextslicecap (sLen+n) sCap * i.bytes<=281474976710656):
  (Builtin.append_ #[t,t'] ty #[.slice (some b) sLen sCap,x]).run P w=
   .ok (.slice (some ⟨w.heap.size,0,none⟩) (sLen+n) (grownCap w (sLen+n) sCap e))
    (w.drew.alloc (.cells (olds.toArray++news.toArray++Builtin.zeroCells z.cells (grownCap w (sLen+n) sCap e - (sLen+n))) e)):=by
 have hn:¬(sLen+n<=sCap):=by omega
 have h63':¬(9223372036854775807 < ((sLen:Int)+(n:Int))):=by omega
 have h48':¬(281474976710656 < Builtin.nextslicecap (sLen+n) sCap * i.bytes):=by omega
 have hf:=h.all (w':=w.drew) rfl;have hfo:=run_firstCells_some (P:=P) w.drew i.size sLen b sLen sCap olds hlo (by simpa using holds)
 simp [Builtin.append_,run_underlying ht,run_underlying ht',sizeOf,typeInfo,zeroValue,hi,hz,h.len,hn,h63',h48',Question.forced,hf,hfo,newRow,grownCap];congr 2;apply Array.ext';simp [Bk]
theorem SX (ht:P.underlying t=some (.slice e)) (ht':P.underlying t'=some d') (hd:∀k,d'≠.int k) (hi:P.info? e=some i) {x:Value} {n:Nat} {news:List Value} (h:Src P w i.size n x news)
  (g sLen sCap:Nat) (cur:Array Value) (hg:w.heap[g]?=some (.cells cur e (0,0))) (h1:∀u∈news,u.oneCell'=true)
  (hroom:sLen+n<=sCap) (hfit:sLen * i.size+news.length<=cur.size):
  (Builtin.append_ #[t,t'] ty #[.slice (some ⟨g,0,none⟩) sLen sCap,x]).run P w=
   .ok (.slice (some ⟨g,0,none⟩) (sLen+n) sCap) (w.setRow g (cur.toList.take (sLen * i.size)++news++cur.toList.drop (sLen * i.size+news.length)).toArray):=by
 have hf:=h.all (w':=w) rfl;have hst:=run_storeCells_at P g (sLen * i.size) e news 0 cur w hg (by simpa using hfit) h1
 simp only [Hp] at hst;simp [Builtin.append_,run_underlying ht,run_underlying ht',sizeOf,typeInfo,hi,h.len,hroom,hf,Addr.add_lit,hst]
end append
theorem aic {dT sT ty e:TypeId} {i:TypeInfo} (ht:P.underlying dT=some (.slice e)) (hi:P.info? e=some i) {x:Value} {n:Nat} {news:List Value} (h:Src P w i.size n x news)
  (g o dLen dCap:Nat) (cur:Array Value) (t:TypeId) (hg:w.heap[g]?=some (.cells cur t (0,0))) (h1:∀u∈news,u.oneCell'=true) (hfit:o+dLen * i.size<=cur.size):
  (Builtin.copy_ #[dT,sT] ty #[.slice (some ⟨g,o,none⟩) dLen dCap,x]).run P w=
   .ok (goInt (Nat.min n dLen:Nat)) (w.setRow g (cur.toList.take o++news.take (Nat.min n dLen * i.size)++cur.toList.drop (o+(news.take (Nat.min n dLen * i.size)).length)).toArray):=by
 have hmin:Nat.min n dLen<=n:=Nat.min_le_left _ _;have adO:Nat.min n dLen<=dLen:=Nat.min_le_right _ _;have hf:=h.first w rfl (Nat.min n dLen) hmin;have hlen:(news.take (Nat.min n dLen * i.size)).length=Nat.min n dLen * i.size:=by
  rw [Fo,h.cells];have:=Cl i.size hmin
  omega
 have hle:=Cl i.size adO;have hst:=run_storeCells_at P g o t (news.take (Nat.min n dLen * i.size)) 0 cur w hg (by rw [hlen];omega) (fun u hu=>h1 u (I2 hu))
 simp only [Hp] at hst;simp [Builtin.copy_,run_underlying ht,sizeOf,typeInfo,hi,h.len,hf,hst]
theorem P6 {dT sT ty e:TypeId} {i:TypeInfo} (ht:P.underlying dT=some (.slice e)) (hi:P.info? e=some i) {x:Value} {n:Nat} {news:List Value} (h:Src P w i.size n x news) (a:Addr) (dCap:Nat):
  (Builtin.copy_ #[dT,sT] ty #[.slice (some a) 0 dCap,x]).run P w=.ok (goInt 0) w:=by
 have hf:=h.first w rfl 0 (Ft _);simp at hf;simp [Builtin.copy_,run_underlying ht,sizeOf,typeInfo,hi,h.len,hf,storeCells]
end
section
variable {B:Nat} {S:Nat->Nat->Prop} {P:Program}
theorem Jt {m:M} {cs:List C} {n ay cap:Nat} {a:Addr} (h2:cs≠[]->a.spot=none) (h3:fK m.w (Safe B S m) cs a.block a.off) (hl:cs.length=n * ay):
  ∃news,aF (cK m.w (Safe B S m)) cs news/\Src P m.w ay n (.slice (some a) n cap) news:=by
 obtain ⟨us,h4,h5⟩:=Gn h3;refine ⟨us,h4,Ki (fun hne=>h2 fun e=>hne ?_) (by rw [<-h4.len];exact hl) fun j v hv=>(h5 j v hv).1⟩
 subst e;cases us with
 |nil=>rfl
 |cons _ _=>exact h4.elim
theorem IJ {m:M} (hk:gq B S m) {d:D} {u:Value} (hr:eX B S m d u) {ay n:Nat} {cs:List C} (hs:jU m.h ay d=some (cs,n)) (hl:cs.length=n * ay):
  ∃news,aF (cK m.w (Safe B S m)) cs news/\Src P m.w ay n u news:=by
 cases d with
 |c x=>
  replace hr:cK m.w (Safe B S m) x u:=hr;cases x with
  |lit v=>
   simp only [cK] at hr;obtain ⟨rfl,hsc⟩:=hr;unfold jU at hs;split at hs<;>try (simp only [reduceCtorEq,D.c.injEq] at *;done)
   ·rename_i s h;simp only [D.c.injEq,C.lit.injEq] at h;subst h;split at hs
    ·rename_i he;subst he;simp only [A0,A3] at hs;obtain ⟨rfl,rfl⟩:=hs;refine ⟨_,?_,Yj s⟩;clear hl hsc;generalize s.data.toList=l;induction l with
     |nil=>trivial
     |cons b l ih=>exact ⟨⟨rfl,rfl⟩,ih⟩
    ·cases hs
  |slice cs' n'=>
   simp only [cK] at hr;simp only [jU] at hs;split at hs
   case isFalse=>cases hs
   simp only [A0,A3] at hs;obtain ⟨rfl,rfl⟩:=hs;rcases hr with ⟨rfl,rfl,rfl⟩|⟨a,cap,rfl,h1,h2,h3⟩
   ·exact ⟨[],trivial,aa6⟩
   ·exact Jt h2 h3 hl
 |full cs' n'=>
  simp only [jU] at hs;split at hs
  case isFalse=>cases hs
  simp only [A0,A3] at hs;obtain ⟨rfl,rfl⟩:=hs;rcases hr with ⟨rfl,rfl,rfl⟩|⟨a,rfl,h2,h3⟩
  ·exact ⟨[],trivial,aa6⟩
  ·exact Jt h2 h3 hl
 |arr id off len=>
  obtain ⟨hu,ad,cap,hv,hcap,hr⟩:=hr;simp only [jU] at hs;cases ho:aH m.h id with
  |dead=>rw [ho] at hs;cases hs
  |box ds=>rw [ho] at hs;cases hs
  |map ds=>rw [ho] at hs;cases hs
  |arr cs0 ajX fz ety=>
   rw [ho] at hs hr;simp only at hs hr;split at hs
   case isFalse=>cases hs
   rename_i hc;obtain ⟨rfl,hlen⟩:=hc;simp only [A0,A3] at hs;obtain ⟨rfl,rfl⟩:=hs;obtain ⟨hB,vs,hv1,hv2,hv3⟩:=hk.arr ho;have hall:=(hv3.drop off).take (len * ajX);refine ⟨_,hall,?_⟩;subst hv;rcases hr with ⟨rfl,_⟩|⟨rfl,rfl⟩
   ·refine Ki (fun _=>rfl) (by rw [<-hall.len];exact hl) fun j v hv=>?_
    have hj:j < len * ajX:=by have:=(B0.1 hv).1;simp at this;omega
    rw [Fl hj,N3,Fl (by omega)] at hv
    show m.w.cell? ⟨m.β id,off+j,none⟩=_
    rw [kW hv1];exact hv
   ·refine Ki (fun h=>?_) (by simp) fun j v hv=>?_
    ·simp at h
    ·simp at hv
 |uf=>simp [jU] at hs
 |loc id off=>simp [jU] at hs
 |fD f caps=>simp [jU] at hs
 |mp id=>simp [jU] at hs
 |ptr cs=>simp [jU] at hs
 |agg ds=>simp [jU] at hs
 |lC ds=>simp [jU] at hs
end
end Go.Ey
namespace Go.Ey
open Go.RowKit
theorem WW {op:BinOp} {a b v:Value} (h:wR op a b=some v):scalar v=true:=by
 unfold wR at h;split at h
 ·split at h
  ·unfold FT at h;split at h
   ·cases h
   ·cases op<;>simp at h<;>subst h<;>rfl
  ·split at h
   ·unfold lQ at h;cases op<;>simp at h<;>first|(subst h;rfl)|(obtain ⟨_,rfl⟩:=h;rfl)
   ·cases h
 ·unfold Fz at h;cases op<;>simp at h<;>first|(subst h;rfl)|(obtain ⟨_,rfl⟩:=h;rfl)
 ·cases h
theorem SH {op:BinOp} {a b v:Value} (h:NB op a b=some v):scalar v=true:=by
 unfold NB at h;split at h
 ·cases op<;>simp at h<;>subst h<;>rfl
 ·cases h
theorem YB {op:UnOp} {a v:Value} (h:unV op a=some v):scalar v=true:=by
 unfold unV at h;split at h
 ·cases op<;>simp at h<;>subst h<;>rfl
 ·cases op<;>simp at h<;>subst h<;>rfl
 ·cases h
section
variable {P:Program} {w:World}
theorem MC (op:BinOp) (t:TypeId) (x y:Operand) (k k':IntKind) (p q:Int):(eqGuard op t x y (.int k p) (.int k' q)).run P w=.ok () w:=by cases op<;>rfl
theorem Lc (op:BinOp) (t:TypeId) (x y:Operand) (p q:Bool):(eqGuard op t x y (.bool p) (.bool q)).run P w=.ok () w:=by cases op<;>rfl
theorem Ic (op:BinOp) (t:TypeId) (x y:Operand) (p q:ByteArray):(eqGuard op t x y (.string p) (.string q)).run P w=.ok () w:=by cases op<;>rfl
theorem run_equalIn_bool (d:Nat) {t:TypeId} (ht:P.underlying t=some .bool) (p q:Bool):(Op.equalIn (d+1) t (.bool p) (.bool q)).run P w=.ok (p==q) w:=by simp [Op.equalIn,run_underlying ht]
theorem run_equal_bool {t:TypeId} (ht:P.underlying t=some .bool) (p q:Bool):(Op.equal t (.bool p) (.bool q)).run P w=.ok (p==q) w:=run_equalIn_bool 9999 ht p q
theorem ahX {op:BinOp} {t:TypeId} {x y:Operand} {a b v:Value} {K4:Bool} (hB:K4=true->P.underlying t=some .bool)
  (h:(if K4 then NB op a b else wR op a b)=some v):(do eqGuard op t x y a b;binOp op t a b:Sem Value).run P w=.ok v w:=by
 cases K4 with
 |true=>
  have ht:=hB rfl;simp only [Ek] at h;unfold NB at h;split at h
  ·rename_i p q;have hg:=Lc (P:=P) (w:=w) op t x y p q;simp only [Sem.run_bind,hg,Result.andThen_ok];have he:=run_equal_bool (P:=P) (w:=w) ht p q;cases op<;>simp at h<;>subst h<;>simp [binOp,he]
  ·cases h
 |false=>
  simp only [Cd,C2] at h;unfold wR at h;split at h
  ·rename_i k p k' q;have hg:=MC (P:=P) (w:=w) op t x y k k' p q;simp only [Sem.run_bind,hg,Result.andThen_ok];split at h
   ·rename_i hsh;unfold FT at h;split at h
    ·cases h
    ·rename_i hneg;cases op<;>simp [jr] at hsh<;>simp at h<;>subst h<;>simp [binOp,Op.shift,hneg]
   ·rename_i hsh;split at h
    ·rename_i hkk;subst hkk;unfold lQ at h;cases op<;>simp [jr] at hsh<;>simp at h<;>
      first
       |(subst h;simp [binOp,Op.intArith,Op.intBits,Op.intCmp];done)
       |(obtain ⟨h0,rfl⟩:=h;simp [binOp,Op.intDiv,h0];done)
    ·cases h
  ·rename_i p q;have hg:=Ic (P:=P) (w:=w) op t x y p q;simp only [Sem.run_bind,hg,Result.andThen_ok];unfold Fz at h;have e:IntKind.i64.max=9223372036854775807:=rfl;cases op<;>simp at h<;>
    first
     |(subst h;simp [binOp,Op.stringOp];done)
     |(obtain ⟨h0,rfl⟩:=h
       have h1:¬((p.size+q.size:Nat):Int) > IntKind.i64.max:=by omega
       simp only [binOp,Op.stringOp,Dd h1,Sem.run_pure])
  ·cases h
theorem aj0 {op:UnOp} {a v:Value} (h:unV op a=some v):(Op.unary op a).run P w=.ok v w:=by
 unfold unV at h;split at h
 ·cases op<;>simp at h<;>subst h<;>simp [Op.unary,Op.intArith,Op.intBits]
 ·cases op<;>simp at h<;>subst h<;>simp [Op.unary]
 ·cases h
theorem akm {ts:Array TypeId} {t:TypeId} {a b v:Value} (h:AB true a b=some v):(Builtin.max_ ts t #[a,b]).run P w=.ok v w:=by
 unfold AB at h;split at h
 ·simp only [Ek,A0] at h;subst h;simp [Builtin.max_,Builtin.max2]
 ·cases h
theorem amG {ts:Array TypeId} {t:TypeId} {a b v:Value} (h:AB false a b=some v):(Builtin.min_ ts t #[a,b]).run P w=.ok v w:=by
 unfold AB at h;split at h
 ·simp only [Cd,C2,A0] at h;subst h;simp [Builtin.min_,Builtin.min2]
 ·cases h
theorem G6 {m:Bool} {a b v:Value} (h:AB m a b=some v):scalar v=true:=by
 unfold AB at h;split at h
 ·simp only [A0] at h;subst h;rfl
 ·cases h
end
theorem pg {d:D} {v:Value} (h:CF d=some v):d=.c (.lit v):=by
 unfold CF at h;split at h
 ·simp at h;subst h;rfl
 ·cases h
theorem jO {d:D} {n:Int} (h:Ey.asInt d=some n):∃k,d=.c (.lit (.int k n)):=by
 unfold Ey.asInt at h;split at h
 ·rename_i k n';simp at h;subst h;exact ⟨k,rfl⟩
 ·cases h
theorem Ma {d:D} {b:Bool} (h:Ey.asBool d=some b):d=.c (.lit (.bool b)):=by
 unfold Ey.asBool at h;split at h
 ·simp at h;subst h;rfl
 ·cases h
section
variable {B:Nat} {S:Nat->Nat->Prop}
theorem eX.lit {m:M} {v u:Value} (h:eX B S m (.c (.lit v)) u):u=v:=by have h':cK m.w (Safe B S m) (.lit v) u:=h;simp only [cK] at h';exact h'.1
theorem eX.mkLit {m:M} {v:Value} (h:scalar v=true):eX B S m (.c (.lit v)) v:=by
 show cK m.w (Safe B S m) (.lit v) v
 simp only [cK];exact ⟨trivial,h⟩
def Post (B:Nat) (S:Nat->Nat->Prop) (m:M) (slot:Nat) (us:List (Nat×Obj)) (d:D) (v:Value) (w':World):Prop:=
 ∃β',gq B S ⟨w',aK m.h us,β',fun i=>m.U i\/i=slot⟩/\aS B S m ⟨w',aK m.h us,β',fun i=>m.U i\/i=slot⟩/\
  eX B S ⟨w',aK m.h us,β',fun i=>m.U i\/i=slot⟩ d v/\Below B m.w w'
def Does (B:Nat) (S:Nat->Nat->Prop) (P:Program) (o:Oper) (a:Act) (m:M) (slot:Nat) (d:D) (us:List (Nat×Obj)):Prop:=
 ∃n v w',(execOp a.eval o).run P m.w=.ok n w'/\(n=.value v\/(n=.skip/\v=undef))/\Post B S m slot us d v w'
theorem cu {P:Program} {o:Oper} {a:Act} {m:M} (hk:gq B S m) (slot:Nat) {d:D} {v:Value} (hrun:(execOp a.eval o).run P m.w=.ok (.value v) m.w) (hr:eX B S m d v):
  Does B S P o a m slot d []:=
 ⟨_,v,m.w,hrun,.inl rfl,m.β,x9 hk slot,gL m slot,(gL m slot).XP hr,Below.refl _ _⟩
def FY (B:Nat) (S:Nat->Nat->Prop) (m:M) (ρ:X->D) (a:Act):Prop:=∀x X,bY x=some X->eX B S m (ρ X) (a.eval x)
theorem dR {d:Option D} {x:D} {us:List (Nat×Obj)} (h:dS d=some (x,us)):d=some x/\us=[]:=by
 unfold dS at h;cases d with
 |none=>simp at h
 |some y=>simp only [G3,A0,A3] at h;exact ⟨by rw [h.1],h.2.symm⟩
variable {P:Program} {o:Oper} {a:Act} {m:M} {slot:Nat} {ρ:X->D} {d:D} {us:List (Nat×Obj)}
theorem Xe (hk:gq B S m) (ho:FY B S m ρ a) {x:Operand} {X:X} (hop:o.op=.move x\/o.op=.assign x) (hx:bY x=some X)
  (hs:step ρ m.h slot (.ZN X)=some (d,us)):Does B S P o a m slot d us:=by
 simp only [step,dS,G3,A0,A3] at hs;obtain ⟨rfl,rfl⟩:=hs;refine cu hk slot (v:=a.eval x) ?_ (ho x X hx);rcases hop with h|h<;>simp [execOp,h]
theorem ab0 (hk:gq B S m) (ho:FY B S m ρ a) {c x y:Operand} {C' X' Y':X} (hop:o.op=.pick c x y) (hc:bY c=some C') (hx:bY x=some X') (hy:bY y=some Y')
  (hs:step ρ m.h slot (.pick C' X' Y')=some (d,us)):Does B S P o a m slot d us:=by
 simp only [step] at hs;obtain ⟨h1,rfl⟩:=dR hs;simp only [A2,A1,A0] at h1;obtain ⟨t,h2,rfl⟩:=h1;have h3:=ho c C' hc;rw [Ma h2] at h3;have h4:=h3.lit;refine cu hk slot (v:=if t then a.eval x else a.eval y) ?_ ?_
 ·simp [execOp,hop,h4,Go.asBool]
 ·cases t
  ·exact ho y Y' hy
  ·exact ho x X' hx
theorem O0 (hk:gq B S m) (ho:FY B S m ρ a) {op:BinOp} {t t':TypeId} {x y:Operand} {K4:Bool} {X' Y':X} (hop:o.op=.binOp op t x y t') (hB:K4=true->P.underlying t=some .bool)
  (hx:bY x=some X') (hy:bY y=some Y') (hs:step ρ m.h slot (.bin op K4 X' Y')=some (d,us)):Does B S P o a m slot d us:=by
 simp only [step] at hs;obtain ⟨h1,rfl⟩:=dR hs;simp only [A2,A1,Fc] at h1;obtain ⟨p,h2,q,h3,v,h4,rfl⟩:=h1;have e1:=ho x X' hx;have e2:=ho y Y' hy;rw [pg h2] at e1;rw [pg h3] at e2;refine cu hk slot (v:=v) ?_ (eX.mkLit ?_)
 ·have hrun:=ahX (P:=P) (w:=m.w) (op:=op) (t:=t) (x:=x) (y:=y) hB h4;simp only [execOp,hop,e1.lit,e2.lit];simp only [Sem.run_bind] at hrun |-;rw [hrun];rfl
 ·cases K4
  ·exact WW h4
  ·exact SH h4
theorem aih (hk:gq B S m) (ho:FY B S m ρ a) {op:UnOp} {t:TypeId} {x:Operand} {X':X} (hop:o.op=.unOp op t x) (hx:bY x=some X')
  (hs:step ρ m.h slot (.un op X')=some (d,us)):Does B S P o a m slot d us:=by
 simp only [step] at hs;obtain ⟨h1,rfl⟩:=dR hs;simp only [A2,A1,Fc] at h1;obtain ⟨p,h2,v,h4,rfl⟩:=h1;have e1:=ho x X' hx;rw [pg h2] at e1;refine cu hk slot (v:=v) ?_ (eX.mkLit (YB h4));have hrun:=aj0 (P:=P) (w:=m.w) h4;simp [execOp,hop,e1.lit,hrun]
theorem acp (hk:gq B S m) (ho:FY B S m ρ a) {src dst:TypeId} {k0 k:IntKind} {x:Operand} {X':X} (hop:o.op=.convert src dst x) (h1:P.underlying src=some (.int k0)) (h2:P.underlying dst=some (.int k))
  (hx:bY x=some X') (hs:step ρ m.h slot (.conv k X')=some (d,us)):Does B S P o a m slot d us:=by
 simp only [step] at hs;obtain ⟨h3,rfl⟩:=dR hs;simp only [A2,A1,A0] at h3;obtain ⟨n,h4,rfl⟩:=h3;obtain ⟨k1,h5⟩:=jO h4;have e1:=ho x X' hx;rw [h5] at e1;refine cu hk slot (v:=.int k (k.wrap n)) ?_ (eX.mkLit rfl);simp [execOp,hop,e1.lit,convert,run_underlying h1,run_underlying h2,Conv.intToInt]
theorem aiK (hk:gq B S m) (ho:FY B S m ρ a) {x y:Operand} {ts:Array TypeId} {X' Y':X} (hop:o.op=.call { callee:=.builtin .max,args:=#[x,y],argTypes:=ts})
  (hx:bY x=some X') (hy:bY y=some Y') (hs:step ρ m.h slot (.mx X' Y')=some (d,us)):Does B S P o a m slot d us:=by
 simp only [step] at hs;obtain ⟨h1,rfl⟩:=dR hs;simp only [A2,A1,Fc] at h1;obtain ⟨p,h2,q,h3,v,h4,rfl⟩:=h1;have e1:=ho x X' hx;have e2:=ho y Y' hy;rw [pg h2] at e1;rw [pg h3] at e2;refine cu hk slot (v:=v) ?_ (eX.mkLit (G6 h4));have hrun:=akm (P:=P) (w:=m.w) (ts:=ts) (t:=o.type) h4;simp [execOp,hop,resolve,invoke,builtin,e1.lit,e2.lit,hrun]
theorem agP (hk:gq B S m) (ho:FY B S m ρ a) {x y:Operand} {ts:Array TypeId} {X' Y':X} (hop:o.op=.call { callee:=.builtin .min,args:=#[x,y],argTypes:=ts})
  (hx:bY x=some X') (hy:bY y=some Y') (hs:step ρ m.h slot (.mn X' Y')=some (d,us)):Does B S P o a m slot d us:=by
 simp only [step] at hs;obtain ⟨h1,rfl⟩:=dR hs;simp only [A2,A1,Fc] at h1;obtain ⟨p,h2,q,h3,v,h4,rfl⟩:=h1;have e1:=ho x X' hx;have e2:=ho y Y' hy;rw [pg h2] at e1;rw [pg h3] at e2;refine cu hk slot (v:=v) ?_ (eX.mkLit (G6 h4));have hrun:=amG (P:=P) (w:=m.w) (ts:=ts) (t:=o.type) h4;simp [execOp,hop,resolve,invoke,builtin,e1.lit,e2.lit,hrun]
theorem af2 {ds:List D} {us:List Value} {i:Nat} {d:D} (h:aF (nH B S m) ds us) (hi:ds[i]?=some d):∃u,us[i]?=some u/\nH B S m d u:=h.get i hi
theorem nH.nE {m:M} {d:D} {u:Value} (h:nH B S m d u):eX B S m d u:=by
 cases d with
 |lC ds=>exact h.elim
 |_=>exact h
theorem gu.toA {m:M} {d:D} {u:Value} (h:gu B S m d u):nH B S m d u:=by
 cases d with
 |agg ds=>exact h.elim
 |_=>exact h
theorem gu.nE {m:M} {d:D} {u:Value} (h:gu B S m d u):eX B S m d u:=h.toA.nE
theorem aep (hk:gq B S m) (ho:FY B S m ρ a) {x:Operand} {X':X} {i:Nat} (hop:o.op=.extract x i) (hx:bY x=some X')
  (hs:step ρ m.h slot (.ext X' i)=some (d,us)):Does B S P o a m slot d us:=by
 simp only [step] at hs;obtain ⟨h1,rfl⟩:=dR hs;have e1:=ho x X' hx;split at h1
 ·rename_i ds hd;rw [hd] at e1;obtain ⟨vs,e2,e3⟩:=e1;obtain ⟨u,e4,e5⟩:=af2 e3 h1;refine cu hk slot (v:=u) ?_ e5.nE;simp [execOp,hop,e2,Instr.extract,e4]
 ·cases h1
theorem VC (hk:gq B S m) (ho:FY B S m ρ a) {x:Operand} {X':X} {t:TypeId} {isStr:Bool} (hop:o.op=.call { callee:=.builtin .len,args:=#[x],argTypes:=#[t]})
  (ht:if isStr then P.underlying t=some .string else ∃e,P.underlying t=some (.slice e)) (hx:bY x=some X') (hs:step ρ m.h slot (.len isStr X')=some (d,us)):Does B S P o a m slot d us:=by
 simp only [step] at hs;obtain ⟨h1,rfl⟩:=dR hs;have e1:=ho x X' hx;unfold O1 at h1;split at h1<;>cases isStr<;>simp only [Ek,Cd,C2,A0,reduceCtorEq] at h1 ht<;>subst h1
 ·rename_i id off len he;rw [he] at e1;obtain ⟨_,ad,cap,e2,_⟩:=e1;obtain ⟨e,ht⟩:=ht;refine cu hk slot (v:=.int .i64 len) ?_ (eX.mkLit rfl);simp [execOp,hop,resolve,invoke,builtin,e2,Builtin.len_,run_underlying ht,goInt]
 ·rename_i cs n he;rw [he] at e1;have MJ:cK m.w (Safe B S m) (.slice cs n) (a.eval x):=e1;simp only [cK] at MJ;obtain ⟨e,ht⟩:=ht;refine cu hk slot (v:=.int .i64 n) ?_ (eX.mkLit rfl);rcases MJ with ⟨e2,rfl,_⟩|⟨ad,cap,e2,_⟩<;>
  simp [execOp,hop,resolve,invoke,builtin,e2,Builtin.len_,run_underlying ht,goInt]
 ·rename_i cs n he;rw [he] at e1;obtain ⟨e,ht⟩:=ht;refine cu hk slot (v:=.int .i64 n) ?_ (eX.mkLit rfl);rcases e1 with ⟨e2,rfl,_⟩|⟨ad,e2,_⟩<;>
  simp [execOp,hop,resolve,invoke,builtin,e2,Builtin.len_,run_underlying ht,goInt]
 ·rename_i s he;rw [he] at e1;refine cu hk slot (v:=.int .i64 s.size) ?_ (eX.mkLit rfl);simp [execOp,hop,resolve,invoke,builtin,e1.lit,Builtin.len_,run_underlying ht,goInt]
end
end Go.Ey
namespace Go.Ey
open Go.RowKit
def Typed (P:Program):Nat->TypeId->List C->Prop
 |0,_,_=>False
 |n+1,t,cs=>
  match P.underlying t with
  |some .bool=>∃b,cs=[.lit (.bool b)]
  |some (.int k)=>∃z,cs=[.lit (.int k z)]/\(Lit.int k z).wf=true
  |some .string=>∃s:ByteArray,cs=[.lit (.string s)]/\s.size<=maxLen
  |some (.slice e)=>∃rows:List (List C),cs=[.slice rows.flatten rows.length]/\rows.length<=maxLen/\∀r∈rows,r.length=P.cellsOf e/\Typed P n e r
  |some (.struct fs)=>cs.length=P.cellsOf t/\∀f∈fs.toList,Typed P n f.type ((cs.drop f.offset).take (P.cellsOf f.type))
  |_=>False
def aeW (P:Program) (total:Nat):Nat->List Field->Bool
 |off,[]=>decide (off=total)
 |off,f::fs=>decide (f.offset=off) && decide (off+P.cellsOf f.type<=total) && aeW P total (off+P.cellsOf f.type) fs
def Vq (P:Program):Nat->TypeId->Bool
 |0,_=>false
 |n+1,t=>
  match P.underlying t with
  |some .bool|some (.int _)|some .string=>true
  |some (.slice e)=>decide (0 < P.cellsOf e) && Vq P n e
  |some (.struct fs)=>aeW P (P.cellsOf t) 0 fs.toList && fs.toList.all fun f=>Vq P n f.type
  |_=>false
def Any:Nat->Nat->Prop:=fun _ _=>True
section
variable {H:Type} {enc:TypeId×Value->H} {P:Program} {w:World} {base:Nat} {spare:Nat->Bool} {held:Bool}
theorem RU {n total:Nat} {vs:List Value} (hv:vs.length=total):∀(fs:List Field) (off:Nat),off<=total->aeW P total off fs=true->
  (∀f∈fs,∃cs,aF (cK w Any) cs ((vs.drop f.offset).take (P.cellsOf f.type))/\Typed P n f.type cs)->
  ∃cs,aF (cK w Any) cs (vs.drop off)/\∀f∈fs,off<=f.offset/\Typed P n f.type ((cs.drop (f.offset - off)).take (P.cellsOf f.type))
 |[],off,_,ht,_=>by simp only [aeW,F1] at ht;subst ht;exact ⟨[],by rw [List.drop_eq_nil_of_le (by omega)];trivial,by simp⟩
 |f::fs,off,ho,ht,hf=>by
  simp only [aeW,As,F1] at ht;obtain ⟨⟨h1,h2⟩,h3⟩:=ht;obtain ⟨c0,k1,k2⟩:=hf f (by simp)
  obtain ⟨cs,k3,k4⟩:=RU hv fs (off+P.cellsOf f.type) h2 h3 fun g hg=>hf g (by simp [hg])
  have hlen:c0.length=P.cellsOf f.type:=by rw [k1.len,Fo,G0];omega
  refine ⟨c0++cs,?_,fun g hg=>?_⟩
  ·have:=k1.append k3
   rw [h1,<-List.drop_drop,Mu] at this;exact this
  ·simp only [D1] at hg;rcases hg with rfl|hg
   ·refine ⟨by omega,?_⟩
    rw [h1,Nat.sub_self,An,M1 (by omega),K2 (by omega)]
    exact k2
   ·obtain ⟨k5,k6⟩:=k4 g hg;refine ⟨by omega,?_⟩
    rw [show g.offset - off=c0.length+(g.offset - (off+P.cellsOf f.type)) by omega,<-List.drop_drop,List.drop_left]
    exact k6
theorem QA {n c:Nat} {e:TypeId} {a:Addr} (hc:c=P.cellsOf e):∀k,(∀i,i < k->∃us cs,w.cells? base (a.add (i * c)) c=some us/\aF (cK w Any) cs us/\Typed P n e cs)->
  ∃(rows:List (List C)) (us:List Value),rows.length=k/\us.length=k * c/\aF (cK w Any) rows.flatten us/\(∀j u,us[j]?=some u->w.cell? (a.add j)=some u)/\∀r∈rows,r.length=c/\Typed P n e r
 |0,_=>⟨[],[],rfl,by simp,trivial,by simp,by simp⟩
 |k+1,h=>by
  obtain ⟨rows,us,h1,h2,h3,h4,h5⟩:=QA hc k fun i hi=>h i (by omega)
  obtain ⟨vs,cs,k1,k2,k3⟩:=h k (by omega)
  obtain ⟨_,k4,k5⟩:=World.cells?_some k1;refine ⟨rows++[cs],us++vs,by simp [h1],by rw [B8,h2,k4,G2],?_,?_,?_⟩
  ·simp only [List.flatten_append,List.flatten_cons,List.flatten_nil,D0];exact h3.append k2
  ·intro j u hu;by_cases hj:j < us.length
   ·rw [Ge hj] at hu;exact h4 j u hu
   ·rw [Hv (by omega)] at hu
    have hlt:=(B0.1 hu).1;have:=k5 (j - us.length) (by omega)
    rw [Go.Deep.add_add,hu,h2] at this;rw [show k * c+(j - k * c)=j by omega] at this
    exact this
  ·intro r hr;simp only [Bx,By] at hr;rcases hr with hr|rfl
   ·exact h5 r hr
   ·exact ⟨by rw [k2.len,k4],k3⟩
theorem ab7 {a:Addr} {rows:List C} {us:List Value} {len cap:Nat} (hl:len<=cap) (h3:aF (cK w Any) rows us) (h4:∀j u,us[j]?=some u->w.cell? (a.add j)=some u):cK w Any (.slice rows len) (.slice (some a) len cap):=by
 simp only [cK];have hs:rows≠[]->a.spot=none:=by
  intro hne;cases us with
  |nil=>cases rows with|nil=>exact absurd rfl hne|cons _ _=>exact h3.elim
  |cons u us=>
   have:=World.cell?_spot (h4 0 u rfl)
   simpa [Addr.add] using this
 refine .inr ⟨a,cap,rfl,hl,hs,Jo h3 fun i u hi=>⟨?_,trivial⟩⟩
 have hne:rows≠[]:=by
  intro e;subst e;cases us with
  |nil=>simp at hi
  |cons _ _=>exact h3.elim
 obtain ⟨b,o,sp⟩:=a;have:sp=none:=hs hne
 subst this;have:=h4 i u hi
 unfold Addr.add at this;split at this
 ·rename_i h0;subst h0;exact this
 ·exact this
theorem Aq:∀(n:Nat) (t:TypeId),Vq P n t=true->∀(fuel:Nat) (vs:List Value) (x:DataW H×List MemPlace),DataW.trod enc P w base spare held fuel t vs=some x->∃cs,aF (cK w Any) cs vs/\Typed P n t cs
 |0,_,h,_,_,_,_=>by cases h
 |n+1,t,h,fuel,vs,x,hx=>by
  unfold Vq at h;cases ht:P.underlying t with
  |none=>rw [ht] at h;cases h
  |some d=>
   rw [ht] at h;cases d with
   |bool=>
    obtain ⟨b,rfl,_⟩:=DataW.trod_bool ht hx;exact ⟨[.lit (.bool b)],⟨⟨rfl,rfl⟩,trivial⟩,by unfold Typed;rw [ht];exact ⟨b,rfl⟩⟩
   |int k=>
    obtain ⟨z,rfl,_,hw⟩:=DataW.trod_int ht hx;exact ⟨[.lit (.int k z)],⟨⟨rfl,rfl⟩,trivial⟩,by unfold Typed;rw [ht];exact ⟨z,rfl,hw⟩⟩
   |string=>
    obtain ⟨s,rfl,_,hs⟩:=DataW.trod_string ht hx;exact ⟨[.lit (.string s)],⟨⟨rfl,rfl⟩,trivial⟩,by unfold Typed;rw [ht];exact ⟨s,rfl,hs⟩⟩
   |slice e=>
    simp only [As,F1] at h;rcases Go.Deep.open_slice ht hx with ⟨rfl,_⟩|⟨a,len,cap,m,n',D,Pl,rfl,hb,hl,hm,hmm,_,hel⟩
    ·refine ⟨[.slice [] 0],⟨by unfold cK;exact .inl ⟨rfl,rfl,rfl⟩,trivial⟩,?_⟩
     unfold Typed;rw [ht];exact ⟨[],rfl,by simp,by simp⟩
    ·have hlm:len<=m:=by rw [hmm];split<;>omega
     obtain ⟨rows,us,h1,h2,h3,h4,h5⟩:=QA (w:=w) (base:=base) (n:=n) (a:=a) (rfl:P.cellsOf e=P.cellsOf e) len fun i hi=>by
      obtain ⟨us,k1,k2⟩:=hel i (by omega)
      obtain ⟨cs,k3,k4⟩:=Aq n e h.2 n' us _ k2;exact ⟨us,cs,k1,k3,k4⟩
     refine ⟨[.slice rows.flatten rows.length],⟨?_,trivial⟩,?_⟩
     ·rw [h1];exact ab7 hl h3 h4
     ·unfold Typed;rw [ht];exact ⟨rows,rfl,by omega,h5⟩
   |struct fs=>
    simp only [As,E0] at h;obtain ⟨xs,m,rfl,_,hl,hxl,hf⟩:=DataW.trod_struct ht hx;obtain ⟨cs,k1,k2⟩:=RU (w:=w) (n:=n) hl fs.toList 0 (by omega) h.1 fun f hfm=>by
     obtain ⟨i,hi,hif⟩:=List.getElem_of_mem hfm;have hi':i < fs.size:=by simpa using hi
     have h1:=hf i f (by rw [L5 hi'];simpa using hif)
     rw [Ax (by omega)] at h1
     exact Aq n f.type (h.2 f hfm) m _ _ h1
    rw [An] at k1;refine ⟨cs,k1,?_⟩;unfold Typed;rw [ht];refine ⟨by rw [k1.len];exact hl,fun f hfm=>?_⟩
    have:=(k2 f hfm).2
    rw [Nat.sub_zero] at this;exact this
   |_=>cases h
end
end Go.Ey
