/- A part of the proof. -/
import Derived.Test.YtpginbppmgdndaaGreatDoorY02
import Derived.Below
set_option linter.all false
namespace Go.Ey
open Go.RowKit
section
variable (w:World) (Sf:Nat→Nat→Prop)
mutual
def RepC:C→Value→Prop
 |.lit v,u=>u=v∧scalar v=true
 |.slice cs n,u=>(u=.slice none 0 0∧n=0∧cs=[])∨∃a cap,u=.slice (some a) n cap∧n≤cap∧(cs≠[]→a.spot=none)∧RepCs cs a.block a.off
def RepCs:List C→Nat→Nat→Prop
 |[],_,_=>True
 |c::cs,b,o=>(∃u,w.cell? ⟨b,o,none⟩=some u∧Sf b o∧RepC c u)∧RepCs cs b (o+1)
end
end
mutual
theorem RepC.mono {w w':World} {Sf Sf':Nat→Nat→Prop} (h:∀b o u,w.cell? ⟨b,o,none⟩=some u→Sf b o→w'.cell? ⟨b,o,none⟩=some u∧Sf' b o):
  ∀(c:C) (u:Value),RepC w Sf c u→RepC w' Sf' c u
 |.lit v,u,hr=>by simpa [RepC] using hr
 |.slice cs n,u,hr=>by
  simp only [RepC] at hr ⊢
  rcases hr with hr|⟨a,cap,h1,h2,h3,h4⟩
  ·exact .inl hr
  ·exact .inr ⟨a,cap,h1,h2,h3,RepCs.mono h cs _ _ h4⟩
theorem RepCs.mono {w w':World} {Sf Sf':Nat→Nat→Prop} (h:∀b o u,w.cell? ⟨b,o,none⟩=some u→Sf b o→w'.cell? ⟨b,o,none⟩=some u∧Sf' b o):
  ∀(cs:List C) (b o:Nat),RepCs w Sf cs b o→RepCs w' Sf' cs b o
 |[],_,_,_=>by simp [RepCs]
 |c::cs,b,o,hr=>by
  simp only [RepCs] at hr ⊢
  obtain ⟨⟨u,h1,h2,h3⟩,h4⟩:=hr
  obtain ⟨h5,h6⟩:=h b o u h1 h2
  exact ⟨⟨u,h5,h6,RepC.mono h c u h3⟩,RepCs.mono h cs b (o+1) h4⟩
end
def All2 {α β:Type} (R:α→β→Prop):List α→List β→Prop
 |[],[]=>True
 |a::as,b::bs=>R a b∧All2 R as bs
 |_,_=>False
section
variable {α β:Type} {R R':α→β→Prop}
theorem All2.mono (h:∀a b,R a b→R' a b):∀{as:List α} {bs:List β},All2 R as bs→All2 R' as bs
 |[],[],_=>trivial
 |_::_,_::_,h1=>⟨h _ _ h1.1,All2.mono h h1.2⟩
 |[],_::_,h1=>h1.elim
 |_::_,[],h1=>h1.elim
theorem All2.len:∀{as:List α} {bs:List β},All2 R as bs→as.length=bs.length
 |[],[],_=>rfl
 |_::_,_::_,h1=>by simp [All2.len h1.2]
 |[],_::_,h1=>h1.elim
 |_::_,[],h1=>h1.elim
theorem All2.append:∀{as:List α} {bs:List β} {as':List α} {bs':List β},All2 R as bs→All2 R as' bs'→All2 R (as++as') (bs++bs')
 |[],[],_,_,_,h2=>h2
 |_::_,_::_,_,_,h1,h2=>⟨h1.1,All2.append h1.2 h2⟩
 |[],_::_,_,_,h1,_=>h1.elim
 |_::_,[],_,_,h1,_=>h1.elim
theorem All2.take:∀(n:Nat) {as:List α} {bs:List β},All2 R as bs→All2 R (as.take n) (bs.take n)
 |0,_,_,_=>by simp [All2]
 |_+1,[],[],_=>by simp [All2]
 |n+1,_::_,_::_,h1=>by simp only [List.take_succ_cons];exact ⟨h1.1,All2.take n h1.2⟩
 |_+1,[],_::_,h1=>h1.elim
 |_+1,_::_,[],h1=>h1.elim
theorem All2.drop:∀(n:Nat) {as:List α} {bs:List β},All2 R as bs→All2 R (as.drop n) (bs.drop n)
 |0,_,_,h1=>by simpa using h1
 |_+1,[],[],_=>by simp [All2]
 |n+1,_::_,_::_,h1=>by simp only [List.drop_succ_cons];exact All2.drop n h1.2
 |_+1,[],_::_,h1=>h1.elim
 |_+1,_::_,[],h1=>h1.elim
theorem All2.get:∀(n:Nat) {as:List α} {bs:List β} {a:α},All2 R as bs→as[n]?=some a→∃b,bs[n]?=some b∧R a b
 |_,[],[],_,_,h=>by simp at h
 |0,_::_,b::_,_,h1,h=>by simp at h;subst h;exact ⟨b,by simp,h1.1⟩
 |n+1,_::_,_::_,_,h1,h=>by simp at h;obtain ⟨b,h2,h3⟩:=All2.get n h1.2 h;exact ⟨b,by simpa using h2,h3⟩
 |_,[],_::_,_,h1,_=>h1.elim
 |_,_::_,[],_,h1,_=>h1.elim
theorem All2.map_left {γ:Type} {f:γ→α}:∀{as:List γ} {bs:List β},All2 (fun a b=>R (f a) b) as bs→All2 R (as.map f) bs
 |[],[],_=>trivial
 |_::_,_::_,h1=>⟨h1.1,All2.map_left h1.2⟩
 |[],_::_,h1=>h1.elim
 |_::_,[],h1=>h1.elim
theorem All2.splice {as:List α} {bs:List β} {xs:List α} {ys:List β} (off:Nat) (h:All2 R as bs) (hx:All2 R xs ys):
  All2 R (splice as off xs) (bs.take off++ys++bs.drop (off+ys.length)):=by
 unfold Ey.splice
 rw [hx.len]
 exact ((h.take off).append hx).append (h.drop _)
end
structure M where
 w:World
 h:Heap
 β:Nat→Nat
 U:Nat→Prop
def Safe (_:Nat) (S:Nat→Nat→Prop) (m:M) (b o:Nat):Prop:=
 S b o∧∀id,match getH m.h id with
   |.dead=>True
   |.box _=>m.β id≠b
   |.map _=>m.β id≠b
   |.arr _ _ fz _=>m.β id=b→o < fz
def RepV (w:World) (Sf:Nat→Nat→Prop):V→Value→Prop
 |.one c,u=>RepC w Sf c u
 |.agg cs,u=>∃us:List Value,u=.agg us.toArray∧All2 (RepC w Sf) cs us
theorem RepV.mono {w w':World} {Sf Sf':Nat→Nat→Prop} (h:∀b o u,w.cell? ⟨b,o,none⟩=some u→Sf b o→w'.cell? ⟨b,o,none⟩=some u∧Sf' b o) {v:V} {u:Value} (hr:RepV w Sf v u):RepV w' Sf' v u:=by
 cases v with
 |one c=>exact RepC.mono h c u hr
 |agg cs=>obtain ⟨us,h1,h2⟩:=hr;exact ⟨us,h1,h2.mono fun x u h3=>RepC.mono h x u h3⟩
section
variable (B:Nat) (S:Nat→Nat→Prop)
def RepDc (m:M):D→Value→Prop
 |.unk,_=>True
 |.c x,u=>RepC m.w (Safe B S m) x u
 |.loc id off,u=>m.U id∧u=.pointer (some ⟨m.β id,off,none⟩)
 |.arr id off len,u=>m.U id∧∃ad cap,u=.slice (some ad) len cap∧len≤cap∧match getH m.h id with
  |.arr _ esz _ ety=>(ad=⟨m.β id,off,none⟩∧∃sz,m.w.shape? (m.β id)=some (ety,sz)∧off+cap * esz=sz∧cap≤maxLen)∨(len=0∧cap=0)
  |_=>True
 |.ptr cs,u=>∃a,u=.pointer (some a)∧(cs≠[]→a.spot=none)∧RepCs m.w (Safe B S m) cs a.block a.off
 |.full cs n,u=>(u=.slice none 0 0∧n=0∧cs=[])∨∃a,u=.slice (some a) n n∧(cs≠[]→a.spot=none)∧RepCs m.w (Safe B S m) cs a.block a.off
 |.clo f caps,u=>u=.func (.func f) #[] (caps.map fun p=>Value.pointer (some ⟨m.β p.1,p.2,none⟩)).toArray∧∀p∈caps,m.U p.1
 |.mp id,u=>m.U id∧u=.map (some (m.β id))
 |_,_=>False
def RepA (m:M):D→Value→Prop
 |.agg ds,u=>∃us:List Value,u=.agg us.toArray∧All2 (RepDc B S m) ds us
 |d,u=>RepDc B S m d u
def RepD (m:M):D→Value→Prop
 |.tup ds,u=>∃us:List Value,u=.tuple us.toArray∧All2 (RepA B S m) ds us
 |d,u=>RepA B S m d u
def RepOb (m:M) (k:Nat):Obj→Prop
 |.dead=>True
 |.box ds=>B≤k∧∃(us:List Value) (e:TypeId),m.w.heap[k]?=some (.cells us.toArray e (0,0))∧All2 (RepDc B S m) ds us
 |.arr cs _ _ ety=>B≤k∧∃us:List Value,m.w.heap[k]?=some (.cells us.toArray ety (0,0))∧cs.length≤us.length∧All2 (RepC m.w (Safe B S m)) cs (us.take cs.length)
 |.map es=>B≤k∧∃(ents:Array MapEntry) (ck:Nat),m.w.heap[k]?=some (.map ents ck)∧All2 (fun e x=>RepV m.w (Safe B S m) e.1 x.key∧RepV m.w (Safe B S m) e.2 x.val) es ents.toList
def RepO (m:M) (id:Nat):Prop:=RepOb B S m (m.β id) (getH m.h id)
structure HOK (m:M):Prop where
 obj:∀id,RepO B S m id
 inj:∀i j,getH m.h i≠.dead→getH m.h j≠.dead→m.β i=m.β j→i=j
 dom:∀id,¬m.U id→getH m.h id=.dead
 base:B≤m.w.heap.size
 fresh:∀b o,m.w.heap.size≤b→S b o
 arrS:∀id cs esz fz ety,getH m.h id=.arr cs esz fz ety→∀o,S (m.β id) o
structure Evolves (m m':M):Prop where
 cell:∀b o u,m.w.cell? ⟨b,o,none⟩=some u→Safe B S m b o→m'.w.cell? ⟨b,o,none⟩=some u∧Safe B S m' b o
 used:∀id,m.U id→m'.U id
 dead:∀id,m.U id→getH m.h id=.dead→getH m'.h id=.dead
 at_:∀id,m.U id→m'.β id=m.β id
 kind:∀id cs' esz' fz' ety',m.U id→getH m'.h id=.arr cs' esz' fz' ety'→∃cs fz,getH m.h id=.arr cs esz' fz ety'∧m'.w.shape? (m.β id)=m.w.shape? (m.β id)
 rest:∀b,B≤b→b < m.w.heap.size→(∀id,getH m.h id≠.dead→m.β id≠b)→m'.w.heap[b]?=m.w.heap[b]?∧∀id,getH m'.h id≠.dead→m'.β id≠b
variable {B S}
theorem Evolves.refl (m:M):Evolves B S m m:=
 ⟨fun _ _ _ h1 h2=>⟨h1,h2⟩,fun _ h=>h,fun _ _ h=>h,fun _ _=>rfl,fun _ cs' _ fz' _ _ h=>⟨cs',fz',h,rfl⟩,fun _ _ _ h=>⟨rfl,h⟩⟩
theorem Evolves.trans {m m' m'':M} (h:Evolves B S m m') (k:Evolves B S m' m''):Evolves B S m m'' where
 cell b o u h1 h2:=k.cell b o u (h.cell b o u h1 h2).1 (h.cell b o u h1 h2).2
 used id hu:=k.used id (h.used id hu)
 dead id hu hd:=k.dead id (h.used id hu) (h.dead id hu hd)
 at_ id hu:=by rw [k.at_ id (h.used id hu),h.at_ id hu]
 kind id cs' esz' fz' ety' hu hk:=by
  obtain ⟨cs,fz,h1,h2⟩:=k.kind id cs' esz' fz' ety' (h.used id hu) hk
  obtain ⟨cs0,fz0,h3,h4⟩:=h.kind id cs esz' fz ety' hu h1
  refine ⟨cs0,fz0,h3,?_⟩
  rw [←h4,←h.at_ id hu,h2]
 rest b hB hb hn:=by
  obtain ⟨h1,h2⟩:=h.rest b hB hb hn
  have hb':b < m'.w.heap.size:=by
   rw [Array.getElem?_eq_getElem hb] at h1
   exact (Array.getElem?_eq_some_iff.1 h1).1
  obtain ⟨k1,k2⟩:=k.rest b hB hb' h2
  exact ⟨k1.trans h1,k2⟩
theorem Evolves.repDc {m m':M} (h:Evolves B S m m') {d:D} {u:Value} (hr:RepDc B S m d u):RepDc B S m' d u:=by
 cases d with
 |unk=>trivial
 |c x=>exact RepC.mono h.cell x u hr
 |loc id off=>
  obtain ⟨h1,h2⟩:=hr
  exact ⟨h.used id h1,by rw [h.at_ id h1];exact h2⟩
 |arr id off len=>
  obtain ⟨h1,ad,cap,e1,e2,h2⟩:=hr
  refine ⟨h.used id h1,ad,cap,e1,e2,?_⟩
  split
  ·rename_i cs' esz' fz' ety' hk
   obtain ⟨cs,fz,h3,h4⟩:=h.kind id cs' esz' fz' ety' h1 hk
   have h5:=h.at_ id h1
   rw [h3] at h2
   simp only at h2
   rcases h2 with ⟨e6,sz,e3,e4,e5⟩|h2
   ·exact .inl ⟨by rw [h5];exact e6,sz,by rw [h5,h4];exact e3,e4,e5⟩
   ·exact .inr h2
  ·trivial
 |ptr cs=>
  obtain ⟨a,h1,h2,h3⟩:=hr
  exact ⟨a,h1,h2,RepCs.mono h.cell cs _ _ h3⟩
 |full cs n=>
  rcases hr with hr|⟨a,h1,h2,h3⟩
  ·exact .inl hr
  ·exact .inr ⟨a,h1,h2,RepCs.mono h.cell cs _ _ h3⟩
 |clo f caps=>
  obtain ⟨h1,h2⟩:=hr
  refine ⟨?_,fun p hp=>h.used _ (h2 p hp)⟩
  rw [h1]
  congr 2
  exact List.map_congr_left fun p hp=>by rw [h.at_ _ (h2 p hp)]
 |mp id=>
  obtain ⟨h1,h2⟩:=hr
  exact ⟨h.used id h1,by rw [h.at_ id h1];exact h2⟩
 |agg ds=>exact hr.elim
 |tup ds=>exact hr.elim
theorem Evolves.repA {m m':M} (h:Evolves B S m m') {d:D} {u:Value} (hr:RepA B S m d u):RepA B S m' d u:=by
 cases d with
 |agg ds=>obtain ⟨us,h1,h2⟩:=hr;exact ⟨us,h1,h2.mono fun _ _ h3=>h.repDc h3⟩
 |unk=>exact h.repDc (d:=.unk) (u:=u) hr
 |c x=>exact h.repDc (d:=.c x) hr
 |loc id off=>exact h.repDc (d:=.loc id off) hr
 |arr id off len=>exact h.repDc (d:=.arr id off len) hr
 |ptr cs=>exact h.repDc (d:=.ptr cs) hr
 |full cs n=>exact h.repDc (d:=.full cs n) hr
 |clo f caps=>exact h.repDc (d:=.clo f caps) hr
 |mp id=>exact h.repDc (d:=.mp id) hr
 |tup ds=>exact h.repDc (d:=.tup ds) (u:=u) hr
theorem Evolves.repD {m m':M} (h:Evolves B S m m') {d:D} {u:Value} (hr:RepD B S m d u):RepD B S m' d u:=by
 cases d with
 |tup ds=>obtain ⟨us,h1,h2⟩:=hr;exact ⟨us,h1,h2.mono fun _ _ h3=>h.repA h3⟩
 |unk=>exact h.repA (d:=.unk) (u:=u) hr
 |c x=>exact h.repA (d:=.c x) hr
 |loc id off=>exact h.repA (d:=.loc id off) hr
 |arr id off len=>exact h.repA (d:=.arr id off len) hr
 |ptr cs=>exact h.repA (d:=.ptr cs) hr
 |full cs n=>exact h.repA (d:=.full cs n) hr
 |clo f caps=>exact h.repA (d:=.clo f caps) hr
 |mp id=>exact h.repA (d:=.mp id) hr
 |agg ds=>exact h.repA (d:=.agg ds) hr
theorem Evolves.repOb {m m':M} (h:Evolves B S m m') {k:Nat} {o:Obj} (hb:m'.w.heap[k]?=m.w.heap[k]?) (hr:RepOb B S m k o):RepOb B S m' k o:=by
 cases o with
 |dead=>trivial
 |box ds=>
  obtain ⟨h1,us,e,h2,h3⟩:=hr
  exact ⟨h1,us,e,by rw [hb];exact h2,h3.mono fun _ _ h4=>h.repDc h4⟩
 |arr cs esz fz ety=>
  obtain ⟨h1,us,h2,h3,h4⟩:=hr
  exact ⟨h1,us,by rw [hb];exact h2,h3,h4.mono fun x u h5=>RepC.mono h.cell x u h5⟩
 |map es=>
  obtain ⟨h1,ents,ck,h2,h3⟩:=hr
  exact ⟨h1,ents,ck,by rw [hb];exact h2,h3.mono fun _ _ h4=>⟨RepV.mono h.cell h4.1,RepV.mono h.cell h4.2⟩⟩
theorem HOK.lt {m:M} (hk:HOK B S m) {id:Nat} (hd:getH m.h id≠.dead):m.β id < m.w.heap.size:=by
 have h:=hk.obj id
 unfold RepO at h
 cases ho:getH m.h id with
 |dead=>exact absurd ho hd
 |box ds=>rw [ho] at h;obtain ⟨_,us,e,h2,_⟩:=h;exact (Array.getElem?_eq_some_iff.1 h2).1
 |map ds=>rw [ho] at h;obtain ⟨_,ents,ck,h2,_⟩:=h;exact (Array.getElem?_eq_some_iff.1 h2).1
 |arr cs esz fz ety=>rw [ho] at h;obtain ⟨_,us,h2,_⟩:=h;exact (Array.getElem?_eq_some_iff.1 h2).1
theorem HOK.ge {m:M} (hk:HOK B S m) {id:Nat} (hd:getH m.h id≠.dead):B≤m.β id:=by
 have h:=hk.obj id
 unfold RepO at h
 cases ho:getH m.h id with
 |dead=>exact absurd ho hd
 |box ds=>rw [ho] at h;exact h.1
 |map ds=>rw [ho] at h;exact h.1
 |arr cs esz fz ety=>rw [ho] at h;exact h.1
theorem HOK.used {m:M} (hk:HOK B S m) {id:Nat} (hd:getH m.h id≠.dead):m.U id:=
 Classical.byContradiction fun h=>hd (hk.dom id h)
theorem cell_lt {w:World} {b o:Nat} {u:Value} (h:w.cell? ⟨b,o,none⟩=some u):b < w.heap.size:=World.block_lt_of_cell? w _ h
def setβ (β:Nat→Nat) (slot k:Nat):Nat→Nat:=fun i=>if i=slot then k else β i
def M.put (m:M) (w':World) (slot k:Nat) (o:Obj):M:=⟨w',(slot,o)::m.h,setβ m.β slot k,fun i=>m.U i∨i=slot⟩
theorem getH_cons (i:Nat) (o:Obj) (h:Heap) (j:Nat):getH ((i,o)::h) j=if i=j then o else getH h j:=rfl
theorem alloc_evolves {m:M} (hk:HOK B S m) {slot:Nat} (hs:¬m.U slot) {w':World} {ob:Go.Obj} (hw:w'.heap=m.w.heap.push ob) (o:Obj):
  Evolves B S m (m.put w' slot m.w.heap.size o) where
 cell b q u h1 h2:=by
  have hb:=cell_lt h1
  refine ⟨?_,h2.1,fun id=>?_⟩
  ·have:w'.heap[b]?=m.w.heap[b]?:=by rw [hw,Array.getElem?_push,if_neg (by omega)]
   rw [←h1];exact World.cell?_of_block (w:=m.w) (a:=⟨b,q,none⟩) this
  ·simp only [M.put,getH_cons,setβ]
   by_cases hi:slot=id
   ·subst hi
    simp only [if_true]
    cases o<;>simp<;>omega
   ·have hi':¬id=slot:=fun e=>hi e.symm
    simp only [hi,hi',if_false]
    exact h2.2 id
 used id hu:=.inl hu
 dead id hu hd:=by
  have hi:¬slot=id:=fun e=>hs (e▸hu)
  simp only [M.put,getH_cons,hi,if_false]
  exact hd
 at_ id hu:=by
  have hi:¬id=slot:=fun e=>hs (e▸hu)
  simp [M.put,setβ,hi]
 kind id cs' esz' fz' ety' hu h:=by
  have hi:¬slot=id:=fun e=>hs (e▸hu)
  simp only [M.put,getH_cons,hi,if_false] at h
  refine ⟨cs',fz',h,?_⟩
  have hlt:=hk.lt (id:=id) (by rw [h];simp)
  have:w'.heap[m.β id]?=m.w.heap[m.β id]?:=by rw [hw,Array.getElem?_push,if_neg (by omega)]
  simp [World.shape?,M.put,this]
 rest b hB hb hn:=by
  refine ⟨by simp only [M.put];rw [hw,Array.getElem?_push,if_neg (by omega)],fun id hd=>?_⟩
  simp only [M.put,getH_cons,setβ] at hd ⊢
  by_cases hi:slot=id
  ·subst hi;simp;omega
  ·have hi':¬id=slot:=fun e=>hi e.symm
   simp only [hi,if_false] at hd
   simp only [hi',if_false]
   exact hn id hd
theorem alloc_hok {m:M} (hk:HOK B S m) {slot:Nat} (hs:¬m.U slot) {w':World} {ob:Go.Obj} (hw:w'.heap=m.w.heap.push ob) (o:Obj)
  (ho:RepOb B S (m.put w' slot m.w.heap.size o) m.w.heap.size o):HOK B S (m.put w' slot m.w.heap.size o):=by
 have hev:=alloc_evolves hk hs hw o
 refine ⟨fun id=>?_,fun i j hi hj he=>?_,fun id hu=>?_,?_,fun b q hb=>?_,fun id cs esz fz ety hg q=>?_⟩
 ·unfold RepO
  by_cases hi:slot=id
  ·subst hi
   simp only [M.put,getH_cons,setβ,if_true] at *
   exact ho
  ·have hi':¬id=slot:=fun e=>hi e.symm
   have h1:getH (m.put w' slot m.w.heap.size o).h id=getH m.h id:=by simp [M.put,getH_cons,hi]
   have h2:(m.put w' slot m.w.heap.size o).β id=m.β id:=by simp [M.put,setβ,hi']
   rw [h1,h2]
   by_cases hd:getH m.h id=.dead
   ·rw [hd];trivial
   ·have hlt:=hk.lt hd
    refine hev.repOb ?_ (hk.obj id)
    simp only [M.put]
    rw [hw,Array.getElem?_push,if_neg (by omega)]
 ·simp only [M.put,getH_cons,setβ] at *
  by_cases h1:slot=i<;>by_cases h2:slot=j
  ·omega
  ·have h2':¬j=slot:=fun e=>h2 e.symm
   have h1':i=slot:=h1.symm
   simp only [h2,h1',h2',if_true,if_false] at hj he
   have:=hk.lt hj
   omega
  ·have h1':¬i=slot:=fun e=>h1 e.symm
   have h2':j=slot:=h2.symm
   simp only [h1,h1',h2',if_true,if_false] at hi he
   have:=hk.lt hi
   omega
  ·have h1':¬i=slot:=fun e=>h1 e.symm
   have h2':¬j=slot:=fun e=>h2 e.symm
   simp only [h1,h1',h2,h2',if_false] at hi hj he
   exact hk.inj i j hi hj he
 ·simp only [M.put] at hu ⊢
  have h1:¬m.U id:=fun h=>hu (.inl h)
  have h2:¬slot=id:=fun h=>hu (.inr h.symm)
  simp only [getH_cons,h2,if_false]
  exact hk.dom id h1
 ·have:=hk.base
  simp only [M.put,hw,Array.size_push]
  omega
 ·simp only [M.put,hw,Array.size_push] at hb
  exact hk.fresh b q (by omega)
 ·simp only [M.put,getH_cons,setβ] at hg ⊢
  by_cases hi:slot=id
  ·subst hi
   simp only [if_true]
   exact hk.fresh _ q (Nat.le_refl _)
  ·have hi':¬id=slot:=fun e=>hi e.symm
   simp only [hi,if_false] at hg
   simp only [hi',if_false]
   exact hk.arrS id cs esz fz ety hg q
def M.upd (m:M) (w':World) (id:Nat) (o:Obj):M:=⟨w',(id,o)::m.h,m.β,m.U⟩
theorem upd_evolves {m:M} (hk:HOK B S m) {id:Nat} {o o':Obj} {w':World} (ho:getH m.h id=o)
  (hkind:match o,o' with
   |.box _,.box _=>True
   |.map _,.map _=>True
   |.arr _ esz fz ety,.arr _ esz' fz' ety'=>esz'=esz∧ety'=ety∧fz≤fz'
   |_,_=>False)
  (hother:∀k,k≠m.β id→w'.heap[k]?=m.w.heap[k]?)
  (hcell:∀q u,(match o with|.arr _ _ fz _=>q < fz|_=>False)→m.w.cell? ⟨m.β id,q,none⟩=some u→w'.cell? ⟨m.β id,q,none⟩=some u)
  (hshape:w'.shape? (m.β id)=m.w.shape? (m.β id)):
  Evolves B S m (m.upd w' id o') where
 cell b q u h1 h2:=by
  refine ⟨?_,h2.1,fun i=>?_⟩
  ·by_cases hb:b=m.β id
   ·subst hb
    have h3:=h2.2 id
    rw [ho] at h3
    refine hcell q u ?_ h1
    cases o with
    |dead=>cases o'<;>exact hkind.elim
    |box ds=>exact (h3 rfl).elim
    |map ds=>exact (h3 rfl).elim
    |arr cs esz fz ety=>exact h3 rfl
   ·rw [←h1];exact World.cell?_of_block (w:=m.w) (a:=⟨b,q,none⟩) (hother b hb)
  ·simp only [M.upd,getH_cons]
   by_cases hi:id=i
   ·subst hi
    have h3:=h2.2 id
    rw [ho] at h3
    simp only [if_true]
    cases o<;>cases o'<;>first|exact hkind.elim|exact h3|(intro he;have:=h3 he;obtain ⟨_,_,h4⟩:=hkind;omega)
   ·simp only [hi,if_false]
    exact h2.2 i
 used _ hu:=hu
 dead i hu hd:=by
  by_cases hi:id=i
  ·subst hi
   rw [ho] at hd
   subst hd
   cases o'<;>exact hkind.elim
  ·simp only [M.upd,getH_cons,hi,if_false]
   exact hd
 at_ _ _:=rfl
 kind i cs' esz' fz' ety' hu h:=by
  by_cases hi:id=i
  ·subst hi
   simp only [M.upd,getH_cons,if_true] at h
   subst h
   cases o with
   |dead=>exact hkind.elim
   |box ds=>exact hkind.elim
   |map ds=>exact hkind.elim
   |arr cs esz fz ety=>
    obtain ⟨rfl,rfl,_⟩:=hkind
    exact ⟨cs,fz,ho,hshape⟩
  ·simp only [M.upd,getH_cons,hi,if_false] at h
   refine ⟨cs',fz',h,?_⟩
   have hd:getH m.h i≠.dead:=by rw [h];simp
   have hd':getH m.h id≠.dead:=by
    rw [ho];cases o with
    |dead=>cases o'<;>exact hkind.elim
    |_=>simp
   have:m.β i≠m.β id:=fun e=>hi (hk.inj i id hd hd' e).symm
   simp [World.shape?,M.upd,hother _ this]
 rest b hB hb hn:=by
  have hd':getH m.h id≠.dead:=by
   rw [ho];cases o with
   |dead=>cases o'<;>exact hkind.elim
   |_=>simp
  refine ⟨hother b fun e=>hn id hd' e.symm,fun i hd=>?_⟩
  simp only [M.upd,getH_cons] at hd ⊢
  by_cases hi:id=i
  ·subst hi;exact hn id hd'
  ·simp only [hi,if_false] at hd
   exact hn i hd
theorem upd_hok {m:M} (hk:HOK B S m) {id:Nat} {o':Obj} {w':World} (hl:getH m.h id≠.dead) (hev:Evolves B S m (m.upd w' id o'))
  (hother:∀k,k≠m.β id→w'.heap[k]?=m.w.heap[k]?) (hsz:m.w.heap.size≤w'.heap.size)
  (ho:RepOb B S (m.upd w' id o') (m.β id) o'):HOK B S (m.upd w' id o'):=by
 refine ⟨fun i=>?_,fun i j hi hj he=>?_,fun i hu=>?_,?_,fun b q hb=>hk.fresh b q (Nat.le_trans hsz hb),fun i cs esz fz ety hg q=>?_⟩
 ·unfold RepO
  by_cases hi:id=i
  ·subst hi
   simp only [M.upd,getH_cons,if_true] at *
   exact ho
  ·have h1:getH (m.upd w' id o').h i=getH m.h i:=by simp [M.upd,getH_cons,hi]
   rw [h1]
   show RepOb B S _ (m.β i) _
   by_cases hd:getH m.h i=.dead
   ·rw [hd];trivial
   ·exact hev.repOb (hother _ fun e=>hi (hk.inj i id hd hl e).symm) (hk.obj i)
 ·simp only [M.upd,getH_cons] at hi hj he
  by_cases h1:id=i<;>by_cases h2:id=j
  ·omega
  ·subst h1;simp only [h2,if_false] at hj;exact hk.inj _ _ hl hj he
  ·subst h2;simp only [h1,if_false] at hi;exact hk.inj _ _ hi hl he
  ·simp only [h1,h2,if_false] at hi hj;exact hk.inj _ _ hi hj he
 ·simp only [M.upd] at hu ⊢
  have h2:¬id=i:=fun h=>hu (h▸hk.used hl)
  simp only [getH_cons,h2,if_false]
  exact hk.dom i hu
 ·exact Nat.le_trans hk.base hsz
 ·have hu:m.U i:=by
   by_cases hi:id=i
   ·subst hi;exact hk.used hl
   ·simp only [M.upd,getH_cons,hi,if_false] at hg
    exact hk.used (by rw [hg];simp)
  obtain ⟨cs0,fz0,h0,_⟩:=hev.kind i cs esz fz ety hu hg
  exact hk.arrS i cs0 esz fz0 ety h0 q
def M.world (m:M) (w':World):M:=⟨w',m.h,m.β,m.U⟩
theorem world_evolves {m:M} (hk:HOK B S m) {w':World} (hb:∀k,k < m.w.heap.size→w'.heap[k]?=m.w.heap[k]?):Evolves B S m (m.world w') where
 cell b q u h1 h2:=by
  refine ⟨?_,h2⟩
  rw [←h1];exact World.cell?_of_block (w:=m.w) (a:=⟨b,q,none⟩) (hb b (cell_lt h1))
 used _ hu:=hu
 dead _ _ hd:=hd
 at_ _ _:=rfl
 kind id cs' esz' fz' ety' _ h:=by
  refine ⟨cs',fz',h,?_⟩
  have hlt:=hk.lt (id:=id) (by show getH m.h id≠_;rw [show getH m.h id=_ from h];simp)
  simp [World.shape?,M.world,hb _ hlt]
 rest b _ hb' hn:=⟨hb b hb',hn⟩
theorem world_hok {m:M} (hk:HOK B S m) {w':World} (hb:∀k,k < m.w.heap.size→w'.heap[k]?=m.w.heap[k]?) (hsz:m.w.heap.size≤w'.heap.size):HOK B S (m.world w'):=by
 have hev:=world_evolves hk hb
 refine ⟨fun id=>?_,hk.inj,hk.dom,Nat.le_trans hk.base hsz,fun b q hb'=>hk.fresh b q (Nat.le_trans hsz hb'),hk.arrS⟩
 unfold RepO
 by_cases hd:getH m.h id=.dead
 ·show RepOb B S _ _ (getH m.h id);rw [hd];trivial
 ·exact hev.repOb (hb _ (hk.lt hd)) (hk.obj id)
end
end Go.Ey

namespace Go.Ey
structure Nm where
 ρ:List W
 μ:Nat→Option Nat
 hs:List (Nat×SO)
 nx:Nat
def RDc (N:Nm):SD→D→Prop
 |.unk,_=>True
 |.a x,d=>∃c,atC N.ρ x=some c∧(d=.c c∨∃cs n,c=.slice cs n∧d=.full cs n)
 |.full x,d=>∃cs n,atC N.ρ x=some (.slice cs n)∧d=.full cs n
 |.loc i off,d=>i < N.nx∧∃j,N.μ i=some j∧d=.loc j off
 |.arr i,d=>i < N.nx∧((∃j len,N.μ i=some j∧d=.arr j 0 len∧∀x esz ety fr al,getO N.hs i=.arr x esz ety fr al→∃cs,atC N.ρ x=some (.slice cs len))∨
   (N.μ i=none∧∃cs n,d=.full cs n∧∀x esz ety fr al,getO N.hs i=.arr x esz ety fr al→atC N.ρ x=some (.slice cs n)))
 |.view i x,d=>i < N.nx∧∃cs len,atC N.ρ x=some (.slice cs len)∧(d=.c (.slice cs len)∨∃j off,N.μ i=some j∧d=.arr j off len∧
   ∀y esz ety fr al,getO N.hs i=.arr y esz ety fr al→fr=true∧∃ys n,atC N.ρ y=some (.slice ys n)∧off+len * esz≤ys.length∧cs=(ys.drop off).take (len * esz))
 |.eloc i x off,d=>i < N.nx∧∃kd k,atC N.ρ x=some (.lit (.int kd k))∧0≤k∧((∃j o,N.μ i=some j∧d=.loc j o∧∀y esz ety fr al,getO N.hs i=.arr y esz ety fr al→o=k.toNat * esz+off)∨
   (N.μ i=none∧∃cs,d=.ptr cs∧∀y esz ety fr al,getO N.hs i=.arr y esz ety fr al→∃ys n,atC N.ρ y=some (.slice ys n)∧cs=ys.drop (k.toNat * esz+off)))
 |.ptr r off esz,d=>∃xs rest,getW N.ρ r=some (.l xs)∧xs.length=esz∧d=.ptr ((xs++rest).drop off)
 |.clo f caps,d=>∃caps':List (Nat×Nat),d=.clo f caps'∧All2 (fun p q:Nat×Nat=>p.1 < N.nx∧N.μ p.1=some q.1∧q.2=p.2) caps caps'
 |.agg _,_=>False
 |.tup _,_=>False
def RA (N:Nm):SD→D→Prop
 |.agg ds,d=>∃ds',d=.agg ds'∧All2 (RDc N) ds ds'
 |sd,d=>RDc N sd d
def RD (N:Nm):SD→D→Prop
 |.tup ds,d=>∃ds',d=.tup ds'∧All2 (RA N) ds ds'
 |sd,d=>RA N sd d
theorem RDc.toA {N:Nm} {sd:SD} {d:D} (h:RDc N sd d):RA N sd d:=by cases sd<;>first|exact h|exact h.elim
theorem RA.toD {N:Nm} {sd:SD} {d:D} (h:RA N sd d):RD N sd d:=by cases sd<;>first|exact h|exact False.elim h
theorem RDc.toD {N:Nm} {sd:SD} {d:D} (h:RDc N sd d):RD N sd d:=h.toA.toD
structure SEv (N N':Nm):Prop where
 at_:∀x c,atC N.ρ x=some c→atC N'.ρ x=some c
 row:∀r w,getW N.ρ r=some w→getW N'.ρ r=some w
 nx:N.nx≤N'.nx
 mu:∀i,i < N.nx→N'.μ i=N.μ i
 arr:∀i y' esz ety fr' al',i < N.nx→getO N'.hs i=.arr y' esz ety fr' al'→∃y fr al,getO N.hs i=.arr y esz ety fr al∧(fr=true→fr'=true)∧
  ∀cs n,atC N.ρ y=some (.slice cs n)→∃cs',atC N'.ρ y'=some (.slice cs' n)∧(fr=true∨N.μ i=none→cs'=cs)
theorem SEv.refl (N:Nm):SEv N N:=
 ⟨fun _ _ h=>h,fun _ _ h=>h,Nat.le_refl _,fun _ _=>rfl,fun _ y' _ _ fr' al' _ h=>⟨y',fr',al',h,id,fun cs _ hc=>⟨cs,hc,fun _=>rfl⟩⟩⟩
theorem SEv.trans {N N' N'':Nm} (h:SEv N N') (k:SEv N' N''):SEv N N'' where
 at_ x c hx:=k.at_ x c (h.at_ x c hx)
 row r w hr:=k.row r w (h.row r w hr)
 nx:=Nat.le_trans h.nx k.nx
 mu i hi:=by rw [k.mu i (Nat.lt_of_lt_of_le hi h.nx),h.mu i hi]
 arr i y' esz ety fr' al' hi hg:=by
  obtain ⟨y1,fr1,al1,h1,h2,h3⟩:=k.arr i y' esz ety fr' al' (Nat.lt_of_lt_of_le hi h.nx) hg
  obtain ⟨y,fr,al,h4,h5,h6⟩:=h.arr i y1 esz ety fr1 al1 hi h1
  refine ⟨y,fr,al,h4,fun e=>h2 (h5 e),fun cs n hc=>?_⟩
  obtain ⟨cs1,h7,h8⟩:=h6 cs n hc
  obtain ⟨cs2,h9,h10⟩:=h3 cs1 n h7
  refine ⟨cs2,h9,fun he=>?_⟩
  rw [h10 (he.imp h5 fun e=>by rw [h.mu i hi];exact e),h8 he]
section
variable {N N':Nm} (h:SEv N N')
include h
theorem SEv.dc {sd:SD} {d:D} (hr:RDc N sd d):RDc N' sd d:=by
 cases sd with
 |unk=>trivial
 |a x=>obtain ⟨c,h1,h2⟩:=hr;exact ⟨c,h.at_ x c h1,h2⟩
 |full x=>obtain ⟨cs,n,h1,h2⟩:=hr;exact ⟨cs,n,h.at_ x _ h1,h2⟩
 |loc i off=>obtain ⟨h0,j,h1,h2⟩:=hr;exact ⟨Nat.lt_of_lt_of_le h0 h.nx,j,by rw [h.mu i h0];exact h1,h2⟩
 |arr i=>
  obtain ⟨h0,hr⟩:=hr
  refine ⟨Nat.lt_of_lt_of_le h0 h.nx,?_⟩
  rcases hr with ⟨j,len,h1,h2,h3⟩|⟨h1,cs,n,h2,h3⟩
  ·refine .inl ⟨j,len,by rw [h.mu i h0];exact h1,h2,fun x esz ety fr al hg=>?_⟩
   obtain ⟨y,fr0,al0,h4,_,h6⟩:=h.arr i x esz ety fr al h0 hg
   obtain ⟨cs,h7⟩:=h3 _ _ _ _ _ h4
   obtain ⟨cs',h8,_⟩:=h6 _ _ h7
   exact ⟨cs',h8⟩
  ·refine .inr ⟨by rw [h.mu i h0];exact h1,cs,n,h2,fun x esz ety fr al hg=>?_⟩
   obtain ⟨y,fr0,al0,h4,_,h6⟩:=h.arr i x esz ety fr al h0 hg
   obtain ⟨cs',h8,h9⟩:=h6 _ _ (h3 _ _ _ _ _ h4)
   rw [h8,h9 (.inr h1)]
 |view i x=>
  obtain ⟨h0,cs,len,h1,hr⟩:=hr
  refine ⟨Nat.lt_of_lt_of_le h0 h.nx,cs,len,h.at_ _ _ h1,?_⟩
  rcases hr with hr|⟨j,off,h2,h3,h4⟩
  ·exact .inl hr
  ·refine .inr ⟨j,off,by rw [h.mu i h0];exact h2,h3,fun y esz ety fr al hg=>?_⟩
   obtain ⟨y0,fr0,al0,h5,h6,h7⟩:=h.arr i y esz ety fr al h0 hg
   obtain ⟨h8,ys,n,h9,h10,h11⟩:=h4 _ _ _ _ _ h5
   obtain ⟨cs',h12,h13⟩:=h7 _ _ h9
   exact ⟨h6 h8,ys,n,by rw [h12,h13 (.inl h8)],h10,h11⟩
 |eloc i x off=>
  obtain ⟨h0,kd,k,h1,h2,hr⟩:=hr
  refine ⟨Nat.lt_of_lt_of_le h0 h.nx,kd,k,h.at_ _ _ h1,h2,?_⟩
  rcases hr with ⟨j,o,h3,h4,h5⟩|⟨h3,cs,h4,h5⟩
  ·refine .inl ⟨j,o,by rw [h.mu i h0];exact h3,h4,fun y esz ety fr al hg=>?_⟩
   obtain ⟨y0,fr0,al0,h6,_,_⟩:=h.arr i y esz ety fr al h0 hg
   exact h5 _ _ _ _ _ h6
  ·refine .inr ⟨by rw [h.mu i h0];exact h3,cs,h4,fun y esz ety fr al hg=>?_⟩
   obtain ⟨y0,fr0,al0,h6,_,h7⟩:=h.arr i y esz ety fr al h0 hg
   obtain ⟨ys,n,h8,h9⟩:=h5 _ _ _ _ _ h6
   obtain ⟨cs',h10,h11⟩:=h7 _ _ h8
   exact ⟨ys,n,by rw [h10,h11 (.inr h3)],h9⟩
 |ptr r off esz=>obtain ⟨xs,rest,h1,h2,h3⟩:=hr;exact ⟨xs,rest,h.row _ _ h1,h2,h3⟩
 |clo f caps=>
  obtain ⟨caps',h1,h2⟩:=hr
  exact ⟨caps',h1,h2.mono fun p q ⟨k1,k2,k3⟩=>⟨Nat.lt_of_lt_of_le k1 h.nx,by rw [h.mu _ k1];exact k2,k3⟩⟩
 |agg ds=>exact hr.elim
 |tup ds=>exact hr.elim
theorem SEv.ra {sd:SD} {d:D} (hr:RA N sd d):RA N' sd d:=by
 cases sd with
 |agg ds=>obtain ⟨ds',h1,h2⟩:=hr;exact ⟨ds',h1,h2.mono fun _ _=>h.dc⟩
 |unk=>exact (h.dc (sd:=(.unk)) hr).toA
 |a x=>exact (h.dc (sd:=(.a x)) hr).toA
 |full x=>exact (h.dc (sd:=(.full x)) hr).toA
 |loc i off=>exact (h.dc (sd:=(.loc i off)) hr).toA
 |arr i=>exact (h.dc (sd:=(.arr i)) hr).toA
 |view i x=>exact (h.dc (sd:=(.view i x)) hr).toA
 |eloc i x off=>exact (h.dc (sd:=(.eloc i x off)) hr).toA
 |ptr q off esz=>exact (h.dc (sd:=(.ptr q off esz)) hr).toA
 |clo f caps=>exact (h.dc (sd:=(.clo f caps)) hr).toA
 |tup ds=>exact (h.dc (sd:=(.tup ds)) hr).toA
theorem SEv.rd {sd:SD} {d:D} (hr:RD N sd d):RD N' sd d:=by
 cases sd with
 |tup ds=>obtain ⟨ds',h1,h2⟩:=hr;exact ⟨ds',h1,h2.mono fun _ _=>h.ra⟩
 |unk=>exact (h.ra (sd:=(.unk)) hr).toD
 |a x=>exact (h.ra (sd:=(.a x)) hr).toD
 |full x=>exact (h.ra (sd:=(.full x)) hr).toD
 |loc i off=>exact (h.ra (sd:=(.loc i off)) hr).toD
 |arr i=>exact (h.ra (sd:=(.arr i)) hr).toD
 |view i x=>exact (h.ra (sd:=(.view i x)) hr).toD
 |eloc i x off=>exact (h.ra (sd:=(.eloc i x off)) hr).toD
 |ptr q off esz=>exact (h.ra (sd:=(.ptr q off esz)) hr).toD
 |clo f caps=>exact (h.ra (sd:=(.clo f caps)) hr).toD
 |agg ds=>exact (h.ra (sd:=(.agg ds)) hr).toD
end
def ROb (N:Nm) (h:Heap) (i:Nat):SO→Prop
 |.dead=>True
 |.box ds=>∃j ds',N.μ i=some j∧getH h j=.box ds'∧All2 (RDc N) ds ds'
 |.arr x esz ety fr al=>∃cs n,atC N.ρ x=some (.slice cs n)∧cs.length=n * esz∧
   ((∃j fz,N.μ i=some j∧getH h j=.arr cs esz fz ety∧0 < esz∧fz≤cs.length∧(fr=false→fz=0))∨(N.μ i=none∧al=false∧(fr=false→cs=[]∧n=0)))
structure Bs where
 h0:Heap
 k0:Nat
 lent:List Nat
structure Rm (b:Bs) (N:Nm) (h:Heap) (k:Nat) (lens:List (Nat×Nat)):Prop where
 obj:∀i,ROb N h i (getO N.hs i)
 inj:∀i i' j,i < N.nx→i' < N.nx→N.μ i=some j→N.μ i'=some j→i=i'
 lt:∀i j,i < N.nx→N.μ i=some j→j < k
 dom:∀i,N.nx≤i→getO N.hs i=.dead
 base:∀i j,i < N.nx→N.μ i=some j→b.k0≤j∨j∈b.lent
 frame:∀j,j < b.k0→j ∉ b.lent→getH h j=getH b.h0 j
 le:b.k0≤k
 lens:∀i m,(i,m)∈lens→∃xs,getW N.ρ i=some (.l xs)∧xs.length=m
theorem getO_cons (i:Nat) (o:SO) (h:List (Nat×SO)) (j:Nat):getO ((i,o)::h) j=if i=j then o else getO h j:=rfl
theorem ROb.mono {N N':Nm} (hv:SEv N N') {h h':Heap} {i:Nat} (hi:i < N.nx) (hh:∀j,N.μ i=some j→getH h' j=getH h j) {o:SO} (hr:ROb N h i o):ROb N' h' i o:=by
 cases o with
 |dead=>trivial
 |box ds=>
  obtain ⟨j,ds',h1,h2,h3⟩:=hr
  exact ⟨j,ds',by rw [hv.mu i hi];exact h1,by rw [hh j h1];exact h2,h3.mono fun _ _=>hv.dc⟩
 |arr x esz ety fr al=>
  obtain ⟨cs,n,h1,h2,h3⟩:=hr
  refine ⟨cs,n,hv.at_ _ _ h1,h2,?_⟩
  rcases h3 with ⟨j,fz,h4,h5,h6,h7⟩|⟨h4,h5⟩
  ·exact .inl ⟨j,fz,by rw [hv.mu i hi];exact h4,by rw [hh j h4];exact h5,h6,h7⟩
  ·exact .inr ⟨by rw [hv.mu i hi];exact h4,h5⟩
theorem Rm.lt_of {b:Bs} {N:Nm} {h:Heap} {k:Nat} {lens:List (Nat×Nat)} (hm:Rm b N h k lens) {i:Nat} (hd:getO N.hs i≠.dead):i < N.nx:=
 Nat.lt_of_not_le fun hle=>hd (hm.dom i hle)
theorem getW_append {ρ ws:List W} {i:Nat} {w:W} (h:getW ρ i=some w):getW (ρ++ws) i=some w:=by
 induction ρ generalizing i with
 |nil=>cases h
 |cons a r ih=>cases i with
  |zero=>exact h
  |succ i=>exact ih h
theorem getW_len (ρ:List W) (w:W) (ws:List W):getW (ρ++w::ws) ρ.length=some w:=by
 induction ρ with
 |nil=>rfl
 |cons a r ih=>exact ih
theorem atC_append {ρ ws:List W} {x:At} {c:C} (h:atC ρ x=some c):atC (ρ++ws) x=some c:=by
 cases x with
 |v i=>
  simp only [atC] at h ⊢
  cases hg:getW ρ i with
  |none=>rw [hg] at h;cases h
  |some w=>rw [getW_append hg];rw [hg] at h;exact h
 |n i j=>
  simp only [atC] at h ⊢
  cases hg:getW ρ i with
  |none=>rw [hg] at h;cases h
  |some w=>rw [getW_append hg];rw [hg] at h;exact h
 |k v=>exact h
 |z=>exact h
def Nm.ext (N:Nm) (ws:List W):Nm:={ N with ρ:=N.ρ++ws}
theorem sev_ext (N:Nm) (ws:List W):SEv N (N.ext ws):=
 ⟨fun _ _ h=>atC_append h,fun _ _ h=>getW_append h,Nat.le_refl _,fun _ _=>rfl,fun _ y' _ _ fr' al' _ h=>⟨y',fr',al',h,id,fun cs _ hc=>⟨cs,atC_append hc,fun _=>rfl⟩⟩⟩
theorem Rm.ext {b:Bs} {N:Nm} {h:Heap} {k:Nat} {lens:List (Nat×Nat)} (hm:Rm b N h k lens) (ws:List W):Rm b (N.ext ws) h k lens where
 obj i:=by
  by_cases hi:i < N.nx
  ·exact (hm.obj i).mono (sev_ext N ws) hi fun _ _=>rfl
  ·show ROb _ h i (getO N.hs i);rw [hm.dom i (Nat.le_of_not_lt hi)];trivial
 inj:=hm.inj
 lt:=hm.lt
 dom:=hm.dom
 base:=hm.base
 frame:=hm.frame
 le:=hm.le
 lens i m hi:=by obtain ⟨xs,h1,h2⟩:=hm.lens i m hi;exact ⟨xs,getW_append h1,h2⟩
theorem Rm.tick {b:Bs} {N:Nm} {h:Heap} {k k':Nat} {lens:List (Nat×Nat)} (hm:Rm b N h k lens) (hk:k≤k'):Rm b N h k' lens:=
 { hm with lt:=fun i j h1 h2=>Nat.lt_of_lt_of_le (hm.lt i j h1 h2) hk,le:=Nat.le_trans hm.le hk}
theorem Rm.lens' {b:Bs} {N:Nm} {h:Heap} {k:Nat} {lens:List (Nat×Nat)} (hm:Rm b N h k lens) {l:List (Nat×Nat)} (hl:∀i m,(i,m)∈l→∃xs,getW N.ρ i=some (.l xs)∧xs.length=m):Rm b N h k l:=
 { hm with lens:=hl}
def Nm.set (N:Nm) (i:Nat) (o:SO):Nm:={ N with hs:=(i,o)::N.hs}
theorem Rm.set {b:Bs} {N:Nm} {h:Heap} {k:Nat} {lens:List (Nat×Nat)} (hm:Rm b N h k lens) {i:Nat} (hi:i < N.nx) {o':SO} {h':Heap}
  (hoth:∀j,N.μ i≠some j→getH h' j=getH h j)
  (harr:∀y' esz ety fr' al',o'=.arr y' esz ety fr' al'→∃y fr al,getO N.hs i=.arr y esz ety fr al∧(fr=true→fr'=true)∧
   ∀cs n,atC N.ρ y=some (.slice cs n)→∃cs',atC N.ρ y'=some (.slice cs' n)∧(fr=true∨N.μ i=none→cs'=cs))
  (hob:SEv N (N.set i o')→ROb (N.set i o') h' i o'):SEv N (N.set i o')∧Rm b (N.set i o') h' k lens:=by
 have hv:SEv N (N.set i o'):=by
  refine ⟨fun _ _ h=>h,fun _ _ h=>h,Nat.le_refl _,fun _ _=>rfl,fun q y' esz ety fr' al' hq hg=>?_⟩
  simp only [Nm.set,getO_cons] at hg ⊢
  by_cases he:i=q
  ·subst he
   rw [if_pos rfl] at hg
   exact harr _ _ _ _ _ hg
  ·rw [if_neg he] at hg
   exact ⟨y',fr',al',hg,id,fun cs _ hc=>⟨cs,hc,fun _=>rfl⟩⟩
 refine ⟨hv,fun q=>?_,hm.inj,hm.lt,fun q hq=>?_,hm.base,fun j h1 h2=>?_,hm.le,hm.lens⟩
 ·show ROb (N.set i o') h' q (getO ((i,o')::N.hs) q)
  rw [getO_cons]
  by_cases he:i=q
  ·subst he;rw [if_pos rfl];exact hob hv
  ·rw [if_neg he]
   by_cases hq:q < N.nx
   ·exact (hm.obj q).mono hv hq fun j hj=>hoth j fun e=>he (hm.inj i q j hi hq e hj)
   ·rw [hm.dom q (Nat.le_of_not_lt hq)];trivial
 ·show getO ((i,o')::N.hs) q=.dead
  have hq':N.nx≤q:=hq
  rw [getO_cons,if_neg (by omega)]
  exact hm.dom q hq
 ·rw [hoth j fun e=>?_]
  ·exact hm.frame j h1 h2
  ·rcases hm.base i j hi e with h3|h3
   ·omega
   ·exact h2 h3
def Nm.new (N:Nm) (j:Option Nat) (o:SO):Nm:=⟨N.ρ,fun i=>if i=N.nx then j else N.μ i,(N.nx,o)::N.hs,N.nx+1⟩
theorem Rm.new {b:Bs} {N:Nm} {h:Heap} {k:Nat} {lens:List (Nat×Nat)} (hm:Rm b N h k lens) {j:Option Nat} {o:SO} {h':Heap} (hj:j=none∨j=some k)
  (hoth:∀q,q≠k→getH h' q=getH h q) (hob:SEv N (N.new j o)→ROb (N.new j o) h' N.nx o):SEv N (N.new j o)∧Rm b (N.new j o) h' (k+1) lens:=by
 have hv:SEv N (N.new j o):=by
  refine ⟨fun _ _ h=>h,fun _ _ h=>h,Nat.le_succ _,fun i hi=>?_,fun q y' esz ety fr' al' hq hg=>?_⟩
  ·show (if i=N.nx then j else N.μ i)=N.μ i
   rw [if_neg (by omega)]
  ·simp only [Nm.new,getO_cons] at hg
   rw [if_neg (by omega)] at hg
   exact ⟨y',fr',al',hg,id,fun cs _ hc=>⟨cs,hc,fun _=>rfl⟩⟩
 have hmu:∀i q,i < N.nx+1→(N.new j o).μ i=some q→(i=N.nx∧q=k)∨(i < N.nx∧N.μ i=some q):=by
  intro i q hi hq
  by_cases he:i=N.nx
  ·have hq':j=some q:=by simpa [Nm.new,he] using hq
   rcases hj with rfl|rfl
   ·cases hq'
   ·injection hq' with hq';exact .inl ⟨he,hq'.symm⟩
  ·have hq':N.μ i=some q:=by simpa [Nm.new,he] using hq
   exact .inr ⟨by omega,hq'⟩
 refine ⟨hv,fun q=>?_,fun i i' q h1 h2 h3 h4=>?_,fun i q h1 h2=>?_,fun q hq=>?_,fun i q h1 h2=>?_,fun q h1 h2=>?_,Nat.le_succ_of_le hm.le,hm.lens⟩
 ·show ROb (N.new j o) h' q (getO ((N.nx,o)::N.hs) q)
  rw [getO_cons]
  by_cases he:N.nx=q
  ·subst he;rw [if_pos rfl];exact hob hv
  ·rw [if_neg he]
   by_cases hq:q < N.nx
   ·exact (hm.obj q).mono hv hq fun p hp=>hoth p (by have:=hm.lt q p hq hp;omega)
   ·rw [hm.dom q (Nat.le_of_not_lt hq)];trivial
 ·rcases hmu i q h1 h3 with ⟨a1,a2⟩|⟨a1,a2⟩<;>rcases hmu i' q h2 h4 with ⟨b1,b2⟩|⟨b1,b2⟩
  ·omega
  ·have:=hm.lt _ _ b1 b2;omega
  ·have:=hm.lt _ _ a1 a2;omega
  ·exact hm.inj i i' q a1 b1 a2 b2
 ·rcases hmu i q h1 h2 with ⟨_,a2⟩|⟨a1,a2⟩
  ·omega
  ·have:=hm.lt _ _ a1 a2;omega
 ·show getO ((N.nx,o)::N.hs) q=.dead
  have hq':N.nx+1≤q:=hq
  rw [getO_cons,if_neg (by omega)]
  exact hm.dom q (by omega)
 ·rcases hmu i q h1 h2 with ⟨_,a2⟩|⟨a1,a2⟩
  ·left;have:=hm.le;omega
  ·exact hm.base i q a1 a2
 ·rw [hoth q (by have:=hm.le;omega)]
  exact hm.frame q h1 h2
theorem atCs_len {ρ:List W}:∀{as:List At} {xs:List C},atCs ρ as=some xs→xs.length=as.length
 |[],xs,h=>by simp only [atCs,Option.some.injEq] at h;subst h;rfl
 |a::as,xs,h=>by
  simp only [atCs,Option.bind_eq_some_iff,Option.some.injEq] at h
  obtain ⟨x,_,ys,h2,rfl⟩:=h
  simp [atCs_len h2]
theorem nthC_drop (xs:List C) (j:Nat) (h:j < xs.length):nthC xs j=xs[j]:=by
 induction xs generalizing j with
 |nil=>simp at h
 |cons a r ih=>cases j with
  |zero=>rfl
  |succ j=>exact ih j (by simpa using h)
theorem isNths_at {ρ:List W} {i:Nat} {xs:List C} (hw:getW ρ i=some (.l xs)):∀(as:List At) (j:Nat),isNths i j as=true→j+as.length=xs.length→atCs ρ as=some (xs.drop j)
 |[],j,_,hl=>by simp only [List.length_nil] at hl;simp only [atCs];rw [List.drop_of_length_le (by omega)]
 |a::r,j,hn,hl=>by
  cases a with
  |n i' j'=>
   simp only [isNths,Bool.and_eq_true,beq_iff_eq] at hn
   obtain ⟨⟨rfl,rfl⟩,hn⟩:=hn
   have hlt:j' < xs.length:=by simp at hl;omega
   simp only [atCs,atC,hw,Option.bind_some]
   rw [isNths_at hw r (j'+1) hn (by simp at hl;omega)]
   simp only [Option.bind_some,Option.some.injEq]
   rw [nthC_drop xs j' hlt]
   exact (List.drop_eq_getElem_cons hlt).symm
  |v i=>simp [isNths] at hn
  |k v=>simp [isNths] at hn
  |z=>simp [isNths] at hn
theorem mkSL_at {b:Bs} {N:Nm} {h:Heap} {k:Nat} {lens:List (Nat×Nat)} (hm:Rm b N h k lens) (as:List At):slD N.ρ (mkSL lens as)=atCs N.ρ as:=by
 unfold mkSL
 split
 ·rename_i i r
  split
  ·rename_i hc
   simp only [Bool.and_eq_true,hasLen,List.any_eq_true,beq_iff_eq] at hc
   obtain ⟨h1,p,h2,h3,h4⟩:=hc
   obtain ⟨xs,h5,h6⟩:=hm.lens p.1 p.2 h2
   rw [h3] at h5
   have:=isNths_at h5 _ 0 h1 (by omega)
   rw [this]
   simp [slD,h5]
  ·rfl
 ·rfl
theorem asAts_ok {N:Nm}:∀{ds:List SD} {ds':List D} {as:List At},All2 (RDc N) ds ds'→asAts ds=some as→∃xs,atCs N.ρ as=some xs∧All2 (fun c d=>d=.c c∨∃cs n,c=.slice cs n∧d=.full cs n) xs ds'
 |[],[],as,_,h=>by simp only [asAts,Option.some.injEq] at h;subst h;exact ⟨[],rfl,trivial⟩
 |sd::ds,d::ds',as,hr,h=>by
  cases sd with
  |a x=>
   simp only [asAts,Option.bind_eq_some_iff,Option.some.injEq] at h
   obtain ⟨as',h1,rfl⟩:=h
   obtain ⟨xs,h2,h3⟩:=asAts_ok hr.2 h1
   obtain ⟨c,h4,h5⟩:=hr.1
   exact ⟨c::xs,by simp [atCs,h4,h2],h5,h3⟩
  |_=>simp [asAts] at h
 |[],_::_,_,hr,_=>hr.elim
 |_::_,[],_,hr,_=>hr.elim
end Go.Ey
