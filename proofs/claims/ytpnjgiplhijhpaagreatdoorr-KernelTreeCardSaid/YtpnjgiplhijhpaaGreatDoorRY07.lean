/- A part. -/
import Derived.Test.YtpnjgiplhijhpaaGreatDoorRY04
import Derived.Laws.StructEq
set_option linter.all false
namespace Go.Ey
open Go.RowKit
section
variable {B:Nat} {S:Nat->Nat->Prop} {P:Program} {o:Oper} {a:Act} {m:M} {slot:Nat} {ρ:X->D} {d:D} {us:List (Nat×Obj)}
theorem foldl_set:∀(vs:List Value) (off k:Nat) (cs:Array Value),off+k+vs.length<=cs.size->
  ((vs.zipIdx k).foldl (fun cs (p:Value×Nat)=>cs.setIfInBounds (off+p.2) p.1) cs).toList=splice cs.toList (off+k) vs
 |[],off,k,cs,_=>by simp [splice]
 |v::vs,off,k,cs,h=>by
  simp only [List.length_cons] at h;simp only [List.zipIdx_cons,List.foldl_cons];rw [foldl_set vs off (k+1) _ (by simp;omega),Array.toList_setIfInBounds]
  unfold splice;have e:=list_seg_step cs.toList (off+k) v vs (by simp;omega)
  simp only [List.length_cons,Nat.add_assoc] at e |-;exact e
def yQ (place:Nat->Option (Nat×Nat)):List (Nat×Operand)->List (Nat×Nat×X)->Prop
 |[],[]=>True
 |(i,x)::ps,(off,size,X')::qs=>place i=some (off,size)/\aC x=some X'/\yQ place ps qs
 |_,_=>False
theorem Dr (ho:pI B S m ρ a) {place:Nat->Option (Nat×Nat)}:∀{ps:List (Nat×Operand)} {qs:List (Nat×Nat×X)} {ds ds':List D} {cells:Array Value},yQ place ps qs->aj (bu B S m) ds cells.toList->gp ρ ds qs=some ds'->
  ∃cells':Array Value,Instr.fill place cells (ps.map fun p=>(p.1,a.eval p.2))=some cells'/\aj (bu B S m) ds' cells'.toList
 |[],[],ds,ds',cells,_,h1,h2=>by simp only [gp,Option.some.injEq] at h2;subst h2;exact ⟨cells,rfl,h1⟩
 |(i,x)::ps,(off,size,X')::qs,ds,ds',cells,hp,h1,h2=>by
  obtain ⟨p1,p2,p3⟩:=hp;simp only [gp,Option.bind_eq_bind,Option.bind_eq_some_iff] at h2;obtain ⟨xs,h3,h4⟩:=h2;split at h4
  case isFalse=>cases h4
  rename_i hc;obtain ⟨c1,c2⟩:=hc;obtain ⟨h5,_⟩:=wO (ho x X' p2) h3;have hl1:xs.length=(a.eval x).cells.size:=by rw [h5.len];simp
  have hl2:ds.length=cells.size:=by rw [h1.len];simp
  have hsp:((a.eval x).cells.zipIdx.foldl (fun cs (p:Value×Nat)=>cs.setIfInBounds (off+p.2) p.1) cells).toList=splice cells.toList off (a.eval x).cells.toList:=by
   have:=foldl_set (a.eval x).cells.toList off 0 cells (by simp;omega)
   rw [<-Array.foldl_toList];simpa using this
  obtain ⟨cells',h6,h7⟩:=Dr ho (cells:=(a.eval x).cells.zipIdx.foldl (fun cs (p:Value×Nat)=>cs.setIfInBounds (off+p.2) p.1) cells) p3 (by rw [hsp];exact h1.splice off h5) h4
  refine ⟨cells',?_,h7⟩;have hne:((a.eval x).cells.size≠size||decide (off+(a.eval x).cells.size > cells.size))=false:=by simp;omega
  simp only [List.map_cons,Instr.fill,p1];rw [if_neg (by simpa using hne)]
  exact h6
 |[],_::_,_,_,_,h,_,_=>h.elim
 |_::_,[],_,_,_,h,_,_=>h.elim
theorem rE {fs:List Field} {places:List (Nat×Nat)} (hp:fs.mapM (fun f=>(P.info? f.type).map fun i=>(f.offset,i.size))=some places):
  ∀{ps:List (Nat×Operand)} {qs:List (Nat×Nat×X)},compFields P fs ps=some qs->yQ (fun i=>places[i]?) ps qs
 |[],qs,h=>by simp [compFields] at h;subst h;trivial
 |(i,x)::ps,qs,h=>by
  simp only [compFields,Option.bind_eq_bind,Option.bind_eq_some_iff,Option.some.injEq] at h;obtain ⟨f,h1,info,h2,X',h3,qs',h4,rfl⟩:=h;refine ⟨?_,h3,rE hp h4⟩;have key:∀(fs:List Field) (places:List (Nat×Nat)),fs.mapM (fun f=>(P.info? f.type).map fun i=>(f.offset,i.size))=some places->∀(i:Nat) (f:Field),fs[i]?=some f->places[i]?=(P.info? f.type).map fun i=>(f.offset,i.size):=by
   intro fs;induction fs with
   |nil=>intro places _ i f hf;simp at hf
   |cons g fs ih=>
    intro places hpl i f hf;simp only [List.mapM_cons,Option.bind_eq_bind,Option.pure_def,Option.bind_eq_some_iff,Option.some.injEq] at hpl;obtain ⟨p,hp1,rest,hp2,rfl⟩:=hpl;cases i with
    |zero=>simp at hf;subst hf;simp [hp1]
    |succ i=>simp at hf;simpa using ih rest hp2 i f hf
  simp only [key fs places hp i f h1,h2,Option.map_some]
theorem qc:∀{fs:List Field},mG P fs=true->∃places,fs.mapM (fun f=>(P.info? f.type).map fun i=>(f.offset,i.size))=some places
 |[],_=>⟨[],rfl⟩
 |f::fs,h=>by simp only [mG,List.all_cons,Bool.and_eq_true] at h;obtain ⟨places,h1⟩:=qc (fs:=fs) h.2;obtain ⟨i,hi⟩:=Option.isSome_iff_exists.1 h.1;exact ⟨(f.offset,i.size)::places,by simp [List.mapM_cons,hi,h1]⟩
theorem Iz (hk:bF B S m) (ho:pI B S m ρ a) {t:TypeId} {parts:Array (Nat×Operand)} {fs:List Field} {z:List Value} {qs:List (Nat×Nat×X)} (hop:o.op=.build t parts) (h1:fieldsOf P t=some fs) (h2:zeroOf P t=some z)
  (h3:compFields P fs parts.toList=some qs) (h4:mG P fs=true) (hs:step ρ m.h slot (.build z qs)=some (d,us)):Does B S P o a m slot d us:=by
 have hu:=mX h1;obtain ⟨i,zv,g1,g2,g3,g4,_⟩:=iK h2;obtain ⟨places,hp⟩:=qc h4;simp only [step] at hs;obtain ⟨h5,rfl⟩:=aR hs;simp only [Option.bind_eq_bind,Option.bind_eq_some_iff,Option.some.injEq] at h5;obtain ⟨ds,h6,rfl⟩:=h5;obtain ⟨cells',h7,h8⟩:=Dr ho (cells:=zv.cells) (rE hp h3) (by rw [g3];exact sD g4) h6
 refine aG hk slot (v:=.agg cells') ?_ ⟨cells'.toList,by simp,h8⟩
 have hb:P.built t ((parts.map fun (p:Nat×Operand)=>(p.1,a.eval p.2)).toList)=some cells':=by unfold Program.built;simp only [g1,hu,g2,hp,Array.toList_map];simpa using h7
 have:=run_build (P:=P) m.w t _ cells' hb
 simp [execOp,hop,this]
theorem u6 {size:Nat}:∀{ps:List (Nat×Operand)} {qs:List (Nat×Nat×X)},kT size ps=some qs->yQ (fun i=>some (i * size,size)) ps qs
 |[],qs,h=>by simp [kT] at h;subst h;trivial
 |(i,x)::ps,qs,h=>by simp only [kT,Option.bind_eq_bind,Option.bind_eq_some_iff,Option.some.injEq] at h;obtain ⟨X',h3,qs',h4,rfl⟩:=h;exact ⟨rfl,h3,u6 h4⟩
theorem Mx (hk:bF B S m) (ho:pI B S m ρ a) (hs0:¬m.U slot) {t e:TypeId} {len:Nat} {parts:Array (Nat×Operand)} {i:TypeInfo} {z:List Value} {qs:List (Nat×Nat×X)} (hop:o.op=.buildSlice t len parts)
  (h1:bP P t=some e) (h2:P.info? e=some i) (h3:zeroOf P e=some z) (h4:kT i.size parts.toList=some qs) (h5:len * i.size<=16777216) (h6:0 < i.size)
  (hs:step ρ m.h slot (.lits i.size e len z qs)=some (d,us)):Does B S P o a m slot d us:=by
 have hu:=eX h1;obtain ⟨i',zv,g1,g2,g3,g4,g5⟩:=iK h3;rw [h2] at g1;simp only [Option.some.injEq] at g1;subst g1;simp only [step,Option.bind_eq_bind,Option.bind_eq_some_iff,Prod.exists] at hs;obtain ⟨ds,hs1,cs,xs,hs2,hs3⟩:=hs;split at hs3
 case isFalse=>cases hs3
 rename_i hc;obtain ⟨c1,c2⟩:=hc;simp only [Option.some.injEq,Prod.mk.injEq] at hs3;obtain ⟨rfl,rfl⟩:=hs3;have hzs:zv.cells.size=i.size:=by rw [<-g5,<-g3];simp
 have hinit:aj (bu B S m) ((zeros z len).map .c) ((Array.range (len * i.size)).map (zv.cells[· % zv.cells.size]!)).toList:=by rw [<-hzs,rW,g3];exact aj.gJ (Bi g4 len)
 obtain ⟨cells',f1,f2⟩:=Dr ho (u6 h4) hinit hs1;obtain ⟨k1,k2,k3⟩:=uU hk f2 hs2;refine jM hk hs0 k1 k2 (spare:=[]) (cap:=len) k3 (Nat.le_refl _) ?_ (by unfold aD at c2;simp only [maxLen];omega) (.inl rfl) ?_
 ·rw [List.append_nil,<-k3.len];exact c1
 ·have hn16:¬(16777216 < len * i.size):=by omega
  by_cases hz:len * i.size=0
  ·have hl0:len=0:=by
    rcases Nat.mul_eq_zero.1 hz with h|h
    ·exact h
    ·omega
   subst hl0;simp only [Nat.zero_mul,Array.range_zero',Array.map_empty] at f1;have f1':Instr.fill (fun i_1=>some (i_1 * i.size,i.size)) #[] (parts.toList.map fun p=>(p.1,a.eval p.2))=some cells':=by simpa using f1
   simp [execOp,hop,Instr.buildSlice,run_underlying hu,run_sizeOf h2,newRow,Array.range_zero',f1']
  ·simp [execOp,hop,Instr.buildSlice,run_underlying hu,run_sizeOf h2,hn16,hz,zeroValue,typeInfo,h2,g2,newRow,f1]
theorem run_storeVar_row {t:TypeId} {i:TypeInfo} (hi:P.info? t=some i) {w:World} {b off:Nat} {us:List Value} {e:TypeId} (hb:w.heap[b]?=some (.cells us.toArray e (0,0))) {v:Value} (hl:v.cells.size=i.size) (hfit:off+i.size<=us.length)
  (h1:∀x∈v.cells.toList,x.oneCell'=true):(storeVar t ⟨b,off,none⟩ v).run P w=.ok () (w.setRow b (splice us off v.cells.toList).toArray):=by
 have hst:=run_storeCells_at P b off e v.cells.toList 0 us.toArray w hb (by simp;omega) h1
 simp only [Nat.add_zero] at hst;simp only [storeVar,Sem.run_bind,run_sizeOf hi,Result.andThen_ok,hl];simp [hst,splice]
theorem below_setRow {w:World} {b:Nat} {cs:Array Value} (hb:B<=b):Below B w (w.setRow b cs):=
 ⟨rfl,rfl,rfl,by simp,fun k hk=>setRow_other w b k cs (by omega)⟩
theorem gY {α:Type} {l xs:List α} {off:Nat} (h:off+xs.length<=l.length):(splice l off xs).length=l.length:=by unfold splice;simp;omega
theorem rF {α:Type} {l xs:List α} {off q:Nat} (h:off<=l.length) (hq:q < off):(splice l off xs)[q]?=l[q]?:=by unfold splice;rw [List.append_assoc,List.getElem?_append_left (by simp;omega),List.getElem?_take_of_lt hq]
theorem xO {α:Type} {l xs:List α} {off n:Nat} (h:off+xs.length<=n) (hn:n<=l.length):(splice l off xs).take n=splice (l.take n) off xs:=by
 unfold splice;rw [List.append_assoc,List.append_assoc,List.take_append,List.take_append];simp only [List.length_take];have e1:min off l.length=off:=by omega
 have e2:min off (min n l.length)=off:=by omega
 rw [e1,List.take_take,List.take_take];have e3:min n off=off:=by omega
 have e4:min off n=off:=by omega
 rw [e3,e4];congr 1;rw [List.take_of_length_le (by omega:xs.length<=n - off)]
 congr 1;rw [List.drop_take];congr 1;omega
theorem J5 (hk:bF B S m) (ho:pI B S m ρ a) {t:TypeId} {x y:Operand} {X' Y':X} {i:TypeInfo} (hop:o.op=.store t x y) (h1:P.info? t=some i) (hx:aC x=some X') (hy:aC y=some Y')
  (hs:step ρ m.h slot (.store i.size X' Y')=some (d,us)):Does B S P o a m slot d us:=by
 have e1:=ho x X' hx;have e2:=ho y Y' hy;simp only [step] at hs;unfold iF at hs;split at hs
 ·rename_i id off he;rw [he] at e1;obtain ⟨hU,e3⟩:=e1;cases jh:af m.h id with
  |dead=>rw [jh] at hs;cases hs
  |box ds=>
   rw [jh] at hs;simp only [Option.bind_eq_bind,Option.bind_eq_some_iff] at hs;obtain ⟨xs,h2,h3⟩:=hs;split at h3
   case isFalse=>cases h3
   rename_i hc;obtain ⟨c1,c2⟩:=hc;simp only [Option.some.injEq,Prod.mk.injEq] at h3;obtain ⟨rfl,rfl⟩:=h3;obtain ⟨hB,vs,e,hv1,hv2⟩:=hk.box jh;obtain ⟨f1,f2⟩:=wO e2 h2;have hlen:(a.eval y).cells.size=i.size:=by rw [<-c1,f1.len];simp
   have hvl:ds.length=vs.length:=hv2.len;have hrun:=run_storeVar_row (P:=P) (off:=off) h1 hv1 hlen (by omega) f2
   have hother:∀k,k≠m.β id->(m.w.setRow (m.β id) (splice vs off (a.eval y).cells.toList).toArray).heap[k]?=m.w.heap[k]?:=fun k hk'=>setRow_other _ _ _ _ hk'
   have hev:ak B S m (m.upd (m.w.setRow (m.β id) (splice vs off (a.eval y).cells.toList).toArray) id (.box (splice ds off xs))):=by
    refine gF hk jh (o':=.box (splice ds off xs)) trivial hother (fun q u hq _=>hq.elim) ?_
    have hsl:(splice vs off (a.eval y).cells.toList).length=vs.length:=gY (by simp;omega)
    simp [World.shape?,setRow_heap _ _ _ _ _ _ hv1,hv1,hsl]
   have hok:=oo hk (id:=id) (by rw [jh];simp) hev hother (by simp) ⟨hB,_,e,setRow_heap _ _ _ _ _ _ hv1,(hv2.splice off f1).mono fun _ _ h=>hev.jK h⟩
   refine ⟨_,undef,m.w.setRow (m.β id) (splice vs off (a.eval y).cells.toList).toArray,?_,.inr ⟨rfl,rfl⟩,m.β,jd hok slot,hev.trans (bE _ slot),trivial,below_setRow hB⟩;simp [execOp,hop,e3,Instr.storeAt,Instr.sureAddr,hrun]
  |map es=>rw [jh] at hs;cases hs
  |arr cs0 Ym fz0 afe=>
   rw [jh] at hs;simp only [Option.bind_eq_bind,Option.bind_eq_some_iff,Prod.exists] at hs;obtain ⟨xv,iB,h2,h3⟩:=hs;have e2':fO B S m (ρ Y') (a.eval y):=by
    cases hd:ρ Y' with
    |dB ds=>rw [hd] at h2;simp [eP,gM] at h2
    |_=>rw [hd] at e2;exact e2
   obtain ⟨k1,k2,k3⟩:=qI hk e2' h2;obtain ⟨f1,f2⟩:=k3.cells_ok;cases IU:af (ah m.h iB) id with
   |dead=>rw [IU] at h3;cases h3
   |box ds=>rw [IU] at h3;cases h3
   |map ds=>rw [IU] at h3;cases h3
   |arr cs aa fz ety=>
    rw [IU] at h3;simp only at h3;split at h3
    case isFalse=>cases h3
    rename_i hc;obtain ⟨c1,c2,c3⟩:=hc;simp only [Option.some.injEq,Prod.mk.injEq] at h3;obtain ⟨rfl,rfl⟩:=h3;obtain ⟨hB,vs,hv1,hvl,hv2⟩:=k1.arr (id:=id) IU;replace hB:B<=m.β id:=hB;replace hv1:m.w.heap[m.β id]?=some (.cells vs.toArray ety (0,0)):=hv1;have hlen:(a.eval y).cells.size=i.size:=by rw [<-c1,f1.len];simp
    have hrun:=run_storeVar_row (P:=P) (off:=off) h1 hv1 hlen (by omega) f2
    have hsl:(splice vs off (a.eval y).cells.toList).length=vs.length:=gY (by simp;omega)
    have hother:∀k,k≠m.β id->(m.w.setRow (m.β id) (splice vs off (a.eval y).cells.toList).toArray).heap[k]?=m.w.heap[k]?:=fun k hk'=>setRow_other _ _ _ _ hk'
    have hev:ak B S (m.heap (ah m.h iB)) ((m.heap (ah m.h iB)).upd (m.w.setRow (m.β id) (splice vs off (a.eval y).cells.toList).toArray) id (.arr (splice cs off xv.cells) aa fz ety)):=by
     refine gF k1 (id:=id) IU (o':=.arr (splice cs off xv.cells) aa fz ety) ⟨rfl,rfl,Nat.le_refl _⟩ hother (fun q u hq hcell=>?_) ?_
     ·have hq':q < fz:=hq;have hcell':m.w.cell? ⟨m.β id,q,none⟩=some u:=hcell;rw [eO hv1] at hcell';show (m.w.setRow (m.β id) _).cell? ⟨m.β id,q,none⟩=some u
      rw [eO (setRow_heap _ _ _ _ _ _ hv1),rF (by omega) (by omega)]
      exact hcell'
     ·show (m.w.setRow (m.β id) _).shape? (m.β id)=m.w.shape? (m.β id)
      simp [World.shape?,setRow_heap _ _ _ _ _ _ hv1,hv1,hsl]
    have hcl:(splice cs off xv.cells).length=cs.length:=gY (by omega)
    have hok:=oo k1 (id:=id) (by rw [show af (m.heap (ah m.h iB)).h id=_ from IU];simp) hev hother (by simp [M.heap])
     ⟨hB,_,setRow_heap _ _ _ _ _ _ hv1,by rw [hcl,hsl];exact hvl,by
      rw [hcl,xO (by simp;omega) hvl]
      exact (hv2.splice off f1).mono fun c u h=>aJ.mono hev.cell c u h⟩
    refine ⟨_,undef,m.w.setRow (m.β id) (splice vs off (a.eval y).cells.toList).toArray,?_,.inr ⟨rfl,rfl⟩,m.β,?_,?_,trivial,below_setRow hB⟩
    ·simp [execOp,hop,e3,Instr.storeAt,Instr.sureAddr,hrun]
    ·rw [aU];exact jd hok slot
    ·rw [aU];exact k2.trans (hev.trans (bE _ slot))
 ·cases hs
end
end Go.Ey
namespace Go.Ey
open Go.RowKit
section
variable {B:Nat} {S:Nat->Nat->Prop} {P:Program} {o:Oper} {a:Act} {m:M} {slot:Nat} {ρ:X->D} {d:D} {us:List (Nat×Obj)}
theorem vJ {m:M} {id:Nat}:ak B S m (m.heap ((id,.dead)::m.h)) where
 cell b q u h1 h2:=by
  refine ⟨h1,h2.1,fun i=>?_⟩
  simp only [M.heap,aA];by_cases hi:id=i
  ·simp [hi]
  ·simp only [hi,if_false];exact h2.2 i
 used _ hu:=hu
 dead i _ hd:=by
  simp only [M.heap,aA];by_cases hi:id=i
  ·simp [hi]
  ·simp only [hi,if_false];exact hd
 at_ _ _:=rfl
 kind i cs' bU gX dW _ h:=by
  simp only [M.heap,aA] at h;by_cases hi:id=i
  ·simp [hi] at h
  ·simp only [hi,if_false] at h;exact ⟨cs',gX,h,rfl⟩
 rest b _ _ hn:=by
  refine ⟨rfl,fun i hd=>?_⟩
  simp only [M.heap,aA] at hd |-;by_cases hi:id=i
  ·simp [hi] at hd
  ·simp only [hi,if_false] at hd;exact hn i hd
theorem PL {m:M} (hk:bF B S m) {id:Nat}:bF B S (m.heap ((id,.dead)::m.h)):=by
 have hev:=vJ (B:=B) (S:=S) (m:=m) (id:=id);have harr:∀i cs aa fz ety,af (m.heap ((id,.dead)::m.h)).h i=.arr cs aa fz ety->∀o,S ((m.heap ((id,.dead)::m.h)).β i) o:=by
  intro i cs aa fz ety hg;simp only [M.heap,aA] at hg |-;by_cases hi:id=i
  ·simp [hi] at hg
  ·simp only [hi,if_false] at hg;exact hk.Bz i cs aa fz ety hg
 refine ⟨fun i=>?_,fun i j hi hj he=>?_,fun i hu=>?_,hk.base,hk.fresh,harr⟩
 ·unfold tT;by_cases hi:id=i
  ·subst hi;simp only [M.heap,aA,if_true];trivial
  ·have h1:af (m.heap ((id,.dead)::m.h)).h i=af m.h i:=by simp [M.heap,aA,hi]
   rw [h1];exact hev.xZ rfl (hk.obj i)
 ·simp only [M.heap,aA] at hi hj;by_cases h1:id=i
  ·simp [h1] at hi
  ·by_cases h2:id=j
   ·simp [h2] at hj
   ·simp only [h1,h2,if_false] at hi hj;exact hk.inj i j hi hj he
 ·simp only [M.heap,aA];by_cases h1:id=i
  ·simp [h1]
  ·simp only [h1,if_false];exact hk.dom i hu
def M.move (m:M) (w':World) (id slot:Nat) (o':Obj):M:=⟨w',(slot,o')::(id,.dead)::m.h,gB m.β slot (m.β id),fun i=>m.U i\/i=slot⟩
theorem vM {m:M} (hk:bF B S m) {id:Nat} {xs cs':List C} {aa fz ety:Nat} (ho:af m.h id=.arr xs aa fz ety) (hs:¬m.U slot) {w':World} (hother:∀k,k≠m.β id->w'.heap[k]?=m.w.heap[k]?)
  (hcell:∀q u,q < fz->m.w.cell? ⟨m.β id,q,none⟩=some u->w'.cell? ⟨m.β id,q,none⟩=some u):ak B S m (m.move w' id slot (.arr cs' aa fz ety)) where
 cell b q u h1 h2:=by
  have h3:=h2.2 id;rw [ho] at h3;refine ⟨?_,h2.1,fun i=>?_⟩
  ·by_cases hb:b=m.β id
   ·subst hb;exact hcell q u (h3 rfl) h1
   ·rw [<-h1];exact World.cell?_of_block (w:=m.w) (a:=⟨b,q,none⟩) (hother b hb)
  ·simp only [M.move,aA,gB];by_cases hi:slot=i
   ·subst hi;simp only [if_true];exact h3
   ·have hi':¬i=slot:=fun e=>hi e.symm
    simp only [hi,hi',if_false];by_cases hj:id=i
    ·simp [hj]
    ·simp only [hj,if_false];exact h2.2 i
 used _ hu:=.inl hu
 dead i hu hd:=by
  have hi:¬slot=i:=fun e=>hs (e▸hu)
  simp only [M.move,aA,hi,if_false];by_cases hj:id=i
  ·simp [hj]
  ·simp only [hj,if_false];exact hd
 at_ i hu:=by
  have hi:¬i=slot:=fun e=>hs (e▸hu)
  simp [M.move,gB,hi]
 kind i cs2 OL YC Rf hu h:=by
  have hi:¬slot=i:=fun e=>hs (e▸hu)
  simp only [M.move,aA,hi,if_false] at h;by_cases hj:id=i
  ·simp [hj] at h
  ·simp only [hj,if_false] at h;refine ⟨cs2,YC,h,?_⟩;have:m.β i≠m.β id:=fun e=>hj (hk.inj i id (by rw [h];simp) (by rw [ho];simp) e).symm
   simp [World.shape?,M.move,hother _ this]
 rest b _ _ hn:=by
  have hid:m.β id≠b:=hn id (by rw [ho];simp)
  refine ⟨hother b fun e=>hid e.symm,fun i hd=>?_⟩
  simp only [M.move,aA,gB] at hd |-;by_cases hi:slot=i
  ·subst hi;simpa using hid
  ·have hi':¬i=slot:=fun e=>hi e.symm
   simp only [hi,if_false] at hd;simp only [hi',if_false];by_cases hj:id=i
   ·subst hj;exact hid
   ·simp only [hj,if_false] at hd;exact hn i hd
theorem Ii {m:M} (hk:bF B S m) {id:Nat} {xs cs':List C} {aa fz ety:Nat} (ho:af m.h id=.arr xs aa fz ety) {w':World} (hother:∀k,k≠m.β id->w'.heap[k]?=m.w.heap[k]?) (hsz:m.w.heap.size<=w'.heap.size)
  (hev:ak B S m (m.move w' id slot (.arr cs' aa fz ety))) (hrep:r9 B S (m.move w' id slot (.arr cs' aa fz ety)) (m.β id) (.arr cs' aa fz ety)):bF B S (m.move w' id slot (.arr cs' aa fz ety)):=by
 have hlive:af m.h id≠.dead:=by rw [ho];simp
 have harr:∀i cs2 OL YC Rf,af (m.move w' id slot (.arr cs' aa fz ety)).h i=.arr cs2 OL YC Rf->∀o,S ((m.move w' id slot (.arr cs' aa fz ety)).β i) o:=by
  intro i cs2 OL YC Rf hg q;simp only [M.move,aA,gB] at hg |-;by_cases hi:slot=i
  ·subst hi;simp only [if_true];exact hk.Bz id xs aa fz ety ho q
  ·have hi':¬i=slot:=fun e=>hi e.symm
   simp only [hi,if_false] at hg;simp only [hi',if_false];by_cases hj:id=i
   ·simp [hj] at hg
   ·simp only [hj,if_false] at hg;exact hk.Bz i cs2 OL YC Rf hg q
 refine ⟨fun i=>?_,fun i j hi hj he=>?_,fun i hu=>?_,Nat.le_trans hk.base hsz,fun b q hb=>hk.fresh b q (Nat.le_trans hsz hb),harr⟩
 ·unfold tT;by_cases hi:slot=i
  ·subst hi;have h1:af (m.move w' id slot (.arr cs' aa fz ety)).h slot=.arr cs' aa fz ety:=by simp [M.move,aA]
   have h2:(m.move w' id slot (.arr cs' aa fz ety)).β slot=m.β id:=by simp [M.move,gB]
   rw [h1,h2];exact hrep
  ·have hi':¬i=slot:=fun e=>hi e.symm
   have h2:(m.move w' id slot (.arr cs' aa fz ety)).β i=m.β i:=by simp [M.move,gB,hi']
   by_cases hj:id=i
   ·have h1:af (m.move w' id slot (.arr cs' aa fz ety)).h i=.dead:=by simp [M.move,aA,hi,hj]
    rw [h1];trivial
   ·have h1:af (m.move w' id slot (.arr cs' aa fz ety)).h i=af m.h i:=by simp [M.move,aA,hi,hj]
    rw [h1,h2];by_cases hd:af m.h i=.dead
    ·rw [hd];trivial
    ·exact hev.xZ (hother _ fun e=>hj (hk.inj i id hd hlive e).symm) (hk.obj i)
 ·simp only [M.move,aA,gB] at hi hj he;by_cases h1:slot=i<;>by_cases h2:slot=j
  ·omega
  ·have h1':i=slot:=h1.symm;have h2':¬j=slot:=fun e=>h2 e.symm
   simp only [h2,h1',h2',if_true,if_false] at hj he;by_cases h3:id=j
   ·simp [h3] at hj
   ·simp only [h3,if_false] at hj;exact absurd (hk.inj id j hlive hj he) h3
  ·have h1':¬i=slot:=fun e=>h1 e.symm
   have h2':j=slot:=h2.symm;simp only [h1,h1',h2',if_true,if_false] at hi he;by_cases h3:id=i
   ·simp [h3] at hi
   ·simp only [h3,if_false] at hi;exact absurd (hk.inj i id hi hlive he).symm h3
  ·have h1':¬i=slot:=fun e=>h1 e.symm
   have h2':¬j=slot:=fun e=>h2 e.symm
   simp only [h1,h1',h2,h2',if_false] at hi hj he;by_cases h3:id=i
   ·simp [h3] at hi
   ·by_cases h4:id=j
    ·simp [h4] at hj
    ·simp only [h3,h4,if_false] at hi hj;exact hk.inj i j hi hj he
 ·simp only [M.move] at hu |-;have h1:¬m.U i:=fun h=>hu (.inl h)
  have h2:¬slot=i:=fun h=>hu (.inr h.symm)
  simp only [aA,h2,if_false];by_cases h3:id=i
  ·simp [h3]
  ·simp only [h3,if_false];exact hk.dom i h1
theorem mZ (z:Array Value) (n:Nat):(Builtin.zeroCells z n).toList.length=n * z.size:=by simp [Builtin.zeroCells]
theorem He (hk:bF B S m) (ho:pI B S m ρ a) (hs0:¬m.U slot) {t t' e:TypeId} {x y:Operand} {X' Y':X} {i:TypeInfo} {z:List Value} {d':TypeDesc} (hop:o.op=.call { callee:=.builtin .append,args:=#[x,y],argTypes:=#[t,t']})
  (h1:bP P t=some e) (h2:P.info? e=some i) (h3:zeroOf P e=some z) (h4:P.underlying t'=some d') (h5:∀k,d'≠.int k)
  (hx:aC x=some X') (hy:aC y=some Y') (hs:step ρ m.h slot (.app i.size e i.bytes X' Y')=some (d,us)):Does B S P o a m slot d us:=by
 have hu:=eX h1;obtain ⟨i',zv,g1,g2,g3,g4,g5⟩:=iK h3;rw [h2] at g1;simp only [Option.some.injEq] at g1;subst g1;have hzs:zv.cells.size=i.size:=by rw [<-g5,<-g3];simp
 have e1:=ho x X' hx;have e2:=ho y Y' hy;have run:∀v w',(Builtin.append_ #[t,t'] o.type #[a.eval x,a.eval y]).run P m.w=.ok v w'->(execOp a.eval o).run P m.w=.ok (.value v) w':=by intro v w' h;simp [execOp,hop,resolve,invoke,builtin,h]
 simp only [step] at hs;unfold vK at hs;split at hs
 ·rename_i ds k he;simp only [Option.bind_eq_bind,Option.bind_eq_some_iff,Prod.exists] at hs;obtain ⟨cs,n,hs1,hs2⟩:=hs;split at hs2
  case isFalse=>cases hs2
  rename_i hc;obtain ⟨c1,c0,c2,c3,c4⟩:=hc;obtain ⟨news,hn1,hn2⟩:=uO (P:=P) hk e2 hs1 c1;rw [he] at e1;have yY:bu B S m (.full ds k) (a.eval x):=e1;unfold aD at c2 c4;split at hs2
  ·rename_i hz;subst hz;simp only [Option.some.injEq,Prod.mk.injEq] at hs2;obtain ⟨rfl,rfl⟩:=hs2;rcases yY with ⟨e3,rfl,rfl⟩|⟨ad,e3,e4,e5⟩
   ·have:=Ei (P:=P) (w:=m.w) (ty:=o.type) hu h4 h5 h2 hn2
    refine aG hk slot (run _ _ (by rw [e3];exact this)) ?_
    show bu B S m (.full [] 0) _
    exact .inl ⟨rfl,rfl,rfl⟩
   ·have:=uS (P:=P) (w:=m.w) (ty:=o.type) hu h4 h5 h2 hn2 ad k k (Nat.le_refl _)
    refine aG hk slot (run _ _ (by rw [e3];exact this)) ?_
    show bu B S m (.full ds k) _
    exact .inr ⟨ad,rfl,e4,e5⟩
  ·rename_i hz;simp only [Option.some.injEq,Prod.mk.injEq] at hs2;obtain ⟨rfl,rfl⟩:=hs2;rcases yY with ⟨e3,rfl,rfl⟩|⟨ad,e3,e4,e5⟩
   ·rw [Nat.zero_add] at c2;have:=Iq (P:=P) (w:=m.w) (ty:=o.type) hu h4 h5 h2 g2 hn2 (by omega) (by omega) (by omega)
    have hge:=grownCap_ge m.w n 0 e;have hle:=grownCap_le_maxLen m.w n 0 e (by simp only [maxLen];omega)
    simp only [Nat.zero_add,List.nil_append];refine jM (iB:=[]) hk hs0 hk (ak.refl m) (spare:=(Builtin.zeroCells zv.cells (grownCap m.w n 0 e - n)).toList) (cap:=grownCap m.w n 0 e) hn1 hge ?_ hle (.inr rfl) (run _ _ ?_)
    ·rw [List.length_append,mZ,hzs,hn2.cells,<-Nat.add_mul];congr 1;omega
    ·rw [e3,this];congr 2;simp
   ·obtain ⟨vs,hv1,hv2⟩:=qK e5;have hlo:vs.length=k * i.size:=by rw [<-hv1.len];exact c0
    have hnl:news.length=n * i.size:=hn2.cells;have Jv:∀j v,vs[j]?=some v->m.w.cell? (ad.add j)=some v:=by
     intro j v hv;have hne:ds≠[]:=by
      intro e;subst e;cases vs with
      |nil=>simp at hv
      |cons _ _=>exact hv1.elim
     obtain ⟨b,of,sp⟩:=ad;have:sp=none:=e4 hne
     subst this;rw [ku];exact (hv2 j v hv).1
    have hfit:=growslice_fits (show k < k+n by omega) (bytes:=i.bytes) c2
    have hrun:=uT (P:=P) (w:=m.w) (ty:=o.type) hu h4 h5 h2 g2 hn2 ad k k vs hlo Jv (by omega) (by omega) hfit
    have hge:=grownCap_ge m.w (k+n) k e;have hle:=grownCap_le_maxLen m.w (k+n) k e (by simp only [maxLen];omega)
    refine jM (iB:=[]) hk hs0 hk (ak.refl m) (spare:=(Builtin.zeroCells zv.cells (grownCap m.w (k+n) k e - (k+n))).toList) (cap:=grownCap m.w (k+n) k e) (hv1.append hn1) hge ?_ hle (.inr rfl) (run _ _ ?_)
    ·rw [List.length_append,List.length_append,mZ,hzs,hlo,hnl,<-Nat.add_mul,<-Nat.add_mul];congr 1;omega
    ·rw [e3,hrun];congr 2;simp
 ·rename_i id off len he;cases jh:af m.h id with
  |dead=>rw [jh] at hs;cases hs
  |box ds=>rw [jh] at hs;cases hs
  |map ds=>rw [jh] at hs;cases hs
  |arr xs bU fz dW=>
   rw [jh] at hs;simp only [Option.bind_eq_bind,Option.bind_eq_some_iff,Prod.exists] at hs;obtain ⟨cs,n,hs1,hs2⟩:=hs;split at hs2
   case isFalse=>cases hs2
   rename_i hc;obtain ⟨c1,c2,c3,c4,rfl,rfl,rfl,c5,c6⟩:=hc;simp only [Option.some.injEq,Prod.mk.injEq] at hs2;obtain ⟨rfl,rfl⟩:=hs2;obtain ⟨news,hn1,hn2⟩:=uO (P:=P) hk e2 hs1 c1;obtain ⟨hB,vs,hv1,hvl,hv2⟩:=hk.arr jh;rw [he] at e1;obtain ⟨hU,ad,cap,e3,e4,e5⟩:=e1;rw [jh] at e5;simp only at e5;unfold aD at c2 c4;have holds:aj (aJ m.w (Safe B S m)) (xs.take (len * i.size)) (vs.take (len * i.size)):=by
    have:=hv2.take (len * i.size)
    rw [List.take_take,Nat.min_eq_left c6] at this;exact this
   have hlo:(vs.take (len * i.size)).length=len * i.size:=by rw [<-holds.len,List.length_take];omega
   have hnl:news.length=n * i.size:=hn2.cells;by_cases hroom:len+n<=cap/\cap≠0
   ·
    obtain ⟨hroom,hcap0⟩:=hroom;rcases e5 with ⟨rfl,sz,e6,e7,e8⟩|⟨_,hz⟩
    case inr=>exact absurd hz hcap0
    have hsz:sz=vs.length:=by simp [World.shape?,hv1] at e6;omega
    have hmul:(len+n) * i.size<=cap * i.size:=Nat.mul_le_mul_right _ hroom;rw [Nat.add_mul] at hmul;have hfit:len * i.size+news.length<=vs.toArray.size:=by simp;omega
    have hrun:=DT (P:=P) (w:=m.w) (ty:=o.type) hu h4 h5 h2 hn2 (m.β id) len cap vs.toArray hv1 (aj.mem_right (fun _ _ h=>h.oneCell) hn1) hroom hfit
    simp only at hrun;have hother:∀k,k≠m.β id->(m.w.setRow (m.β id) (vs.take (len * i.size)++news++vs.drop (len * i.size+news.length)).toArray).heap[k]?=m.w.heap[k]?:=fun k hk'=>setRow_other _ _ _ _ hk'
    have hev:ak B S m (m.move (m.w.setRow (m.β id) (vs.take (len * i.size)++news++vs.drop (len * i.size+news.length)).toArray) id slot (.arr (xs.take (len * i.size)++cs) i.size fz dW)):=by
     refine vM hk jh hs0 hother fun q u hq hcell=>?_
     rw [eO hv1] at hcell;rw [eO (setRow_heap _ _ _ _ _ _ hv1),List.append_assoc,List.getElem?_append_left (by rw [hlo];omega),List.getElem?_take_of_lt (by omega)]
     exact hcell
    have KL:(xs.take (len * i.size)++cs).length=(vs.take (len * i.size)++news).length:=(holds.append hn1).len;have hok:=Ii hk jh hother (by simp) hev ⟨hB,_,setRow_heap _ _ _ _ _ _ hv1,by rw [List.length_append (as:=vs.take _++news),KL];omega,by rw [KL,List.take_left];exact (holds.append hn1).mono fun c u h=>aJ.mono hev.cell c u h⟩
    refine ⟨_,.slice (some ⟨m.β id,0,none⟩) (len+n) cap,_,run _ _ ?_,.inl rfl,gB m.β slot (m.β id),hok,hev,?_,below_setRow hB⟩
    ·rw [e3];exact hrun
    ·refine ⟨.inr rfl,⟨m.β id,0,none⟩,cap,rfl,hroom,?_⟩;simp only [ah,aA,if_true,gB];refine .inl ⟨trivial,sz,?_,by omega,e8⟩
     simp only [World.shape?,setRow_heap _ _ _ _ _ _ hv1];simp;omega
   ·
    have hk1:=PL hk (id:=id);have aaG:=vJ (B:=B) (S:=S) (m:=m) (id:=id);by_cases hz:len+n=0
    ·
     have hl0:len=0:=by omega
     have hn0:n=0:=by omega
     subst hl0 hn0;have hcap0:cap=0:=by
      rcases Nat.eq_zero_or_pos cap with h|h
      ·exact h
      ·exact absurd ⟨by omega,by omega⟩ hroom
     subst hcap0;have hrun:=uS (P:=P) (w:=m.w) (ty:=o.type) hu h4 h5 h2 hn2 ad 0 0 (Nat.le_refl _);have hev:ak B S m (m.move m.w id slot (.arr (xs.take (0 * i.size)++cs) i.size fz dW)):=vM hk jh hs0 (fun _ _=>rfl) fun _ _ _ h=>h
     have ad9:cs=[]:=List.eq_nil_of_length_eq_zero (by simpa using c1)
     subst ad9;have hok:=Ii hk jh (w':=m.w) (fun _ _=>rfl) (Nat.le_refl _) hev ⟨hB,vs,hv1,by simp,by simp [aj]⟩
     refine ⟨_,.slice (some ad) 0 0,_,run _ _ ?_,.inl rfl,gB m.β slot (m.β id),hok,hev,?_,Below.refl _ _⟩
     ·rw [e3];exact hrun
     ·refine ⟨.inr rfl,ad,0,rfl,Nat.le_refl _,?_⟩;simp only [ah,aA,if_true];exact .inr ⟨trivial,trivial⟩
    ·have hgrow:cap < len+n:=by
      rcases Nat.lt_or_ge cap (len+n) with h|h
      ·exact h
      ·exact absurd ⟨h,by omega⟩ hroom
     have hfit:=growslice_fits hgrow (bytes:=i.bytes) c2;have Jv:∀j v,(vs.take (len * i.size))[j]?=some v->m.w.cell? (ad.add j)=some v:=by
      intro j v hv;rcases e5 with ⟨rfl,_⟩|⟨hl0,_⟩
      ·rw [ku,eO hv1];have hj:j < len * i.size:=by have:=(List.getElem?_eq_some_iff.1 hv).1;simp at this;omega
       rw [List.getElem?_take_of_lt hj] at hv;simpa using hv
      ·subst hl0;simp at hv
     have hrun:=uT (P:=P) (w:=m.w) (ty:=o.type) hu h4 h5 h2 g2 hn2 ad len cap (vs.take (len * i.size)) hlo Jv hgrow (by omega) hfit
     have hge:=grownCap_ge m.w (len+n) cap dW;have hle:=grownCap_le_maxLen m.w (len+n) cap dW (by simp only [maxLen];omega)
     have hall:aj (aJ m.w (Safe B S (m.heap (ah m.h [(id,.dead)])))) (xs.take (len * i.size)++cs) (vs.take (len * i.size)++news):=
      (holds.append hn1).mono fun c u h=>aJ.mono aaG.cell c u h
     refine jM (iB:=[(id,.dead)]) (fz:=fz) hk hs0 hk1 aaG (spare:=(Builtin.zeroCells zv.cells (grownCap m.w (len+n) cap dW - (len+n))).toList) (cap:=grownCap m.w (len+n) cap dW) hall hge ?_ hle (.inr rfl) (run _ _ ?_)
     ·rw [List.length_append,List.length_append,mZ,hzs,hlo,hnl,<-Nat.add_mul,<-Nat.add_mul];congr 1;omega
     ·rw [e3,hrun];congr 2;simp
 ·cases hs
theorem Om (hk:bF B S m) (ho:pI B S m ρ a) {t t' e:TypeId} {x y:Operand} {X' Y':X} {i:TypeInfo} (hop:o.op=.call { callee:=.builtin .copy,args:=#[x,y],argTypes:=#[t,t']})
  (h1:bP P t=some e) (h2:P.info? e=some i) (hx:aC x=some X') (hy:aC y=some Y') (hs:step ρ m.h slot (.EZ i.size X' Y')=some (d,us)):Does B S P o a m slot d us:=by
 have hu:=eX h1;have e1:=ho x X' hx;have e2:=ho y Y' hy;have run:∀v w',(Builtin.copy_ #[t,t'] o.type #[a.eval x,a.eval y]).run P m.w=.ok v w'->(execOp a.eval o).run P m.w=.ok (.value v) w':=by intro v w' h;simp [execOp,hop,resolve,invoke,builtin,h]
 simp only [step] at hs;unfold Gj at hs;split at hs
 ·rename_i id off len he;cases jh:af m.h id with
  |dead=>rw [jh] at hs;cases hs
  |box ds=>rw [jh] at hs;cases hs
  |map ds=>rw [jh] at hs;cases hs
  |arr xs bU fz ety=>
   rw [jh] at hs;simp only [Option.bind_eq_bind,Option.bind_eq_some_iff,Prod.exists] at hs;obtain ⟨cs,n,hs1,hs2⟩:=hs;split at hs2
   case isFalse=>cases hs2
   rename_i hc;obtain ⟨c1,rfl,c2,c3⟩:=hc;simp only [Option.some.injEq,Prod.mk.injEq] at hs2;obtain ⟨rfl,rfl⟩:=hs2;obtain ⟨news,hn1,hn2⟩:=uO (P:=P) hk e2 hs1 c1;obtain ⟨hB,vs,hv1,hvl,hv2⟩:=hk.arr jh;rw [he] at e1;obtain ⟨hU,ad,cap,e3,e4,e5⟩:=e1;rw [jh] at e5;simp only at e5;have hmin:min n len<=n:=Nat.min_le_left _ _;have Qu:min n len<=len:=Nat.min_le_right _ _;have hm1:=Nat.mul_le_mul_right i.size hmin;have hm2:=Nat.mul_le_mul_right i.size Qu;have hk1:aj (aJ m.w (Safe B S m)) (cs.take (min n len * i.size)) (news.take (min n len * i.size)):=hn1.take _;have hkl:(news.take (min n len * i.size)).length=min n len * i.size:=by rw [List.length_take,hn2.cells];omega
   have adw:(cs.take (min n len * i.size)).length=min n len * i.size:=by rw [hk1.len];exact hkl
   rcases e5 with ⟨rfl,sz,e6,e7,e8⟩|⟨rfl,rfl⟩
   ·have hrun:=SC (P:=P) (w:=m.w) (sT:=t') (ty:=o.type) hu h2 hn2 (m.β id) off len cap vs.toArray ety hv1 (aj.mem_right (fun _ _ h=>h.oneCell) hn1) (by simp;omega)
    have hrun':(Builtin.copy_ #[t,t'] o.type #[.slice (some ⟨m.β id,off,none⟩) len cap,a.eval y]).run P m.w=.ok (goInt (min n len:Nat)) (m.w.setRow (m.β id) (splice vs off (news.take (min n len * i.size))).toArray):=hrun;have hsl:(splice vs off (news.take (min n len * i.size))).length=vs.length:=gY (by rw [hkl];omega)
    have hother:∀k,k≠m.β id->(m.w.setRow (m.β id) (splice vs off (news.take (min n len * i.size))).toArray).heap[k]?=m.w.heap[k]?:=fun k hk'=>setRow_other _ _ _ _ hk'
    have hev:ak B S m (m.upd (m.w.setRow (m.β id) (splice vs off (news.take (min n len * i.size))).toArray) id (.arr (splice xs off (cs.take (min n len * i.size))) i.size fz ety)):=by
     refine gF hk jh (o':=.arr (splice xs off (cs.take (min n len * i.size))) i.size fz ety) ⟨rfl,rfl,Nat.le_refl _⟩ hother (fun q u hq hcell=>?_) ?_
     ·have hq':q < fz:=hq;rw [eO hv1] at hcell;rw [eO (setRow_heap _ _ _ _ _ _ hv1),rF (by omega) (by omega)]
      exact hcell
     ·simp [World.shape?,setRow_heap _ _ _ _ _ _ hv1,hv1,hsl]
    have hcl:(splice xs off (cs.take (min n len * i.size))).length=xs.length:=gY (by rw [adw];omega)
    have hok:=oo hk (id:=id) (by rw [jh];simp) hev hother (by simp)
     ⟨hB,_,setRow_heap _ _ _ _ _ _ hv1,by rw [hcl,hsl];exact hvl,by
      rw [hcl,xO (by rw [hkl];omega) hvl]
      exact (hv2.splice off hk1).mono fun c u h=>aJ.mono hev.cell c u h⟩
    refine ⟨_,goInt (min n len:Nat),m.w.setRow (m.β id) (splice vs off (news.take (min n len * i.size))).toArray,run _ _ ?_,.inl rfl,m.β,jd hok slot,hev.trans (bE _ slot),aX.mkLit rfl,below_setRow hB⟩;rw [e3];exact hrun'
   ·have hrun:=BI (P:=P) (w:=m.w) (sT:=t') (ty:=o.type) hu h2 hn2 ad 0;have hmz:min n 0=0:=Nat.min_zero n;have hev:ak B S m (m.upd m.w id (.arr (splice xs off (cs.take (min n 0 * i.size))) i.size fz ety)):=
     gF hk jh (o':=.arr (splice xs off (cs.take (min n 0 * i.size))) i.size fz ety) ⟨rfl,rfl,Nat.le_refl _⟩ (fun _ _=>rfl) (fun _ _ _ h=>h) rfl
    have hxs:splice xs off (cs.take (min n 0 * i.size))=xs:=by simp [splice]
    have aa8:=hev;rw [hxs] at aa8;have hok:=oo hk (id:=id) (w':=m.w) (by rw [jh];simp) hev (fun _ _=>rfl) (Nat.le_refl _)
     ⟨hB,vs,hv1,by rw [hxs];exact hvl,by rw [hxs];exact hv2.mono fun c u h=>aJ.mono aa8.cell c u h⟩
    refine ⟨_,goInt 0,m.w,run _ _ ?_,.inl rfl,m.β,jd hok slot,hev.trans (bE _ slot),?_,Below.refl _ _⟩
    ·rw [e3];exact hrun
    ·rw [hmz];exact aX.mkLit rfl
 ·cases hs
end
end Go.Ey
namespace Go.Ey
open Go.RowKit
section
variable {B:Nat} {S:Nat->Nat->Prop} {P:Program} {o:Oper} {a:Act} {m:M} {slot:Nat} {ρ:X->D} {d:D} {us:List (Nat×Obj)}
theorem SY {w:World} {Sf:Nat->Nat->Prop} {t:TypeId} {k:Nat} (ht:xX P t=some k) (dd:Nat) {x y:C} {u v:Value} {r:Bool} (hx:aJ w Sf x u) (hy:aJ w Sf y v) (h:Mv k x y=some r):
  (Op.equalIn (dd+1) t u v).run P w=.ok r w/\uD P t=some false:=by
 unfold Mv at h;unfold xX at ht;split at h
 ·rename_i k1 a k2 b;simp only [aJ] at hx hy;obtain ⟨rfl,_⟩:=hx;obtain ⟨rfl,_⟩:=hy;split at h
  case isFalse=>cases h
  rename_i hk;subst hk;simp only [Option.some.injEq] at h;subst h;split at ht<;>try (cases ht;done)
  rename_i q hu;exact ⟨run_equalIn_int w dd t k1 q a b hu,by simp [uD,hu]⟩
 ·rename_i a b;simp only [aJ] at hx hy;obtain ⟨rfl,_⟩:=hx;obtain ⟨rfl,_⟩:=hy;simp only [Option.some.injEq] at h;subst h;split at ht<;>try (cases ht;done)
  rename_i hu;exact ⟨run_equalIn_string w dd t a b hu,by simp [uD,hu]⟩
 ·rename_i a b;simp only [aJ] at hx hy;obtain ⟨rfl,_⟩:=hx;obtain ⟨rfl,_⟩:=hy;simp only [Option.some.injEq] at h;subst h;split at ht<;>try (cases ht;done)
  rename_i hu;exact ⟨run_equalIn_bool' w dd t a b hu,by simp [uD,hu]⟩
 ·cases h
theorem uB (dd:Nat):∀(fs:List Field) (j:Nat) (ks:List Nat) (ax bs:List D) (us vs pre pre':List Value) (r:Bool),pre.length=j->pre'.length=j->eB P j fs=some ks->aj (bu B S m) ax us->aj (bu B S m) bs vs->Ae ks ax bs=some r->
  (Op.eqFields (dd+1) (pre++us).toArray (pre'++vs).toArray fs).run P m.w=.ok r m.w
 |[],j,ks,ax,bs,us,vs,pre,pre',r,_,_,hk,ha,hb,h=>by
  simp only [eB,Option.some.injEq] at hk;subst hk;unfold Ae at h;split at h<;>try (simp_all;done)
  all_goals first|(simp only [Option.some.injEq] at h;subst h;simp [Op.eqFields])|(cases h)
 |f::fs,j,ks,ax,bs,us,vs,pre,pre',r,hp,hp',hk,ha,hb,h=>by
  simp only [eB,Option.bind_eq_bind,Option.bind_eq_some_iff] at hk;obtain ⟨k,hk1,ks',hk2,hk3⟩:=hk;split at hk3
  case isFalse=>cases hk3
  rename_i hc;obtain ⟨hoff,hname⟩:=hc;simp only [Option.some.injEq] at hk3;subst hk3
  match ax,bs,us,vs,ha,hb,h with
  |.c x::ax,.c y::bs,u::us,v::vs,ha,hb,h=>
   simp only [Ae,Option.bind_eq_bind,Option.bind_eq_some_iff,Option.some.injEq] at h;obtain ⟨x1,h1,y1,h2,rfl⟩:=h;obtain ⟨e1,e2⟩:=SY (P:=P) hk1 dd ha.1 hb.1 h1;have g1:((pre++u::us).toArray)[f.offset]?=some u:=by rw [hoff,<-hp];simp
   have g2:((pre'++v::vs).toArray)[f.offset]?=some v:=by rw [hoff,<-hp'];simp
   have p1:(Go.part f.type (pre++u::us).toArray f.offset).run P m.w=.ok u m.w:=by simp only [Go.part,Sem.run_bind,kQ e2,Result.andThen_ok,Bool.false_eq_true,if_false,g1,Sem.run_pure]
   have p2:(Go.part f.type (pre'++v::vs).toArray f.offset).run P m.w=.ok v m.w:=by simp only [Go.part,Sem.run_bind,kQ e2,Result.andThen_ok,Bool.false_eq_true,if_false,g2,Sem.run_pure]
   have ih:=uB dd fs (j+1) ks' ax bs us vs (pre++[u]) (pre'++[v]) y1 (by simp [hp]) (by simp [hp']) hk2 ha.2 hb.2 h2
   simp only [List.append_assoc,List.cons_append,List.nil_append] at ih;simp only [Op.eqFields,hname,ne_eq,not_false_eq_true,if_true,Sem.run_bind,p1,p2,e1,Result.andThen_ok];cases x1
   ·simp
   ·simpa using ih
theorem QK (hk:bF B S m) (ho:pI B S m ρ a) {op:BinOp} {t t':TypeId} {x y:Operand} {X' Y':X} {fs:Array Field} {ks:List Nat} {ins:Ins} (hop:o.op=.binOp op t x y t') (ht:P.underlying t=some (.struct fs)) (hks:eB P 0 fs.toList=some ks)
  (hst:P.stoodInHeld t=false) (hgd:P.eqGuardType P.depth t=false) (hx:aC x=some X') (hy:aC y=some Y') (hins:z8 ks op X' Y'=some ins) (hs:step ρ m.h slot ins=some (d,us)):Does B S P o a m slot d us:=by
 have e1:=ho x X' hx;have e2:=ho y Y' hy;have main:∀neg,(op=.eql/\neg=false\/op=.neq/\neg=true)->Qf ks neg (ρ X') (ρ Y')=some d->us=[]->Does B S P o a m slot d us:=by
  intro neg hneg h1 h2;subst h2;unfold Qf at h1;split at h1
  case h_2=>cases h1
  rename_i ax bs hX hY;simp only [Option.map_eq_some_iff] at h1;obtain ⟨r,h3,rfl⟩:=h1;rw [hX] at e1;rw [hY] at e2;obtain ⟨pE,e3,e4⟩:=e1;obtain ⟨yZ,e5,e6⟩:=e2;have hrun:(Op.equalIn Op.maxDepth t (.agg pE.toArray) (.agg yZ.toArray)).run P m.w=.ok r m.w:=by
   have hf:P.fieldsOf t=fs:=by simp [Program.fieldsOf,ht]
   have:=run_equalIn_struct (P:=P) m.w 9999 t pE.toArray yZ.toArray (by rw [hf];exact ht) hst
   rw [show Op.maxDepth=9999+1 from rfl,this,hf]
   exact uB (B:=B) (S:=S) 9998 fs.toList 0 ks ax bs pE yZ [] [] r rfl rfl hks e4 e6 h3
  refine aG hk slot (v:=.bool (if neg then !r else r)) ?_ (aX.mkLit rfl)
  rcases hneg with ⟨rfl,rfl⟩|⟨rfl,rfl⟩
  ·simp [execOp,hop,e3,e5,eqGuard,hgd,binOp,Op.equal,hrun]
  ·simp [execOp,hop,e3,e5,eqGuard,hgd,binOp,Op.equal,hrun]
 unfold z8 at hins;split at hins
 ·simp only [Option.some.injEq] at hins;subst hins;simp only [step] at hs;obtain ⟨h1,rfl⟩:=aR hs;exact main false (.inl ⟨rfl,rfl⟩) h1 rfl
 ·simp only [Option.some.injEq] at hins;subst hins;simp only [step] at hs;obtain ⟨h1,rfl⟩:=aR hs;exact main true (.inr ⟨rfl,rfl⟩) h1 rfl
 ·cases hins
theorem KM (ho:pI B S m ρ a):∀{os:List Operand} {xs:List X} {ls:List (Nat×Nat)},dK os=some xs->ni ρ xs=some ls->
  os.map a.eval=ls.map (fun p=>Value.pointer (some ⟨m.β p.1,p.2,none⟩))/\∀p∈ls,m.U p.1
 |[],xs,ls,h1,h2=>by simp only [dK,Option.some.injEq] at h1;subst h1;simp only [ni,Option.some.injEq] at h2;subst h2;exact ⟨rfl,by simp⟩
 |op::os,xs,ls,h1,h2=>by
  simp only [dK,Option.bind_eq_bind,Option.bind_eq_some_iff,Option.some.injEq] at h1;obtain ⟨y,h3,ys,h4,rfl⟩:=h1;have e1:=ho op y h3;unfold ni at h2;split at h2
  case h_2=>cases h2
  rename_i id off he;simp only [Option.bind_eq_bind,Option.bind_eq_some_iff,Option.some.injEq] at h2;obtain ⟨r,h5,rfl⟩:=h2;rw [he] at e1;obtain ⟨hU,hv⟩:=e1;obtain ⟨i1,i2⟩:=KM ho h4 h5;refine ⟨by simp only [List.map_cons,i1,hv],fun p hp=>?_⟩
  rcases List.mem_cons.1 hp with rfl|hp
  ·exact hU
  ·exact i2 p hp
theorem Qn (hk:bF B S m) (ho:pI B S m ρ a) {f:Nat} {first captured:Array Operand} {xs:List X} (hop:o.op=.makeFunc (.func f) first captured) (hf:first.size=0) (hx:dK captured.toList=some xs) (hs:step ρ m.h slot (.R3 f xs)=some (d,us)):
  Does B S P o a m slot d us:=by
 simp only [step] at hs;obtain ⟨h1,rfl⟩:=aR hs;simp only [Option.bind_eq_bind,Option.bind_eq_some_iff,Option.some.injEq] at h1;obtain ⟨ls,h2,rfl⟩:=h1;obtain ⟨e1,e2⟩:=KM ho hx h2;have hf':first=#[]:=Array.eq_empty_of_size_eq_zero hf;subst hf';have hcap:captured.map a.eval=(ls.map (fun p=>Value.pointer (some ⟨m.β p.1,p.2,none⟩))).toArray:=by apply Array.ext';rw [Array.toList_map,e1]
 refine aG hk slot (v:=.func (.func f) #[] (captured.map a.eval)) ?_ ⟨by rw [hcap],e2⟩
 simp [execOp,hop,Instr.makeFunc]
end
end Go.Ey
namespace Go.Ey
open Go.RowKit
section
variable {B:Nat} {S:Nat->Nat->Prop} {P:Program} {o:Oper} {a:Act} {m:M} {slot:Nat} {ρ:X->D} {d:D} {us:List (Nat×Obj)}
theorem Hz {w:World} {len cap l r:Nat} {lo:Option Value} {kh km:IntKind} {ih im:Int} (h1:iC lo 0 l) (hl:l<=r) (hr:r<=cap) (h0:0<=ih) (he:ih.toNat=r) (hm:im=ih):
  (Instr.sliceBounds true len cap lo (some (.int kh ih)) (some (.int km im))).run P w=.ok (l,r,r) w:=by
 subst hm;have e1:∀code,(Instr.sliceBound (.int km im) cap code).run P w=.ok r w:=fun code=>by rw [run_sliceBound (P:=P) w km im cap code h0 (by omega),he]
 have e2:∀code,(Instr.sliceBound (.int kh im) r code).run P w=.ok r w:=fun code=>by rw [run_sliceBound (P:=P) w kh im r code h0 (by omega),he]
 cases lo with
 |none=>
  simp only [iC] at h1;subst h1;simp [Instr.sliceBounds,e1,e2]
 |some v=>
  obtain ⟨k,i,rfl,h3,h4⟩:=h1;have e3:∀code,(Instr.sliceBound (.int k i) r code).run P w=.ok l w:=fun code=>by rw [run_sliceBound (P:=P) w k i r code h3 (by omega),h4]
  simp [Instr.sliceBounds,e1,e2,e3]
theorem MM (hk:bF B S m) (ho:pI B S m ρ a) {t e:TypeId} {x hi mx:Operand} {lo:Option Operand} {X' H' M':X} {Lo:Option X} {i:TypeInfo} (hop:o.op=.slice t x lo (some hi) (some mx)) (h1:P.underlying t=some (.slice e)) (h2:P.info? e=some i)
  (hx:aC x=some X') (hlo:ja lo=some Lo) (hhi:aC hi=some H') (hmx:aC mx=some M') (hs:step ρ m.h slot (.clip i.size X' Lo H' M')=some (d,us)):Does B S P o a m slot d us:=by
 have e1:=ho x X' hx;have e2:=ho hi H' hhi;have e3:=ho mx M' hmx;simp only [step,Lu,Option.bind_eq_bind,Option.bind_eq_some_iff,Prod.exists] at hs;obtain ⟨ia,ha,ib,hb,c,iB,hf,hs⟩:=hs;obtain ⟨ka,ha'⟩:=dI ha;obtain ⟨kb,hb'⟩:=dI hb;split at hs
 case h_2=>cases hs
 rename_i cs n;simp only [Option.bind_eq_some_iff,Prod.exists] at hs;obtain ⟨xs,k,hcut,hs⟩:=hs;split at hs
 case isFalse=>cases hs
 rename_i hab;subst hab;simp only [Option.some.injEq,Prod.mk.injEq] at hs;obtain ⟨rfl,rfl⟩:=hs;rw [ha'] at e2;rw [hb'] at e3;have yY:bu B S m (ρ X') (a.eval x):=by
  cases hX:ρ X' with
  |dB q=>rw [hX] at hf;simp [gM] at hf
  |agg q=>rw [hX] at hf;simp [gM] at hf
  |_=>rw [hX] at e1;exact e1
 obtain ⟨k1,k2,k3⟩:=Er hk yY hf;simp only [yx,Option.bind_eq_bind,Option.bind_eq_some_iff] at hcut;obtain ⟨l,h4,r,h5,h6⟩:=hcut;split at h6
 case isFalse=>cases h6
 rename_i hbd;obtain ⟨hlr,hrn⟩:=hbd;simp only [Option.some.injEq,Prod.mk.injEq] at h6;obtain ⟨rfl,rfl⟩:=h6;have hr0:0<=ia/\ia.toNat=r:=by
  simp only [qA,ha',asInt,Option.bind_eq_bind,Option.bind_some] at h5;split at h5
  ·rename_i h0;simp only [Option.some.injEq] at h5;exact ⟨h0,h5⟩
  ·cases h5
 have aeH:=uI ho hlo h4;have run:∀(ad:Option Addr) (len cap:Nat),a.eval x=.slice ad len cap->r<=cap->
   (execOp a.eval o).run P m.w=.ok (.value (.slice (if r=l then ad else ad.map (·.add (l * i.size))) (r - l) (r - l))) m.w:=by
  intro ad len cap he hr;have hbs:=Hz (P:=P) (w:=m.w) (len:=len) (cap:=cap) (kh:=ka) (km:=kb) (ih:=ia) (im:=ia) aeH hlr hr hr0.1 hr0.2 rfl;simp [execOp,hop,Instr.sliceAt,Instr.slice,run_underlying h1,he,e2.lit,e3.lit,hbs,run_sizeOf h2]
 have fin:∀v,(execOp a.eval o).run P m.w=.ok (.value v) m.w->bu B S (m.heap (ah m.h iB)) (.full ((cs.drop (l * i.size)).take ((r - l) * i.size)) (r - l)) v->
   Does B S P o a m slot (.full ((cs.drop (l * i.size)).take ((r - l) * i.size)) (r - l)) iB:=by
  intro v hrun hrep;have g1:=jd k1 slot;have g2:=bE (B:=B) (S:=S) (m.heap (ah m.h iB)) slot;exact ⟨_,v,m.w,hrun,.inl rfl,m.β,g1,k2.trans g2,g2.jK hrep,Below.refl _ _⟩
 simp only [aJ] at k3;rcases k3 with ⟨e4,rfl,rfl⟩|⟨ad,cap,e4,e5,e6,e7⟩
 ·have hl0:l=0:=by omega
  have hr1:r=0:=by omega
  subst hl0 hr1;refine fin _ (run none 0 0 e4 (Nat.le_refl _)) (.inl ⟨?_,rfl,by simp⟩)
  simp
 ·refine fin _ (run (some ad) n cap e4 (by omega)) (.inr ?_)
  by_cases hc:r=l
  ·rw [if_pos hc];have hz:r - l=0:=by omega
   refine ⟨ad,rfl,?_,?_⟩
   ·rw [hz];simp
   ·rw [hz];simp [bN]
  ·rw [if_neg hc];refine ⟨ad.add (l * i.size),rfl,?_,?_⟩
   ·intro hne;unfold Addr.add;split
    ·exact e6 fun e=>hne (by rw [e];simp)
    ·rfl
   ·have:=sw ((r - l) * i.size) (kY (l * i.size) e7)
    unfold Addr.add;split
    ·rename_i h0;rw [h0] at this |-;simp only [Nat.add_zero] at this;exact this
    ·exact this
end
end Go.Ey
namespace Go.Ey
open Go.RowKit
section
variable {B:Nat} {S:Nat->Nat->Prop} {P:Program} {o:Oper} {a:Act} {m:M} {slot:Nat} {ρ:X->D} {d:D} {us:List (Nat×Obj)} {ji:Nat->Nat}
theorem zk {args:Array Operand} {x:X} (h:dK args.toList=some [x]):∃p,args=#[p]/\aC p=some x:=by
 obtain ⟨l⟩:=args;simp only at h;cases l with
 |nil=>simp [dK] at h
 |cons p l=>
  simp only [dK,Option.bind_eq_bind,Option.bind_eq_some_iff,Option.some.injEq,List.cons.injEq] at h;obtain ⟨y,h1,ys,h2,rfl,rfl⟩:=h;cases l with
  |nil=>exact ⟨p,rfl,h1⟩
  |cons q l=>
   simp only [dK,Option.bind_eq_bind,Option.bind_eq_some_iff,Option.some.injEq] at h2;obtain ⟨_,_,_,_,h⟩:=h2;cases h
theorem oO {args:Array Operand} {x y:X} (h:dK args.toList=some [x,y]):∃p q,args=#[p,q]/\aC p=some x/\aC q=some y:=by
 obtain ⟨l⟩:=args;simp only at h;cases l with
 |nil=>simp [dK] at h
 |cons p l=>
  simp only [dK,Option.bind_eq_bind,Option.bind_eq_some_iff,Option.some.injEq,List.cons.injEq] at h;obtain ⟨z,h1,ys,h2,rfl,rfl⟩:=h;obtain ⟨q,h3,h4⟩:=zk (args:=l.toArray) (by simpa using h2)
  have:l=[q]:=by simpa using congrArg Array.toList h3
  subst this;exact ⟨p,q,rfl,h1,h4⟩
theorem QO {α:Type} {l:Array α} {x:α} (h:l.toList=[x]):l=#[x]:=by obtain ⟨l⟩:=l;simp at h;subst h;rfl
theorem Fb {α:Type} {l:Array α} {x y:α} (h:l.toList=[x,y]):l=#[x,y]:=by obtain ⟨l⟩:=l;simp at h;subst h;rfl
def We:Ins->Bool
 |.call _ _|.cu _ _ _|.eZ _ _|.dQ _ _=>true
 |_=>false
theorem Ib {op:Op} {ins:Ins} (h:mJ P op=some ins):lN ins=true:=by
 unfold mJ at h;split at h
 ·simp only [Option.some.injEq] at h;subst h;rfl
 ·split at h
  case h_2=>cases h
  simp only [Option.bind_eq_bind,Option.bind_eq_some_iff,Option.some.injEq] at h;obtain ⟨_,_,_,_,_,_,_,_,_,_,rfl⟩:=h;rfl
 ·split at h
  case h_2=>cases h
  simp only [Option.bind_eq_bind,Option.bind_eq_some_iff,Option.some.injEq] at h;obtain ⟨_,_,_,_,_,_,_,_,rfl⟩:=h;rfl
 ·split at h
  case h_2=>cases h
  simp only [Option.bind_eq_bind,Option.bind_eq_some_iff,Option.some.injEq] at h;obtain ⟨_,_,_,_,_,_,_,_,rfl⟩:=h;rfl
 ·cases h
theorem ny {op:Op} {ins:Ins} (h:vD P ji op=some ins):(lN ins=true/\mJ P op=some ins)\/(lN ins=false/\jg P ji op=some ins):=by
 unfold vD at h;split at h
 ·rename_i i hi;simp only [Option.some.injEq] at h;subst h;exact .inl ⟨Ib hi,hi⟩
 ·split at h
  ·rename_i i hi;split at h
   ·cases h
   ·rename_i hm;simp only [Option.some.injEq] at h;subst h;exact .inr ⟨by simpa using hm,hi⟩
  ·cases h
theorem nR {op:Op} {ins:Ins} (h:vD P ji op=some ins) (hm:lN ins=false):jg P ji op=some ins:=by
 rcases ny h with ⟨h1,_⟩|⟨_,h1⟩
 ·rw [hm] at h1;cases h1
 ·exact h1
theorem step_ok {ins:Ins} (hc:jg P ji o.op=some ins) (hn:We ins=false) (hk:bF B S m) (ho:pI B S m ρ a) (hs0:¬m.U slot) (hs:step ρ m.h slot ins=some (d,us)):Does B S P o a m slot d us:=by
 unfold jg at hc;split at hc<;>try (cases hc;done)
 all_goals simp only [Option.bind_eq_bind,Option.bind_eq_some_iff,Option.some.injEq] at hc
 case h_1 x hop=>obtain ⟨X',hx,rfl⟩:=hc;exact F5 hk ho (.inl hop) hx hs
 case h_2 x hop=>obtain ⟨X',hx,rfl⟩:=hc;exact F5 hk ho (.inr hop) hx hs
 case h_3 c x y hop=>obtain ⟨C',hc',X',hx,Y',hy,rfl⟩:=hc;exact Nk hk ho hop hc' hx hy hs
 case h_4 t hop=>obtain ⟨z,hz,rfl⟩:=hc;exact OC hk hs0 hop hz hs
 case h_5 t x hop=>obtain ⟨X',hx,rfl⟩:=hc;exact QH hk ho hs0 hop hx hs
 case h_6 t parts hop=>
  obtain ⟨fs,h1,z,h2,qs,h3,h4⟩:=hc;split at h4
  case isFalse=>cases h4
  rename_i hkn;simp only [Option.some.injEq] at h4;subst h4;exact Iz hk ho hop h1 h2 h3 hkn hs
 case h_7 t len parts hop=>
  obtain ⟨e,h1,i,h2,z,h3,qs,h4,h5⟩:=hc;split at h5
  case isFalse=>cases h5
  rename_i hcc;simp only [Option.some.injEq] at h5;subst h5;exact Mx hk ho hs0 hop h1 h2 h3 h4 hcc.1 hcc.2 hs
 case h_8 t x hop=>obtain ⟨agg,h1,i,h2,X',hx,rfl⟩:=hc;exact M7 hk ho hop h1 h2 hx hs
 case h_9 t x y hop=>obtain ⟨i,h1,X',hx,Y',hy,rfl⟩:=hc;exact J5 hk ho hop h1 hx hy hs
 case h_10 x hop=>obtain ⟨X',hx,rfl⟩:=hc;exact JS hk ho hop hx hs
 case h_11 op t x y t' hop=>
  obtain ⟨X',hx,Y',hy,h1⟩:=hc;split at h1
  ·rename_i ht;simp only [Option.some.injEq] at h1;subst h1;exact zL hk ho hop (fun _=>ht) hx hy hs
  ·simp only [Option.some.injEq] at h1;subst h1;exact zL hk ho hop (fun h=>by cases h) hx hy hs
  ·simp only [Option.some.injEq] at h1;subst h1;exact zL hk ho hop (fun h=>by cases h) hx hy hs
  ·rename_i fs ht;simp only [Option.bind_eq_some_iff] at h1;obtain ⟨ks,h2,h3⟩:=h1;split at h3
   case isFalse=>cases h3
   rename_i hcc;exact QK hk ho hop ht h2 hcc.1 hcc.2 hx hy h3 hs
  ·cases h1
 case h_12 op t x hop=>obtain ⟨X',hx,rfl⟩:=hc;exact UL hk ho hop hx hs
 case h_13 src dst x hop=>
  obtain ⟨X',hx,h1⟩:=hc;split at h1
  ·rename_i h2 h3;simp only [Option.some.injEq] at h1;subst h1;exact NB hk ho hop h2 h3 hx hs
  ·rename_i e h2 h3;split at h1
   ·rename_i h4;simp only [Option.some.injEq] at h1;subst h1;exact JG hk ho hop h2 h3 h4 hx hs
   ·cases h1
  ·cases h1
 case h_14 t x y hop=>
  obtain ⟨e,h1,i,h2,z,h3,X',hx,Y',hy,h4⟩:=hc;split at h4
  case isFalse=>cases h4
  simp only [Option.some.injEq] at h4;subst h4;exact TY hk ho hs0 hop h1 h2 h3 hx hy hs
 case h_15 t x lo hi hop=>
  obtain ⟨X',hx,Lo,hlo,Hi,hhi,h1⟩:=hc;split at h1
  ·rename_i h2;simp only [Option.some.injEq] at h1;subst h1;exact Pp hk ho hop h2 hx hlo hhi hs
  ·rename_i e h2;simp only [Option.bind_eq_some_iff,Option.some.injEq] at h1;obtain ⟨i,h3,rfl⟩:=h1;exact NS hk ho hop h2 h3 hx hlo hhi hs
  ·cases h1
 case h_16 t x lo hi mx hop=>
  obtain ⟨X',hx,Lo,hlo,H',hhi,M',hmx,h1⟩:=hc;split at h1
  ·rename_i e h2;simp only [Option.bind_eq_some_iff,Option.some.injEq] at h1;obtain ⟨i,h3,rfl⟩:=h1;exact MM hk ho hop h2 h3 hx hlo hhi hmx hs
  ·cases h1
 case h_17 f first captured hop=>
  obtain ⟨xs,hx,h1⟩:=hc;split at h1
  case isFalse=>cases h1
  rename_i hz;simp only [Option.some.injEq] at h1;subst h1;exact Qn hk ho hop hz hx hs
 case h_18 t x f hop=>
  obtain ⟨fs,h1,fl,h2,i,h3,X',hx,h4⟩:=hc;split at h4
  case isFalse=>cases h4
  rename_i hp;simp only [Option.some.injEq] at h4;subst h4;exact Nt hk ho hop h1 h2 h3 hp hx hs
 case h_19 t x f hop=>obtain ⟨fs,h1,fl,h2,i,h3,agg,h4,X',hx,rfl⟩:=hc;exact OD hk ho hop h1 h2 h3 h4 hx hs
 case h_20 t x y hop=>obtain ⟨e,h1,i,h2,X',hx,Y',hy,rfl⟩:=hc;exact Nu hk ho hop h1 h2 hx hy hs
 case h_21 t x y hop=>
  obtain ⟨X',hx,Y',hy,h1⟩:=hc;split at h1
  ·rename_i h2;simp only [Option.some.injEq] at h1;subst h1;exact Ns hk ho hop h2 hx hy hs
  ·cases h1
 case h_22 x i hop=>obtain ⟨X',hx,rfl⟩:=hc;exact Ou hk ho hop hx hs
 case h_23 f args ts hop=>
  obtain ⟨xs,hx,rfl⟩:=hc;split at hn<;>cases hn
 case h_24 t args ts hop=>
  obtain ⟨xs,hx,rfl⟩:=hc;cases hn
 case h_25 b args ts hop=>
  obtain ⟨xs,hx,h1⟩:=hc;split at h1
  ·rename_i x t hxs hts;obtain ⟨p,rfl,hp⟩:=zk hx;have ht:=QO hts;subst ht;split at h1
   ·rename_i h2;simp only [Option.some.injEq] at h1;subst h1;exact Ip hk ho hop (isStr:=true) h2 hp hs
   ·rename_i e h2;simp only [Option.some.injEq] at h1;subst h1;exact Ip hk ho hop (isStr:=false) ⟨e,h2⟩ hp hs
   ·cases h1
  ·rename_i x y t t' hxs hts;obtain ⟨p,q,rfl,hp,hq⟩:=oO hx;have ht:=Fb hts;subst ht;simp only [Option.bind_eq_some_iff] at h1;obtain ⟨e,h2,i,h3,z,h4,h5⟩:=h1;split at h5
   ·rename_i e' h6;split at h5
    case isFalse=>cases h5
    simp only [Option.some.injEq] at h5;subst h5;exact He hk ho hs0 hop h2 h3 h4 h6 (by simp) hp hq hs
   ·rename_i h6;split at h5
    case isFalse=>cases h5
    simp only [Option.some.injEq] at h5;subst h5;exact He hk ho hs0 hop h2 h3 h4 h6 (by simp) hp hq hs
   ·cases h5
  ·rename_i x y t t' hxs hts;obtain ⟨p,q,rfl,hp,hq⟩:=oO hx;have ht:=Fb hts;subst ht;simp only [Option.bind_eq_some_iff] at h1;obtain ⟨e,h2,i,h3,h5⟩:=h1;split at h5
   case isFalse=>cases h5
   simp only [Option.some.injEq] at h5;subst h5;exact Om hk ho hop h2 h3 hp hq hs
  ·rename_i x y hxs;obtain ⟨p,q,rfl,hp,hq⟩:=oO hx;simp only [Option.some.injEq] at h1;subst h1;exact UB hk ho hop hp hq hs
  ·rename_i x y hxs;obtain ⟨p,q,rfl,hp,hq⟩:=oO hx;simp only [Option.some.injEq] at h1;subst h1;exact Un hk ho hop hp hq hs
  ·cases h1
end
end Go.Ey
