/- A part of the proof. -/
import Derived.Test.YtpginbppmgdndaaGreatDoorY11
import Derived.Laws.StructEq
set_option linter.all false
namespace Go.Ey
open Go.RowKit
section
variable {B:Nat} {S:Nat→Nat→Prop} {P:Program} {o:Oper} {a:Act} {m:M} {slot:Nat} {ρ:X→D} {d:D} {us:List (Nat×Obj)}
theorem foldl_set:∀(vs:List Value) (off k:Nat) (cs:Array Value),off+k+vs.length≤cs.size→
  ((vs.zipIdx k).foldl (fun cs (p:Value×Nat)=>cs.setIfInBounds (off+p.2) p.1) cs).toList=splice cs.toList (off+k) vs
 |[],off,k,cs,_=>by simp [splice]
 |v::vs,off,k,cs,h=>by
  simp only [List.length_cons] at h
  simp only [List.zipIdx_cons,List.foldl_cons]
  rw [foldl_set vs off (k+1) _ (by simp;omega),Array.toList_setIfInBounds]
  unfold splice
  have e:=list_seg_step cs.toList (off+k) v vs (by simp;omega)
  simp only [List.length_cons,Nat.add_assoc] at e ⊢
  exact e
def PartsOk (place:Nat→Option (Nat×Nat)):List (Nat×Operand)→List (Nat×Nat×X)→Prop
 |[],[]=>True
 |(i,x)::ps,(off,size,X')::qs=>place i=some (off,size)∧compX x=some X'∧PartsOk place ps qs
 |_,_=>False
theorem fill_ok (ho:Opd B S m ρ a) {place:Nat→Option (Nat×Nat)}:∀{ps:List (Nat×Operand)} {qs:List (Nat×Nat×X)} {ds ds':List D} {cells:Array Value},PartsOk place ps qs→All2 (RepDc B S m) ds cells.toList→fillP ρ ds qs=some ds'→
  ∃cells':Array Value,Instr.fill place cells (ps.map fun p=>(p.1,a.eval p.2))=some cells'∧All2 (RepDc B S m) ds' cells'.toList
 |[],[],ds,ds',cells,_,h1,h2=>by
  simp only [fillP,Option.some.injEq] at h2
  subst h2
  exact ⟨cells,rfl,h1⟩
 |(i,x)::ps,(off,size,X')::qs,ds,ds',cells,hp,h1,h2=>by
  obtain ⟨p1,p2,p3⟩:=hp
  simp only [fillP,Option.bind_eq_bind,Option.bind_eq_some_iff] at h2
  obtain ⟨xs,h3,h4⟩:=h2
  split at h4
  case isFalse=>cases h4
  rename_i hc
  obtain ⟨c1,c2⟩:=hc
  obtain ⟨h5,_⟩:=cellsD_ok (ho x X' p2) h3
  have hl1:xs.length=(a.eval x).cells.size:=by rw [h5.len];simp
  have hl2:ds.length=cells.size:=by rw [h1.len];simp
  have hsp:((a.eval x).cells.zipIdx.foldl (fun cs (p:Value×Nat)=>cs.setIfInBounds (off+p.2) p.1) cells).toList=splice cells.toList off (a.eval x).cells.toList:=by
   have:=foldl_set (a.eval x).cells.toList off 0 cells (by simp;omega)
   rw [←Array.foldl_toList]
   simpa using this
  obtain ⟨cells',h6,h7⟩:=fill_ok ho (cells:=(a.eval x).cells.zipIdx.foldl (fun cs (p:Value×Nat)=>cs.setIfInBounds (off+p.2) p.1) cells) p3 (by rw [hsp];exact h1.splice off h5) h4
  refine ⟨cells',?_,h7⟩
  have hne:((a.eval x).cells.size≠size||decide (off+(a.eval x).cells.size > cells.size))=false:=by
   simp;omega
  simp only [List.map_cons,Instr.fill,p1]
  rw [if_neg (by simpa using hne)]
  exact h6
 |[],_::_,_,_,_,h,_,_=>h.elim
 |_::_,[],_,_,_,h,_,_=>h.elim
theorem compFields_ok {fs:List Field} {places:List (Nat×Nat)} (hp:fs.mapM (fun f=>(P.info? f.type).map fun i=>(f.offset,i.size))=some places):
  ∀{ps:List (Nat×Operand)} {qs:List (Nat×Nat×X)},compFields P fs ps=some qs→PartsOk (fun i=>places[i]?) ps qs
 |[],qs,h=>by simp [compFields] at h;subst h;trivial
 |(i,x)::ps,qs,h=>by
  simp only [compFields,Option.bind_eq_bind,Option.bind_eq_some_iff,Option.some.injEq] at h
  obtain ⟨f,h1,info,h2,X',h3,qs',h4,rfl⟩:=h
  refine ⟨?_,h3,compFields_ok hp h4⟩
  have key:∀(fs:List Field) (places:List (Nat×Nat)),fs.mapM (fun f=>(P.info? f.type).map fun i=>(f.offset,i.size))=some places→∀(i:Nat) (f:Field),fs[i]?=some f→places[i]?=(P.info? f.type).map fun i=>(f.offset,i.size):=by
   intro fs
   induction fs with
   |nil=>intro places _ i f hf;simp at hf
   |cons g fs ih=>
    intro places hpl i f hf
    simp only [List.mapM_cons,Option.bind_eq_bind,Option.pure_def,Option.bind_eq_some_iff,Option.some.injEq] at hpl
    obtain ⟨p,hp1,rest,hp2,rfl⟩:=hpl
    cases i with
    |zero=>simp at hf;subst hf;simp [hp1]
    |succ i=>simp at hf;simpa using ih rest hp2 i f hf
  simp only [key fs places hp i f h1,h2,Option.map_some]
theorem fieldsKnown_ok:∀{fs:List Field},fieldsKnown P fs=true→∃places,fs.mapM (fun f=>(P.info? f.type).map fun i=>(f.offset,i.size))=some places
 |[],_=>⟨[],rfl⟩
 |f::fs,h=>by
  simp only [fieldsKnown,List.all_cons,Bool.and_eq_true] at h
  obtain ⟨places,h1⟩:=fieldsKnown_ok (fs:=fs) h.2
  obtain ⟨i,hi⟩:=Option.isSome_iff_exists.1 h.1
  exact ⟨(f.offset,i.size)::places,by simp [List.mapM_cons,hi,h1]⟩
theorem does_build (hk:HOK B S m) (ho:Opd B S m ρ a) {t:TypeId} {parts:Array (Nat×Operand)} {fs:List Field} {z:List Value} {qs:List (Nat×Nat×X)} (hop:o.op=.build t parts) (h1:fieldsOf P t=some fs) (h2:zeroOf P t=some z)
  (h3:compFields P fs parts.toList=some qs) (h4:fieldsKnown P fs=true) (hs:step ρ m.h slot (.build z qs)=some (d,us)):Does B S P o a m slot d us:=by
 have hu:=fieldsOf_some h1
 obtain ⟨i,zv,g1,g2,g3,g4,_⟩:=zeroOf_some h2
 obtain ⟨places,hp⟩:=fieldsKnown_ok h4
 simp only [step] at hs
 obtain ⟨h5,rfl⟩:=pureD_some hs
 simp only [Option.bind_eq_bind,Option.bind_eq_some_iff,Option.some.injEq] at h5
 obtain ⟨ds,h6,rfl⟩:=h5
 obtain ⟨cells',h7,h8⟩:=fill_ok ho (cells:=zv.cells) (compFields_ok hp h3) (by rw [g3];exact all2_dlits g4) h6
 refine does_pure hk slot (v:=.agg cells') ?_ ⟨cells'.toList,by simp,h8⟩
 have hb:P.built t ((parts.map fun (p:Nat×Operand)=>(p.1,a.eval p.2)).toList)=some cells':=by
  unfold Program.built
  simp only [g1,hu,g2,hp,Array.toList_map]
  simpa using h7
 have:=run_build (P:=P) m.w t _ cells' hb
 simp [execOp,hop,this]
theorem compElems_ok {size:Nat}:∀{ps:List (Nat×Operand)} {qs:List (Nat×Nat×X)},compElems size ps=some qs→PartsOk (fun i=>some (i * size,size)) ps qs
 |[],qs,h=>by simp [compElems] at h;subst h;trivial
 |(i,x)::ps,qs,h=>by
  simp only [compElems,Option.bind_eq_bind,Option.bind_eq_some_iff,Option.some.injEq] at h
  obtain ⟨X',h3,qs',h4,rfl⟩:=h
  exact ⟨rfl,h3,compElems_ok h4⟩
theorem does_lits (hk:HOK B S m) (ho:Opd B S m ρ a) (hs0:¬m.U slot) {t e:TypeId} {len:Nat} {parts:Array (Nat×Operand)} {i:TypeInfo} {z:List Value} {qs:List (Nat×Nat×X)} (hop:o.op=.buildSlice t len parts)
  (h1:elemOfSlice P t=some e) (h2:P.info? e=some i) (h3:zeroOf P e=some z) (h4:compElems i.size parts.toList=some qs) (h5:len * i.size≤16777216) (h6:0 < i.size)
  (hs:step ρ m.h slot (.lits i.size e len z qs)=some (d,us)):Does B S P o a m slot d us:=by
 have hu:=elemOfSlice_some h1
 obtain ⟨i',zv,g1,g2,g3,g4,g5⟩:=zeroOf_some h3
 rw [h2] at g1
 simp only [Option.some.injEq] at g1
 subst g1
 simp only [step,Option.bind_eq_bind,Option.bind_eq_some_iff,Prod.exists] at hs
 obtain ⟨ds,hs1,cs,xs,hs2,hs3⟩:=hs
 split at hs3
 case isFalse=>cases hs3
 rename_i hc
 obtain ⟨c1,c2⟩:=hc
 simp only [Option.some.injEq,Prod.mk.injEq] at hs3
 obtain ⟨rfl,rfl⟩:=hs3
 have hzs:zv.cells.size=i.size:=by rw [←g5,←g3];simp
 have hinit:All2 (RepDc B S m) ((zeros z len).map .c) ((Array.range (len * i.size)).map (zv.cells[· % zv.cells.size]!)).toList:=by
  rw [←hzs,range_map_mod,g3]
  exact All2.map_left (zeros_ok g4 len)
 obtain ⟨cells',f1,f2⟩:=fill_ok ho (compElems_ok h4) hinit hs1
 obtain ⟨k1,k2,k3⟩:=frzL_ok hk f2 hs2
 refine does_newrow hk hs0 k1 k2 (spare:=[]) (cap:=len) k3 (Nat.le_refl _) ?_ (by unfold roomMax at c2;simp only [maxLen];omega) (.inl rfl) ?_
 ·rw [List.append_nil,←k3.len];exact c1
 ·have hn16:¬(16777216 < len * i.size):=by omega
  by_cases hz:len * i.size=0
  ·have hl0:len=0:=by
    rcases Nat.mul_eq_zero.1 hz with h|h
    ·exact h
    ·omega
   subst hl0
   simp only [Nat.zero_mul,Array.range_zero',Array.map_empty] at f1
   have f1':Instr.fill (fun i_1=>some (i_1 * i.size,i.size)) #[] (parts.toList.map fun p=>(p.1,a.eval p.2))=some cells':=by simpa using f1
   simp [execOp,hop,Instr.buildSlice,run_underlying hu,run_sizeOf h2,newRow,Array.range_zero',f1']
  ·simp [execOp,hop,Instr.buildSlice,run_underlying hu,run_sizeOf h2,hn16,hz,zeroValue,typeInfo,h2,g2,newRow,f1]
theorem run_storeVar_row {t:TypeId} {i:TypeInfo} (hi:P.info? t=some i) {w:World} {b off:Nat} {us:List Value} {e:TypeId} (hb:w.heap[b]?=some (.cells us.toArray e (0,0))) {v:Value} (hl:v.cells.size=i.size) (hfit:off+i.size≤us.length)
  (h1:∀x∈v.cells.toList,x.oneCell'=true):(storeVar t ⟨b,off,none⟩ v).run P w=.ok () (w.setRow b (splice us off v.cells.toList).toArray):=by
 have hst:=run_storeCells_at P b off e v.cells.toList 0 us.toArray w hb (by simp;omega) h1
 simp only [Nat.add_zero] at hst
 simp only [storeVar,Sem.run_bind,run_sizeOf hi,Result.andThen_ok,hl]
 simp [hst,splice]
theorem below_setRow {w:World} {b:Nat} {cs:Array Value} (hb:B≤b):Below B w (w.setRow b cs):=
 ⟨rfl,rfl,rfl,by simp,fun k hk=>setRow_other w b k cs (by omega)⟩
theorem splice_length {α:Type} {l xs:List α} {off:Nat} (h:off+xs.length≤l.length):(splice l off xs).length=l.length:=by
 unfold splice
 simp
 omega
theorem splice_get_lt {α:Type} {l xs:List α} {off q:Nat} (h:off≤l.length) (hq:q < off):(splice l off xs)[q]?=l[q]?:=by
 unfold splice
 rw [List.append_assoc,List.getElem?_append_left (by simp;omega),List.getElem?_take_of_lt hq]
theorem splice_take {α:Type} {l xs:List α} {off n:Nat} (h:off+xs.length≤n) (hn:n≤l.length):(splice l off xs).take n=splice (l.take n) off xs:=by
 unfold splice
 rw [List.append_assoc,List.append_assoc,List.take_append,List.take_append]
 simp only [List.length_take]
 have e1:min off l.length=off:=by omega
 have e2:min off (min n l.length)=off:=by omega
 rw [e1,List.take_take,List.take_take]
 have e3:min n off=off:=by omega
 have e4:min off n=off:=by omega
 rw [e3,e4]
 congr 1
 rw [List.take_of_length_le (by omega:xs.length≤n - off)]
 congr 1
 rw [List.drop_take]
 congr 1
 omega
theorem does_store (hk:HOK B S m) (ho:Opd B S m ρ a) {t:TypeId} {x y:Operand} {X' Y':X} {i:TypeInfo} (hop:o.op=.store t x y) (h1:P.info? t=some i) (hx:compX x=some X') (hy:compX y=some Y')
  (hs:step ρ m.h slot (.store i.size X' Y')=some (d,us)):Does B S P o a m slot d us:=by
 have e1:=ho x X' hx
 have e2:=ho y Y' hy
 simp only [step] at hs
 unfold storeD at hs
 split at hs
 ·rename_i id off he
  rw [he] at e1
  obtain ⟨hU,e3⟩:=e1
  cases hob:getH m.h id with
  |dead=>rw [hob] at hs;cases hs
  |box ds=>
   rw [hob] at hs
   simp only [Option.bind_eq_bind,Option.bind_eq_some_iff] at hs
   obtain ⟨xs,h2,h3⟩:=hs
   split at h3
   case isFalse=>cases h3
   rename_i hc
   obtain ⟨c1,c2⟩:=hc
   simp only [Option.some.injEq,Prod.mk.injEq] at h3
   obtain ⟨rfl,rfl⟩:=h3
   obtain ⟨hB,vs,e,hv1,hv2⟩:=hk.box hob
   obtain ⟨f1,f2⟩:=cellsD_ok e2 h2
   have hlen:(a.eval y).cells.size=i.size:=by rw [←c1,f1.len];simp
   have hvl:ds.length=vs.length:=hv2.len
   have hrun:=run_storeVar_row (P:=P) (off:=off) h1 hv1 hlen (by omega) f2
   have hother:∀k,k≠m.β id→(m.w.setRow (m.β id) (splice vs off (a.eval y).cells.toList).toArray).heap[k]?=m.w.heap[k]?:=fun k hk'=>setRow_other _ _ _ _ hk'
   have hev:Evolves B S m (m.upd (m.w.setRow (m.β id) (splice vs off (a.eval y).cells.toList).toArray) id (.box (splice ds off xs))):=by
    refine upd_evolves hk hob (o':=.box (splice ds off xs)) trivial hother (fun q u hq _=>hq.elim) ?_
    have hsl:(splice vs off (a.eval y).cells.toList).length=vs.length:=splice_length (by simp;omega)
    simp [World.shape?,setRow_heap _ _ _ _ _ _ hv1,hv1,hsl]
   have hok:=upd_hok hk (id:=id) (by rw [hob];simp) hev hother (by simp) ⟨hB,_,e,setRow_heap _ _ _ _ _ _ hv1,(hv2.splice off f1).mono fun _ _ h=>hev.repDc h⟩
   refine ⟨_,undef,m.w.setRow (m.β id) (splice vs off (a.eval y).cells.toList).toArray,?_,.inr ⟨rfl,rfl⟩,m.β,grow_hok hok slot,hev.trans (grow_evolves _ slot),trivial,below_setRow hB⟩
   simp [execOp,hop,e3,Instr.storeAt,Instr.sureAddr,hrun]
  |map es=>rw [hob] at hs;cases hs
  |arr cs0 esz0 fz0 ety0=>
   rw [hob] at hs
   simp only [Option.bind_eq_bind,Option.bind_eq_some_iff,Prod.exists] at hs
   obtain ⟨xv,us0,h2,h3⟩:=hs
   have e2':RepA B S m (ρ Y') (a.eval y):=by
    cases hd:ρ Y' with
    |tup ds=>rw [hd] at h2;simp [frzV,frz] at h2
    |_=>rw [hd] at e2;exact e2
   obtain ⟨k1,k2,k3⟩:=frzV_ok hk e2' h2
   obtain ⟨f1,f2⟩:=k3.cells_ok
   cases hob2:getH (updH m.h us0) id with
   |dead=>rw [hob2] at h3;cases h3
   |box ds=>rw [hob2] at h3;cases h3
   |map ds=>rw [hob2] at h3;cases h3
   |arr cs esz fz ety=>
    rw [hob2] at h3
    simp only at h3
    split at h3
    case isFalse=>cases h3
    rename_i hc
    obtain ⟨c1,c2,c3⟩:=hc
    simp only [Option.some.injEq,Prod.mk.injEq] at h3
    obtain ⟨rfl,rfl⟩:=h3
    obtain ⟨hB,vs,hv1,hvl,hv2⟩:=k1.arr (id:=id) hob2
    replace hB:B≤m.β id:=hB
    replace hv1:m.w.heap[m.β id]?=some (.cells vs.toArray ety (0,0)):=hv1
    have hlen:(a.eval y).cells.size=i.size:=by rw [←c1,f1.len];simp
    have hrun:=run_storeVar_row (P:=P) (off:=off) h1 hv1 hlen (by omega) f2
    have hsl:(splice vs off (a.eval y).cells.toList).length=vs.length:=splice_length (by simp;omega)
    have hother:∀k,k≠m.β id→(m.w.setRow (m.β id) (splice vs off (a.eval y).cells.toList).toArray).heap[k]?=m.w.heap[k]?:=fun k hk'=>setRow_other _ _ _ _ hk'
    have hev:Evolves B S (m.heap (updH m.h us0)) ((m.heap (updH m.h us0)).upd (m.w.setRow (m.β id) (splice vs off (a.eval y).cells.toList).toArray) id (.arr (splice cs off xv.cells) esz fz ety)):=by
     refine upd_evolves k1 (id:=id) hob2 (o':=.arr (splice cs off xv.cells) esz fz ety) ⟨rfl,rfl,Nat.le_refl _⟩ hother (fun q u hq hcell=>?_) ?_
     ·have hq':q < fz:=hq
      have hcell':m.w.cell? ⟨m.β id,q,none⟩=some u:=hcell
      rw [cell_row hv1] at hcell'
      show (m.w.setRow (m.β id) _).cell? ⟨m.β id,q,none⟩=some u
      rw [cell_row (setRow_heap _ _ _ _ _ _ hv1),splice_get_lt (by omega) (by omega)]
      exact hcell'
     ·show (m.w.setRow (m.β id) _).shape? (m.β id)=m.w.shape? (m.β id)
      simp [World.shape?,setRow_heap _ _ _ _ _ _ hv1,hv1,hsl]
    have hcl:(splice cs off xv.cells).length=cs.length:=splice_length (by omega)
    have hok:=upd_hok k1 (id:=id) (by rw [show getH (m.heap (updH m.h us0)).h id=_ from hob2];simp) hev hother (by simp [M.heap])
     ⟨hB,_,setRow_heap _ _ _ _ _ _ hv1,by rw [hcl,hsl];exact hvl,by
      rw [hcl,splice_take (by simp;omega) hvl]
      exact (hv2.splice off f1).mono fun c u h=>RepC.mono hev.cell c u h⟩
    refine ⟨_,undef,m.w.setRow (m.β id) (splice vs off (a.eval y).cells.toList).toArray,?_,.inr ⟨rfl,rfl⟩,m.β,?_,?_,trivial,below_setRow hB⟩
    ·simp [execOp,hop,e3,Instr.storeAt,Instr.sureAddr,hrun]
    ·rw [updH_append];exact grow_hok hok slot
    ·rw [updH_append];exact k2.trans (hev.trans (grow_evolves _ slot))
 ·cases hs
end
end Go.Ey

namespace Go.Ey
open Go.RowKit
section
variable {B:Nat} {S:Nat→Nat→Prop} {P:Program} {o:Oper} {a:Act} {m:M} {slot:Nat} {ρ:X→D} {d:D} {us:List (Nat×Obj)}
theorem kill_evolves {m:M} {id:Nat}:Evolves B S m (m.heap ((id,.dead)::m.h)) where
 cell b q u h1 h2:=by
  refine ⟨h1,h2.1,fun i=>?_⟩
  simp only [M.heap,getH_cons]
  by_cases hi:id=i
  ·simp [hi]
  ·simp only [hi,if_false];exact h2.2 i
 used _ hu:=hu
 dead i _ hd:=by
  simp only [M.heap,getH_cons]
  by_cases hi:id=i
  ·simp [hi]
  ·simp only [hi,if_false];exact hd
 at_ _ _:=rfl
 kind i cs' esz' fz' ety' _ h:=by
  simp only [M.heap,getH_cons] at h
  by_cases hi:id=i
  ·simp [hi] at h
  ·simp only [hi,if_false] at h;exact ⟨cs',fz',h,rfl⟩
 rest b _ _ hn:=by
  refine ⟨rfl,fun i hd=>?_⟩
  simp only [M.heap,getH_cons] at hd ⊢
  by_cases hi:id=i
  ·simp [hi] at hd
  ·simp only [hi,if_false] at hd;exact hn i hd
theorem kill_hok {m:M} (hk:HOK B S m) {id:Nat}:HOK B S (m.heap ((id,.dead)::m.h)):=by
 have hev:=kill_evolves (B:=B) (S:=S) (m:=m) (id:=id)
 have harr:∀i cs esz fz ety,getH (m.heap ((id,.dead)::m.h)).h i=.arr cs esz fz ety→∀o,S ((m.heap ((id,.dead)::m.h)).β i) o:=by
  intro i cs esz fz ety hg
  simp only [M.heap,getH_cons] at hg ⊢
  by_cases hi:id=i
  ·simp [hi] at hg
  ·simp only [hi,if_false] at hg;exact hk.arrS i cs esz fz ety hg
 refine ⟨fun i=>?_,fun i j hi hj he=>?_,fun i hu=>?_,hk.base,hk.fresh,harr⟩
 ·unfold RepO
  by_cases hi:id=i
  ·subst hi;simp only [M.heap,getH_cons,if_true];trivial
  ·have h1:getH (m.heap ((id,.dead)::m.h)).h i=getH m.h i:=by simp [M.heap,getH_cons,hi]
   rw [h1]
   exact hev.repOb rfl (hk.obj i)
 ·simp only [M.heap,getH_cons] at hi hj
  by_cases h1:id=i
  ·simp [h1] at hi
  ·by_cases h2:id=j
   ·simp [h2] at hj
   ·simp only [h1,h2,if_false] at hi hj
    exact hk.inj i j hi hj he
 ·simp only [M.heap,getH_cons]
  by_cases h1:id=i
  ·simp [h1]
  ·simp only [h1,if_false];exact hk.dom i hu
def M.move (m:M) (w':World) (id slot:Nat) (o':Obj):M:=⟨w',(slot,o')::(id,.dead)::m.h,setβ m.β slot (m.β id),fun i=>m.U i∨i=slot⟩
theorem move_evolves {m:M} (hk:HOK B S m) {id:Nat} {xs cs':List C} {esz fz ety:Nat} (ho:getH m.h id=.arr xs esz fz ety) (hs:¬m.U slot) {w':World} (hother:∀k,k≠m.β id→w'.heap[k]?=m.w.heap[k]?)
  (hcell:∀q u,q < fz→m.w.cell? ⟨m.β id,q,none⟩=some u→w'.cell? ⟨m.β id,q,none⟩=some u):Evolves B S m (m.move w' id slot (.arr cs' esz fz ety)) where
 cell b q u h1 h2:=by
  have h3:=h2.2 id
  rw [ho] at h3
  refine ⟨?_,h2.1,fun i=>?_⟩
  ·by_cases hb:b=m.β id
   ·subst hb;exact hcell q u (h3 rfl) h1
   ·rw [←h1];exact World.cell?_of_block (w:=m.w) (a:=⟨b,q,none⟩) (hother b hb)
  ·simp only [M.move,getH_cons,setβ]
   by_cases hi:slot=i
   ·subst hi;simp only [if_true];exact h3
   ·have hi':¬i=slot:=fun e=>hi e.symm
    simp only [hi,hi',if_false]
    by_cases hj:id=i
    ·simp [hj]
    ·simp only [hj,if_false];exact h2.2 i
 used _ hu:=.inl hu
 dead i hu hd:=by
  have hi:¬slot=i:=fun e=>hs (e▸hu)
  simp only [M.move,getH_cons,hi,if_false]
  by_cases hj:id=i
  ·simp [hj]
  ·simp only [hj,if_false];exact hd
 at_ i hu:=by
  have hi:¬i=slot:=fun e=>hs (e▸hu)
  simp [M.move,setβ,hi]
 kind i cs2 esz2 fz2 ety2 hu h:=by
  have hi:¬slot=i:=fun e=>hs (e▸hu)
  simp only [M.move,getH_cons,hi,if_false] at h
  by_cases hj:id=i
  ·simp [hj] at h
  ·simp only [hj,if_false] at h
   refine ⟨cs2,fz2,h,?_⟩
   have:m.β i≠m.β id:=fun e=>hj (hk.inj i id (by rw [h];simp) (by rw [ho];simp) e).symm
   simp [World.shape?,M.move,hother _ this]
 rest b _ _ hn:=by
  have hid:m.β id≠b:=hn id (by rw [ho];simp)
  refine ⟨hother b fun e=>hid e.symm,fun i hd=>?_⟩
  simp only [M.move,getH_cons,setβ] at hd ⊢
  by_cases hi:slot=i
  ·subst hi;simpa using hid
  ·have hi':¬i=slot:=fun e=>hi e.symm
   simp only [hi,if_false] at hd
   simp only [hi',if_false]
   by_cases hj:id=i
   ·subst hj;exact hid
   ·simp only [hj,if_false] at hd;exact hn i hd
theorem move_hok {m:M} (hk:HOK B S m) {id:Nat} {xs cs':List C} {esz fz ety:Nat} (ho:getH m.h id=.arr xs esz fz ety) {w':World} (hother:∀k,k≠m.β id→w'.heap[k]?=m.w.heap[k]?) (hsz:m.w.heap.size≤w'.heap.size)
  (hev:Evolves B S m (m.move w' id slot (.arr cs' esz fz ety))) (hrep:RepOb B S (m.move w' id slot (.arr cs' esz fz ety)) (m.β id) (.arr cs' esz fz ety)):HOK B S (m.move w' id slot (.arr cs' esz fz ety)):=by
 have hlive:getH m.h id≠.dead:=by rw [ho];simp
 have harr:∀i cs2 esz2 fz2 ety2,getH (m.move w' id slot (.arr cs' esz fz ety)).h i=.arr cs2 esz2 fz2 ety2→∀o,S ((m.move w' id slot (.arr cs' esz fz ety)).β i) o:=by
  intro i cs2 esz2 fz2 ety2 hg q
  simp only [M.move,getH_cons,setβ] at hg ⊢
  by_cases hi:slot=i
  ·subst hi
   simp only [if_true]
   exact hk.arrS id xs esz fz ety ho q
  ·have hi':¬i=slot:=fun e=>hi e.symm
   simp only [hi,if_false] at hg
   simp only [hi',if_false]
   by_cases hj:id=i
   ·simp [hj] at hg
   ·simp only [hj,if_false] at hg;exact hk.arrS i cs2 esz2 fz2 ety2 hg q
 refine ⟨fun i=>?_,fun i j hi hj he=>?_,fun i hu=>?_,Nat.le_trans hk.base hsz,fun b q hb=>hk.fresh b q (Nat.le_trans hsz hb),harr⟩
 ·unfold RepO
  by_cases hi:slot=i
  ·subst hi
   have h1:getH (m.move w' id slot (.arr cs' esz fz ety)).h slot=.arr cs' esz fz ety:=by simp [M.move,getH_cons]
   have h2:(m.move w' id slot (.arr cs' esz fz ety)).β slot=m.β id:=by simp [M.move,setβ]
   rw [h1,h2];exact hrep
  ·have hi':¬i=slot:=fun e=>hi e.symm
   have h2:(m.move w' id slot (.arr cs' esz fz ety)).β i=m.β i:=by simp [M.move,setβ,hi']
   by_cases hj:id=i
   ·have h1:getH (m.move w' id slot (.arr cs' esz fz ety)).h i=.dead:=by simp [M.move,getH_cons,hi,hj]
    rw [h1];trivial
   ·have h1:getH (m.move w' id slot (.arr cs' esz fz ety)).h i=getH m.h i:=by simp [M.move,getH_cons,hi,hj]
    rw [h1,h2]
    by_cases hd:getH m.h i=.dead
    ·rw [hd];trivial
    ·exact hev.repOb (hother _ fun e=>hj (hk.inj i id hd hlive e).symm) (hk.obj i)
 ·simp only [M.move,getH_cons,setβ] at hi hj he
  by_cases h1:slot=i<;>by_cases h2:slot=j
  ·omega
  ·have h1':i=slot:=h1.symm
   have h2':¬j=slot:=fun e=>h2 e.symm
   simp only [h2,h1',h2',if_true,if_false] at hj he
   by_cases h3:id=j
   ·simp [h3] at hj
   ·simp only [h3,if_false] at hj
    exact absurd (hk.inj id j hlive hj he) h3
  ·have h1':¬i=slot:=fun e=>h1 e.symm
   have h2':j=slot:=h2.symm
   simp only [h1,h1',h2',if_true,if_false] at hi he
   by_cases h3:id=i
   ·simp [h3] at hi
   ·simp only [h3,if_false] at hi
    exact absurd (hk.inj i id hi hlive he).symm h3
  ·have h1':¬i=slot:=fun e=>h1 e.symm
   have h2':¬j=slot:=fun e=>h2 e.symm
   simp only [h1,h1',h2,h2',if_false] at hi hj he
   by_cases h3:id=i
   ·simp [h3] at hi
   ·by_cases h4:id=j
    ·simp [h4] at hj
    ·simp only [h3,h4,if_false] at hi hj
     exact hk.inj i j hi hj he
 ·simp only [M.move] at hu ⊢
  have h1:¬m.U i:=fun h=>hu (.inl h)
  have h2:¬slot=i:=fun h=>hu (.inr h.symm)
  simp only [getH_cons,h2,if_false]
  by_cases h3:id=i
  ·simp [h3]
  ·simp only [h3,if_false];exact hk.dom i h1
theorem zeroCells_len (z:Array Value) (n:Nat):(Builtin.zeroCells z n).toList.length=n * z.size:=by simp [Builtin.zeroCells]
theorem does_app (hk:HOK B S m) (ho:Opd B S m ρ a) (hs0:¬m.U slot) {t t' e:TypeId} {x y:Operand} {X' Y':X} {i:TypeInfo} {z:List Value} {d':TypeDesc} (hop:o.op=.call { callee:=.builtin .append,args:=#[x,y],argTypes:=#[t,t']})
  (h1:elemOfSlice P t=some e) (h2:P.info? e=some i) (h3:zeroOf P e=some z) (h4:P.underlying t'=some d') (h5:∀k,d'≠.int k)
  (hx:compX x=some X') (hy:compX y=some Y') (hs:step ρ m.h slot (.app i.size e i.bytes X' Y')=some (d,us)):Does B S P o a m slot d us:=by
 have hu:=elemOfSlice_some h1
 obtain ⟨i',zv,g1,g2,g3,g4,g5⟩:=zeroOf_some h3
 rw [h2] at g1
 simp only [Option.some.injEq] at g1
 subst g1
 have hzs:zv.cells.size=i.size:=by rw [←g5,←g3];simp
 have e1:=ho x X' hx
 have e2:=ho y Y' hy
 have run:∀v w',(Builtin.append_ #[t,t'] o.type #[a.eval x,a.eval y]).run P m.w=.ok v w'→(execOp a.eval o).run P m.w=.ok (.value v) w':=by
  intro v w' h
  simp [execOp,hop,resolve,invoke,builtin,h]
 simp only [step] at hs
 unfold appD at hs
 split at hs
 ·rename_i ds k he
  simp only [Option.bind_eq_bind,Option.bind_eq_some_iff,Prod.exists] at hs
  obtain ⟨cs,n,hs1,hs2⟩:=hs
  split at hs2
  case isFalse=>cases hs2
  rename_i hc
  obtain ⟨c1,c0,c2,c3,c4⟩:=hc
  obtain ⟨news,hn1,hn2⟩:=srcOf_ok (P:=P) hk e2 hs1 c1
  rw [he] at e1
  have e1':RepDc B S m (.full ds k) (a.eval x):=e1
  unfold roomMax at c2 c4
  split at hs2
  ·rename_i hz
   subst hz
   simp only [Option.some.injEq,Prod.mk.injEq] at hs2
   obtain ⟨rfl,rfl⟩:=hs2
   rcases e1' with ⟨e3,rfl,rfl⟩|⟨ad,e3,e4,e5⟩
   ·have:=run_app_nil0 (P:=P) (w:=m.w) (ty:=o.type) hu h4 h5 h2 hn2
    refine does_pure hk slot (run _ _ (by rw [e3];exact this)) ?_
    show RepDc B S m (.full [] 0) _
    exact .inl ⟨rfl,rfl,rfl⟩
   ·have:=run_app_zero (P:=P) (w:=m.w) (ty:=o.type) hu h4 h5 h2 hn2 ad k k (Nat.le_refl _)
    refine does_pure hk slot (run _ _ (by rw [e3];exact this)) ?_
    show RepDc B S m (.full ds k) _
    exact .inr ⟨ad,rfl,e4,e5⟩
  ·rename_i hz
   simp only [Option.some.injEq,Prod.mk.injEq] at hs2
   obtain ⟨rfl,rfl⟩:=hs2
   rcases e1' with ⟨e3,rfl,rfl⟩|⟨ad,e3,e4,e5⟩
   ·rw [Nat.zero_add] at c2
    have:=run_app_nil (P:=P) (w:=m.w) (ty:=o.type) hu h4 h5 h2 g2 hn2 (by omega) (by omega) (by omega)
    have hge:=grownCap_ge m.w n 0 e
    have hle:=grownCap_le_maxLen m.w n 0 e (by simp only [maxLen];omega)
    simp only [Nat.zero_add,List.nil_append]
    refine does_newrow (us0:=[]) hk hs0 hk (Evolves.refl m) (spare:=(Builtin.zeroCells zv.cells (grownCap m.w n 0 e - n)).toList) (cap:=grownCap m.w n 0 e) hn1 hge ?_ hle (.inr rfl) (run _ _ ?_)
    ·rw [List.length_append,zeroCells_len,hzs,hn2.cells,←Nat.add_mul]
     congr 1;omega
    ·rw [e3,this]
     congr 2
     simp
   ·obtain ⟨vs,hv1,hv2⟩:=RepCs_get e5
    have hlo:vs.length=k * i.size:=by rw [←hv1.len];exact c0
    have hnl:news.length=n * i.size:=hn2.cells
    have holds2:∀j v,vs[j]?=some v→m.w.cell? (ad.add j)=some v:=by
     intro j v hv
     have hne:ds≠[]:=by
      intro e
      subst e
      cases vs with
      |nil=>simp at hv
      |cons _ _=>exact hv1.elim
     obtain ⟨b,of,sp⟩:=ad
     have:sp=none:=e4 hne
     subst this
     rw [add_off]
     exact (hv2 j v hv).1
    have hfit:=growslice_fits (show k < k+n by omega) (bytes:=i.bytes) c2
    have hrun:=run_app_grow (P:=P) (w:=m.w) (ty:=o.type) hu h4 h5 h2 g2 hn2 ad k k vs hlo holds2 (by omega) (by omega) hfit
    have hge:=grownCap_ge m.w (k+n) k e
    have hle:=grownCap_le_maxLen m.w (k+n) k e (by simp only [maxLen];omega)
    refine does_newrow (us0:=[]) hk hs0 hk (Evolves.refl m) (spare:=(Builtin.zeroCells zv.cells (grownCap m.w (k+n) k e - (k+n))).toList) (cap:=grownCap m.w (k+n) k e) (hv1.append hn1) hge ?_ hle (.inr rfl) (run _ _ ?_)
    ·rw [List.length_append,List.length_append,zeroCells_len,hzs,hlo,hnl,←Nat.add_mul,←Nat.add_mul]
     congr 1;omega
    ·rw [e3,hrun]
     congr 2
     simp
 ·rename_i id off len he
  cases hob:getH m.h id with
  |dead=>rw [hob] at hs;cases hs
  |box ds=>rw [hob] at hs;cases hs
  |map ds=>rw [hob] at hs;cases hs
  |arr xs esz' fz ety'=>
   rw [hob] at hs
   simp only [Option.bind_eq_bind,Option.bind_eq_some_iff,Prod.exists] at hs
   obtain ⟨cs,n,hs1,hs2⟩:=hs
   split at hs2
   case isFalse=>cases hs2
   rename_i hc
   obtain ⟨c1,c2,c3,c4,rfl,rfl,rfl,c5,c6⟩:=hc
   simp only [Option.some.injEq,Prod.mk.injEq] at hs2
   obtain ⟨rfl,rfl⟩:=hs2
   obtain ⟨news,hn1,hn2⟩:=srcOf_ok (P:=P) hk e2 hs1 c1
   obtain ⟨hB,vs,hv1,hvl,hv2⟩:=hk.arr hob
   rw [he] at e1
   obtain ⟨hU,ad,cap,e3,e4,e5⟩:=e1
   rw [hob] at e5
   simp only at e5
   unfold roomMax at c2 c4
   have holds:All2 (RepC m.w (Safe B S m)) (xs.take (len * i.size)) (vs.take (len * i.size)):=by
    have:=hv2.take (len * i.size)
    rw [List.take_take,Nat.min_eq_left c6] at this
    exact this
   have hlo:(vs.take (len * i.size)).length=len * i.size:=by rw [←holds.len,List.length_take];omega
   have hnl:news.length=n * i.size:=hn2.cells
   by_cases hroom:len+n≤cap∧cap≠0
   ·
    obtain ⟨hroom,hcap0⟩:=hroom
    rcases e5 with ⟨rfl,sz,e6,e7,e8⟩|⟨_,hz⟩
    case inr=>exact absurd hz hcap0
    have hsz:sz=vs.length:=by simp [World.shape?,hv1] at e6;omega
    have hmul:(len+n) * i.size≤cap * i.size:=Nat.mul_le_mul_right _ hroom
    rw [Nat.add_mul] at hmul
    have hfit:len * i.size+news.length≤vs.toArray.size:=by simp;omega
    have hrun:=run_app_room (P:=P) (w:=m.w) (ty:=o.type) hu h4 h5 h2 hn2 (m.β id) len cap vs.toArray hv1 (All2.mem_right (fun _ _ h=>h.oneCell) hn1) hroom hfit
    simp only at hrun
    have hother:∀k,k≠m.β id→(m.w.setRow (m.β id) (vs.take (len * i.size)++news++vs.drop (len * i.size+news.length)).toArray).heap[k]?=m.w.heap[k]?:=fun k hk'=>setRow_other _ _ _ _ hk'
    have hev:Evolves B S m (m.move (m.w.setRow (m.β id) (vs.take (len * i.size)++news++vs.drop (len * i.size+news.length)).toArray) id slot (.arr (xs.take (len * i.size)++cs) i.size fz ety')):=by
     refine move_evolves hk hob hs0 hother fun q u hq hcell=>?_
     rw [cell_row hv1] at hcell
     rw [cell_row (setRow_heap _ _ _ _ _ _ hv1),List.append_assoc,List.getElem?_append_left (by rw [hlo];omega),List.getElem?_take_of_lt (by omega)]
     exact hcell
    have hlen2:(xs.take (len * i.size)++cs).length=(vs.take (len * i.size)++news).length:=(holds.append hn1).len
    have hok:=move_hok hk hob hother (by simp) hev ⟨hB,_,setRow_heap _ _ _ _ _ _ hv1,by rw [List.length_append (as:=vs.take _++news),hlen2];omega,by
     rw [hlen2,List.take_left]
     exact (holds.append hn1).mono fun c u h=>RepC.mono hev.cell c u h⟩
    refine ⟨_,.slice (some ⟨m.β id,0,none⟩) (len+n) cap,_,run _ _ ?_,.inl rfl,setβ m.β slot (m.β id),hok,hev,?_,below_setRow hB⟩
    ·rw [e3];exact hrun
    ·refine ⟨.inr rfl,⟨m.β id,0,none⟩,cap,rfl,hroom,?_⟩
     simp only [updH,getH_cons,if_true,setβ]
     refine .inl ⟨trivial,sz,?_,by omega,e8⟩
     simp only [World.shape?,setRow_heap _ _ _ _ _ _ hv1]
     simp
     omega
   ·
    have hk1:=kill_hok hk (id:=id)
    have hev1:=kill_evolves (B:=B) (S:=S) (m:=m) (id:=id)
    by_cases hz:len+n=0
    ·
     have hl0:len=0:=by omega
     have hn0:n=0:=by omega
     subst hl0 hn0
     have hcap0:cap=0:=by
      rcases Nat.eq_zero_or_pos cap with h|h
      ·exact h
      ·exact absurd ⟨by omega,by omega⟩ hroom
     subst hcap0
     have hrun:=run_app_zero (P:=P) (w:=m.w) (ty:=o.type) hu h4 h5 h2 hn2 ad 0 0 (Nat.le_refl _)
     have hev:Evolves B S m (m.move m.w id slot (.arr (xs.take (0 * i.size)++cs) i.size fz ety')):=move_evolves hk hob hs0 (fun _ _=>rfl) fun _ _ _ h=>h
     have hcs0:cs=[]:=List.eq_nil_of_length_eq_zero (by simpa using c1)
     subst hcs0
     have hok:=move_hok hk hob (w':=m.w) (fun _ _=>rfl) (Nat.le_refl _) hev ⟨hB,vs,hv1,by simp,by simp [All2]⟩
     refine ⟨_,.slice (some ad) 0 0,_,run _ _ ?_,.inl rfl,setβ m.β slot (m.β id),hok,hev,?_,Below.refl _ _⟩
     ·rw [e3];exact hrun
     ·refine ⟨.inr rfl,ad,0,rfl,Nat.le_refl _,?_⟩
      simp only [updH,getH_cons,if_true]
      exact .inr ⟨trivial,trivial⟩
    ·have hgrow:cap < len+n:=by
      rcases Nat.lt_or_ge cap (len+n) with h|h
      ·exact h
      ·exact absurd ⟨h,by omega⟩ hroom
     have hfit:=growslice_fits hgrow (bytes:=i.bytes) c2
     have holds2:∀j v,(vs.take (len * i.size))[j]?=some v→m.w.cell? (ad.add j)=some v:=by
      intro j v hv
      rcases e5 with ⟨rfl,_⟩|⟨hl0,_⟩
      ·rw [add_off,cell_row hv1]
       have hj:j < len * i.size:=by have:=(List.getElem?_eq_some_iff.1 hv).1;simp at this;omega
       rw [List.getElem?_take_of_lt hj] at hv
       simpa using hv
      ·subst hl0;simp at hv
     have hrun:=run_app_grow (P:=P) (w:=m.w) (ty:=o.type) hu h4 h5 h2 g2 hn2 ad len cap (vs.take (len * i.size)) hlo holds2 hgrow (by omega) hfit
     have hge:=grownCap_ge m.w (len+n) cap ety'
     have hle:=grownCap_le_maxLen m.w (len+n) cap ety' (by simp only [maxLen];omega)
     have hall:All2 (RepC m.w (Safe B S (m.heap (updH m.h [(id,.dead)])))) (xs.take (len * i.size)++cs) (vs.take (len * i.size)++news):=
      (holds.append hn1).mono fun c u h=>RepC.mono hev1.cell c u h
     refine does_newrow (us0:=[(id,.dead)]) (fz:=fz) hk hs0 hk1 hev1 (spare:=(Builtin.zeroCells zv.cells (grownCap m.w (len+n) cap ety' - (len+n))).toList) (cap:=grownCap m.w (len+n) cap ety') hall hge ?_ hle (.inr rfl) (run _ _ ?_)
     ·rw [List.length_append,List.length_append,zeroCells_len,hzs,hlo,hnl,←Nat.add_mul,←Nat.add_mul]
      congr 1;omega
     ·rw [e3,hrun]
      congr 2
      simp
 ·cases hs
theorem does_cpy (hk:HOK B S m) (ho:Opd B S m ρ a) {t t' e:TypeId} {x y:Operand} {X' Y':X} {i:TypeInfo} (hop:o.op=.call { callee:=.builtin .copy,args:=#[x,y],argTypes:=#[t,t']})
  (h1:elemOfSlice P t=some e) (h2:P.info? e=some i) (hx:compX x=some X') (hy:compX y=some Y') (hs:step ρ m.h slot (.cpy i.size X' Y')=some (d,us)):Does B S P o a m slot d us:=by
 have hu:=elemOfSlice_some h1
 have e1:=ho x X' hx
 have e2:=ho y Y' hy
 have run:∀v w',(Builtin.copy_ #[t,t'] o.type #[a.eval x,a.eval y]).run P m.w=.ok v w'→(execOp a.eval o).run P m.w=.ok (.value v) w':=by
  intro v w' h
  simp [execOp,hop,resolve,invoke,builtin,h]
 simp only [step] at hs
 unfold cpyD at hs
 split at hs
 ·rename_i id off len he
  cases hob:getH m.h id with
  |dead=>rw [hob] at hs;cases hs
  |box ds=>rw [hob] at hs;cases hs
  |map ds=>rw [hob] at hs;cases hs
  |arr xs esz' fz ety=>
   rw [hob] at hs
   simp only [Option.bind_eq_bind,Option.bind_eq_some_iff,Prod.exists] at hs
   obtain ⟨cs,n,hs1,hs2⟩:=hs
   split at hs2
   case isFalse=>cases hs2
   rename_i hc
   obtain ⟨c1,rfl,c2,c3⟩:=hc
   simp only [Option.some.injEq,Prod.mk.injEq] at hs2
   obtain ⟨rfl,rfl⟩:=hs2
   obtain ⟨news,hn1,hn2⟩:=srcOf_ok (P:=P) hk e2 hs1 c1
   obtain ⟨hB,vs,hv1,hvl,hv2⟩:=hk.arr hob
   rw [he] at e1
   obtain ⟨hU,ad,cap,e3,e4,e5⟩:=e1
   rw [hob] at e5
   simp only at e5
   have hmin:min n len≤n:=Nat.min_le_left _ _
   have hmin2:min n len≤len:=Nat.min_le_right _ _
   have hm1:=Nat.mul_le_mul_right i.size hmin
   have hm2:=Nat.mul_le_mul_right i.size hmin2
   have hk1:All2 (RepC m.w (Safe B S m)) (cs.take (min n len * i.size)) (news.take (min n len * i.size)):=hn1.take _
   have hkl:(news.take (min n len * i.size)).length=min n len * i.size:=by rw [List.length_take,hn2.cells];omega
   have hkl2:(cs.take (min n len * i.size)).length=min n len * i.size:=by rw [hk1.len];exact hkl
   rcases e5 with ⟨rfl,sz,e6,e7,e8⟩|⟨rfl,rfl⟩
   ·have hrun:=run_cpy (P:=P) (w:=m.w) (sT:=t') (ty:=o.type) hu h2 hn2 (m.β id) off len cap vs.toArray ety hv1 (All2.mem_right (fun _ _ h=>h.oneCell) hn1) (by simp;omega)
    have hrun':(Builtin.copy_ #[t,t'] o.type #[.slice (some ⟨m.β id,off,none⟩) len cap,a.eval y]).run P m.w=.ok (goInt (min n len:Nat)) (m.w.setRow (m.β id) (splice vs off (news.take (min n len * i.size))).toArray):=hrun
    have hsl:(splice vs off (news.take (min n len * i.size))).length=vs.length:=splice_length (by rw [hkl];omega)
    have hother:∀k,k≠m.β id→(m.w.setRow (m.β id) (splice vs off (news.take (min n len * i.size))).toArray).heap[k]?=m.w.heap[k]?:=fun k hk'=>setRow_other _ _ _ _ hk'
    have hev:Evolves B S m (m.upd (m.w.setRow (m.β id) (splice vs off (news.take (min n len * i.size))).toArray) id (.arr (splice xs off (cs.take (min n len * i.size))) i.size fz ety)):=by
     refine upd_evolves hk hob (o':=.arr (splice xs off (cs.take (min n len * i.size))) i.size fz ety) ⟨rfl,rfl,Nat.le_refl _⟩ hother (fun q u hq hcell=>?_) ?_
     ·have hq':q < fz:=hq
      rw [cell_row hv1] at hcell
      rw [cell_row (setRow_heap _ _ _ _ _ _ hv1),splice_get_lt (by omega) (by omega)]
      exact hcell
     ·simp [World.shape?,setRow_heap _ _ _ _ _ _ hv1,hv1,hsl]
    have hcl:(splice xs off (cs.take (min n len * i.size))).length=xs.length:=splice_length (by rw [hkl2];omega)
    have hok:=upd_hok hk (id:=id) (by rw [hob];simp) hev hother (by simp)
     ⟨hB,_,setRow_heap _ _ _ _ _ _ hv1,by rw [hcl,hsl];exact hvl,by
      rw [hcl,splice_take (by rw [hkl];omega) hvl]
      exact (hv2.splice off hk1).mono fun c u h=>RepC.mono hev.cell c u h⟩
    refine ⟨_,goInt (min n len:Nat),m.w.setRow (m.β id) (splice vs off (news.take (min n len * i.size))).toArray,run _ _ ?_,.inl rfl,m.β,grow_hok hok slot,hev.trans (grow_evolves _ slot),RepD.mkLit rfl,below_setRow hB⟩
    rw [e3];exact hrun'
   ·have hrun:=run_cpy_empty (P:=P) (w:=m.w) (sT:=t') (ty:=o.type) hu h2 hn2 ad 0
    have hmz:min n 0=0:=Nat.min_zero n
    have hev:Evolves B S m (m.upd m.w id (.arr (splice xs off (cs.take (min n 0 * i.size))) i.size fz ety)):=
     upd_evolves hk hob (o':=.arr (splice xs off (cs.take (min n 0 * i.size))) i.size fz ety) ⟨rfl,rfl,Nat.le_refl _⟩ (fun _ _=>rfl) (fun _ _ _ h=>h) rfl
    have hxs:splice xs off (cs.take (min n 0 * i.size))=xs:=by simp [splice]
    have hev':=hev
    rw [hxs] at hev'
    have hok:=upd_hok hk (id:=id) (w':=m.w) (by rw [hob];simp) hev (fun _ _=>rfl) (Nat.le_refl _)
     ⟨hB,vs,hv1,by rw [hxs];exact hvl,by rw [hxs];exact hv2.mono fun c u h=>RepC.mono hev'.cell c u h⟩
    refine ⟨_,goInt 0,m.w,run _ _ ?_,.inl rfl,m.β,grow_hok hok slot,hev.trans (grow_evolves _ slot),?_,Below.refl _ _⟩
    ·rw [e3];exact hrun
    ·rw [hmz];exact RepD.mkLit rfl
 ·cases hs
end
end Go.Ey

namespace Go.Ey
open Go.RowKit
section
variable {B:Nat} {S:Nat→Nat→Prop} {P:Program} {o:Oper} {a:Act} {m:M} {slot:Nat} {ρ:X→D} {d:D} {us:List (Nat×Obj)}
theorem eqC_run {w:World} {Sf:Nat→Nat→Prop} {t:TypeId} {k:Nat} (ht:kindT P t=some k) (dd:Nat) {x y:C} {u v:Value} {r:Bool} (hx:RepC w Sf x u) (hy:RepC w Sf y v) (h:eqC k x y=some r):
  (Op.equalIn (dd+1) t u v).run P w=.ok r w∧aggB P t=some false:=by
 unfold eqC at h
 unfold kindT at ht
 split at h
 ·rename_i k1 a k2 b
  simp only [RepC] at hx hy
  obtain ⟨rfl,_⟩:=hx
  obtain ⟨rfl,_⟩:=hy
  split at h
  case isFalse=>cases h
  rename_i hk
  subst hk
  simp only [Option.some.injEq] at h
  subst h
  split at ht<;>try (cases ht;done)
  rename_i q hu
  exact ⟨run_equalIn_int w dd t k1 q a b hu,by simp [aggB,hu]⟩
 ·rename_i a b
  simp only [RepC] at hx hy
  obtain ⟨rfl,_⟩:=hx
  obtain ⟨rfl,_⟩:=hy
  simp only [Option.some.injEq] at h
  subst h
  split at ht<;>try (cases ht;done)
  rename_i hu
  exact ⟨run_equalIn_string w dd t a b hu,by simp [aggB,hu]⟩
 ·rename_i a b
  simp only [RepC] at hx hy
  obtain ⟨rfl,_⟩:=hx
  obtain ⟨rfl,_⟩:=hy
  simp only [Option.some.injEq] at h
  subst h
  split at ht<;>try (cases ht;done)
  rename_i hu
  exact ⟨run_equalIn_bool' w dd t a b hu,by simp [aggB,hu]⟩
 ·cases h
theorem eqFields_run (dd:Nat):∀(fs:List Field) (j:Nat) (ks:List Nat) (as bs:List D) (us vs pre pre':List Value) (r:Bool),pre.length=j→pre'.length=j→fieldKinds P j fs=some ks→All2 (RepDc B S m) as us→All2 (RepDc B S m) bs vs→eqDs ks as bs=some r→
  (Op.eqFields (dd+1) (pre++us).toArray (pre'++vs).toArray fs).run P m.w=.ok r m.w
 |[],j,ks,as,bs,us,vs,pre,pre',r,_,_,hk,ha,hb,h=>by
  simp only [fieldKinds,Option.some.injEq] at hk
  subst hk
  unfold eqDs at h
  split at h<;>try (simp_all;done)
  all_goals first|(simp only [Option.some.injEq] at h;subst h;simp [Op.eqFields])|(cases h)
 |f::fs,j,ks,as,bs,us,vs,pre,pre',r,hp,hp',hk,ha,hb,h=>by
  simp only [fieldKinds,Option.bind_eq_bind,Option.bind_eq_some_iff] at hk
  obtain ⟨k,hk1,ks',hk2,hk3⟩:=hk
  split at hk3
  case isFalse=>cases hk3
  rename_i hc
  obtain ⟨hoff,hname⟩:=hc
  simp only [Option.some.injEq] at hk3
  subst hk3
  match as,bs,us,vs,ha,hb,h with
  |.c x::as,.c y::bs,u::us,v::vs,ha,hb,h=>
   simp only [eqDs,Option.bind_eq_bind,Option.bind_eq_some_iff,Option.some.injEq] at h
   obtain ⟨x1,h1,y1,h2,rfl⟩:=h
   obtain ⟨e1,e2⟩:=eqC_run (P:=P) hk1 dd ha.1 hb.1 h1
   have g1:((pre++u::us).toArray)[f.offset]?=some u:=by rw [hoff,←hp];simp
   have g2:((pre'++v::vs).toArray)[f.offset]?=some v:=by rw [hoff,←hp'];simp
   have p1:(Go.part f.type (pre++u::us).toArray f.offset).run P m.w=.ok u m.w:=by
    simp only [Go.part,Sem.run_bind,run_isAgg e2,Result.andThen_ok,Bool.false_eq_true,if_false,g1,Sem.run_pure]
   have p2:(Go.part f.type (pre'++v::vs).toArray f.offset).run P m.w=.ok v m.w:=by
    simp only [Go.part,Sem.run_bind,run_isAgg e2,Result.andThen_ok,Bool.false_eq_true,if_false,g2,Sem.run_pure]
   have ih:=eqFields_run dd fs (j+1) ks' as bs us vs (pre++[u]) (pre'++[v]) y1 (by simp [hp]) (by simp [hp']) hk2 ha.2 hb.2 h2
   simp only [List.append_assoc,List.cons_append,List.nil_append] at ih
   simp only [Op.eqFields,hname,ne_eq,not_false_eq_true,if_true,Sem.run_bind,p1,p2,e1,Result.andThen_ok]
   cases x1
   ·simp
   ·simpa using ih
theorem does_eqs (hk:HOK B S m) (ho:Opd B S m ρ a) {op:BinOp} {t t':TypeId} {x y:Operand} {X' Y':X} {fs:Array Field} {ks:List Nat} {ins:Ins} (hop:o.op=.binOp op t x y t') (ht:P.underlying t=some (.struct fs)) (hks:fieldKinds P 0 fs.toList=some ks)
  (hst:P.stoodInHeld t=false) (hgd:P.eqGuardType P.depth t=false) (hx:compX x=some X') (hy:compX y=some Y') (hins:eqIns ks op X' Y'=some ins) (hs:step ρ m.h slot ins=some (d,us)):Does B S P o a m slot d us:=by
 have e1:=ho x X' hx
 have e2:=ho y Y' hy
 have main:∀neg,(op=.eql∧neg=false∨op=.neq∧neg=true)→eqsD ks neg (ρ X') (ρ Y')=some d→us=[]→Does B S P o a m slot d us:=by
  intro neg hneg h1 h2
  subst h2
  unfold eqsD at h1
  split at h1
  case h_2=>cases h1
  rename_i as bs hX hY
  simp only [Option.map_eq_some_iff] at h1
  obtain ⟨r,h3,rfl⟩:=h1
  rw [hX] at e1
  rw [hY] at e2
  obtain ⟨us1,e3,e4⟩:=e1
  obtain ⟨us2,e5,e6⟩:=e2
  have hrun:(Op.equalIn Op.maxDepth t (.agg us1.toArray) (.agg us2.toArray)).run P m.w=.ok r m.w:=by
   have hf:P.fieldsOf t=fs:=by simp [Program.fieldsOf,ht]
   have:=run_equalIn_struct (P:=P) m.w 9999 t us1.toArray us2.toArray (by rw [hf];exact ht) hst
   rw [show Op.maxDepth=9999+1 from rfl,this,hf]
   exact eqFields_run (B:=B) (S:=S) 9998 fs.toList 0 ks as bs us1 us2 [] [] r rfl rfl hks e4 e6 h3
  refine does_pure hk slot (v:=.bool (if neg then !r else r)) ?_ (RepD.mkLit rfl)
  rcases hneg with ⟨rfl,rfl⟩|⟨rfl,rfl⟩
  ·simp [execOp,hop,e3,e5,eqGuard,hgd,binOp,Op.equal,hrun]
  ·simp [execOp,hop,e3,e5,eqGuard,hgd,binOp,Op.equal,hrun]
 unfold eqIns at hins
 split at hins
 ·simp only [Option.some.injEq] at hins
  subst hins
  simp only [step] at hs
  obtain ⟨h1,rfl⟩:=pureD_some hs
  exact main false (.inl ⟨rfl,rfl⟩) h1 rfl
 ·simp only [Option.some.injEq] at hins
  subst hins
  simp only [step] at hs
  obtain ⟨h1,rfl⟩:=pureD_some hs
  exact main true (.inr ⟨rfl,rfl⟩) h1 rfl
 ·cases hins
theorem caps_ok (ho:Opd B S m ρ a):∀{os:List Operand} {xs:List X} {ls:List (Nat×Nat)},compXs os=some xs→capsOf ρ xs=some ls→
  os.map a.eval=ls.map (fun p=>Value.pointer (some ⟨m.β p.1,p.2,none⟩))∧∀p∈ls,m.U p.1
 |[],xs,ls,h1,h2=>by
  simp only [compXs,Option.some.injEq] at h1
  subst h1
  simp only [capsOf,Option.some.injEq] at h2
  subst h2
  exact ⟨rfl,by simp⟩
 |op::os,xs,ls,h1,h2=>by
  simp only [compXs,Option.bind_eq_bind,Option.bind_eq_some_iff,Option.some.injEq] at h1
  obtain ⟨y,h3,ys,h4,rfl⟩:=h1
  have e1:=ho op y h3
  unfold capsOf at h2
  split at h2
  case h_2=>cases h2
  rename_i id off he
  simp only [Option.bind_eq_bind,Option.bind_eq_some_iff,Option.some.injEq] at h2
  obtain ⟨r,h5,rfl⟩:=h2
  rw [he] at e1
  obtain ⟨hU,hv⟩:=e1
  obtain ⟨i1,i2⟩:=caps_ok ho h4 h5
  refine ⟨by simp only [List.map_cons,i1,hv],fun p hp=>?_⟩
  rcases List.mem_cons.1 hp with rfl|hp
  ·exact hU
  ·exact i2 p hp
theorem does_mkf (hk:HOK B S m) (ho:Opd B S m ρ a) {f:Nat} {first captured:Array Operand} {xs:List X} (hop:o.op=.makeFunc (.func f) first captured) (hf:first.size=0) (hx:compXs captured.toList=some xs) (hs:step ρ m.h slot (.mkf f xs)=some (d,us)):
  Does B S P o a m slot d us:=by
 simp only [step] at hs
 obtain ⟨h1,rfl⟩:=pureD_some hs
 simp only [Option.bind_eq_bind,Option.bind_eq_some_iff,Option.some.injEq] at h1
 obtain ⟨ls,h2,rfl⟩:=h1
 obtain ⟨e1,e2⟩:=caps_ok ho hx h2
 have hf':first=#[]:=Array.eq_empty_of_size_eq_zero hf
 subst hf'
 have hcap:captured.map a.eval=(ls.map (fun p=>Value.pointer (some ⟨m.β p.1,p.2,none⟩))).toArray:=by
  apply Array.ext'
  rw [Array.toList_map,e1]
 refine does_pure hk slot (v:=.func (.func f) #[] (captured.map a.eval)) ?_ ⟨by rw [hcap],e2⟩
 simp [execOp,hop,Instr.makeFunc]
end
end Go.Ey

namespace Go.Ey
open Go.RowKit
section
variable {B:Nat} {S:Nat→Nat→Prop} {P:Program} {o:Oper} {a:Act} {m:M} {slot:Nat} {ρ:X→D} {d:D} {us:List (Nat×Obj)}
theorem run_bounds3 {w:World} {len cap l r:Nat} {lo:Option Value} {kh km:IntKind} {ih im:Int} (h1:BoundIs lo 0 l) (hl:l≤r) (hr:r≤cap) (h0:0≤ih) (he:ih.toNat=r) (hm:im=ih):
  (Instr.sliceBounds true len cap lo (some (.int kh ih)) (some (.int km im))).run P w=.ok (l,r,r) w:=by
 subst hm
 have e1:∀code,(Instr.sliceBound (.int km im) cap code).run P w=.ok r w:=fun code=>by rw [run_sliceBound (P:=P) w km im cap code h0 (by omega),he]
 have e2:∀code,(Instr.sliceBound (.int kh im) r code).run P w=.ok r w:=fun code=>by rw [run_sliceBound (P:=P) w kh im r code h0 (by omega),he]
 cases lo with
 |none=>
  simp only [BoundIs] at h1
  subst h1
  simp [Instr.sliceBounds,e1,e2]
 |some v=>
  obtain ⟨k,i,rfl,h3,h4⟩:=h1
  have e3:∀code,(Instr.sliceBound (.int k i) r code).run P w=.ok l w:=fun code=>by rw [run_sliceBound (P:=P) w k i r code h3 (by omega),h4]
  simp [Instr.sliceBounds,e1,e2,e3]
theorem does_clip (hk:HOK B S m) (ho:Opd B S m ρ a) {t e:TypeId} {x hi mx:Operand} {lo:Option Operand} {X' H' M':X} {Lo:Option X} {i:TypeInfo} (hop:o.op=.slice t x lo (some hi) (some mx)) (h1:P.underlying t=some (.slice e)) (h2:P.info? e=some i)
  (hx:compX x=some X') (hlo:compOX lo=some Lo) (hhi:compX hi=some H') (hmx:compX mx=some M') (hs:step ρ m.h slot (.clip i.size X' Lo H' M')=some (d,us)):Does B S P o a m slot d us:=by
 have e1:=ho x X' hx
 have e2:=ho hi H' hhi
 have e3:=ho mx M' hmx
 simp only [step,clipD,Option.bind_eq_bind,Option.bind_eq_some_iff,Prod.exists] at hs
 obtain ⟨ia,ha,ib,hb,c,us0,hf,hs⟩:=hs
 obtain ⟨ka,ha'⟩:=asInt_some ha
 obtain ⟨kb,hb'⟩:=asInt_some hb
 split at hs
 case h_2=>cases hs
 rename_i cs n
 simp only [Option.bind_eq_some_iff,Prod.exists] at hs
 obtain ⟨xs,k,hcut,hs⟩:=hs
 split at hs
 case isFalse=>cases hs
 rename_i hab
 subst hab
 simp only [Option.some.injEq,Prod.mk.injEq] at hs
 obtain ⟨rfl,rfl⟩:=hs
 rw [ha'] at e2
 rw [hb'] at e3
 have e1':RepDc B S m (ρ X') (a.eval x):=by
  cases hX:ρ X' with
  |tup q=>rw [hX] at hf;simp [frz] at hf
  |agg q=>rw [hX] at hf;simp [frz] at hf
  |_=>rw [hX] at e1;exact e1
 obtain ⟨k1,k2,k3⟩:=frz_ok hk e1' hf
 simp only [cutC,Option.bind_eq_bind,Option.bind_eq_some_iff] at hcut
 obtain ⟨l,h4,r,h5,h6⟩:=hcut
 split at h6
 case isFalse=>cases h6
 rename_i hbd
 obtain ⟨hlr,hrn⟩:=hbd
 simp only [Option.some.injEq,Prod.mk.injEq] at h6
 obtain ⟨rfl,rfl⟩:=h6
 have hr0:0≤ia∧ia.toNat=r:=by
  simp only [hiOf,ha',asInt,Option.bind_eq_bind,Option.bind_some] at h5
  split at h5
  ·rename_i h0;simp only [Option.some.injEq] at h5;exact ⟨h0,h5⟩
  ·cases h5
 have hlo':=loOf_ok ho hlo h4
 have run:∀(ad:Option Addr) (len cap:Nat),a.eval x=.slice ad len cap→r≤cap→
   (execOp a.eval o).run P m.w=.ok (.value (.slice (if r=l then ad else ad.map (·.add (l * i.size))) (r - l) (r - l))) m.w:=by
  intro ad len cap he hr
  have hbs:=run_bounds3 (P:=P) (w:=m.w) (len:=len) (cap:=cap) (kh:=ka) (km:=kb) (ih:=ia) (im:=ia) hlo' hlr hr hr0.1 hr0.2 rfl
  simp [execOp,hop,Instr.sliceAt,Instr.slice,run_underlying h1,he,e2.lit,e3.lit,hbs,run_sizeOf h2]
 have fin:∀v,(execOp a.eval o).run P m.w=.ok (.value v) m.w→RepDc B S (m.heap (updH m.h us0)) (.full ((cs.drop (l * i.size)).take ((r - l) * i.size)) (r - l)) v→
   Does B S P o a m slot (.full ((cs.drop (l * i.size)).take ((r - l) * i.size)) (r - l)) us0:=by
  intro v hrun hrep
  have g1:=grow_hok k1 slot
  have g2:=grow_evolves (B:=B) (S:=S) (m.heap (updH m.h us0)) slot
  exact ⟨_,v,m.w,hrun,.inl rfl,m.β,g1,k2.trans g2,g2.repDc hrep,Below.refl _ _⟩
 simp only [RepC] at k3
 rcases k3 with ⟨e4,rfl,rfl⟩|⟨ad,cap,e4,e5,e6,e7⟩
 ·have hl0:l=0:=by omega
  have hr1:r=0:=by omega
  subst hl0 hr1
  refine fin _ (run none 0 0 e4 (Nat.le_refl _)) (.inl ⟨?_,rfl,by simp⟩)
  simp
 ·refine fin _ (run (some ad) n cap e4 (by omega)) (.inr ?_)
  by_cases hc:r=l
  ·rw [if_pos hc]
   have hz:r - l=0:=by omega
   refine ⟨ad,rfl,?_,?_⟩
   ·rw [hz];simp
   ·rw [hz];simp [RepCs]
  ·rw [if_neg hc]
   refine ⟨ad.add (l * i.size),rfl,?_,?_⟩
   ·intro hne
    unfold Addr.add
    split
    ·exact e6 fun e=>hne (by rw [e];simp)
    ·rfl
   ·have:=RepCs_take ((r - l) * i.size) (RepCs_drop (l * i.size) e7)
    unfold Addr.add
    split
    ·rename_i h0;rw [h0] at this ⊢;simp only [Nat.add_zero] at this;exact this
    ·exact this
end
end Go.Ey
