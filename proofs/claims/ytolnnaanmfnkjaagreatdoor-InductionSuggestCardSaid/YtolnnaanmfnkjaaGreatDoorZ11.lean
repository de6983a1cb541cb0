/- A part. -/
import Derived.Test.YtolnnaanmfnkjaaGreatDoorZ09
set_option linter.all false
namespace Go.Ey
open RowKit
section
variable {B:Nat} {S:Nat->Nat->Prop} {P:Program} {o:Oper} {a:Act} {m:M} {slot:Nat} {ρ:X->D} {d:D} {us:List (Nat×Obj)}
theorem foldl_set:∀(vs:List Value) (off k:Nat) (cs:Array Value),off+k+vs.length<=cs.size->
  ((vs.zipIdx k).foldl (fun cs (p:Value×Nat)=>cs.setIfInBounds (off+p.2) p.1) cs).toList=splice cs.toList (off+k) vs
 |[],off,k,cs,_=>by simp [splice]
 |v::vs,off,k,cs,h=>by
  simp only [C5] at h;simp only [List.zipIdx_cons,It];rw [foldl_set vs off (k+1) _ (by simp;omega),Array.toList_setIfInBounds]
  unfold splice;have e:=list_seg_step cs.toList (off+k) v vs (by simp;omega)
  simp only [C5,Nat.add_assoc] at e |-;exact e
def LJ (place:Nat->Option (Nat×Nat)):List (Nat×Operand)->List (Nat×Nat×X)->Prop
 |[],[]=>True
 |(i,x)::ps,(off,size,X')::qs=>place i=some (off,size)/\bI x=some X'/\LJ place ps qs
 |_,_=>False
theorem Sq (ho:DV B S m ρ a) {place:Nat->Option (Nat×Nat)}:∀{ps:List (Nat×Operand)} {qs:List (Nat×Nat×X)} {ds ds':List D} {cells:Array Value},LJ place ps qs->av (fA B S m) ds cells.toList->qy ρ ds qs=some ds'->
  ∃cells':Array Value,Instr.fill place cells (ps.map fun p=>(p.1,a.eval p.2))=some cells'/\av (fA B S m) ds' cells'.toList
 |[],[],ds,ds',cells,_,h1,h2=>by simp only [qy,A0] at h2;subst h2;exact ⟨cells,rfl,h1⟩
 |(i,x)::ps,(off,size,X')::qs,ds,ds',cells,hp,h1,h2=>by
  obtain ⟨p1,p2,p3⟩:=hp;simp only [qy,A2,A1] at h2;obtain ⟨xs,h3,h4⟩:=h2;split at h4
  case isFalse=>cases h4
  rename_i hc;obtain ⟨c1,c2⟩:=hc;obtain ⟨h5,_⟩:=J4 (ho x X' p2) h3;have hl1:xs.length=(a.eval x).cells.size:=by rw [h5.len];simp
  have hl2:ds.length=cells.size:=by rw [h1.len];simp
  have hsp:((a.eval x).cells.zipIdx.foldl (fun cs (p:Value×Nat)=>cs.setIfInBounds (off+p.2) p.1) cells).toList=splice cells.toList off (a.eval x).cells.toList:=by
   have:=foldl_set (a.eval x).cells.toList off 0 cells (by simp;omega)
   rw [<-Array.foldl_toList];simpa using this
  obtain ⟨cells',h6,h7⟩:=Sq ho (cells:=(a.eval x).cells.zipIdx.foldl (fun cs (p:Value×Nat)=>cs.setIfInBounds (off+p.2) p.1) cells) p3 (by rw [hsp];exact h1.splice off h5) h4
  refine ⟨cells',?_,h7⟩;have hne:((a.eval x).cells.size≠size||decide (off+(a.eval x).cells.size > cells.size))=false:=by simp;omega
  simp only [D4,Instr.fill,p1];rw [E0 (by simpa using hne)]
  exact h6
 |[],_::_,_,_,_,h,_,_=>h.elim
 |_::_,[],_,_,_,h,_,_=>h.elim
theorem FD {fs:List Field} {places:List (Nat×Nat)} (hp:fs.mapM (fun f=>(P.info? f.type).map fun i=>(f.offset,i.size))=some places):
  ∀{ps:List (Nat×Operand)} {qs:List (Nat×Nat×X)},compFields P fs ps=some qs->LJ (fun i=>places[i]?) ps qs
 |[],qs,h=>by simp [compFields] at h;subst h;trivial
 |(i,x)::ps,qs,h=>by
  simp only [compFields,A2,A1,A0] at h;obtain ⟨f,h1,info,h2,X',h3,qs',h4,rfl⟩:=h;refine ⟨?_,h3,FD hp h4⟩;have key:∀(fs:List Field) (places:List (Nat×Nat)),fs.mapM (fun f=>(P.info? f.type).map fun i=>(f.offset,i.size))=some places->∀(i:Nat) (f:Field),fs[i]?=some f->places[i]?=(P.info? f.type).map fun i=>(f.offset,i.size):=by
   intro fs;induction fs with
   |nil=>intro places _ i f hf;simp at hf
   |cons g fs ih=>
    intro places hpl i f hf;simp only [List.mapM_cons,A2,Option.pure_def,A1,A0] at hpl;obtain ⟨p,hp1,rest,hp2,rfl⟩:=hpl;cases i with
    |zero=>simp at hf;subst hf;simp [hp1]
    |succ i=>simp at hf;simpa using ih rest hp2 i f hf
  simp only [key fs places hp i f h1,h2,Hj]
theorem Eb:∀{fs:List Field},AR P fs=true->∃places,fs.mapM (fun f=>(P.info? f.type).map fun i=>(f.offset,i.size))=some places
 |[],_=>⟨[],rfl⟩
 |f::fs,h=>by simp only [AR,I3,A5] at h;obtain ⟨places,h1⟩:=Eb (fs:=fs) h.2;obtain ⟨i,hi⟩:=Option.isSome_iff_exists.1 h.1;exact ⟨(f.offset,i.size)::places,by simp [List.mapM_cons,hi,h1]⟩
theorem Xt (hk:fu B S m) (ho:DV B S m ρ a) {t:TypeId} {parts:Array (Nat×Operand)} {fs:List Field} {z:List Value} {qs:List (Nat×Nat×X)} (hop:o.op=.build t parts) (h1:fieldsOf P t=some fs) (h2:zeroOf P t=some z)
  (h3:compFields P fs parts.toList=some qs) (h4:AR P fs=true) (hs:step ρ m.h slot (.build z qs)=some (d,us)):Does B S P o a m slot d us:=by
 have hu:=Bi h1;obtain ⟨i,zv,g1,g2,g3,g4,_⟩:=vN h2;obtain ⟨places,hp⟩:=Eb h4;simp only [step] at hs;obtain ⟨h5,rfl⟩:=dD hs;simp only [A2,A1,A0] at h5;obtain ⟨ds,h6,rfl⟩:=h5;obtain ⟨cells',h7,h8⟩:=Sq ho (cells:=zv.cells) (FD hp h3) (by rw [g3];exact Gv g4) h6
 refine bK hk slot (v:=.agg cells') ?_ ⟨cells'.toList,by simp,h8⟩
 have hb:P.built t ((parts.map fun (p:Nat×Operand)=>(p.1,a.eval p.2)).toList)=some cells':=by unfold Program.built;simp only [g1,hu,g2,hp,Array.toList_map];simpa using h7
 have:=run_build (P:=P) m.w t _ cells' hb
 simp [execOp,hop,this]
theorem I7 {size:Nat}:∀{ps:List (Nat×Operand)} {qs:List (Nat×Nat×X)},yx size ps=some qs->LJ (fun i=>some (i * size,size)) ps qs
 |[],qs,h=>by simp [yx] at h;subst h;trivial
 |(i,x)::ps,qs,h=>by simp only [yx,A2,A1,A0] at h;obtain ⟨X',h3,qs',h4,rfl⟩:=h;exact ⟨rfl,h3,I7 h4⟩
theorem abW (hk:fu B S m) (ho:DV B S m ρ a) (hs0:¬m.U slot) {t e:TypeId} {len:Nat} {parts:Array (Nat×Operand)} {i:TypeInfo} {z:List Value} {qs:List (Nat×Nat×X)} (hop:o.op=.buildSlice t len parts)
  (h1:fH P t=some e) (h2:P.info? e=some i) (h3:zeroOf P e=some z) (h4:yx i.size parts.toList=some qs) (h5:len * i.size<=16777216) (h6:0 < i.size)
  (hs:step ρ m.h slot (.lits i.size e len z qs)=some (d,us)):Does B S P o a m slot d us:=by
 have hu:=jy h1;obtain ⟨i',zv,g1,g2,g3,g4,g5⟩:=vN h3;rw [h2] at g1;simp only [A0] at g1;subst g1;simp only [step,A2,A1,C1] at hs;obtain ⟨ds,hs1,cs,xs,hs2,hs3⟩:=hs;split at hs3
 case isFalse=>cases hs3
 rename_i hc;obtain ⟨c1,c2⟩:=hc;simp only [A0,A3] at hs3;obtain ⟨rfl,rfl⟩:=hs3;have hzs:zv.cells.size=i.size:=by rw [<-g5,<-g3];simp
 have hinit:av (fA B S m) ((zeros z len).map .c) ((Array.range (len * i.size)).map (zv.cells[· % zv.cells.size]!)).toList:=by rw [<-hzs,FL,g3];exact av.mE (MH g4 len)
 obtain ⟨cells',f1,f2⟩:=Sq ho (I7 h4) hinit hs1;obtain ⟨k1,k2,k3⟩:=Hr hk f2 hs2;refine uw hk hs0 k1 k2 (spare:=[]) (cap:=len) k3 (An _) ?_ (by unfold bg at c2;simp only [maxLen];omega) (.inl rfl) ?_
 ·rw [Cl,<-k3.len];exact c1
 ·have hn16:¬(16777216 < len * i.size):=by omega
  by_cases hz:len * i.size=0
  ·have hl0:len=0:=by
    rcases Nat.mul_eq_zero.1 hz with h|h
    ·exact h
    ·omega
   subst hl0;simp only [Nat.zero_mul,Array.range_zero',Array.map_empty] at f1;have f1':Instr.fill (fun i_1=>some (i_1 * i.size,i.size)) #[] (parts.toList.map fun p=>(p.1,a.eval p.2))=some cells':=by simpa using f1
   simp [execOp,hop,Instr.buildSlice,run_underlying hu,run_sizeOf h2,newRow,Array.range_zero',f1']
  ·simp [execOp,hop,Instr.buildSlice,run_underlying hu,run_sizeOf h2,hn16,hz,zeroValue,typeInfo,h2,g2,newRow,f1]
theorem run_storeVar_row {t:TypeId} {i:TypeInfo} (hi:P.info? t=some i) {w:World} {b off:Nat} {us:List Value} {e:TypeId} (hb:w.heap[b]?=some (.cells us.toArray e (0,0))) {v:Value} (hl:v.cells.size=i.size) (hfit:off+i.size<=us.length)
  (h1:∀x∈v.cells.toList,x.oneCell'=true):(storeVar t ⟨b,off,none⟩ v).run P w=.ok () (w.setRow b (splice us off v.cells.toList).toArray):=by
 have hst:=run_storeCells_at P b off e v.cells.toList 0 us.toArray w hb (by simp;omega) h1
 simp only [Hx] at hst;simp only [storeVar,Sem.run_bind,run_sizeOf hi,Result.andThen_ok,hl];simp [hst,splice]
theorem below_setRow {w:World} {b:Nat} {cs:Array Value} (hb:B<=b):Below B w (w.setRow b cs):=
 ⟨rfl,rfl,rfl,by simp,fun k hk=>setRow_other w b k cs (by omega)⟩
theorem nW {α:Type} {l xs:List α} {off:Nat} (h:off+xs.length<=l.length):(splice l off xs).length=l.length:=by unfold splice;simp;omega
theorem FR {α:Type} {l xs:List α} {off q:Nat} (h:off<=l.length) (hq:q < off):(splice l off xs)[q]?=l[q]?:=by unfold splice;rw [B9,Gk (by simp;omega),Fc hq]
theorem KY {α:Type} {l xs:List α} {off n:Nat} (h:off+xs.length<=n) (hn:n<=l.length):(splice l off xs).take n=splice (l.take n) off xs:=by
 unfold splice;rw [B9,B9,List.take_append,List.take_append];simp only [Fo];have e1:min off l.length=off:=by omega
 have e2:min off (min n l.length)=off:=by omega
 rw [e1,List.take_take,List.take_take];have e3:min n off=off:=by omega
 have e4:min off n=off:=by omega
 rw [e3,e4];congr 1;rw [Jx (by omega:xs.length<=n - off)]
 congr 1;rw [List.drop_take];congr 1;omega
theorem YM (hk:fu B S m) (ho:DV B S m ρ a) {t:TypeId} {x y:Operand} {X' Y':X} {i:TypeInfo} (hop:o.op=.store t x y) (h1:P.info? t=some i) (hx:bI x=some X') (hy:bI y=some Y')
  (hs:step ρ m.h slot (.store i.size X' Y')=some (d,us)):Does B S P o a m slot d us:=by
 have e1:=ho x X' hx;have e2:=ho y Y' hy;simp only [step] at hs;unfold AZ at hs;split at hs
 ·rename_i id off he;rw [he] at e1;obtain ⟨hU,e3⟩:=e1;cases wC:ax m.h id with
  |dead=>rw [wC] at hs;cases hs
  |box ds=>
   rw [wC] at hs;simp only [A2,A1] at hs;obtain ⟨xs,h2,h3⟩:=hs;split at h3
   case isFalse=>cases h3
   rename_i hc;obtain ⟨c1,c2⟩:=hc;simp only [A0,A3] at h3;obtain ⟨rfl,rfl⟩:=h3;obtain ⟨hB,vs,e,hv1,hv2⟩:=hk.box wC;obtain ⟨f1,f2⟩:=J4 e2 h2;have hlen:(a.eval y).cells.size=i.size:=by rw [<-c1,f1.len];simp
   have hvl:ds.length=vs.length:=hv2.len;have hrun:=run_storeVar_row (P:=P) (off:=off) h1 hv1 hlen (by omega) f2
   have hother:∀k,k≠m.β id->(m.w.setRow (m.β id) (splice vs off (a.eval y).cells.toList).toArray).heap[k]?=m.w.heap[k]?:=fun k hk'=>setRow_other _ _ _ _ hk'
   have hev:aB B S m (m.upd (m.w.setRow (m.β id) (splice vs off (a.eval y).cells.toList).toArray) id (.box (splice ds off xs))):=by
    refine vU hk wC (o':=.box (splice ds off xs)) trivial hother (fun q u hq _=>hq.elim) ?_
    have hsl:(splice vs off (a.eval y).cells.toList).length=vs.length:=nW (by simp;omega)
    simp [World.shape?,setRow_heap _ _ _ _ _ _ hv1,hv1,hsl]
   have hok:=Ho hk (id:=id) (by rw [wC];simp) hev hother (by simp) ⟨hB,_,e,setRow_heap _ _ _ _ _ _ hv1,(hv2.splice off f1).mono fun _ _ h=>hev.vw h⟩
   refine ⟨_,undef,m.w.setRow (m.β id) (splice vs off (a.eval y).cells.toList).toArray,?_,.inr ⟨rfl,rfl⟩,m.β,vT hok slot,hev.trans (fD _ slot),trivial,below_setRow hB⟩;simp [execOp,hop,e3,Instr.storeAt,Instr.sureAddr,hrun]
  |map es=>rw [wC] at hs;cases hs
  |arr cs0 alM fz0 auD=>
   rw [wC] at hs;simp only [A2,A1,C1] at hs;obtain ⟨xv,vH,h2,h3⟩:=hs;have e2':ni B S m (ρ Y') (a.eval y):=by
    cases hd:ρ Y' with
    |jG ds=>rw [hd] at h2;simp [nN,nP] at h2
    |_=>rw [hd] at e2;exact e2
   obtain ⟨k1,k2,k3⟩:=Iq hk e2' h2;obtain ⟨f1,f2⟩:=k3.cells_ok;cases Ze:ax (ay m.h vH) id with
   |dead=>rw [Ze] at h3;cases h3
   |box ds=>rw [Ze] at h3;cases h3
   |map ds=>rw [Ze] at h3;cases h3
   |arr cs aj fz ety=>
    rw [Ze] at h3;simp only at h3;split at h3
    case isFalse=>cases h3
    rename_i hc;obtain ⟨c1,c2,c3⟩:=hc;simp only [A0,A3] at h3;obtain ⟨rfl,rfl⟩:=h3;obtain ⟨hB,vs,hv1,hvl,hv2⟩:=k1.arr (id:=id) Ze;replace hB:B<=m.β id:=hB;replace hv1:m.w.heap[m.β id]?=some (.cells vs.toArray ety (0,0)):=hv1;have hlen:(a.eval y).cells.size=i.size:=by rw [<-c1,f1.len];simp
    have hrun:=run_storeVar_row (P:=P) (off:=off) h1 hv1 hlen (by omega) f2
    have hsl:(splice vs off (a.eval y).cells.toList).length=vs.length:=nW (by simp;omega)
    have hother:∀k,k≠m.β id->(m.w.setRow (m.β id) (splice vs off (a.eval y).cells.toList).toArray).heap[k]?=m.w.heap[k]?:=fun k hk'=>setRow_other _ _ _ _ hk'
    have hev:aB B S (m.heap (ay m.h vH)) ((m.heap (ay m.h vH)).upd (m.w.setRow (m.β id) (splice vs off (a.eval y).cells.toList).toArray) id (.arr (splice cs off xv.cells) aj fz ety)):=by
     refine vU k1 (id:=id) Ze (o':=.arr (splice cs off xv.cells) aj fz ety) ⟨rfl,rfl,An _⟩ hother (fun q u hq hcell=>?_) ?_
     ·have hq':q < fz:=hq;have hcell':m.w.cell? ⟨m.β id,q,none⟩=some u:=hcell;rw [jw hv1] at hcell';show (m.w.setRow (m.β id) _).cell? ⟨m.β id,q,none⟩=some u
      rw [jw (setRow_heap _ _ _ _ _ _ hv1),FR (by omega) (by omega)]
      exact hcell'
     ·show (m.w.setRow (m.β id) _).shape? (m.β id)=m.w.shape? (m.β id)
      simp [World.shape?,setRow_heap _ _ _ _ _ _ hv1,hv1,hsl]
    have hcl:(splice cs off xv.cells).length=cs.length:=nW (by omega)
    have hok:=Ho k1 (id:=id) (by rw [show ax (m.heap (ay m.h vH)).h id=_ from Ze];simp) hev hother (by simp [M.heap])
     ⟨hB,_,setRow_heap _ _ _ _ _ _ hv1,by rw [hcl,hsl];exact hvl,by
      rw [hcl,KY (by simp;omega) hvl]
      exact (hv2.splice off f1).mono fun c u h=>bJ.mono hev.cell c u h⟩
    refine ⟨_,undef,m.w.setRow (m.β id) (splice vs off (a.eval y).cells.toList).toArray,?_,.inr ⟨rfl,rfl⟩,m.β,?_,?_,trivial,below_setRow hB⟩
    ·simp [execOp,hop,e3,Instr.storeAt,Instr.sureAddr,hrun]
    ·rw [eD];exact vT hok slot
    ·rw [eD];exact k2.trans (hev.trans (fD _ slot))
 ·cases hs
end
end Go.Ey
namespace Go.Ey
open RowKit
section
variable {B:Nat} {S:Nat->Nat->Prop} {P:Program} {o:Oper} {a:Act} {m:M} {slot:Nat} {ρ:X->D} {d:D} {us:List (Nat×Obj)}
theorem Ip {m:M} {id:Nat}:aB B S m (m.heap ((id,.dead)::m.h)) where
 cell b q u h1 h2:=by
  refine ⟨h1,h2.1,fun i=>?_⟩
  simp only [M.heap,bu];by_cases hi:id=i
  ·simp [hi]
  ·simp only [hi,C7];exact h2.2 i
 used _ hu:=hu
 dead i _ hd:=by
  simp only [M.heap,bu];by_cases hi:id=i
  ·simp [hi]
  ·simp only [hi,C7];exact hd
 at_ _ _:=rfl
 kind i cs' ja nG jY _ h:=by
  simp only [M.heap,bu] at h;by_cases hi:id=i
  ·simp [hi] at h
  ·simp only [hi,C7] at h;exact ⟨cs',nG,h,rfl⟩
 rest b _ _ hn:=by
  refine ⟨rfl,fun i hd=>?_⟩
  simp only [M.heap,bu] at hd |-;by_cases hi:id=i
  ·simp [hi] at hd
  ·simp only [hi,C7] at hd;exact hn i hd
theorem aeD {m:M} (hk:fu B S m) {id:Nat}:fu B S (m.heap ((id,.dead)::m.h)):=by
 have hev:=Ip (B:=B) (S:=S) (m:=m) (id:=id);have harr:∀i cs aj fz ety,ax (m.heap ((id,.dead)::m.h)).h i=.arr cs aj fz ety->∀o,S ((m.heap ((id,.dead)::m.h)).β i) o:=by
  intro i cs aj fz ety hg;simp only [M.heap,bu] at hg |-;by_cases hi:id=i
  ·simp [hi] at hg
  ·simp only [hi,C7] at hg;exact hk.Pb i cs aj fz ety hg
 refine ⟨fun i=>?_,fun i j hi hj he=>?_,fun i hu=>?_,hk.base,hk.fresh,harr⟩
 ·unfold Kh;by_cases hi:id=i
  ·subst hi;simp only [M.heap,bu,E7];trivial
  ·have h1:ax (m.heap ((id,.dead)::m.h)).h i=ax m.h i:=by simp [M.heap,bu,hi]
   rw [h1];exact hev.KT rfl (hk.obj i)
 ·simp only [M.heap,bu] at hi hj;by_cases h1:id=i
  ·simp [h1] at hi
  ·by_cases h2:id=j
   ·simp [h2] at hj
   ·simp only [h1,h2,C7] at hi hj;exact hk.inj i j hi hj he
 ·simp only [M.heap,bu];by_cases h1:id=i
  ·simp [h1]
  ·simp only [h1,C7];exact hk.dom i hu
def M.move (m:M) (w':World) (id slot:Nat) (o':Obj):M:=⟨w',(slot,o')::(id,.dead)::m.h,nI m.β slot (m.β id),fun i=>m.U i\/i=slot⟩
theorem IV {m:M} (hk:fu B S m) {id:Nat} {xs cs':List C} {aj fz ety:Nat} (ho:ax m.h id=.arr xs aj fz ety) (hs:¬m.U slot) {w':World} (hother:∀k,k≠m.β id->w'.heap[k]?=m.w.heap[k]?)
  (hcell:∀q u,q < fz->m.w.cell? ⟨m.β id,q,none⟩=some u->w'.cell? ⟨m.β id,q,none⟩=some u):aB B S m (m.move w' id slot (.arr cs' aj fz ety)) where
 cell b q u h1 h2:=by
  have h3:=h2.2 id;rw [ho] at h3;refine ⟨?_,h2.1,fun i=>?_⟩
  ·by_cases hb:b=m.β id
   ·subst hb;exact hcell q u (h3 rfl) h1
   ·rw [<-h1];exact World.cell?_of_block (w:=m.w) (a:=⟨b,q,none⟩) (hother b hb)
  ·simp only [M.move,bu,nI];by_cases hi:slot=i
   ·subst hi;simp only [E7];exact h3
   ·have hi':¬i=slot:=fun e=>hi e.symm
    simp only [hi,hi',C7];by_cases hj:id=i
    ·simp [hj]
    ·simp only [hj,C7];exact h2.2 i
 used _ hu:=.inl hu
 dead i hu hd:=by
  have hi:¬slot=i:=fun e=>hs (e▸hu)
  simp only [M.move,bu,hi,C7];by_cases hj:id=i
  ·simp [hj]
  ·simp only [hj,C7];exact hd
 at_ i hu:=by
  have hi:¬i=slot:=fun e=>hs (e▸hu)
  simp [M.move,nI,hi]
 kind i cs2 acD fz2 afN hu h:=by
  have hi:¬slot=i:=fun e=>hs (e▸hu)
  simp only [M.move,bu,hi,C7] at h;by_cases hj:id=i
  ·simp [hj] at h
  ·simp only [hj,C7] at h;refine ⟨cs2,fz2,h,?_⟩;have:m.β i≠m.β id:=fun e=>hj (hk.inj i id (by rw [h];simp) (by rw [ho];simp) e).symm
   simp [World.shape?,M.move,hother _ this]
 rest b _ _ hn:=by
  have hid:m.β id≠b:=hn id (by rw [ho];simp)
  refine ⟨hother b fun e=>hid e.symm,fun i hd=>?_⟩
  simp only [M.move,bu,nI] at hd |-;by_cases hi:slot=i
  ·subst hi;simpa using hid
  ·have hi':¬i=slot:=fun e=>hi e.symm
   simp only [hi,C7] at hd;simp only [hi',C7];by_cases hj:id=i
   ·subst hj;exact hid
   ·simp only [hj,C7] at hd;exact hn i hd
theorem VW {m:M} (hk:fu B S m) {id:Nat} {xs cs':List C} {aj fz ety:Nat} (ho:ax m.h id=.arr xs aj fz ety) {w':World} (hother:∀k,k≠m.β id->w'.heap[k]?=m.w.heap[k]?) (hsz:m.w.heap.size<=w'.heap.size)
  (hev:aB B S m (m.move w' id slot (.arr cs' aj fz ety))) (hrep:FM B S (m.move w' id slot (.arr cs' aj fz ety)) (m.β id) (.arr cs' aj fz ety)):fu B S (m.move w' id slot (.arr cs' aj fz ety)):=by
 have hlive:ax m.h id≠.dead:=by rw [ho];simp
 have harr:∀i cs2 acD fz2 afN,ax (m.move w' id slot (.arr cs' aj fz ety)).h i=.arr cs2 acD fz2 afN->∀o,S ((m.move w' id slot (.arr cs' aj fz ety)).β i) o:=by
  intro i cs2 acD fz2 afN hg q;simp only [M.move,bu,nI] at hg |-;by_cases hi:slot=i
  ·subst hi;simp only [E7];exact hk.Pb id xs aj fz ety ho q
  ·have hi':¬i=slot:=fun e=>hi e.symm
   simp only [hi,C7] at hg;simp only [hi',C7];by_cases hj:id=i
   ·simp [hj] at hg
   ·simp only [hj,C7] at hg;exact hk.Pb i cs2 acD fz2 afN hg q
 refine ⟨fun i=>?_,fun i j hi hj he=>?_,fun i hu=>?_,E1 hk.base hsz,fun b q hb=>hk.fresh b q (E1 hsz hb),harr⟩
 ·unfold Kh;by_cases hi:slot=i
  ·subst hi;have h1:ax (m.move w' id slot (.arr cs' aj fz ety)).h slot=.arr cs' aj fz ety:=by simp [M.move,bu]
   have h2:(m.move w' id slot (.arr cs' aj fz ety)).β slot=m.β id:=by simp [M.move,nI]
   rw [h1,h2];exact hrep
  ·have hi':¬i=slot:=fun e=>hi e.symm
   have h2:(m.move w' id slot (.arr cs' aj fz ety)).β i=m.β i:=by simp [M.move,nI,hi']
   by_cases hj:id=i
   ·have h1:ax (m.move w' id slot (.arr cs' aj fz ety)).h i=.dead:=by simp [M.move,bu,hi,hj]
    rw [h1];trivial
   ·have h1:ax (m.move w' id slot (.arr cs' aj fz ety)).h i=ax m.h i:=by simp [M.move,bu,hi,hj]
    rw [h1,h2];by_cases hd:ax m.h i=.dead
    ·rw [hd];trivial
    ·exact hev.KT (hother _ fun e=>hj (hk.inj i id hd hlive e).symm) (hk.obj i)
 ·simp only [M.move,bu,nI] at hi hj he;by_cases h1:slot=i<;>by_cases h2:slot=j
  ·omega
  ·have h1':i=slot:=h1.symm;have h2':¬j=slot:=fun e=>h2 e.symm
   simp only [h2,h1',h2',E7,C7] at hj he;by_cases h3:id=j
   ·simp [h3] at hj
   ·simp only [h3,C7] at hj;exact absurd (hk.inj id j hlive hj he) h3
  ·have h1':¬i=slot:=fun e=>h1 e.symm
   have h2':j=slot:=h2.symm;simp only [h1,h1',h2',E7,C7] at hi he;by_cases h3:id=i
   ·simp [h3] at hi
   ·simp only [h3,C7] at hi;exact absurd (hk.inj i id hi hlive he).symm h3
  ·have h1':¬i=slot:=fun e=>h1 e.symm
   have h2':¬j=slot:=fun e=>h2 e.symm
   simp only [h1,h1',h2,h2',C7] at hi hj he;by_cases h3:id=i
   ·simp [h3] at hi
   ·by_cases h4:id=j
    ·simp [h4] at hj
    ·simp only [h3,h4,C7] at hi hj;exact hk.inj i j hi hj he
 ·simp only [M.move] at hu |-;have h1:¬m.U i:=fun h=>hu (.inl h)
  have h2:¬slot=i:=fun h=>hu (.inr h.symm)
  simp only [bu,h2,C7];by_cases h3:id=i
  ·simp [h3]
  ·simp only [h3,C7];exact hk.dom i h1
theorem Be (z:Array Value) (n:Nat):(Builtin.zeroCells z n).toList.length=n * z.size:=by simp [Builtin.zeroCells]
theorem U4 (hk:fu B S m) (ho:DV B S m ρ a) (hs0:¬m.U slot) {t t' e:TypeId} {x y:Operand} {X' Y':X} {i:TypeInfo} {z:List Value} {d':TypeDesc} (hop:o.op=.call { callee:=.builtin .append,args:=#[x,y],argTypes:=#[t,t']})
  (h1:fH P t=some e) (h2:P.info? e=some i) (h3:zeroOf P e=some z) (h4:P.underlying t'=some d') (h5:∀k,d'≠.int k)
  (hx:bI x=some X') (hy:bI y=some Y') (hs:step ρ m.h slot (.app i.size e i.bytes X' Y')=some (d,us)):Does B S P o a m slot d us:=by
 have hu:=jy h1;obtain ⟨i',zv,g1,g2,g3,g4,g5⟩:=vN h3;rw [h2] at g1;simp only [A0] at g1;subst g1;have hzs:zv.cells.size=i.size:=by rw [<-g5,<-g3];simp
 have e1:=ho x X' hx;have e2:=ho y Y' hy;have run:∀v w',(Builtin.append_ #[t,t'] o.type #[a.eval x,a.eval y]).run P m.w=.ok v w'->(execOp a.eval o).run P m.w=.ok (.value v) w':=by intro v w' h;simp [execOp,hop,resolve,invoke,builtin,h]
 simp only [step] at hs;unfold Kw at hs;split at hs
 ·rename_i ds k he;simp only [A2,A1,C1] at hs;obtain ⟨cs,n,hs1,hs2⟩:=hs;split at hs2
  case isFalse=>cases hs2
  rename_i hc;obtain ⟨c1,c0,c2,c3,c4⟩:=hc;obtain ⟨news,hn1,hn2⟩:=GV (P:=P) hk e2 hs1 c1;rw [he] at e1;have Mi:fA B S m (.full ds k) (a.eval x):=e1;unfold bg at c2 c4;split at hs2
  ·rename_i hz;subst hz;simp only [A0,A3] at hs2;obtain ⟨rfl,rfl⟩:=hs2;rcases Mi with ⟨e3,rfl,rfl⟩|⟨ad,e3,e4,e5⟩
   ·have:=SB (P:=P) (w:=m.w) (ty:=o.type) hu h4 h5 h2 hn2
    refine bK hk slot (run _ _ (by rw [e3];exact this)) ?_
    show fA B S m (.full [] 0) _
    exact .inl ⟨rfl,rfl,rfl⟩
   ·have:=HY (P:=P) (w:=m.w) (ty:=o.type) hu h4 h5 h2 hn2 ad k k (An _)
    refine bK hk slot (run _ _ (by rw [e3];exact this)) ?_
    show fA B S m (.full ds k) _
    exact .inr ⟨ad,rfl,e4,e5⟩
  ·rename_i hz;simp only [A0,A3] at hs2;obtain ⟨rfl,rfl⟩:=hs2;rcases Mi with ⟨e3,rfl,rfl⟩|⟨ad,e3,e4,e5⟩
   ·rw [E4] at c2;have:=UC (P:=P) (w:=m.w) (ty:=o.type) hu h4 h5 h2 g2 hn2 (by omega) (by omega) (by omega)
    have hge:=grownCap_ge m.w n 0 e;have hle:=grownCap_le_maxLen m.w n 0 e (by simp only [maxLen];omega)
    simp only [E4,E2];refine uw (vH:=[]) hk hs0 hk (aB.refl m) (spare:=(Builtin.zeroCells zv.cells (grownCap m.w n 0 e - n)).toList) (cap:=grownCap m.w n 0 e) hn1 hge ?_ hle (.inr rfl) (run _ _ ?_)
    ·rw [Ax,Be,hzs,hn2.cells,<-Nat.add_mul];congr 1;omega
    ·rw [e3,this];congr 2;simp
   ·obtain ⟨vs,hv1,hv2⟩:=E8 e5;have hlo:vs.length=k * i.size:=by rw [<-hv1.len];exact c0
    have hnl:news.length=n * i.size:=hn2.cells;have Xv:∀j v,vs[j]?=some v->m.w.cell? (ad.add j)=some v:=by
     intro j v hv;have hne:ds≠[]:=by
      intro e;subst e;cases vs with
      |nil=>simp at hv
      |cons _ _=>exact hv1.elim
     obtain ⟨b,of,sp⟩:=ad;have:sp=none:=e4 hne
     subst this;rw [x9];exact (hv2 j v hv).1
    have hfit:=growslice_fits (show k < k+n by omega) (bytes:=i.bytes) c2
    have hrun:=IC (P:=P) (w:=m.w) (ty:=o.type) hu h4 h5 h2 g2 hn2 ad k k vs hlo Xv (by omega) (by omega) hfit
    have hge:=grownCap_ge m.w (k+n) k e;have hle:=grownCap_le_maxLen m.w (k+n) k e (by simp only [maxLen];omega)
    refine uw (vH:=[]) hk hs0 hk (aB.refl m) (spare:=(Builtin.zeroCells zv.cells (grownCap m.w (k+n) k e - (k+n))).toList) (cap:=grownCap m.w (k+n) k e) (hv1.append hn1) hge ?_ hle (.inr rfl) (run _ _ ?_)
    ·rw [Ax,Ax,Be,hzs,hlo,hnl,<-Nat.add_mul,<-Nat.add_mul];congr 1;omega
    ·rw [e3,hrun];congr 2;simp
 ·rename_i id off len he;cases wC:ax m.h id with
  |dead=>rw [wC] at hs;cases hs
  |box ds=>rw [wC] at hs;cases hs
  |map ds=>rw [wC] at hs;cases hs
  |arr xs ja fz jY=>
   rw [wC] at hs;simp only [A2,A1,C1] at hs;obtain ⟨cs,n,hs1,hs2⟩:=hs;split at hs2
   case isFalse=>cases hs2
   rename_i hc;obtain ⟨c1,c2,c3,c4,rfl,rfl,rfl,c5,c6⟩:=hc;simp only [A0,A3] at hs2;obtain ⟨rfl,rfl⟩:=hs2;obtain ⟨news,hn1,hn2⟩:=GV (P:=P) hk e2 hs1 c1;obtain ⟨hB,vs,hv1,hvl,hv2⟩:=hk.arr wC;rw [he] at e1;obtain ⟨hU,ad,cap,e3,e4,e5⟩:=e1;rw [wC] at e5;simp only at e5;unfold bg at c2 c4;have holds:av (bJ m.w (Safe B S m)) (xs.take (len * i.size)) (vs.take (len * i.size)):=by
    have:=hv2.take (len * i.size)
    rw [List.take_take,Nat.min_eq_left c6] at this;exact this
   have hlo:(vs.take (len * i.size)).length=len * i.size:=by rw [<-holds.len,Fo];omega
   have hnl:news.length=n * i.size:=hn2.cells;by_cases hroom:len+n<=cap/\cap≠0
   ·
    obtain ⟨hroom,hcap0⟩:=hroom;rcases e5 with ⟨rfl,sz,e6,e7,e8⟩|⟨_,hz⟩
    case inr=>exact absurd hz hcap0
    have hsz:sz=vs.length:=by simp [World.shape?,hv1] at e6;omega
    have hmul:(len+n) * i.size<=cap * i.size:=Cd _ hroom;rw [Mu] at hmul;have hfit:len * i.size+news.length<=vs.toArray.size:=by simp;omega
    have hrun:=Tq (P:=P) (w:=m.w) (ty:=o.type) hu h4 h5 h2 hn2 (m.β id) len cap vs.toArray hv1 (av.mem_right (fun _ _ h=>h.oneCell) hn1) hroom hfit
    simp only at hrun;have hother:∀k,k≠m.β id->(m.w.setRow (m.β id) (vs.take (len * i.size)++news++vs.drop (len * i.size+news.length)).toArray).heap[k]?=m.w.heap[k]?:=fun k hk'=>setRow_other _ _ _ _ hk'
    have hev:aB B S m (m.move (m.w.setRow (m.β id) (vs.take (len * i.size)++news++vs.drop (len * i.size+news.length)).toArray) id slot (.arr (xs.take (len * i.size)++cs) i.size fz jY)):=by
     refine IV hk wC hs0 hother fun q u hq hcell=>?_
     rw [jw hv1] at hcell;rw [jw (setRow_heap _ _ _ _ _ _ hv1),B9,Gk (by rw [hlo];omega),Fc (by omega)]
     exact hcell
    have aaj:(xs.take (len * i.size)++cs).length=(vs.take (len * i.size)++news).length:=(holds.append hn1).len;have hok:=VW hk wC hother (by simp) hev ⟨hB,_,setRow_heap _ _ _ _ _ _ hv1,by rw [Ax (as:=vs.take _++news),aaj];omega,by rw [aaj,List.take_left];exact (holds.append hn1).mono fun c u h=>bJ.mono hev.cell c u h⟩
    refine ⟨_,.slice (some ⟨m.β id,0,none⟩) (len+n) cap,_,run _ _ ?_,.inl rfl,nI m.β slot (m.β id),hok,hev,?_,below_setRow hB⟩
    ·rw [e3];exact hrun
    ·refine ⟨.inr rfl,⟨m.β id,0,none⟩,cap,rfl,hroom,?_⟩;simp only [ay,bu,E7,nI];refine .inl ⟨trivial,sz,?_,by omega,e8⟩
     simp only [World.shape?,setRow_heap _ _ _ _ _ _ hv1];simp;omega
   ·
    have hk1:=aeD hk (id:=id);have apX:=Ip (B:=B) (S:=S) (m:=m) (id:=id);by_cases hz:len+n=0
    ·
     have hl0:len=0:=by omega
     have hn0:n=0:=by omega
     subst hl0 hn0;have hcap0:cap=0:=by
      rcases Nat.eq_zero_or_pos cap with h|h
      ·exact h
      ·exact absurd ⟨by omega,by omega⟩ hroom
     subst hcap0;have hrun:=HY (P:=P) (w:=m.w) (ty:=o.type) hu h4 h5 h2 hn2 ad 0 0 (An _);have hev:aB B S m (m.move m.w id slot (.arr (xs.take (0 * i.size)++cs) i.size fz jY)):=IV hk wC hs0 (fun _ _=>rfl) fun _ _ _ h=>h
     have asD:cs=[]:=Cp (by simpa using c1)
     subst asD;have hok:=VW hk wC (w':=m.w) (fun _ _=>rfl) (An _) hev ⟨hB,vs,hv1,by simp,by simp [av]⟩
     refine ⟨_,.slice (some ad) 0 0,_,run _ _ ?_,.inl rfl,nI m.β slot (m.β id),hok,hev,?_,Below.refl _ _⟩
     ·rw [e3];exact hrun
     ·refine ⟨.inr rfl,ad,0,rfl,An _,?_⟩;simp only [ay,bu,E7];exact .inr ⟨trivial,trivial⟩
    ·have hgrow:cap < len+n:=by
      rcases L7 cap (len+n) with h|h
      ·exact h
      ·exact absurd ⟨h,by omega⟩ hroom
     have hfit:=growslice_fits hgrow (bytes:=i.bytes) c2;have Xv:∀j v,(vs.take (len * i.size))[j]?=some v->m.w.cell? (ad.add j)=some v:=by
      intro j v hv;rcases e5 with ⟨rfl,_⟩|⟨hl0,_⟩
      ·rw [x9,jw hv1];have hj:j < len * i.size:=by have:=(As.1 hv).1;simp at this;omega
       rw [Fc hj] at hv;simpa using hv
      ·subst hl0;simp at hv
     have hrun:=IC (P:=P) (w:=m.w) (ty:=o.type) hu h4 h5 h2 g2 hn2 ad len cap (vs.take (len * i.size)) hlo Xv hgrow (by omega) hfit
     have hge:=grownCap_ge m.w (len+n) cap jY;have hle:=grownCap_le_maxLen m.w (len+n) cap jY (by simp only [maxLen];omega)
     have hall:av (bJ m.w (Safe B S (m.heap (ay m.h [(id,.dead)])))) (xs.take (len * i.size)++cs) (vs.take (len * i.size)++news):=
      (holds.append hn1).mono fun c u h=>bJ.mono apX.cell c u h
     refine uw (vH:=[(id,.dead)]) (fz:=fz) hk hs0 hk1 apX (spare:=(Builtin.zeroCells zv.cells (grownCap m.w (len+n) cap jY - (len+n))).toList) (cap:=grownCap m.w (len+n) cap jY) hall hge ?_ hle (.inr rfl) (run _ _ ?_)
     ·rw [Ax,Ax,Be,hzs,hlo,hnl,<-Nat.add_mul,<-Nat.add_mul];congr 1;omega
     ·rw [e3,hrun];congr 2;simp
 ·cases hs
theorem adV (hk:fu B S m) (ho:DV B S m ρ a) {t t' e:TypeId} {x y:Operand} {X' Y':X} {i:TypeInfo} (hop:o.op=.call { callee:=.builtin .copy,args:=#[x,y],argTypes:=#[t,t']})
  (h1:fH P t=some e) (h2:P.info? e=some i) (hx:bI x=some X') (hy:bI y=some Y') (hs:step ρ m.h slot (.Tf i.size X' Y')=some (d,us)):Does B S P o a m slot d us:=by
 have hu:=jy h1;have e1:=ho x X' hx;have e2:=ho y Y' hy;have run:∀v w',(Builtin.copy_ #[t,t'] o.type #[a.eval x,a.eval y]).run P m.w=.ok v w'->(execOp a.eval o).run P m.w=.ok (.value v) w':=by intro v w' h;simp [execOp,hop,resolve,invoke,builtin,h]
 simp only [step] at hs;unfold Vw at hs;split at hs
 ·rename_i id off len he;cases wC:ax m.h id with
  |dead=>rw [wC] at hs;cases hs
  |box ds=>rw [wC] at hs;cases hs
  |map ds=>rw [wC] at hs;cases hs
  |arr xs ja fz ety=>
   rw [wC] at hs;simp only [A2,A1,C1] at hs;obtain ⟨cs,n,hs1,hs2⟩:=hs;split at hs2
   case isFalse=>cases hs2
   rename_i hc;obtain ⟨c1,rfl,c2,c3⟩:=hc;simp only [A0,A3] at hs2;obtain ⟨rfl,rfl⟩:=hs2;obtain ⟨news,hn1,hn2⟩:=GV (P:=P) hk e2 hs1 c1;obtain ⟨hB,vs,hv1,hvl,hv2⟩:=hk.arr wC;rw [he] at e1;obtain ⟨hU,ad,cap,e3,e4,e5⟩:=e1;rw [wC] at e5;simp only at e5;have hmin:min n len<=n:=Nat.min_le_left _ _;have aes:min n len<=len:=Nat.min_le_right _ _;have hm1:=Cd i.size hmin;have hm2:=Cd i.size aes;have hk1:av (bJ m.w (Safe B S m)) (cs.take (min n len * i.size)) (news.take (min n len * i.size)):=hn1.take _;have hkl:(news.take (min n len * i.size)).length=min n len * i.size:=by rw [Fo,hn2.cells];omega
   have asb:(cs.take (min n len * i.size)).length=min n len * i.size:=by rw [hk1.len];exact hkl
   rcases e5 with ⟨rfl,sz,e6,e7,e8⟩|⟨rfl,rfl⟩
   ·have hrun:=aif (P:=P) (w:=m.w) (sT:=t') (ty:=o.type) hu h2 hn2 (m.β id) off len cap vs.toArray ety hv1 (av.mem_right (fun _ _ h=>h.oneCell) hn1) (by simp;omega)
    have hrun':(Builtin.copy_ #[t,t'] o.type #[.slice (some ⟨m.β id,off,none⟩) len cap,a.eval y]).run P m.w=.ok (goInt (min n len:Nat)) (m.w.setRow (m.β id) (splice vs off (news.take (min n len * i.size))).toArray):=hrun;have hsl:(splice vs off (news.take (min n len * i.size))).length=vs.length:=nW (by rw [hkl];omega)
    have hother:∀k,k≠m.β id->(m.w.setRow (m.β id) (splice vs off (news.take (min n len * i.size))).toArray).heap[k]?=m.w.heap[k]?:=fun k hk'=>setRow_other _ _ _ _ hk'
    have hev:aB B S m (m.upd (m.w.setRow (m.β id) (splice vs off (news.take (min n len * i.size))).toArray) id (.arr (splice xs off (cs.take (min n len * i.size))) i.size fz ety)):=by
     refine vU hk wC (o':=.arr (splice xs off (cs.take (min n len * i.size))) i.size fz ety) ⟨rfl,rfl,An _⟩ hother (fun q u hq hcell=>?_) ?_
     ·have hq':q < fz:=hq;rw [jw hv1] at hcell;rw [jw (setRow_heap _ _ _ _ _ _ hv1),FR (by omega) (by omega)]
      exact hcell
     ·simp [World.shape?,setRow_heap _ _ _ _ _ _ hv1,hv1,hsl]
    have hcl:(splice xs off (cs.take (min n len * i.size))).length=xs.length:=nW (by rw [asb];omega)
    have hok:=Ho hk (id:=id) (by rw [wC];simp) hev hother (by simp)
     ⟨hB,_,setRow_heap _ _ _ _ _ _ hv1,by rw [hcl,hsl];exact hvl,by
      rw [hcl,KY (by rw [hkl];omega) hvl]
      exact (hv2.splice off hk1).mono fun c u h=>bJ.mono hev.cell c u h⟩
    refine ⟨_,goInt (min n len:Nat),m.w.setRow (m.β id) (splice vs off (news.take (min n len * i.size))).toArray,run _ _ ?_,.inl rfl,m.β,vT hok slot,hev.trans (fD _ slot),dZ.mkLit rfl,below_setRow hB⟩;rw [e3];exact hrun'
   ·have hrun:=O9 (P:=P) (w:=m.w) (sT:=t') (ty:=o.type) hu h2 hn2 ad 0;have hmz:min n 0=0:=Nat.min_zero n;have hev:aB B S m (m.upd m.w id (.arr (splice xs off (cs.take (min n 0 * i.size))) i.size fz ety)):=
     vU hk wC (o':=.arr (splice xs off (cs.take (min n 0 * i.size))) i.size fz ety) ⟨rfl,rfl,An _⟩ (fun _ _=>rfl) (fun _ _ _ h=>h) rfl
    have hxs:splice xs off (cs.take (min n 0 * i.size))=xs:=by simp [splice]
    have aok:=hev;rw [hxs] at aok;have hok:=Ho hk (id:=id) (w':=m.w) (by rw [wC];simp) hev (fun _ _=>rfl) (An _)
     ⟨hB,vs,hv1,by rw [hxs];exact hvl,by rw [hxs];exact hv2.mono fun c u h=>bJ.mono aok.cell c u h⟩
    refine ⟨_,goInt 0,m.w,run _ _ ?_,.inl rfl,m.β,vT hok slot,hev.trans (fD _ slot),?_,Below.refl _ _⟩
    ·rw [e3];exact hrun
    ·rw [hmz];exact dZ.mkLit rfl
 ·cases hs
end
end Go.Ey
