/- A part. -/
import Derived.Test.YtolnnaanmfnkjaaGreatDoorY04
set_option linter.all false
namespace Go.Ey
open Go.RowKit
section
variable {B:Nat} {S:Nat->Nat->Prop} {P:Program} {o:Oper} {a:Act} {m:M} {slot:Nat} {ρ:X->D} {d:D} {us:List (Nat×Obj)}
theorem Aj {t:TypeId} {b:Bool} (h:IY P t=some b) (w:World):(isAgg t).run P w=.ok b w:=by
 unfold IY at h;cases hu:P.underlying t with
 |none=>rw [hu] at h;cases h
 |some td=>rw [hu] at h;cases td<;>simp at h<;>subst h<;>simp [isAgg,run_underlying hu]
theorem run_sizeOf {t:TypeId} {i:TypeInfo} (h:P.info? t=some i) (w:World):(sizeOf t).run P w=.ok i.size w:=by simp [sizeOf,typeInfo,h]
theorem zo {t:TypeId} (h:IY P t=some false) {w:World} {ad:Addr} {v:Value} (hc:w.cell? ad=some v):(loadVar t ad).run P w=.ok v w:=by simp [loadVar,Aj h,hc]
theorem zh {t:TypeId} {i:TypeInfo} (h:IY P t=some true) (hi:P.info? t=some i) {w:World} {ad:Addr} {vs:List Value} (hl:vs.length=i.size) (hc:∀j v,vs[j]?=some v->w.cell? (ad.add j)=some v):
  (loadVar t ad).run P w=.ok (.agg vs.toArray) w:=by
 have:=run_loadCells_list (P:=P) w ad vs hc
 rw [hl] at this;simp [loadVar,Aj h,run_sizeOf hi,this]
theorem VT (hk:gq B S m) {t:TypeId} {i:TypeInfo} {agg:Bool} (h1:IY P t=some agg) (h2:P.info? t=some i) {x d:D} {u:Value} (hr:eX B S m x u) (hl:kG m.h agg i.size x=some d):
  ∃ad v,u=.pointer (some ad)/\(loadVar t ad).run P m.w=.ok v m.w/\nH B S m d v:=by
 cases x with
 |loc id off=>
  obtain ⟨_,rfl⟩:=hr;refine ⟨⟨m.β id,off,none⟩,?_⟩;simp only [kG] at hl;cases ho:aH m.h id with
  |dead=>rw [ho] at hl;cases hl
  |box ds=>
   rw [ho] at hl;obtain ⟨_,vs,e,hv1,hv2⟩:=hk.box ho;cases agg with
   |true=>
    simp only [Ek] at hl;split at hl
    case isFalse=>cases hl
    rename_i hle;simp only [A0] at hl;subst hl;have hall:=(hv2.drop off).take i.size;have hlen:((vs.drop off).take i.size).length=i.size:=by rw [<-hall.len,Fo,G0];omega
    refine ⟨.agg ((vs.drop off).take i.size).toArray,rfl,zh h1 h2 hlen fun j v hv=>?_,_,rfl,hall⟩
    have hj:j < i.size:=by have:=(B0.1 hv).1;simp at this;omega
    rw [Fl hj,N3] at hv;rw [Ab,kW hv1];exact hv
   |false=>
    simp only [Cd,C2] at hl;obtain ⟨v,hv3,hv4⟩:=hv2.get off hl;exact ⟨v,rfl,zo h1 (by rw [kW hv1];exact hv3),hv4.toA⟩
  |map es=>rw [ho] at hl;cases hl
  |arr cs ay fz ety=>
   rw [ho] at hl;obtain ⟨_,vs,hv1,hvl,hv2⟩:=hk.arr ho;cases agg with
   |true=>
    simp only [Ek] at hl;split at hl
    case isFalse=>cases hl
    rename_i hle;simp only [A0] at hl;subst hl;have hall:=(hv2.drop off).take i.size;have hlen:(((vs.take cs.length).drop off).take i.size).length=i.size:=by rw [<-hall.len,Fo,G0];omega
    refine ⟨.agg (((vs.take cs.length).drop off).take i.size).toArray,rfl,zh h1 h2 hlen fun j v hv=>?_,_,rfl,aF.nA hall⟩
    have hj:j < i.size:=by have:=(B0.1 hv).1;simp at this;omega
    rw [Fl hj,N3,Fl (by omega)] at hv
    rw [Ab,kW hv1];exact hv
   |false=>
    simp only [Cd,C2,Fc] at hl;obtain ⟨c,hc,rfl⟩:=hl;obtain ⟨v,hv3,hv4⟩:=hv2.get off hc;have hoff:off < cs.length:=(B0.1 hc).1;rw [Fl hoff] at hv3;exact ⟨v,rfl,zo h1 (by rw [kW hv1];exact hv3),hv4⟩
 |ptr cs=>
  obtain ⟨ad,rfl,hsp,hr⟩:=hr;refine ⟨ad,?_⟩;simp only [kG] at hl;obtain ⟨vs,hv1,hv2⟩:=Gn hr;obtain ⟨b,of,sp⟩:=ad;cases agg with
  |true=>
   simp only [Ek] at hl;split at hl
   case isFalse=>cases hl
   rename_i hle;simp only [A0] at hl;subst hl;have hall:=hv1.take i.size;have hlen:(vs.take i.size).length=i.size:=by rw [<-hall.len,Fo];omega
   refine ⟨.agg (vs.take i.size).toArray,rfl,zh h1 h2 hlen fun j v hv=>?_,_,rfl,aF.nA hall⟩
   have hj:j < i.size:=by have:=(B0.1 hv).1;simp at this;omega
   rw [Fl hj] at hv;have hne:cs≠[]:=by
    intro e;subst e;cases vs with
    |nil=>simp at hv
    |cons _ _=>exact hv1.elim
   have:=hsp hne
   simp only at this;subst this;rw [Ab];exact (hv2 j v hv).1
  |false=>
   simp only [Cd,C2,Fc] at hl;obtain ⟨c,hc,rfl⟩:=hl;obtain ⟨v,hv3,hv4⟩:=hv1.get 0 hc;have hne:cs≠[]:=by intro e;subst e;simp at hc
   have:=hsp hne
   simp only at this;subst this;exact ⟨v,rfl,zo h1 (by have:=(hv2 0 v hv3).1;simpa using this),hv4⟩
 |full cs n=>simp [kG] at hl
 |fD f caps=>simp [kG] at hl
 |mp id=>simp [kG] at hl
 |uf=>simp [kG] at hl
 |c x=>simp [kG] at hl
 |arr id off len=>simp [kG] at hl
 |agg ds=>simp [kG] at hl
 |lC ds=>simp [kG] at hl
theorem aco (hk:gq B S m) (ho:FY B S m ρ a) {t:TypeId} {x:Operand} {X':X} {i:TypeInfo} {agg:Bool} (hop:o.op=.load t x) (h1:IY P t=some agg) (h2:P.info? t=some i) (hx:bY x=some X')
  (hs:step ρ m.h slot (.load agg i.size X')=some (d,us)):Does B S P o a m slot d us:=by
 simp only [step] at hs;obtain ⟨h3,rfl⟩:=dR hs;obtain ⟨ad,v,e1,e2,e3⟩:=VT hk h1 h2 (ho x X' hx) h3;refine cu hk slot (v:=v) ?_ e3.nE;simp [execOp,hop,Instr.loadAt,e1,Instr.sureAddr,e2]
theorem Cn {t:TypeId} {fs:List Field} (h:fieldsOf P t=some fs):P.underlying t=some (.struct fs.toArray):=by
 unfold fieldsOf at h;split at h
 ·rename_i f hf;simp at h;subst h;simpa using hf
 ·cases h
theorem aci (hk:gq B S m) (ho:FY B S m ρ a) {t:TypeId} {x:Operand} {X':X} {f:Nat} {fs:List Field} {fl:Field} {i:TypeInfo} (hop:o.op=.fieldAddr t x f) (h1:fieldsOf P t=some fs) (h2:fs[f]?=some fl) (h3:P.info? fl.type=some i) (h4:0 < i.size)
  (hx:bY x=some X') (hs:step ρ m.h slot (.Qa fl.offset X')=some (d,us)):Does B S P o a m slot d us:=by
 have hu:=Cn h1;have e1:=ho x X' hx;have hsz:¬i.size=0:=by omega
 have run:∀ad:Addr,a.eval x=.pointer (some ad)->(execOp a.eval o).run P m.w=.ok (.value (.pointer (some (ad.add fl.offset)))) m.w:=by intro ad he;simp [execOp,hop,Instr.fieldAt,run_underlying hu,h2,he,Instr.sureAddr,fieldPlace,run_sizeOf h3,hsz]
 simp only [step] at hs;split at hs
 ·rename_i id off he;simp only [A0,A3] at hs;obtain ⟨rfl,rfl⟩:=hs;rw [he] at e1;obtain ⟨hU,e2⟩:=e1;refine cu hk slot (run _ e2) ⟨hU,?_⟩;rw [Ab]
 ·rename_i cs he;simp only [A0,A3] at hs;obtain ⟨rfl,rfl⟩:=hs;rw [he] at e1;obtain ⟨ad,e2,e3,e4⟩:=e1;refine cu hk slot (run _ e2) ⟨ad.add fl.offset,rfl,?_,?_⟩
  ·intro hne;unfold Addr.add;split
   ·exact e3 fun e=>hne (by rw [e];simp)
   ·rfl
  ·have:=Bb fl.offset e4
   unfold Addr.add;split
   ·rename_i h0;rw [h0] at this |-;simpa using this
   ·exact this
 ·cases hs
theorem Zj (hk:gq B S m) (ho:FY B S m ρ a) {x:Operand} {X':X} (hop:o.op=.nilCheck x) (hx:bY x=some X') (hs:step ρ m.h slot (.GY X')=some (d,us)):Does B S P o a m slot d us:=by
 have e1:=ho x X' hx;have run:∀ad:Addr,a.eval x=.pointer (some ad)->(execOp a.eval o).run P m.w=.ok (.value (a.eval x)) m.w:=by intro ad he;simp [execOp,hop,he]
 simp only [step] at hs;split at hs
 ·rename_i id off he;simp only [A0,A3] at hs;obtain ⟨rfl,rfl⟩:=hs;rw [he] at e1;obtain ⟨hU,e2⟩:=e1;exact cu hk slot (run _ e2) ⟨hU,e2⟩
 ·rename_i cs he;simp only [A0,A3] at hs;obtain ⟨rfl,rfl⟩:=hs;rw [he] at e1;obtain ⟨ad,e2,e3,e4⟩:=e1;exact cu hk slot (run _ e2) ⟨ad,e2,e3,e4⟩
 ·cases hs
theorem aeF (hk:gq B S m) (ho:FY B S m ρ a) {t:TypeId} {x:Operand} {X':X} {f:Nat} {fs:List Field} {fl:Field} {i:TypeInfo} {agg:Bool} (hop:o.op=.field t x f) (h1:fieldsOf P t=some fs) (h2:fs[f]?=some fl) (h3:P.info? fl.type=some i)
  (h4:IY P fl.type=some agg) (hx:bY x=some X') (hs:step ρ m.h slot (.fld fl.offset agg i.size X')=some (d,us)):Does B S P o a m slot d us:=by
 have hu:=Cn h1;have e1:=ho x X' hx;simp only [step] at hs;split at hs
 ·rename_i ds he;rw [he] at e1;obtain ⟨vs,e2,e3⟩:=e1;cases agg with
  |true=>
   simp only [Ek] at hs;split at hs
   case isFalse=>cases hs
   simp only [A0,A3] at hs;obtain ⟨rfl,rfl⟩:=hs;refine cu hk slot (v:=.agg ((vs.drop fl.offset).take i.size).toArray) ?_ ⟨_,rfl,(e3.drop _).take _⟩;simp [execOp,hop,Instr.field,run_underlying hu,h2,e2,asAgg,part,Aj h4,run_sizeOf h3]
  |false=>
   simp only [Cd,C2] at hs;obtain ⟨h5,rfl⟩:=dR hs;obtain ⟨v,h6,h7⟩:=e3.get _ h5;refine cu hk slot (v:=v) ?_ h7.nE;simp [execOp,hop,Instr.field,run_underlying hu,h2,e2,asAgg,part,Aj h4,h6]
 ·cases hs
theorem kQ {t e:TypeId} (h:gN P t=some e):P.underlying t=some (.slice e):=by
 unfold gN at h;split at h
 ·rename_i f hf;simp at h;subst h;exact hf
 ·cases h
theorem acB (hk:gq B S m) (ho:FY B S m ρ a) {t e:TypeId} {x y:Operand} {X' Y':X} {i:TypeInfo} (hop:o.op=.indexAddr t x y) (h1:gN P t=some e) (h2:P.info? e=some i) (hx:bY x=some X') (hy:bY y=some Y')
  (hs:step ρ m.h slot (.Iq i.size X' Y')=some (d,us)):Does B S P o a m slot d us:=by
 have hu:=kQ h1;have e1:=ho x X' hx;have e2:=ho y Y' hy;simp only [step] at hs;obtain ⟨h3,rfl⟩:=dR hs;have run:∀(ad:Addr) (len cap:Nat) (k:IntKind) (n:Int),a.eval x=.slice (some ad) len cap->a.eval y=.int k n->0<=n->n < len->
   (execOp a.eval o).run P m.w=.ok (.value (.pointer (some (ad.add (n.toNat * i.size))))) m.w:=by
  intro ad len cap k n he1 he2 h0 hn;simp [execOp,hop,Instr.indexAt,he1,he2,asIntOf,run_underlying hu,h0,hn,run_sizeOf h2]
 have into:∀(ad:Addr) (len cap:Nat) (k:IntKind) (n:Int) (cs:List C),a.eval x=.slice (some ad) len cap->a.eval y=.int k n->0<=n->n < len->(cs≠[]->ad.spot=none)->fK m.w (Safe B S m) cs ad.block ad.off->
   Does B S P o a m slot (.ptr (cs.drop (n.toNat * i.size))) []:=by
  intro ad len cap k n cs e3 e4 h0 hn e5 e6;refine cu hk slot (run ad len cap k n e3 e4 h0 hn) ⟨ad.add (n.toNat * i.size),rfl,?_,?_⟩
  ·intro hne;unfold Addr.add;split
   ·exact e5 fun e=>hne (by rw [e];simp)
   ·rfl
  ·have:=Bb (n.toNat * i.size) e6
   unfold Addr.add;split
   ·rename_i h0;rw [h0] at this |-;simpa using this
   ·exact this
 unfold Ej at h3;split at h3
 ·rename_i id off len he;cases zg:aH m.h id with
  |dead=>rw [zg] at h3;cases h3
  |box ds=>rw [zg] at h3;cases h3
  |map ds=>rw [zg] at h3;cases h3
  |arr cs ay fz ety=>
   rw [zg] at h3;simp only [A2,A1] at h3;obtain ⟨n,h4,h5⟩:=h3;split at h5
   case isFalse=>cases h5
   rename_i hn;simp only [A0] at h5;subst h5;obtain ⟨k,h6⟩:=jO h4;rw [h6] at e2;rw [he] at e1;obtain ⟨hU,ad,cap,e3,e4,e5⟩:=e1;rw [zg] at e5;rcases e5 with ⟨rfl,_⟩|⟨hz,_⟩
   ·refine cu hk slot (run _ len cap k n e3 e2.lit hn.1 hn.2) ⟨hU,?_⟩;rw [Ab]
   ·have:=hn.1;have:=hn.2;omega
 ·rename_i cs q he;simp only [A2,A1] at h3;obtain ⟨n,h4,h5⟩:=h3;split at h5
  case isFalse=>cases h5
  rename_i hn;simp only [A0] at h5;subst h5;obtain ⟨k,h6⟩:=jO h4;rw [h6] at e2;rw [he] at e1;have MJ:cK m.w (Safe B S m) (.slice cs q) (a.eval x):=e1;simp only [cK] at MJ;rcases MJ with ⟨_,rfl,_⟩|⟨ad,cap,e3,e4,e5,e6⟩
  ·have:=hn.1;have:=hn.2;omega
  ·exact into ad q cap k n cs e3 e2.lit hn.1 hn.2 e5 e6
 ·rename_i cs q he;simp only [A2,A1] at h3;obtain ⟨n,h4,h5⟩:=h3;split at h5
  case isFalse=>cases h5
  rename_i hn;simp only [A0] at h5;subst h5;obtain ⟨k,h6⟩:=jO h4;rw [h6] at e2;rw [he] at e1;rcases e1 with ⟨_,rfl,_⟩|⟨ad,e3,e5,e6⟩
  ·have:=hn.1;have:=hn.2;omega
  ·exact into ad q q k n cs e3 e2.lit hn.1 hn.2 e5 e6
 ·cases h3
theorem abH (hk:gq B S m) (ho:FY B S m ρ a) {t:TypeId} {x y:Operand} {X' Y':X} (hop:o.op=.index t x y) (h1:P.underlying t=some .string) (hx:bY x=some X') (hy:bY y=some Y')
  (hs:step ρ m.h slot (.Ct X' Y')=some (d,us)):Does B S P o a m slot d us:=by
 have e1:=ho x X' hx;have e2:=ho y Y' hy;simp only [step] at hs;obtain ⟨h3,rfl⟩:=dR hs;split at h3
 ·rename_i s he;simp only [A2,A1] at h3;obtain ⟨n,h4,h5⟩:=h3;split at h5
  case isFalse=>cases h5
  rename_i hn;simp only [Fc] at h5;obtain ⟨b,h6,rfl⟩:=h5;obtain ⟨k,h7⟩:=jO h4;rw [h7] at e2;rw [he] at e1;refine cu hk slot (v:=.int .u8 b.toNat) ?_ (eX.mkLit rfl);have h8:s[n.toNat]?=some b:=by have hlt:n.toNat < s.data.size:=(C3.1 h6).1;have hv:=(C3.1 h6).2;have hlt':n.toNat < s.size:=hlt;rw [getElem?_pos s n.toNat hlt'];exact F0 some hv
  simp [execOp,hop,Instr.index,e1.lit,e2.lit,asIntOf,run_underlying h1,hn,h8]
 ·cases h3
end
end Go.Ey
namespace Go.Ey
open Go.RowKit
section
variable {B:Nat} {S:Nat->Nat->Prop} {P:Program} {o:Oper} {a:Act} {m:M} {slot:Nat} {ρ:X->D} {d:D} {us:List (Nat×Obj)}
def oO (x:Option Value) (dflt n:Nat):Prop:=
 match x with
 |none=>n=dflt
 |some v=>∃k i,v=.int k i/\0<=i/\i.toNat=n
theorem J2 {x:Option Operand} {X':Option X} (ho:FY B S m ρ a) (hx:qZ x=some X') {l:Nat} (h:P7 (X'.map ρ)=some l):oO (x.map a.eval) 0 l:=by
 cases x with
 |none=>simp [qZ] at hx;subst hx;simp [P7] at h;simp [oO,h]
 |some y=>
  simp only [qZ,A2,A1,A0] at hx;obtain ⟨Y,hy,rfl⟩:=hx;simp only [G3,P7,A2,A1] at h;obtain ⟨n,h1,h2⟩:=h;split at h2
  case isFalse=>cases h2
  rename_i h0;simp only [A0] at h2;obtain ⟨k,h3⟩:=jO h1;have e:=ho y Y hy;rw [h3] at e;exact ⟨k,n,e.lit,h0,h2⟩
theorem MR {x:Option Operand} {X':Option X} (ho:FY B S m ρ a) (hx:qZ x=some X') {len l:Nat} (h:Ju len (X'.map ρ)=some l):oO (x.map a.eval) len l:=by
 cases x with
 |none=>simp [qZ] at hx;subst hx;simp [Ju] at h;simp [oO,h]
 |some y=>
  simp only [qZ,A2,A1,A0] at hx;obtain ⟨Y,hy,rfl⟩:=hx;simp only [G3,Ju,A2,A1] at h;obtain ⟨n,h1,h2⟩:=h;split at h2
  case isFalse=>cases h2
  rename_i h0;simp only [A0] at h2;obtain ⟨k,h3⟩:=jO h1;have e:=ho y Y hy;rw [h3] at e;exact ⟨k,n,e.lit,h0,h2⟩
theorem Oc {w:World} {isSlice:Bool} {len cap l r:Nat} {lo hi:Option Value} (h1:oO lo 0 l) (h2:oO hi len r) (hl:l<=r) (hr:r<=cap):
  (Instr.sliceBounds isSlice len cap lo hi none).run P w=.ok (l,r,cap) w:=by
 have low:∀code,(match lo with|some v=>Instr.sliceBound v r code|none=>pure 0:Sem Nat).run P w=.ok l w:=by
  intro code;cases lo with
  |none=>simp only [oO] at h1;subst h1;rfl
  |some v=>
   obtain ⟨k,i,rfl,h3,h4⟩:=h1;have:=run_sliceBound (P:=P) w k i r code h3 (by omega)
   simp only [this,h4]
 cases hi with
 |none=>
  simp only [oO] at h2;subst h2;have:=low .sliceB
  cases lo with
  |none=>simp [Instr.sliceBounds] at this |-;exact this
  |some v=>simp [Instr.sliceBounds] at this |-;simp [this]
 |some v=>
  obtain ⟨k,i,rfl,h3,h4⟩:=h2;have e:∀code,(Instr.sliceBound (.int k i) cap code).run P w=.ok r w:=fun code=>by rw [run_sliceBound (P:=P) w k i cap code h3 (by omega),h4]
  have:=low .sliceB
  cases lo with
  |none=>simp [Instr.sliceBounds,e] at this |-;exact this
  |some v=>simp [Instr.sliceBounds,e] at this |-;simp [this]
theorem afq (hk:gq B S m) (ho:FY B S m ρ a) {t e:TypeId} {x:Operand} {lo hi:Option Operand} {X':X} {Lo Hi:Option X} {i:TypeInfo} (hop:o.op=.slice t x lo hi none) (h1:P.underlying t=some (.slice e)) (h2:P.info? e=some i)
  (hx:bY x=some X') (hlo:qZ lo=some Lo) (hhi:qZ hi=some Hi) (hs:step ρ m.h slot (.slc i.size X' Lo Hi)=some (d,us)):Does B S P o a m slot d us:=by
 have e1:=ho x X' hx;simp only [step] at hs;obtain ⟨h3,rfl⟩:=dR hs;have run:∀(ad:Option Addr) (len cap l r:Nat),a.eval x=.slice ad len cap->oO (lo.map a.eval) 0 l->oO (hi.map a.eval) len r->l<=r->r<=cap->
   (execOp a.eval o).run P m.w=.ok (.value (.slice (if cap=l then ad else ad.map (·.add (l * i.size))) (r - l) (cap - l))) m.w:=by
  intro ad len cap l r he hb1 hb2 hl hr;have hb:=Oc (P:=P) (w:=m.w) (isSlice:=true) hb1 hb2 hl hr;simp [execOp,hop,Instr.sliceAt,Instr.slice,run_underlying h1,he,hb,run_sizeOf h2]
 have imm:∀(cs:List C) (n:Nat) (xs:List C) (k:Nat),MB i.size cs n (Lo.map ρ) (Hi.map ρ)=some (xs,k)->
   ((a.eval x=.slice none 0 0/\n=0/\cs=[])\/∃ad cap,a.eval x=.slice (some ad) n cap/\n<=cap/\(cs≠[]->ad.spot=none)/\fK m.w (Safe B S m) cs ad.block ad.off)->Does B S P o a m slot (.c (.slice xs k)) []:=by
  intro cs n xs k hcut MJ;simp only [MB,A2,A1] at hcut;obtain ⟨l,h4,r,h5,h6⟩:=hcut;split at h6
  case isFalse=>cases h6
  rename_i hb;obtain ⟨hlr,hrn⟩:=hb;simp only [A0,A3] at h6;obtain ⟨rfl,rfl⟩:=h6;rcases MJ with ⟨e2,rfl,rfl⟩|⟨ad,cap,e2,e3,e4,e5⟩
  ·have hl0:l=0:=by omega
   have hr0:r=0:=by omega
   subst hl0 hr0;have:=run none 0 0 0 0 e2 (J2 ho hlo h4) (MR ho hhi h5) (B9 _) (B9 _)
   refine cu hk slot this ?_;show cK m.w (Safe B S m) (.slice _ _) _
   simp [cK]
  have:=run (some ad) n cap l r e2 (J2 ho hlo h4) (MR ho hhi h5) hlr (by omega)
  refine cu hk slot this ?_;show cK m.w (Safe B S m) (.slice _ _) _
  simp only [cK];right;by_cases hc:cap=l
  ·rw [C4 hc];have hz:r - l=0:=by omega
   refine ⟨ad,cap - l,rfl,by omega,?_,?_⟩
   ·rw [hz];simp
   ·rw [hz];simp [fK]
  ·rw [Dd hc];refine ⟨ad.add (l * i.size),cap - l,rfl,by omega,?_,?_⟩
   ·intro hne;unfold Addr.add;split
    ·exact e4 fun e=>hne (by rw [e];simp)
    ·rfl
   ·have:=Iu ((r - l) * i.size) (Bb (l * i.size) e5)
    unfold Addr.add;split
    ·rename_i h0;rw [h0] at this |-;simpa using this
    ·exact this
 unfold ME at h3;split at h3
 ·rename_i cs n he;simp only [A2,A1,C0,A0] at h3;obtain ⟨xs,k,h4,rfl⟩:=h3;rw [he] at e1;have MJ:cK m.w (Safe B S m) (.slice cs n) (a.eval x):=e1;simp only [cK] at MJ;exact imm cs n xs k h4 MJ
 ·rename_i cs n he;simp only [A2,A1,C0,A0] at h3;obtain ⟨xs,k,h4,rfl⟩:=h3;rw [he] at e1;refine imm cs n xs k h4 ?_;rcases e1 with e1|⟨ad,e2,e3,e4⟩
  ·exact .inl e1
  ·exact .inr ⟨ad,n,e2,B9 _,e3,e4⟩
 ·rename_i id off len he;cases zg:aH m.h id with
  |dead=>rw [zg] at h3;cases h3
  |box ds=>rw [zg] at h3;cases h3
  |map ds=>rw [zg] at h3;cases h3
  |arr cs ay fz ety=>
   rw [zg] at h3;simp only [A2,A1] at h3;obtain ⟨l,h4,r,h5,h6⟩:=h3;split at h6
   case isFalse=>cases h6
   rename_i hb;obtain ⟨rfl,hlr,hrn⟩:=hb;simp only [A0] at h6;subst h6;rw [he] at e1;obtain ⟨hU,ad,cap,e2,e3,e4⟩:=e1;have:=run (some ad) len cap l r e2 (J2 ho hlo h4) (MR ho hhi h5) hlr (by omega)
   refine cu hk slot this ⟨hU,?_⟩;by_cases hc:cap=l
   ·rw [C4 hc];refine ⟨ad,cap - l,rfl,by omega,?_⟩
    rw [zg];exact .inr ⟨by omega,by omega⟩
   ·rw [Dd hc];refine ⟨ad.add (l * i.size),cap - l,rfl,by omega,?_⟩
    rw [zg] at e4 |-;rcases e4 with ⟨rfl,sz,e5,e6,e7⟩|⟨h7,h8⟩
    ·refine .inl ⟨by rw [Ab],sz,e5,?_,by omega⟩
     rw [<-e6,Nat.sub_mul,Nat.add_assoc];have:l * i.size<=cap * i.size:=Cl _ (by omega)
     omega
    ·omega
 ·cases h3
theorem aet (hk:gq B S m) (ho:FY B S m ρ a) {t:TypeId} {x:Operand} {lo hi:Option Operand} {X':X} {Lo Hi:Option X} (hop:o.op=.slice t x lo hi none) (h1:P.underlying t=some .string)
  (hx:bY x=some X') (hlo:qZ lo=some Lo) (hhi:qZ hi=some Hi) (hs:step ρ m.h slot (.sls X' Lo Hi)=some (d,us)):Does B S P o a m slot d us:=by
 have e1:=ho x X' hx;simp only [step] at hs;obtain ⟨h3,rfl⟩:=dR hs;unfold amo at h3;split at h3
 ·rename_i s he;simp only [A2,A1] at h3;obtain ⟨l,h4,r,h5,h6⟩:=h3;split at h6
  case isFalse=>cases h6
  rename_i hb;simp only [A0] at h6;subst h6;rw [he] at e1;have hb:=Oc (P:=P) (w:=m.w) (isSlice:=false) (J2 ho hlo h4) (MR ho hhi h5) hb.1 hb.2;refine cu hk slot (v:=.string (s.extract l r)) ?_ (eX.mkLit rfl);simp [execOp,hop,Instr.sliceAt,Instr.slice,run_underlying h1,e1.lit,hb]
 ·cases h3
theorem NN {w:World} {Sf:Nat->Nat->Prop}:∀{cs:List C} {vs:List Value} {bs:List UInt8},bytesOf cs=some bs->aF (cK w Sf) cs vs->
  ∃ns:List Int,vs=ns.map (Value.int .u8)/\bs=ns.map fun n=>UInt8.ofNat n.toNat
 |[],[],bs,h,_=>by simp [bytesOf] at h;subst h;exact ⟨[],rfl,rfl⟩
 |c::cs,v::vs,bs,h,hr=>by
  unfold bytesOf at h;split at h
  ·rename_i heq;cases heq
  ·rename_i n r heq;simp only [E6] at heq;obtain ⟨rfl,rfl⟩:=heq;simp only [A2,A1,A0] at h;obtain ⟨bs',h1,rfl⟩:=h;obtain ⟨ns,rfl,rfl⟩:=NN h1 hr.2;have h2:=hr.1;simp only [cK] at h2;exact ⟨n::ns,by rw [h2.1];rfl,rfl⟩
  ·cases h
 |[],_::_,_,_,h=>h.elim
 |_::_,[],_,_,h=>h.elim
theorem foldl_push (ns:List Int):∀s:ByteArray,ns.foldl (fun r n=>r.push (UInt8.ofNat n.toNat)) s=⟨s.data++(ns.map fun n=>UInt8.ofNat n.toNat).toArray⟩:=by
 induction ns with
 |nil=>intro s;cases s;simp
 |cons n ns ih=>
  intro s;simp only [Hh,ih,Cp];cases s;simp [ByteArray.push]
theorem YR (hk:gq B S m) (ho:FY B S m ρ a) {src dst e:TypeId} {x:Operand} {X':X} (hop:o.op=.convert src dst x) (h1:P.underlying src=some (.slice e)) (h2:P.underlying dst=some .string) (h3:P.underlying e=some (.int .u8))
  (hx:bY x=some X') (hs:step ρ m.h slot (.toStr X')=some (d,us)):Does B S P o a m slot d us:=by
 have e1:=ho x X' hx;simp only [step] at hs;obtain ⟨h4,rfl⟩:=dR hs;simp only [A2,A1,C0] at h4;obtain ⟨cs,n,h50,bs,h6,h7⟩:=h4;have h5:jU m.h 1 (ρ X')=some (cs,n):=by
  unfold Ug at h50;split at h50
  ·cases h50
  ·exact h50
 have as5:∀s,ρ X'≠.c (.lit (.string s)):=by intro s he;rw [he] at h50;cases h50
 split at h7
 case isFalse=>cases h7
 rename_i hl;simp only [A0] at h7;subst h7;obtain ⟨news,hn1,hn2⟩:=IJ (P:=P) hk e1 h5 (by rw [hl,Nat.mul_one])
 obtain ⟨ns,rfl,rfl⟩:=NN h6 hn1;refine cu hk slot (v:=.string ⟨(ns.map fun n=>UInt8.ofNat n.toNat).toArray⟩) ?_ (eX.mkLit rfl)
 have hf:=hn2.all (w':=m.w) rfl;have hlen:=hn2.len;cases hv:a.eval x with
 |slice ad l c=>
  rw [hv] at hf hlen;simp only [Builtin.lenOf] at hlen;have hl2:l=n:=by injection hlen
  subst hl2;have hc:=run_convert_bytes_string (P:=P) m.w src dst e ad l c h1 h3 h2;cases ad with
  |none=>
   simp only [Builtin.firstCells] at hf;have:ns=[]:=by have h9:(Result.ok #[] m.w:Result (Array Value))=_:=hf;simp at h9;exact h9
   subst this;simp [execOp,hop,hv,hc,Conv.bytesToString];rfl
  |some ad=>
   simp only [Builtin.firstCells,Nat.mul_one] at hf;have hb:=run_bytesToString (P:=P) m.w ad l c ns hf;rw [foldl_push] at hb;simp [execOp,hop,hv,hc,hb]
 |string s=>
  exfalso;rw [hv] at e1;unfold jU at h5;split at h5
  ·rename_i cs' n' he;rw [he] at e1;rcases e1 with ⟨h,_⟩|⟨_,h,_⟩<;>cases h
  ·rename_i cs' n' he;rw [he] at e1;have MJ:cK m.w (Safe B S m) (.slice cs' n') (.string s):=e1;simp only [cK] at MJ;rcases MJ with ⟨h,_⟩|⟨_,_,h,_⟩<;>cases h
  ·rename_i s' he;exact as5 s' he
  ·rename_i id off len he;rw [he] at e1;obtain ⟨_,_,_,h,_⟩:=e1;cases h
  ·cases h5
 |bool _=>rw [hv] at hlen;simp [Builtin.lenOf] at hlen;cases hlen
 |_=>rw [hv] at hlen;cases hlen
end
end Go.Ey
namespace Go.Ey
open Go.RowKit
section
variable {B:Nat} {S:Nat->Nat->Prop} {P:Program} {o:Oper} {a:Act} {m:M} {slot:Nat} {ρ:X->D} {d:D} {us:List (Nat×Obj)}
theorem gu.oneCell {m:M} {d:D} {u:Value} (h:gu B S m d u) (hc:HZ d=true):u.oneCell'=true:=by
 cases d with
 |c x=>exact cK.oneCell h
 |loc id off=>obtain ⟨_,rfl⟩:=h;rfl
 |arr id off len=>obtain ⟨_,ad,cap,rfl,_⟩:=h;rfl
 |ptr cs=>obtain ⟨ad,rfl,_⟩:=h;rfl
 |full cs n=>rcases h with ⟨rfl,_⟩|⟨ad,rfl,_⟩<;>rfl
 |fD f caps=>obtain ⟨rfl,_⟩:=h;rfl
 |mp id=>obtain ⟨_,rfl⟩:=h;rfl
 |_=>cases hc
theorem Da {u:Value} (h:u.oneCell'=true):u.cells=#[u]:=by cases u<;>first|rfl|cases h
theorem Mf:∀{ds:List D} {us:List Value},aF (gu B S m) ds us->ds.all HZ=true->∀v∈us,v.oneCell'=true
 |[],[],_,_,v,hv=>by simp at hv
 |d::ds,u::us,h,hc,v,hv=>by
  simp only [Iv,As] at hc;simp only [D1] at hv;rcases hv with rfl|hv
  ·exact h.1.oneCell hc.1
  ·exact Mf h.2 hc.2 v hv
 |[],_::_,h,_,_,_=>h.elim
 |_::_,[],h,_,_,_=>h.elim
theorem KE {d:D} {u:Value} (h:eX B S m d u) {ds:List D} (hc:cellsD d=some ds):aF (gu B S m) ds u.cells.toList/\∀v∈u.cells.toList,v.oneCell'=true:=by
 unfold cellsD at hc;split at hc
 ·rename_i ds';split at hc
  case isFalse=>cases hc
  rename_i hall;simp only [A0] at hc;subst hc;obtain ⟨us,rfl,h2⟩:=h;exact ⟨h2,Mf h2 hall⟩
 ·split at hc
  case isFalse=>cases hc
  rename_i hcell;simp only [A0] at hc;subst hc;have h':gu B S m d u:=by cases d<;>first|exact h|cases hcell
  have h1:=h'.oneCell hcell;rw [Da h1];refine ⟨⟨h',trivial⟩,fun v hv=>?_⟩
  simp at hv;subst hv;exact h1
theorem gQ.cells_ok {w:World} {Sf:Nat->Nat->Prop} {v:V} {u:Value} (h:gQ w Sf v u):aF (cK w Sf) v.cells u.cells.toList/\∀x∈u.cells.toList,x.oneCell'=true:=by
 cases v with
 |one c=>
  have h1:cK w Sf c u:=h;rw [Da h1.oneCell];refine ⟨⟨h1,trivial⟩,fun v hv=>?_⟩
  simp at hv;subst hv;exact h1.oneCell
 |agg cs=>
  obtain ⟨us,rfl,h1⟩:=h;exact ⟨h1,aF.mem_right (fun _ _ h2=>h2.oneCell) h1⟩
 |full cs n=>
  have h1:=h.full;rw [Da h1.oneCell];refine ⟨⟨h1,trivial⟩,fun v hv=>?_⟩
  simp at hv;subst hv;exact h1.oneCell
theorem YO {w w':World} {ob:Go.Obj} (hw:w'=w.alloc ob\/w'=w.drew.alloc ob) (hB:B<=w.heap.size):Below B w w':=by
 rcases hw with rfl|rfl
 ·exact (Below.refl B w).alloc hB ob
 ·exact ((Below.refl B w).drew).alloc hB ob
theorem Rf {w w':World} {ob:Go.Obj} (hw:w'=w.alloc ob\/w'=w.drew.alloc ob):w'.heap=w.heap.push ob:=by rcases hw with rfl|rfl<;>rfl
theorem NW (hk:gq B S m) {xy:List (Nat×Obj)} (hk1:gq B S (m.heap (aK m.h xy))) (hev:aS B S m (m.heap (aK m.h xy))) (hs:¬m.U slot) {w':World} {ob:Go.Obj} (hw:w'=m.w.alloc ob\/w'=m.w.drew.alloc ob) (o':Obj) {v:Value}
  (hrep:aS B S (m.heap (aK m.h xy)) ((m.heap (aK m.h xy)).put w' slot m.w.heap.size o')->GR B S ((m.heap (aK m.h xy)).put w' slot m.w.heap.size o') m.w.heap.size o')
  (hd:aS B S m ((m.heap (aK m.h xy)).put w' slot m.w.heap.size o')->eX B S ((m.heap (aK m.h xy)).put w' slot m.w.heap.size o') d v):Post B S m slot (xy++[(slot,o')]) d v w':=by
 have hw2:=Rf hw;have ev2:=GU hk1 (slot:=slot) hs (w':=w') (ob:=ob) hw2 o';have hk2:=acz hk1 (slot:=slot) hs (w':=w') (ob:=ob) hw2 o' (hrep ev2);refine ⟨nO m.β slot m.w.heap.size,?_,?_,?_,YO hw hk.base⟩
 all_goals rw [eY]
 ·exact hk2
 ·exact hev.trans ev2
 ·exact hd (hev.trans ev2)
theorem newest {w w':World} {ob:Go.Obj} (hw:w'=w.alloc ob\/w'=w.drew.alloc ob):w'.heap[w.heap.size]?=some ob:=by rw [Rf hw];simp
theorem LK (hk:gq B S m) (hs:¬m.U slot) {ds:List D} {vs:List Value} {e:TypeId} (hr:aF (gu B S m) ds vs)
  (hrun:(execOp a.eval o).run P m.w=.ok (.value (.pointer (some ⟨m.w.heap.size,0,none⟩))) (m.w.alloc (.cells vs.toArray e))):Does B S P o a m slot (.loc slot 0) [(slot,.box ds)]:=by
 refine ⟨_,_,_,hrun,.inl rfl,?_⟩;refine NW (xy:=[]) hk hk (aS.refl m) hs (.inl rfl) (.box ds) (fun ev=>⟨hk.base,vs,e,newest (.inl rfl),hr.mono fun _ _ h=>ev.yt h⟩) (fun _=>⟨.inr rfl,?_⟩)
 simp [M.put,nO]
theorem yh {t:TypeId} {z:List Value} (h:zeroOf P t=some z):∃i zv,P.info? t=some i/\i.zero=some zv/\zv.cells.toList=z/\(∀v∈z,(scalar v||AY v)=true)/\z.length=i.size:=by
 unfold zeroOf at h;simp only [A2,A1] at h;obtain ⟨i,h1,zv,h2,h3⟩:=h;split at h3
 case isFalse=>cases h3
 rename_i hc;simp only [A0] at h3;subst h3;exact ⟨i,zv,h1,h2,rfl,E0.1 hc.1,by simpa using hc.2⟩
theorem FH {v:Value} (h:AY v=true):v=.slice none 0 0:=by
 unfold AY at h;split at h
 ·rfl
 ·cases h
theorem afH {v:Value} (h:scalar v=true):GJ v=.lit v:=by
 unfold GJ;split
 ·cases h
 ·rfl
theorem agi {v:Value} (h:scalar v=true):PZ v=.c (.lit v):=by
 unfold PZ;split
 ·cases h
 ·rfl
theorem acN {w:World} {Sf:Nat->Nat->Prop} {v:Value} (h:(scalar v||AY v)=true):cK w Sf (GJ v) v:=by
 rcases Bool.or_eq_true_iff.1 h with h|h
 ·rw [afH h];simp only [cK];exact ⟨trivial,h⟩
 ·rw [FH h];simp [GJ,cK]
theorem ae0 {v:Value} (h:(scalar v||AY v)=true):gu B S m (PZ v) v:=by
 rcases Bool.or_eq_true_iff.1 h with h|h
 ·rw [agi h];show cK m.w (Safe B S m) (.lit v) v;simp only [cK];exact ⟨trivial,h⟩
 ·rw [FH h];exact .inl ⟨rfl,rfl,rfl⟩
theorem Qu {w:World} {Sf:Nat->Nat->Prop}:∀{z:List Value},(∀v∈z,(scalar v||AY v)=true)->aF (cK w Sf) (z.map GJ) z
 |[],_=>trivial
 |v::z,h=>⟨acN (h v (by simp)),Qu fun x hx=>h x (by simp [hx])⟩
theorem Ht:∀{z:List Value},(∀v∈z,(scalar v||AY v)=true)->aF (gu B S m) (z.map PZ) z
 |[],_=>trivial
 |v::z,h=>⟨ae0 (h v (by simp)),Ht fun x hx=>h x (by simp [hx])⟩
theorem aeQ (hk:gq B S m) (hs0:¬m.U slot) {t:TypeId} {z:List Value} (hop:o.op=.alloc t) (hz:zeroOf P t=some z) (hs:step ρ m.h slot (.alloc z)=some (d,us)):Does B S P o a m slot d us:=by obtain ⟨i,zv,h1,h2,h3,h4,_⟩:=yh hz;simp only [step,A0,A3] at hs;obtain ⟨rfl,rfl⟩:=hs;refine LK hk hs0 (Ht h4) (e:=t) ?_;simp [execOp,hop,Instr.alloc,zeroValue,typeInfo,h1,h2,newVar,newRow,<-h3]
theorem adw (hk:gq B S m) (ho:FY B S m ρ a) (hs0:¬m.U slot) {t:TypeId} {x:Operand} {X':X} (hop:o.op=.box t x) (hx:bY x=some X') (hs:step ρ m.h slot (.box X')=some (d,us)):Does B S P o a m slot d us:=by simp only [step,A2,A1,A0,A3] at hs;obtain ⟨ds,h1,rfl,rfl⟩:=hs;obtain ⟨h2,_⟩:=KE (ho x X' hx) h1;refine LK hk hs0 h2 (e:=t) ?_;simp [execOp,hop,Instr.box,newVar,newRow]
theorem yo (hk:gq B S m) (hs:¬m.U slot) {xy:List (Nat×Obj)} (hk1:gq B S (m.heap (aK m.h xy))) (hev:aS B S m (m.heap (aK m.h xy))) {cs:List C} {vs spare:List Value} {e ay n cap fz:Nat}
  (hr:aF (cK m.w (Safe B S (m.heap (aK m.h xy)))) cs vs) (hn:n<=cap) (hsz:(vs++spare).length=cap * ay) (hmax:cap<=maxLen) {w':World} (hw:w'=m.w.alloc (.cells (vs++spare).toArray e)\/w'=m.w.drew.alloc (.cells (vs++spare).toArray e))
  (hrun:(execOp a.eval o).run P m.w=.ok (.value (.slice (some ⟨m.w.heap.size,0,none⟩) n cap)) w'):Does B S P o a m slot (.arr slot 0 n) (xy++[(slot,.arr cs ay fz e)]):=by
 refine ⟨_,_,_,hrun,.inl rfl,?_⟩;refine NW hk hk1 hev hs hw (.arr cs ay fz e) (fun ev=>⟨hk.base,vs++spare,newest hw,?_,?_⟩) (fun _=>⟨.inr rfl,⟨m.w.heap.size,0,none⟩,cap,rfl,hn,?_⟩)
 ·rw [hr.len];simp
 ·rw [hr.len,List.take_left];exact hr.mono fun c u h=>cK.mono ev.cell c u h
 ·simp only [M.put,bJ,Ek,nO];refine .inl ⟨trivial,(vs++spare).length,?_,by omega,hmax⟩
  simp [World.shape?,newest hw]
theorem Pg {w:World} {Sf:Nat->Nat->Prop} {z:List Value} (h:∀v∈z,(scalar v||AY v)=true):∀n,aF (cK w Sf) (zeros z n) (List.replicate n z).flatten
 |0=>trivial
 |n+1=>by simp only [zeros,List.replicate_succ,List.flatten_cons];exact (Qu h).append (Pg h n)
theorem GV {z:Array Value} (n:Nat):((Array.range (n * z.size)).map (z[· % z.size]!)).toList=(List.replicate n z.toList).flatten:=by
 induction n with
 |zero=>simp
 |succ n ih=>
  have h1:(n+1) * z.size=n * z.size+z.size:=by rw [G2]
  rw [h1,List.replicate_succ',List.flatten_append];simp only [Array.toList_map,Array.toList_range] at ih |-;rw [List.range_add,K1,ih];congr 1;simp only [List.map_map,List.flatten_cons,List.flatten_nil,D0];apply List.ext_getElem?;intro j;simp only [List.getElem?_map];by_cases hj:j < z.size
  ·have:(List.range z.size)[j]?=some j:=by simp [hj]
   rw [this];have hm:(n * z.size+j) % z.size=j:=by rw [Nat.mul_comm,Nat.mul_add_mod,Nat.mod_eq_of_lt hj]
   simp [Function.comp,hm,hj]
  ·have:(List.range z.size)[j]?=none:=by simp;omega
   rw [this];simp;omega
theorem ahq (hk:gq B S m) (ho:FY B S m ρ a) (hs0:¬m.U slot) {t e:TypeId} {x y:Operand} {X' Y':X} {i:TypeInfo} {z:List Value} (hop:o.op=.makeSlice t x y) (h1:gN P t=some e) (h2:P.info? e=some i) (h3:zeroOf P e=some z)
  (hx:bY x=some X') (hy:bY y=some Y') (hs:step ρ m.h slot (.mk i.size e i.bytes z X' Y')=some (d,us)):Does B S P o a m slot d us:=by
 have hu:=kQ h1;obtain ⟨i',zv,g1,g2,g3,g4,g5⟩:=yh h3;rw [h2] at g1;simp only [A0] at g1;subst g1;simp only [step,A2,A1] at hs;obtain ⟨n,hn1,c,hc1,hs⟩:=hs;split at hs
 case isFalse=>cases hs
 rename_i hc;obtain ⟨c1,c2,c3,c4,c5⟩:=hc;simp only [A0,A3] at hs;obtain ⟨rfl,rfl⟩:=hs;obtain ⟨kn,hn2⟩:=jO hn1;obtain ⟨kc,hc2⟩:=jO hc1;have e1:=ho x X' hx;have e2:=ho y Y' hy;rw [hn2] at e1;rw [hc2] at e2;have hc63:c<=9223372036854775807:=by unfold aB at c4;omega
 have hby:(i.bytes:Int) * c<=281474976710656:=by
  have:((c.toNat * i.bytes:Nat):Int)<=140737488355328:=by unfold aB at c3;omega
  rw [Int.natCast_mul] at this;have hc0:(c.toNat:Int)=c:=by omega
  rw [hc0] at this;rw [Int.mul_comm];omega
 have hrun:=run_make (P:=P) m.w t e i zv hu h2 g2 kn kc n c c1 c2 hby hc63;have hcells:madeCells zv.cells (c.toNat * i.size)=((List.replicate n.toNat z).flatten++(List.replicate (c.toNat - n.toNat) z).flatten).toArray:=by
  apply Array.ext';have hzs:zv.cells.size=i.size:=by rw [<-g5,<-g3];simp
  rw [madeCells,<-hzs,GV,g3,<-List.flatten_append,List.replicate_append_replicate];congr 2;omega
 rw [hcells] at hrun;have hlen:∀k,((List.replicate k z).flatten).length=k * i.size:=by
  intro k;induction k with
  |zero=>simp
  |succ k ih=>rw [List.replicate_succ,List.flatten_cons,B8,ih,g5,G2];omega
 refine yo (xy:=[]) hk hs0 hk (aS.refl m) (cap:=c.toNat) (spare:=(List.replicate (c.toNat - n.toNat) z).flatten) (w':=_) (Pg g4 n.toNat) (by omega) ?_ (by unfold aB at c4;simp only [maxLen];omega) (.inl rfl) ?_
 ·rw [B8,hlen,hlen,<-Nat.add_mul];congr 1;omega
 ·simp [execOp,hop,e1.lit,e2.lit,hrun]
end
end Go.Ey
