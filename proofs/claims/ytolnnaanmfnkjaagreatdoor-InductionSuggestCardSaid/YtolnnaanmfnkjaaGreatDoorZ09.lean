/- A part. -/
import Derived.Test.YtolnnaanmfnkjaaGreatDoorZ07
set_option linter.all false
namespace Go.Ey
open RowKit
section
variable {B:Nat} {S:Nat->Nat->Prop} {P:Program} {o:Oper} {a:Act} {m:M} {slot:Nat} {ρ:X->D} {d:D} {us:List (Nat×Obj)}
def ou (x:Option Value) (dflt n:Nat):Prop:=
 match x with
 |none=>n=dflt
 |some v=>∃k i,v=.int k i/\0<=i/\i.toNat=n
theorem Im {x:Option Operand} {X':Option X} (ho:DV B S m ρ a) (hx:qg x=some X') {l:Nat} (h:OQ (X'.map ρ)=some l):ou (x.map a.eval) 0 l:=by
 cases x with
 |none=>simp [qg] at hx;subst hx;simp [OQ] at h;simp [ou,h]
 |some y=>
  simp only [qg,A2,A1,A0] at hx;obtain ⟨Y,hy,rfl⟩:=hx;simp only [Hj,OQ,A2,A1] at h;obtain ⟨n,h1,h2⟩:=h;split at h2
  case isFalse=>cases h2
  rename_i h0;simp only [A0] at h2;obtain ⟨k,h3⟩:=iB h1;have e:=ho y Y hy;rw [h3] at e;exact ⟨k,n,e.lit,h0,h2⟩
theorem LQ {x:Option Operand} {X':Option X} (ho:DV B S m ρ a) (hx:qg x=some X') {len l:Nat} (h:I4 len (X'.map ρ)=some l):ou (x.map a.eval) len l:=by
 cases x with
 |none=>simp [qg] at hx;subst hx;simp [I4] at h;simp [ou,h]
 |some y=>
  simp only [qg,A2,A1,A0] at hx;obtain ⟨Y,hy,rfl⟩:=hx;simp only [Hj,I4,A2,A1] at h;obtain ⟨n,h1,h2⟩:=h;split at h2
  case isFalse=>cases h2
  rename_i h0;simp only [A0] at h2;obtain ⟨k,h3⟩:=iB h1;have e:=ho y Y hy;rw [h3] at e;exact ⟨k,n,e.lit,h0,h2⟩
theorem MW {w:World} {isSlice:Bool} {len cap l r:Nat} {lo hi:Option Value} (h1:ou lo 0 l) (h2:ou hi len r) (hl:l<=r) (hr:r<=cap):
  (Instr.sliceBounds isSlice len cap lo hi none).run P w=.ok (l,r,cap) w:=by
 have low:∀code,(match lo with|some v=>Instr.sliceBound v r code|none=>pure 0:Sem Nat).run P w=.ok l w:=by
  intro code;cases lo with
  |none=>simp only [ou] at h1;subst h1;rfl
  |some v=>
   obtain ⟨k,i,rfl,h3,h4⟩:=h1;have:=run_sliceBound (P:=P) w k i r code h3 (by omega)
   simp only [this,h4]
 cases hi with
 |none=>
  simp only [ou] at h2;subst h2;have:=low .sliceB
  cases lo with
  |none=>simp [Instr.sliceBounds] at this |-;exact this
  |some v=>simp [Instr.sliceBounds] at this |-;simp [this]
 |some v=>
  obtain ⟨k,i,rfl,h3,h4⟩:=h2;have e:∀code,(Instr.sliceBound (.int k i) cap code).run P w=.ok r w:=fun code=>by rw [run_sliceBound (P:=P) w k i cap code h3 (by omega),h4]
  have:=low .sliceB
  cases lo with
  |none=>simp [Instr.sliceBounds,e] at this |-;exact this
  |some v=>simp [Instr.sliceBounds,e] at this |-;simp [this]
theorem adR (hk:fu B S m) (ho:DV B S m ρ a) {t e:TypeId} {x:Operand} {lo hi:Option Operand} {X':X} {Lo Hi:Option X} {i:TypeInfo} (hop:o.op=.slice t x lo hi none) (h1:P.underlying t=some (.slice e)) (h2:P.info? e=some i)
  (hx:bI x=some X') (hlo:qg lo=some Lo) (hhi:qg hi=some Hi) (hs:step ρ m.h slot (.slc i.size X' Lo Hi)=some (d,us)):Does B S P o a m slot d us:=by
 have e1:=ho x X' hx;simp only [step] at hs;obtain ⟨h3,rfl⟩:=dD hs;have run:∀(ad:Option Addr) (len cap l r:Nat),a.eval x=.slice ad len cap->ou (lo.map a.eval) 0 l->ou (hi.map a.eval) len r->l<=r->r<=cap->
   (execOp a.eval o).run P m.w=.ok (.value (.slice (if cap=l then ad else ad.map (·.add (l * i.size))) (r - l) (cap - l))) m.w:=by
  intro ad len cap l r he hb1 hb2 hl hr;have hb:=MW (P:=P) (w:=m.w) (isSlice:=true) hb1 hb2 hl hr;simp [execOp,hop,Instr.sliceAt,Instr.slice,run_underlying h1,he,hb,run_sizeOf h2]
 have imm:∀(cs:List C) (n:Nat) (xs:List C) (k:Nat),Lr i.size cs n (Lo.map ρ) (Hi.map ρ)=some (xs,k)->
   ((a.eval x=.slice none 0 0/\n=0/\cs=[])\/∃ad cap,a.eval x=.slice (some ad) n cap/\n<=cap/\(cs≠[]->ad.spot=none)/\fo m.w (Safe B S m) cs ad.block ad.off)->Does B S P o a m slot (.c (.slice xs k)) []:=by
  intro cs n xs k hcut Mi;simp only [Lr,A2,A1] at hcut;obtain ⟨l,h4,r,h5,h6⟩:=hcut;split at h6
  case isFalse=>cases h6
  rename_i hb;obtain ⟨hlr,hrn⟩:=hb;simp only [A0,A3] at h6;obtain ⟨rfl,rfl⟩:=h6;rcases Mi with ⟨e2,rfl,rfl⟩|⟨ad,cap,e2,e3,e4,e5⟩
  ·have hl0:l=0:=by omega
   have hr0:r=0:=by omega
   subst hl0 hr0;have:=run none 0 0 0 0 e2 (Im ho hlo h4) (LQ ho hhi h5) (An _) (An _)
   refine bK hk slot this ?_;show bJ m.w (Safe B S m) (.slice _ _) _
   simp [bJ]
  have:=run (some ad) n cap l r e2 (Im ho hlo h4) (LQ ho hhi h5) hlr (by omega)
  refine bK hk slot this ?_;show bJ m.w (Safe B S m) (.slice _ _) _
  simp only [bJ];right;by_cases hc:cap=l
  ·rw [C6 hc];have hz:r - l=0:=by omega
   refine ⟨ad,cap - l,rfl,by omega,?_,?_⟩
   ·rw [hz];simp
   ·rw [hz];simp [fo]
  ·rw [E0 hc];refine ⟨ad.add (l * i.size),cap - l,rfl,by omega,?_,?_⟩
   ·intro hne;unfold Addr.add;split
    ·exact e4 fun e=>hne (by rw [e];simp)
    ·rfl
   ·have:=Gr ((r - l) * i.size) (zk (l * i.size) e5)
    unfold Addr.add;split
    ·rename_i h0;rw [h0] at this |-;simpa using this
    ·exact this
 unfold Lt at h3;split at h3
 ·rename_i cs n he;simp only [A2,A1,C1,A0] at h3;obtain ⟨xs,k,h4,rfl⟩:=h3;rw [he] at e1;have Mi:bJ m.w (Safe B S m) (.slice cs n) (a.eval x):=e1;simp only [bJ] at Mi;exact imm cs n xs k h4 Mi
 ·rename_i cs n he;simp only [A2,A1,C1,A0] at h3;obtain ⟨xs,k,h4,rfl⟩:=h3;rw [he] at e1;refine imm cs n xs k h4 ?_;rcases e1 with e1|⟨ad,e2,e3,e4⟩
  ·exact .inl e1
  ·exact .inr ⟨ad,n,e2,An _,e3,e4⟩
 ·rename_i id off len he;cases wC:ax m.h id with
  |dead=>rw [wC] at h3;cases h3
  |box ds=>rw [wC] at h3;cases h3
  |map ds=>rw [wC] at h3;cases h3
  |arr cs aj fz ety=>
   rw [wC] at h3;simp only [A2,A1] at h3;obtain ⟨l,h4,r,h5,h6⟩:=h3;split at h6
   case isFalse=>cases h6
   rename_i hb;obtain ⟨rfl,hlr,hrn⟩:=hb;simp only [A0] at h6;subst h6;rw [he] at e1;obtain ⟨hU,ad,cap,e2,e3,e4⟩:=e1;have:=run (some ad) len cap l r e2 (Im ho hlo h4) (LQ ho hhi h5) hlr (by omega)
   refine bK hk slot this ⟨hU,?_⟩;by_cases hc:cap=l
   ·rw [C6 hc];refine ⟨ad,cap - l,rfl,by omega,?_⟩
    rw [wC];exact .inr ⟨by omega,by omega⟩
   ·rw [E0 hc];refine ⟨ad.add (l * i.size),cap - l,rfl,by omega,?_⟩
    rw [wC] at e4 |-;rcases e4 with ⟨rfl,sz,e5,e6,e7⟩|⟨h7,h8⟩
    ·refine .inl ⟨by rw [x9],sz,e5,?_,by omega⟩
     rw [<-e6,Nat.sub_mul,Nat.add_assoc];have:l * i.size<=cap * i.size:=Cd _ (by omega)
     omega
    ·omega
 ·cases h3
theorem adF (hk:fu B S m) (ho:DV B S m ρ a) {t:TypeId} {x:Operand} {lo hi:Option Operand} {X':X} {Lo Hi:Option X} (hop:o.op=.slice t x lo hi none) (h1:P.underlying t=some .string)
  (hx:bI x=some X') (hlo:qg lo=some Lo) (hhi:qg hi=some Hi) (hs:step ρ m.h slot (.sls X' Lo Hi)=some (d,us)):Does B S P o a m slot d us:=by
 have e1:=ho x X' hx;simp only [step] at hs;obtain ⟨h3,rfl⟩:=dD hs;unfold amW at h3;split at h3
 ·rename_i s he;simp only [A2,A1] at h3;obtain ⟨l,h4,r,h5,h6⟩:=h3;split at h6
  case isFalse=>cases h6
  rename_i hb;simp only [A0] at h6;subst h6;rw [he] at e1;have hb:=MW (P:=P) (w:=m.w) (isSlice:=false) (Im ho hlo h4) (LQ ho hhi h5) hb.1 hb.2;refine bK hk slot (v:=.string (s.extract l r)) ?_ (dZ.mkLit rfl);simp [execOp,hop,Instr.sliceAt,Instr.slice,run_underlying h1,e1.lit,hb]
 ·cases h3
theorem Oj {w:World} {Sf:Nat->Nat->Prop}:∀{cs:List C} {vs:List Value} {bs:List UInt8},bytesOf cs=some bs->av (bJ w Sf) cs vs->
  ∃ns:List Int,vs=ns.map (Value.int .u8)/\bs=ns.map fun n=>UInt8.ofNat n.toNat
 |[],[],bs,h,_=>by simp [bytesOf] at h;subst h;exact ⟨[],rfl,rfl⟩
 |c::cs,v::vs,bs,h,hr=>by
  unfold bytesOf at h;split at h
  ·rename_i heq;cases heq
  ·rename_i n r heq;simp only [Dg] at heq;obtain ⟨rfl,rfl⟩:=heq;simp only [A2,A1,A0] at h;obtain ⟨bs',h1,rfl⟩:=h;obtain ⟨ns,rfl,rfl⟩:=Oj h1 hr.2;have h2:=hr.1;simp only [bJ] at h2;exact ⟨n::ns,by rw [h2.1];rfl,rfl⟩
  ·cases h
 |[],_::_,_,_,h=>h.elim
 |_::_,[],_,_,h=>h.elim
theorem foldl_push (ns:List Int):∀s:ByteArray,ns.foldl (fun r n=>r.push (UInt8.ofNat n.toNat)) s=⟨s.data++(ns.map fun n=>UInt8.ofNat n.toNat).toArray⟩:=by
 induction ns with
 |nil=>intro s;cases s;simp
 |cons n ns ih=>
  intro s;simp only [It,ih,D4];cases s;simp [ByteArray.push]
theorem Yi (hk:fu B S m) (ho:DV B S m ρ a) {src dst e:TypeId} {x:Operand} {X':X} (hop:o.op=.convert src dst x) (h1:P.underlying src=some (.slice e)) (h2:P.underlying dst=some .string) (h3:P.underlying e=some (.int .u8))
  (hx:bI x=some X') (hs:step ρ m.h slot (.toStr X')=some (d,us)):Does B S P o a m slot d us:=by
 have e1:=ho x X' hx;simp only [step] at hs;obtain ⟨h4,rfl⟩:=dD hs;simp only [A2,A1,C1] at h4;obtain ⟨cs,n,h50,bs,h6,h7⟩:=h4;have h5:iY m.h 1 (ρ X')=some (cs,n):=by
  unfold Rp at h50;split at h50
  ·cases h50
  ·exact h50
 have atJ:∀s,ρ X'≠.c (.lit (.string s)):=by intro s he;rw [he] at h50;cases h50
 split at h7
 case isFalse=>cases h7
 rename_i hl;simp only [A0] at h7;subst h7;obtain ⟨news,hn1,hn2⟩:=GV (P:=P) hk e1 h5 (by rw [hl,Nat.mul_one])
 obtain ⟨ns,rfl,rfl⟩:=Oj h6 hn1;refine bK hk slot (v:=.string ⟨(ns.map fun n=>UInt8.ofNat n.toNat).toArray⟩) ?_ (dZ.mkLit rfl)
 have hf:=hn2.all (w':=m.w) rfl;have hlen:=hn2.len;cases hv:a.eval x with
 |slice ad l c=>
  rw [hv] at hf hlen;simp only [Builtin.lenOf] at hlen;have hl2:l=n:=by injection hlen
  subst hl2;have hc:=run_convert_bytes_string (P:=P) m.w src dst e ad l c h1 h3 h2;cases ad with
  |none=>
   simp only [Builtin.firstCells] at hf;have:ns=[]:=by have h9:(Result.ok #[] m.w:Result (Array Value))=_:=hf;simp at h9;exact h9
   subst this;simp [execOp,hop,hv,hc,Conv.bytesToString];rfl
  |some ad=>
   simp only [Builtin.firstCells,Nat.mul_one] at hf;have hb:=run_bytesToString (P:=P) m.w ad l c ns hf;rw [foldl_push] at hb;simp [execOp,hop,hv,hc,hb]
 |string s=>
  exfalso;rw [hv] at e1;unfold iY at h5;split at h5
  ·rename_i cs' n' he;rw [he] at e1;rcases e1 with ⟨h,_⟩|⟨_,h,_⟩<;>cases h
  ·rename_i cs' n' he;rw [he] at e1;have Mi:bJ m.w (Safe B S m) (.slice cs' n') (.string s):=e1;simp only [bJ] at Mi;rcases Mi with ⟨h,_⟩|⟨_,_,h,_⟩<;>cases h
  ·rename_i s' he;exact atJ s' he
  ·rename_i id off len he;rw [he] at e1;obtain ⟨_,_,_,h,_⟩:=e1;cases h
  ·cases h5
 |bool _=>rw [hv] at hlen;simp [Builtin.lenOf] at hlen;cases hlen
 |_=>rw [hv] at hlen;cases hlen
end
end Go.Ey
namespace Go.Ey
open RowKit
section
variable {B:Nat} {S:Nat->Nat->Prop} {P:Program} {o:Oper} {a:Act} {m:M} {slot:Nat} {ρ:X->D} {d:D} {us:List (Nat×Obj)}
theorem fA.oneCell {m:M} {d:D} {u:Value} (h:fA B S m d u) (hc:Gu d=true):u.oneCell'=true:=by
 cases d with
 |c x=>exact bJ.oneCell h
 |loc id off=>obtain ⟨_,rfl⟩:=h;rfl
 |arr id off len=>obtain ⟨_,ad,cap,rfl,_⟩:=h;rfl
 |ptr cs=>obtain ⟨ad,rfl,_⟩:=h;rfl
 |full cs n=>rcases h with ⟨rfl,_⟩|⟨ad,rfl,_⟩<;>rfl
 |fq f caps=>obtain ⟨rfl,_⟩:=h;rfl
 |mp id=>obtain ⟨_,rfl⟩:=h;rfl
 |_=>cases hc
theorem CB {u:Value} (h:u.oneCell'=true):u.cells=#[u]:=by cases u<;>first|rfl|cases h
theorem K7:∀{ds:List D} {us:List Value},av (fA B S m) ds us->ds.all Gu=true->∀v∈us,v.oneCell'=true
 |[],[],_,_,v,hv=>by simp at hv
 |d::ds,u::us,h,hc,v,hv=>by
  simp only [I3,A5] at hc;simp only [D2] at hv;rcases hv with rfl|hv
  ·exact h.1.oneCell hc.1
  ·exact K7 h.2 hc.2 v hv
 |[],_::_,h,_,_,_=>h.elim
 |_::_,[],h,_,_,_=>h.elim
theorem J4 {d:D} {u:Value} (h:dZ B S m d u) {ds:List D} (hc:cellsD d=some ds):av (fA B S m) ds u.cells.toList/\∀v∈u.cells.toList,v.oneCell'=true:=by
 unfold cellsD at hc;split at hc
 ·rename_i ds';split at hc
  case isFalse=>cases hc
  rename_i hall;simp only [A0] at hc;subst hc;obtain ⟨us,rfl,h2⟩:=h;exact ⟨h2,K7 h2 hall⟩
 ·split at hc
  case isFalse=>cases hc
  rename_i hcell;simp only [A0] at hc;subst hc;have h':fA B S m d u:=by cases d<;>first|exact h|cases hcell
  have h1:=h'.oneCell hcell;rw [CB h1];refine ⟨⟨h',trivial⟩,fun v hv=>?_⟩
  simp at hv;subst hv;exact h1
theorem fP.cells_ok {w:World} {Sf:Nat->Nat->Prop} {v:V} {u:Value} (h:fP w Sf v u):av (bJ w Sf) v.cells u.cells.toList/\∀x∈u.cells.toList,x.oneCell'=true:=by
 cases v with
 |one c=>
  have h1:bJ w Sf c u:=h;rw [CB h1.oneCell];refine ⟨⟨h1,trivial⟩,fun v hv=>?_⟩
  simp at hv;subst hv;exact h1.oneCell
 |agg cs=>
  obtain ⟨us,rfl,h1⟩:=h;exact ⟨h1,av.mem_right (fun _ _ h2=>h2.oneCell) h1⟩
 |full cs n=>
  have h1:=h.full;rw [CB h1.oneCell];refine ⟨⟨h1,trivial⟩,fun v hv=>?_⟩
  simp at hv;subst hv;exact h1.oneCell
theorem Ym {w w':World} {ob:Go.Obj} (hw:w'=w.alloc ob\/w'=w.drew.alloc ob) (hB:B<=w.heap.size):Below B w w':=by
 rcases hw with rfl|rfl
 ·exact (Below.refl B w).alloc hB ob
 ·exact ((Below.refl B w).drew).alloc hB ob
theorem QH {w w':World} {ob:Go.Obj} (hw:w'=w.alloc ob\/w'=w.drew.alloc ob):w'.heap=w.heap.push ob:=by rcases hw with rfl|rfl<;>rfl
theorem MV (hk:fu B S m) {vH:List (Nat×Obj)} (hk1:fu B S (m.heap (ay m.h vH))) (hev:aB B S m (m.heap (ay m.h vH))) (hs:¬m.U slot) {w':World} {ob:Go.Obj} (hw:w'=m.w.alloc ob\/w'=m.w.drew.alloc ob) (o':Obj) {v:Value}
  (hrep:aB B S (m.heap (ay m.h vH)) ((m.heap (ay m.h vH)).put w' slot m.w.heap.size o')->FM B S ((m.heap (ay m.h vH)).put w' slot m.w.heap.size o') m.w.heap.size o')
  (hd:aB B S m ((m.heap (ay m.h vH)).put w' slot m.w.heap.size o')->dZ B S ((m.heap (ay m.h vH)).put w' slot m.w.heap.size o') d v):Post B S m slot (vH++[(slot,o')]) d v w':=by
 have hw2:=QH hw;have ev2:=FK hk1 (slot:=slot) hs (w':=w') (ob:=ob) hw2 o';have hk2:=abh hk1 (slot:=slot) hs (w':=w') (ob:=ob) hw2 o' (hrep ev2);refine ⟨nI m.β slot m.w.heap.size,?_,?_,?_,Ym hw hk.base⟩
 all_goals rw [eD]
 ·exact hk2
 ·exact hev.trans ev2
 ·exact hd (hev.trans ev2)
theorem newest {w w':World} {ob:Go.Obj} (hw:w'=w.alloc ob\/w'=w.drew.alloc ob):w'.heap[w.heap.size]?=some ob:=by rw [QH hw];simp
theorem KX (hk:fu B S m) (hs:¬m.U slot) {ds:List D} {vs:List Value} {e:TypeId} (hr:av (fA B S m) ds vs)
  (hrun:(execOp a.eval o).run P m.w=.ok (.value (.pointer (some ⟨m.w.heap.size,0,none⟩))) (m.w.alloc (.cells vs.toArray e))):Does B S P o a m slot (.loc slot 0) [(slot,.box ds)]:=by
 refine ⟨_,_,_,hrun,.inl rfl,?_⟩;refine MV (vH:=[]) hk hk (aB.refl m) hs (.inl rfl) (.box ds) (fun ev=>⟨hk.base,vs,e,newest (.inl rfl),hr.mono fun _ _ h=>ev.vw h⟩) (fun _=>⟨.inr rfl,?_⟩)
 simp [M.put,nI]
theorem vN {t:TypeId} {z:List Value} (h:zeroOf P t=some z):∃i zv,P.info? t=some i/\i.zero=some zv/\zv.cells.toList=z/\(∀v∈z,(scalar v||zb v)=true)/\z.length=i.size:=by
 unfold zeroOf at h;simp only [A2,A1] at h;obtain ⟨i,h1,zv,h2,h3⟩:=h;split at h3
 case isFalse=>cases h3
 rename_i hc;simp only [A0] at h3;subst h3;exact ⟨i,zv,h1,h2,rfl,D0.1 hc.1,by simpa using hc.2⟩
theorem En {v:Value} (h:zb v=true):v=.slice none 0 0:=by
 unfold zb at h;split at h
 ·rfl
 ·cases h
theorem adN {v:Value} (h:scalar v=true):Fz v=.lit v:=by
 unfold Fz;split
 ·cases h
 ·rfl
theorem aej {v:Value} (h:scalar v=true):O5 v=.c (.lit v):=by
 unfold O5;split
 ·cases h
 ·rfl
theorem adA {w:World} {Sf:Nat->Nat->Prop} {v:Value} (h:(scalar v||zb v)=true):bJ w Sf (Fz v) v:=by
 rcases Bool.or_eq_true_iff.1 h with h|h
 ·rw [adN h];simp only [bJ];exact ⟨trivial,h⟩
 ·rw [En h];simp [Fz,bJ]
theorem adU {v:Value} (h:(scalar v||zb v)=true):fA B S m (O5 v) v:=by
 rcases Bool.or_eq_true_iff.1 h with h|h
 ·rw [aej h];show bJ m.w (Safe B S m) (.lit v) v;simp only [bJ];exact ⟨trivial,h⟩
 ·rw [En h];exact .inl ⟨rfl,rfl,rfl⟩
theorem Qq {w:World} {Sf:Nat->Nat->Prop}:∀{z:List Value},(∀v∈z,(scalar v||zb v)=true)->av (bJ w Sf) (z.map Fz) z
 |[],_=>trivial
 |v::z,h=>⟨adA (h v (by simp)),Qq fun x hx=>h x (by simp [hx])⟩
theorem Gv:∀{z:List Value},(∀v∈z,(scalar v||zb v)=true)->av (fA B S m) (z.map O5) z
 |[],_=>trivial
 |v::z,h=>⟨adU (h v (by simp)),Gv fun x hx=>h x (by simp [hx])⟩
theorem adO (hk:fu B S m) (hs0:¬m.U slot) {t:TypeId} {z:List Value} (hop:o.op=.alloc t) (hz:zeroOf P t=some z) (hs:step ρ m.h slot (.alloc z)=some (d,us)):Does B S P o a m slot d us:=by obtain ⟨i,zv,h1,h2,h3,h4,_⟩:=vN hz;simp only [step,A0,A3] at hs;obtain ⟨rfl,rfl⟩:=hs;refine KX hk hs0 (Gv h4) (e:=t) ?_;simp [execOp,hop,Instr.alloc,zeroValue,typeInfo,h1,h2,newVar,newRow,<-h3]
theorem adZ (hk:fu B S m) (ho:DV B S m ρ a) (hs0:¬m.U slot) {t:TypeId} {x:Operand} {X':X} (hop:o.op=.box t x) (hx:bI x=some X') (hs:step ρ m.h slot (.box X')=some (d,us)):Does B S P o a m slot d us:=by simp only [step,A2,A1,A0,A3] at hs;obtain ⟨ds,h1,rfl,rfl⟩:=hs;obtain ⟨h2,_⟩:=J4 (ho x X' hx) h1;refine KX hk hs0 h2 (e:=t) ?_;simp [execOp,hop,Instr.box,newVar,newRow]
theorem uw (hk:fu B S m) (hs:¬m.U slot) {vH:List (Nat×Obj)} (hk1:fu B S (m.heap (ay m.h vH))) (hev:aB B S m (m.heap (ay m.h vH))) {cs:List C} {vs spare:List Value} {e aj n cap fz:Nat}
  (hr:av (bJ m.w (Safe B S (m.heap (ay m.h vH)))) cs vs) (hn:n<=cap) (hsz:(vs++spare).length=cap * aj) (hmax:cap<=maxLen) {w':World} (hw:w'=m.w.alloc (.cells (vs++spare).toArray e)\/w'=m.w.drew.alloc (.cells (vs++spare).toArray e))
  (hrun:(execOp a.eval o).run P m.w=.ok (.value (.slice (some ⟨m.w.heap.size,0,none⟩) n cap)) w'):Does B S P o a m slot (.arr slot 0 n) (vH++[(slot,.arr cs aj fz e)]):=by
 refine ⟨_,_,_,hrun,.inl rfl,?_⟩;refine MV hk hk1 hev hs hw (.arr cs aj fz e) (fun ev=>⟨hk.base,vs++spare,newest hw,?_,?_⟩) (fun _=>⟨.inr rfl,⟨m.w.heap.size,0,none⟩,cap,rfl,hn,?_⟩)
 ·rw [hr.len];simp
 ·rw [hr.len,List.take_left];exact hr.mono fun c u h=>bJ.mono ev.cell c u h
 ·simp only [M.put,bu,E7,nI];refine .inl ⟨trivial,(vs++spare).length,?_,by omega,hmax⟩
  simp [World.shape?,newest hw]
theorem MH {w:World} {Sf:Nat->Nat->Prop} {z:List Value} (h:∀v∈z,(scalar v||zb v)=true):∀n,av (bJ w Sf) (zeros z n) (List.replicate n z).flatten
 |0=>trivial
 |n+1=>by simp only [zeros,List.replicate_succ,List.flatten_cons];exact (Qq h).append (MH h n)
theorem FL {z:Array Value} (n:Nat):((Array.range (n * z.size)).map (z[· % z.size]!)).toList=(List.replicate n z.toList).flatten:=by
 induction n with
 |zero=>simp
 |succ n ih=>
  have h1:(n+1) * z.size=n * z.size+z.size:=by rw [G1]
  rw [h1,List.replicate_succ',List.flatten_append];simp only [Array.toList_map,Array.toList_range] at ih |-;rw [List.range_add,Is,ih];congr 1;simp only [List.map_map,List.flatten_cons,List.flatten_nil,Cl];apply List.ext_getElem?;intro j;simp only [List.getElem?_map];by_cases hj:j < z.size
  ·have:(List.range z.size)[j]?=some j:=by simp [hj]
   rw [this];have hm:(n * z.size+j) % z.size=j:=by rw [Nat.mul_comm,Nat.mul_add_mod,Nat.mod_eq_of_lt hj]
   simp [Function.comp,hm,hj]
  ·have:(List.range z.size)[j]?=none:=by simp;omega
   rw [this];simp;omega
theorem aiw (hk:fu B S m) (ho:DV B S m ρ a) (hs0:¬m.U slot) {t e:TypeId} {x y:Operand} {X' Y':X} {i:TypeInfo} {z:List Value} (hop:o.op=.makeSlice t x y) (h1:fH P t=some e) (h2:P.info? e=some i) (h3:zeroOf P e=some z)
  (hx:bI x=some X') (hy:bI y=some Y') (hs:step ρ m.h slot (.mk i.size e i.bytes z X' Y')=some (d,us)):Does B S P o a m slot d us:=by
 have hu:=jy h1;obtain ⟨i',zv,g1,g2,g3,g4,g5⟩:=vN h3;rw [h2] at g1;simp only [A0] at g1;subst g1;simp only [step,A2,A1] at hs;obtain ⟨n,hn1,c,hc1,hs⟩:=hs;split at hs
 case isFalse=>cases hs
 rename_i hc;obtain ⟨c1,c2,c3,c4,c5⟩:=hc;simp only [A0,A3] at hs;obtain ⟨rfl,rfl⟩:=hs;obtain ⟨kn,hn2⟩:=iB hn1;obtain ⟨kc,hc2⟩:=iB hc1;have e1:=ho x X' hx;have e2:=ho y Y' hy;rw [hn2] at e1;rw [hc2] at e2;have hc63:c<=9223372036854775807:=by unfold bg at c4;omega
 have hby:(i.bytes:Int) * c<=281474976710656:=by
  have:((c.toNat * i.bytes:Nat):Int)<=140737488355328:=by unfold bg at c3;omega
  rw [Int.natCast_mul] at this;have hc0:(c.toNat:Int)=c:=by omega
  rw [hc0] at this;rw [Int.mul_comm];omega
 have hrun:=run_make (P:=P) m.w t e i zv hu h2 g2 kn kc n c c1 c2 hby hc63;have hcells:madeCells zv.cells (c.toNat * i.size)=((List.replicate n.toNat z).flatten++(List.replicate (c.toNat - n.toNat) z).flatten).toArray:=by
  apply Array.ext';have hzs:zv.cells.size=i.size:=by rw [<-g5,<-g3];simp
  rw [madeCells,<-hzs,FL,g3,<-List.flatten_append,List.replicate_append_replicate];congr 2;omega
 rw [hcells] at hrun;have hlen:∀k,((List.replicate k z).flatten).length=k * i.size:=by
  intro k;induction k with
  |zero=>simp
  |succ k ih=>rw [List.replicate_succ,List.flatten_cons,Ax,ih,g5,G1];omega
 refine uw (vH:=[]) hk hs0 hk (aB.refl m) (cap:=c.toNat) (spare:=(List.replicate (c.toNat - n.toNat) z).flatten) (w':=_) (MH g4 n.toNat) (by omega) ?_ (by unfold bg at c4;simp only [maxLen];omega) (.inl rfl) ?_
 ·rw [Ax,hlen,hlen,<-Nat.add_mul];congr 1;omega
 ·simp [execOp,hop,e1.lit,e2.lit,hrun]
end
end Go.Ey
