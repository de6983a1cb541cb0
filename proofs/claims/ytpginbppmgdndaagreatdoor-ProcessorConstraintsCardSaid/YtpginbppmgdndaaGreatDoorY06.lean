/- A part of the proof. -/
import Derived.Test.YtpginbppmgdndaaGreatDoorY05
set_option linter.all false
namespace Go.Ey
def notUnk:SD→Bool
 |.unk=>false
 |_=>true
def okS:SD→Bool
 |.unk=>false
 |.agg ds=>ds.all notUnk
 |_=>true
def Ids (N:Nm) (js is:List Nat):Prop:=∀j,j∈js→∃i∈is,i < N.nx∧N.μ i=some j
theorem Ids.nil {N:Nm} {is:List Nat}:Ids N [] is:=fun j hj=>by simp at hj
theorem Ids.append {N:Nm} {js js' is is':List Nat} (h:Ids N js is) (h':Ids N js' is'):Ids N (js++js') (is++is'):=fun j hj=>by
 rw [List.mem_append] at hj
 rcases hj with hj|hj
 ·obtain ⟨i,h1,h2⟩:=h j hj;exact ⟨i,List.mem_append.2 (.inl h1),h2⟩
 ·obtain ⟨i,h1,h2⟩:=h' j hj;exact ⟨i,List.mem_append.2 (.inr h1),h2⟩
def arrId:D→List Nat
 |.arr id _ _=>[id]
 |_=>[]
theorem frzIds_agg (ds:List D):frzIds (.agg ds)=ds.flatMap arrId:=rfl
theorem idc_ok {N:Nm} {sd:SD} {d:D} (hr:RDc N sd d) (ho:notUnk sd=true):Ids N (arrId d) (idS sd):=by
 cases sd with
 |unk=>cases ho
 |a x=>obtain ⟨c,_,rfl|⟨cs,n,_,rfl⟩⟩:=hr<;>exact Ids.nil
 |full x=>obtain ⟨cs,n,_,rfl⟩:=hr;exact Ids.nil
 |loc i o=>obtain ⟨_,j,_,rfl⟩:=hr;exact Ids.nil
 |arr i=>
  obtain ⟨hi,⟨j,len,h1,rfl,_⟩|⟨_,cs,n,rfl,_⟩⟩:=hr
  ·intro q hq;simp [arrId] at hq;subst hq;exact ⟨i,by simp [idS],hi,h1⟩
  ·exact Ids.nil
 |view i x=>
  obtain ⟨hi,cs,len,_,rfl|⟨j,off,h1,rfl,_⟩⟩:=hr
  ·exact Ids.nil
  ·intro q hq;simp [arrId] at hq;subst hq;exact ⟨i,by simp [idS],hi,h1⟩
 |eloc i x o=>obtain ⟨_,kd,q,_,_,⟨j,o',_,rfl,_⟩|⟨_,cs,rfl,_⟩⟩:=hr<;>exact Ids.nil
 |ptr r o e=>obtain ⟨xs,rest,_,_,rfl⟩:=hr;exact Ids.nil
 |clo f c=>obtain ⟨c',rfl,_⟩:=hr;exact Ids.nil
 |agg ds=>exact hr.elim
 |tup ds=>exact hr.elim
theorem idcs_ok {N:Nm}:∀{ds:List SD} {ds':List D},All2 (RDc N) ds ds'→ds.all notUnk=true→Ids N (frzIds (.agg ds')) (ds.flatMap idS)
 |[],[],_,_=>Ids.nil
 |sd::ds,d::ds',hr,ho=>by
  simp only [List.all_cons,Bool.and_eq_true] at ho
  rw [frzIds_agg,List.flatMap_cons,List.flatMap_cons]
  exact (idc_ok hr.1 ho.1).append (idcs_ok hr.2 ho.2)
 |[],_::_,hr,_=>hr.elim
 |_::_,[],hr,_=>hr.elim
theorem ids_ok {N:Nm} {sd:SD} {d:D} (hr:RD N sd d) (ho:okS sd=true):Ids N (frzIds d) (idsS sd):=by
 by_cases ha:∃ds,sd=.agg ds
 ·obtain ⟨ds,rfl⟩:=ha
  obtain ⟨ds',rfl,hr⟩:=hr
  exact idcs_ok hr ho
 ·by_cases ht:∃ds,sd=.tup ds
  ·obtain ⟨ds,rfl⟩:=ht
   obtain ⟨ds',rfl,hr⟩:=hr
   exact Ids.nil
  ·have hc:RDc N sd d:=hr.c (fun ds e=>ha ⟨ds,e⟩) (fun ds e=>ht ⟨ds,e⟩)
   have hn:notUnk sd=true:=by cases sd<;>first|rfl|cases ho
   rw [idsS_c fun ds e=>ha ⟨ds,e⟩]
   have:=idc_ok hc hn
   have hda:∀ds,d≠.agg ds:=by
    intro ds e;subst e
    cases sd with
    |unk=>cases hn
    |a x=>obtain ⟨c,_,h|⟨cs,n,_,h⟩⟩:=hc<;>cases h
    |full x=>obtain ⟨cs,n,_,h⟩:=hc;cases h
    |loc i o=>obtain ⟨_,j,_,h⟩:=hc;cases h
    |arr i=>obtain ⟨_,⟨j,len,_,h,_⟩|⟨_,cs,n,h,_⟩⟩:=hc<;>cases h
    |view i x=>obtain ⟨_,cs,len,_,h|⟨j,off,_,h,_⟩⟩:=hc<;>cases h
    |eloc i x o=>obtain ⟨_,kd,q,_,_,⟨j,o',_,h,_⟩|⟨_,cs,h,_⟩⟩:=hc<;>cases h
    |ptr r o e=>obtain ⟨xs,rest,_,_,h⟩:=hc;cases h
    |clo f c=>obtain ⟨c',h,_⟩:=hc;cases h
    |agg ds=>exact hc.elim
    |tup ds=>exact hc.elim
   cases d<;>first|exact this|exact absurd rfl (hda _)
theorem okS_frzS {hs:List (Nat×SO)} {sd:SD} {p:At×List (Nat×SO)} (h:frzS hs sd=some p):notUnk sd=true:=by cases sd<;>first|rfl|cases h
theorem okS_frzLS:∀{ds:List SD} {hs:List (Nat×SO)} {p:List At×List (Nat×SO)},frzLS hs ds=some p→ds.all notUnk=true
 |[],_,_,_=>rfl
 |d::ds,hs,p,h=>by
  simp only [frzLS,Option.bind_eq_some_iff] at h
  obtain ⟨x,h1,y,h2,_⟩:=h
  simp only [List.all_cons,Bool.and_eq_true]
  exact ⟨okS_frzS h1,okS_frzLS h2⟩
theorem okS_frzCS {hs:List (Nat×SO)} {sd:SD} {p:List At×List (Nat×SO)} (h:frzCS hs sd=some p):okS sd=true:=by
 cases sd<;>first|rfl|(simp [frzCS,frzS] at h;done)|exact okS_frzLS h
theorem okS_frzVS {lens:List (Nat×Nat)} {hs:List (Nat×SO)} {sd:SD} {p:TV×List (Nat×SO)} (h:frzVS lens hs sd=some p):okS sd=true:=by
 cases sd<;>first|rfl|(simp [frzVS,frzS] at h;done)|(simp only [frzVS,Option.bind_eq_some_iff] at h;obtain ⟨x,h1,_⟩:=h;exact okS_frzLS h1)
theorem okS_frzVSs {lens:List (Nat×Nat)}:∀{ds:List SD} {hs:List (Nat×SO)} {p:List TV×List (Nat×SO)},frzVSs lens hs ds=some p→ds.all okS=true
 |[],_,_,_=>rfl
 |d::ds,hs,p,h=>by
  simp only [frzVSs,Option.bind_eq_some_iff] at h
  obtain ⟨x,h1,y,h2,_⟩:=h
  simp only [List.all_cons,Bool.and_eq_true]
  exact ⟨okS_frzVS h1,okS_frzVSs h2⟩
theorem okS_srcAtE {hs:List (Nat×SO)} {esz:Nat} {sd:SD} {p:At} (h:srcAtE hs esz sd=some p):okS sd=true:=by cases sd<;>first|rfl|cases h
theorem notUnk_cell {ds:List SD} (h:ds.all isCellS=true):ds.all notUnk=true:=by
 rw [List.all_eq_true] at h ⊢
 intro x hx
 have:=h x hx
 cases x<;>first|rfl|cases this
theorem okS_cellsS {sd:SD} {xs:List SD} (h:cellsS sd=some xs):okS sd=true:=by
 cases sd with
 |agg ds=>
  simp only [cellsS] at h
  split at h
  ·rename_i hc;exact notUnk_cell hc
  ·cases h
 |unk=>simp [cellsS,isCellS] at h
 |_=>rfl
theorem okS_fillS {sx:X→SD}:∀{parts:List (Nat×Nat×X)} {ds out:List SD},fillS sx ds parts=some out→∀p∈parts,okS (sx p.2.2)=true
 |[],_,_,_,p,hp=>by simp at hp
 |(off,size,x)::parts,ds,out,h,p,hp=>by
  simp only [fillS,Option.bind_eq_some_iff] at h
  obtain ⟨xs,h1,h2⟩:=h
  split at h2
  case isFalse=>cases h2
  simp only [List.mem_cons] at hp
  rcases hp with rfl|hp
  ·exact okS_cellsS h1
  ·exact okS_fillS h2 p hp
theorem ids_flat {N:Nm} {sx:X→SD} {dx:X→D} (hx:∀x,RD N (sx x) (dx x)) {α:Type} {g:α→X}:∀{l:List α},(∀p∈l,okS (sx (g p))=true)→Ids N (l.flatMap fun p=>frzIds (dx (g p))) (l.flatMap fun p=>idsS (sx (g p)))
 |[],_=>Ids.nil
 |p::l,h=>by
  simp only [List.flatMap_cons]
  exact (ids_ok (hx _) (h p (by simp))).append (ids_flat hx fun q hq=>h q (by simp [hq]))
section
variable {b:Bs} {ρ:List W} {μ:Nat→Option Nat} {σ:Sy} {h:Heap} {k:Nat} {call:FnT} {head:HdT} {kt:SD→Sy→Nat→Tree} {r:R} {sx:X→SD} {dx:X→D}
theorem touch_ok (hx:∀x,RD (nm ρ μ σ) (sx x) (dx x)) (ins:Ins) (hi:∀f xs,ins≠.call f xs) (hd:denT call head (symIns σ ρ.length sx kt ins) ρ=some r):Ids (nm ρ μ σ) (touches dx ins) (touchS sx ins):=by
 have loc:∀x,(∃i off,sx x=.loc i off)∨(∃i y off,sx x=.eloc i y off)∨(∃q off e,sx x=.ptr q off e)→Ids (nm ρ μ σ) (match dx x with|.loc id _=>[id]|_=>[]) (match sx x with|.loc i _=>[i]|.eloc i _ _=>[i]|_=>[]):=by
  intro x hs
  have hr:=hx x
  rcases hs with ⟨i,off,hs⟩|⟨i,y,off,hs⟩|⟨q,off,e,hs⟩
  ·rw [hs] at hr ⊢
   obtain ⟨h0,j,h1,h2⟩:=hr
   rw [h2]
   intro p hp;simp at hp;subst hp;exact ⟨i,by simp,h0,h1⟩
  ·rw [hs] at hr ⊢
   obtain ⟨h0,kd,q,_,_,⟨j,o',h1,h2,_⟩|⟨_,cs,h2,_⟩⟩:=hr
   ·rw [h2]
    intro p hp;simp at hp;subst hp;exact ⟨i,by simp,h0,h1⟩
   ·rw [h2];exact Ids.nil
  ·rw [hs] at hr ⊢
   obtain ⟨xs,rest,_,_,h2⟩:=hr
   rw [h2];exact Ids.nil
 cases ins with
 |load agg size x=>
  simp only [symIns] at hd
  simp only [touches,touchS]
  refine loc x ?_
  split at hd
  ·rename_i i off hs;exact .inl ⟨i,off,hs⟩
  ·rename_i q off e hs;exact .inr (.inr ⟨q,off,e,hs⟩)
  ·rename_i i y off hs;exact .inr (.inl ⟨i,y,off,hs⟩)
  ·cases hd
 |store size a v=>
  simp only [symIns] at hd
  simp only [touches,touchS]
  split at hd
  ·rename_i i off hs
   have hl:=loc a (.inl ⟨i,off,hs⟩)
   rw [hs] at hl
   refine hl.append (ids_ok (hx v) ?_)
   split at hd
   ·rename_i hc;exact okS_cellsS hc
   ·cases hd
  ·rename_i i y off hs
   have hl:=loc a (.inr (.inl ⟨i,y,off,hs⟩))
   rw [hs] at hl
   refine hl.append (ids_ok (hx v) ?_)
   split at hd
   ·rename_i hf;exact okS_frzCS hf
   ·cases hd
  ·cases hd
 |lits esz ety len zero parts=>
  simp only [symIns] at hd
  simp only [touches,touchS]
  split at hd
  ·rename_i hf
   simp only [Option.bind_eq_some_iff] at hf
   obtain ⟨ds,h1,_⟩:=hf
   exact ids_flat hx fun p hp=>okS_fillS h1 p hp
  ·cases hd
 |toStr x=>
  simp only [symIns] at hd
  simp only [touches,touchS]
  split at hd
  ·rename_i h1;exact ids_ok (hx x) (okS_srcAtE h1)
  ·cases hd
 |slc esz x lo hi=>
  simp only [symIns] at hd
  simp only [touches,touchS]
  refine ids_ok (hx x) ?_
  split at hd
  ·split at hd
   ·rename_i hs;rw [hs];rfl
   ·rename_i hs;rw [hs];rfl
   ·rename_i hs;rw [hs];rfl
   ·cases hd
  ·cases hd
 |clip esz x lo hi mx=>
  simp only [symIns] at hd
  simp only [touches,touchS]
  refine ids_ok (hx x) ?_
  split at hd
  ·rename_i h1 _ _ _
   have h2:=okS_frzS h1
   have h3:=frzS_c h1
   cases hs:sx x with
   |unk=>rw [hs] at h2;cases h2
   |agg ds=>exact absurd hs (h3.1 ds)
   |_=>rfl
  ·cases hd
 |iadr esz x i=>
  simp only [symIns] at hd
  simp only [touches,touchS]
  refine ids_ok (hx x) ?_
  split at hd
  ·split at hd
   ·rename_i hs;rw [hs];rfl
   ·rename_i hs;rw [hs];rfl
   ·rename_i hs;rw [hs];rfl
   ·cases hd
  ·cases hd
 |app esz ety bytes x y=>
  simp only [symIns] at hd
  simp only [touches,touchS]
  split at hd
  ·rename_i h1
   refine Ids.append (ids_ok (hx x) ?_) (ids_ok (hx y) (okS_srcAtE h1))
   split at hd
   ·rename_i hs;rw [hs];rfl
   ·rename_i hs;rw [hs];rfl
   ·cases hd
  ·cases hd
 |cpy esz x y=>
  simp only [symIns] at hd
  simp only [touches,touchS]
  split at hd
  ·rename_i h1 hs
   exact Ids.append (ids_ok (hx x) (by rw [hs];rfl)) (ids_ok (hx y) (okS_srcAtE h1))
  ·cases hd
 |call f xs=>exact absurd rfl (hi f xs)
 |callL f xs=>simp [symIns,denT] at hd
 |mget kind n agg z ok x k=>simp [symIns,denT] at hd
 |mput kind n x k v=>simp [symIns,denT] at hd
 |_=>exact Ids.nil
theorem sym_ok (hm:Rm b (nm ρ μ σ) h k σ.lens) (hx:∀x,RD (nm ρ μ σ) (sx x) (dx x)) (ins:Ins) (hd:denT call head (symIns σ ρ.length sx kt ins) ρ=some r):Goal b ρ μ σ h k call head kt r sx dx ins:=by
 cases ins with
 |mov x=>exact s_mov hm hx hd
 |pick c a b=>simp [symIns,denT] at hd
 |alloc zero=>exact s_alloc hm hx hd
 |box x=>exact s_box hm hx hd
 |build zero parts=>exact s_build hm hx hd
 |lits esz ety len zero parts=>exact s_lits hm hx hd
 |load agg size x=>exact s_load hm hx hd
 |store size a v=>exact s_store hm hx hd
 |nilck x=>exact s_nilck hm hx hd
 |bin op isB x y=>exact s_bin hm hx hd
 |eqs ks neg x y=>exact s_eqs hm hx hd
 |un op x=>exact s_un hm hx hd
 |conv kd x=>exact s_conv hm hx hd
 |toStr x=>exact s_toStr hm hx hd
 |mk esz ety bytes zero l c=>exact s_mk hm hx hd
 |slc esz x lo hi=>exact s_slc hm hx hd
 |clip esz x lo hi mx=>exact s_clip hm hx hd
 |sls x lo hi=>exact s_sls hm hx hd
 |fadr off x=>exact s_fadr hm hx hd
 |fld off agg size x=>exact s_fld hm hx hd
 |iadr esz x i=>exact s_iadr hm hx hd
 |sidx x i=>exact s_sidx hm hx hd
 |ext x i=>exact s_ext hm hx hd
 |len t x=>exact s_len hm hx hd
 |app esz ety bytes x y=>exact s_app hm hx hd
 |cpy esz x y=>exact s_cpy hm hx hd
 |mx x y=>exact s_mm (isMax:=true) hm hx hd
 |mn x y=>exact s_mm (isMax:=false) hm hx hd
 |mkf f xs=>exact s_mkf hm hx hd
 |call f xs=>simp [symIns,denT] at hd
 |callS f own xs=>simp [symIns,denT] at hd
 |callL f xs=>simp [symIns,denT] at hd
 |callV x xs=>simp [symIns,denT] at hd
 |mkm=>simp [symIns,denT] at hd
 |mget k n ag z ok x y=>simp [symIns,denT] at hd
 |mput k n x y z=>simp [symIns,denT] at hd
end
theorem stepC_mono {call call':Callee} (hc:∀f vs,Le (call f vs) (call' f vs)) (dx:X→D) (h:Heap) (slot:Nat) (i:Ins):Le (stepC call dx h slot i) (stepC call' dx h slot i):=by
 cases i with
 |call f xs=>
  simp only [stepC,Option.bind_eq_bind]
  exact Le.bind (Le.refl _) fun p=>Le.bind (hc _ _) fun _=>Le.refl _
 |_=>exact Le.refl _
theorem stepS_mono {call call':Callee} (hc:∀f vs,Le (call f vs) (call' f vs)) (dx:X→D) (h:Heap) (slot:Nat) (i:Ins):Le (stepS call dx h slot i) (stepS call' dx h slot i):=by
 unfold stepS
 split
 ·exact Le.refl _
 ·exact stepC_mono hc dx h slot i
theorem lendC_mono {lend lend':Lender} (hl:∀f ds h k,Le (lend f ds h k) (lend' f ds h k)) (own:Bool) (f:Nat) (ds:List D) (h:Heap) (nx:Nat):Le (lendC lend own f ds h nx) (lendC lend' own f ds h nx):=by
 simp only [lendC,Option.bind_eq_bind]
 exact Le.bind (Le.refl _) fun p=>Le.bind (hl _ _ _ _) fun _=>Le.refl _
theorem evSeq_mono {call call':Callee} {lend lend':Lender} (hc:∀f vs,Le (call f vs) (call' f vs)) (hl:∀f ds h k,Le (lend f ds h k) (lend' f ds h k)):∀(is:List Inst) (s:St),Le (evSeq call lend is s) (evSeq call' lend' is s)
 |[],s=>Le.refl _
 |i::is,s=>by
  simp only [evSeq,Option.bind_eq_bind]
  refine Le.bind (Le.refl _) fun w=>?_
  split
  ·split
   ·exact Le.bind (lendC_mono hl _ _ _ _ _) fun p=>evSeq_mono hc hl is _
   ·split
    ·exact Le.bind (lendC_mono hl _ _ _ _ _) fun p=>evSeq_mono hc hl is _
    ·exact Le.refl _
   ·exact Le.bind (stepS_mono hc _ _ _ _) fun p=>evSeq_mono hc hl is _
  ·exact evSeq_mono hc hl is _
theorem lentD_mono {lent lent':Lent} (hl:∀f as bs,Le (lent f as bs) (lent' f as bs)) (h:Heap) (f:Nat) (ds:List D):Le (lentD lent h f ds) (lentD lent' h f ds):=by
 simp only [lentD,Option.bind_eq_bind]
 exact Le.bind (Le.refl _) fun p=>Le.bind (Le.refl _) fun _=>Le.bind (hl _ _ _) fun _=>Le.refl _
theorem stepD_mono {call call':Callee} {lent lent':Lent} (hc:∀f vs,Le (call f vs) (call' f vs)) (hl:∀f as bs,Le (lent f as bs) (lent' f as bs)) (dx:X→D) (h:Heap) (slot:Nat) (i:Ins):Le (stepD call lent dx h slot i) (stepD call' lent' dx h slot i):=by
 by_cases hne:∃f xs,i=.callL f xs
 ·obtain ⟨f,xs,rfl⟩:=hne
  exact lentD_mono hl _ _ _
 ·have e:∀c l,stepD c l dx h slot i=stepS c dx h slot i:=fun c l=>by cases i<;>first|rfl|exact absurd ⟨_,_,rfl⟩ hne
  rw [e,e]
  exact stepS_mono hc dx h slot i
theorem evDraw_mono {call call':Callee} {lent lent':Lent} (hc:∀f vs,Le (call f vs) (call' f vs)) (hl:∀f as bs,Le (lent f as bs) (lent' f as bs)) (nx:Nat):∀(is:List Inst) (k:Nat) (e:Env) (h:Heap),Le (evDraw call lent nx k is e h) (evDraw call' lent' nx k is e h)
 |[],_,_,_=>Le.refl _
 |i::is,k,e,h=>by
  simp only [evDraw,Option.bind_eq_bind]
  refine Le.bind (Le.refl _) fun w=>?_
  split
  ·exact Le.bind (stepD_mono hc hl _ _ _ _) fun p=>Le.bind (evDraw_mono hc hl nx is _ _ _) fun _=>Le.refl _
  ·exact Le.bind (evDraw_mono hc hl nx is _ _ _) fun _=>Le.refl _
theorem ev_mono (F:Tab):∀n,(∀c s,Le (evCode F n c s) (evCode F (n+1) c s))∧(∀f ds h k,Le (evBody F n f ds h k) (evBody F (n+1) f ds h k))∧(∀f vs,Le (evFn F n f vs) (evFn F (n+1) f vs))∧(∀f as bs,Le (evLent F n f as bs) (evLent F (n+1) f as bs))
 |0=>⟨fun _ _ r h=>by simp [evCode] at h,fun _ _ _ _ r h=>by simp [evBody] at h,fun _ _ r h=>by simp [evFn] at h,fun _ _ _ r h=>by simp [evLent] at h⟩
 |n+1=>by
  obtain ⟨h1,h2,h3,h4⟩:=ev_mono F n
  refine ⟨fun c s=>?_,fun f ds h k=>?_,fun f vs=>?_,fun f as bs=>?_⟩
  ·rw [evCode.eq_def,evCode.eq_def F (n+1+1)]
   cases c with
   |skip=>exact Le.refl _
   |exit id=>exact Le.refl _
   |ret=>exact Le.refl _
   |region is=>
    simp only [Option.bind_eq_bind]
    exact Le.bind (evSeq_mono h3 h2 is s) fun _=>Le.refl _
   |draw is ws=>
    simp only [Option.bind_eq_bind]
    exact Le.bind (evDraw_mono h3 h4 _ _ _ _ _) fun _=>Le.refl _
   |seq a b=>
    simp only [Option.bind_eq_bind]
    refine Le.bind (h1 a s) fun p=>?_
    split
    ·exact h1 b _
    ·exact Le.refl _
   |cond x a b=>
    simp only [Option.bind_eq_bind]
    exact Le.bind (Le.refl _) fun t=>h1 _ _
   |block id c=>
    simp only [Option.bind_eq_bind]
    exact Le.bind (h1 c s) fun _=>Le.refl _
   |loop c=>
    simp only [Option.bind_eq_bind]
    refine Le.bind (h1 c s) fun p=>?_
    split
    ·exact h1 (.loop c) _
    ·exact Le.refl _
  ·rw [evBody,evBody]
   simp only [Option.bind_eq_bind]
   refine Le.bind (Le.refl _) fun I=>?_
   split
   ·refine Le.bind (h1 _ _) fun p=>?_
    exact Le.refl _
   ·exact Le.refl _
  ·rw [evFn,evFn]
   split
   ·exact Le.refl _
   simp only [Option.bind_eq_bind]
   exact Le.bind (h2 _ _ _ _) fun p=>Le.refl _
  ·rw [evLent,evLent]
   simp only [Option.bind_eq_bind]
   exact Le.bind (h2 _ _ _ _) fun p=>Le.refl _
theorem evCode_le {F:Tab} {n n':Nat} (h:n≤n') (c:ICode) (s:St):Le (evCode F n c s) (evCode F n' c s):=by
 induction h with
 |refl=>exact Le.refl _
 |step _ ih=>exact fun r hr=>(ev_mono F _).1 c s r (ih r hr)
theorem evBody_le {F:Tab} {n n':Nat} (h:n≤n') (f:Nat) (ds:List D) (hp:Heap) (k:Nat):Le (evBody F n f ds hp k) (evBody F n' f ds hp k):=by
 induction h with
 |refl=>exact Le.refl _
 |step _ ih=>exact fun r hr=>(ev_mono F _).2.1 f ds hp k r (ih r hr)
theorem evFn_le {F:Tab} {n n':Nat} (h:n≤n') (f:Nat) (vs:List V):Le (evFn F n f vs) (evFn F n' f vs):=by
 induction h with
 |refl=>exact Le.refl _
 |step _ ih=>exact fun r hr=>(ev_mono F _).2.2.1 f vs r (ih r hr)
theorem evLent_le {F:Tab} {n n':Nat} (h:n≤n') (f:Nat) (as:List LV) (bs:List (List C)):Le (evLent F n f as bs) (evLent F n' f as bs):=by
 induction h with
 |refl=>exact Le.refl _
 |step _ ih=>exact fun r hr=>(ev_mono F _).2.2.2 f as bs r (ih r hr)
end Go.Ey

namespace Go.Ey
def All3 {α β γ:Type} (R:α→β→γ→Prop):List α→List β→List γ→Prop
 |[],[],[]=>True
 |a::as,b::bs,c::cs=>R a b c∧All3 R as bs cs
 |_,_,_=>False
theorem All3.mono {α β γ:Type} {R R':α→β→γ→Prop} (h:∀a b c,R a b c→R' a b c):∀{as:List α} {bs:List β} {cs:List γ},All3 R as bs cs→All3 R' as bs cs
 |[],[],[],_=>trivial
 |_::_,_::_,_::_,h1=>⟨h _ _ _ h1.1,All3.mono h h1.2⟩
 |[],_::_,_,h1=>h1.elim
 |[],[],_::_,h1=>h1.elim
 |_::_,[],_,h1=>h1.elim
 |_::_,_::_,[],h1=>h1.elim
theorem All3.len1 {α β γ:Type} {R:α→β→γ→Prop}:∀{as:List α} {bs:List β} {cs:List γ},All3 R as bs cs→as.length=bs.length∧as.length=cs.length
 |[],[],[],_=>⟨rfl,rfl⟩
 |_::_,_::_,_::_,h1=>by have:=All3.len1 h1.2;simp;omega
 |[],_::_,_,h1=>h1.elim
 |[],[],_::_,h1=>h1.elim
 |_::_,[],_,h1=>h1.elim
 |_::_,_::_,[],h1=>h1.elim
def VD:V→D→Prop
 |.one c,d=>CD c d
 |.agg cs,d=>∃ds,d=.agg ds∧All2 CD cs ds
def ArgR (lent:List Nat):PS→LA→D→Prop
 |.one,.v (.one c),d=>CD c d
 |.agg m,.v (.agg xs),d=>xs.length=m∧VD (.agg xs) d
 |.ref b off,.ref b' off',d=>b'=b∧off'=off∧∃j,lent[b]?=some j∧d=.loc j off
 |.clo g caps,.ref b' off',d=>b'=0∧off'=0∧∃caps',d=.clo g caps'∧All2 (fun p q:Nat×Nat=>lent[p.1]?=some q.1∧q.2=p.2) caps caps'
 |_,_,_=>False
def BoxR (h:Heap) (m:Nat) (xs:List C) (j:Nat):Prop:=xs.length=m∧∃ds,getH h j=.box ds∧All2 CD xs ds
def CkR (h:Heap) (k0:Nat):CK→C→D→Prop
 |.c,c,d=>CD c d∨∃j off len cs esz fz ety,d=.arr j off len∧k0≤j∧getH h j=.arr cs esz fz ety∧off+len * esz≤cs.length∧c=.slice ((cs.drop off).take (len * esz)) len
 |.d,c,d=>CD c d
 |.full,c,d=>∃cs n,c=.slice cs n∧d=.full cs n
 |.own esz ety fr al,c,d=>∃cs n,c=.slice cs n∧cs.length=n * esz∧
   ((∃j fz,d=.arr j 0 n∧k0≤j∧getH h j=.arr cs esz fz ety∧0 < esz∧fz≤cs.length∧(fr=false→fz=0))∨(d=.full cs n∧al=false∧(fr=false→cs=[]∧n=0)))
def RsR (h:Heap) (k0:Nat):RS→V→D→Prop
 |.one k,.one c,d=>CkR h k0 k c d
 |.agg ks,.agg cs,d=>∃ds,d=.agg ds∧All3 (CkR h k0) ks cs ds
 |_,_,_=>False
def ownC:CK→D→List Nat
 |.own _ _ _ _,.arr j _ _=>[j]
 |_,_=>[]
def ownCs:List CK→List D→List Nat
 |k::ks,d::ds=>ownC k d++ownCs ks ds
 |_,_=>[]
def ownR:RS→D→List Nat
 |.one k,d=>ownC k d
 |.agg ks,.agg ds=>ownCs ks ds
 |_,_=>[]
def ownRs:List RS→List D→List Nat
 |k::ks,d::ds=>ownR k d++ownRs ks ds
 |_,_=>[]
def FnSim (F:Tab) (s:Sig) (f:Nat) (as:List LA) (bs:List (List C)) (vs:List V) (bs':List (List C)):Prop:=
 ∀(h:Heap) (k:Nat) (lent:List Nat) (ds:List D),All3 (ArgR lent) s.params as ds→All3 (BoxR h) s.boxes bs lent→lent.Nodup→(∀j∈lent,j < k)→
  ∃n rs h' k',evBody F n f ds h k=some (rs,h',k')∧k≤k'∧(∀j,j < k→j ∉ lent→getH h' j=getH h j)∧All3 (BoxR h') s.boxes bs' lent∧All3 (RsR h' k) s.rs vs rs∧(ownRs s.rs rs).Nodup∧∀j∈ownRs s.rs rs,j < k'
def shapeA:List PS→List LA→Prop
 |[],[]=>True
 |.one::ps,.v (.one _)::as=>shapeA ps as
 |.agg m::ps,.v (.agg xs)::as=>xs.length=m∧shapeA ps as
 |.ref b off::ps,.ref b' off'::as=>b'=b∧off'=off∧shapeA ps as
 |.clo _ _::ps,.ref b' off'::as=>b'=0∧off'=0∧shapeA ps as
 |_,_=>False
def CallsOK (F:Tab) (sig:Nat→Option Sig) (call:FnT):Prop:=∀f as bs r,call f as bs=some r→∃s,sig f=some s∧shapeA s.params as∧All2 (fun m (xs:List C)=>xs.length=m) s.boxes bs∧
 (s.nat=false→FnSim F s (s.cd f) as bs r.1 r.2∧∀vs,F.nat (s.cd f) vs=none)∧(s.nat=true→∃vs,as=vs.map .v∧∃n0,∀n,n0≤n→evFn F n f vs=some r.1)
theorem CkR.upd {h h':Heap} {k0:Nat} (hh:∀j cs esz fz ety,getH h j=.arr cs esz fz ety→∃fz',getH h' j=.arr cs esz fz' ety) {c:C} {d:D} (hr:CkR h k0 .c c d):CkR h' k0 .c c d:=by
 rcases hr with hr|⟨j,off,len,cs,esz,fz,ety,h1,h2,h3,h4⟩
 ·exact .inl hr
 ·obtain ⟨fz',h5⟩:=hh _ _ _ _ _ h3
  exact .inr ⟨j,off,len,cs,esz,fz',ety,h1,h2,h5,h4⟩
theorem CkR.frz {h:Heap} {k0:Nat} {ck:CK} {c:C} {d:D} (hr:CkR h k0 ck c d):∃us,Ey.frz h d=some (c,us)∧(∀p∈us,k0≤p.1)∧∀j cs esz fz ety,getH h j=.arr cs esz fz ety→∃fz',getH (updH h us) j=.arr cs esz fz' ety:=by
 have triv:∀{c:C} {d:D},CD c d→∃us,Ey.frz h d=some (c,us)∧(∀p∈us,k0≤p.1)∧∀j cs esz fz ety,getH h j=.arr cs esz fz ety→∃fz',getH (updH h us) j=.arr cs esz fz' ety:=by
  intro c d hc
  refine ⟨[],?_,by simp,fun j cs esz fz ety hg=>⟨fz,hg⟩⟩
  rcases hc with rfl|⟨cs,n,rfl,rfl⟩<;>rfl
 have arr:∀{j off len:Nat} {cs:List C} {esz fz ety:Nat},k0≤j→getH h j=.arr cs esz fz ety→off+len * esz≤cs.length→∃us,Ey.frz h (.arr j off len)=some (.slice ((cs.drop off).take (len * esz)) len,us)∧(∀p∈us,k0≤p.1)∧∀j cs esz fz ety,getH h j=.arr cs esz fz ety→∃fz',getH (updH h us) j=.arr cs esz fz' ety:=by
  intro j off len cs esz fz ety hk hg hl
  by_cases hz:off+len * esz≤fz
  ·exact ⟨[],by simp only [Ey.frz,hg];rw [if_pos hl,if_pos hz],by simp,fun _ _ _ fz _ h=>⟨fz,h⟩⟩
  ·refine ⟨[(j,.arr cs esz (off+len * esz) ety)],by simp only [Ey.frz,hg];rw [if_pos hl,if_neg hz],by simpa using hk,fun q cs' esz' fz' ety' hq=>?_⟩
   simp only [updH,getH]
   split
   ·rename_i e;subst e;rw [hg] at hq;injection hq with e1 e2 e3 e4;subst e1 e2 e3 e4;exact ⟨_,rfl⟩
   ·exact ⟨fz',hq⟩
 cases ck with
 |c=>
  rcases hr with hr|⟨j,off,len,cs,esz,fz,ety,rfl,h2,h3,h4,rfl⟩
  ·exact triv hr
  ·exact arr h2 h3 h4
 |d=>exact triv hr
 |full=>obtain ⟨cs,n,rfl,rfl⟩:=hr;exact triv (.inr ⟨cs,n,rfl,rfl⟩)
 |own esz ety fr al=>
  obtain ⟨cs,n,rfl,h1,h2⟩:=hr
  rcases h2 with ⟨j,fz,rfl,h3,h4,h5,h6,_⟩|⟨rfl,_⟩
  ·have:=arr (off:=0) (len:=n) h3 h4 (by omega)
   rw [show (cs.drop 0).take (n * esz)=cs by rw [←h1];simp] at this
   exact this
  ·exact triv (.inr ⟨cs,n,rfl,rfl⟩)
theorem CkR.mono {h h':Heap} {k0:Nat} (hh:∀j cs esz fz ety,getH h j=.arr cs esz fz ety→∃fz',getH h' j=.arr cs esz fz' ety) {ck:CK} {c:C} {d:D} (hr:CkR h k0 ck c d):∃ck',CkR h' k0 ck' c d:=by
 cases ck with
 |c=>exact ⟨.c,hr.upd hh⟩
 |d=>exact ⟨.d,hr⟩
 |full=>exact ⟨.full,hr⟩
 |own esz ety fr al=>
  obtain ⟨cs,n,rfl,h1,h2⟩:=hr
  rcases h2 with ⟨j,fz,rfl,h3,h4,h5,h6,_⟩|⟨rfl,_⟩
  ·obtain ⟨fz',h7⟩:=hh _ _ _ _ _ h4
   exact ⟨.c,.inr ⟨j,0,n,cs,esz,fz',ety,rfl,h3,h7,by omega,by rw [←h1];simp⟩⟩
  ·exact ⟨.d,.inr ⟨cs,n,rfl,rfl⟩⟩
def AnyR (h:Heap) (k0:Nat) (c:C) (d:D):Prop:=∃ck,CkR h k0 ck c d
theorem frzL_res {k0:Nat}:∀{cs:List C} {ds:List D} {h:Heap},All2 (AnyR h k0) cs ds→∃us,frzL h ds=some (cs,us)∧(∀p∈us,k0≤p.1)∧∀j xs esz fz ety,getH h j=.arr xs esz fz ety→∃fz',getH (updH h us) j=.arr xs esz fz' ety
 |[],[],h,_=>⟨[],rfl,by simp,fun _ _ _ fz _ h=>⟨fz,h⟩⟩
 |c::cs,d::ds,h,hr=>by
  obtain ⟨⟨ck,h1⟩,h2⟩:=hr
  obtain ⟨us,k1,k2,k3⟩:=h1.frz
  obtain ⟨vs,l1,l2,l3⟩:=frzL_res (h:=updH h us) (h2.mono fun c d ⟨ck,hc⟩=>hc.mono k3)
  refine ⟨us++vs,by simp [frzL,k1,l1],fun p hp=>?_,fun j xs esz fz ety hg=>?_⟩
  ·rw [List.mem_append] at hp;exact hp.elim (k2 p) (l2 p)
  ·obtain ⟨fz',hg'⟩:=k3 _ _ _ _ _ hg
   rw [updH_append']
   exact l3 _ _ _ _ _ hg'
 |[],_::_,_,hr=>hr.elim
 |_::_,[],_,hr=>hr.elim
def AnyV (h:Heap) (k0:Nat):V→D→Prop
 |.one c,d=>AnyR h k0 c d
 |.agg cs,d=>∃ds,d=.agg ds∧All2 (AnyR h k0) cs ds
theorem AnyV.mono {h h':Heap} {k0:Nat} (hh:∀j cs esz fz ety,getH h j=.arr cs esz fz ety→∃fz',getH h' j=.arr cs esz fz' ety) {v:V} {d:D} (hr:AnyV h k0 v d):AnyV h' k0 v d:=by
 cases v with
 |one c=>obtain ⟨ck,h1⟩:=hr;exact h1.mono hh
 |agg cs=>obtain ⟨ds,h1,h2⟩:=hr;exact ⟨ds,h1,h2.mono fun c d ⟨ck,hc⟩=>hc.mono hh⟩
theorem frzVs_res {k0:Nat}:∀{vs:List V} {ds:List D} {h:Heap},All2 (AnyV h k0) vs ds→∃us,frzVs h ds=some (vs,us)∧(∀p∈us,k0≤p.1)∧∀j xs esz fz ety,getH h j=.arr xs esz fz ety→∃fz',getH (updH h us) j=.arr xs esz fz' ety
 |[],[],h,_=>⟨[],rfl,by simp,fun _ _ _ fz _ h=>⟨fz,h⟩⟩
 |v::vs,d::ds,h,hr=>by
  have h1:∃us,frzV h d=some (v,us)∧(∀p∈us,k0≤p.1)∧∀j xs esz fz ety,getH h j=.arr xs esz fz ety→∃fz',getH (updH h us) j=.arr xs esz fz' ety:=by
   cases v with
   |one c=>
    obtain ⟨ck,h1⟩:=hr.1
    obtain ⟨us,k1,k2,k3⟩:=h1.frz
    exact ⟨us,frzV_one k1,k2,k3⟩
   |agg cs=>
    obtain ⟨es,h1,h2⟩:=hr.1
    subst h1
    obtain ⟨us,k1,k2,k3⟩:=frzL_res h2
    exact ⟨us,by simp [frzV,k1],k2,k3⟩
  obtain ⟨us,k1,k2,k3⟩:=h1
  obtain ⟨ws,l1,l2,l3⟩:=frzVs_res (h:=updH h us) (hr.2.mono fun v d h=>h.mono k3)
  refine ⟨us++ws,by simp [frzVs,k1,l1],fun p hp=>?_,fun j xs esz fz ety hg=>?_⟩
  ·rw [List.mem_append] at hp;exact hp.elim (k2 p) (l2 p)
  ·obtain ⟨fz',hg'⟩:=k3 _ _ _ _ _ hg
   rw [updH_append']
   exact l3 _ _ _ _ _ hg'
 |[],_::_,_,hr=>hr.elim
 |_::_,[],_,hr=>hr.elim
theorem ckAll {h:Heap} {k0:Nat}:∀{ks:List CK} {cs:List C} {ds:List D},All3 (CkR h k0) ks cs ds→All2 (AnyR h k0) cs ds
 |[],[],[],_=>trivial
 |k::_,_::_,_::_,h1=>⟨⟨k,h1.1⟩,ckAll h1.2⟩
 |[],_::_,_,h1=>h1.elim
 |[],[],_::_,h1=>h1.elim
 |_::_,[],_,h1=>h1.elim
 |_::_,_::_,[],h1=>h1.elim
theorem RsR.any {h:Heap} {k0:Nat} {rs:RS} {v:V} {d:D} (hr:RsR h k0 rs v d):AnyV h k0 v d:=by
 cases rs with
 |one k=>cases v with
  |one c=>exact ⟨k,hr⟩
  |agg cs=>exact hr.elim
 |agg ks=>cases v with
  |one c=>exact hr.elim
  |agg cs=>obtain ⟨ds,h1,h2⟩:=hr;exact ⟨ds,h1,ckAll h2⟩
theorem rsAll {h:Heap} {k0:Nat}:∀{ks:List RS} {vs:List V} {ds:List D},All3 (RsR h k0) ks vs ds→All2 (AnyV h k0) vs ds
 |[],[],[],_=>trivial
 |_::_,_::_,_::_,h1=>⟨h1.1.any,rsAll h1.2⟩
 |[],_::_,_,h1=>h1.elim
 |[],[],_::_,h1=>h1.elim
 |_::_,[],_,h1=>h1.elim
 |_::_,_::_,[],h1=>h1.elim
theorem frzA_of {h:Heap} {d:D} {c:C} {us:List (Nat×Obj)} (hf:frz h d=some (c,us)):∃d1,frzA h d=some (d1,us)∧CD c d1:=by
 cases d with
 |arr j off len=>exact ⟨.c c,by simp [frzA,hf],.inl rfl⟩
 |c x=>simp only [frz,Option.some.injEq,Prod.mk.injEq] at hf;obtain ⟨rfl,rfl⟩:=hf;exact ⟨_,rfl,.inl rfl⟩
 |full cs n=>simp only [frz,Option.some.injEq,Prod.mk.injEq] at hf;obtain ⟨rfl,rfl⟩:=hf;exact ⟨_,rfl,.inr ⟨cs,n,rfl,rfl⟩⟩
 |_=>cases hf
theorem frzAs_of:∀{ds:List D} {h:Heap} {cs:List C} {us:List (Nat×Obj)},frzL h ds=some (cs,us)→∃ds1,frzAs h ds=some (ds1,us)∧All2 CD cs ds1
 |[],h,cs,us,hf=>by
  simp only [frzL,Option.some.injEq,Prod.mk.injEq] at hf
  obtain ⟨rfl,rfl⟩:=hf
  exact ⟨[],rfl,trivial⟩
 |d::ds,h,cs,us,hf=>by
  simp only [frzL,Option.bind_eq_bind,Option.bind_eq_some_iff,Option.some.injEq,Prod.mk.injEq,Prod.exists] at hf
  obtain ⟨c,u,h1,cs',us',h2,rfl,rfl⟩:=hf
  obtain ⟨d1,k1,k2⟩:=frzA_of h1
  obtain ⟨ds1,k3,k4⟩:=frzAs_of h2
  exact ⟨d1::ds1,by simp [frzAs,k1,k3],k2,k4⟩
theorem frzD_of {h:Heap} {d:D} {v:V} {us:List (Nat×Obj)} (hf:frzV h d=some (v,us)):∃d1,frzD h d=some (d1,us)∧VD v d1:=by
 by_cases ha:∃ds,d=.agg ds
 ·obtain ⟨ds,rfl⟩:=ha
  simp only [frzV,Option.bind_eq_bind,Option.bind_eq_some_iff,Option.some.injEq,Prod.mk.injEq,Prod.exists] at hf
  obtain ⟨cs,u,h1,rfl,rfl⟩:=hf
  obtain ⟨ds1,k1,k2⟩:=frzAs_of h1
  exact ⟨.agg ds1,by simp [frzD,k1],ds1,rfl,k2⟩
 ·have hf':(frz h d).bind (fun p=>some (V.one p.1,p.2))=some (v,us):=by cases d<;>first|exact hf|exact absurd ⟨_,rfl⟩ ha
  simp only [Option.bind_eq_some_iff,Option.some.injEq,Prod.mk.injEq,Prod.exists] at hf'
  obtain ⟨c,u,h1,rfl,rfl⟩:=hf'
  obtain ⟨d1,k1,k2⟩:=frzA_of h1
  have:frzD h d=frzA h d:=by cases d<;>first|rfl|exact absurd ⟨_,rfl⟩ ha
  exact ⟨d1,by rw [this];exact k1,k2⟩
theorem frzDs_of:∀{ds:List D} {h:Heap} {vs:List V} {us:List (Nat×Obj)},frzVs h ds=some (vs,us)→∃ds1,frzDs h ds=some (ds1,us)∧All2 VD vs ds1
 |[],h,cs,us,hf=>by
  simp only [frzVs,Option.some.injEq,Prod.mk.injEq] at hf
  obtain ⟨rfl,rfl⟩:=hf
  exact ⟨[],rfl,trivial⟩
 |d::ds,h,cs,us,hf=>by
  simp only [frzVs,Option.bind_eq_bind,Option.bind_eq_some_iff,Option.some.injEq,Prod.mk.injEq,Prod.exists] at hf
  obtain ⟨c,u,h1,cs',us',h2,rfl,rfl⟩:=hf
  obtain ⟨d1,k1,k2⟩:=frzD_of h1
  obtain ⟨ds1,k3,k4⟩:=frzDs_of h2
  exact ⟨d1::ds1,by simp [frzDs,k1,k3],k2,k4⟩
theorem VD.refl (v:V):VD v v.toD:=by
 cases v with
 |one c=>exact .inl rfl
 |agg cs=>
  refine ⟨_,rfl,?_⟩
  induction cs with
  |nil=>trivial
  |cons c cs ih=>exact ⟨.inl rfl,ih⟩
def VsW:List (Option Nat)→List V→List W→Prop
 |[],_,[]=>True
 |none::ss,.one c::vs,.c c'::ws=>c'=c∧VsW ss vs ws
 |some m::ss,.agg xs::vs,.l xs'::ws=>xs'=xs∧xs.length=m∧VsW ss vs ws
 |_,_,_=>False
theorem bindVs_some {α:Type} {vs:List V} {k:List W→Option α} {r:α}:∀{ss:List (Option Nat)} {j:Nat} {ρ:List W},bindVs vs k ss j ρ=some r→∃ws,VsW ss (vs.drop j) ws∧k (ρ++ws)=some r
 |[],j,ρ,h=>⟨[],trivial,by rw [List.append_nil];exact h⟩
 |none::ss,j,ρ,h=>by
  simp only [bindVs,Option.bind_eq_some_iff] at h
  obtain ⟨c,h1,h2⟩:=h
  obtain ⟨ws,h3,h4⟩:=bindVs_some h2
  unfold getOne at h1
  split at h1
  case h_2=>cases h1
  rename_i c' hg
  simp only [Option.some.injEq] at h1
  subst h1
  obtain ⟨hlt,hge⟩:=List.getElem?_eq_some_iff.1 hg
  refine ⟨.c c'::ws,?_,by rw [List.append_assoc] at h4;exact h4⟩
  rw [List.drop_eq_getElem_cons hlt,hge]
  exact ⟨rfl,h3⟩
 |some m::ss,j,ρ,h=>by
  simp only [bindVs,Option.bind_eq_some_iff] at h
  obtain ⟨c,h1,h2⟩:=h
  obtain ⟨ws,h3,h4⟩:=bindVs_some h2
  unfold getAgg at h1
  split at h1
  case h_2=>cases h1
  rename_i xs hg
  split at h1
  case isFalse=>cases h1
  rename_i hl
  simp only [Option.some.injEq] at h1
  subst h1
  obtain ⟨hlt,hge⟩:=List.getElem?_eq_some_iff.1 hg
  refine ⟨.l xs::ws,?_,by rw [List.append_assoc] at h4;exact h4⟩
  rw [List.drop_eq_getElem_cons hlt,hge]
  exact ⟨rfl,hl,h3⟩
theorem bindBs_some {α:Type} {bs:List (List C)} {k:List W→Option α} {r:α}:∀{ss:List Nat} {j:Nat} {ρ:List W},bindBs bs k ss j ρ=some r→∃xss:List (List C),All2 (fun m xs=>xs.length=m) ss xss∧(∀q,q < ss.length→bs[j+q]?=xss[q]?)∧k (ρ++xss.map .l)=some r
 |[],j,ρ,h=>⟨[],trivial,by simp,by rw [List.map_nil,List.append_nil];exact h⟩
 |m::ss,j,ρ,h=>by
  simp only [bindBs,Option.bind_eq_some_iff] at h
  obtain ⟨c,h1,h2⟩:=h
  obtain ⟨xss,h3,h4,h5⟩:=bindBs_some h2
  unfold getBox at h1
  split at h1
  case h_2=>cases h1
  rename_i xs hg
  split at h1
  case isFalse=>cases h1
  rename_i hl
  simp only [Option.some.injEq] at h1
  subst h1
  refine ⟨xs::xss,⟨hl,h3⟩,fun q hq=>?_,by rw [List.append_assoc] at h5;exact h5⟩
  cases q with
  |zero=>simpa using hg
  |succ q=>
   rw [show j+(q+1)=j+1+q by omega,h4 q (by simpa using hq)]
   simp
theorem VsW.len:∀{ss:List (Option Nat)} {vs:List V} {ws:List W},VsW ss vs ws→ws.length=ss.length
 |[],_,[],_=>rfl
 |none::_,.one _::_,.c _::_,h=>by simp [VsW.len h.2]
 |some _::_,.agg _::_,.l _::_,h=>by simp [VsW.len h.2.2]
theorem nths_all {N:Nm} {i:Nat} {xs:List C} (hw:getW N.ρ i=some (.l xs)):All2 (RDc N) ((nths i 0 xs.length).map .a) (xs.map .c):=by
 have:=nths_ok hw xs.length 0 (by omega)
 simpa using this
theorem resC_ok {N:Nm}:∀{ss:List (Option Nat)} {vs:List V} {ws pre post:List W},VsW ss vs ws→vs.length=ss.length→N.ρ=pre++ws++post→∀{ds:List SD} {ls:List (Nat×Nat)},resC ss pre.length=(ds,ls)→
  All2 (RA N) ds (vs.map V.toD)∧∀i m,(i,m)∈ls→∃xs,getW N.ρ i=some (.l xs)∧xs.length=m
 |[],[],[],_,_,_,_,_,ds,ls,h=>by
  simp only [resC,Prod.mk.injEq] at h
  obtain ⟨rfl,rfl⟩:=h
  exact ⟨trivial,by simp⟩
 |none::ss,.one c::vs,.c c'::ws,pre,post,hw,hl,hρ,ds,ls,h=>by
  obtain ⟨rfl,hw⟩:=hw
  cases hr:resC ss (pre.length+1) with
  |mk ds' ls'=>
   simp only [resC,hr,Prod.mk.injEq] at h
   obtain ⟨rfl,rfl⟩:=h
   obtain ⟨h1,h2⟩:=resC_ok (N:=N) (pre:=pre++[.c c']) (post:=post) hw (by simpa using hl) (by rw [hρ];simp) (by simpa using hr)
   refine ⟨⟨⟨c',?_,.inl rfl⟩,h1⟩,h2⟩
   rw [hρ,List.append_assoc]
   exact at_new pre c' _
 |some m::ss,.agg xs::vs,.l xs'::ws,pre,post,hw,hl,hρ,ds,ls,h=>by
  obtain ⟨rfl,hm,hw⟩:=hw
  cases hr:resC ss (pre.length+1) with
  |mk ds' ls'=>
   simp only [resC,hr,Prod.mk.injEq] at h
   obtain ⟨rfl,rfl⟩:=h
   obtain ⟨h1,h2⟩:=resC_ok (N:=N) (pre:=pre++[.l xs']) (post:=post) hw (by simpa using hl) (by rw [hρ];simp) (by simpa using hr)
   have hg:getW N.ρ pre.length=some (.l xs'):=by rw [hρ,List.append_assoc];exact getW_len pre _ _
   subst hm
   refine ⟨⟨⟨_,rfl,nths_all hg⟩,h1⟩,fun i q hi=>?_⟩
   simp only [List.mem_cons,Prod.mk.injEq] at hi
   rcases hi with ⟨rfl,rfl⟩|hi
   ·exact ⟨xs',hg,rfl⟩
   ·exact h2 i q hi
 |[],_::_,_,_,_,_,hl,_,_,_,_=>by simp at hl
 |_::_,[],_,_,_,_,hl,_,_,_,_=>by simp at hl
 |[],[],_::_,_,_,hw,_,_,_,_,_=>hw.elim
 |none::_,.agg _::_,_,_,_,hw,_,_,_,_,_=>hw.elim
 |none::_,.one _::_,[],_,_,hw,_,_,_,_,_=>hw.elim
 |none::_,.one _::_,.l _::_,_,_,hw,_,_,_,_,_=>hw.elim
 |some _::_,.one _::_,_,_,_,hw,_,_,_,_,_=>hw.elim
 |some _::_,.agg _::_,[],_,_,hw,_,_,_,_,_=>hw.elim
 |some _::_,.agg _::_,.c _::_,_,_,hw,_,_,_,_,_=>hw.elim
theorem tup_ret {N:Nm} {ds:List SD} {vs:List V} (h:All2 (RA N) ds (vs.map V.toD)):RD N (tupS ds) (retD vs):=by
 match ds,vs,h with
 |[],[],_=>exact ⟨[],rfl,trivial⟩
 |[d],[v],h=>exact h.1.toD
 |d::d'::ds,v::v'::vs,h=>exact ⟨_,rfl,h⟩
theorem taDs_v {ρ:List W}:∀{vs:List TV} {as:List LA},taDs ρ (vs.map .v)=some as→∃xs,tvDs ρ vs=some xs∧as=xs.map .v
 |[],as,h=>by simp only [List.map_nil,taDs,Option.some.injEq] at h;subst h;exact ⟨[],rfl,rfl⟩
 |v::vs,as,h=>by
  simp only [List.map_cons,taDs,taD,Option.bind_eq_some_iff,Option.some.injEq] at h
  obtain ⟨a,⟨x,h1,rfl⟩,as',h2,rfl⟩:=h
  obtain ⟨xs,h3,rfl⟩:=taDs_v h2
  exact ⟨x::xs,by simp [tvDs,h1,h3],rfl⟩
theorem args_of {lent:List Nat}:∀{ps:List PS} {vs:List V} {ds:List D},shapeA ps (vs.map .v)→All2 VD vs ds→All3 (ArgR lent) ps (vs.map .v) ds
 |[],[],[],_,_=>trivial
 |.one::ps,.one c::vs,d::ds,h1,h2=>⟨h2.1,args_of h1 h2.2⟩
 |.agg m::ps,.agg xs::vs,d::ds,h1,h2=>⟨⟨h1.1,h2.1⟩,args_of h1.2 h2.2⟩
 |[],_::_,_,h1,_=>h1.elim
 |[],[],_::_,_,h2=>h2.elim
 |_::_,_::_,[],_,h2=>h2.elim
 |.one::_,[],_,h1,_=>h1.elim
 |.agg _::_,[],_,h1,_=>h1.elim
 |.ref _ _::_,[],_,h1,_=>h1.elim
 |.clo _ _::_,[],_,h1,_=>h1.elim
 |.clo _ _::_,.one _::_,_::_,h1,_=>h1.elim
 |.clo _ _::_,.agg _::_,_::_,h1,_=>h1.elim
 |.one::_,.agg _::_,_::_,h1,_=>h1.elim
 |.agg _::_,.one _::_,_::_,h1,_=>h1.elim
 |.ref _ _::_,.one _::_,_::_,h1,_=>h1.elim
 |.ref _ _::_,.agg _::_,_::_,h1,_=>h1.elim
theorem vd_refls:∀vs:List V,All2 VD vs (vs.map V.toD)
 |[]=>trivial
 |v::vs=>⟨VD.refl v,vd_refls vs⟩
theorem FnSim.fn {F:Tab} {s:Sig} {f:Nat} {vs:List V} {rs:List V} {bs':List (List C)} (h:FnSim F s f (vs.map .v) [] rs bs') (hs:shapeA s.params (vs.map .v)) (hb:s.boxes=[]) (hnat:F.nat f vs=none):∃n0,∀n,n0≤n→evFn F n f vs=some rs:=by
 obtain ⟨n,ds,h',k',h1,h2,h3,h4,h5,_⟩:=h [] 0 [] (vs.map V.toD) (args_of hs (vd_refls vs)) (by rw [hb];trivial) List.nodup_nil (by simp)
 obtain ⟨us,k1,_⟩:=frzVs_res (rsAll h5)
 refine ⟨n+1,fun m hm=>?_⟩
 refine evFn_le hm f vs rs ?_
 simp only [evFn,hnat,h1,k1,Option.bind_eq_bind,Option.bind_some]
section
variable {b:Bs} {ρ:List W} {μ:Nat→Option Nat} {σ:Sy} {h:Heap} {k:Nat} {call:FnT} {head:HdT} {kt:SD→Sy→Nat→Tree} {r:R} {F:Tab} {sig:Nat→Option Sig}
theorem symCall_ok (hcall:CallsOK F sig call) (hm:Rm b (nm ρ μ σ) h k σ.lens) {f:Nat} {sds:List SD} {ds:List D} (hds:All2 (RD (nm ρ μ σ)) sds ds) (hd:denT call head (symCall sig σ ρ.length f sds kt) ρ=some r):
  ∃n0 vs us rs,frzVs h ds=some (vs,us)∧(∀n,n0≤n→evFn F n f vs=some rs)∧PostI b ρ μ σ h k call head kt r (sds.flatMap idsS) (retD rs) us:=by
 unfold symCall at hd
 split at hd
 case h_2=>cases hd
 rename_i s tvs us' hs hf
 obtain ⟨vs,us,k1,k2,k3,k4,k5⟩:=frzVSs_ok hm hds hf
 by_cases hcd:s.code=none
 case neg=>rw [if_neg hcd] at hd;cases hd
 rw [if_pos hcd] at hd
 have hcd':s.cd f=f:=by simp [Sig.cd,hcd]
 cases hr:resC (s.rs.map RS.shape) ρ.length with
 |mk sres ls=>
  simp only [hr,denT,Option.bind_eq_some_iff] at hd
  obtain ⟨as,h1,bs,h2,rr,h3,hd⟩:=hd
  obtain ⟨xs,h4,rfl⟩:=taDs_v h1
  have e1:xs=vs:=by have:tvDs ρ tvs=some vs:=k2;rw [h4] at this;injection this
  subst e1
  simp only [slDs,Option.some.injEq] at h2
  subst h2
  obtain ⟨s',g1,g2,g3,g4⟩:=hcall _ _ _ _ h3
  rw [hs] at g1;injection g1 with g1;subst g1
  have hb:s.boxes=[]:=by cases hsb:s.boxes with|nil=>rfl|cons _ _=>rw [hsb] at g3;exact g3.elim
  obtain ⟨n0,hn⟩:∃n0,∀n,n0≤n→evFn F n f xs=some rr.1:=by
   cases hsn:s.nat with
   |false=>obtain ⟨q1,q2⟩:=g4.1 hsn;rw [hcd'] at q1 q2;exact q1.fn g2 hb (q2 _)
   |true=>
    obtain ⟨vs',q1,q2⟩:=g4.2 hsn
    have:xs=vs':=by
     have inj:∀a b:List V,a.map LA.v=b.map LA.v→a=b:=by
      intro a
      induction a with
      |nil=>intro b hb;cases b with|nil=>rfl|cons _ _=>simp at hb
      |cons x a ih=>intro b hb;cases b with
       |nil=>simp at hb
       |cons y b=>simp only [List.map_cons,List.cons.injEq,LA.v.injEq] at hb;rw [hb.1,ih b hb.2]
     exact inj _ _ q1
    subst this
    exact q2
  unfold sized at hd
  split at hd
  case isFalse=>cases hd
  rename_i hsz
  obtain ⟨ws,w1,w2⟩:=bindVs_some hd
  simp only [bindBs] at w2
  rw [List.drop_zero] at w1
  refine ⟨n0,xs,us,rr.1,k1,hn,ws,μ,(σ.upd us').addLens ls,tupS sres,rfl,?_,?_,?_,?_,?_⟩
  ·exact k3.trans (sev_ext _ ws)
  ·refine Rm.lens' ((k4.ext ws).tick (Nat.le_succ k)) fun i m hi=>?_
   simp only [Sy.addLens,Sy.upd,List.mem_append] at hi
   rcases hi with hi|hi
   ·exact (resC_ok (N:=nm (ρ++ws) μ ((σ.upd us').addLens ls)) (pre:=ρ) (post:=[]) w1 hsz.1 (by simp [nm]) hr).2 i m hi
   ·exact (k4.ext ws).lens i m hi
  ·exact tup_ret (resC_ok (N:=nm (ρ++ws) μ ((σ.upd us').addLens ls)) (pre:=ρ) (post:=[]) w1 hsz.1 (by simp [nm]) hr).1
  ·rw [List.length_append,w1.len];exact w2
  ·intro j hj
   obtain ⟨i,q1,q2,q3⟩:=k5 j hj
   exact ⟨i,wrote_mem (.inl q1),q2,q3⟩
theorem Rm.adopt {N:Nm} {lens:List (Nat×Nat)} (hm:Rm b N h k lens) {q:Nat} {o:SO} (hq:q < k) (hb:b.k0≤q) (hf:∀i,i < N.nx→N.μ i≠some q) (hob:SEv N (N.new (some q) o)→ROb (N.new (some q) o) h N.nx o):SEv N (N.new (some q) o)∧Rm b (N.new (some q) o) h k lens:=by
 have hv:SEv N (N.new (some q) o):=by
  refine ⟨fun _ _ h=>h,fun _ _ h=>h,Nat.le_succ _,fun i hi=>?_,fun p y' esz ety fr' al' hp hg=>?_⟩
  ·show (if i=N.nx then some q else N.μ i)=N.μ i
   rw [if_neg (by omega)]
  ·simp only [Nm.new,getO_cons] at hg
   rw [if_neg (by omega)] at hg
   exact ⟨y',fr',al',hg,id,fun cs _ hc=>⟨cs,hc,fun _=>rfl⟩⟩
 have hmu:∀i p,i < N.nx+1→(N.new (some q) o).μ i=some p→(i=N.nx∧p=q)∨(i < N.nx∧N.μ i=some p):=by
  intro i p hi hp
  by_cases he:i=N.nx
  ·have hp':some q=some p:=by simpa [Nm.new,he] using hp
   injection hp' with hp';exact .inl ⟨he,hp'.symm⟩
  ·have hp':N.μ i=some p:=by simpa [Nm.new,he] using hp
   exact .inr ⟨by omega,hp'⟩
 refine ⟨hv,fun p=>?_,fun i i' p h1 h2 h3 h4=>?_,fun i p h1 h2=>?_,fun p hp=>?_,fun i p h1 h2=>?_,hm.frame,hm.le,hm.lens⟩
 ·show ROb (N.new (some q) o) h p (getO ((N.nx,o)::N.hs) p)
  rw [getO_cons]
  by_cases he:N.nx=p
  ·subst he;rw [if_pos rfl];exact hob hv
  ·rw [if_neg he]
   by_cases hp:p < N.nx
   ·exact (hm.obj p).mono hv hp fun _ _=>rfl
   ·rw [hm.dom p (Nat.le_of_not_lt hp)];trivial
 ·rcases hmu i p h1 h3 with ⟨a1,a2⟩|⟨a1,a2⟩<;>rcases hmu i' p h2 h4 with ⟨b1,b2⟩|⟨b1,b2⟩
  ·omega
  ·exact absurd (a2▸b2) (hf i' b1)
  ·exact absurd (b2▸a2) (hf i a1)
  ·exact hm.inj i i' p a1 b1 a2 b2
 ·rcases hmu i p h1 h2 with ⟨_,a2⟩|⟨a1,a2⟩
  ·omega
  ·exact hm.lt _ _ a1 a2
 ·show getO ((N.nx,o)::N.hs) p=.dead
  have hp':N.nx+1≤p:=hp
  rw [getO_cons,if_neg (by omega)]
  exact hm.dom p (by omega)
 ·rcases hmu i p h1 h2 with ⟨_,a2⟩|⟨a1,a2⟩
  ·left;omega
  ·exact hm.base i p a1 a2
end
end Go.Ey

namespace Go.Ey
section
variable {b:Bs} {ρ:List W} {μ:Nat→Option Nat} {σ:Sy} {h:Heap} {k:Nat} {call:FnT} {head:HdT} {kt:SD→Sy→Nat→Tree} {r:R} {F:Tab} {sig:Nat→Option Sig}
theorem Rm.adoptN {N:Nm} {lens:List (Nat×Nat)} (hm:Rm b N h k lens) {o:SO} (hob:SEv N (N.new none o)→ROb (N.new none o) h N.nx o):SEv N (N.new none o)∧Rm b (N.new none o) h k lens:=by
 have hv:SEv N (N.new none o):=by
  refine ⟨fun _ _ h=>h,fun _ _ h=>h,Nat.le_succ _,fun i hi=>?_,fun p y' esz ety fr' al' hp hg=>?_⟩
  ·show (if i=N.nx then none else N.μ i)=N.μ i
   rw [if_neg (by omega)]
  ·simp only [Nm.new,getO_cons] at hg
   rw [if_neg (by omega)] at hg
   exact ⟨y',fr',al',hg,id,fun cs _ hc=>⟨cs,hc,fun _=>rfl⟩⟩
 have hmu:∀i p,i < N.nx+1→(N.new none o).μ i=some p→i < N.nx∧N.μ i=some p:=by
  intro i p hi hp
  by_cases he:i=N.nx
  ·simp [Nm.new,he] at hp
  ·have hp':N.μ i=some p:=by simpa [Nm.new,he] using hp
   exact ⟨by omega,hp'⟩
 refine ⟨hv,fun p=>?_,fun i i' p h1 h2 h3 h4=>?_,fun i p h1 h2=>?_,fun p hp=>?_,fun i p h1 h2=>?_,hm.frame,hm.le,hm.lens⟩
 ·show ROb (N.new none o) h p (getO ((N.nx,o)::N.hs) p)
  rw [getO_cons]
  by_cases he:N.nx=p
  ·subst he;rw [if_pos rfl];exact hob hv
  ·rw [if_neg he]
   by_cases hp:p < N.nx
   ·exact (hm.obj p).mono hv hp fun _ _=>rfl
   ·rw [hm.dom p (Nat.le_of_not_lt hp)];trivial
 ·obtain ⟨a1,a2⟩:=hmu i p h1 h3
  obtain ⟨b1,b2⟩:=hmu i' p h2 h4
  exact hm.inj i i' p a1 b1 a2 b2
 ·obtain ⟨a1,a2⟩:=hmu i p h1 h2;exact hm.lt _ _ a1 a2
 ·show getO ((N.nx,o)::N.hs) p=.dead
  have hp':N.nx+1≤p:=hp
  rw [getO_cons,if_neg (by omega)]
  exact hm.dom p (by omega)
 ·obtain ⟨a1,a2⟩:=hmu i p h1 h2;exact hm.base i p a1 a2
def CkS (h:Heap) (k0:Nat):CK→C→D→Prop
 |.c,c,d=>CD c d
 |ck,c,d=>CkR h k0 ck c d
def Reach (nx:Nat) (μ μ':Nat→Option Nat) (nx':Nat) (own:List Nat):Prop:=∀i j,i < nx'→μ' i=some j→(i < nx∧μ i=some j)∨j∈own
theorem ckS_ok (hm:Rm b (nm ρ μ σ) h k σ.lens) {k0:Nat} (hb:b.k0≤k0) {x:At} {c:C} (hx:atC ρ x=some c) {ck:CK} {d:D} (hr:CkS h k0 ck c d) (hown:∀j∈ownC ck d,j < k∧∀i,i < σ.nx→μ i≠some j) {sd:SD} {σ':Sy} (hc:ckS σ x ck=(sd,σ')):
  ∃μ',SEv (nm ρ μ σ) (nm ρ μ' σ')∧Rm b (nm ρ μ' σ') h k σ'.lens∧RDc (nm ρ μ' σ') sd d∧σ'.env=σ.env∧Reach σ.nx μ μ' σ'.nx (ownC ck d):=by
 have same:∀{sd:SD},RDc (nm ρ μ σ) sd d→∃μ',SEv (nm ρ μ σ) (nm ρ μ' σ)∧Rm b (nm ρ μ' σ) h k σ.lens∧RDc (nm ρ μ' σ) sd d∧σ.env=σ.env∧Reach σ.nx μ μ' σ.nx (ownC ck d):=
  fun h=>⟨μ,SEv.refl _,hm,h,rfl,fun i j h1 h2=> .inl ⟨h1,h2⟩⟩
 cases ck with
 |c=>
  simp only [ckS,Prod.mk.injEq] at hc
  obtain ⟨rfl,rfl⟩:=hc
  exact same ⟨c,hx,hr⟩
 |d=>
  simp only [ckS,Prod.mk.injEq] at hc
  obtain ⟨rfl,rfl⟩:=hc
  exact same ⟨c,hx,hr⟩
 |full=>
  simp only [ckS,Prod.mk.injEq] at hc
  obtain ⟨rfl,rfl⟩:=hc
  obtain ⟨cs,n,rfl,rfl⟩:=hr
  exact same ⟨cs,n,hx,rfl⟩
 |own esz ety fr al=>
  simp only [ckS,Prod.mk.injEq] at hc
  obtain ⟨rfl,rfl⟩:=hc
  obtain ⟨cs,n,rfl,h1,h2⟩:=hr
  rcases h2 with ⟨j,fz,rfl,h3,h4,h5,h6,h7⟩|⟨rfl,h3,h4⟩
  ·obtain ⟨hj,hf⟩:=hown j (by simp [ownC])
   obtain ⟨v1,v2⟩:=hm.adopt (o:=.arr x esz ety fr al) hj (Nat.le_trans hb h3) hf fun hv=>⟨cs,n,hx,h1,.inl ⟨j,fz,new_mu _ _ _,h4,h5,h6,h7⟩⟩
   refine ⟨((nm ρ μ σ).new (some j) (.arr x esz ety fr al)).μ,v1,v2,⟨Nat.lt_succ_self _,.inl ⟨j,n,new_mu (nm ρ μ σ) _ _,rfl,fun y e t f a hg=>?_⟩⟩,rfl,fun i q hi hq=>?_⟩
   ·have hg:SO.arr x esz ety fr al=.arr y e t f a:=by simpa [nm,Sy.new,getO] using hg
    injection hg with hg;subst hg;exact ⟨cs,hx⟩
   ·by_cases he:i=σ.nx
    ·have hq':some j=some q:=by simpa [Nm.new,nm,he] using hq
     injection hq' with hq';right;simp [ownC,hq']
    ·left
     have hi':i < σ.nx+1:=hi
     exact ⟨by omega,by simpa [Nm.new,nm,he] using hq⟩
  ·obtain ⟨v1,v2⟩:=hm.adoptN (o:=.arr x esz ety fr al) fun hv=>⟨cs,n,hx,h1,.inr ⟨new_mu _ _ _,h3,h4⟩⟩
   refine ⟨((nm ρ μ σ).new none (.arr x esz ety fr al)).μ,v1,v2,⟨Nat.lt_succ_self _,.inr ⟨new_mu (nm ρ μ σ) _ _,cs,n,rfl,fun y e t f a hg=>?_⟩⟩,rfl,fun i q hi hq=>?_⟩
   ·have hg:SO.arr x esz ety fr al=.arr y e t f a:=by simpa [nm,Sy.new,getO] using hg
    injection hg with hg;subst hg;exact hx
   ·by_cases he:i=σ.nx
    ·simp [Nm.new,nm,he] at hq
    ·left
     have hi':i < σ.nx+1:=hi
     exact ⟨by omega,by simpa [Nm.new,nm,he] using hq⟩
theorem Reach.trans {nx nx1 nx2:Nat} {μ μ1 μ2:Nat→Option Nat} {o1 o2:List Nat} (h:Reach nx μ μ1 nx1 o1) (h':Reach nx1 μ1 μ2 nx2 o2):Reach nx μ μ2 nx2 (o1++o2):=fun i j hi hj=>by
 rcases h' i j hi hj with ⟨a,c⟩|a
 ·rcases h i j a c with h1|h1
  ·exact .inl h1
  ·exact .inr (List.mem_append.2 (.inl h1))
 ·exact .inr (List.mem_append.2 (.inr a))
theorem own_rest {o1 o2:List Nat} (hn:(o1++o2).Nodup) (hown:∀j∈o1++o2,j < k∧∀i,i < σ.nx→μ i≠some j) {μ':Nat→Option Nat} {nx':Nat} (hr:Reach σ.nx μ μ' nx' o1):∀j∈o2,j < k∧∀i,i < nx'→μ' i≠some j:=by
 intro j hj
 obtain ⟨h1,h2⟩:=hown j (List.mem_append.2 (.inr hj))
 refine ⟨h1,fun i hi he=>?_⟩
 rcases hr i j hi he with ⟨a,c⟩|a
 ·exact h2 i a c
 ·exact (List.nodup_append.1 hn).2.2 j a j hj rfl
theorem ckSs_ok {k0:Nat} (hb:b.k0≤k0) {i:Nat} {xs:List C} (hw:getW ρ i=some (.l xs)):∀{ks:List CK} {cs:List C} {ds:List D} {j:Nat} {μ:Nat→Option Nat} {σ:Sy},Rm b (nm ρ μ σ) h k σ.lens→xs.drop j=cs→All3 (CkS h k0) ks cs ds→
  (ownCs ks ds).Nodup→(∀j∈ownCs ks ds,j < k∧∀i,i < σ.nx→μ i≠some j)→∀{sds:List SD} {σ':Sy},ckSs σ i ks j=(sds,σ')→
  ∃μ',SEv (nm ρ μ σ) (nm ρ μ' σ')∧Rm b (nm ρ μ' σ') h k σ'.lens∧All2 (RDc (nm ρ μ' σ')) sds ds∧σ'.env=σ.env∧Reach σ.nx μ μ' σ'.nx (ownCs ks ds)
 |[],[],[],j,μ,σ,hm,_,_,_,_,sds,σ',hc=>by
  simp only [ckSs,Prod.mk.injEq] at hc
  obtain ⟨rfl,rfl⟩:=hc
  exact ⟨μ,SEv.refl _,hm,trivial,rfl,fun i j h1 h2=> .inl ⟨h1,h2⟩⟩
 |ck::ks,c::cs,d::ds,j,μ,σ,hm,hx,hr,hn,hown,sds,σ',hc=>by
  have hlt:j < xs.length:=by
   rcases Nat.lt_or_ge j xs.length with h|h
   ·exact h
   ·rw [List.drop_of_length_le h] at hx;cases hx
  rw [List.drop_eq_getElem_cons hlt] at hx
  injection hx with hx1 hx2
  have hat:atC ρ (.n i j)=some c:=by simp only [atC,hw,nthC_drop xs j hlt,hx1]
  cases h1:ckS σ (.n i j) ck with
  |mk sd σ1=>
   cases h2:ckSs σ1 i ks (j+1) with
   |mk sds2 σ2=>
    simp only [ckSs,h1,h2,Prod.mk.injEq] at hc
    obtain ⟨rfl,rfl⟩:=hc
    simp only [ownCs] at hn hown ⊢
    obtain ⟨μ1,a1,a2,a3,a4,a5⟩:=ckS_ok hm hb hat hr.1 (fun j hj=>hown j (List.mem_append.2 (.inl hj))) h1
    obtain ⟨μ2,b1,b2,b3,b4,b5⟩:=ckSs_ok hb hw a2 hx2 hr.2 (List.nodup_append.1 hn).2.1 (own_rest hn hown a5) h2
    exact ⟨μ2,a1.trans b1,b2,⟨b1.dc a3,b3⟩,b4.trans a4,a5.trans b5⟩
 |[],_::_,_,_,_,_,_,_,hr,_,_,_,_,_=>hr.elim
 |[],[],_::_,_,_,_,_,_,hr,_,_,_,_,_=>hr.elim
 |_::_,[],_,_,_,_,_,_,hr,_,_,_,_,_=>hr.elim
 |_::_,_::_,[],_,_,_,_,_,hr,_,_,_,_,_=>hr.elim
def RsS (h:Heap) (k0:Nat):RS→V→D→Prop
 |.one k,.one c,d=>CkS h k0 k c d
 |.agg ks,.agg cs,d=>∃ds,d=.agg ds∧All3 (CkS h k0) ks cs ds
 |_,_,_=>False
theorem resL_ok {k0:Nat} (hb:b.k0≤k0):∀{ks:List RS} {vs:List V} {ds:List D} {ws pre post:List W} {μ:Nat→Option Nat} {σ:Sy},Rm b (nm ρ μ σ) h k σ.lens→VsW (ks.map RS.shape) vs ws→ρ=pre++ws++post→All3 (RsS h k0) ks vs ds→
  (ownRs ks ds).Nodup→(∀j∈ownRs ks ds,j < k∧∀i,i < σ.nx→μ i≠some j)→∀{sds:List SD} {σ':Sy},resL σ ks pre.length=(sds,σ')→
  ∃μ',SEv (nm ρ μ σ) (nm ρ μ' σ')∧Rm b (nm ρ μ' σ') h k σ'.lens∧All2 (RA (nm ρ μ' σ')) sds ds∧σ'.env=σ.env∧Reach σ.nx μ μ' σ'.nx (ownRs ks ds)
 |[],[],[],ws,pre,post,μ,σ,hm,_,_,_,_,_,sds,σ',hc=>by
  simp only [resL,Prod.mk.injEq] at hc
  obtain ⟨rfl,rfl⟩:=hc
  exact ⟨μ,SEv.refl _,hm,trivial,rfl,fun i j h1 h2=> .inl ⟨h1,h2⟩⟩
 |.one ck::ks,.one c::vs,d::ds,.c c'::ws,pre,post,μ,σ,hm,hw,hρ,hr,hn,hown,sds,σ',hc=>by
  obtain ⟨rfl,hw⟩:=hw
  have hat:atC ρ (.v pre.length)=some c':=by rw [hρ,List.append_assoc];exact at_new pre c' _
  cases h1:ckS σ (.v pre.length) ck with
  |mk sd σ1=>
   cases h2:resL σ1 ks (pre.length+1) with
   |mk sds2 σ2=>
    simp only [resL,h1,h2,Prod.mk.injEq] at hc
    obtain ⟨rfl,rfl⟩:=hc
    simp only [ownRs,ownR] at hn hown ⊢
    obtain ⟨μ1,a1,a2,a3,a4,a5⟩:=ckS_ok hm hb hat hr.1 (fun j hj=>hown j (List.mem_append.2 (.inl hj))) h1
    obtain ⟨μ2,b1,b2,b3,b4,b5⟩:=resL_ok (pre:=pre++[.c c']) (post:=post) hb a2 hw (by rw [hρ];simp) hr.2 (List.nodup_append.1 hn).2.1 (own_rest hn hown a5) (by simpa using h2)
    exact ⟨μ2,a1.trans b1,b2,⟨b1.ra a3.toA,b3⟩,b4.trans a4,a5.trans b5⟩
 |.agg cks::ks,.agg cs::vs,d::ds,.l cs'::ws,pre,post,μ,σ,hm,hw,hρ,hr,hn,hown,sds,σ',hc=>by
  obtain ⟨rfl,hlen,hw⟩:=hw
  have hg:getW ρ pre.length=some (.l cs'):=by rw [hρ,List.append_assoc];exact getW_len pre _ _
  obtain ⟨⟨es,rfl,hr1⟩,hr2⟩:=hr
  have hm0:Rm b (nm ρ μ (σ.len pre.length cks.length)) h k (σ.len pre.length cks.length).lens:=by
   refine Rm.lens' hm fun i m hi=>?_
   simp only [Sy.len,List.mem_cons,Prod.mk.injEq] at hi
   rcases hi with ⟨rfl,rfl⟩|hi
   ·exact ⟨cs',hg,hlen⟩
   ·exact hm.lens i m hi
  cases h1:ckSs (σ.len pre.length cks.length) pre.length cks 0 with
  |mk sd σ1=>
   cases h2:resL σ1 ks (pre.length+1) with
   |mk sds2 σ2=>
    simp only [resL,h1,h2,Prod.mk.injEq] at hc
    obtain ⟨rfl,rfl⟩:=hc
    simp only [ownRs,ownR] at hn hown ⊢
    obtain ⟨μ1,a1,a2,a3,a4,a5⟩:=ckSs_ok hb hg hm0 (List.drop_zero ..) hr1 (List.nodup_append.1 hn).1 (fun j hj=>hown j (List.mem_append.2 (.inl hj))) h1
    obtain ⟨μ2,b1,b2,b3,b4,b5⟩:=resL_ok (pre:=pre++[.l cs']) (post:=post) hb a2 hw (by rw [hρ];simp) hr2 (List.nodup_append.1 hn).2.1 (own_rest (σ:=σ) hn hown a5) (by simpa using h2)
    exact ⟨μ2,SEv.trans (show SEv (nm ρ μ σ) (nm ρ μ1 σ1) from a1) b1,b2,⟨⟨es,rfl,a3.mono fun _ _=>b1.dc⟩,b3⟩,b4.trans a4,a5.trans b5⟩
 |[],_::_,_,_,_,_,_,_,_,_,_,hr,_,_,_,_,_=>hr.elim
 |[],[],_::_,_,_,_,_,_,_,_,_,hr,_,_,_,_,_=>hr.elim
 |_::_,[],_,_,_,_,_,_,_,_,_,hr,_,_,_,_,_=>hr.elim
 |_::_,_::_,[],_,_,_,_,_,_,_,_,hr,_,_,_,_,_=>hr.elim
 |.one _::_,.agg _::_,_::_,_,_,_,_,_,_,_,_,hr,_,_,_,_,_=>hr.1.elim
 |.agg _::_,.one _::_,_::_,_,_,_,_,_,_,_,_,hr,_,_,_,_,_=>hr.1.elim
 |.one _::_,.one _::_,_::_,[],_,_,_,_,_,hw,_,_,_,_,_,_,_=>hw.elim
 |.one _::_,.one _::_,_::_,.l _::_,_,_,_,_,_,hw,_,_,_,_,_,_,_=>hw.elim
 |.agg _::_,.agg _::_,_::_,[],_,_,_,_,_,hw,_,_,_,_,_,_,_=>hw.elim
 |.agg _::_,.agg _::_,_::_,.c _::_,_,_,_,_,_,hw,_,_,_,_,_,_,_=>hw.elim
end
end Go.Ey
