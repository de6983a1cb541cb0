/- A part. -/
import Derived.Test.YtolnnaanmfnkjaaGreatDoorZ10
set_option linter.all false
namespace Go.Ey
def GA:SD->Bool
 |.rq=>false
 |_=>true
def yt:SD->Bool
 |.rq=>false
 |.agg ds=>ds.all GA
 |_=>true
def l8 (N:Nm) (js is:List Nat):Prop:=∀j,j∈js->∃i∈is,i < N.nx/\N.μ i=some j
theorem l8.nil {N:Nm} {is:List Nat}:l8 N [] is:=fun j hj=>by simp at hj
theorem l8.append {N:Nm} {js js' is is':List Nat} (h:l8 N js is) (h':l8 N js' is'):l8 N (js++js') (is++is'):=fun j hj=>by
 rw [B0] at hj;rcases hj with hj|hj
 ·obtain ⟨i,h1,h2⟩:=h j hj;exact ⟨i,B0.2 (.inl h1),h2⟩
 ·obtain ⟨i,h1,h2⟩:=h' j hj;exact ⟨i,B0.2 (.inr h1),h2⟩
def aak:D->List Nat
 |.arr id _ _=>[id]
 |_=>[]
theorem XN (ds:List D):dm (.agg ds)=ds.flatMap aak:=rfl
theorem ack {N:Nm} {sd:SD} {d:D} (hr:rJ N sd d) (ho:GA sd=true):l8 N (aak d) (Td sd):=by
 cases sd with
 |rq=>cases ho
 |a x=>obtain ⟨c,_,rfl|⟨cs,n,_,rfl⟩⟩:=hr<;>exact l8.nil
 |full x=>obtain ⟨cs,n,_,rfl⟩:=hr;exact l8.nil
 |loc i o=>obtain ⟨_,j,_,rfl⟩:=hr;exact l8.nil
 |arr i=>
  obtain ⟨hi,⟨j,len,h1,rfl,_⟩|⟨_,cs,n,rfl,_⟩⟩:=hr
  ·intro q hq;simp [aak] at hq;subst hq;exact ⟨i,by simp [Td],hi,h1⟩
  ·exact l8.nil
 |view i x=>
  obtain ⟨hi,cs,len,_,rfl|⟨j,off,h1,rfl,_⟩⟩:=hr
  ·exact l8.nil
  ·intro q hq;simp [aak] at hq;subst hq;exact ⟨i,by simp [Td],hi,h1⟩
 |nK i x o=>obtain ⟨_,kd,q,_,_,⟨j,o',_,rfl,_⟩|⟨_,cs,rfl,_⟩⟩:=hr<;>exact l8.nil
 |ptr r o e=>obtain ⟨xs,rest,_,_,rfl⟩:=hr;exact l8.nil
 |fq f c=>obtain ⟨c',rfl,_⟩:=hr;exact l8.nil
 |agg ds=>exact hr.elim
 |jG ds=>exact hr.elim
theorem Zn {N:Nm}:∀{ds:List SD} {ds':List D},av (rJ N) ds ds'->ds.all GA=true->l8 N (dm (.agg ds')) (ds.flatMap Td)
 |[],[],_,_=>l8.nil
 |sd::ds,d::ds',hr,ho=>by simp only [I3,A5] at ho;rw [XN,D3,D3];exact (ack hr.1 ho.1).append (Zn hr.2 ho.2)
 |[],_::_,hr,_=>hr.elim
 |_::_,[],hr,_=>hr.elim
theorem qj {N:Nm} {sd:SD} {d:D} (hr:RD N sd d) (ho:yt sd=true):l8 N (dm d) (yg sd):=by
 by_cases ha:∃ds,sd=.agg ds
 ·obtain ⟨ds,rfl⟩:=ha;obtain ⟨ds',rfl,hr⟩:=hr;exact Zn hr ho
 ·by_cases ht:∃ds,sd=.jG ds
  ·obtain ⟨ds,rfl⟩:=ht;obtain ⟨ds',rfl,hr⟩:=hr;exact l8.nil
  ·have hc:rJ N sd d:=hr.c (fun ds e=>ha ⟨ds,e⟩) (fun ds e=>ht ⟨ds,e⟩)
   have hn:GA sd=true:=by cases sd<;>first|rfl|cases ho
   rw [MI fun ds e=>ha ⟨ds,e⟩]
   have:=ack hc hn
   have hda:∀ds,d≠.agg ds:=by
    intro ds e;subst e;cases sd with
    |rq=>cases hn
    |a x=>obtain ⟨c,_,h|⟨cs,n,_,h⟩⟩:=hc<;>cases h
    |full x=>obtain ⟨cs,n,_,h⟩:=hc;cases h
    |loc i o=>obtain ⟨_,j,_,h⟩:=hc;cases h
    |arr i=>obtain ⟨_,⟨j,len,_,h,_⟩|⟨_,cs,n,h,_⟩⟩:=hc<;>cases h
    |view i x=>obtain ⟨_,cs,len,_,h|⟨j,off,_,h,_⟩⟩:=hc<;>cases h
    |nK i x o=>obtain ⟨_,kd,q,_,_,⟨j,o',_,h,_⟩|⟨_,cs,h,_⟩⟩:=hc<;>cases h
    |ptr r o e=>obtain ⟨xs,rest,_,_,h⟩:=hc;cases h
    |fq f c=>obtain ⟨c',h,_⟩:=hc;cases h
    |agg ds=>exact hc.elim
    |jG ds=>exact hc.elim
   cases d<;>first|exact this|exact absurd rfl (hda _)
theorem WB {hs:List (Nat×SO)} {sd:SD} {p:At×List (Nat×SO)} (h:ze hs sd=some p):GA sd=true:=by cases sd<;>first|rfl|cases h
theorem Jz:∀{ds:List SD} {hs:List (Nat×SO)} {p:List At×List (Nat×SO)},Ib hs ds=some p->ds.all GA=true
 |[],_,_,_=>rfl
 |d::ds,hs,p,h=>by simp only [Ib,A1] at h;obtain ⟨x,h1,y,h2,_⟩:=h;simp only [I3,A5];exact ⟨WB h1,Jz h2⟩
theorem ab9 {hs:List (Nat×SO)} {sd:SD} {p:List At×List (Nat×SO)} (h:UA hs sd=some p):yt sd=true:=by cases sd<;>first|rfl|(simp [UA,ze] at h;done)|exact Jz h
theorem QL {lens:List (Nat×Nat)} {hs:List (Nat×SO)} {sd:SD} {p:TV×List (Nat×SO)} (h:FP lens hs sd=some p):yt sd=true:=by cases sd<;>first|rfl|(simp [FP,ze] at h;done)|(simp only [FP,A1] at h;obtain ⟨x,h1,_⟩:=h;exact Jz h1)
theorem NQ {lens:List (Nat×Nat)}:∀{ds:List SD} {hs:List (Nat×SO)} {p:List TV×List (Nat×SO)},FZ lens hs ds=some p->ds.all yt=true
 |[],_,_,_=>rfl
 |d::ds,hs,p,h=>by simp only [FZ,A1] at h;obtain ⟨x,h1,y,h2,_⟩:=h;simp only [I3,A5];exact ⟨QL h1,NQ h2⟩
theorem GL {hs:List (Nat×SO)} {aj:Nat} {sd:SD} {p:At} (h:jS hs aj sd=some p):yt sd=true:=by cases sd<;>first|rfl|cases h
theorem Vs {ds:List SD} (h:ds.all Ar=true):ds.all GA=true:=by
 rw [D0] at h |-;intro x hx;have:=h x hx
 cases x<;>first|rfl|cases this
theorem Nh {sd:SD} {xs:List SD} (h:cellsS sd=some xs):yt sd=true:=by
 cases sd with
 |agg ds=>
  simp only [cellsS] at h;split at h
  ·rename_i hc;exact Vs hc
  ·cases h
 |rq=>simp [cellsS,Ar] at h
 |_=>rfl
theorem P5 {sx:X->SD}:∀{parts:List (Nat×Nat×X)} {ds out:List SD},CL sx ds parts=some out->∀p∈parts,yt (sx p.2.2)=true
 |[],_,_,_,p,hp=>by simp at hp
 |(off,size,x)::parts,ds,out,h,p,hp=>by
  simp only [CL,A1] at h;obtain ⟨xs,h1,h2⟩:=h;split at h2
  case isFalse=>cases h2
  simp only [D2] at hp;rcases hp with rfl|hp
  ·exact Nh h1
  ·exact P5 h2 p hp
theorem Ms {N:Nm} {sx:X->SD} {dx:X->D} (hx:∀x,RD N (sx x) (dx x)) {α:Type} {g:α->X}:∀{l:List α},(∀p∈l,yt (sx (g p))=true)->l8 N (l.flatMap fun p=>dm (dx (g p))) (l.flatMap fun p=>yg (sx (g p)))
 |[],_=>l8.nil
 |p::l,h=>by simp only [D3];exact (qj (hx _) (h p (by simp))).append (Ms hx fun q hq=>h q (by simp [hq]))
section
variable {b:Bs} {ρ:List W} {μ:Nat->Option Nat} {σ:Sy} {h:Heap} {k:Nat} {call:qp} {head:qZ} {kt:SD->Sy->Nat->Tree} {r:R} {sx:X->SD} {dx:X->D}
theorem acM (hx:∀x,RD (nm ρ μ σ) (sx x) (dx x)) (ins:Ins) (hi:∀f xs,ins≠.call f xs) (hd:aA call head (aX σ ρ.length sx kt ins) ρ=some r):l8 (nm ρ μ σ) (touches dx ins) (iL sx ins):=by
 have loc:∀x,(∃i off,sx x=.loc i off)\/(∃i y off,sx x=.nK i y off)\/(∃q off e,sx x=.ptr q off e)->l8 (nm ρ μ σ) (match dx x with|.loc id _=>[id]|_=>[]) (match sx x with|.loc i _=>[i]|.nK i _ _=>[i]|_=>[]):=by
  intro x hs;have hr:=hx x;rcases hs with ⟨i,off,hs⟩|⟨i,y,off,hs⟩|⟨q,off,e,hs⟩
  ·rw [hs] at hr |-;obtain ⟨h0,j,h1,h2⟩:=hr;rw [h2];intro p hp;simp at hp;subst hp;exact ⟨i,by simp,h0,h1⟩
  ·rw [hs] at hr |-;obtain ⟨h0,kd,q,_,_,⟨j,o',h1,h2,_⟩|⟨_,cs,h2,_⟩⟩:=hr
   ·rw [h2];intro p hp;simp at hp;subst hp;exact ⟨i,by simp,h0,h1⟩
   ·rw [h2];exact l8.nil
  ·rw [hs] at hr |-;obtain ⟨xs,rest,_,_,h2⟩:=hr;rw [h2];exact l8.nil
 cases ins with
 |load agg size x=>
  simp only [aX] at hd;simp only [touches,iL];refine loc x ?_;split at hd
  ·rename_i i off hs;exact .inl ⟨i,off,hs⟩
  ·rename_i q off e hs;exact .inr (.inr ⟨q,off,e,hs⟩)
  ·rename_i i y off hs;exact .inr (.inl ⟨i,y,off,hs⟩)
  ·cases hd
 |store size a v=>
  simp only [aX] at hd;simp only [touches,iL];split at hd
  ·rename_i i off hs;have hl:=loc a (.inl ⟨i,off,hs⟩);rw [hs] at hl;refine hl.append (qj (hx v) ?_);split at hd
   ·rename_i hc;exact Nh hc
   ·cases hd
  ·rename_i i y off hs;have hl:=loc a (.inr (.inl ⟨i,y,off,hs⟩));rw [hs] at hl;refine hl.append (qj (hx v) ?_);split at hd
   ·rename_i hf;exact ab9 hf
   ·cases hd
  ·cases hd
 |lits aj ety len zero parts=>
  simp only [aX] at hd;simp only [touches,iL];split at hd
  ·rename_i hf;simp only [A1] at hf;obtain ⟨ds,h1,_⟩:=hf;exact Ms hx fun p hp=>P5 h1 p hp
  ·cases hd
 |toStr x=>
  simp only [aX] at hd;simp only [touches,iL];split at hd
  ·rename_i h1;exact qj (hx x) (GL h1)
  ·cases hd
 |slc aj x lo hi=>
  simp only [aX] at hd;simp only [touches,iL];refine qj (hx x) ?_;split at hd
  ·split at hd
   ·rename_i hs;rw [hs];rfl
   ·rename_i hs;rw [hs];rfl
   ·rename_i hs;rw [hs];rfl
   ·cases hd
  ·cases hd
 |clip aj x lo hi mx=>
  simp only [aX] at hd;simp only [touches,iL];refine qj (hx x) ?_;split at hd
  ·rename_i h1 _ _ _;have h2:=WB h1;have h3:=Tc h1;cases hs:sx x with
   |rq=>rw [hs] at h2;cases h2
   |agg ds=>exact absurd hs (h3.1 ds)
   |_=>rfl
  ·cases hd
 |Gt aj x i=>
  simp only [aX] at hd;simp only [touches,iL];refine qj (hx x) ?_;split at hd
  ·split at hd
   ·rename_i hs;rw [hs];rfl
   ·rename_i hs;rw [hs];rfl
   ·rename_i hs;rw [hs];rfl
   ·cases hd
  ·cases hd
 |app aj ety bytes x y=>
  simp only [aX] at hd;simp only [touches,iL];split at hd
  ·rename_i h1;refine l8.append (qj (hx x) ?_) (qj (hx y) (GL h1));split at hd
   ·rename_i hs;rw [hs];rfl
   ·rename_i hs;rw [hs];rfl
   ·cases hd
  ·cases hd
 |Tf aj x y=>
  simp only [aX] at hd;simp only [touches,iL];split at hd
  ·rename_i h1 hs;exact l8.append (qj (hx x) (by rw [hs];rfl)) (qj (hx y) (GL h1))
  ·cases hd
 |call f xs=>exact absurd rfl (hi f xs)
 |lH f xs=>simp [aX,aA] at hd
 |Pg kind n agg z ok x k=>simp [aX,aA] at hd
 |O0 kind n x k v=>simp [aX,aA] at hd
 |_=>exact l8.nil
theorem acr (hm:Rm b (nm ρ μ σ) h k σ.lens) (hx:∀x,RD (nm ρ μ σ) (sx x) (dx x)) (ins:Ins) (hd:aA call head (aX σ ρ.length sx kt ins) ρ=some r):Goal b ρ μ σ h k call head kt r sx dx ins:=by
 cases ins with
 |YY x=>exact aod hm hx hd
 |pick c a b=>simp [aX,aA] at hd
 |alloc zero=>exact agP hm hx hd
 |box x=>exact anH hm hx hd
 |build zero parts=>exact agy hm hx hd
 |lits aj ety len zero parts=>exact ana hm hx hd
 |load agg size x=>exact am0 hm hx hd
 |store size a v=>exact ag5 hm hx hd
 |FE x=>exact ahR hm hx hd
 |bin op Kg x y=>exact aqr hm hx hd
 |eqs ks neg x y=>exact aqE hm hx hd
 |un op x=>exact atE hm hx hd
 |conv kd x=>exact akJ hm hx hd
 |toStr x=>exact ahV hm hx hd
 |mk aj ety bytes zero l c=>exact ar9 hm hx hd
 |slc aj x lo hi=>exact apJ hm hx hd
 |clip aj x lo hi mx=>exact alQ hm hx hd
 |sls x lo hi=>exact aow hm hx hd
 |O4 off x=>exact alj hm hx hd
 |fld off agg size x=>exact aqg hm hx hd
 |Gt aj x i=>exact am9 hm hx hd
 |BV x i=>exact akY hm hx hd
 |ext x i=>exact anZ hm hx hd
 |len t x=>exact anB hm hx hd
 |app aj ety bytes x y=>exact ap3 hm hx hd
 |Tf aj x y=>exact aps hm hx hd
 |mx x y=>exact ant (isMax:=true) hm hx hd
 |mn x y=>exact ant (isMax:=false) hm hx hd
 |mkf f xs=>exact anG hm hx hd
 |call f xs=>simp [aX,aA] at hd
 |gU f own xs=>simp [aX,aA] at hd
 |lH f xs=>simp [aX,aA] at hd
 |jv x xs=>simp [aX,aA] at hd
 |mkm=>simp [aX,aA] at hd
 |Pg k n ag z ok x y=>simp [aX,aA] at hd
 |O0 k n x y z=>simp [aX,aA] at hd
end
theorem Zh {call call':Callee} (hc:∀f vs,Le (call f vs) (call' f vs)) (dx:X->D) (h:Heap) (slot:Nat) (i:Ins):Le (dX call dx h slot i) (dX call' dx h slot i):=by
 cases i with
 |call f xs=>
  simp only [dX,A2];exact Le.bind (Le.refl _) fun p=>Le.bind (hc _ _) fun _=>Le.refl _
 |_=>exact Le.refl _
theorem NV {call call':Callee} (hc:∀f vs,Le (call f vs) (call' f vs)) (dx:X->D) (h:Heap) (slot:Nat) (i:Ins):Le (og call dx h slot i) (og call' dx h slot i):=by
 unfold og;split
 ·exact Le.refl _
 ·exact Zh hc dx h slot i
theorem Gx {fO Lc:rV} (hl:∀f ds h k,Le (fO f ds h k) (Lc f ds h k)) (own:Nat) (f:Nat) (ds:List D) (h:Heap) (nx:Nat):Le (wZ fO own f ds h nx) (wZ Lc own f ds h nx):=by simp only [wZ,A2];exact Le.bind (Le.refl _) fun p=>Le.bind (hl _ _ _ _) fun _=>Le.refl _
theorem Ac {call call':Callee} {fO Lc:rV} (hc:∀f vs,Le (call f vs) (call' f vs)) (hl:∀f ds h k,Le (fO f ds h k) (Lc f ds h k)):∀(is:List gD) (s:St),Le (mX call fO is s) (mX call' Lc is s)
 |[],s=>Le.refl _
 |i::is,s=>by
  simp only [mX,A2];refine Le.bind (Le.refl _) fun w=>?_
  split
  ·split
   ·exact Le.bind (Gx hl _ _ _ _ _) fun p=>Ac hc hl is _
   ·split
    ·exact Le.bind (Gx hl _ _ _ _ _) fun p=>Ac hc hl is _
    ·exact Le.refl _
   ·exact Le.bind (NV hc _ _ _ _) fun p=>Ac hc hl is _
  ·exact Ac hc hl is _
theorem XC {aK Ed:Bw} (hl:∀f aJ bs,Le (aK f aJ bs) (Ed f aJ bs)) (h:Heap) (f:Nat) (ds:List D):Le (CY aK h f ds) (CY Ed h f ds):=by simp only [CY,A2];exact Le.bind (Le.refl _) fun p=>Le.bind (Le.refl _) fun _=>Le.bind (hl _ _ _) fun _=>Le.refl _
theorem ME {call call':Callee} {aK Ed:Bw} (hc:∀f vs,Le (call f vs) (call' f vs)) (hl:∀f aJ bs,Le (aK f aJ bs) (Ed f aJ bs)) (dx:X->D) (h:Heap) (slot:Nat) (i:Ins):Le (j3 call aK dx h slot i) (j3 call' Ed dx h slot i):=by
 by_cases hne:∃f xs,i=.lH f xs
 ·obtain ⟨f,xs,rfl⟩:=hne;exact XC hl _ _ _
 ·have e:∀c l,j3 c l dx h slot i=og c dx h slot i:=fun c l=>by cases i<;>first|rfl|exact absurd ⟨_,_,rfl⟩ hne
  rw [e,e];exact NV hc dx h slot i
theorem DX {call call':Callee} {aK Ed:Bw} (hc:∀f vs,Le (call f vs) (call' f vs)) (hl:∀f aJ bs,Le (aK f aJ bs) (Ed f aJ bs)) (nx:Nat):∀(is:List gD) (k:Nat) (e:Env) (h:Heap),Le (lT call aK nx k is e h) (lT call' Ed nx k is e h)
 |[],_,_,_=>Le.refl _
 |i::is,k,e,h=>by
  simp only [lT,A2];refine Le.bind (Le.refl _) fun w=>?_
  split
  ·exact Le.bind (ME hc hl _ _ _ _) fun p=>Le.bind (DX hc hl nx is _ _ _) fun _=>Le.refl _
  ·exact Le.bind (DX hc hl nx is _ _ _) fun _=>Le.refl _
theorem CE {call call':Callee} {aK Ed:Bw} {fO Lc:rV} (hc:∀f vs,Le (call f vs) (call' f vs)) (hl:∀f aJ bs,Le (aK f aJ bs) (Ed f aJ bs)) (hd:∀f ds h k,Le (fO f ds h k) (Lc f ds h k)):
  ∀(is:List gD) (k nx:Nat) (acc:List Nat) (e:Env) (h:Heap),Le (CU call aK fO k nx acc is e h) (CU call' Ed Lc k nx acc is e h)
 |[],_,_,_,_,_=>Le.refl _
 |i::is,k,nx,acc,e,h=>by
  simp only [CU,A2];refine Le.bind (Le.refl _) fun w=>?_
  split
  ·split
   ·refine Le.bind ?_ fun p=>Le.bind (CE hc hl hd is _ _ _ _ _) fun _=>Le.refl _
    split
    ·exact Gx hd _ _ _ _ _
    ·exact Le.refl _
   ·exact Le.refl _
   ·exact Le.bind (ME hc hl _ _ _ _) fun p=>Le.bind (CE hc hl hd is _ _ _ _ _) fun _=>Le.refl _
  ·exact Le.bind (CE hc hl hd is _ _ _ _ _) fun _=>Le.refl _
theorem Ie (F:DF):∀n,(∀c s,Le (bZ F n c s) (bZ F (n+1) c s))/\(∀f ds h k,Le (gu F n f ds h k) (gu F (n+1) f ds h k))/\(∀f vs,Le (jL F n f vs) (jL F (n+1) f vs))/\(∀f aJ bs,Le (jI F n f aJ bs) (jI F (n+1) f aJ bs))
 |0=>⟨fun _ _ r h=>by simp [bZ] at h,fun _ _ _ _ r h=>by simp [gu] at h,fun _ _ r h=>by simp [jL] at h,fun _ _ _ r h=>by simp [jI] at h⟩
 |n+1=>by
  obtain ⟨h1,h2,h3,h4⟩:=Ie F n;refine ⟨fun c s=>?_,fun f ds h k=>?_,fun f vs=>?_,fun f aJ bs=>?_⟩
  ·rw [bZ.eq_def,bZ.eq_def F (n+1+1)];cases c with
   |skip=>exact Le.refl _
   |exit id=>exact Le.refl _
   |ret=>exact Le.refl _
   |region is=>
    simp only [A2];exact Le.bind (Ac h3 h2 is s) fun _=>Le.refl _
   |draw is ws=>
    simp only [A2];exact Le.bind (DX h3 h4 _ _ _ _ _) fun _=>Le.refl _
   |mix is ws=>
    simp only [A2];exact Le.bind (CE h3 h4 h2 _ _ _ _ _ _) fun _=>Le.refl _
   |seq a b=>
    simp only [A2];refine Le.bind (h1 a s) fun p=>?_
    split
    ·exact h1 b _
    ·exact Le.refl _
   |cond x a b=>
    simp only [A2];exact Le.bind (Le.refl _) fun t=>h1 _ _
   |block id c=>
    simp only [A2];exact Le.bind (h1 c s) fun _=>Le.refl _
   |loop c=>
    simp only [A2];refine Le.bind (h1 c s) fun p=>?_
    split
    ·exact h1 (.loop c) _
    ·exact Le.refl _
  ·rw [gu,gu];simp only [A2];refine Le.bind (Le.refl _) fun I=>?_
   split
   ·refine Le.bind (h1 _ _) fun p=>?_
    exact Le.refl _
   ·exact Le.refl _
  ·rw [jL,jL];split
   ·exact Le.refl _
   simp only [A2];exact Le.bind (h2 _ _ _ _) fun p=>Le.refl _
  ·rw [jI,jI];simp only [A2];exact Le.bind (h2 _ _ _ _) fun p=>Le.refl _
theorem ET {F:DF} {n n':Nat} (h:n<=n') (c:gQ) (s:St):Le (bZ F n c s) (bZ F n' c s):=by
 induction h with
 |refl=>exact Le.refl _
 |step _ ih=>exact fun r hr=>(Ie F _).1 c s r (ih r hr)
theorem QG {F:DF} {n n':Nat} (h:n<=n') (f:Nat) (ds:List D) (hp:Heap) (k:Nat):Le (gu F n f ds hp k) (gu F n' f ds hp k):=by
 induction h with
 |refl=>exact Le.refl _
 |step _ ih=>exact fun r hr=>(Ie F _).2.1 f ds hp k r (ih r hr)
theorem ah1 {F:DF} {n n':Nat} (h:n<=n') (f:Nat) (vs:List V):Le (jL F n f vs) (jL F n' f vs):=by
 induction h with
 |refl=>exact Le.refl _
 |step _ ih=>exact fun r hr=>(Ie F _).2.2.1 f vs r (ih r hr)
theorem abH {F:DF} {n n':Nat} (h:n<=n') (f:Nat) (aJ:List LV) (bs:List (List C)):Le (jI F n f aJ bs) (jI F n' f aJ bs):=by
 induction h with
 |refl=>exact Le.refl _
 |step _ ih=>exact fun r hr=>(Ie F _).2.2.2 f aJ bs r (ih r hr)
end Go.Ey
namespace Go.Ey
def fB {α β γ:Type} (R:α->β->γ->Prop):List α->List β->List γ->Prop
 |[],[],[]=>True
 |a::aJ,b::bs,c::cs=>R a b c/\fB R aJ bs cs
 |_,_,_=>False
theorem fB.mono {α β γ:Type} {R R':α->β->γ->Prop} (h:∀a b c,R a b c->R' a b c):∀{aJ:List α} {bs:List β} {cs:List γ},fB R aJ bs cs->fB R' aJ bs cs
 |[],[],[],_=>trivial
 |_::_,_::_,_::_,h1=>⟨h _ _ _ h1.1,fB.mono h h1.2⟩
 |[],_::_,_,h1=>h1.elim
 |[],[],_::_,h1=>h1.elim
 |_::_,[],_,h1=>h1.elim
 |_::_,_::_,[],h1=>h1.elim
theorem fB.ab3 {α β γ:Type} {R:α->β->γ->Prop}:∀{aJ:List α} {bs:List β} {cs:List γ},fB R aJ bs cs->aJ.length=bs.length/\aJ.length=cs.length
 |[],[],[],_=>⟨rfl,rfl⟩
 |_::_,_::_,_::_,h1=>by have:=fB.ab3 h1.2;simp;omega
 |[],_::_,_,h1=>h1.elim
 |[],[],_::_,h1=>h1.elim
 |_::_,[],_,h1=>h1.elim
 |_::_,_::_,[],h1=>h1.elim
def VD:V->D->Prop
 |.one c,d=>CD c d
 |.agg cs,d=>∃ds,d=.agg ds/\av CD cs ds
 |.full cs n,d=>CD (.slice cs n) d
def Zf (aK:List Nat):PS->LA->D->Prop
 |.one,.v (.one c),d=>CD c d
 |.agg m,.v (.agg xs),d=>xs.length=m/\VD (.agg xs) d
 |.ref b off,.ref b' off',d=>b'=b/\off'=off/\∃j,aK[b]?=some j/\d=.loc j off
 |.fq g caps,.ref b' off',d=>b'=0/\off'=0/\∃gT,d=.fq g gT/\av (fun p q:Nat×Nat=>aK[p.1]?=some q.1/\q.2=p.2) caps gT
 |_,_,_=>False
def F8 (h:Heap) (m:Nat) (xs:List C) (j:Nat):Prop:=xs.length=m/\∃ds,ax h j=.box ds/\av CD xs ds
def PM (h:Heap) (k0:Nat):CK->C->D->Prop
 |.c,c,d=>CD c d\/∃j off len cs aj fz ety,d=.arr j off len/\k0<=j/\ax h j=.arr cs aj fz ety/\off+len * aj<=cs.length/\c=.slice ((cs.drop off).take (len * aj)) len
 |.d,c,d=>CD c d
 |.full,c,d=>∃cs n,c=.slice cs n/\d=.full cs n
 |.own aj ety fr al,c,d=>∃cs n,c=.slice cs n/\cs.length=n * aj/\
   ((∃j fz,d=.arr j 0 n/\k0<=j/\ax h j=.arr cs aj fz ety/\0 < aj/\fz<=cs.length/\(fr=false->fz=0))\/(d=.full cs n/\al=false/\(fr=false->cs=[]/\n=0)))
def RsR (h:Heap) (k0:Nat):RS->V->D->Prop
 |.one k,.one c,d=>PM h k0 k c d
 |.agg ks,.agg cs,d=>∃ds,d=.agg ds/\fB (PM h k0) ks cs ds
 |_,_,_=>False
def Cm:CK->D->List Nat
 |.own _ _ _ _,.arr j _ _=>[j]
 |_,_=>[]
def BF:List CK->List D->List Nat
 |k::ks,d::ds=>Cm k d++BF ks ds
 |_,_=>[]
def Yo:RS->D->List Nat
 |.one k,d=>Cm k d
 |.agg ks,.agg ds=>BF ks ds
 |_,_=>[]
def oN:List RS->List D->List Nat
 |k::ks,d::ds=>Yo k d++oN ks ds
 |_,_=>[]
def ael (F:DF) (s:eT) (f:Nat) (aJ:List LA) (bs:List (List C)) (vs:List V) (bs':List (List C)):Prop:=
 ∀(h:Heap) (k:Nat) (aK:List Nat) (ds:List D),fB (Zf aK) s.params aJ ds->fB (F8 h) s.boxes bs aK->aK.Nodup->(∀j∈aK,j < k)->
  ∃n rs h' k',gu F n f ds h k=some (rs,h',k')/\k<=k'/\(∀j,j < k->j ∉ aK->ax h' j=ax h j)/\fB (F8 h') s.boxes bs' aK/\fB (RsR h' k) s.rs vs rs/\(oN s.rs rs).Nodup/\∀j∈oN s.rs rs,j < k'
def qA:List PS->List LA->Prop
 |[],[]=>True
 |.one::ps,.v (.one _)::aJ=>qA ps aJ
 |.agg m::ps,.v (.agg xs)::aJ=>xs.length=m/\qA ps aJ
 |.ref b off::ps,.ref b' off'::aJ=>b'=b/\off'=off/\qA ps aJ
 |.fq _ _::ps,.ref b' off'::aJ=>b'=0/\off'=0/\qA ps aJ
 |_,_=>False
def qf (F:DF) (sig:Nat->Option eT) (call:qp):Prop:=∀f aJ bs r,call f aJ bs=some r->∃s,sig f=some s/\qA s.params aJ/\av (fun m (xs:List C)=>xs.length=m) s.boxes bs/\
 (s.nat=false->ael F s (s.cd f) aJ bs r.1 r.2/\∀vs,F.nat (s.cd f) vs=none)/\(s.nat=true->∃vs,aJ=vs.map .v/\∃n0,∀n,n0<=n->jL F n f vs=some r.1)
theorem PM.upd {h h':Heap} {k0:Nat} (hh:∀j cs aj fz ety,ax h j=.arr cs aj fz ety->∃nG,ax h' j=.arr cs aj nG ety) {c:C} {d:D} (hr:PM h k0 .c c d):PM h' k0 .c c d:=by
 rcases hr with hr|⟨j,off,len,cs,aj,fz,ety,h1,h2,h3,h4⟩
 ·exact .inl hr
 ·obtain ⟨nG,h5⟩:=hh _ _ _ _ _ h3;exact .inr ⟨j,off,len,cs,aj,nG,ety,h1,h2,h5,h4⟩
theorem PM.nP {h:Heap} {k0:Nat} {ck:CK} {c:C} {d:D} (hr:PM h k0 ck c d):∃us,Ey.nP h d=some (c,us)/\(∀p∈us,k0<=p.1)/\∀j cs aj fz ety,ax h j=.arr cs aj fz ety->∃nG,ax (ay h us) j=.arr cs aj nG ety:=by
 have LD:∀{c:C} {d:D},CD c d->∃us,Ey.nP h d=some (c,us)/\(∀p∈us,k0<=p.1)/\∀j cs aj fz ety,ax h j=.arr cs aj fz ety->∃nG,ax (ay h us) j=.arr cs aj nG ety:=by
  intro c d hc;refine ⟨[],?_,by simp,fun j cs aj fz ety hg=>⟨fz,hg⟩⟩
  rcases hc with rfl|⟨cs,n,rfl,rfl⟩<;>rfl
 have arr:∀{j off len:Nat} {cs:List C} {aj fz ety:Nat},k0<=j->ax h j=.arr cs aj fz ety->off+len * aj<=cs.length->∃us,Ey.nP h (.arr j off len)=some (.slice ((cs.drop off).take (len * aj)) len,us)/\(∀p∈us,k0<=p.1)/\∀j cs aj fz ety,ax h j=.arr cs aj fz ety->∃nG,ax (ay h us) j=.arr cs aj nG ety:=by
  intro j off len cs aj fz ety hk hg hl;by_cases hz:off+len * aj<=fz
  ·exact ⟨[],by simp only [Ey.nP,hg];rw [C6 hl,C6 hz],by simp,fun _ _ _ fz _ h=>⟨fz,h⟩⟩
  ·refine ⟨[(j,.arr cs aj (off+len * aj) ety)],by simp only [Ey.nP,hg];rw [C6 hl,E0 hz],by simpa using hk,fun q cs' ja nG jY hq=>?_⟩
   simp only [ay,ax];split
   ·rename_i e;subst e;rw [hg] at hq;injection hq with e1 e2 e3 e4;subst e1 e2 e3 e4;exact ⟨_,rfl⟩
   ·exact ⟨nG,hq⟩
 cases ck with
 |c=>
  rcases hr with hr|⟨j,off,len,cs,aj,fz,ety,rfl,h2,h3,h4,rfl⟩
  ·exact LD hr
  ·exact arr h2 h3 h4
 |d=>exact LD hr
 |full=>obtain ⟨cs,n,rfl,rfl⟩:=hr;exact LD (.inr ⟨cs,n,rfl,rfl⟩)
 |own aj ety fr al=>
  obtain ⟨cs,n,rfl,h1,h2⟩:=hr;rcases h2 with ⟨j,fz,rfl,h3,h4,h5,h6,_⟩|⟨rfl,_⟩
  ·have:=arr (off:=0) (len:=n) h3 h4 (by omega)
   rw [show (cs.drop 0).take (n * aj)=cs by rw [<-h1];simp] at this
   exact this
  ·exact LD (.inr ⟨cs,n,rfl,rfl⟩)
theorem PM.mono {h h':Heap} {k0:Nat} (hh:∀j cs aj fz ety,ax h j=.arr cs aj fz ety->∃nG,ax h' j=.arr cs aj nG ety) {ck:CK} {c:C} {d:D} (hr:PM h k0 ck c d):∃ck',PM h' k0 ck' c d:=by
 cases ck with
 |c=>exact ⟨.c,hr.upd hh⟩
 |d=>exact ⟨.d,hr⟩
 |full=>exact ⟨.full,hr⟩
 |own aj ety fr al=>
  obtain ⟨cs,n,rfl,h1,h2⟩:=hr;rcases h2 with ⟨j,fz,rfl,h3,h4,h5,h6,_⟩|⟨rfl,_⟩
  ·obtain ⟨nG,h7⟩:=hh _ _ _ _ _ h4;exact ⟨.c,.inr ⟨j,0,n,cs,aj,nG,ety,rfl,h3,h7,by omega,by rw [<-h1];simp⟩⟩
  ·exact ⟨.d,.inr ⟨cs,n,rfl,rfl⟩⟩
def ai2 (h:Heap) (k0:Nat) (c:C) (d:D):Prop:=∃ck,PM h k0 ck c d
theorem Ww {k0:Nat}:∀{cs:List C} {ds:List D} {h:Heap},av (ai2 h k0) cs ds->∃us,jZ h ds=some (cs,us)/\(∀p∈us,k0<=p.1)/\∀j xs aj fz ety,ax h j=.arr xs aj fz ety->∃nG,ax (ay h us) j=.arr xs aj nG ety
 |[],[],h,_=>⟨[],rfl,by simp,fun _ _ _ fz _ h=>⟨fz,h⟩⟩
 |c::cs,d::ds,h,hr=>by
  obtain ⟨⟨ck,h1⟩,h2⟩:=hr;obtain ⟨us,k1,k2,k3⟩:=h1.nP;obtain ⟨vs,l1,l2,l3⟩:=Ww (h:=ay h us) (h2.mono fun c d ⟨ck,hc⟩=>hc.mono k3)
  refine ⟨us++vs,by simp [jZ,k1,l1],fun p hp=>?_,fun j xs aj fz ety hg=>?_⟩
  ·rw [B0] at hp;exact hp.elim (k2 p) (l2 p)
  ·obtain ⟨nG,hg'⟩:=k3 _ _ _ _ _ hg;rw [gP];exact l3 _ _ _ _ _ hg'
 |[],_::_,_,hr=>hr.elim
 |_::_,[],_,hr=>hr.elim
def abS (h:Heap) (k0:Nat):V->D->Prop
 |.one c,d=>ai2 h k0 c d
 |.agg cs,d=>∃ds,d=.agg ds/\av (ai2 h k0) cs ds
 |.full _ _,_=>False
theorem abS.mono {h h':Heap} {k0:Nat} (hh:∀j cs aj fz ety,ax h j=.arr cs aj fz ety->∃nG,ax h' j=.arr cs aj nG ety) {v:V} {d:D} (hr:abS h k0 v d):abS h' k0 v d:=by
 cases v with
 |one c=>obtain ⟨ck,h1⟩:=hr;exact h1.mono hh
 |agg cs=>obtain ⟨ds,h1,h2⟩:=hr;exact ⟨ds,h1,h2.mono fun c d ⟨ck,hc⟩=>hc.mono hh⟩
 |full _ _=>exact hr.elim
theorem E5 {k0:Nat}:∀{vs:List V} {ds:List D} {h:Heap},av (abS h k0) vs ds->∃us,iX h ds=some (vs,us)/\(∀p∈us,k0<=p.1)/\∀j xs aj fz ety,ax h j=.arr xs aj fz ety->∃nG,ax (ay h us) j=.arr xs aj nG ety
 |[],[],h,_=>⟨[],rfl,by simp,fun _ _ _ fz _ h=>⟨fz,h⟩⟩
 |v::vs,d::ds,h,hr=>by
  have h1:∃us,nN h d=some (v,us)/\(∀p∈us,k0<=p.1)/\∀j xs aj fz ety,ax h j=.arr xs aj fz ety->∃nG,ax (ay h us) j=.arr xs aj nG ety:=by
   cases v with
   |one c=>
    obtain ⟨ck,h1⟩:=hr.1;obtain ⟨us,k1,k2,k3⟩:=h1.nP;exact ⟨us,Ny k1,k2,k3⟩
   |agg cs=>
    obtain ⟨es,h1,h2⟩:=hr.1;subst h1;obtain ⟨us,k1,k2,k3⟩:=Ww h2;exact ⟨us,by simp [nN,k1],k2,k3⟩
   |full _ _=>exact hr.1.elim
  obtain ⟨us,k1,k2,k3⟩:=h1;obtain ⟨ws,l1,l2,l3⟩:=E5 (h:=ay h us) (hr.2.mono fun v d h=>h.mono k3)
  refine ⟨us++ws,by simp [iX,k1,l1],fun p hp=>?_,fun j xs aj fz ety hg=>?_⟩
  ·rw [B0] at hp;exact hp.elim (k2 p) (l2 p)
  ·obtain ⟨nG,hg'⟩:=k3 _ _ _ _ _ hg;rw [gP];exact l3 _ _ _ _ _ hg'
 |[],_::_,_,hr=>hr.elim
 |_::_,[],_,hr=>hr.elim
theorem ajL {h:Heap} {k0:Nat}:∀{ks:List CK} {cs:List C} {ds:List D},fB (PM h k0) ks cs ds->av (ai2 h k0) cs ds
 |[],[],[],_=>trivial
 |k::_,_::_,_::_,h1=>⟨⟨k,h1.1⟩,ajL h1.2⟩
 |[],_::_,_,h1=>h1.elim
 |[],[],_::_,h1=>h1.elim
 |_::_,[],_,h1=>h1.elim
 |_::_,_::_,[],h1=>h1.elim
theorem RsR.any {h:Heap} {k0:Nat} {rs:RS} {v:V} {d:D} (hr:RsR h k0 rs v d):abS h k0 v d:=by
 cases rs with
 |one k=>cases v with
  |one c=>exact ⟨k,hr⟩
  |agg cs=>exact hr.elim
  |full _ _=>exact hr.elim
 |agg ks=>cases v with
  |one c=>exact hr.elim
  |full _ _=>exact hr.elim
  |agg cs=>obtain ⟨ds,h1,h2⟩:=hr;exact ⟨ds,h1,ajL h2⟩
theorem ZU {h:Heap} {k0:Nat}:∀{ks:List RS} {vs:List V} {ds:List D},fB (RsR h k0) ks vs ds->av (abS h k0) vs ds
 |[],[],[],_=>trivial
 |_::_,_::_,_::_,h1=>⟨h1.1.any,ZU h1.2⟩
 |[],_::_,_,h1=>h1.elim
 |[],[],_::_,h1=>h1.elim
 |_::_,[],_,h1=>h1.elim
 |_::_,_::_,[],h1=>h1.elim
theorem aaH {h:Heap} {d:D} {c:C} {us:List (Nat×Obj)} (hf:nP h d=some (c,us)):∃d1,Lm h d=some (d1,us)/\CD c d1:=by
 cases d with
 |arr j off len=>exact ⟨.c c,by simp [Lm,hf],.inl rfl⟩
 |c x=>simp only [nP,A0,A3] at hf;obtain ⟨rfl,rfl⟩:=hf;exact ⟨_,rfl,.inl rfl⟩
 |full cs n=>simp only [nP,A0,A3] at hf;obtain ⟨rfl,rfl⟩:=hf;exact ⟨_,rfl,.inr ⟨cs,n,rfl,rfl⟩⟩
 |_=>cases hf
theorem Wd:∀{ds:List D} {h:Heap} {cs:List C} {us:List (Nat×Obj)},jZ h ds=some (cs,us)->∃ds1,Ox h ds=some (ds1,us)/\av CD cs ds1
 |[],h,cs,us,hf=>by simp only [jZ,A0,A3] at hf;obtain ⟨rfl,rfl⟩:=hf;exact ⟨[],rfl,trivial⟩
 |d::ds,h,cs,us,hf=>by simp only [jZ,A2,A1,A0,A3,C1] at hf;obtain ⟨c,u,h1,cs',us',h2,rfl,rfl⟩:=hf;obtain ⟨d1,k1,k2⟩:=aaH h1;obtain ⟨ds1,k3,k4⟩:=Wd h2;exact ⟨d1::ds1,by simp [Ox,k1,k3],k2,k4⟩
theorem Zv {h:Heap} {d:D} {v:V} {us:List (Nat×Obj)} (hf:nN h d=some (v,us)):∃d1,Sk h d=some (d1,us)/\VD v d1:=by
 by_cases ha:∃ds,d=.agg ds
 ·obtain ⟨ds,rfl⟩:=ha;simp only [nN,A2,A1,A0,A3,C1] at hf;obtain ⟨cs,u,h1,rfl,rfl⟩:=hf;obtain ⟨ds1,k1,k2⟩:=Wd h1;exact ⟨.agg ds1,by simp [Sk,k1],ds1,rfl,k2⟩
 ·have hf':(nP h d).bind (fun p=>some (V.one p.1,p.2))=some (v,us):=by cases d<;>first|exact hf|exact absurd ⟨_,rfl⟩ ha
  simp only [A1,A0,A3,C1] at hf';obtain ⟨c,u,h1,rfl,rfl⟩:=hf';obtain ⟨d1,k1,k2⟩:=aaH h1;have:Sk h d=Lm h d:=by cases d<;>first|rfl|exact absurd ⟨_,rfl⟩ ha
  exact ⟨d1,by rw [this];exact k1,k2⟩
theorem UG:∀{ds:List D} {h:Heap} {vs:List V} {us:List (Nat×Obj)},iX h ds=some (vs,us)->∃ds1,xw h ds=some (ds1,us)/\av VD vs ds1
 |[],h,cs,us,hf=>by simp only [iX,A0,A3] at hf;obtain ⟨rfl,rfl⟩:=hf;exact ⟨[],rfl,trivial⟩
 |d::ds,h,cs,us,hf=>by simp only [iX,A2,A1,A0,A3,C1] at hf;obtain ⟨c,u,h1,cs',us',h2,rfl,rfl⟩:=hf;obtain ⟨d1,k1,k2⟩:=Zv h1;obtain ⟨ds1,k3,k4⟩:=UG h2;exact ⟨d1::ds1,by simp [xw,k1,k3],k2,k4⟩
theorem VD.refl (v:V):VD v v.mY:=by
 cases v with
 |one c=>exact .inl rfl
 |full cs n=>exact .inr ⟨cs,n,rfl,rfl⟩
 |agg cs=>
  refine ⟨_,rfl,?_⟩;induction cs with
  |nil=>trivial
  |cons c cs ih=>exact ⟨.inl rfl,ih⟩
def VsW:List (Option Nat)->List V->List W->Prop
 |[],_,[]=>True
 |none::ss,.one c::vs,.c c'::ws=>c'=c/\VsW ss vs ws
 |some m::ss,.agg xs::vs,.l xs'::ws=>xs'=xs/\xs.length=m/\VsW ss vs ws
 |_,_,_=>False
theorem uk {α:Type} {vs:List V} {k:List W->Option α} {r:α}:∀{ss:List (Option Nat)} {j:Nat} {ρ:List W},fE vs k ss j ρ=some r->∃ws,VsW ss (vs.drop j) ws/\k (ρ++ws)=some r
 |[],j,ρ,h=>⟨[],trivial,by rw [Cl];exact h⟩
 |none::ss,j,ρ,h=>by
  simp only [fE,A1] at h;obtain ⟨c,h1,h2⟩:=h;obtain ⟨ws,h3,h4⟩:=uk h2;unfold getOne at h1;split at h1
  case h_2=>cases h1
  rename_i c' hg;simp only [A0] at h1;subst h1;obtain ⟨hlt,hge⟩:=As.1 hg;refine ⟨.c c'::ws,?_,by rw [B9] at h4;exact h4⟩
  rw [Hh hlt,hge];exact ⟨rfl,h3⟩
 |some m::ss,j,ρ,h=>by
  simp only [fE,A1] at h;obtain ⟨c,h1,h2⟩:=h;obtain ⟨ws,h3,h4⟩:=uk h2;unfold MO at h1;split at h1
  case h_2=>cases h1
  rename_i xs hg;split at h1
  case isFalse=>cases h1
  rename_i hl;simp only [A0] at h1;subst h1;obtain ⟨hlt,hge⟩:=As.1 hg;refine ⟨.l xs::ws,?_,by rw [B9] at h4;exact h4⟩
  rw [Hh hlt,hge];exact ⟨rfl,hl,h3⟩
theorem Eo {α:Type} {bs:List (List C)} {k:List W->Option α} {r:α}:∀{ss:List Nat} {j:Nat} {ρ:List W},gL bs k ss j ρ=some r->∃xss:List (List C),av (fun m xs=>xs.length=m) ss xss/\(∀q,q < ss.length->bs[j+q]?=xss[q]?)/\k (ρ++xss.map .l)=some r
 |[],j,ρ,h=>⟨[],trivial,by simp,by rw [Kx,Cl];exact h⟩
 |m::ss,j,ρ,h=>by
  simp only [gL,A1] at h;obtain ⟨c,h1,h2⟩:=h;obtain ⟨xss,h3,h4,h5⟩:=Eo h2;unfold Q5 at h1;split at h1
  case h_2=>cases h1
  rename_i xs hg;split at h1
  case isFalse=>cases h1
  rename_i hl;simp only [A0] at h1;subst h1;refine ⟨xs::xss,⟨hl,h3⟩,fun q hq=>?_,by rw [B9] at h5;exact h5⟩
  cases q with
  |zero=>simpa using hg
  |succ q=>
   rw [show j+(q+1)=j+1+q by omega,h4 q (by simpa using hq)]
   simp
theorem VsW.len:∀{ss:List (Option Nat)} {vs:List V} {ws:List W},VsW ss vs ws->ws.length=ss.length
 |[],_,[],_=>rfl
 |none::_,.one _::_,.c _::_,h=>by simp [VsW.len h.2]
 |some _::_,.agg _::_,.l _::_,h=>by simp [VsW.len h.2.2]
theorem afK {N:Nm} {i:Nat} {xs:List C} (hw:gG N.ρ i=some (.l xs)):av (rJ N) ((Ba i 0 xs.length).map .a) (xs.map .c):=by
 have:=LX hw xs.length 0 (by omega)
 simpa using this
theorem Mf {N:Nm}:∀{ss:List (Option Nat)} {vs:List V} {ws pre post:List W},VsW ss vs ws->vs.length=ss.length->N.ρ=pre++ws++post->∀{ds:List SD} {ls:List (Nat×Nat)},OP ss pre.length=(ds,ls)->
  av (RA N) ds (vs.map V.mY)/\∀i m,(i,m)∈ls->∃xs,gG N.ρ i=some (.l xs)/\xs.length=m
 |[],[],[],_,_,_,_,_,ds,ls,h=>by simp only [OP,A3] at h;obtain ⟨rfl,rfl⟩:=h;exact ⟨trivial,by simp⟩
 |none::ss,.one c::vs,.c c'::ws,pre,post,hw,hl,hρ,ds,ls,h=>by
  obtain ⟨rfl,hw⟩:=hw;cases hr:OP ss (pre.length+1) with
  |mk ds' ls'=>
   simp only [OP,hr,A3] at h;obtain ⟨rfl,rfl⟩:=h;obtain ⟨h1,h2⟩:=Mf (N:=N) (pre:=pre++[.c c']) (post:=post) hw (by simpa using hl) (by rw [hρ];simp) (by simpa using hr)
   refine ⟨⟨⟨c',?_,.inl rfl⟩,h1⟩,h2⟩;rw [hρ,B9];exact at_new pre c' _
 |some m::ss,.agg xs::vs,.l xs'::ws,pre,post,hw,hl,hρ,ds,ls,h=>by
  obtain ⟨rfl,hm,hw⟩:=hw;cases hr:OP ss (pre.length+1) with
  |mk ds' ls'=>
   simp only [OP,hr,A3] at h;obtain ⟨rfl,rfl⟩:=h;obtain ⟨h1,h2⟩:=Mf (N:=N) (pre:=pre++[.l xs']) (post:=post) hw (by simpa using hl) (by rw [hρ];simp) (by simpa using hr)
   have hg:gG N.ρ pre.length=some (.l xs'):=by rw [hρ,B9];exact mJ pre _ _
   subst hm;refine ⟨⟨⟨_,rfl,afK hg⟩,h1⟩,fun i q hi=>?_⟩
   simp only [D2,A3] at hi;rcases hi with ⟨rfl,rfl⟩|hi
   ·exact ⟨xs',hg,rfl⟩
   ·exact h2 i q hi
 |[],_::_,_,_,_,_,hl,_,_,_,_=>by simp at hl
 |_::_,[],_,_,_,_,hl,_,_,_,_=>by simp at hl
 |[],[],_::_,_,_,hw,_,_,_,_,_=>hw.elim
 |none::_,.agg _::_,_,_,_,hw,_,_,_,_,_=>hw.elim
 |none::_,.one _::_,[],_,_,hw,_,_,_,_,_=>hw.elim
 |none::_,.one _::_,.l _::_,_,_,hw,_,_,_,_,_=>hw.elim
 |some _::_,.one _::_,_,_,_,hw,_,_,_,_,_=>hw.elim
 |some _::_,.agg _::_,[],_,_,hw,_,_,_,_,_=>hw.elim
 |some _::_,.agg _::_,.c _::_,_,_,hw,_,_,_,_,_=>hw.elim
theorem aiQ {N:Nm} {ds:List SD} {vs:List V} (h:av (RA N) ds (vs.map V.mY)):RD N (Zj ds) (RH vs):=by
 match ds,vs,h with
 |[],[],_=>exact ⟨[],rfl,trivial⟩
 |[d],[v],h=>exact h.1.mY
 |d::d'::ds,v::v'::vs,h=>exact ⟨_,rfl,h⟩
theorem acK {ρ:List W}:∀{vs:List TV} {aJ:List LA},sj ρ (vs.map .v)=some aJ->∃xs,Dl ρ vs=some xs/\aJ=xs.map .v
 |[],aJ,h=>by simp only [Kx,sj,A0] at h;subst h;exact ⟨[],rfl,rfl⟩
 |v::vs,aJ,h=>by simp only [D4,sj,XY,A1,A0] at h;obtain ⟨a,⟨x,h1,rfl⟩,as',h2,rfl⟩:=h;obtain ⟨xs,h3,rfl⟩:=acK h2;exact ⟨x::xs,by simp [Dl,h1,h3],rfl⟩
theorem Sc {aK:List Nat}:∀{ps:List PS} {vs:List V} {ds:List D},qA ps (vs.map .v)->av VD vs ds->fB (Zf aK) ps (vs.map .v) ds
 |[],[],[],_,_=>trivial
 |.one::ps,.one c::vs,d::ds,h1,h2=>⟨h2.1,Sc h1 h2.2⟩
 |.agg m::ps,.agg xs::vs,d::ds,h1,h2=>⟨⟨h1.1,h2.1⟩,Sc h1.2 h2.2⟩
 |[],_::_,_,h1,_=>h1.elim
 |[],[],_::_,_,h2=>h2.elim
 |_::_,_::_,[],_,h2=>h2.elim
 |.one::_,[],_,h1,_=>h1.elim
 |.agg _::_,[],_,h1,_=>h1.elim
 |.ref _ _::_,[],_,h1,_=>h1.elim
 |.fq _ _::_,[],_,h1,_=>h1.elim
 |.fq _ _::_,.one _::_,_::_,h1,_=>h1.elim
 |.fq _ _::_,.agg _::_,_::_,h1,_=>h1.elim
 |.one::_,.agg _::_,_::_,h1,_=>h1.elim
 |.agg _::_,.one _::_,_::_,h1,_=>h1.elim
 |.ref _ _::_,.one _::_,_::_,h1,_=>h1.elim
 |.ref _ _::_,.agg _::_,_::_,h1,_=>h1.elim
theorem Mw:∀vs:List V,av VD vs (vs.map V.mY)
 |[]=>trivial
 |v::vs=>⟨VD.refl v,Mw vs⟩
theorem ael.fn {F:DF} {s:eT} {f:Nat} {vs:List V} {rs:List V} {bs':List (List C)} (h:ael F s f (vs.map .v) [] rs bs') (hs:qA s.params (vs.map .v)) (hb:s.boxes=[]) (ate:F.nat f vs=none):∃n0,∀n,n0<=n->jL F n f vs=some rs:=by
 obtain ⟨n,ds,h',k',h1,h2,h3,h4,h5,_⟩:=h [] 0 [] (vs.map V.mY) (Sc hs (Mw vs)) (by rw [hb];trivial) J1 (by simp)
 obtain ⟨us,k1,_⟩:=E5 (ZU h5);refine ⟨n+1,fun m hm=>?_⟩
 refine ah1 hm f vs rs ?_;simp only [jL,ate,h1,k1,A2,A4]
section
variable {b:Bs} {ρ:List W} {μ:Nat->Option Nat} {σ:Sy} {h:Heap} {k:Nat} {call:qp} {head:qZ} {kt:SD->Sy->Nat->Tree} {r:R} {F:DF} {sig:Nat->Option eT}
theorem Mt (hcall:qf F sig call) (hm:Rm b (nm ρ μ σ) h k σ.lens) {f:Nat} {iq:List SD} {ds:List D} (hds:av (RD (nm ρ μ σ)) iq ds) (hd:aA call head (Fg sig σ ρ.length f iq kt) ρ=some r):
  ∃n0 vs us rs,iX h ds=some (vs,us)/\(∀n,n0<=n->jL F n f vs=some rs)/\FQ b ρ μ σ h k call head kt r (iq.flatMap yg) (RH rs) us:=by
 unfold Fg at hd;split at hd
 case h_2=>cases hd
 rename_i s tvs us' hs hf;obtain ⟨vs,us,k1,k2,k3,k4,k5⟩:=QN hm hds hf;by_cases hcd:s.code=none
 case neg=>rw [E0 hcd] at hd;cases hd
 rw [C6 hcd] at hd;have alL:s.cd f=f:=by simp [eT.cd,hcd]
 cases hr:OP (s.rs.map RS.shape) ρ.length with
 |mk acR ls=>
  simp only [hr,aA,A1] at hd;obtain ⟨aJ,h1,bs,h2,rr,h3,hd⟩:=hd;obtain ⟨xs,h4,rfl⟩:=acK h1;have e1:xs=vs:=by have:Dl ρ tvs=some vs:=k2;rw [h4] at this;injection this
  subst e1;simp only [DK,A0] at h2;subst h2;obtain ⟨s',g1,g2,g3,g4⟩:=hcall _ _ _ _ h3;rw [hs] at g1;injection g1 with g1;subst g1
  have hb:s.boxes=[]:=by cases hsb:s.boxes with|nil=>rfl|cons _ _=>rw [hsb] at g3;exact g3.elim
  obtain ⟨n0,hn⟩:∃n0,∀n,n0<=n->jL F n f xs=some rr.1:=by
   cases hsn:s.nat with
   |false=>obtain ⟨q1,q2⟩:=g4.1 hsn;rw [alL] at q1 q2;exact q1.fn g2 hb (q2 _)
   |true=>
    obtain ⟨vs',q1,q2⟩:=g4.2 hsn;have:xs=vs':=by
     have inj:∀a b:List V,a.map LA.v=b.map LA.v->a=b:=by
      intro a;induction a with
      |nil=>intro b hb;cases b with|nil=>rfl|cons _ _=>simp at hb
      |cons x a ih=>intro b hb;cases b with
       |nil=>simp at hb
       |cons y b=>simp only [D4,Dg,LA.v.injEq] at hb;rw [hb.1,ih b hb.2]
     exact inj _ _ q1
    subst this;exact q2
  unfold sized at hd;split at hd
  case isFalse=>cases hd
  rename_i hsz;obtain ⟨ws,w1,w2⟩:=uk hd;simp only [gL] at w2;rw [C4] at w1;refine ⟨n0,xs,us,rr.1,k1,hn,ws,μ,(σ.upd us').IK ls,Zj acR,rfl,?_,?_,?_,?_,?_⟩
  ·exact k3.trans (lC _ ws)
  ·refine Rm.lens' ((k4.ext ws).tick (Mb k)) fun i m hi=>?_
   simp only [Sy.IK,Sy.upd,B0] at hi;rcases hi with hi|hi
   ·exact (Mf (N:=nm (ρ++ws) μ ((σ.upd us').IK ls)) (pre:=ρ) (post:=[]) w1 hsz.1 (by simp [nm]) hr).2 i m hi
   ·exact (k4.ext ws).lens i m hi
  ·exact aiQ (Mf (N:=nm (ρ++ws) μ ((σ.upd us').IK ls)) (pre:=ρ) (post:=[]) w1 hsz.1 (by simp [nm]) hr).1
  ·rw [Ax,w1.len];exact w2
  ·intro j hj;obtain ⟨i,q1,q2,q3⟩:=k5 j hj;exact ⟨i,Fa (.inl q1),q2,q3⟩
theorem Rm.ao4 {N:Nm} {lens:List (Nat×Nat)} (hm:Rm b N h k lens) {q:Nat} {o:SO} (hq:q < k) (hb:b.k0<=q) (hf:∀i,i < N.nx->N.μ i≠some q) (wC:j4 N (N.new (some q) o)->Sr (N.new (some q) o) h N.nx o):j4 N (N.new (some q) o)/\Rm b (N.new (some q) o) h k lens:=by
 have hv:j4 N (N.new (some q) o):=by
  refine ⟨fun _ _ h=>h,fun _ _ h=>h,Mb _,fun i hi=>?_,fun p y' aj ety fr' al' hp hg=>?_⟩
  ·show (if i=N.nx then some q else N.μ i)=N.μ i
   rw [E0 (by omega)]
  ·simp only [Nm.new,dN] at hg;rw [E0 (by omega)] at hg
   exact ⟨y',fr',al',hg,id,fun cs _ hc=>⟨cs,hc,fun _=>rfl⟩⟩
 have hmu:∀i p,i < N.nx+1->(N.new (some q) o).μ i=some p->(i=N.nx/\p=q)\/(i < N.nx/\N.μ i=some p):=by
  intro i p hi hp;by_cases he:i=N.nx
  ·have hp':some q=some p:=by simpa [Nm.new,he] using hp
   injection hp' with hp';exact .inl ⟨he,hp'.symm⟩
  ·have hp':N.μ i=some p:=by simpa [Nm.new,he] using hp
   exact .inr ⟨by omega,hp'⟩
 refine ⟨hv,fun p=>?_,fun i i' p h1 h2 h3 h4=>?_,fun i p h1 h2=>?_,fun p hp=>?_,fun i p h1 h2=>?_,hm.frame,hm.le,hm.lens⟩
 ·show Sr (N.new (some q) o) h p (bX ((N.nx,o)::N.hs) p)
  rw [dN];by_cases he:N.nx=p
  ·subst he;rw [C6 rfl];exact wC hv
  ·rw [E0 he];by_cases hp:p < N.nx
   ·exact (hm.obj p).mono hv hp fun _ _=>rfl
   ·rw [hm.dom p (Ly hp)];trivial
 ·rcases hmu i p h1 h3 with ⟨a1,a2⟩|⟨a1,a2⟩<;>rcases hmu i' p h2 h4 with ⟨b1,b2⟩|⟨b1,b2⟩
  ·omega
  ·exact absurd (a2▸b2) (hf i' b1)
  ·exact absurd (b2▸a2) (hf i a1)
  ·exact hm.inj i i' p a1 b1 a2 b2
 ·rcases hmu i p h1 h2 with ⟨_,a2⟩|⟨a1,a2⟩
  ·omega
  ·exact hm.lt _ _ a1 a2
 ·show bX ((N.nx,o)::N.hs) p=.dead
  have hp':N.nx+1<=p:=hp;rw [dN,E0 (by omega)]
  exact hm.dom p (by omega)
 ·rcases hmu i p h1 h2 with ⟨_,a2⟩|⟨a1,a2⟩
  ·left;omega
  ·exact hm.base i p a1 a2
end
end Go.Ey
