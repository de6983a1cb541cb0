/- A part. -/
import Derived.Test.YtpnjgiplhijhpaaGreatDoorRY12
set_option linter.all false
namespace Go.Ey
def tu:SD->Bool
 |.fK=>false
 |_=>true
def R5:SD->Bool
 |.fK=>false
 |.agg ds=>ds.all tu
 |_=>true
def gz (N:Nm) (js is:List Nat):Prop:=∀j,j∈js->∃i∈is,i < N.nx/\N.μ i=some j
theorem gz.nil {N:Nm} {is:List Nat}:gz N [] is:=fun j hj=>by simp at hj
theorem gz.append {N:Nm} {js js' is is':List Nat} (h:gz N js is) (h':gz N js' is'):gz N (js++js') (is++is'):=fun j hj=>by
 rw [List.mem_append] at hj;rcases hj with hj|hj
 ·obtain ⟨i,h1,h2⟩:=h j hj;exact ⟨i,List.mem_append.2 (.inl h1),h2⟩
 ·obtain ⟨i,h1,h2⟩:=h' j hj;exact ⟨i,List.mem_append.2 (.inr h1),h2⟩
def Lf:D->List Nat
 |.arr id _ _=>[id]
 |_=>[]
theorem I1 (ds:List D):aO (.agg ds)=ds.flatMap Lf:=rfl
theorem O0 {N:Nm} {sd:SD} {d:D} (hr:jo N sd d) (ho:tu sd=true):gz N (Lf d) (EF sd):=by
 cases sd with
 |fK=>cases ho
 |a x=>obtain ⟨c,_,rfl|⟨cs,n,_,rfl⟩⟩:=hr<;>exact gz.nil
 |full x=>obtain ⟨cs,n,_,rfl⟩:=hr;exact gz.nil
 |loc i o=>obtain ⟨_,j,_,rfl⟩:=hr;exact gz.nil
 |arr i=>
  obtain ⟨hi,⟨j,len,h1,rfl,_⟩|⟨_,cs,n,rfl,_⟩⟩:=hr
  ·intro q hq;simp [Lf] at hq;subst hq;exact ⟨i,by simp [EF],hi,h1⟩
  ·exact gz.nil
 |view i x=>
  obtain ⟨hi,cs,len,_,rfl|⟨j,off,h1,rfl,_⟩⟩:=hr
  ·exact gz.nil
  ·intro q hq;simp [Lf] at hq;subst hq;exact ⟨i,by simp [EF],hi,h1⟩
 |gU i x o=>obtain ⟨_,kd,q,_,_,⟨j,o',_,rfl,_⟩|⟨_,cs,rfl,_⟩⟩:=hr<;>exact gz.nil
 |ptr r o e=>obtain ⟨xs,rest,_,_,rfl⟩:=hr;exact gz.nil
 |bJ f c=>obtain ⟨c',rfl,_⟩:=hr;exact gz.nil
 |agg ds=>exact hr.elim
 |dB ds=>exact hr.elim
theorem K9 {N:Nm}:∀{ds:List SD} {ds':List D},aj (jo N) ds ds'->ds.all tu=true->gz N (aO (.agg ds')) (ds.flatMap EF)
 |[],[],_,_=>gz.nil
 |sd::ds,d::ds',hr,ho=>by simp only [List.all_cons,Bool.and_eq_true] at ho;rw [I1,List.flatMap_cons,List.flatMap_cons];exact (O0 hr.1 ho.1).append (K9 hr.2 ho.2)
 |[],_::_,hr,_=>hr.elim
 |_::_,[],hr,_=>hr.elim
theorem iQ {N:Nm} {sd:SD} {d:D} (hr:RD N sd d) (ho:R5 sd=true):gz N (aO d) (kH sd):=by
 by_cases ha:∃ds,sd=.agg ds
 ·obtain ⟨ds,rfl⟩:=ha;obtain ⟨ds',rfl,hr⟩:=hr;exact K9 hr ho
 ·by_cases ht:∃ds,sd=.dB ds
  ·obtain ⟨ds,rfl⟩:=ht;obtain ⟨ds',rfl,hr⟩:=hr;exact gz.nil
  ·have hc:jo N sd d:=hr.c (fun ds e=>ha ⟨ds,e⟩) (fun ds e=>ht ⟨ds,e⟩)
   have hn:tu sd=true:=by cases sd<;>first|rfl|cases ho
   rw [zA fun ds e=>ha ⟨ds,e⟩]
   have:=O0 hc hn
   have hda:∀ds,d≠.agg ds:=by
    intro ds e;subst e;cases sd with
    |fK=>cases hn
    |a x=>obtain ⟨c,_,h|⟨cs,n,_,h⟩⟩:=hc<;>cases h
    |full x=>obtain ⟨cs,n,_,h⟩:=hc;cases h
    |loc i o=>obtain ⟨_,j,_,h⟩:=hc;cases h
    |arr i=>obtain ⟨_,⟨j,len,_,h,_⟩|⟨_,cs,n,h,_⟩⟩:=hc<;>cases h
    |view i x=>obtain ⟨_,cs,len,_,h|⟨j,off,_,h,_⟩⟩:=hc<;>cases h
    |gU i x o=>obtain ⟨_,kd,q,_,_,⟨j,o',_,h,_⟩|⟨_,cs,h,_⟩⟩:=hc<;>cases h
    |ptr r o e=>obtain ⟨xs,rest,_,_,h⟩:=hc;cases h
    |bJ f c=>obtain ⟨c',h,_⟩:=hc;cases h
    |agg ds=>exact hc.elim
    |dB ds=>exact hc.elim
   cases d<;>first|exact this|exact absurd rfl (hda _)
theorem FT {hs:List (Nat×SO)} {sd:SD} {p:At×List (Nat×SO)} (h:lg hs sd=some p):tu sd=true:=by cases sd<;>first|rfl|cases h
theorem xG:∀{ds:List SD} {hs:List (Nat×SO)} {p:List At×List (Nat×SO)},uA hs ds=some p->ds.all tu=true
 |[],_,_,_=>rfl
 |d::ds,hs,p,h=>by simp only [uA,Option.bind_eq_some_iff] at h;obtain ⟨x,h1,y,h2,_⟩:=h;simp only [List.all_cons,Bool.and_eq_true];exact ⟨FT h1,xG h2⟩
theorem NA {hs:List (Nat×SO)} {sd:SD} {p:List At×List (Nat×SO)} (h:GN hs sd=some p):R5 sd=true:=by cases sd<;>first|rfl|(simp [GN,lg] at h;done)|exact xG h
theorem Cq {lens:List (Nat×Nat)} {hs:List (Nat×SO)} {sd:SD} {p:TV×List (Nat×SO)} (h:si lens hs sd=some p):R5 sd=true:=by cases sd<;>first|rfl|(simp [si,lg] at h;done)|(simp only [si,Option.bind_eq_some_iff] at h;obtain ⟨x,h1,_⟩:=h;exact xG h1)
theorem AO {lens:List (Nat×Nat)}:∀{ds:List SD} {hs:List (Nat×SO)} {p:List TV×List (Nat×SO)},tF lens hs ds=some p->ds.all R5=true
 |[],_,_,_=>rfl
 |d::ds,hs,p,h=>by simp only [tF,Option.bind_eq_some_iff] at h;obtain ⟨x,h1,y,h2,_⟩:=h;simp only [List.all_cons,Bool.and_eq_true];exact ⟨Cq h1,AO h2⟩
theorem tC {hs:List (Nat×SO)} {aa:Nat} {sd:SD} {p:At} (h:fe hs aa sd=some p):R5 sd=true:=by cases sd<;>first|rfl|cases h
theorem Gf {ds:List SD} (h:ds.all mh=true):ds.all tu=true:=by
 rw [List.all_eq_true] at h |-;intro x hx;have:=h x hx
 cases x<;>first|rfl|cases this
theorem Bb {sd:SD} {xs:List SD} (h:cellsS sd=some xs):R5 sd=true:=by
 cases sd with
 |agg ds=>
  simp only [cellsS] at h;split at h
  ·rename_i hc;exact Gf hc
  ·cases h
 |fK=>simp [cellsS,mh] at h
 |_=>rfl
theorem Df {sx:X->SD}:∀{parts:List (Nat×Nat×X)} {ds out:List SD},o9 sx ds parts=some out->∀p∈parts,R5 (sx p.2.2)=true
 |[],_,_,_,p,hp=>by simp at hp
 |(off,size,x)::parts,ds,out,h,p,hp=>by
  simp only [o9,Option.bind_eq_some_iff] at h;obtain ⟨xs,h1,h2⟩:=h;split at h2
  case isFalse=>cases h2
  simp only [List.mem_cons] at hp;rcases hp with rfl|hp
  ·exact Bb h1
  ·exact Df h2 p hp
theorem Az {N:Nm} {sx:X->SD} {dx:X->D} (hx:∀x,RD N (sx x) (dx x)) {α:Type} {g:α->X}:∀{l:List α},(∀p∈l,R5 (sx (g p))=true)->gz N (l.flatMap fun p=>aO (dx (g p))) (l.flatMap fun p=>kH (sx (g p)))
 |[],_=>gz.nil
 |p::l,h=>by simp only [List.flatMap_cons];exact (iQ (hx _) (h p (by simp))).append (Az hx fun q hq=>h q (by simp [hq]))
section
variable {b:Bs} {ρ:List W} {μ:Nat->Option Nat} {σ:Sy} {h:Heap} {k:Nat} {call:uL} {head:wu} {kt:SD->Sy->Nat->Tree} {r:R} {sx:X->SD} {dx:X->D}
theorem Rh (hx:∀x,RD (nm ρ μ σ) (sx x) (dx x)) (ins:Ins) (hi:∀f xs,ins≠.call f xs) (hd:az call head (ay σ ρ.length sx kt ins) ρ=some r):gz (nm ρ μ σ) (touches dx ins) (dM sx ins):=by
 have loc:∀x,(∃i off,sx x=.loc i off)\/(∃i y off,sx x=.gU i y off)\/(∃q off e,sx x=.ptr q off e)->gz (nm ρ μ σ) (match dx x with|.loc id _=>[id]|_=>[]) (match sx x with|.loc i _=>[i]|.gU i _ _=>[i]|_=>[]):=by
  intro x hs;have hr:=hx x;rcases hs with ⟨i,off,hs⟩|⟨i,y,off,hs⟩|⟨q,off,e,hs⟩
  ·rw [hs] at hr |-;obtain ⟨h0,j,h1,h2⟩:=hr;rw [h2];intro p hp;simp at hp;subst hp;exact ⟨i,by simp,h0,h1⟩
  ·rw [hs] at hr |-;obtain ⟨h0,kd,q,_,_,⟨j,o',h1,h2,_⟩|⟨_,cs,h2,_⟩⟩:=hr
   ·rw [h2];intro p hp;simp at hp;subst hp;exact ⟨i,by simp,h0,h1⟩
   ·rw [h2];exact gz.nil
  ·rw [hs] at hr |-;obtain ⟨xs,rest,_,_,h2⟩:=hr;rw [h2];exact gz.nil
 cases ins with
 |load agg size x=>
  simp only [ay] at hd;simp only [touches,dM];refine loc x ?_;split at hd
  ·rename_i i off hs;exact .inl ⟨i,off,hs⟩
  ·rename_i q off e hs;exact .inr (.inr ⟨q,off,e,hs⟩)
  ·rename_i i y off hs;exact .inr (.inl ⟨i,y,off,hs⟩)
  ·cases hd
 |store size a v=>
  simp only [ay] at hd;simp only [touches,dM];split at hd
  ·rename_i i off hs;have hl:=loc a (.inl ⟨i,off,hs⟩);rw [hs] at hl;refine hl.append (iQ (hx v) ?_);split at hd
   ·rename_i hc;exact Bb hc
   ·cases hd
  ·rename_i i y off hs;have hl:=loc a (.inr (.inl ⟨i,y,off,hs⟩));rw [hs] at hl;refine hl.append (iQ (hx v) ?_);split at hd
   ·rename_i hf;exact NA hf
   ·cases hd
  ·cases hd
 |lits aa ety len zero parts=>
  simp only [ay] at hd;simp only [touches,dM];split at hd
  ·rename_i hf;simp only [Option.bind_eq_some_iff] at hf;obtain ⟨ds,h1,_⟩:=hf;exact Az hx fun p hp=>Df h1 p hp
  ·cases hd
 |toStr x=>
  simp only [ay] at hd;simp only [touches,dM];split at hd
  ·rename_i h1;exact iQ (hx x) (tC h1)
  ·cases hd
 |slc aa x lo hi=>
  simp only [ay] at hd;simp only [touches,dM];refine iQ (hx x) ?_;split at hd
  ·split at hd
   ·rename_i hs;rw [hs];rfl
   ·rename_i hs;rw [hs];rfl
   ·rename_i hs;rw [hs];rfl
   ·cases hd
  ·cases hd
 |clip aa x lo hi mx=>
  simp only [ay] at hd;simp only [touches,dM];refine iQ (hx x) ?_;split at hd
  ·rename_i h1 _ _ _;have h2:=FT h1;have h3:=Ef h1;cases hs:sx x with
   |fK=>rw [hs] at h2;cases h2
   |agg ds=>exact absurd hs (h3.1 ds)
   |_=>rfl
  ·cases hd
 |pY aa x i=>
  simp only [ay] at hd;simp only [touches,dM];refine iQ (hx x) ?_;split at hd
  ·split at hd
   ·rename_i hs;rw [hs];rfl
   ·rename_i hs;rw [hs];rfl
   ·rename_i hs;rw [hs];rfl
   ·cases hd
  ·cases hd
 |app aa ety bytes x y=>
  simp only [ay] at hd;simp only [touches,dM];split at hd
  ·rename_i h1;refine gz.append (iQ (hx x) ?_) (iQ (hx y) (tC h1));split at hd
   ·rename_i hs;rw [hs];rfl
   ·rename_i hs;rw [hs];rfl
   ·cases hd
  ·cases hd
 |EZ aa x y=>
  simp only [ay] at hd;simp only [touches,dM];split at hd
  ·rename_i h1 hs;exact gz.append (iQ (hx x) (by rw [hs];rfl)) (iQ (hx y) (tC h1))
  ·cases hd
 |call f xs=>exact absurd rfl (hi f xs)
 |eZ f xs=>simp [ay,az] at hd
 |tK kind n agg z ok x k=>simp [ay,az] at hd
 |tY kind n x k v=>simp [ay,az] at hd
 |_=>exact gz.nil
theorem QT (hm:Rm b (nm ρ μ σ) h k σ.lens) (hx:∀x,RD (nm ρ μ σ) (sx x) (dx x)) (ins:Ins) (hd:az call head (ay σ ρ.length sx kt ins) ρ=some r):Goal b ρ μ σ h k call head kt r sx dx ins:=by
 cases ins with
 |Mq x=>exact aa2 hm hx hd
 |pick c a b=>simp [ay,az] at hd
 |alloc zero=>exact UQ hm hx hd
 |box x=>exact aap hm hx hd
 |build zero parts=>exact Sj hm hx hd
 |lits aa ety len zero parts=>exact Yb hm hx hd
 |load agg size x=>exact Wv hm hx hd
 |store size a v=>exact TB hm hx hd
 |pg x=>exact UD hm hx hd
 |bin op oC x y=>exact aaK hm hx hd
 |eqs ks neg x y=>exact abl hm hx hd
 |un op x=>exact acZ hm hx hd
 |conv kd x=>exact WT hm hx hd
 |toStr x=>exact Uk hm hx hd
 |mk aa ety bytes zero l c=>exact adL hm hx hd
 |slc aa x lo hi=>exact abt hm hx hd
 |clip aa x lo hi mx=>exact VQ hm hx hd
 |Q8 x lo hi=>exact abq hm hx hd
 |yC off x=>exact VR hm hx hd
 |NL off agg size x=>exact Zv hm hx hd
 |pY aa x i=>exact Xk hm hx hd
 |nM x i=>exact XV hm hx hd
 |ext x i=>exact ZN hm hx hd
 |len t x=>exact Y8 hm hx hd
 |app aa ety bytes x y=>exact aaB hm hx hd
 |EZ aa x y=>exact aay hm hx hd
 |mx x y=>exact Y7 (isMax:=true) hm hx hd
 |mn x y=>exact Y7 (isMax:=false) hm hx hd
 |R3 f xs=>exact aaP hm hx hd
 |call f xs=>simp [ay,az] at hd
 |cu f own xs=>simp [ay,az] at hd
 |eZ f xs=>simp [ay,az] at hd
 |dQ x xs=>simp [ay,az] at hd
 |Qq=>simp [ay,az] at hd
 |tK k n ag z ok x y=>simp [ay,az] at hd
 |tY k n x y z=>simp [ay,az] at hd
end
theorem JF {call call':Callee} (hc:∀f vs,Le (call f vs) (call' f vs)) (dx:X->D) (h:Heap) (slot:Nat) (i:Ins):Le (bD call dx h slot i) (bD call' dx h slot i):=by
 cases i with
 |call f xs=>
  simp only [bD,Option.bind_eq_bind];exact Le.bind (Le.refl _) fun p=>Le.bind (hc _ _) fun _=>Le.refl _
 |_=>exact Le.refl _
theorem Ac {call call':Callee} (hc:∀f vs,Le (call f vs) (call' f vs)) (dx:X->D) (h:Heap) (slot:Nat) (i:Ins):Le (gm call dx h slot i) (gm call' dx h slot i):=by
 unfold gm;split
 ·exact Le.refl _
 ·exact JF hc dx h slot i
theorem ug {aF yh:bn} (hl:∀f ds h k,Le (aF f ds h k) (yh f ds h k)) (own:Nat) (f:Nat) (ds:List D) (h:Heap) (nx:Nat):Le (iA aF own f ds h nx) (iA yh own f ds h nx):=by simp only [iA,Option.bind_eq_bind];exact Le.bind (Le.refl _) fun p=>Le.bind (hl _ _ _ _) fun _=>Le.refl _
theorem lQ {call call':Callee} {aF yh:bn} (hc:∀f vs,Le (call f vs) (call' f vs)) (hl:∀f ds h k,Le (aF f ds h k) (yh f ds h k)):∀(is:List aW) (s:St),Le (dR call aF is s) (dR call' yh is s)
 |[],s=>Le.refl _
 |i::is,s=>by
  simp only [dR,Option.bind_eq_bind];refine Le.bind (Le.refl _) fun w=>?_
  split
  ·split
   ·exact Le.bind (ug hl _ _ _ _ _) fun p=>lQ hc hl is _
   ·split
    ·exact Le.bind (ug hl _ _ _ _ _) fun p=>lQ hc hl is _
    ·exact Le.refl _
   ·exact Le.bind (Ac hc _ _ _ _) fun p=>lQ hc hl is _
  ·exact lQ hc hl is _
theorem Jn {ai qa:fo} (hl:∀f ax bs,Le (ai f ax bs) (qa f ax bs)) (h:Heap) (f:Nat) (ds:List D):Le (mD ai h f ds) (mD qa h f ds):=by simp only [mD,Option.bind_eq_bind];exact Le.bind (Le.refl _) fun p=>Le.bind (Le.refl _) fun _=>Le.bind (hl _ _ _) fun _=>Le.refl _
theorem zy {call call':Callee} {ai qa:fo} (hc:∀f vs,Le (call f vs) (call' f vs)) (hl:∀f ax bs,Le (ai f ax bs) (qa f ax bs)) (dx:X->D) (h:Heap) (slot:Nat) (i:Ins):Le (dP call ai dx h slot i) (dP call' qa dx h slot i):=by
 by_cases hne:∃f xs,i=.eZ f xs
 ·obtain ⟨f,xs,rfl⟩:=hne;exact Jn hl _ _ _
 ·have e:∀c l,dP c l dx h slot i=gm c dx h slot i:=fun c l=>by cases i<;>first|rfl|exact absurd ⟨_,_,rfl⟩ hne
  rw [e,e];exact Ac hc dx h slot i
theorem qF {call call':Callee} {ai qa:fo} (hc:∀f vs,Le (call f vs) (call' f vs)) (hl:∀f ax bs,Le (ai f ax bs) (qa f ax bs)) (nx:Nat):∀(is:List aW) (k:Nat) (e:Env) (h:Heap),Le (bZ call ai nx k is e h) (bZ call' qa nx k is e h)
 |[],_,_,_=>Le.refl _
 |i::is,k,e,h=>by
  simp only [bZ,Option.bind_eq_bind];refine Le.bind (Le.refl _) fun w=>?_
  split
  ·exact Le.bind (zy hc hl _ _ _ _) fun p=>Le.bind (qF hc hl nx is _ _ _) fun _=>Le.refl _
  ·exact Le.bind (qF hc hl nx is _ _ _) fun _=>Le.refl _
theorem oK {call call':Callee} {ai qa:fo} {aF yh:bn} (hc:∀f vs,Le (call f vs) (call' f vs)) (hl:∀f ax bs,Le (ai f ax bs) (qa f ax bs)) (hd:∀f ds h k,Le (aF f ds h k) (yh f ds h k)):
  ∀(is:List aW) (k nx:Nat) (acc:List Nat) (e:Env) (h:Heap),Le (jq call ai aF k nx acc is e h) (jq call' qa yh k nx acc is e h)
 |[],_,_,_,_,_=>Le.refl _
 |i::is,k,nx,acc,e,h=>by
  simp only [jq,Option.bind_eq_bind];refine Le.bind (Le.refl _) fun w=>?_
  split
  ·split
   ·refine Le.bind ?_ fun p=>Le.bind (oK hc hl hd is _ _ _ _ _) fun _=>Le.refl _
    split
    ·exact ug hd _ _ _ _ _
    ·exact Le.refl _
   ·exact Le.refl _
   ·exact Le.bind (zy hc hl _ _ _ _) fun p=>Le.bind (oK hc hl hd is _ _ _ _ _) fun _=>Le.refl _
  ·exact Le.bind (oK hc hl hd is _ _ _ _ _) fun _=>Le.refl _
theorem vP (F:nD):∀n,(∀c s,Le (aI F n c s) (aI F (n+1) c s))/\(∀f ds h k,Le (bQ F n f ds h k) (bQ F (n+1) f ds h k))/\(∀f vs,Le (fQ F n f vs) (fQ F (n+1) f vs))/\(∀f ax bs,Le (cK F n f ax bs) (cK F (n+1) f ax bs))
 |0=>⟨fun _ _ r h=>by simp [aI] at h,fun _ _ _ _ r h=>by simp [bQ] at h,fun _ _ r h=>by simp [fQ] at h,fun _ _ _ r h=>by simp [cK] at h⟩
 |n+1=>by
  obtain ⟨h1,h2,h3,h4⟩:=vP F n;refine ⟨fun c s=>?_,fun f ds h k=>?_,fun f vs=>?_,fun f ax bs=>?_⟩
  ·rw [aI.eq_def,aI.eq_def F (n+1+1)];cases c with
   |skip=>exact Le.refl _
   |exit id=>exact Le.refl _
   |ret=>exact Le.refl _
   |region is=>
    simp only [Option.bind_eq_bind];exact Le.bind (lQ h3 h2 is s) fun _=>Le.refl _
   |draw is ws=>
    simp only [Option.bind_eq_bind];exact Le.bind (qF h3 h4 _ _ _ _ _) fun _=>Le.refl _
   |mix is ws=>
    simp only [Option.bind_eq_bind];exact Le.bind (oK h3 h4 h2 _ _ _ _ _ _) fun _=>Le.refl _
   |seq a b=>
    simp only [Option.bind_eq_bind];refine Le.bind (h1 a s) fun p=>?_
    split
    ·exact h1 b _
    ·exact Le.refl _
   |cond x a b=>
    simp only [Option.bind_eq_bind];exact Le.bind (Le.refl _) fun t=>h1 _ _
   |block id c=>
    simp only [Option.bind_eq_bind];exact Le.bind (h1 c s) fun _=>Le.refl _
   |loop c=>
    simp only [Option.bind_eq_bind];refine Le.bind (h1 c s) fun p=>?_
    split
    ·exact h1 (.loop c) _
    ·exact Le.refl _
  ·rw [bQ,bQ];split
   ·exact Le.refl _
   simp only [Option.bind_eq_bind];refine Le.bind (Le.refl _) fun I=>?_
   split
   ·refine Le.bind (h1 _ _) fun p=>?_
    exact Le.refl _
   ·exact Le.refl _
  ·rw [fQ,fQ];split
   ·exact Le.refl _
   simp only [Option.bind_eq_bind];exact Le.bind (h2 _ _ _ _) fun p=>Le.refl _
  ·rw [cK,cK];simp only [Option.bind_eq_bind];exact Le.bind (h2 _ _ _ _) fun p=>Le.refl _
theorem qR {F:nD} {n n':Nat} (h:n<=n') (c:bC) (s:St):Le (aI F n c s) (aI F n' c s):=by
 induction h with
 |refl=>exact Le.refl _
 |step _ ih=>exact fun r hr=>(vP F _).1 c s r (ih r hr)
theorem CR {F:nD} {n n':Nat} (h:n<=n') (f:Nat) (ds:List D) (hp:Heap) (k:Nat):Le (bQ F n f ds hp k) (bQ F n' f ds hp k):=by
 induction h with
 |refl=>exact Le.refl _
 |step _ ih=>exact fun r hr=>(vP F _).2.1 f ds hp k r (ih r hr)
theorem Tc {F:nD} {n n':Nat} (h:n<=n') (f:Nat) (vs:List V):Le (fQ F n f vs) (fQ F n' f vs):=by
 induction h with
 |refl=>exact Le.refl _
 |step _ ih=>exact fun r hr=>(vP F _).2.2.1 f vs r (ih r hr)
theorem ND {F:nD} {n n':Nat} (h:n<=n') (f:Nat) (ax:List LV) (bs:List (List C)):Le (cK F n f ax bs) (cK F n' f ax bs):=by
 induction h with
 |refl=>exact Le.refl _
 |step _ ih=>exact fun r hr=>(vP F _).2.2.2 f ax bs r (ih r hr)
end Go.Ey
namespace Go.Ey
def bL {α β γ:Type} (R:α->β->γ->Prop):List α->List β->List γ->Prop
 |[],[],[]=>True
 |a::ax,b::bs,c::cs=>R a b c/\bL R ax bs cs
 |_,_,_=>False
theorem bL.mono {α β γ:Type} {R R':α->β->γ->Prop} (h:∀a b c,R a b c->R' a b c):∀{ax:List α} {bs:List β} {cs:List γ},bL R ax bs cs->bL R' ax bs cs
 |[],[],[],_=>trivial
 |_::_,_::_,_::_,h1=>⟨h _ _ _ h1.1,bL.mono h h1.2⟩
 |[],_::_,_,h1=>h1.elim
 |[],[],_::_,h1=>h1.elim
 |_::_,[],_,h1=>h1.elim
 |_::_,_::_,[],h1=>h1.elim
theorem bL.AB {α β γ:Type} {R:α->β->γ->Prop}:∀{ax:List α} {bs:List β} {cs:List γ},bL R ax bs cs->ax.length=bs.length/\ax.length=cs.length
 |[],[],[],_=>⟨rfl,rfl⟩
 |_::_,_::_,_::_,h1=>by have:=bL.AB h1.2;simp;omega
 |[],_::_,_,h1=>h1.elim
 |[],[],_::_,h1=>h1.elim
 |_::_,[],_,h1=>h1.elim
 |_::_,_::_,[],h1=>h1.elim
def VD:V->D->Prop
 |.one c,d=>CD c d
 |.agg cs,d=>∃ds,d=.agg ds/\aj CD cs ds
 |.full cs n,d=>CD (.slice cs n) d
def JM (ai:List Nat):PS->LA->D->Prop
 |.one,.v (.one c),d=>CD c d
 |.agg m,.v (.agg xs),d=>xs.length=m/\VD (.agg xs) d
 |.ref b off,.ref b' off',d=>b'=b/\off'=off/\∃j,ai[b]?=some j/\d=.loc j off
 |.bJ g caps,.ref b' off',d=>b'=0/\off'=0/\∃dA,d=.bJ g dA/\aj (fun p q:Nat×Nat=>ai[p.1]?=some q.1/\q.2=p.2) caps dA
 |_,_,_=>False
def sJ (h:Heap) (m:Nat) (xs:List C) (j:Nat):Prop:=xs.length=m/\∃ds,af h j=.box ds/\aj CD xs ds
def CY (h:Heap) (k0:Nat):CK->C->D->Prop
 |.c,c,d=>CD c d\/∃j off len cs aa fz ety,d=.arr j off len/\k0<=j/\af h j=.arr cs aa fz ety/\off+len * aa<=cs.length/\c=.slice ((cs.drop off).take (len * aa)) len
 |.d,c,d=>CD c d
 |.full,c,d=>∃cs n,c=.slice cs n/\d=.full cs n
 |.own aa ety fr al,c,d=>∃cs n,c=.slice cs n/\cs.length=n * aa/\
   ((∃j fz,d=.arr j 0 n/\k0<=j/\af h j=.arr cs aa fz ety/\0 < aa/\fz<=cs.length/\(fr=false->fz=0))\/(d=.full cs n/\al=false/\(fr=false->cs=[]/\n=0)))
def R4 (h:Heap) (k0:Nat):RS->V->D->Prop
 |.one k,.one c,d=>CY h k0 k c d
 |.agg ks,.agg cs,d=>∃ds,d=.agg ds/\bL (CY h k0) ks cs ds
 |_,_,_=>False
def oL:CK->D->List Nat
 |.own _ _ _ _,.arr j _ _=>[j]
 |_,_=>[]
def nO:List CK->List D->List Nat
 |k::ks,d::ds=>oL k d++nO ks ds
 |_,_=>[]
def JR:RS->D->List Nat
 |.one k,d=>oL k d
 |.agg ks,.agg ds=>nO ks ds
 |_,_=>[]
def iH:List RS->List D->List Nat
 |k::ks,d::ds=>JR k d++iH ks ds
 |_,_=>[]
def Ox (F:nD) (s:aN) (f:Nat) (ax:List LA) (bs:List (List C)) (vs:List V) (bs':List (List C)):Prop:=
 ∀(h:Heap) (k:Nat) (ai:List Nat) (ds:List D),bL (JM ai) s.params ax ds->bL (sJ h) s.boxes bs ai->ai.Nodup->(∀j∈ai,j < k)->
  ∃n rs h' k',bQ F n f ds h k=some (rs,h',k')/\k<=k'/\(∀j,j < k->j ∉ ai->af h' j=af h j)/\bL (sJ h') s.boxes bs' ai/\bL (R4 h' k) s.rs vs rs/\(iH s.rs rs).Nodup/\∀j∈iH s.rs rs,j < k'
def iO:List PS->List LA->Prop
 |[],[]=>True
 |.one::ps,.v (.one _)::ax=>iO ps ax
 |.agg m::ps,.v (.agg xs)::ax=>xs.length=m/\iO ps ax
 |.ref b off::ps,.ref b' off'::ax=>b'=b/\off'=off/\iO ps ax
 |.bJ _ _::ps,.ref b' off'::ax=>b'=0/\off'=0/\iO ps ax
 |_,_=>False
def iT (F:nD) (sig:Nat->Option aN) (call:uL):Prop:=∀f ax bs r,call f ax bs=some r->∃s,sig f=some s/\iO s.params ax/\aj (fun m (xs:List C)=>xs.length=m) s.boxes bs/\
 (s.nat=false->Ox F s (s.cd f) ax bs r.1 r.2/\∀vs,F.nat (s.cd f) vs=none)/\(s.nat=true->∃vs,ax=vs.map .v/\∃n0,∀n,n0<=n->fQ F n f vs=some r.1)
theorem CY.upd {h h':Heap} {k0:Nat} (hh:∀j cs aa fz ety,af h j=.arr cs aa fz ety->∃gX,af h' j=.arr cs aa gX ety) {c:C} {d:D} (hr:CY h k0 .c c d):CY h' k0 .c c d:=by
 rcases hr with hr|⟨j,off,len,cs,aa,fz,ety,h1,h2,h3,h4⟩
 ·exact .inl hr
 ·obtain ⟨gX,h5⟩:=hh _ _ _ _ _ h3;exact .inr ⟨j,off,len,cs,aa,gX,ety,h1,h2,h5,h4⟩
theorem CY.gM {h:Heap} {k0:Nat} {ck:CK} {c:C} {d:D} (hr:CY h k0 ck c d):∃us,Ey.gM h d=some (c,us)/\(∀p∈us,k0<=p.1)/\∀j cs aa fz ety,af h j=.arr cs aa fz ety->∃gX,af (ah h us) j=.arr cs aa gX ety:=by
 have yA:∀{c:C} {d:D},CD c d->∃us,Ey.gM h d=some (c,us)/\(∀p∈us,k0<=p.1)/\∀j cs aa fz ety,af h j=.arr cs aa fz ety->∃gX,af (ah h us) j=.arr cs aa gX ety:=by
  intro c d hc;refine ⟨[],?_,by simp,fun j cs aa fz ety hg=>⟨fz,hg⟩⟩
  rcases hc with rfl|⟨cs,n,rfl,rfl⟩<;>rfl
 have arr:∀{j off len:Nat} {cs:List C} {aa fz ety:Nat},k0<=j->af h j=.arr cs aa fz ety->off+len * aa<=cs.length->∃us,Ey.gM h (.arr j off len)=some (.slice ((cs.drop off).take (len * aa)) len,us)/\(∀p∈us,k0<=p.1)/\∀j cs aa fz ety,af h j=.arr cs aa fz ety->∃gX,af (ah h us) j=.arr cs aa gX ety:=by
  intro j off len cs aa fz ety hk hg hl;by_cases hz:off+len * aa<=fz
  ·exact ⟨[],by simp only [Ey.gM,hg];rw [if_pos hl,if_pos hz],by simp,fun _ _ _ fz _ h=>⟨fz,h⟩⟩
  ·refine ⟨[(j,.arr cs aa (off+len * aa) ety)],by simp only [Ey.gM,hg];rw [if_pos hl,if_neg hz],by simpa using hk,fun q cs' bU gX dW hq=>?_⟩
   simp only [ah,af];split
   ·rename_i e;subst e;rw [hg] at hq;injection hq with e1 e2 e3 e4;subst e1 e2 e3 e4;exact ⟨_,rfl⟩
   ·exact ⟨gX,hq⟩
 cases ck with
 |c=>
  rcases hr with hr|⟨j,off,len,cs,aa,fz,ety,rfl,h2,h3,h4,rfl⟩
  ·exact yA hr
  ·exact arr h2 h3 h4
 |d=>exact yA hr
 |full=>obtain ⟨cs,n,rfl,rfl⟩:=hr;exact yA (.inr ⟨cs,n,rfl,rfl⟩)
 |own aa ety fr al=>
  obtain ⟨cs,n,rfl,h1,h2⟩:=hr;rcases h2 with ⟨j,fz,rfl,h3,h4,h5,h6,_⟩|⟨rfl,_⟩
  ·have:=arr (off:=0) (len:=n) h3 h4 (by omega)
   rw [show (cs.drop 0).take (n * aa)=cs by rw [<-h1];simp] at this
   exact this
  ·exact yA (.inr ⟨cs,n,rfl,rfl⟩)
theorem CY.mono {h h':Heap} {k0:Nat} (hh:∀j cs aa fz ety,af h j=.arr cs aa fz ety->∃gX,af h' j=.arr cs aa gX ety) {ck:CK} {c:C} {d:D} (hr:CY h k0 ck c d):∃RZ,CY h' k0 RZ c d:=by
 cases ck with
 |c=>exact ⟨.c,hr.upd hh⟩
 |d=>exact ⟨.d,hr⟩
 |full=>exact ⟨.full,hr⟩
 |own aa ety fr al=>
  obtain ⟨cs,n,rfl,h1,h2⟩:=hr;rcases h2 with ⟨j,fz,rfl,h3,h4,h5,h6,_⟩|⟨rfl,_⟩
  ·obtain ⟨gX,h7⟩:=hh _ _ _ _ _ h4;exact ⟨.c,.inr ⟨j,0,n,cs,aa,gX,ety,rfl,h3,h7,by omega,by rw [<-h1];simp⟩⟩
  ·exact ⟨.d,.inr ⟨cs,n,rfl,rfl⟩⟩
def Uw (h:Heap) (k0:Nat) (c:C) (d:D):Prop:=∃ck,CY h k0 ck c d
theorem FB {k0:Nat}:∀{cs:List C} {ds:List D} {h:Heap},aj (Uw h k0) cs ds->∃us,eD h ds=some (cs,us)/\(∀p∈us,k0<=p.1)/\∀j xs aa fz ety,af h j=.arr xs aa fz ety->∃gX,af (ah h us) j=.arr xs aa gX ety
 |[],[],h,_=>⟨[],rfl,by simp,fun _ _ _ fz _ h=>⟨fz,h⟩⟩
 |c::cs,d::ds,h,hr=>by
  obtain ⟨⟨ck,h1⟩,h2⟩:=hr;obtain ⟨us,k1,k2,k3⟩:=h1.gM;obtain ⟨vs,l1,l2,l3⟩:=FB (h:=ah h us) (h2.mono fun c d ⟨ck,hc⟩=>hc.mono k3)
  refine ⟨us++vs,by simp [eD,k1,l1],fun p hp=>?_,fun j xs aa fz ety hg=>?_⟩
  ·rw [List.mem_append] at hp;exact hp.elim (k2 p) (l2 p)
  ·obtain ⟨gX,hg'⟩:=k3 _ _ _ _ _ hg;rw [dz];exact l3 _ _ _ _ _ hg'
 |[],_::_,_,hr=>hr.elim
 |_::_,[],_,hr=>hr.elim
def Nh (h:Heap) (k0:Nat):V->D->Prop
 |.one c,d=>Uw h k0 c d
 |.agg cs,d=>∃ds,d=.agg ds/\aj (Uw h k0) cs ds
 |.full _ _,_=>False
theorem Nh.mono {h h':Heap} {k0:Nat} (hh:∀j cs aa fz ety,af h j=.arr cs aa fz ety->∃gX,af h' j=.arr cs aa gX ety) {v:V} {d:D} (hr:Nh h k0 v d):Nh h' k0 v d:=by
 cases v with
 |one c=>obtain ⟨ck,h1⟩:=hr;exact h1.mono hh
 |agg cs=>obtain ⟨ds,h1,h2⟩:=hr;exact ⟨ds,h1,h2.mono fun c d ⟨ck,hc⟩=>hc.mono hh⟩
 |full _ _=>exact hr.elim
theorem qN {k0:Nat}:∀{vs:List V} {ds:List D} {h:Heap},aj (Nh h k0) vs ds->∃us,bY h ds=some (vs,us)/\(∀p∈us,k0<=p.1)/\∀j xs aa fz ety,af h j=.arr xs aa fz ety->∃gX,af (ah h us) j=.arr xs aa gX ety
 |[],[],h,_=>⟨[],rfl,by simp,fun _ _ _ fz _ h=>⟨fz,h⟩⟩
 |v::vs,d::ds,h,hr=>by
  have h1:∃us,eP h d=some (v,us)/\(∀p∈us,k0<=p.1)/\∀j xs aa fz ety,af h j=.arr xs aa fz ety->∃gX,af (ah h us) j=.arr xs aa gX ety:=by
   cases v with
   |one c=>
    obtain ⟨ck,h1⟩:=hr.1;obtain ⟨us,k1,k2,k3⟩:=h1.gM;exact ⟨us,zn k1,k2,k3⟩
   |agg cs=>
    obtain ⟨es,h1,h2⟩:=hr.1;subst h1;obtain ⟨us,k1,k2,k3⟩:=FB h2;exact ⟨us,by simp [eP,k1],k2,k3⟩
   |full _ _=>exact hr.1.elim
  obtain ⟨us,k1,k2,k3⟩:=h1;obtain ⟨ws,l1,l2,l3⟩:=qN (h:=ah h us) (hr.2.mono fun v d h=>h.mono k3)
  refine ⟨us++ws,by simp [bY,k1,l1],fun p hp=>?_,fun j xs aa fz ety hg=>?_⟩
  ·rw [List.mem_append] at hp;exact hp.elim (k2 p) (l2 p)
  ·obtain ⟨gX,hg'⟩:=k3 _ _ _ _ _ hg;rw [dz];exact l3 _ _ _ _ _ hg'
 |[],_::_,_,hr=>hr.elim
 |_::_,[],_,hr=>hr.elim
theorem Vg {h:Heap} {k0:Nat}:∀{ks:List CK} {cs:List C} {ds:List D},bL (CY h k0) ks cs ds->aj (Uw h k0) cs ds
 |[],[],[],_=>trivial
 |k::_,_::_,_::_,h1=>⟨⟨k,h1.1⟩,Vg h1.2⟩
 |[],_::_,_,h1=>h1.elim
 |[],[],_::_,h1=>h1.elim
 |_::_,[],_,h1=>h1.elim
 |_::_,_::_,[],h1=>h1.elim
theorem R4.any {h:Heap} {k0:Nat} {rs:RS} {v:V} {d:D} (hr:R4 h k0 rs v d):Nh h k0 v d:=by
 cases rs with
 |one k=>cases v with
  |one c=>exact ⟨k,hr⟩
  |agg cs=>exact hr.elim
  |full _ _=>exact hr.elim
 |agg ks=>cases v with
  |one c=>exact hr.elim
  |full _ _=>exact hr.elim
  |agg cs=>obtain ⟨ds,h1,h2⟩:=hr;exact ⟨ds,h1,Vg h2⟩
theorem Ky {h:Heap} {k0:Nat}:∀{ks:List RS} {vs:List V} {ds:List D},bL (R4 h k0) ks vs ds->aj (Nh h k0) vs ds
 |[],[],[],_=>trivial
 |_::_,_::_,_::_,h1=>⟨h1.1.any,Ky h1.2⟩
 |[],_::_,_,h1=>h1.elim
 |[],[],_::_,h1=>h1.elim
 |_::_,[],_,h1=>h1.elim
 |_::_,_::_,[],h1=>h1.elim
theorem Kt {h:Heap} {d:D} {c:C} {us:List (Nat×Obj)} (hf:gM h d=some (c,us)):∃d1,tL h d=some (d1,us)/\CD c d1:=by
 cases d with
 |arr j off len=>exact ⟨.c c,by simp [tL,hf],.inl rfl⟩
 |c x=>simp only [gM,Option.some.injEq,Prod.mk.injEq] at hf;obtain ⟨rfl,rfl⟩:=hf;exact ⟨_,rfl,.inl rfl⟩
 |full cs n=>simp only [gM,Option.some.injEq,Prod.mk.injEq] at hf;obtain ⟨rfl,rfl⟩:=hf;exact ⟨_,rfl,.inr ⟨cs,n,rfl,rfl⟩⟩
 |_=>cases hf
theorem Hu:∀{ds:List D} {h:Heap} {cs:List C} {us:List (Nat×Obj)},eD h ds=some (cs,us)->∃ds1,su h ds=some (ds1,us)/\aj CD cs ds1
 |[],h,cs,us,hf=>by simp only [eD,Option.some.injEq,Prod.mk.injEq] at hf;obtain ⟨rfl,rfl⟩:=hf;exact ⟨[],rfl,trivial⟩
 |d::ds,h,cs,us,hf=>by simp only [eD,Option.bind_eq_bind,Option.bind_eq_some_iff,Option.some.injEq,Prod.mk.injEq,Prod.exists] at hf;obtain ⟨c,u,h1,cs',us',h2,rfl,rfl⟩:=hf;obtain ⟨d1,k1,k2⟩:=Kt h1;obtain ⟨ds1,k3,k4⟩:=Hu h2;exact ⟨d1::ds1,by simp [su,k1,k3],k2,k4⟩
theorem LW {h:Heap} {d:D} {v:V} {us:List (Nat×Obj)} (hf:eP h d=some (v,us)):∃d1,zX h d=some (d1,us)/\VD v d1:=by
 by_cases ha:∃ds,d=.agg ds
 ·obtain ⟨ds,rfl⟩:=ha;simp only [eP,Option.bind_eq_bind,Option.bind_eq_some_iff,Option.some.injEq,Prod.mk.injEq,Prod.exists] at hf;obtain ⟨cs,u,h1,rfl,rfl⟩:=hf;obtain ⟨ds1,k1,k2⟩:=Hu h1;exact ⟨.agg ds1,by simp [zX,k1],ds1,rfl,k2⟩
 ·have hf':(gM h d).bind (fun p=>some (V.one p.1,p.2))=some (v,us):=by cases d<;>first|exact hf|exact absurd ⟨_,rfl⟩ ha
  simp only [Option.bind_eq_some_iff,Option.some.injEq,Prod.mk.injEq,Prod.exists] at hf';obtain ⟨c,u,h1,rfl,rfl⟩:=hf';obtain ⟨d1,k1,k2⟩:=Kt h1;have:zX h d=tL h d:=by cases d<;>first|rfl|exact absurd ⟨_,rfl⟩ ha
  exact ⟨d1,by rw [this];exact k1,k2⟩
theorem Iy:∀{ds:List D} {h:Heap} {vs:List V} {us:List (Nat×Obj)},bY h ds=some (vs,us)->∃ds1,iU h ds=some (ds1,us)/\aj VD vs ds1
 |[],h,cs,us,hf=>by simp only [bY,Option.some.injEq,Prod.mk.injEq] at hf;obtain ⟨rfl,rfl⟩:=hf;exact ⟨[],rfl,trivial⟩
 |d::ds,h,cs,us,hf=>by simp only [bY,Option.bind_eq_bind,Option.bind_eq_some_iff,Option.some.injEq,Prod.mk.injEq,Prod.exists] at hf;obtain ⟨c,u,h1,cs',us',h2,rfl,rfl⟩:=hf;obtain ⟨d1,k1,k2⟩:=LW h1;obtain ⟨ds1,k3,k4⟩:=Iy h2;exact ⟨d1::ds1,by simp [iU,k1,k3],k2,k4⟩
theorem VD.refl (v:V):VD v v.fM:=by
 cases v with
 |one c=>exact .inl rfl
 |full cs n=>exact .inr ⟨cs,n,rfl,rfl⟩
 |agg cs=>
  refine ⟨_,rfl,?_⟩;induction cs with
  |nil=>trivial
  |cons c cs ih=>exact ⟨.inl rfl,ih⟩
def Us:List (Option Nat)->List V->List W->Prop
 |[],_,[]=>True
 |none::ss,.one c::vs,.c c'::ws=>c'=c/\Us ss vs ws
 |some m::ss,.agg xs::vs,.l xs'::ws=>xs'=xs/\xs.length=m/\Us ss vs ws
 |_,_,_=>False
theorem jL {α:Type} {vs:List V} {k:List W->Option α} {r:α}:∀{ss:List (Option Nat)} {j:Nat} {ρ:List W},cZ vs k ss j ρ=some r->∃ws,Us ss (vs.drop j) ws/\k (ρ++ws)=some r
 |[],j,ρ,h=>⟨[],trivial,by rw [List.append_nil];exact h⟩
 |none::ss,j,ρ,h=>by
  simp only [cZ,Option.bind_eq_some_iff] at h;obtain ⟨c,h1,h2⟩:=h;obtain ⟨ws,h3,h4⟩:=jL h2;unfold getOne at h1;split at h1
  case h_2=>cases h1
  rename_i c' hg;simp only [Option.some.injEq] at h1;subst h1;obtain ⟨hlt,hge⟩:=List.getElem?_eq_some_iff.1 hg;refine ⟨.c c'::ws,?_,by rw [List.append_assoc] at h4;exact h4⟩
  rw [List.drop_eq_getElem_cons hlt,hge];exact ⟨rfl,h3⟩
 |some m::ss,j,ρ,h=>by
  simp only [cZ,Option.bind_eq_some_iff] at h;obtain ⟨c,h1,h2⟩:=h;obtain ⟨ws,h3,h4⟩:=jL h2;unfold zx at h1;split at h1
  case h_2=>cases h1
  rename_i xs hg;split at h1
  case isFalse=>cases h1
  rename_i hl;simp only [Option.some.injEq] at h1;subst h1;obtain ⟨hlt,hge⟩:=List.getElem?_eq_some_iff.1 hg;refine ⟨.l xs::ws,?_,by rw [List.append_assoc] at h4;exact h4⟩
  rw [List.drop_eq_getElem_cons hlt,hge];exact ⟨rfl,hl,h3⟩
theorem qi {α:Type} {bs:List (List C)} {k:List W->Option α} {r:α}:∀{ss:List Nat} {j:Nat} {ρ:List W},eF bs k ss j ρ=some r->∃xss:List (List C),aj (fun m xs=>xs.length=m) ss xss/\(∀q,q < ss.length->bs[j+q]?=xss[q]?)/\k (ρ++xss.map .l)=some r
 |[],j,ρ,h=>⟨[],trivial,by simp,by rw [List.map_nil,List.append_nil];exact h⟩
 |m::ss,j,ρ,h=>by
  simp only [eF,Option.bind_eq_some_iff] at h;obtain ⟨c,h1,h2⟩:=h;obtain ⟨xss,h3,h4,h5⟩:=qi h2;unfold EN at h1;split at h1
  case h_2=>cases h1
  rename_i xs hg;split at h1
  case isFalse=>cases h1
  rename_i hl;simp only [Option.some.injEq] at h1;subst h1;refine ⟨xs::xss,⟨hl,h3⟩,fun q hq=>?_,by rw [List.append_assoc] at h5;exact h5⟩
  cases q with
  |zero=>simpa using hg
  |succ q=>
   rw [show j+(q+1)=j+1+q by omega,h4 q (by simpa using hq)]
   simp
theorem Us.len:∀{ss:List (Option Nat)} {vs:List V} {ws:List W},Us ss vs ws->ws.length=ss.length
 |[],_,[],_=>rfl
 |none::_,.one _::_,.c _::_,h=>by simp [Us.len h.2]
 |some _::_,.agg _::_,.l _::_,h=>by simp [Us.len h.2.2]
theorem Pw {N:Nm} {i:Nat} {xs:List C} (hw:eu N.ρ i=some (.l xs)):aj (jo N) ((nk i 0 xs.length).map .a) (xs.map .c):=by
 have:=y7 hw xs.length 0 (by omega)
 simpa using this
theorem yK {N:Nm}:∀{ss:List (Option Nat)} {vs:List V} {ws pre post:List W},Us ss vs ws->vs.length=ss.length->N.ρ=pre++ws++post->∀{ds:List SD} {ls:List (Nat×Nat)},BB ss pre.length=(ds,ls)->
  aj (RA N) ds (vs.map V.fM)/\∀i m,(i,m)∈ls->∃xs,eu N.ρ i=some (.l xs)/\xs.length=m
 |[],[],[],_,_,_,_,_,ds,ls,h=>by simp only [BB,Prod.mk.injEq] at h;obtain ⟨rfl,rfl⟩:=h;exact ⟨trivial,by simp⟩
 |none::ss,.one c::vs,.c c'::ws,pre,post,hw,hl,hρ,ds,ls,h=>by
  obtain ⟨rfl,hw⟩:=hw;cases hr:BB ss (pre.length+1) with
  |mk ds' ls'=>
   simp only [BB,hr,Prod.mk.injEq] at h;obtain ⟨rfl,rfl⟩:=h;obtain ⟨h1,h2⟩:=yK (N:=N) (pre:=pre++[.c c']) (post:=post) hw (by simpa using hl) (by rw [hρ];simp) (by simpa using hr)
   refine ⟨⟨⟨c',?_,.inl rfl⟩,h1⟩,h2⟩;rw [hρ,List.append_assoc];exact at_new pre c' _
 |some m::ss,.agg xs::vs,.l xs'::ws,pre,post,hw,hl,hρ,ds,ls,h=>by
  obtain ⟨rfl,hm,hw⟩:=hw;cases hr:BB ss (pre.length+1) with
  |mk ds' ls'=>
   simp only [BB,hr,Prod.mk.injEq] at h;obtain ⟨rfl,rfl⟩:=h;obtain ⟨h1,h2⟩:=yK (N:=N) (pre:=pre++[.l xs']) (post:=post) hw (by simpa using hl) (by rw [hρ];simp) (by simpa using hr)
   have hg:eu N.ρ pre.length=some (.l xs'):=by rw [hρ,List.append_assoc];exact gD pre _ _
   subst hm;refine ⟨⟨⟨_,rfl,Pw hg⟩,h1⟩,fun i q hi=>?_⟩
   simp only [List.mem_cons,Prod.mk.injEq] at hi;rcases hi with ⟨rfl,rfl⟩|hi
   ·exact ⟨xs',hg,rfl⟩
   ·exact h2 i q hi
 |[],_::_,_,_,_,_,hl,_,_,_,_=>by simp at hl
 |_::_,[],_,_,_,_,hl,_,_,_,_=>by simp at hl
 |[],[],_::_,_,_,hw,_,_,_,_,_=>hw.elim
 |none::_,.agg _::_,_,_,_,hw,_,_,_,_,_=>hw.elim
 |none::_,.one _::_,[],_,_,hw,_,_,_,_,_=>hw.elim
 |none::_,.one _::_,.l _::_,_,_,hw,_,_,_,_,_=>hw.elim
 |some _::_,.one _::_,_,_,_,hw,_,_,_,_,_=>hw.elim
 |some _::_,.agg _::_,[],_,_,hw,_,_,_,_,_=>hw.elim
 |some _::_,.agg _::_,.c _::_,_,_,hw,_,_,_,_,_=>hw.elim
theorem SK {N:Nm} {ds:List SD} {vs:List V} (h:aj (RA N) ds (vs.map V.fM)):RD N (JA ds) (sU vs):=by
 match ds,vs,h with
 |[],[],_=>exact ⟨[],rfl,trivial⟩
 |[d],[v],h=>exact h.1.fM
 |d::d'::ds,v::v'::vs,h=>exact ⟨_,rfl,h⟩
theorem PG {ρ:List W}:∀{vs:List TV} {ax:List LA},jY ρ (vs.map .v)=some ax->∃xs,tq ρ vs=some xs/\ax=xs.map .v
 |[],ax,h=>by simp only [List.map_nil,jY,Option.some.injEq] at h;subst h;exact ⟨[],rfl,rfl⟩
 |v::vs,ax,h=>by simp only [List.map_cons,jY,NG,Option.bind_eq_some_iff,Option.some.injEq] at h;obtain ⟨a,⟨x,h1,rfl⟩,as',h2,rfl⟩:=h;obtain ⟨xs,h3,rfl⟩:=PG h2;exact ⟨x::xs,by simp [tq,h1,h3],rfl⟩
theorem Eg {ai:List Nat}:∀{ps:List PS} {vs:List V} {ds:List D},iO ps (vs.map .v)->aj VD vs ds->bL (JM ai) ps (vs.map .v) ds
 |[],[],[],_,_=>trivial
 |.one::ps,.one c::vs,d::ds,h1,h2=>⟨h2.1,Eg h1 h2.2⟩
 |.agg m::ps,.agg xs::vs,d::ds,h1,h2=>⟨⟨h1.1,h2.1⟩,Eg h1.2 h2.2⟩
 |[],_::_,_,h1,_=>h1.elim
 |[],[],_::_,_,h2=>h2.elim
 |_::_,_::_,[],_,h2=>h2.elim
 |.one::_,[],_,h1,_=>h1.elim
 |.agg _::_,[],_,h1,_=>h1.elim
 |.ref _ _::_,[],_,h1,_=>h1.elim
 |.bJ _ _::_,[],_,h1,_=>h1.elim
 |.bJ _ _::_,.one _::_,_::_,h1,_=>h1.elim
 |.bJ _ _::_,.agg _::_,_::_,h1,_=>h1.elim
 |.one::_,.agg _::_,_::_,h1,_=>h1.elim
 |.agg _::_,.one _::_,_::_,h1,_=>h1.elim
 |.ref _ _::_,.one _::_,_::_,h1,_=>h1.elim
 |.ref _ _::_,.agg _::_,_::_,h1,_=>h1.elim
theorem A8:∀vs:List V,aj VD vs (vs.map V.fM)
 |[]=>trivial
 |v::vs=>⟨VD.refl v,A8 vs⟩
theorem Ox.fn {F:nD} {s:aN} {f:Nat} {vs:List V} {rs:List V} {bs':List (List C)} (h:Ox F s f (vs.map .v) [] rs bs') (hs:iO s.params (vs.map .v)) (hb:s.boxes=[]) (aex:F.nat f vs=none):∃n0,∀n,n0<=n->fQ F n f vs=some rs:=by
 obtain ⟨n,ds,h',k',h1,h2,h3,h4,h5,_⟩:=h [] 0 [] (vs.map V.fM) (Eg hs (A8 vs)) (by rw [hb];trivial) List.nodup_nil (by simp)
 obtain ⟨us,k1,_⟩:=qN (Ky h5);refine ⟨n+1,fun m hm=>?_⟩
 refine Tc hm f vs rs ?_;simp only [fQ,aex,h1,k1,Option.bind_eq_bind,Option.bind_some]
section
variable {b:Bs} {ρ:List W} {μ:Nat->Option Nat} {σ:Sy} {h:Heap} {k:Nat} {call:uL} {head:wu} {kt:SD->Sy->Nat->Tree} {r:R} {F:nD} {sig:Nat->Option aN}
theorem Bu (hcall:iT F sig call) (hm:Rm b (nm ρ μ σ) h k σ.lens) {f:Nat} {dN:List SD} {ds:List D} (hds:aj (RD (nm ρ μ σ)) dN ds) (hd:az call head (qJ sig σ ρ.length f dN kt) ρ=some r):
  ∃n0 vs us rs,bY h ds=some (vs,us)/\(∀n,n0<=n->fQ F n f vs=some rs)/\rz b ρ μ σ h k call head kt r (dN.flatMap kH) (sU rs) us:=by
 unfold qJ at hd;split at hd
 case h_2=>cases hd
 rename_i s tvs us' hs hf;obtain ⟨vs,us,k1,k2,k3,k4,k5⟩:=Ct hm hds hf;by_cases hcd:s.code=none
 case neg=>rw [if_neg hcd] at hd;cases hd
 rw [if_pos hcd] at hd;have Yj:s.cd f=f:=by simp [aN.cd,hcd]
 cases hr:BB (s.rs.map RS.shape) ρ.length with
 |mk QZ ls=>
  simp only [hr,az,Option.bind_eq_some_iff] at hd;obtain ⟨ax,h1,bs,h2,rr,h3,hd⟩:=hd;obtain ⟨xs,h4,rfl⟩:=PG h1;have e1:xs=vs:=by have:tq ρ tvs=some vs:=k2;rw [h4] at this;injection this
  subst e1;simp only [uz,Option.some.injEq] at h2;subst h2;obtain ⟨s',g1,g2,g3,g4⟩:=hcall _ _ _ _ h3;rw [hs] at g1;injection g1 with g1;subst g1
  have hb:s.boxes=[]:=by cases hsb:s.boxes with|nil=>rfl|cons _ _=>rw [hsb] at g3;exact g3.elim
  obtain ⟨n0,hn⟩:∃n0,∀n,n0<=n->fQ F n f xs=some rr.1:=by
   cases hsn:s.nat with
   |false=>obtain ⟨q1,q2⟩:=g4.1 hsn;rw [Yj] at q1 q2;exact q1.fn g2 hb (q2 _)
   |true=>
    obtain ⟨vs',q1,q2⟩:=g4.2 hsn;have:xs=vs':=by
     have inj:∀a b:List V,a.map LA.v=b.map LA.v->a=b:=by
      intro a;induction a with
      |nil=>intro b hb;cases b with|nil=>rfl|cons _ _=>simp at hb
      |cons x a ih=>intro b hb;cases b with
       |nil=>simp at hb
       |cons y b=>simp only [List.map_cons,List.cons.injEq,LA.v.injEq] at hb;rw [hb.1,ih b hb.2]
     exact inj _ _ q1
    subst this;exact q2
  unfold sized at hd;split at hd
  case isFalse=>cases hd
  rename_i hsz;obtain ⟨ws,w1,w2⟩:=jL hd;simp only [eF] at w2;rw [List.drop_zero] at w1;refine ⟨n0,xs,us,rr.1,k1,hn,ws,μ,(σ.upd us').vF ls,JA QZ,rfl,?_,?_,?_,?_,?_⟩
  ·exact k3.trans (gu _ ws)
  ·refine Rm.lens' ((k4.ext ws).tick (Nat.le_succ k)) fun i m hi=>?_
   simp only [Sy.vF,Sy.upd,List.mem_append] at hi;rcases hi with hi|hi
   ·exact (yK (N:=nm (ρ++ws) μ ((σ.upd us').vF ls)) (pre:=ρ) (post:=[]) w1 hsz.1 (by simp [nm]) hr).2 i m hi
   ·exact (k4.ext ws).lens i m hi
  ·exact SK (yK (N:=nm (ρ++ws) μ ((σ.upd us').vF ls)) (pre:=ρ) (post:=[]) w1 hsz.1 (by simp [nm]) hr).1
  ·rw [List.length_append,w1.len];exact w2
  ·intro j hj;obtain ⟨i,q1,q2,q3⟩:=k5 j hj;exact ⟨i,qV (.inl q1),q2,q3⟩
theorem Rm.Y9 {N:Nm} {lens:List (Nat×Nat)} (hm:Rm b N h k lens) {q:Nat} {o:SO} (hq:q < k) (hb:b.k0<=q) (hf:∀i,i < N.nx->N.μ i≠some q) (jh:fG N (N.new (some q) o)->Du (N.new (some q) o) h N.nx o):fG N (N.new (some q) o)/\Rm b (N.new (some q) o) h k lens:=by
 have hv:fG N (N.new (some q) o):=by
  refine ⟨fun _ _ h=>h,fun _ _ h=>h,Nat.le_succ _,fun i hi=>?_,fun p y' aa ety fr' al' hp hg=>?_⟩
  ·show (if i=N.nx then some q else N.μ i)=N.μ i
   rw [if_neg (by omega)]
  ·simp only [Nm.new,aZ] at hg;rw [if_neg (by omega)] at hg
   exact ⟨y',fr',al',hg,id,fun cs _ hc=>⟨cs,hc,fun _=>rfl⟩⟩
 have hmu:∀i p,i < N.nx+1->(N.new (some q) o).μ i=some p->(i=N.nx/\p=q)\/(i < N.nx/\N.μ i=some p):=by
  intro i p hi hp;by_cases he:i=N.nx
  ·have hp':some q=some p:=by simpa [Nm.new,he] using hp
   injection hp' with hp';exact .inl ⟨he,hp'.symm⟩
  ·have hp':N.μ i=some p:=by simpa [Nm.new,he] using hp
   exact .inr ⟨by omega,hp'⟩
 refine ⟨hv,fun p=>?_,fun i i' p h1 h2 h3 h4=>?_,fun i p h1 h2=>?_,fun p hp=>?_,fun i p h1 h2=>?_,hm.frame,hm.le,hm.lens⟩
 ·show Du (N.new (some q) o) h p (aM ((N.nx,o)::N.hs) p)
  rw [aZ];by_cases he:N.nx=p
  ·subst he;rw [if_pos rfl];exact jh hv
  ·rw [if_neg he];by_cases hp:p < N.nx
   ·exact (hm.obj p).mono hv hp fun _ _=>rfl
   ·rw [hm.dom p (Nat.le_of_not_lt hp)];trivial
 ·rcases hmu i p h1 h3 with ⟨a1,a2⟩|⟨a1,a2⟩<;>rcases hmu i' p h2 h4 with ⟨b1,b2⟩|⟨b1,b2⟩
  ·omega
  ·exact absurd (a2▸b2) (hf i' b1)
  ·exact absurd (b2▸a2) (hf i a1)
  ·exact hm.inj i i' p a1 b1 a2 b2
 ·rcases hmu i p h1 h2 with ⟨_,a2⟩|⟨a1,a2⟩
  ·omega
  ·exact hm.lt _ _ a1 a2
 ·show aM ((N.nx,o)::N.hs) p=.dead
  have hp':N.nx+1<=p:=hp;rw [aZ,if_neg (by omega)]
  exact hm.dom p (by omega)
 ·rcases hmu i p h1 h2 with ⟨_,a2⟩|⟨a1,a2⟩
  ·left;omega
  ·exact hm.base i p a1 a2
end
end Go.Ey
