/- A part. -/
import Derived.Test.YtolnnaanmfnkjaaGreatDoorY09
set_option linter.all false
namespace Go.Ey
def IA:SD->Bool
 |.uf=>false
 |_=>true
def Ac:SD->Bool
 |.uf=>false
 |.agg ds=>ds.all IA
 |_=>true
def mY (N:Nm) (js is:List Nat):Prop:=∀j,j∈js->∃i∈is,i < N.nx/\N.μ i=some j
theorem mY.nil {N:Nm} {is:List Nat}:mY N [] is:=fun j hj=>by simp at hj
theorem mY.append {N:Nm} {js js' is is':List Nat} (h:mY N js is) (h':mY N js' is'):mY N (js++js') (is++is'):=fun j hj=>by
 rw [Bx] at hj;rcases hj with hj|hj
 ·obtain ⟨i,h1,h2⟩:=h j hj;exact ⟨i,Bx.2 (.inl h1),h2⟩
 ·obtain ⟨i,h1,h2⟩:=h' j hj;exact ⟨i,Bx.2 (.inr h1),h2⟩
def abf:D->List Nat
 |.arr id _ _=>[id]
 |_=>[]
theorem X8 (ds:List D):dI (.agg ds)=ds.flatMap abf:=rfl
theorem ac1 {N:Nm} {sd:SD} {d:D} (hr:uq N sd d) (ho:IA sd=true):mY N (abf d) (Un sd):=by
 cases sd with
 |uf=>cases ho
 |a x=>obtain ⟨c,_,rfl|⟨cs,n,_,rfl⟩⟩:=hr<;>exact mY.nil
 |full x=>obtain ⟨cs,n,_,rfl⟩:=hr;exact mY.nil
 |loc i o=>obtain ⟨_,j,_,rfl⟩:=hr;exact mY.nil
 |arr i=>
  obtain ⟨hi,⟨j,len,h1,rfl,_⟩|⟨_,cs,n,rfl,_⟩⟩:=hr
  ·intro q hq;simp [abf] at hq;subst hq;exact ⟨i,by simp [Un],hi,h1⟩
  ·exact mY.nil
 |view i x=>
  obtain ⟨hi,cs,len,_,rfl|⟨j,off,h1,rfl,_⟩⟩:=hr
  ·exact mY.nil
  ·intro q hq;simp [abf] at hq;subst hq;exact ⟨i,by simp [Un],hi,h1⟩
 |nY i x o=>obtain ⟨_,kd,q,_,_,⟨j,o',_,rfl,_⟩|⟨_,cs,rfl,_⟩⟩:=hr<;>exact mY.nil
 |ptr r o e=>obtain ⟨xs,rest,_,_,rfl⟩:=hr;exact mY.nil
 |fD f c=>obtain ⟨c',rfl,_⟩:=hr;exact mY.nil
 |agg ds=>exact hr.elim
 |lC ds=>exact hr.elim
theorem aar {N:Nm}:∀{ds:List SD} {ds':List D},aF (uq N) ds ds'->ds.all IA=true->mY N (dI (.agg ds')) (ds.flatMap Un)
 |[],[],_,_=>mY.nil
 |sd::ds,d::ds',hr,ho=>by simp only [Iv,As] at ho;rw [X8,D3,D3];exact (ac1 hr.1 ho.1).append (aar hr.2 ho.2)
 |[],_::_,hr,_=>hr.elim
 |_::_,[],hr,_=>hr.elim
theorem qG {N:Nm} {sd:SD} {d:D} (hr:RD N sd d) (ho:Ac sd=true):mY N (dI d) (zO sd):=by
 by_cases ha:∃ds,sd=.agg ds
 ·obtain ⟨ds,rfl⟩:=ha;obtain ⟨ds',rfl,hr⟩:=hr;exact aar hr ho
 ·by_cases ht:∃ds,sd=.lC ds
  ·obtain ⟨ds,rfl⟩:=ht;obtain ⟨ds',rfl,hr⟩:=hr;exact mY.nil
  ·have hc:uq N sd d:=hr.c (fun ds e=>ha ⟨ds,e⟩) (fun ds e=>ht ⟨ds,e⟩)
   have hn:IA sd=true:=by cases sd<;>first|rfl|cases ho
   rw [Pm fun ds e=>ha ⟨ds,e⟩]
   have:=ac1 hc hn
   have hda:∀ds,d≠.agg ds:=by
    intro ds e;subst e;cases sd with
    |uf=>cases hn
    |a x=>obtain ⟨c,_,h|⟨cs,n,_,h⟩⟩:=hc<;>cases h
    |full x=>obtain ⟨cs,n,_,h⟩:=hc;cases h
    |loc i o=>obtain ⟨_,j,_,h⟩:=hc;cases h
    |arr i=>obtain ⟨_,⟨j,len,_,h,_⟩|⟨_,cs,n,h,_⟩⟩:=hc<;>cases h
    |view i x=>obtain ⟨_,cs,len,_,h|⟨j,off,_,h,_⟩⟩:=hc<;>cases h
    |nY i x o=>obtain ⟨_,kd,q,_,_,⟨j,o',_,h,_⟩|⟨_,cs,h,_⟩⟩:=hc<;>cases h
    |ptr r o e=>obtain ⟨xs,rest,_,_,h⟩:=hc;cases h
    |fD f c=>obtain ⟨c',h,_⟩:=hc;cases h
    |agg ds=>exact hc.elim
    |lC ds=>exact hc.elim
   cases d<;>first|exact this|exact absurd rfl (hda _)
theorem Xr {hs:List (Nat×SO)} {sd:SD} {p:At×List (Nat×SO)} (h:A7 hs sd=some p):IA sd=true:=by cases sd<;>first|rfl|cases h
theorem KZ:∀{ds:List SD} {hs:List (Nat×SO)} {p:List At×List (Nat×SO)},JD hs ds=some p->ds.all IA=true
 |[],_,_,_=>rfl
 |d::ds,hs,p,h=>by simp only [JD,A1] at h;obtain ⟨x,h1,y,h2,_⟩:=h;simp only [Iv,As];exact ⟨Xr h1,KZ h2⟩
theorem acd {hs:List (Nat×SO)} {sd:SD} {p:List At×List (Nat×SO)} (h:VK hs sd=some p):Ac sd=true:=by cases sd<;>first|rfl|(simp [VK,A7] at h;done)|exact KZ h
theorem Q6 {lens:List (Nat×Nat)} {hs:List (Nat×SO)} {sd:SD} {p:TV×List (Nat×SO)} (h:GX lens hs sd=some p):Ac sd=true:=by cases sd<;>first|rfl|(simp [GX,A7] at h;done)|(simp only [GX,A1] at h;obtain ⟨x,h1,_⟩:=h;exact KZ h1)
theorem NI {lens:List (Nat×Nat)}:∀{ds:List SD} {hs:List (Nat×SO)} {p:List TV×List (Nat×SO)},Ia lens hs ds=some p->ds.all Ac=true
 |[],_,_,_=>rfl
 |d::ds,hs,p,h=>by simp only [Ia,A1] at h;obtain ⟨x,h1,y,h2,_⟩:=h;simp only [Iv,As];exact ⟨Q6 h1,NI h2⟩
theorem H6 {hs:List (Nat×SO)} {ay:Nat} {sd:SD} {p:At} (h:lM hs ay sd=some p):Ac sd=true:=by cases sd<;>first|rfl|cases h
theorem Vm {ds:List SD} (h:ds.all BB=true):ds.all IA=true:=by
 rw [E0] at h |-;intro x hx;have:=h x hx
 cases x<;>first|rfl|cases this
theorem Nf {sd:SD} {xs:List SD} (h:cellsS sd=some xs):Ac sd=true:=by
 cases sd with
 |agg ds=>
  simp only [cellsS] at h;split at h
  ·rename_i hc;exact Vm hc
  ·cases h
 |uf=>simp [cellsS,BB] at h
 |_=>rfl
theorem RY {sx:X->SD}:∀{parts:List (Nat×Nat×X)} {ds out:List SD},Ei sx ds parts=some out->∀p∈parts,Ac (sx p.2.2)=true
 |[],_,_,_,p,hp=>by simp at hp
 |(off,size,x)::parts,ds,out,h,p,hp=>by
  simp only [Ei,A1] at h;obtain ⟨xs,h1,h2⟩:=h;split at h2
  case isFalse=>cases h2
  simp only [D1] at hp;rcases hp with rfl|hp
  ·exact Nf h1
  ·exact RY h2 p hp
theorem Ou {N:Nm} {sx:X->SD} {dx:X->D} (hx:∀x,RD N (sx x) (dx x)) {α:Type} {g:α->X}:∀{l:List α},(∀p∈l,Ac (sx (g p))=true)->mY N (l.flatMap fun p=>dI (dx (g p))) (l.flatMap fun p=>zO (sx (g p)))
 |[],_=>mY.nil
 |p::l,h=>by simp only [D3];exact (qG (hx _) (h p (by simp))).append (Ou hx fun q hq=>h q (by simp [hq]))
section
variable {b:Bs} {ρ:List W} {μ:Nat->Option Nat} {σ:Sy} {h:Heap} {k:Nat} {call:qM} {head:ug} {kt:SD->Sy->Nat->Tree} {r:R} {sx:X->SD} {dx:X->D}
theorem afY (hx:∀x,RD (nm ρ μ σ) (sx x) (dx x)) (ins:Ins) (hi:∀f xs,ins≠.call f xs) (hd:aR call head (bD σ ρ.length sx kt ins) ρ=some r):mY (nm ρ μ σ) (touches dx ins) (jF sx ins):=by
 have loc:∀x,(∃i off,sx x=.loc i off)\/(∃i y off,sx x=.nY i y off)\/(∃q off e,sx x=.ptr q off e)->mY (nm ρ μ σ) (match dx x with|.loc id _=>[id]|_=>[]) (match sx x with|.loc i _=>[i]|.nY i _ _=>[i]|_=>[]):=by
  intro x hs;have hr:=hx x;rcases hs with ⟨i,off,hs⟩|⟨i,y,off,hs⟩|⟨q,off,e,hs⟩
  ·rw [hs] at hr |-;obtain ⟨h0,j,h1,h2⟩:=hr;rw [h2];intro p hp;simp at hp;subst hp;exact ⟨i,by simp,h0,h1⟩
  ·rw [hs] at hr |-;obtain ⟨h0,kd,q,_,_,⟨j,o',h1,h2,_⟩|⟨_,cs,h2,_⟩⟩:=hr
   ·rw [h2];intro p hp;simp at hp;subst hp;exact ⟨i,by simp,h0,h1⟩
   ·rw [h2];exact mY.nil
  ·rw [hs] at hr |-;obtain ⟨xs,rest,_,_,h2⟩:=hr;rw [h2];exact mY.nil
 cases ins with
 |load agg size x=>
  simp only [bD] at hd;simp only [touches,jF];refine loc x ?_;split at hd
  ·rename_i i off hs;exact .inl ⟨i,off,hs⟩
  ·rename_i q off e hs;exact .inr (.inr ⟨q,off,e,hs⟩)
  ·rename_i i y off hs;exact .inr (.inl ⟨i,y,off,hs⟩)
  ·cases hd
 |store size a v=>
  simp only [bD] at hd;simp only [touches,jF];split at hd
  ·rename_i i off hs;have hl:=loc a (.inl ⟨i,off,hs⟩);rw [hs] at hl;refine hl.append (qG (hx v) ?_);split at hd
   ·rename_i hc;exact Nf hc
   ·cases hd
  ·rename_i i y off hs;have hl:=loc a (.inr (.inl ⟨i,y,off,hs⟩));rw [hs] at hl;refine hl.append (qG (hx v) ?_);split at hd
   ·rename_i hf;exact acd hf
   ·cases hd
  ·cases hd
 |lits ay ety len zero parts=>
  simp only [bD] at hd;simp only [touches,jF];split at hd
  ·rename_i hf;simp only [A1] at hf;obtain ⟨ds,h1,_⟩:=hf;exact Ou hx fun p hp=>RY h1 p hp
  ·cases hd
 |toStr x=>
  simp only [bD] at hd;simp only [touches,jF];split at hd
  ·rename_i h1;exact qG (hx x) (H6 h1)
  ·cases hd
 |slc ay x lo hi=>
  simp only [bD] at hd;simp only [touches,jF];refine qG (hx x) ?_;split at hd
  ·split at hd
   ·rename_i hs;rw [hs];rfl
   ·rename_i hs;rw [hs];rfl
   ·rename_i hs;rw [hs];rfl
   ·cases hd
  ·cases hd
 |clip ay x lo hi mx=>
  simp only [bD] at hd;simp only [touches,jF];refine qG (hx x) ?_;split at hd
  ·rename_i h1 _ _ _;have h2:=Xr h1;have h3:=Ue h1;cases hs:sx x with
   |uf=>rw [hs] at h2;cases h2
   |agg ds=>exact absurd hs (h3.1 ds)
   |_=>rfl
  ·cases hd
 |Iq ay x i=>
  simp only [bD] at hd;simp only [touches,jF];refine qG (hx x) ?_;split at hd
  ·split at hd
   ·rename_i hs;rw [hs];rfl
   ·rename_i hs;rw [hs];rfl
   ·rename_i hs;rw [hs];rfl
   ·cases hd
  ·cases hd
 |app ay ety bytes x y=>
  simp only [bD] at hd;simp only [touches,jF];split at hd
  ·rename_i h1;refine mY.append (qG (hx x) ?_) (qG (hx y) (H6 h1));split at hd
   ·rename_i hs;rw [hs];rfl
   ·rename_i hs;rw [hs];rfl
   ·cases hd
  ·cases hd
 |R6 ay x y=>
  simp only [bD] at hd;simp only [touches,jF];split at hd
  ·rename_i h1 hs;exact mY.append (qG (hx x) (by rw [hs];rfl)) (qG (hx y) (H6 h1))
  ·cases hd
 |call f xs=>exact absurd rfl (hi f xs)
 |mV f xs=>simp [bD,aR] at hd
 |PY kind n agg z ok x k=>simp [bD,aR] at hd
 |PX kind n x k v=>simp [bD,aR] at hd
 |_=>exact mY.nil
theorem ad4 (hm:Rm b (nm ρ μ σ) h k σ.lens) (hx:∀x,RD (nm ρ μ σ) (sx x) (dx x)) (ins:Ins) (hd:aR call head (bD σ ρ.length sx kt ins) ρ=some r):Goal b ρ μ σ h k call head kt r sx dx ins:=by
 cases ins with
 |ZN x=>exact anx hm hx hd
 |pick c a b=>simp [bD,aR] at hd
 |alloc zero=>exact aho hm hx hd
 |box x=>exact apP hm hx hd
 |build zero parts=>exact agN hm hx hd
 |lits ay ety len zero parts=>exact alP hm hx hd
 |load agg size x=>exact ak8 hm hx hd
 |store size a v=>exact ahR hm hx hd
 |GY x=>exact aiG hm hx hd
 |bin op K4 x y=>exact apU hm hx hd
 |eqs ks neg x y=>exact ao6 hm hx hd
 |un op x=>exact asU hm hx hd
 |conv kd x=>exact aj8 hm hx hd
 |toStr x=>exact ag8 hm hx hd
 |mk ay ety bytes zero l c=>exact arP hm hx hd
 |slc ay x lo hi=>exact ao8 hm hx hd
 |clip ay x lo hi mx=>exact akE hm hx hd
 |sls x lo hi=>exact ane hm hx hd
 |Qa off x=>exact alh hm hx hd
 |fld off agg size x=>exact aoS hm hx hd
 |Iq ay x i=>exact akH hm hx hd
 |Ct x i=>exact amP hm hx hd
 |ext x i=>exact ani hm hx hd
 |len t x=>exact apw hm hx hd
 |app ay ety bytes x y=>exact apn hm hx hd
 |R6 ay x y=>exact aoY hm hx hd
 |mx x y=>exact am5 (isMax:=true) hm hx hd
 |mn x y=>exact am5 (isMax:=false) hm hx hd
 |mkf f xs=>exact anZ hm hx hd
 |call f xs=>simp [bD,aR] at hd
 |jB f own xs=>simp [bD,aR] at hd
 |mV f xs=>simp [bD,aR] at hd
 |kX x xs=>simp [bD,aR] at hd
 |mkm=>simp [bD,aR] at hd
 |PY k n ag z ok x y=>simp [bD,aR] at hd
 |PX k n x y z=>simp [bD,aR] at hd
end
theorem XI {call call':Callee} (hc:∀f vs,Le (call f vs) (call' f vs)) (dx:X->D) (h:Heap) (slot:Nat) (i:Ins):Le (eU call dx h slot i) (eU call' dx h slot i):=by
 cases i with
 |call f xs=>
  simp only [eU,A2];exact Le.bind (Le.refl _) fun p=>Le.bind (hc _ _) fun _=>Le.refl _
 |_=>exact Le.refl _
theorem NR {call call':Callee} (hc:∀f vs,Le (call f vs) (call' f vs)) (dx:X->D) (h:Heap) (slot:Nat) (i:Ins):Le (oK call dx h slot i) (oK call' dx h slot i):=by
 unfold oK;split
 ·exact Le.refl _
 ·exact XI hc dx h slot i
theorem Hw {gU LG:xg} (hl:∀f ds h k,Le (gU f ds h k) (LG f ds h k)) (own:Nat) (f:Nat) (ds:List D) (h:Heap) (nx:Nat):Le (zy gU own f ds h nx) (zy LG own f ds h nx):=by simp only [zy,A2];exact Le.bind (Le.refl _) fun p=>Le.bind (hl _ _ _ _) fun _=>Le.refl _
theorem Au {call call':Callee} {gU LG:xg} (hc:∀f vs,Le (call f vs) (call' f vs)) (hl:∀f ds h k,Le (gU f ds h k) (LG f ds h k)):∀(is:List jl) (s:St),Le (mX call gU is s) (mX call' LG is s)
 |[],s=>Le.refl _
 |i::is,s=>by
  simp only [mX,A2];refine Le.bind (Le.refl _) fun w=>?_
  split
  ·split
   ·exact Le.bind (Hw hl _ _ _ _ _) fun p=>Au hc hl is _
   ·split
    ·exact Le.bind (Hw hl _ _ _ _ _) fun p=>Au hc hl is _
    ·exact Le.refl _
   ·exact Le.bind (NR hc _ _ _ _) fun p=>Au hc hl is _
  ·exact Au hc hl is _
theorem YY {bg EP:Cv} (hl:∀f aY bs,Le (bg f aY bs) (EP f aY bs)) (h:Heap) (f:Nat) (ds:List D):Le (Eg bg h f ds) (Eg EP h f ds):=by simp only [Eg,A2];exact Le.bind (Le.refl _) fun p=>Le.bind (Le.refl _) fun _=>Le.bind (hl _ _ _) fun _=>Le.refl _
theorem OZ {call call':Callee} {bg EP:Cv} (hc:∀f vs,Le (call f vs) (call' f vs)) (hl:∀f aY bs,Le (bg f aY bs) (EP f aY bs)) (dx:X->D) (h:Heap) (slot:Nat) (i:Ins):Le (lW call bg dx h slot i) (lW call' EP dx h slot i):=by
 by_cases hne:∃f xs,i=.mV f xs
 ·obtain ⟨f,xs,rfl⟩:=hne;exact YY hl _ _ _
 ·have e:∀c l,lW c l dx h slot i=oK c dx h slot i:=fun c l=>by cases i<;>first|rfl|exact absurd ⟨_,_,rfl⟩ hne
  rw [e,e];exact NR hc dx h slot i
theorem FC {call call':Callee} {bg EP:Cv} (hc:∀f vs,Le (call f vs) (call' f vs)) (hl:∀f aY bs,Le (bg f aY bs) (EP f aY bs)) (nx:Nat):∀(is:List jl) (k:Nat) (e:Env) (h:Heap),Le (mW call bg nx k is e h) (mW call' EP nx k is e h)
 |[],_,_,_=>Le.refl _
 |i::is,k,e,h=>by
  simp only [mW,A2];refine Le.bind (Le.refl _) fun w=>?_
  split
  ·exact Le.bind (OZ hc hl _ _ _ _) fun p=>Le.bind (FC hc hl nx is _ _ _) fun _=>Le.refl _
  ·exact Le.bind (FC hc hl nx is _ _ _) fun _=>Le.refl _
theorem Dj {call call':Callee} {bg EP:Cv} {gU LG:xg} (hc:∀f vs,Le (call f vs) (call' f vs)) (hl:∀f aY bs,Le (bg f aY bs) (EP f aY bs)) (hd:∀f ds h k,Le (gU f ds h k) (LG f ds h k)):
  ∀(is:List jl) (k nx:Nat) (acc:List Nat) (e:Env) (h:Heap),Le (Ec call bg gU k nx acc is e h) (Ec call' EP LG k nx acc is e h)
 |[],_,_,_,_,_=>Le.refl _
 |i::is,k,nx,acc,e,h=>by
  simp only [Ec,A2];refine Le.bind (Le.refl _) fun w=>?_
  split
  ·split
   ·refine Le.bind ?_ fun p=>Le.bind (Dj hc hl hd is _ _ _ _ _) fun _=>Le.refl _
    split
    ·exact Hw hd _ _ _ _ _
    ·exact Le.refl _
   ·exact Le.refl _
   ·exact Le.bind (OZ hc hl _ _ _ _) fun p=>Le.bind (Dj hc hl hd is _ _ _ _ _) fun _=>Le.refl _
  ·exact Le.bind (Dj hc hl hd is _ _ _ _ _) fun _=>Le.refl _
theorem IU (F:Fe):∀n,(∀c s,Le (dn F n c s) (dn F (n+1) c s))/\(∀f ds h k,Le (jh F n f ds h k) (jh F (n+1) f ds h k))/\(∀f vs,Le (oF F n f vs) (oF F (n+1) f vs))/\(∀f aY bs,Le (lT F n f aY bs) (lT F (n+1) f aY bs))
 |0=>⟨fun _ _ r h=>by simp [dn] at h,fun _ _ _ _ r h=>by simp [jh] at h,fun _ _ r h=>by simp [oF] at h,fun _ _ _ r h=>by simp [lT] at h⟩
 |n+1=>by
  obtain ⟨h1,h2,h3,h4⟩:=IU F n;refine ⟨fun c s=>?_,fun f ds h k=>?_,fun f vs=>?_,fun f aY bs=>?_⟩
  ·rw [dn.eq_def,dn.eq_def F (n+1+1)];cases c with
   |skip=>exact Le.refl _
   |exit id=>exact Le.refl _
   |ret=>exact Le.refl _
   |region is=>
    simp only [A2];exact Le.bind (Au h3 h2 is s) fun _=>Le.refl _
   |draw is ws=>
    simp only [A2];exact Le.bind (FC h3 h4 _ _ _ _ _) fun _=>Le.refl _
   |mix is ws=>
    simp only [A2];exact Le.bind (Dj h3 h4 h2 _ _ _ _ _ _) fun _=>Le.refl _
   |seq a b=>
    simp only [A2];refine Le.bind (h1 a s) fun p=>?_
    split
    ·exact h1 b _
    ·exact Le.refl _
   |cond x a b=>
    simp only [A2];exact Le.bind (Le.refl _) fun t=>h1 _ _
   |block id c=>
    simp only [A2];exact Le.bind (h1 c s) fun _=>Le.refl _
   |loop c=>
    simp only [A2];refine Le.bind (h1 c s) fun p=>?_
    split
    ·exact h1 (.loop c) _
    ·exact Le.refl _
  ·rw [jh,jh];simp only [A2];refine Le.bind (Le.refl _) fun I=>?_
   split
   ·refine Le.bind (h1 _ _) fun p=>?_
    exact Le.refl _
   ·exact Le.refl _
  ·rw [oF,oF];split
   ·exact Le.refl _
   simp only [A2];exact Le.bind (h2 _ _ _ _) fun p=>Le.refl _
  ·rw [lT,lT];simp only [A2];exact Le.bind (h2 _ _ _ _) fun p=>Le.refl _
theorem Gq {F:Fe} {n n':Nat} (h:n<=n') (c:jA) (s:St):Le (dn F n c s) (dn F n' c s):=by
 induction h with
 |refl=>exact Le.refl _
 |step _ ih=>exact fun r hr=>(IU F _).1 c s r (ih r hr)
theorem QF {F:Fe} {n n':Nat} (h:n<=n') (f:Nat) (ds:List D) (hp:Heap) (k:Nat):Le (jh F n f ds hp k) (jh F n' f ds hp k):=by
 induction h with
 |refl=>exact Le.refl _
 |step _ ih=>exact fun r hr=>(IU F _).2.1 f ds hp k r (ih r hr)
theorem aiL {F:Fe} {n n':Nat} (h:n<=n') (f:Nat) (vs:List V):Le (oF F n f vs) (oF F n' f vs):=by
 induction h with
 |refl=>exact Le.refl _
 |step _ ih=>exact fun r hr=>(IU F _).2.2.1 f vs r (ih r hr)
theorem ack {F:Fe} {n n':Nat} (h:n<=n') (f:Nat) (aY:List LV) (bs:List (List C)):Le (lT F n f aY bs) (lT F n' f aY bs):=by
 induction h with
 |refl=>exact Le.refl _
 |step _ ih=>exact fun r hr=>(IU F _).2.2.2 f aY bs r (ih r hr)
end Go.Ey
namespace Go.Ey
def gz {α β γ:Type} (R:α->β->γ->Prop):List α->List β->List γ->Prop
 |[],[],[]=>True
 |a::aY,b::bs,c::cs=>R a b c/\gz R aY bs cs
 |_,_,_=>False
theorem gz.mono {α β γ:Type} {R R':α->β->γ->Prop} (h:∀a b c,R a b c->R' a b c):∀{aY:List α} {bs:List β} {cs:List γ},gz R aY bs cs->gz R' aY bs cs
 |[],[],[],_=>trivial
 |_::_,_::_,_::_,h1=>⟨h _ _ _ h1.1,gz.mono h h1.2⟩
 |[],_::_,_,h1=>h1.elim
 |[],[],_::_,h1=>h1.elim
 |_::_,[],_,h1=>h1.elim
 |_::_,_::_,[],h1=>h1.elim
theorem gz.acj {α β γ:Type} {R:α->β->γ->Prop}:∀{aY:List α} {bs:List β} {cs:List γ},gz R aY bs cs->aY.length=bs.length/\aY.length=cs.length
 |[],[],[],_=>⟨rfl,rfl⟩
 |_::_,_::_,_::_,h1=>by have:=gz.acj h1.2;simp;omega
 |[],_::_,_,h1=>h1.elim
 |[],[],_::_,h1=>h1.elim
 |_::_,[],_,h1=>h1.elim
 |_::_,_::_,[],h1=>h1.elim
def VD:V->D->Prop
 |.one c,d=>CD c d
 |.agg cs,d=>∃ds,d=.agg ds/\aF CD cs ds
 |.full cs n,d=>CD (.slice cs n) d
def ZH (bg:List Nat):PS->LA->D->Prop
 |.one,.v (.one c),d=>CD c d
 |.agg m,.v (.agg xs),d=>xs.length=m/\VD (.agg xs) d
 |.ref b off,.ref b' off',d=>b'=b/\off'=off/\∃j,bg[b]?=some j/\d=.loc j off
 |.fD g caps,.ref b' off',d=>b'=0/\off'=0/\∃jC,d=.fD g jC/\aF (fun p q:Nat×Nat=>bg[p.1]?=some q.1/\q.2=p.2) caps jC
 |_,_,_=>False
def Iz (h:Heap) (m:Nat) (xs:List C) (j:Nat):Prop:=xs.length=m/\∃ds,aH h j=.box ds/\aF CD xs ds
def QS (h:Heap) (k0:Nat):CK->C->D->Prop
 |.c,c,d=>CD c d\/∃j off len cs ay fz ety,d=.arr j off len/\k0<=j/\aH h j=.arr cs ay fz ety/\off+len * ay<=cs.length/\c=.slice ((cs.drop off).take (len * ay)) len
 |.d,c,d=>CD c d
 |.full,c,d=>∃cs n,c=.slice cs n/\d=.full cs n
 |.own ay ety fr al,c,d=>∃cs n,c=.slice cs n/\cs.length=n * ay/\
   ((∃j fz,d=.arr j 0 n/\k0<=j/\aH h j=.arr cs ay fz ety/\0 < ay/\fz<=cs.length/\(fr=false->fz=0))\/(d=.full cs n/\al=false/\(fr=false->cs=[]/\n=0)))
def RsR (h:Heap) (k0:Nat):RS->V->D->Prop
 |.one k,.one c,d=>QS h k0 k c d
 |.agg ks,.agg cs,d=>∃ds,d=.agg ds/\gz (QS h k0) ks cs ds
 |_,_,_=>False
def DR:CK->D->List Nat
 |.own _ _ _ _,.arr j _ _=>[j]
 |_,_=>[]
def CU:List CK->List D->List Nat
 |k::ks,d::ds=>DR k d++CU ks ds
 |_,_=>[]
def Yr:RS->D->List Nat
 |.one k,d=>DR k d
 |.agg ks,.agg ds=>CU ks ds
 |_,_=>[]
def qi:List RS->List D->List Nat
 |k::ks,d::ds=>Yr k d++qi ks ds
 |_,_=>[]
def adl (F:Fe) (s:fC) (f:Nat) (aY:List LA) (bs:List (List C)) (vs:List V) (bs':List (List C)):Prop:=
 ∀(h:Heap) (k:Nat) (bg:List Nat) (ds:List D),gz (ZH bg) s.params aY ds->gz (Iz h) s.boxes bs bg->bg.Nodup->(∀j∈bg,j < k)->
  ∃n rs h' k',jh F n f ds h k=some (rs,h',k')/\k<=k'/\(∀j,j < k->j ∉ bg->aH h' j=aH h j)/\gz (Iz h') s.boxes bs' bg/\gz (RsR h' k) s.rs vs rs/\(qi s.rs rs).Nodup/\∀j∈qi s.rs rs,j < k'
def sF:List PS->List LA->Prop
 |[],[]=>True
 |.one::ps,.v (.one _)::aY=>sF ps aY
 |.agg m::ps,.v (.agg xs)::aY=>xs.length=m/\sF ps aY
 |.ref b off::ps,.ref b' off'::aY=>b'=b/\off'=off/\sF ps aY
 |.fD _ _::ps,.ref b' off'::aY=>b'=0/\off'=0/\sF ps aY
 |_,_=>False
def tN (F:Fe) (sig:Nat->Option fC) (call:qM):Prop:=∀f aY bs r,call f aY bs=some r->∃s,sig f=some s/\sF s.params aY/\aF (fun m (xs:List C)=>xs.length=m) s.boxes bs/\
 (s.nat=false->adl F s (s.cd f) aY bs r.1 r.2/\∀vs,F.nat (s.cd f) vs=none)/\(s.nat=true->∃vs,aY=vs.map .v/\∃n0,∀n,n0<=n->oF F n f vs=some r.1)
theorem QS.upd {h h':Heap} {k0:Nat} (hh:∀j cs ay fz ety,aH h j=.arr cs ay fz ety->∃nW,aH h' j=.arr cs ay nW ety) {c:C} {d:D} (hr:QS h k0 .c c d):QS h' k0 .c c d:=by
 rcases hr with hr|⟨j,off,len,cs,ay,fz,ety,h1,h2,h3,h4⟩
 ·exact .inl hr
 ·obtain ⟨nW,h5⟩:=hh _ _ _ _ _ h3;exact .inr ⟨j,off,len,cs,ay,nW,ety,h1,h2,h5,h4⟩
theorem QS.oo {h:Heap} {k0:Nat} {ck:CK} {c:C} {d:D} (hr:QS h k0 ck c d):∃us,Ey.oo h d=some (c,us)/\(∀p∈us,k0<=p.1)/\∀j cs ay fz ety,aH h j=.arr cs ay fz ety->∃nW,aH (aK h us) j=.arr cs ay nW ety:=by
 have MF:∀{c:C} {d:D},CD c d->∃us,Ey.oo h d=some (c,us)/\(∀p∈us,k0<=p.1)/\∀j cs ay fz ety,aH h j=.arr cs ay fz ety->∃nW,aH (aK h us) j=.arr cs ay nW ety:=by
  intro c d hc;refine ⟨[],?_,by simp,fun j cs ay fz ety hg=>⟨fz,hg⟩⟩
  rcases hc with rfl|⟨cs,n,rfl,rfl⟩<;>rfl
 have arr:∀{j off len:Nat} {cs:List C} {ay fz ety:Nat},k0<=j->aH h j=.arr cs ay fz ety->off+len * ay<=cs.length->∃us,Ey.oo h (.arr j off len)=some (.slice ((cs.drop off).take (len * ay)) len,us)/\(∀p∈us,k0<=p.1)/\∀j cs ay fz ety,aH h j=.arr cs ay fz ety->∃nW,aH (aK h us) j=.arr cs ay nW ety:=by
  intro j off len cs ay fz ety hk hg hl;by_cases hz:off+len * ay<=fz
  ·exact ⟨[],by simp only [Ey.oo,hg];rw [C4 hl,C4 hz],by simp,fun _ _ _ fz _ h=>⟨fz,h⟩⟩
  ·refine ⟨[(j,.arr cs ay (off+len * ay) ety)],by simp only [Ey.oo,hg];rw [C4 hl,Dd hz],by simpa using hk,fun q cs' jW nW mh hq=>?_⟩
   simp only [aK,aH];split
   ·rename_i e;subst e;rw [hg] at hq;injection hq with e1 e2 e3 e4;subst e1 e2 e3 e4;exact ⟨_,rfl⟩
   ·exact ⟨nW,hq⟩
 cases ck with
 |c=>
  rcases hr with hr|⟨j,off,len,cs,ay,fz,ety,rfl,h2,h3,h4,rfl⟩
  ·exact MF hr
  ·exact arr h2 h3 h4
 |d=>exact MF hr
 |full=>obtain ⟨cs,n,rfl,rfl⟩:=hr;exact MF (.inr ⟨cs,n,rfl,rfl⟩)
 |own ay ety fr al=>
  obtain ⟨cs,n,rfl,h1,h2⟩:=hr;rcases h2 with ⟨j,fz,rfl,h3,h4,h5,h6,_⟩|⟨rfl,_⟩
  ·have:=arr (off:=0) (len:=n) h3 h4 (by omega)
   rw [show (cs.drop 0).take (n * ay)=cs by rw [<-h1];simp] at this
   exact this
  ·exact MF (.inr ⟨cs,n,rfl,rfl⟩)
theorem QS.mono {h h':Heap} {k0:Nat} (hh:∀j cs ay fz ety,aH h j=.arr cs ay fz ety->∃nW,aH h' j=.arr cs ay nW ety) {ck:CK} {c:C} {d:D} (hr:QS h k0 ck c d):∃ck',QS h' k0 ck' c d:=by
 cases ck with
 |c=>exact ⟨.c,hr.upd hh⟩
 |d=>exact ⟨.d,hr⟩
 |full=>exact ⟨.full,hr⟩
 |own ay ety fr al=>
  obtain ⟨cs,n,rfl,h1,h2⟩:=hr;rcases h2 with ⟨j,fz,rfl,h3,h4,h5,h6,_⟩|⟨rfl,_⟩
  ·obtain ⟨nW,h7⟩:=hh _ _ _ _ _ h4;exact ⟨.c,.inr ⟨j,0,n,cs,ay,nW,ety,rfl,h3,h7,by omega,by rw [<-h1];simp⟩⟩
  ·exact ⟨.d,.inr ⟨cs,n,rfl,rfl⟩⟩
def agO (h:Heap) (k0:Nat) (c:C) (d:D):Prop:=∃ck,QS h k0 ck c d
theorem Wh {k0:Nat}:∀{cs:List C} {ds:List D} {h:Heap},aF (agO h k0) cs ds->∃us,lZ h ds=some (cs,us)/\(∀p∈us,k0<=p.1)/\∀j xs ay fz ety,aH h j=.arr xs ay fz ety->∃nW,aH (aK h us) j=.arr xs ay nW ety
 |[],[],h,_=>⟨[],rfl,by simp,fun _ _ _ fz _ h=>⟨fz,h⟩⟩
 |c::cs,d::ds,h,hr=>by
  obtain ⟨⟨ck,h1⟩,h2⟩:=hr;obtain ⟨us,k1,k2,k3⟩:=h1.oo;obtain ⟨vs,l1,l2,l3⟩:=Wh (h:=aK h us) (h2.mono fun c d ⟨ck,hc⟩=>hc.mono k3)
  refine ⟨us++vs,by simp [lZ,k1,l1],fun p hp=>?_,fun j xs ay fz ety hg=>?_⟩
  ·rw [Bx] at hp;exact hp.elim (k2 p) (l2 p)
  ·obtain ⟨nW,hg'⟩:=k3 _ _ _ _ _ hg;rw [jy];exact l3 _ _ _ _ _ hg'
 |[],_::_,_,hr=>hr.elim
 |_::_,[],_,hr=>hr.elim
def abG (h:Heap) (k0:Nat):V->D->Prop
 |.one c,d=>agO h k0 c d
 |.agg cs,d=>∃ds,d=.agg ds/\aF (agO h k0) cs ds
 |.full _ _,_=>False
theorem abG.mono {h h':Heap} {k0:Nat} (hh:∀j cs ay fz ety,aH h j=.arr cs ay fz ety->∃nW,aH h' j=.arr cs ay nW ety) {v:V} {d:D} (hr:abG h k0 v d):abG h' k0 v d:=by
 cases v with
 |one c=>obtain ⟨ck,h1⟩:=hr;exact h1.mono hh
 |agg cs=>obtain ⟨ds,h1,h2⟩:=hr;exact ⟨ds,h1,h2.mono fun c d ⟨ck,hc⟩=>hc.mono hh⟩
 |full _ _=>exact hr.elim
theorem Gw {k0:Nat}:∀{vs:List V} {ds:List D} {h:Heap},aF (abG h k0) vs ds->∃us,jV h ds=some (vs,us)/\(∀p∈us,k0<=p.1)/\∀j xs ay fz ety,aH h j=.arr xs ay fz ety->∃nW,aH (aK h us) j=.arr xs ay nW ety
 |[],[],h,_=>⟨[],rfl,by simp,fun _ _ _ fz _ h=>⟨fz,h⟩⟩
 |v::vs,d::ds,h,hr=>by
  have h1:∃us,nP h d=some (v,us)/\(∀p∈us,k0<=p.1)/\∀j xs ay fz ety,aH h j=.arr xs ay fz ety->∃nW,aH (aK h us) j=.arr xs ay nW ety:=by
   cases v with
   |one c=>
    obtain ⟨ck,h1⟩:=hr.1;obtain ⟨us,k1,k2,k3⟩:=h1.oo;exact ⟨us,Ph k1,k2,k3⟩
   |agg cs=>
    obtain ⟨es,h1,h2⟩:=hr.1;subst h1;obtain ⟨us,k1,k2,k3⟩:=Wh h2;exact ⟨us,by simp [nP,k1],k2,k3⟩
   |full _ _=>exact hr.1.elim
  obtain ⟨us,k1,k2,k3⟩:=h1;obtain ⟨ws,l1,l2,l3⟩:=Gw (h:=aK h us) (hr.2.mono fun v d h=>h.mono k3)
  refine ⟨us++ws,by simp [jV,k1,l1],fun p hp=>?_,fun j xs ay fz ety hg=>?_⟩
  ·rw [Bx] at hp;exact hp.elim (k2 p) (l2 p)
  ·obtain ⟨nW,hg'⟩:=k3 _ _ _ _ _ hg;rw [jy];exact l3 _ _ _ _ _ hg'
 |[],_::_,_,hr=>hr.elim
 |_::_,[],_,hr=>hr.elim
theorem ajM {h:Heap} {k0:Nat}:∀{ks:List CK} {cs:List C} {ds:List D},gz (QS h k0) ks cs ds->aF (agO h k0) cs ds
 |[],[],[],_=>trivial
 |k::_,_::_,_::_,h1=>⟨⟨k,h1.1⟩,ajM h1.2⟩
 |[],_::_,_,h1=>h1.elim
 |[],[],_::_,h1=>h1.elim
 |_::_,[],_,h1=>h1.elim
 |_::_,_::_,[],h1=>h1.elim
theorem RsR.any {h:Heap} {k0:Nat} {rs:RS} {v:V} {d:D} (hr:RsR h k0 rs v d):abG h k0 v d:=by
 cases rs with
 |one k=>cases v with
  |one c=>exact ⟨k,hr⟩
  |agg cs=>exact hr.elim
  |full _ _=>exact hr.elim
 |agg ks=>cases v with
  |one c=>exact hr.elim
  |full _ _=>exact hr.elim
  |agg cs=>obtain ⟨ds,h1,h2⟩:=hr;exact ⟨ds,h1,ajM h2⟩
theorem abg {h:Heap} {k0:Nat}:∀{ks:List RS} {vs:List V} {ds:List D},gz (RsR h k0) ks vs ds->aF (abG h k0) vs ds
 |[],[],[],_=>trivial
 |_::_,_::_,_::_,h1=>⟨h1.1.any,abg h1.2⟩
 |[],_::_,_,h1=>h1.elim
 |[],[],_::_,h1=>h1.elim
 |_::_,[],_,h1=>h1.elim
 |_::_,_::_,[],h1=>h1.elim
theorem aaB {h:Heap} {d:D} {c:C} {us:List (Nat×Obj)} (hf:oo h d=some (c,us)):∃d1,Mt h d=some (d1,us)/\CD c d1:=by
 cases d with
 |arr j off len=>exact ⟨.c c,by simp [Mt,hf],.inl rfl⟩
 |c x=>simp only [oo,A0,A3] at hf;obtain ⟨rfl,rfl⟩:=hf;exact ⟨_,rfl,.inl rfl⟩
 |full cs n=>simp only [oo,A0,A3] at hf;obtain ⟨rfl,rfl⟩:=hf;exact ⟨_,rfl,.inr ⟨cs,n,rfl,rfl⟩⟩
 |_=>cases hf
theorem UF:∀{ds:List D} {h:Heap} {cs:List C} {us:List (Nat×Obj)},lZ h ds=some (cs,us)->∃ds1,Og h ds=some (ds1,us)/\aF CD cs ds1
 |[],h,cs,us,hf=>by simp only [lZ,A0,A3] at hf;obtain ⟨rfl,rfl⟩:=hf;exact ⟨[],rfl,trivial⟩
 |d::ds,h,cs,us,hf=>by simp only [lZ,A2,A1,A0,A3,C0] at hf;obtain ⟨c,u,h1,cs',us',h2,rfl,rfl⟩:=hf;obtain ⟨d1,k1,k2⟩:=aaB h1;obtain ⟨ds1,k3,k4⟩:=UF h2;exact ⟨d1::ds1,by simp [Og,k1,k3],k2,k4⟩
theorem abk {h:Heap} {d:D} {v:V} {us:List (Nat×Obj)} (hf:nP h d=some (v,us)):∃d1,Uf h d=some (d1,us)/\VD v d1:=by
 by_cases ha:∃ds,d=.agg ds
 ·obtain ⟨ds,rfl⟩:=ha;simp only [nP,A2,A1,A0,A3,C0] at hf;obtain ⟨cs,u,h1,rfl,rfl⟩:=hf;obtain ⟨ds1,k1,k2⟩:=UF h1;exact ⟨.agg ds1,by simp [Uf,k1],ds1,rfl,k2⟩
 ·have hf':(oo h d).bind (fun p=>some (V.one p.1,p.2))=some (v,us):=by cases d<;>first|exact hf|exact absurd ⟨_,rfl⟩ ha
  simp only [A1,A0,A3,C0] at hf';obtain ⟨c,u,h1,rfl,rfl⟩:=hf';obtain ⟨d1,k1,k2⟩:=aaB h1;have:Uf h d=Mt h d:=by cases d<;>first|rfl|exact absurd ⟨_,rfl⟩ ha
  exact ⟨d1,by rw [this];exact k1,k2⟩
theorem WX:∀{ds:List D} {h:Heap} {vs:List V} {us:List (Nat×Obj)},jV h ds=some (vs,us)->∃ds1,zz h ds=some (ds1,us)/\aF VD vs ds1
 |[],h,cs,us,hf=>by simp only [jV,A0,A3] at hf;obtain ⟨rfl,rfl⟩:=hf;exact ⟨[],rfl,trivial⟩
 |d::ds,h,cs,us,hf=>by simp only [jV,A2,A1,A0,A3,C0] at hf;obtain ⟨c,u,h1,cs',us',h2,rfl,rfl⟩:=hf;obtain ⟨d1,k1,k2⟩:=abk h1;obtain ⟨ds1,k3,k4⟩:=WX h2;exact ⟨d1::ds1,by simp [zz,k1,k3],k2,k4⟩
theorem VD.refl (v:V):VD v v.nE:=by
 cases v with
 |one c=>exact .inl rfl
 |full cs n=>exact .inr ⟨cs,n,rfl,rfl⟩
 |agg cs=>
  refine ⟨_,rfl,?_⟩;induction cs with
  |nil=>trivial
  |cons c cs ih=>exact ⟨.inl rfl,ih⟩
def VsW:List (Option Nat)->List V->List W->Prop
 |[],_,[]=>True
 |none::ss,.one c::vs,.c c'::ws=>c'=c/\VsW ss vs ws
 |some m::ss,.agg xs::vs,.l xs'::ws=>xs'=xs/\xs.length=m/\VsW ss vs ws
 |_,_,_=>False
theorem xx {α:Type} {vs:List V} {k:List W->Option α} {r:α}:∀{ss:List (Option Nat)} {j:Nat} {ρ:List W},gm vs k ss j ρ=some r->∃ws,VsW ss (vs.drop j) ws/\k (ρ++ws)=some r
 |[],j,ρ,h=>⟨[],trivial,by rw [D0];exact h⟩
 |none::ss,j,ρ,h=>by
  simp only [gm,A1] at h;obtain ⟨c,h1,h2⟩:=h;obtain ⟨ws,h3,h4⟩:=xx h2;unfold getOne at h1;split at h1
  case h_2=>cases h1
  rename_i c' hg;simp only [A0] at h1;subst h1;obtain ⟨hlt,hge⟩:=B0.1 hg;refine ⟨.c c'::ws,?_,by rw [Bk] at h4;exact h4⟩
  rw [Gk hlt,hge];exact ⟨rfl,h3⟩
 |some m::ss,j,ρ,h=>by
  simp only [gm,A1] at h;obtain ⟨c,h1,h2⟩:=h;obtain ⟨ws,h3,h4⟩:=xx h2;unfold NK at h1;split at h1
  case h_2=>cases h1
  rename_i xs hg;split at h1
  case isFalse=>cases h1
  rename_i hl;simp only [A0] at h1;subst h1;obtain ⟨hlt,hge⟩:=B0.1 hg;refine ⟨.l xs::ws,?_,by rw [Bk] at h4;exact h4⟩
  rw [Gk hlt,hge];exact ⟨rfl,hl,h3⟩
theorem Fv {α:Type} {bs:List (List C)} {k:List W->Option α} {r:α}:∀{ss:List Nat} {j:Nat} {ρ:List W},jo bs k ss j ρ=some r->∃xss:List (List C),aF (fun m xs=>xs.length=m) ss xss/\(∀q,q < ss.length->bs[j+q]?=xss[q]?)/\k (ρ++xss.map .l)=some r
 |[],j,ρ,h=>⟨[],trivial,by simp,by rw [Ln,D0];exact h⟩
 |m::ss,j,ρ,h=>by
  simp only [jo,A1] at h;obtain ⟨c,h1,h2⟩:=h;obtain ⟨xss,h3,h4,h5⟩:=Fv h2;unfold Sq at h1;split at h1
  case h_2=>cases h1
  rename_i xs hg;split at h1
  case isFalse=>cases h1
  rename_i hl;simp only [A0] at h1;subst h1;refine ⟨xs::xss,⟨hl,h3⟩,fun q hq=>?_,by rw [Bk] at h5;exact h5⟩
  cases q with
  |zero=>simpa using hg
  |succ q=>
   rw [show j+(q+1)=j+1+q by omega,h4 q (by simpa using hq)]
   simp
theorem VsW.len:∀{ss:List (Option Nat)} {vs:List V} {ws:List W},VsW ss vs ws->ws.length=ss.length
 |[],_,[],_=>rfl
 |none::_,.one _::_,.c _::_,h=>by simp [VsW.len h.2]
 |some _::_,.agg _::_,.l _::_,h=>by simp [VsW.len h.2.2]
theorem agq {N:Nm} {i:Nat} {xs:List C} (hw:jm N.ρ i=some (.l xs)):aF (uq N) ((Cq i 0 xs.length).map .a) (xs.map .c):=by
 have:=MN hw xs.length 0 (by omega)
 simpa using this
theorem MX {N:Nm}:∀{ss:List (Option Nat)} {vs:List V} {ws pre post:List W},VsW ss vs ws->vs.length=ss.length->N.ρ=pre++ws++post->∀{ds:List SD} {ls:List (Nat×Nat)},P5 ss pre.length=(ds,ls)->
  aF (RA N) ds (vs.map V.nE)/\∀i m,(i,m)∈ls->∃xs,jm N.ρ i=some (.l xs)/\xs.length=m
 |[],[],[],_,_,_,_,_,ds,ls,h=>by simp only [P5,A3] at h;obtain ⟨rfl,rfl⟩:=h;exact ⟨trivial,by simp⟩
 |none::ss,.one c::vs,.c c'::ws,pre,post,hw,hl,hρ,ds,ls,h=>by
  obtain ⟨rfl,hw⟩:=hw;cases hr:P5 ss (pre.length+1) with
  |mk ds' ls'=>
   simp only [P5,hr,A3] at h;obtain ⟨rfl,rfl⟩:=h;obtain ⟨h1,h2⟩:=MX (N:=N) (pre:=pre++[.c c']) (post:=post) hw (by simpa using hl) (by rw [hρ];simp) (by simpa using hr)
   refine ⟨⟨⟨c',?_,.inl rfl⟩,h1⟩,h2⟩;rw [hρ,Bk];exact at_new pre c' _
 |some m::ss,.agg xs::vs,.l xs'::ws,pre,post,hw,hl,hρ,ds,ls,h=>by
  obtain ⟨rfl,hm,hw⟩:=hw;cases hr:P5 ss (pre.length+1) with
  |mk ds' ls'=>
   simp only [P5,hr,A3] at h;obtain ⟨rfl,rfl⟩:=h;obtain ⟨h1,h2⟩:=MX (N:=N) (pre:=pre++[.l xs']) (post:=post) hw (by simpa using hl) (by rw [hρ];simp) (by simpa using hr)
   have hg:jm N.ρ pre.length=some (.l xs'):=by rw [hρ,Bk];exact mR pre _ _
   subst hm;refine ⟨⟨⟨_,rfl,agq hg⟩,h1⟩,fun i q hi=>?_⟩
   simp only [D1,A3] at hi;rcases hi with ⟨rfl,rfl⟩|hi
   ·exact ⟨xs',hg,rfl⟩
   ·exact h2 i q hi
 |[],_::_,_,_,_,_,hl,_,_,_,_=>by simp at hl
 |_::_,[],_,_,_,_,hl,_,_,_,_=>by simp at hl
 |[],[],_::_,_,_,hw,_,_,_,_,_=>hw.elim
 |none::_,.agg _::_,_,_,_,hw,_,_,_,_,_=>hw.elim
 |none::_,.one _::_,[],_,_,hw,_,_,_,_,_=>hw.elim
 |none::_,.one _::_,.l _::_,_,_,hw,_,_,_,_,_=>hw.elim
 |some _::_,.one _::_,_,_,_,hw,_,_,_,_,_=>hw.elim
 |some _::_,.agg _::_,[],_,_,hw,_,_,_,_,_=>hw.elim
 |some _::_,.agg _::_,.c _::_,_,_,hw,_,_,_,_,_=>hw.elim
theorem aiv {N:Nm} {ds:List SD} {vs:List V} (h:aF (RA N) ds (vs.map V.nE)):RD N (ZK ds) (Sr vs):=by
 match ds,vs,h with
 |[],[],_=>exact ⟨[],rfl,trivial⟩
 |[d],[v],h=>exact h.1.nE
 |d::d'::ds,v::v'::vs,h=>exact ⟨_,rfl,h⟩
theorem afa {ρ:List W}:∀{vs:List TV} {aY:List LA},wC ρ (vs.map .v)=some aY->∃xs,Es ρ vs=some xs/\aY=xs.map .v
 |[],aY,h=>by simp only [Ln,wC,A0] at h;subst h;exact ⟨[],rfl,rfl⟩
 |v::vs,aY,h=>by simp only [Cp,wC,YX,A1,A0] at h;obtain ⟨a,⟨x,h1,rfl⟩,as',h2,rfl⟩:=h;obtain ⟨xs,h3,rfl⟩:=afa h2;exact ⟨x::xs,by simp [Es,h1,h3],rfl⟩
theorem Sg {bg:List Nat}:∀{ps:List PS} {vs:List V} {ds:List D},sF ps (vs.map .v)->aF VD vs ds->gz (ZH bg) ps (vs.map .v) ds
 |[],[],[],_,_=>trivial
 |.one::ps,.one c::vs,d::ds,h1,h2=>⟨h2.1,Sg h1 h2.2⟩
 |.agg m::ps,.agg xs::vs,d::ds,h1,h2=>⟨⟨h1.1,h2.1⟩,Sg h1.2 h2.2⟩
 |[],_::_,_,h1,_=>h1.elim
 |[],[],_::_,_,h2=>h2.elim
 |_::_,_::_,[],_,h2=>h2.elim
 |.one::_,[],_,h1,_=>h1.elim
 |.agg _::_,[],_,h1,_=>h1.elim
 |.ref _ _::_,[],_,h1,_=>h1.elim
 |.fD _ _::_,[],_,h1,_=>h1.elim
 |.fD _ _::_,.one _::_,_::_,h1,_=>h1.elim
 |.fD _ _::_,.agg _::_,_::_,h1,_=>h1.elim
 |.one::_,.agg _::_,_::_,h1,_=>h1.elim
 |.agg _::_,.one _::_,_::_,h1,_=>h1.elim
 |.ref _ _::_,.one _::_,_::_,h1,_=>h1.elim
 |.ref _ _::_,.agg _::_,_::_,h1,_=>h1.elim
theorem N8:∀vs:List V,aF VD vs (vs.map V.nE)
 |[]=>trivial
 |v::vs=>⟨VD.refl v,N8 vs⟩
theorem adl.fn {F:Fe} {s:fC} {f:Nat} {vs:List V} {rs:List V} {bs':List (List C)} (h:adl F s f (vs.map .v) [] rs bs') (hs:sF s.params (vs.map .v)) (hb:s.boxes=[]) (aqL:F.nat f vs=none):∃n0,∀n,n0<=n->oF F n f vs=some rs:=by
 obtain ⟨n,ds,h',k',h1,h2,h3,h4,h5,_⟩:=h [] 0 [] (vs.map V.nE) (Sg hs (N8 vs)) (by rw [hb];trivial) Ix (by simp)
 obtain ⟨us,k1,_⟩:=Gw (abg h5);refine ⟨n+1,fun m hm=>?_⟩
 refine aiL hm f vs rs ?_;simp only [oF,aqL,h1,k1,A2,A4]
section
variable {b:Bs} {ρ:List W} {μ:Nat->Option Nat} {σ:Sy} {h:Heap} {k:Nat} {call:qM} {head:ug} {kt:SD->Sy->Nat->Tree} {r:R} {F:Fe} {sig:Nat->Option fC}
theorem Nh (hcall:tN F sig call) (hm:Rm b (nm ρ μ σ) h k σ.lens) {f:Nat} {jI:List SD} {ds:List D} (hds:aF (RD (nm ρ μ σ)) jI ds) (hd:aR call head (Gm sig σ ρ.length f jI kt) ρ=some r):
  ∃n0 vs us rs,jV h ds=some (vs,us)/\(∀n,n0<=n->oF F n f vs=some rs)/\GZ b ρ μ σ h k call head kt r (jI.flatMap zO) (Sr rs) us:=by
 unfold Gm at hd;split at hd
 case h_2=>cases hd
 rename_i s tvs us' hs hf;obtain ⟨vs,us,k1,k2,k3,k4,k5⟩:=Rw hm hds hf;by_cases hcd:s.code=none
 case neg=>rw [Dd hcd] at hd;cases hd
 rw [C4 hcd] at hd;have aj7:s.cd f=f:=by simp [fC.cd,hcd]
 cases hr:P5 (s.rs.map RS.shape) ρ.length with
 |mk aeZ ls=>
  simp only [hr,aR,A1] at hd;obtain ⟨aY,h1,bs,h2,rr,h3,hd⟩:=hd;obtain ⟨xs,h4,rfl⟩:=afa h1;have e1:xs=vs:=by have:Es ρ tvs=some vs:=k2;rw [h4] at this;injection this
  subst e1;simp only [FL,A0] at h2;subst h2;obtain ⟨s',g1,g2,g3,g4⟩:=hcall _ _ _ _ h3;rw [hs] at g1;injection g1 with g1;subst g1
  have hb:s.boxes=[]:=by cases hsb:s.boxes with|nil=>rfl|cons _ _=>rw [hsb] at g3;exact g3.elim
  obtain ⟨n0,hn⟩:∃n0,∀n,n0<=n->oF F n f xs=some rr.1:=by
   cases hsn:s.nat with
   |false=>obtain ⟨q1,q2⟩:=g4.1 hsn;rw [aj7] at q1 q2;exact q1.fn g2 hb (q2 _)
   |true=>
    obtain ⟨vs',q1,q2⟩:=g4.2 hsn;have:xs=vs':=by
     have inj:∀a b:List V,a.map LA.v=b.map LA.v->a=b:=by
      intro a;induction a with
      |nil=>intro b hb;cases b with|nil=>rfl|cons _ _=>simp at hb
      |cons x a ih=>intro b hb;cases b with
       |nil=>simp at hb
       |cons y b=>simp only [Cp,E6,LA.v.injEq] at hb;rw [hb.1,ih b hb.2]
     exact inj _ _ q1
    subst this;exact q2
  unfold sized at hd;split at hd
  case isFalse=>cases hd
  rename_i hsz;obtain ⟨ws,w1,w2⟩:=xx hd;simp only [jo] at w2;rw [An] at w1;refine ⟨n0,xs,us,rr.1,k1,hn,ws,μ,(σ.upd us').I5 ls,ZK aeZ,rfl,?_,?_,?_,?_,?_⟩
  ·exact k3.trans (mK _ ws)
  ·refine Rm.lens' ((k4.ext ws).tick (N4 k)) fun i m hi=>?_
   simp only [Sy.I5,Sy.upd,Bx] at hi;rcases hi with hi|hi
   ·exact (MX (N:=nm (ρ++ws) μ ((σ.upd us').I5 ls)) (pre:=ρ) (post:=[]) w1 hsz.1 (by simp [nm]) hr).2 i m hi
   ·exact (k4.ext ws).lens i m hi
  ·exact aiv (MX (N:=nm (ρ++ws) μ ((σ.upd us').I5 ls)) (pre:=ρ) (post:=[]) w1 hsz.1 (by simp [nm]) hr).1
  ·rw [B8,w1.len];exact w2
  ·intro j hj;obtain ⟨i,q1,q2,q3⟩:=k5 j hj;exact ⟨i,Gt (.inl q1),q2,q3⟩
theorem Rm.ap2 {N:Nm} {lens:List (Nat×Nat)} (hm:Rm b N h k lens) {q:Nat} {o:SO} (hq:q < k) (hb:b.k0<=q) (hf:∀i,i < N.nx->N.μ i≠some q) (zg:l9 N (N.new (some q) o)->Us (N.new (some q) o) h N.nx o):l9 N (N.new (some q) o)/\Rm b (N.new (some q) o) h k lens:=by
 have hv:l9 N (N.new (some q) o):=by
  refine ⟨fun _ _ h=>h,fun _ _ h=>h,N4 _,fun i hi=>?_,fun p y' ay ety fr' al' hp hg=>?_⟩
  ·show (if i=N.nx then some q else N.μ i)=N.μ i
   rw [Dd (by omega)]
  ·simp only [Nm.new,eu] at hg;rw [Dd (by omega)] at hg
   exact ⟨y',fr',al',hg,id,fun cs _ hc=>⟨cs,hc,fun _=>rfl⟩⟩
 have hmu:∀i p,i < N.nx+1->(N.new (some q) o).μ i=some p->(i=N.nx/\p=q)\/(i < N.nx/\N.μ i=some p):=by
  intro i p hi hp;by_cases he:i=N.nx
  ·have hp':some q=some p:=by simpa [Nm.new,he] using hp
   injection hp' with hp';exact .inl ⟨he,hp'.symm⟩
  ·have hp':N.μ i=some p:=by simpa [Nm.new,he] using hp
   exact .inr ⟨by omega,hp'⟩
 refine ⟨hv,fun p=>?_,fun i i' p h1 h2 h3 h4=>?_,fun i p h1 h2=>?_,fun p hp=>?_,fun i p h1 h2=>?_,hm.frame,hm.le,hm.lens⟩
 ·show Us (N.new (some q) o) h p (dm ((N.nx,o)::N.hs) p)
  rw [eu];by_cases he:N.nx=p
  ·subst he;rw [C4 rfl];exact zg hv
  ·rw [Dd he];by_cases hp:p < N.nx
   ·exact (hm.obj p).mono hv hp fun _ _=>rfl
   ·rw [hm.dom p (My hp)];trivial
 ·rcases hmu i p h1 h3 with ⟨a1,a2⟩|⟨a1,a2⟩<;>rcases hmu i' p h2 h4 with ⟨b1,b2⟩|⟨b1,b2⟩
  ·omega
  ·exact absurd (a2▸b2) (hf i' b1)
  ·exact absurd (b2▸a2) (hf i a1)
  ·exact hm.inj i i' p a1 b1 a2 b2
 ·rcases hmu i p h1 h2 with ⟨_,a2⟩|⟨a1,a2⟩
  ·omega
  ·exact hm.lt _ _ a1 a2
 ·show dm ((N.nx,o)::N.hs) p=.dead
  have hp':N.nx+1<=p:=hp;rw [eu,Dd (by omega)]
  exact hm.dom p (by omega)
 ·rcases hmu i p h1 h2 with ⟨_,a2⟩|⟨a1,a2⟩
  ·left;omega
  ·exact hm.base i p a1 a2
end
end Go.Ey
