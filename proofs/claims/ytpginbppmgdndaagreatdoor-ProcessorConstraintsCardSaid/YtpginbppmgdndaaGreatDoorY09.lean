/- A part of the proof. -/
import Derived.Test.YtpginbppmgdndaaGreatDoorY08
set_option linter.all false
namespace Go.Ey
theorem twDs_append {ρ:List W}:∀{a c:List TW} {ws:List W},twDs ρ (a++c)=some ws→∃wa wc,twDs ρ a=some wa∧twDs ρ c=some wc∧ws=wa++wc
 |[],c,ws,h=>⟨[],ws,rfl,h,rfl⟩
 |x::a,c,ws,h=>by
  simp only [List.cons_append,twDs,Option.bind_eq_some_iff,Option.some.injEq] at h
  obtain ⟨w,h1,ws',h2,rfl⟩:=h
  obtain ⟨wa,wc,h3,h4,rfl⟩:=twDs_append h2
  exact ⟨w::wa,wc,by simp [twDs,h1,h3],h4,rfl⟩
theorem twDs_c {ρ:List W} {x:At} {ws:List W} (h:twDs ρ [.c x]=some ws):∃c,atC ρ x=some c∧ws=[.c c]:=by
 simp only [twDs,twD,Option.bind_eq_some_iff,Option.some.injEq] at h
 obtain ⟨w,⟨c,h1,rfl⟩,ws',rfl,rfl⟩:=h
 exact ⟨c,h1,rfl⟩
theorem twDs_l {ρ:List W} {sl:SL} {ws:List W} (h:twDs ρ [.l sl]=some ws):∃xs,slD ρ sl=some xs∧ws=[.l xs]:=by
 simp only [twDs,twD,Option.bind_eq_some_iff,Option.some.injEq] at h
 obtain ⟨w,⟨c,h1,rfl⟩,ws',rfl,rfl⟩:=h
 exact ⟨c,h1,rfl⟩
theorem twDs_nil {ρ:List W} {ws:List W} (h:twDs ρ []=some ws):ws=[]:=by
 simp only [twDs,Option.some.injEq] at h;exact h.symm
structure Link (N N':Nm) (ms:List (Option Nat)):Prop where
 some_:∀q i,ms[q]?=some (some i)→i < N.nx→q < N'.nx∧N'.μ q=N.μ i∧∀y esz ety fr al,getO N'.hs q=.arr y esz ety fr al→∃x fr' al',getO N.hs i=.arr x esz ety fr' al'∧(fr'=true→fr=true)∧∃cs n,atC N.ρ x=some (.slice cs n)∧atC N'.ρ y=some (.slice cs n)
 none_:∀q,ms[q]?=some none→q < N'.nx∧N'.μ q=none∧∀y esz ety fr al,getO N'.hs q=.arr y esz ety fr al→atC N'.ρ y=some (.slice [] 0)
section
variable {N N':Nm} {ms:List (Option Nat)} (hL:Link N N' ms)
include hL
theorem capOk_ok:∀{c c':List (Nat×Nat)} {ds:List (Nat×Nat)},capOk ms c c'=true→All2 (fun p q:Nat×Nat=>p.1 < N.nx∧N.μ p.1=some q.1∧q.2=p.2) c' ds→All2 (fun p q:Nat×Nat=>p.1 < N'.nx∧N'.μ p.1=some q.1∧q.2=p.2) c ds
 |[],[],[],_,_=>trivial
 |(i,o)::c,(i',o')::c',d::ds,h,hr=>by
  simp only [capOk,Bool.and_eq_true,beq_iff_eq] at h
  obtain ⟨⟨h1,h2⟩,h3⟩:=h
  split at h1
  ·rename_i j hm
   simp only [beq_iff_eq] at h1
   subst h1 h2
   obtain ⟨q1,q2,_⟩:=hL.some_ _ _ hm hr.1.1
   exact ⟨⟨q1,by rw [q2];exact hr.1.2.1,hr.1.2.2⟩,capOk_ok h3 hr.2⟩
  ·cases h1
 |[],_::_,_,h,_=>by simp [capOk] at h
 |_::_,[],_,h,_=>by simp [capOk] at h
 |[],[],_::_,_,hr=>hr.elim
 |_::_,_::_,[],_,hr=>hr.elim
theorem instC_ok {sh:Sh} {d:SD} {D':D} (hr:RDc N d D') {tws:List TW} (ha:argC ms sh d=some tws) {ws pre post:List W} (hw:twDs N.ρ tws=some ws) (hρ:N'.ρ=pre++ws++post) {sd:SD} {n':Nat} (hi:instC pre.length sh=(sd,n')):
  n'=pre.length+ws.length∧RDc N' sd D':=by
 have hv:∀{c:C},ws=[.c c]→atC N'.ρ (.v pre.length)=some c:=by
  intro c h;rw [hρ,h,List.append_assoc];exact at_new pre c _
 cases sh with
 |unk=>
  simp only [argC,Option.some.injEq] at ha
  subst ha
  have:=twDs_nil hw;subst this
  simp only [instC,Prod.mk.injEq] at hi
  obtain ⟨rfl,rfl⟩:=hi
  exact ⟨by simp,trivial⟩
 |a=>
  simp only [instC,Prod.mk.injEq] at hi
  obtain ⟨rfl,rfl⟩:=hi
  cases d with
  |a x=>
   simp only [argC,Option.some.injEq] at ha
   subst ha
   obtain ⟨c,h1,rfl⟩:=twDs_c hw
   obtain ⟨c',h2,h3⟩:=hr
   rw [h1] at h2;injection h2 with h2;subst h2
   exact ⟨rfl,c,hv rfl,h3⟩
  |full x=>
   simp only [argC,Option.some.injEq] at ha
   subst ha
   obtain ⟨c,h1,rfl⟩:=twDs_c hw
   obtain ⟨cs,n,h2,h3⟩:=hr
   rw [h1] at h2;injection h2 with h2;subst h2
   exact ⟨rfl,_,hv rfl,.inr ⟨cs,n,rfl,h3⟩⟩
  |_=>simp [argC] at ha
 |full=>
  simp only [instC,Prod.mk.injEq] at hi
  obtain ⟨rfl,rfl⟩:=hi
  cases d with
  |full x=>
   simp only [argC,Option.some.injEq] at ha
   subst ha
   obtain ⟨c,h1,rfl⟩:=twDs_c hw
   obtain ⟨cs,n,h2,h3⟩:=hr
   rw [h1] at h2;injection h2 with h2;subst h2
   exact ⟨rfl,cs,n,hv rfl,h3⟩
  |_=>simp [argC] at ha
 |loc i off=>
  simp only [instC,Prod.mk.injEq] at hi
  obtain ⟨rfl,rfl⟩:=hi
  cases d with
  |loc i' off'=>
   simp only [argC] at ha
   split at ha
   case isFalse=>cases ha
   rename_i hc
   simp only [Option.some.injEq] at ha
   subst ha
   have:=twDs_nil hw;subst this
   obtain ⟨h1,rfl⟩:=hc
   obtain ⟨h2,j,h3,h4⟩:=hr
   obtain ⟨q1,q2,_⟩:=hL.some_ _ _ h1 h2
   exact ⟨by simp,q1,j,by rw [q2];exact h3,h4⟩
  |_=>simp [argC] at ha
 |arr i=>
  simp only [instC,Prod.mk.injEq] at hi
  obtain ⟨rfl,rfl⟩:=hi
  cases d with
  |arr i'=>
   simp only [argC] at ha
   split at ha
   case isFalse=>cases ha
   rename_i hc
   simp only [Option.some.injEq] at ha
   subst ha
   have:=twDs_nil hw;subst this
   obtain ⟨h2,hr⟩:=hr
   obtain ⟨q1,q2,q3⟩:=hL.some_ _ _ hc h2
   refine ⟨by simp,q1,?_⟩
   rcases hr with ⟨j,len,k1,k2,k3⟩|⟨k1,cs,n,k2,k3⟩
   ·refine .inl ⟨j,len,by rw [q2];exact k1,k2,fun y esz ety fr al hg=>?_⟩
    obtain ⟨x,fr',al',g1,_,cs,n,g2,g3⟩:=q3 _ _ _ _ _ hg
    obtain ⟨cs',g4⟩:=k3 _ _ _ _ _ g1
    rw [g2] at g4;injection g4 with g4;injection g4 with g4 g5;subst g4 g5
    exact ⟨cs,g3⟩
   ·refine .inr ⟨by rw [q2];exact k1,cs,n,k2,fun y esz ety fr al hg=>?_⟩
    obtain ⟨x,fr',al',g1,_,cs',n',g2,g3⟩:=q3 _ _ _ _ _ hg
    have g4:=k3 _ _ _ _ _ g1
    rw [g2] at g4;injection g4 with g4;injection g4 with g4 g5;subst g4 g5
    exact g3
  |full x=>
   cases x with
   |z=>
    simp only [argC] at ha
    split at ha
    case isFalse=>cases ha
    rename_i hc
    simp only [Option.some.injEq] at ha
    subst ha
    have:=twDs_nil hw;subst this
    obtain ⟨cs,n,h2,h3⟩:=hr
    simp only [atC,Option.some.injEq,C.slice.injEq] at h2
    obtain ⟨rfl,rfl⟩:=h2
    obtain ⟨q1,q2,q3⟩:=hL.none_ _ hc
    exact ⟨by simp,q1,.inr ⟨q2,[],0,h3,fun y esz ety fr al hg=>q3 _ _ _ _ _ hg⟩⟩
   |_=>simp [argC] at ha
  |_=>simp [argC] at ha
 |clo f caps=>
  simp only [instC,Prod.mk.injEq] at hi
  obtain ⟨rfl,rfl⟩:=hi
  cases d with
  |clo f' caps'=>
   simp only [argC] at ha
   split at ha
   case isFalse=>cases ha
   rename_i hc
   simp only [Option.some.injEq] at ha
   subst ha
   have:=twDs_nil hw;subst this
   obtain ⟨rfl,h1⟩:=hc
   obtain ⟨ds,h2,h3⟩:=hr
   exact ⟨by simp,ds,h2,capOk_ok hL h1 h3⟩
  |_=>simp [argC] at ha
 |aggL m=>cases d<;>simp [argC] at ha
 |agg ss=>cases d<;>simp [argC] at ha
theorem instCs_ok:∀{ss:List Sh} {ds:List SD} {Ds:List D},All2 (RDc N) ds Ds→∀{tws:List TW},argCs ms ss ds=some tws→∀{ws pre post:List W},twDs N.ρ tws=some ws→N'.ρ=pre++ws++post→∀{sds:List SD} {n':Nat},instCs pre.length ss=(sds,n')→
  n'=pre.length+ws.length∧All2 (RDc N') sds Ds
 |[],[],[],_,tws,ha,ws,pre,post,hw,_,sds,n',hi=>by
  simp only [argCs,Option.some.injEq] at ha
  subst ha
  have:=twDs_nil hw;subst this
  simp only [instCs,Prod.mk.injEq] at hi
  obtain ⟨rfl,rfl⟩:=hi
  exact ⟨by simp,trivial⟩
 |s::ss,d::ds,D'::Ds,hr,tws,ha,ws,pre,post,hw,hρ,sds,n',hi=>by
  simp only [argCs,Option.bind_eq_some_iff,Option.some.injEq] at ha
  obtain ⟨t1,h1,t2,h2,rfl⟩:=ha
  obtain ⟨w1,w2,h3,h4,rfl⟩:=twDs_append hw
  cases e1:instC pre.length s with
  |mk sd n1=>
   obtain ⟨q1,q2⟩:=instC_ok hL hr.1 h1 h3 (pre:=pre) (post:=w2++post) (by rw [hρ];simp) e1
   cases e2:instCs n1 ss with
   |mk sds2 n2=>
    simp only [instCs,e1,e2,Prod.mk.injEq] at hi
    obtain ⟨rfl,rfl⟩:=hi
    obtain ⟨q3,q4⟩:=instCs_ok hr.2 h2 h4 (pre:=pre++w1) (post:=post) (by rw [hρ];simp) (sds:=sds2) (n':=n2) (by rw [List.length_append,←q1];exact e2)
    exact ⟨by rw [q3];simp;omega,q2,q4⟩
 |[],_::_,_,_,_,ha,_,_,_,_,_,_,_,_=>by simp [argCs] at ha
 |_::_,[],_,_,_,ha,_,_,_,_,_,_,_,_=>by simp [argCs] at ha
 |[],[],_::_,hr,_,_,_,_,_,_,_,_,_,_=>hr.elim
 |_::_,_::_,[],hr,_,_,_,_,_,_,_,_,_,_=>hr.elim
theorem instL_ok {lens:List (Nat×Nat)} {b:Bs} {h:Heap} {k:Nat} (hm:Rm b N h k lens) {m:Nat} {ds:List SD} {Ds:List D} (hr:All2 (RDc N) ds Ds) {as:List At} (ha:asAts ds=some as) (hl:as.length=m) {ws pre post:List W} (hw:twDs N.ρ [.l (mkSL lens as)]=some ws) (hρ:N'.ρ=pre++ws++post):
  ws.length=1∧All2 (RDc N') ((nths pre.length 0 m).map .a) Ds∧∃xs,getW N'.ρ pre.length=some (.l xs)∧xs.length=m:=by
 obtain ⟨xs,h1,rfl⟩:=twDs_l hw
 obtain ⟨ys,h2,h3⟩:=asAts_ok hr ha
 rw [mkSL_at hm,h2] at h1
 injection h1 with h1;subst h1
 have hlen:ys.length=m:=by rw [atCs_len h2,hl]
 have hg:getW N'.ρ pre.length=some (.l ys):=by rw [hρ,List.append_assoc];exact getW_len pre _ _
 exact ⟨rfl,nths_CD hg (List.drop_zero ..) hlen h3,ys,hg,hlen⟩
theorem instD_ok {lens:List (Nat×Nat)} {b:Bs} {h:Heap} {k:Nat} (hm:Rm b N h k lens) {sh:Sh} {d:SD} {D':D} (hr:RD N d D') {tws:List TW} (ha:argD lens ms sh d=some tws) {ws pre post:List W} (hw:twDs N.ρ tws=some ws) (hρ:N'.ρ=pre++ws++post) {sd:SD} {n':Nat} {l:List (Nat×Nat)} (hi:instD pre.length sh=(sd,n',l)):
  n'=pre.length+ws.length∧RD N' sd D'∧∀i m,(i,m)∈l→∃xs,getW N'.ρ i=some (.l xs)∧xs.length=m:=by
 by_cases h1:∃m,sh=.aggL m
 ·obtain ⟨m,rfl⟩:=h1
  simp only [instD,Prod.mk.injEq] at hi
  obtain ⟨rfl,rfl,rfl⟩:=hi
  cases d with
  |agg ds=>
   simp only [argD,Option.bind_eq_some_iff] at ha
   obtain ⟨as,h2,ha⟩:=ha
   split at ha
   case isFalse=>cases ha
   rename_i hl
   simp only [Option.some.injEq] at ha
   subst ha
   obtain ⟨Ds,rfl,hr⟩:=hr
   obtain ⟨q1,q2,q3⟩:=instL_ok hL hm hr h2 hl hw hρ
   refine ⟨by omega,⟨Ds,rfl,q2⟩,fun i q hq=>?_⟩
   simp only [List.mem_singleton,Prod.mk.injEq] at hq
   obtain ⟨rfl,rfl⟩:=hq
   exact q3
  |_=>simp [argD] at ha
 ·by_cases h2:∃ss,sh=.agg ss
  ·obtain ⟨ss,rfl⟩:=h2
   cases d with
   |agg ds=>
    simp only [argD] at ha
    obtain ⟨Ds,rfl,hr⟩:=hr
    cases e1:instCs pre.length ss with
    |mk sds n1=>
     simp only [instD,e1,Prod.mk.injEq] at hi
     obtain ⟨rfl,rfl,rfl⟩:=hi
     obtain ⟨q1,q2⟩:=instCs_ok hL hr ha hw hρ e1
     exact ⟨q1,⟨Ds,rfl,q2⟩,by simp⟩
   |_=>simp [argD] at ha
  ·have e0:instD pre.length sh=((instC pre.length sh).1,(instC pre.length sh).2,[]):=by
    cases sh<;>first|rfl|exact absurd ⟨_,rfl⟩ h1|exact absurd ⟨_,rfl⟩ h2
   have e1:argD lens ms sh d=argC ms sh d:=by
    cases sh<;>first|rfl|exact absurd ⟨_,rfl⟩ h1|exact absurd ⟨_,rfl⟩ h2
   rw [e0] at hi
   simp only [Prod.mk.injEq] at hi
   obtain ⟨rfl,rfl,rfl⟩:=hi
   rw [e1] at ha
   by_cases hu:sh=.unk
   ·subst hu
    simp only [argC,Option.some.injEq] at ha
    subst ha
    have:=twDs_nil hw;subst this
    exact ⟨by simp [instC],by simp only [instC];trivial,by simp⟩
   ·have hc:RDc N d D':=by
     refine hr.c (fun ds e=>?_) (fun ds e=>?_)
     ·subst e;cases sh<;>first|(simp [argC] at ha;done)|exact absurd rfl hu
     ·subst e;cases sh<;>first|(simp [argC] at ha;done)|exact absurd rfl hu
    obtain ⟨q1,q2⟩:=instC_ok hL hc ha hw hρ (sd:=(instC pre.length sh).1) (n':=(instC pre.length sh).2) rfl
    exact ⟨q1,q2.toD,by simp⟩
theorem instE_ok {lens:List (Nat×Nat)} {b:Bs} {h:Heap} {k:Nat} (hm:Rm b N h k lens) {σ:Sy} (hσ:σ.lens=lens) {e:Env} (he:∀t,RD N (getS σ.env t) (getE e t)):∀{env:List (Nat×Sh)} {tws:List TW},argE σ ms env=some tws→∀{ws pre post:List W},twDs N.ρ tws=some ws→N'.ρ=pre++ws++post→
  ∀{e':List (Nat×SD)} {n':Nat} {l:List (Nat×Nat)},instE pre.length env=(e',n',l)→n'=pre.length+ws.length∧(∀t,RD N' (getS e' t) (getE e t))∧∀i m,(i,m)∈l→∃xs,getW N'.ρ i=some (.l xs)∧xs.length=m
 |[],tws,ha,ws,pre,post,hw,hρ,e',n',l,hi=>by
  simp only [argE,Option.some.injEq] at ha
  subst ha
  have:=twDs_nil hw;subst this
  simp only [instE,Prod.mk.injEq] at hi
  obtain ⟨rfl,rfl,rfl⟩:=hi
  exact ⟨by simp,fun t=>trivial,by simp⟩
 |(t,s)::env,tws,ha,ws,pre,post,hw,hρ,e',n',l,hi=>by
  simp only [argE,Option.bind_eq_some_iff,Option.some.injEq] at ha
  obtain ⟨t1,h1,t2,h2,rfl⟩:=ha
  obtain ⟨w1,w2,h3,h4,rfl⟩:=twDs_append hw
  rw [hσ] at h1
  cases e1:instD pre.length s with
  |mk sd p=>
   obtain ⟨n1,l1⟩:=p
   obtain ⟨q1,q2,q3⟩:=instD_ok hL hm (he t) h1 h3 (pre:=pre) (post:=w2++post) (by rw [hρ];simp) e1
   cases e2:instE n1 env with
   |mk e2' p2=>
    obtain ⟨n2,l2⟩:=p2
    simp only [instE,e1,e2,Prod.mk.injEq] at hi
    obtain ⟨rfl,rfl,rfl⟩:=hi
    obtain ⟨q4,q5,q6⟩:=instE_ok hm hσ he h2 h4 (pre:=pre++w1) (post:=post) (by rw [hρ];simp) (e':=e2') (n':=n2) (l:=l2) (by rw [List.length_append,←q1];exact e2)
    refine ⟨by rw [q4];simp;omega,fun u=>?_,fun i m hi=>?_⟩
    ·simp only [getS]
     by_cases hu:t=u
     ·subst hu;rw [if_pos rfl];exact q2
     ·rw [if_neg hu];exact q5 u
    ·rw [List.mem_append] at hi
     exact hi.elim (q3 i m) (q6 i m)
end
theorem twDs_len {ρ:List W}:∀{t:List TW} {ws:List W},twDs ρ t=some ws→ws.length=t.length
 |[],ws,h=>by rw [twDs_nil h];rfl
 |x::t,ws,h=>by
  simp only [twDs,Option.bind_eq_some_iff,Option.some.injEq] at h
  obtain ⟨w,_,ws',h2,rfl⟩:=h
  simp [twDs_len h2]
theorem argC_len {ms:List (Option Nat)} {s:Sh} {d:SD} {t:List TW} (h:argC ms s d=some t) (n:Nat):(instC n s).2=n+t.length:=by
 unfold argC at h
 split at h<;>first
  |(simp only [Option.some.injEq] at h;subst h;rfl)
  |(split at h
    ·simp only [Option.some.injEq] at h;subst h;rfl
    ·cases h)
  |cases h
theorem argCs_len {ms:List (Option Nat)}:∀{ss:List Sh} {ds:List SD} {t:List TW},argCs ms ss ds=some t→∀n,(instCs n ss).2=n+t.length
 |[],[],t,h,n=>by simp only [argCs,Option.some.injEq] at h;subst h;rfl
 |s::ss,d::ds,t,h,n=>by
  simp only [argCs,Option.bind_eq_some_iff,Option.some.injEq] at h
  obtain ⟨t1,h1,t2,h2,rfl⟩:=h
  have e1:=argC_len h1 n
  have e2:=argCs_len h2 (n+t1.length)
  cases e3:instC n s with
  |mk sd n1=>
   rw [e3] at e1
   simp only at e1
   subst e1
   cases e4:instCs (n+t1.length) ss with
   |mk sds n2=>
    rw [e4] at e2
    simp only [instCs,e3,e4,List.length_append] at e2 ⊢
    omega
 |[],_::_,_,h,_=>by simp [argCs] at h
 |_::_,[],_,h,_=>by simp [argCs] at h
theorem argD_len {lens:List (Nat×Nat)} {ms:List (Option Nat)} {sh:Sh} {d:SD} {t:List TW} (h:argD lens ms sh d=some t) (n:Nat):(instD n sh).2.1=n+t.length:=by
 cases sh with
 |aggL m=>
  cases d with
  |agg ds=>
   simp only [argD,Option.bind_eq_some_iff] at h
   obtain ⟨as,_,h⟩:=h
   split at h
   ·simp only [Option.some.injEq] at h;subst h;rfl
   ·cases h
  |_=>simp [argD] at h
 |agg ss=>
  cases d with
  |agg ds=>
   simp only [argD] at h
   have:=argCs_len h n
   cases e:instCs n ss with
   |mk a c=>rw [e] at this;simp only [instD,e];exact this
  |_=>simp [argD] at h
 |unk=>exact argC_len (ms:=ms) (s:=.unk) (d:=d) h n
 |a=>exact argC_len (s:=.a) (d:=d) h n
 |full=>exact argC_len (s:=.full) (d:=d) h n
 |loc i off=>exact argC_len (s:=.loc i off) (d:=d) h n
 |arr i=>exact argC_len (s:=.arr i) (d:=d) h n
 |clo f c=>exact argC_len (s:=.clo f c) (d:=d) h n
theorem argO_inv {σ:Sy} {ms:List (Option Nat)} {j:Option Nat} {o:SOh} {t:List TW} (h:argO σ ms j o=some t):
  (j=none∧∃esz ety fr,o=.arr esz ety fr false∧t=[.c .z])∨
  (∃i,j=some i∧((∃m ds as,o=.boxL m∧getO σ.heap i=.box ds∧asAts ds=some as∧as.length=m∧t=[.l (mkSL σ.lens as)])∨
   (∃ss ds,o=.box ss∧getO σ.heap i=.box ds∧argCs ms ss ds=some t)∨
   (∃esz ety fr al x fr' al',o=.arr esz ety fr al∧getO σ.heap i=.arr x esz ety fr' al'∧(fr'=true→fr=true)∧(al=true→al'=true)∧t=[.c x]))):=by
 cases j with
 |none=>
  left
  cases o with
  |arr esz ety fr al=>
   cases al with
   |false=>simp only [argO,Option.some.injEq] at h;exact ⟨rfl,esz,ety,fr,rfl,h.symm⟩
   |true=>simp [argO] at h
  |_=>simp [argO] at h
 |some i=>
  refine .inr ⟨i,rfl,?_⟩
  cases o with
  |boxL m=>
   cases hg:getO σ.heap i with
   |box ds=>
    simp only [argO,hg,Option.bind_eq_some_iff] at h
    obtain ⟨as,h1,h⟩:=h
    split at h
    ·rename_i hl;simp only [Option.some.injEq] at h;exact .inl ⟨m,ds,as,rfl,rfl,h1,hl,h.symm⟩
    ·cases h
   |_=>simp [argO,hg] at h
  |box ss=>
   cases hg:getO σ.heap i with
   |box ds=>simp only [argO,hg] at h;exact .inr (.inl ⟨ss,ds,rfl,rfl,h⟩)
   |_=>simp [argO,hg] at h
  |arr esz ety fr al=>
   cases hg:getO σ.heap i with
   |arr x esz' ety' fr' al'=>
    simp only [argO,hg] at h
    split at h
    ·rename_i hc
     simp only [Option.some.injEq] at h
     obtain ⟨rfl,rfl,c3,c4⟩:=hc
     exact .inr (.inr ⟨_,_,fr,al,x,fr',al',rfl,rfl,c3,c4,h.symm⟩)
    ·cases h
   |_=>simp [argO,hg] at h
theorem argO_len {σ:Sy} {ms:List (Option Nat)} {j:Option Nat} {o:SOh} {t:List TW} (h:argO σ ms j o=some t) (n:Nat):(instO n o).2.1=n+t.length:=by
 rcases argO_inv h with ⟨_,esz,ety,fr,rfl,rfl⟩|⟨i,_,⟨m,ds,as,rfl,_,_,_,rfl⟩|⟨ss,ds,rfl,_,h1⟩|⟨esz,ety,fr,al,x,fr',al',rfl,_,_,_,rfl⟩⟩
 ·rfl
 ·rfl
 ·have:=argCs_len h1 n
  cases e:instCs n ss with
  |mk a c=>rw [e] at this;simp only [instO,e];exact this
 ·rfl
theorem instH_at {σ:Sy} {ms:List (Option Nat)} {ρ ρ':List W}:∀{js:List (Option Nat)} {os:List SOh} {tws:List TW},argH σ ms js os=some tws→∀{ws pre post:List W},twDs ρ tws=some ws→ρ'=pre++ws++post→∀{q:Nat} {hp:List (Nat×SO)} {n':Nat} {l:List (Nat×Nat)},instH q pre.length os=(hp,n',l)→
  n'=pre.length+ws.length∧js.length=os.length∧(∀i,i < q∨q+os.length≤i→getO hp i=.dead)∧
  (∀(p:Nat) (o:SOh) (j:Option Nat),os[p]?=some o→js[p]?=some j→∃(t1:List TW) (w1 pre1 post1:List W),argO σ ms j o=some t1∧twDs ρ t1=some w1∧ρ'=pre1++w1++post1∧getO hp (q+p)=(instO pre1.length o).1)∧
  ∀x:Nat×Nat,x∈l→∃(p:Nat) (o:SOh) (j:Option Nat) (t1:List TW) (w1 pre1 post1:List W),os[p]?=some o∧js[p]?=some j∧argO σ ms j o=some t1∧twDs ρ t1=some w1∧ρ'=pre1++w1++post1∧x∈(instO pre1.length o).2.2
 |[],[],tws,ha,ws,pre,post,hw,hρ,q,hp,n',l,hi=>by
  simp only [argH,Option.some.injEq] at ha
  subst ha
  have:=twDs_nil hw;subst this
  simp only [instH,Prod.mk.injEq] at hi
  obtain ⟨rfl,rfl,rfl⟩:=hi
  exact ⟨by simp,rfl,fun _ _=>rfl,by simp,by simp⟩
 |[],_::_,_,ha,_,_,_,_,_,_,_,_,_,_=>by simp [argH] at ha
 |_::_,[],_,ha,_,_,_,_,_,_,_,_,_,_=>by simp [argH] at ha
 |j::js,o::os,tws,ha,ws,pre,post,hw,hρ,q,hp,n',l,hi=>by
  simp only [argH,Option.bind_eq_some_iff,Option.some.injEq] at ha
  obtain ⟨t1,h1,t2,h2,rfl⟩:=ha
  obtain ⟨w1,w2,h3,h4,rfl⟩:=twDs_append hw
  have e0:=argO_len h1 pre.length
  cases e1:instO pre.length o with
  |mk x p1=>
   obtain ⟨n1,l1⟩:=p1
   rw [e1] at e0
   simp only at e0
   rw [←twDs_len h3,←List.length_append] at e0
   subst e0
   cases e2:instH (q+1) (pre++w1).length os with
   |mk hp2 p2=>
    obtain ⟨n2,l2⟩:=p2
    simp only [instH,e1,e2,Prod.mk.injEq] at hi
    obtain ⟨rfl,rfl,rfl⟩:=hi
    obtain ⟨q1,q2,q3,q4,q5⟩:=instH_at (ρ':=ρ') h2 h4 (pre:=pre++w1) (post:=post) (by rw [hρ];simp) e2
    refine ⟨by rw [q1];simp;omega,by simp [q2],fun i hi=>?_,fun p o' j' ho hj=>?_,fun y hy=>?_⟩
    ·simp only [List.length_cons] at hi
     rw [getO_cons,if_neg (by omega)]
     exact q3 i (by omega)
    ·cases p with
     |zero=>
      simp only [List.getElem?_cons_zero,Option.some.injEq] at ho hj
      subst ho hj
      exact ⟨t1,w1,pre,w2++post,h1,h3,by rw [hρ];simp,by rw [getO_cons,if_pos (by omega),e1]⟩
     |succ p=>
      simp only [List.getElem?_cons_succ] at ho hj
      obtain ⟨t1',w1',pre1,post1,r1,r2,r3,r4⟩:=q4 p o' j' ho hj
      exact ⟨t1',w1',pre1,post1,r1,r2,r3,by rw [getO_cons,if_neg (by omega),←r4];congr 1;omega⟩
    ·rw [List.mem_append] at hy
     rcases hy with hy|hy
     ·exact ⟨0,o,j,t1,w1,pre,w2++post,rfl,rfl,h1,h3,by rw [hρ];simp,by rw [e1];exact hy⟩
     ·obtain ⟨p,o',j',r⟩:=q5 y hy
      exact ⟨p+1,o',j',by simpa using r⟩
theorem somes_mem:∀{l:List (Option Nat)} {q i:Nat},l[q]?=some (some i)→i∈somes l
 |[],q,i,h=>by simp at h
 |x::l,0,i,h=>by simp only [List.getElem?_cons_zero,Option.some.injEq] at h;subst h;simp [somes]
 |none::l,q+1,i,h=>by simp only [List.getElem?_cons_succ] at h;simp only [somes];exact somes_mem h
 |some _::l,q+1,i,h=>by simp only [List.getElem?_cons_succ] at h;simp only [somes,List.mem_cons];exact .inr (somes_mem h)
theorem somes_inj:∀{l:List (Option Nat)},(somes l).Nodup→∀{q q' i:Nat},l[q]?=some (some i)→l[q']?=some (some i)→q=q'
 |[],_,q,q',i,h,_=>by simp at h
 |none::l,hn,q,q',i,h,h'=>by
  simp only [somes] at hn
  cases q with
  |zero=>simp at h
  |succ q=>cases q' with
   |zero=>simp at h'
   |succ q'=>simp only [List.getElem?_cons_succ] at h h';rw [somes_inj hn h h']
 |some p::l,hn,q,q',i,h,h'=>by
  simp only [somes,List.nodup_cons] at hn
  cases q with
  |zero=>
   simp only [List.getElem?_cons_zero,Option.some.injEq] at h
   subst h
   cases q' with
   |zero=>rfl
   |succ q'=>simp only [List.getElem?_cons_succ] at h';exact absurd (somes_mem h') hn.1
  |succ q=>cases q' with
   |zero=>
    simp only [List.getElem?_cons_zero,Option.some.injEq] at h'
    subst h'
    simp only [List.getElem?_cons_succ] at h
    exact absurd (somes_mem h) hn.1
   |succ q'=>simp only [List.getElem?_cons_succ] at h h';rw [somes_inj hn.2 h h']
theorem lentOk_get {ms:List (Option Nat)}:∀{k b q:Nat},lentOk ms b k=true→b≤q→q < b+k→ms[q]?=some (some q)
 |0,b,q,_,h1,h2=>by omega
 |k+1,b,q,h,h1,h2=>by
  simp only [lentOk,Bool.and_eq_true] at h
  by_cases hq:b=q
  ·subst hq
   have h3:=h.1
   split at h3
   ·rename_i i hm;simp only [beq_iff_eq] at h3;subst h3;exact hm
   ·cases h3
  ·exact lentOk_get h.2 (by omega) (by omega)
theorem head_inst {b:Bs} {ρ:List W} {μ:Nat→Option Nat} {σ:Sy} {s:St} (hR:Rl b ρ μ σ s) {hh:HS} {tws:List TW} (ha:headArgs b.lent.length hh σ=some tws) {ws:List W} (hw:twDs ρ tws=some ws):
  ∃μ',Rl b ws μ' (shSyN hh).1 s∧(shSyN hh).2=ws.length:=by
 unfold headArgs at ha
 simp only at ha
 generalize hms:(List.range hh.heap.length).map _=ms at ha
 split at ha
 case isFalse=>cases ha
 rename_i hc
 rw [Bool.and_eq_true] at hc
 obtain ⟨hc1,hc2⟩:=hc
 have hnod:=nodupB_iff hc1
 simp only [Option.bind_eq_some_iff,Option.some.injEq] at ha
 obtain ⟨t1,h1,t2,h2,rfl⟩:=ha
 obtain ⟨w1,w2,h3,h4,rfl⟩:=twDs_append hw
 have hmsl:ms.length=hh.heap.length:=by rw [←hms];simp
 cases e1:instE 0 hh.env with
 |mk env' p1=>
  obtain ⟨n1,l1⟩:=p1
  have hn1:n1=w1.length:=by
   have aux:∀(env:List (Nat×Sh)) (t:List TW),argE σ ms env=some t→∀n,(instE n env).2.1=n+t.length:=by
    intro env
    induction env with
    |nil=>intro t ht n;simp only [argE,Option.some.injEq] at ht;subst ht;rfl
    |cons p env ih=>
     obtain ⟨tt,sh⟩:=p
     intro t ht n
     simp only [argE,Option.bind_eq_some_iff,Option.some.injEq] at ht
     obtain ⟨a1,g1,a2,g2,rfl⟩:=ht
     have f1:=argD_len g1 n
     cases e3:instD n sh with
     |mk sd p=>
      obtain ⟨n2,l2⟩:=p
      rw [e3] at f1
      simp only at f1
      subst f1
      have f2:=ih a2 g2 (n+a1.length)
      cases e4:instE (n+a1.length) env with
      |mk ee p=>
       obtain ⟨n3,l3⟩:=p
       rw [e4] at f2
       simp only [instE,e3,e4,List.length_append] at f2 ⊢
       omega
   have:=aux _ _ h1 0
   rw [e1] at this
   simp only [Nat.zero_add] at this
   rw [this,twDs_len h3]
  subst hn1
  cases e2:instH 0 w1.length hh.heap with
  |mk hp p2=>
   obtain ⟨n2,l2⟩:=p2
   have eS:shSyN hh=(⟨env',hp,hh.heap.length,l1++l2⟩,n2):=by
    simp only [shSyN,e1,e2]
   obtain ⟨i1,i2,i3,i4,i5⟩:=instH_at (ρ:=ρ) (ρ':=w1++w2) h2 h4 (pre:=w1) (post:=[]) (by simp) e2
   let μ':Nat→Option Nat:=fun q=>(ms[q]?.getD none).bind μ
   let N':Nm:=nm (w1++w2) μ' ⟨env',hp,hh.heap.length,l1++l2⟩
   have hobj:∀(q:Nat) (o:SOh) (j:Option Nat),hh.heap[q]?=some o→ms[q]?=some j→∃(t1:List TW) (w1' pre1 post1:List W),argO σ ms j o=some t1∧twDs ρ t1=some w1'∧w1++w2=pre1++w1'++post1∧getO hp q=(instO pre1.length o).1:=by
    intro q o j ho hj
    obtain ⟨a1,a2,a3,a4,a5,a6,a7,a8⟩:=i4 q o j ho hj
    exact ⟨a1,a2,a3,a4,a5,a6,a7,by rw [←a8];congr 1;omega⟩
   have hat:∀(q:Nat) (j:Option Nat),ms[q]?=some j→∃o,hh.heap[q]?=some o:=fun q j hq=>
    ⟨_,List.getElem?_eq_getElem (by rw [←hmsl];exact (List.getElem?_eq_some_iff.1 hq).1)⟩
   have hmu:∀(q i:Nat),ms[q]?=some (some i)→μ' q=μ i:=fun q i hq=>by simp [μ',hq]
   have hmu0:∀q:Nat,ms[q]?=some none→μ' q=none:=fun q hq=>by simp [μ',hq]
   have hsome:∀(q i:Nat),ms[q]?=some (some i)→i < σ.nx:=by
    intro q i hq
    obtain ⟨o,ho⟩:=hat q _ hq
    obtain ⟨a1,a2,a3,a4,a5,_⟩:=hobj q o _ ho hq
    refine hR.mem.lt_of (N:=nm ρ μ σ) fun hd=>?_
    have hd':getO σ.heap i=.dead:=hd
    rcases argO_inv a5 with ⟨e,_⟩|⟨i',e,⟨m,ds,as,_,g,_⟩|⟨ss,ds,_,g,_⟩|⟨_,_,_,_,x,_,_,_,g,_⟩⟩
    ·cases e
    all_goals (injection e with e;subst e;rw [hd'] at g;cases g)
   have hmum:∀(q j:Nat),μ' q=some j→∃i:Nat,ms[q]?=some (some i)∧μ i=some j:=by
    intro q j hq
    simp only [μ'] at hq
    cases hm:ms[q]? with
    |none=>simp [hm] at hq
    |some x=>cases x with
     |none=>simp [hm] at hq
     |some i=>simp [hm] at hq;exact ⟨i,rfl,hq⟩
   have hL:Link (nm ρ μ σ) N' ms:=by
    refine ⟨fun q i hq _=>⟨?_,hmu q i hq,fun y esz ety fr al hg=>?_⟩,fun q hq=>⟨?_,hmu0 q hq,fun y esz ety fr al hg=>?_⟩⟩
    ·show q < hh.heap.length;rw [←hmsl];exact (List.getElem?_eq_some_iff.1 hq).1
    ·obtain ⟨o,ho⟩:=hat q _ hq
     obtain ⟨a1,a2,a3,a4,a5,a6,a7,a8⟩:=hobj q o _ ho hq
     have hg':getO hp q=.arr y esz ety fr al:=hg
     rw [a8] at hg'
     rcases argO_inv a5 with ⟨e,_⟩|⟨i',e,⟨m,ds,as,rfl,g,_⟩|⟨ss,ds,rfl,g,_⟩|⟨esz',ety',fr0,al0,x,fr',al',rfl,g,c1,c2,rfl⟩⟩
     ·cases e
     ·cases hg'
     ·cases e9:instCs a3.length ss with|mk _ _=>simp only [instO,e9] at hg';cases hg'
     ·injection e with e;subst e
      simp only [instO] at hg'
      injection hg' with x1 x2 x3 x4 x5
      subst x1 x2 x3 x4 x5
      obtain ⟨c,g1,rfl⟩:=twDs_c a6
      obtain ⟨cs,n,g2,_⟩:=hR.mem.arr (N:=nm ρ μ σ) g
      rw [show atC (nm ρ μ σ).ρ x=atC ρ x from rfl,g1] at g2
      injection g2 with g2;subst g2
      refine ⟨x,fr',al',g,c1,cs,n,g1,?_⟩
      show atC (w1++w2) (.v a3.length)=_
      rw [a7,List.append_assoc];exact at_new a3 _ _
    ·show q < hh.heap.length;rw [←hmsl];exact (List.getElem?_eq_some_iff.1 hq).1
    ·obtain ⟨o,ho⟩:=hat q _ hq
     obtain ⟨a1,a2,a3,a4,a5,a6,a7,a8⟩:=hobj q o _ ho hq
     have hg':getO hp q=.arr y esz ety fr al:=hg
     rw [a8] at hg'
     rcases argO_inv a5 with ⟨_,esz',ety',fr0,rfl,rfl⟩|⟨i',e,_⟩
     ·simp only [instO] at hg'
      injection hg' with x1 x2 x3 x4 x5
      subst x1 x2 x3 x4 x5
      obtain ⟨c,g1,rfl⟩:=twDs_c a6
      simp only [atC,Option.some.injEq] at g1
      subst g1
      show atC (w1++w2) (.v a3.length)=_
      rw [a7,List.append_assoc];exact at_new a3 _ _
     ·cases e
   obtain ⟨_,r2,r3⟩:=instE_ok hL hR.mem (σ:=σ) rfl hR.env h1 h3 (pre:=[]) (post:=w2) rfl e1
   have hbl:∀(q:Nat) (o:SOh) (j:Option Nat),hh.heap[q]?=some o→ms[q]?=some j→∀(t1:List TW) (w1' pre1 post1:List W),argO σ ms j o=some t1→twDs ρ t1=some w1'→w1++w2=pre1++w1'++post1→∀x∈(instO pre1.length o).2.2,∃xs,getW (w1++w2) x.1=some (.l xs)∧xs.length=x.2:=by
    intro q o j ho hj t1' w1' pre1 post1 a5 a6 a7 x hx
    rcases argO_inv a5 with ⟨_,esz',ety',fr0,rfl,rfl⟩|⟨i',rfl,⟨m,ds,as,rfl,g,c1,c2,rfl⟩|⟨ss,ds,rfl,g,_⟩|⟨esz',ety',fr0,al0,x',fr',al',rfl,g,_,_,rfl⟩⟩
    ·simp [instO] at hx
    ·simp only [instO,List.mem_singleton] at hx
     subst hx
     obtain ⟨j',ds',_,_,g3⟩:=hR.mem.box (N:=nm ρ μ σ) g
     exact (instL_ok hL hR.mem g3 c1 c2 a6 a7).2.2
    ·cases e9:instCs pre1.length ss with|mk _ _=>simp [instO,e9] at hx
    ·simp [instO] at hx
   refine ⟨μ',?_,by rw [eS];simp only;rw [i1,List.length_append]⟩
   rw [eS]
   refine ⟨r2,⟨fun q=>?_,fun q q' j g1 g2 g3 g4=>?_,fun q j g1 g2=>?_,fun q hq=>?_,fun q j g1 g2=>?_,hR.mem.frame,hR.mem.le,fun i m hi=>?_⟩,fun q j hq=>?_⟩
   ·show ROb N' s.heap q (getO hp q)
    by_cases hq:q < hh.heap.length
    ·have ho:hh.heap[q]?=some hh.heap[q]:=List.getElem?_eq_getElem hq
     have hj:ms[q]?=some (ms[q]'(by omega)):=List.getElem?_eq_getElem (by omega)
     obtain ⟨a1,a2,a3,a4,a5,a6,a7,a8⟩:=hobj q _ _ ho hj
     rw [a8]
     generalize hh.heap[q]=o at *
     generalize ms[q]'_=j at *
     rcases argO_inv a5 with ⟨rfl,esz',ety',fr0,rfl,rfl⟩|⟨i',rfl,⟨m,ds,as,rfl,g,c1,c2,rfl⟩|⟨ss,ds,rfl,g,c1⟩|⟨esz',ety',fr0,al0,x',fr',al',rfl,g,c1,c2,rfl⟩⟩
     ·obtain ⟨c,g1,rfl⟩:=twDs_c a6
      simp only [atC,Option.some.injEq] at g1
      subst g1
      refine ⟨[],0,?_,by simp,.inr ⟨hmu0 q hj,rfl,fun _=>⟨rfl,rfl⟩⟩⟩
      show atC (w1++w2) (.v a3.length)=_
      rw [a7,List.append_assoc];exact at_new a3 _ _
     ·obtain ⟨j',ds',g1,g2,g3⟩:=hR.mem.box (N:=nm ρ μ σ) g
      exact ⟨j',ds',by rw [show N'.μ q=μ' q from rfl,hmu q i' hj];exact g1,g2,(instL_ok hL hR.mem g3 c1 c2 a6 a7).2.1⟩
     ·obtain ⟨j',ds',g1,g2,g3⟩:=hR.mem.box (N:=nm ρ μ σ) g
      cases e9:instCs a3.length ss with
      |mk sds n9=>
       obtain ⟨_,q2⟩:=instCs_ok hL g3 c1 a6 a7 e9
       simp only [instO,e9]
       exact ⟨j',ds',by rw [show N'.μ q=μ' q from rfl,hmu q i' hj];exact g1,g2,q2⟩
     ·obtain ⟨cs,n,g1,g2,g3⟩:=hR.mem.arr (N:=nm ρ μ σ) g
      obtain ⟨c,f1,rfl⟩:=twDs_c a6
      rw [show atC (nm ρ μ σ).ρ x'=atC ρ x' from rfl,f1] at g1
      injection g1 with g1;subst g1
      refine ⟨cs,n,?_,g2,?_⟩
      ·show atC (w1++w2) (.v a3.length)=_
       rw [a7,List.append_assoc];exact at_new a3 _ _
      ·rcases g3 with ⟨j',fz,k1,k2,k3,k4,k5⟩|⟨k1,k2,k3⟩
       ·refine .inl ⟨j',fz,by rw [show N'.μ q=μ' q from rfl,hmu q i' hj];exact k1,k2,k3,k4,fun hf=>k5 ?_⟩
        cases fr' with
        |false=>rfl
        |true=>rw [c1 rfl] at hf;cases hf
       ·refine .inr ⟨by rw [show N'.μ q=μ' q from rfl,hmu q i' hj];exact k1,?_,fun hf=>k3 ?_⟩
        ·cases al0 with
         |false=>rfl
         |true=>rw [c2 rfl] at k2;cases k2
        ·cases fr' with
         |false=>rfl
         |true=>rw [c1 rfl] at hf;cases hf
    ·rw [i3 q (.inr (by omega))];trivial
   ·obtain ⟨i,p1,p2⟩:=hmum q j g3
    obtain ⟨i',p3,p4⟩:=hmum q' j g4
    have:=hR.mem.inj i i' j (hsome q i p1) (hsome q' i' p3) p2 p4
    subst this
    exact somes_inj hnod p1 p3
   ·obtain ⟨i,p1,p2⟩:=hmum q j g2
    exact hR.mem.lt i j (hsome q i p1) p2
   ·have hq':hh.heap.length≤q:=hq
    exact i3 q (.inr (by omega))
   ·obtain ⟨i,p1,p2⟩:=hmum q j g2
    exact hR.mem.base i j (hsome q i p1) p2
   ·rw [List.mem_append] at hi
    rcases hi with hi|hi
    ·exact r3 i m hi
    ·obtain ⟨p,o,j,t1',w1',pre1,post1,b1,b2,b3,b4,b5,b6⟩:=i5 _ hi
     exact hbl p o j b1 b2 t1' w1' pre1 post1 b3 b4 b5 _ b6
   ·have hlt:q < b.lent.length:=(List.getElem?_eq_some_iff.1 hq).1
    have hmq:=lentOk_get hc2 (Nat.zero_le q) (by omega)
    refine ⟨?_,?_⟩
    ·show q < hh.heap.length;rw [←hmsl];exact (List.getElem?_eq_some_iff.1 hmq).1
    ·rw [hmu q q hmq];exact (hR.lent q j hq).2
end Go.Ey

namespace Go.Ey
structure FinS (b:Bs) (res:List Res) (rs:List RS) (boxes:List Nat) (r:R) (s:St):Prop where
 ex:∃ds,resD s.env s.heap res=some ds∧All3 (RsR s.heap b.k0) rs r.1 ds∧(ownRs rs ds).Nodup∧∀j∈ownRs rs ds,j < s.nx
 le:b.k0≤s.nx
 frame:∀j,j < b.k0→j ∉ b.lent→getH s.heap j=getH b.h0 j
 boxes:All3 (BoxR s.heap) boxes r.2 b.lent
section
variable {b:Bs} {ρ:List W} {μ:Nat→Option Nat} {σ:Sy} {s:St} {call:FnT} {head:HdT} {r:R}
theorem RA.notTup {N:Nm} {sd:SD} {d:D} (hr:RD N sd d) (h1:∀q,sd≠.tup q) (h2:sd≠.unk):(∀q,d≠.tup q)∧RA N sd d:=by
 cases sd with
 |unk=>exact absurd rfl h2
 |tup q=>exact absurd rfl (h1 q)
 |a x=>refine ⟨fun q e=>?_,hr⟩;subst e;obtain ⟨c,_,h|⟨cs,n,_,h⟩⟩:=hr<;>cases h
 |full x=>refine ⟨fun q e=>?_,hr⟩;subst e;obtain ⟨cs,n,_,h⟩:=hr;cases h
 |loc i o=>refine ⟨fun q e=>?_,hr⟩;subst e;obtain ⟨_,j,_,h⟩:=hr;cases h
 |arr i=>refine ⟨fun q e=>?_,hr⟩;subst e;obtain ⟨_,⟨j,len,_,h,_⟩|⟨_,cs,n,h,_⟩⟩:=hr<;>cases h
 |view i x=>refine ⟨fun q e=>?_,hr⟩;subst e;obtain ⟨_,cs,len,_,h|⟨j,off,_,h,_⟩⟩:=hr<;>cases h
 |eloc i x o=>refine ⟨fun q e=>?_,hr⟩;subst e;obtain ⟨_,kd,q,_,_,⟨j,o',_,h,_⟩|⟨_,cs,h,_⟩⟩:=hr<;>cases h
 |ptr r o e=>refine ⟨fun q e=>?_,hr⟩;subst e;obtain ⟨xs,rest,_,_,h⟩:=hr;cases h
 |clo f c=>refine ⟨fun q e=>?_,hr⟩;subst e;obtain ⟨c',h,_⟩:=hr;cases h
 |agg ds=>refine ⟨fun q e=>?_,hr⟩;subst e;obtain ⟨ds',h,_⟩:=hr;cases h
theorem resS_ok (hR:Rl b ρ μ σ s):∀{res:List Res} {sds:List SD},resS σ res=some sds→∃ds,resD s.env s.heap res=some ds∧All2 (RA (nm ρ μ σ)) sds ds
 |[],sds,h=>by simp only [resS,Option.some.injEq] at h;subst h;exact ⟨[],rfl,trivial⟩
 |.tmp t::res,sds,h=>by
  simp only [resS,Option.bind_eq_some_iff] at h
  obtain ⟨sds',h1,h2⟩:=h
  obtain ⟨ds,h3,h4⟩:=resS_ok hR h1
  have hr:=hR.env t
  have key:∀sd,getS σ.env t=sd→(∀q,sd≠.tup q)→sd≠.unk→sds=sd::sds'→∃ds,resD s.env s.heap (.tmp t::res)=some ds∧All2 (RA (nm ρ μ σ)) sds ds:=by
   intro sd e n1 n2 e2
   rw [e] at hr
   obtain ⟨q1,q2⟩:=RA.notTup hr n1 n2
   subst e2
   refine ⟨getE s.env t::ds,?_,q2,h4⟩
   simp only [resD,h3,Option.bind_eq_bind,Option.bind_some]
  split at h2
  ·cases h2
  ·cases h2
  ·rename_i n1 n2
   simp only [Option.some.injEq] at h2
   exact key _ rfl (fun q e=>n1 q e) (fun e=>n2 e) h2.symm
 |.cell t agg size::res,sds,h=>by
  simp only [resS] at h
  have hr:=hR.env t
  split at h
  case h_2=>cases h
  rename_i i off hs
  rw [hs] at hr
  obtain ⟨hi,j,g1,g2⟩:=hr
  split at h
  case h_2=>cases h
  rename_i ds0 hg
  obtain ⟨j',ds',b1,b2,b3⟩:=hR.mem.box (N:=nm ρ μ σ) hg
  rw [g1] at b1;injection b1 with b1;subst b1
  split at h
  ·split at h
   case isFalse=>cases h
   rename_i hc
   simp only [Option.bind_eq_some_iff,Option.some.injEq] at h
   obtain ⟨l,h1,rfl⟩:=h
   obtain ⟨ds,h3,h4⟩:=resS_ok hR h1
   refine ⟨.agg ((ds'.drop off).take size)::ds,?_,⟨_,rfl,(b3.drop off).take size⟩,h4⟩
   simp only [resD,g2,loadD,b2,if_true,Option.bind_eq_bind]
   rw [if_pos (by rw [←b3.len];exact hc)]
   simp [h3]
  ·simp only [Option.bind_eq_some_iff,Option.some.injEq] at h
   obtain ⟨d,h0,l,h1,rfl⟩:=h
   obtain ⟨ds,h3,h4⟩:=resS_ok hR h1
   obtain ⟨d',h5,h6⟩:=b3.get off h0
   refine ⟨d'::ds,?_,h6.toA,h4⟩
   simp only [resD,g2,loadD,b2,Bool.false_eq_true,if_false,h5,h3,Option.bind_eq_bind,Option.bind_some]
variable (hm:Rm b (nm ρ μ σ) s.heap s.nx σ.lens) (hbx:∀j∈b.lent,∃i ds,i < σ.nx∧μ i=some j∧getO σ.heap i=.box ds)
include hm hbx
theorem arr_new {i j:Nat} (hi:i < σ.nx) (hj:μ i=some j) {x:At} {esz ety:Nat} {fr al:Bool} (hg:getO σ.heap i=.arr x esz ety fr al):b.k0≤j:=by
 rcases hm.base i j hi hj with h|h
 ·exact h
 ·obtain ⟨i',ds,h1,h2,h3⟩:=hbx j h
  have:=hm.inj i i' j hi h1 hj h2
  subst this
  rw [hg] at h3;cases h3
theorem ckOk_ok {ck:CK} {sd:SD} {d:D} (hr:RDc (nm ρ μ σ) sd d) {x:At} {own:List Nat} (hc:ckOk σ.heap ck sd=some (x,own)):
  ∃c,atC ρ x=some c∧CkR s.heap b.k0 ck c d∧Ids (nm ρ μ σ) (ownC ck d) own∧(ownC ck d).Nodup:=by
 have triv:∀{ck:CK} {d:D},(∀a b c e,ck≠.own a b c e)→Ids (nm ρ μ σ) (ownC ck d) own∧(ownC ck d).Nodup:=by
  intro ck d h
  cases ck<;>first|exact ⟨Ids.nil,List.nodup_nil⟩|exact absurd rfl (h _ _ _ _)
 cases ck with
 |c=>
  cases sd with
  |a y=>
   simp only [ckOk,Option.some.injEq,Prod.mk.injEq] at hc
   obtain ⟨rfl,rfl⟩:=hc
   obtain ⟨c,h1,h2⟩:=hr
   exact ⟨c,h1,.inl h2,triv (by simp)⟩
  |full y=>
   simp only [ckOk,Option.some.injEq,Prod.mk.injEq] at hc
   obtain ⟨rfl,rfl⟩:=hc
   obtain ⟨cs,n,h1,h2⟩:=hr
   exact ⟨_,h1,.inl (.inr ⟨cs,n,rfl,h2⟩),triv (by simp)⟩
  |view i y=>
   simp only [ckOk] at hc
   split at hc
   case h_2=>cases hc
   rename_i z e t fr al hg
   simp only [Option.some.injEq,Prod.mk.injEq] at hc
   obtain ⟨rfl,rfl⟩:=hc
   obtain ⟨hi,cs,len,h1,hr⟩:=hr
   refine ⟨_,h1,?_,triv (by simp)⟩
   rcases hr with rfl|⟨j,off,h2,rfl,h3⟩
   ·exact .inl (.inl rfl)
   ·obtain ⟨_,ys,n,h4,h5,h6⟩:=h3 _ _ _ _ _ hg
    obtain ⟨ys',n',g1,g2,g3⟩:=hm.arr (N:=nm ρ μ σ) hg
    rw [h4] at g1;injection g1 with g1;injection g1 with g1 g1';subst g1 g1'
    rcases g3 with ⟨j',fz,k1,k2,_⟩|⟨k1,_⟩
    ·rw [h2] at k1;injection k1 with k1;subst k1
     exact .inr ⟨j,off,len,ys,e,fz,t,rfl,arr_new hm hbx hi h2 hg,k2,h5,by rw [h6]⟩
    ·rw [h2] at k1;cases k1
  |arr i=>
   simp only [ckOk] at hc
   split at hc
   case h_2=>cases hc
   rename_i y e t fr al hg
   simp only [Option.some.injEq,Prod.mk.injEq] at hc
   obtain ⟨rfl,rfl⟩:=hc
   obtain ⟨cs,n,g1,g2,g3⟩:=hm.arr (N:=nm ρ μ σ) hg
   refine ⟨_,g1,?_,triv (by simp)⟩
   obtain ⟨hi,hr⟩:=hr
   rcases hr with ⟨j,len,h1,rfl,h3⟩|⟨h1,cs',n',rfl,h3⟩
   ·obtain ⟨cs',h4⟩:=h3 _ _ _ _ _ hg
    rw [g1] at h4;injection h4 with h4;injection h4 with h4 h5;subst h4 h5
    rcases g3 with ⟨j',fz,k1,k2,_⟩|⟨k1,_⟩
    ·rw [h1] at k1;injection k1 with k1;subst k1
     exact .inr ⟨j,0,n,cs,e,fz,t,rfl,arr_new hm hbx hi h1 hg,k2,by omega,by rw [←g2];simp⟩
    ·rw [h1] at k1;cases k1
   ·have h4:=h3 _ _ _ _ _ hg
    rw [g1] at h4;injection h4 with h4;injection h4 with h4 h5;subst h4 h5
    exact .inl (.inr ⟨cs,n,rfl,rfl⟩)
  |_=>simp [ckOk] at hc
 |d=>
  cases sd with
  |a y=>
   simp only [ckOk,Option.some.injEq,Prod.mk.injEq] at hc
   obtain ⟨rfl,rfl⟩:=hc
   obtain ⟨c,h1,h2⟩:=hr
   exact ⟨c,h1,h2,triv (by simp)⟩
  |full y=>
   simp only [ckOk,Option.some.injEq,Prod.mk.injEq] at hc
   obtain ⟨rfl,rfl⟩:=hc
   obtain ⟨cs,n,h1,h2⟩:=hr
   exact ⟨_,h1,.inr ⟨cs,n,rfl,h2⟩,triv (by simp)⟩
  |_=>simp [ckOk] at hc
 |full=>
  cases sd with
  |full y=>
   simp only [ckOk,Option.some.injEq,Prod.mk.injEq] at hc
   obtain ⟨rfl,rfl⟩:=hc
   obtain ⟨cs,n,h1,h2⟩:=hr
   exact ⟨_,h1,⟨cs,n,rfl,h2⟩,triv (by simp)⟩
  |_=>simp [ckOk] at hc
 |own esz ety fr al=>
  cases sd with
  |arr i=>
   simp only [ckOk] at hc
   split at hc
   case h_2=>cases hc
   rename_i y e t fr' al' hg
   split at hc
   case isFalse=>cases hc
   rename_i hcond
   obtain ⟨rfl,rfl,c3,c4⟩:=hcond
   simp only [Option.some.injEq,Prod.mk.injEq] at hc
   obtain ⟨rfl,rfl⟩:=hc
   obtain ⟨cs,n,g1,g2,g3⟩:=hm.arr (N:=nm ρ μ σ) hg
   obtain ⟨hi,hr⟩:=hr
   have hfr:fr=false→fr'=false:=fun h=>by cases fr' with|false=>rfl|true=>rw [c3 rfl] at h;cases h
   rcases hr with ⟨j,len,h1,rfl,h3⟩|⟨h1,cs',n',rfl,h3⟩
   ·obtain ⟨cs',h4⟩:=h3 _ _ _ _ _ hg
    rw [g1] at h4;injection h4 with h4;injection h4 with h4 h5;subst h4 h5
    rcases g3 with ⟨j',fz,k1,k2,k3,k4,k5⟩|⟨k1,_⟩
    ·rw [h1] at k1;injection k1 with k1;subst k1
     refine ⟨_,g1,⟨cs,n,rfl,g2,.inl ⟨j,fz,rfl,arr_new hm hbx hi h1 hg,k2,k3,k4,fun h=>k5 (hfr h)⟩⟩,?_,by simp [ownC]⟩
     intro q hq
     simp [ownC] at hq
     subst hq
     exact ⟨i,by simp,hi,h1⟩
    ·rw [h1] at k1;cases k1
   ·have h4:=h3 _ _ _ _ _ hg
    rw [g1] at h4;injection h4 with h4;injection h4 with h4 h5;subst h4 h5
    rcases g3 with ⟨j',fz,k1,_⟩|⟨k1,k2,k3⟩
    ·rw [h1] at k1;cases k1
    ·refine ⟨_,g1,⟨cs,n,rfl,g2,.inr ⟨rfl,?_,fun h=>k3 (hfr h)⟩⟩,Ids.nil,List.nodup_nil⟩
     cases al with
     |false=>rfl
     |true=>rw [c4 rfl] at k2;cases k2
  |full y=>
   cases al with
   |true=>cases y<;>simp [ckOk] at hc
   |false=>
    cases y with
    |z=>
     simp only [ckOk,Option.some.injEq,Prod.mk.injEq] at hc
     obtain ⟨rfl,rfl⟩:=hc
     obtain ⟨cs,n,h1,rfl⟩:=hr
     simp only [atC,Option.some.injEq,C.slice.injEq] at h1
     obtain ⟨rfl,rfl⟩:=h1
     exact ⟨.slice [] 0,rfl,⟨[],0,rfl,by simp,.inr ⟨rfl,rfl,fun _=>⟨rfl,rfl⟩⟩⟩,Ids.nil,List.nodup_nil⟩
    |_=>simp [ckOk] at hc
  |_=>simp [ckOk] at hc
omit hbx in
theorem ids_nodup {a c o1 o2:List Nat} (h1:Ids (nm ρ μ σ) a o1) (h2:Ids (nm ρ μ σ) c o2) (ha:a.Nodup) (hc:c.Nodup) (ho:(o1++o2).Nodup):(a++c).Nodup:=by
 refine List.nodup_append.2 ⟨ha,hc,fun j hj j' hj' e=>?_⟩
 subst e
 obtain ⟨i,q1,q2,q3⟩:=h1 j hj
 obtain ⟨i',p1,p2,p3⟩:=h2 j hj'
 have:=hm.inj i i' j q2 p2 q3 p3
 subst this
 exact (List.nodup_append.1 ho).2.2 i q1 i p1 rfl
theorem ckOks_ok:∀{ks:List CK} {sds:List SD} {ds:List D},All2 (RDc (nm ρ μ σ)) sds ds→∀{xs:List At} {own:List Nat},ckOks σ.heap ks sds=some (xs,own)→
  ∃cs,atCs ρ xs=some cs∧All3 (CkR s.heap b.k0) ks cs ds∧Ids (nm ρ μ σ) (ownCs ks ds) own∧(own.Nodup→(ownCs ks ds).Nodup)
 |[],[],[],_,xs,own,h=>by
  simp only [ckOks,Option.some.injEq,Prod.mk.injEq] at h
  obtain ⟨rfl,rfl⟩:=h
  exact ⟨[],rfl,trivial,Ids.nil,fun _=>List.nodup_nil⟩
 |k::ks,sd::sds,d::ds,hr,xs,own,h=>by
  simp only [ckOks,Option.bind_eq_some_iff,Option.some.injEq,Prod.mk.injEq,Prod.exists] at h
  obtain ⟨x,o1,h1,xs',o2,h2,rfl,rfl⟩:=h
  obtain ⟨c,q1,q2,q3,q4⟩:=ckOk_ok hm hbx hr.1 h1
  obtain ⟨cs,p1,p2,p3,p4⟩:=ckOks_ok hr.2 h2
  exact ⟨c::cs,by simp [atCs,q1,p1],⟨q2,p2⟩,q3.append p3,fun ho=>ids_nodup hm q3 p3 q4 (p4 (List.nodup_append.1 ho).2.1) ho⟩
 |[],_::_,_,_,_,_,h=>by simp [ckOks] at h
 |_::_,[],_,_,_,_,h=>by simp [ckOks] at h
 |[],[],_::_,hr,_,_,_=>hr.elim
 |_::_,_::_,[],hr,_,_,_=>hr.elim
theorem rsOk_ok {rs:RS} {sd:SD} {d:D} (hr:RA (nm ρ μ σ) sd d) {tv:TV} {own:List Nat} (h:rsOk σ.lens σ.heap rs sd=some (tv,own)):
  ∃v,tvD ρ tv=some v∧RsR s.heap b.k0 rs v d∧Ids (nm ρ μ σ) (ownR rs d) own∧(own.Nodup→(ownR rs d).Nodup):=by
 cases rs with
 |one k=>
  simp only [rsOk,Option.bind_eq_some_iff,Option.some.injEq,Prod.mk.injEq,Prod.exists] at h
  obtain ⟨x,o1,h1,rfl,rfl⟩:=h
  have hc:RDc (nm ρ μ σ) sd d:=by
   cases sd with
   |agg ds=>cases k<;>simp [ckOk] at h1
   |_=>exact hr
  obtain ⟨c,q1,q2,q3,q4⟩:=ckOk_ok hm hbx hc h1
  exact ⟨.one c,by simp [tvD,q1],q2,q3,fun _=>q4⟩
 |agg ks=>
  cases sd with
  |agg sds=>
   simp only [rsOk,Option.bind_eq_some_iff,Option.some.injEq,Prod.mk.injEq,Prod.exists] at h
   obtain ⟨xs,o1,h1,rfl,rfl⟩:=h
   obtain ⟨ds,rfl,hr⟩:=hr
   obtain ⟨cs,p1,p2,p3,p4⟩:=ckOks_ok hm hbx hr h1
   have e:slD ρ (mkSL σ.lens xs)=atCs ρ xs:=mkSL_at hm xs
   exact ⟨.agg cs,by simp [tvD,e,p1],⟨ds,rfl,p2⟩,p3,p4⟩
  |_=>simp [rsOk] at h
theorem rsOks_ok:∀{rs:List RS} {sds:List SD} {ds:List D},All2 (RA (nm ρ μ σ)) sds ds→∀{tvs:List TV} {own:List Nat},rsOks σ.lens σ.heap rs sds=some (tvs,own)→
  ∃vs,tvDs ρ tvs=some vs∧All3 (RsR s.heap b.k0) rs vs ds∧Ids (nm ρ μ σ) (ownRs rs ds) own∧(own.Nodup→(ownRs rs ds).Nodup)
 |[],[],[],_,xs,own,h=>by
  simp only [rsOks,Option.some.injEq,Prod.mk.injEq] at h
  obtain ⟨rfl,rfl⟩:=h
  exact ⟨[],rfl,trivial,Ids.nil,fun _=>List.nodup_nil⟩
 |k::ks,sd::sds,d::ds,hr,xs,own,h=>by
  simp only [rsOks,Option.bind_eq_some_iff,Option.some.injEq,Prod.mk.injEq,Prod.exists] at h
  obtain ⟨x,o1,h1,xs',o2,h2,rfl,rfl⟩:=h
  obtain ⟨c,q1,q2,q3,q4⟩:=rsOk_ok hm hbx hr.1 h1
  obtain ⟨cs,p1,p2,p3,p4⟩:=rsOks_ok hr.2 h2
  exact ⟨c::cs,by simp [tvDs,q1,p1],⟨q2,p2⟩,q3.append p3,fun ho=>ids_nodup hm q3 p3 (q4 (List.nodup_append.1 ho).1) (p4 (List.nodup_append.1 ho).2.1) ho⟩
 |[],_::_,_,_,_,_,h=>by simp [rsOks] at h
 |_::_,[],_,_,_,_,h=>by simp [rsOks] at h
 |[],[],_::_,hr,_,_,_=>hr.elim
 |_::_,_::_,[],hr,_,_,_=>hr.elim
end
theorem range_lent {b:Bs} {ρ:List W} {μ:Nat→Option Nat} {σ:Sy} {s:St} (hR:Rl b ρ μ σ s):LentN (nm ρ μ σ) (List.range b.lent.length) b.lent:=by
 have aux:∀(l:List Nat) (q:Nat),(∀p j,l[p]?=some j→q+p < σ.nx∧μ (q+p)=some j)→LentN (nm ρ μ σ) ((List.range l.length).map (q+·)) l:=by
  intro l
  induction l with
  |nil=>intro q _;trivial
  |cons a l ih=>
   intro q h
   rw [List.length_cons,List.range_succ_eq_map,List.map_cons,List.map_map]
   refine ⟨h 0 a (by simp),?_⟩
   have:=ih (q+1) fun p j hp=>by
    have:=h (p+1) j (by simpa using hp)
    rw [show q+(p+1)=q+1+p by omega] at this
    exact this
   have e:((fun x=>q+x) ∘ Nat.succ)=(q+1+·):=by funext x;simp;omega
   rw [e]
   exact this
 have:=aux b.lent 0 fun p j hp=>by rw [Nat.zero_add];exact hR.lent p j hp
 simpa using this
theorem symFin_ok {b:Bs} {ρ:List W} {μ:Nat→Option Nat} {σ:Sy} {s:St} {call:FnT} {head:HdT} {r:R} {cx:Cx} (hR:Rl b ρ μ σ s) (hl:b.lent.length=cx.bl.length) (hd:denT call head (symFin cx σ) ρ=some r):FinS b cx.res cx.rs cx.bl r s:=by
 unfold symFin at hd
 split at hd
 case h_2=>cases hd
 rename_i sds h1
 split at hd
 case h_2=>cases hd
 rename_i tvs own h2
 split at hd
 case h_2=>cases hd
 rename_i bs h3
 split at hd
 case isFalse=>cases hd
 rename_i hn
 have hlent:=range_lent hR
 rw [hl] at hlent
 obtain ⟨ds,q1,q2⟩:=resS_ok hR h1
 have hbx:∀j∈b.lent,∃i ds,i < σ.nx∧μ i=some j∧getO σ.heap i=.box ds:=by
  intro j hj
  obtain ⟨i,p1,p2,p3⟩:=LentN.mem hlent j hj
  obtain ⟨ds,p4⟩:=boxesOf_box h3 i p1
  exact ⟨i,ds,p2,p3,p4⟩
 obtain ⟨vs,r1,r2,r3,r4⟩:=rsOks_ok hR.mem hbx q2 h2
 obtain ⟨xss,c1,c2⟩:=boxesOf_ok hR.mem hlent h3
 simp only [denT,Option.bind_eq_some_iff,Option.some.injEq] at hd
 obtain ⟨vs',g1,xss',g2,rfl⟩:=hd
 rw [r1] at g1;injection g1 with g1;subst g1
 rw [show slDs ρ bs=_ from c1] at g2;injection g2 with g2;subst g2
 refine ⟨⟨ds,q1,r2,r4 (nodupB_iff hn),fun j hj=>?_⟩,hR.mem.le,hR.mem.frame,c2⟩
 obtain ⟨i,p1,p2,p3⟩:=r3 j hj
 exact hR.mem.lt i j p2 p3
end Go.Ey
