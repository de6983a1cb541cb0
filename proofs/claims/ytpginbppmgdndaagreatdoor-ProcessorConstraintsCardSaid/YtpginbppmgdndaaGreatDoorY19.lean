/- A part of the proof. -/
import Derived.Test.YtpginbppmgdndaaGreatDoorY18
import Derived.KernelRfl
set_option linter.all false
namespace Go.Ey
theorem twDs_lenK {ρ':List W}:∀{l:List TW} {ws:List W},twDs ρ' l=some ws→ws.length=l.length
 |[],ws,h=>by simp only [twDs,Option.some.injEq] at h;subst h;rfl
 |w::l,ws,h=>by
  simp only [twDs,Option.bind_eq_some_iff,Option.some.injEq] at h
  obtain ⟨x,_,xs,h2,rfl⟩:=h
  simp [twDs_lenK h2]
section
variable {sig:Nat→Option (List PS)} {kcall:KFn} {khead:KHd} {call:FnT} {head:HdT} {S:List KW→Option R→Prop}
theorem kden_ok (hc:CallK sig kcall call) (hh:HeadK S khead head):∀(t:Tree) {ρ:List KW} {ρ':List W},RE ρ ρ'→∀{a:Ans},kden (cT sig ρ'.length t) kcall khead ρ=a→a≠.fail→RA' S a (denT call head t ρ')
 |.opc o t,ρ,ρ',h,a,hk,ha=>by
  obtain ⟨y,c,h1,h2,h3⟩:=kop_ok h (show kop (cO ρ'.length o) ρ (fun x=>kden (cT sig (ρ'.length+1) t) kcall khead (.c x::ρ))=a from hk) ha
  have hl:(ρ'++[W.c c]).length=ρ'.length+1:=by simp
  have:=kden_ok hc hh t (h.push (w:=.c y) (w':=.c c) h1) (by rw [hl];exact h3) ha
  simp only [denT,h2,Option.bind_some]
  exact this
 |.row esz s i t,ρ,ρ',h,a,hk,ha=>by
  obtain ⟨row,r,h1,h2,h3,h4⟩:=row_ok h (show (kA ρ (cA ρ'.length s) fun u=>kA ρ (cA ρ'.length i) fun v=>krow esz u v fun xs=>kden (cT sig (ρ'.length+1) t) kcall khead (.l esz xs::ρ))=a from hk) ha
  have hl:(ρ'++[W.l r]).length=ρ'.length+1:=by simp
  have:=kden_ok hc hh t (h.push (w:=.l esz row) (w':=.l r) ⟨h1,h2⟩) (by rw [hl];exact h4) ha
  simp only [denT,h3,Option.bind_some]
  exact this
 |.ite x t e,ρ,ρ',h,a,hk,ha=>by
  obtain ⟨y,c,h1,h2,h3⟩:=kA_ok h (show (kA ρ (cA ρ'.length x) fun y=>onB y fun b=>Bool.casesOn (motive:=fun _=>Ans) b (kden (cT sig ρ'.length e) kcall khead ρ) (kden (cT sig ρ'.length t) kcall khead ρ))=a from hk) ha
  obtain ⟨b,rfl,h4⟩:=onB_ok h3 ha
  rw [h1.bool] at h2
  simp only [denT,h2,Option.bind_some]
  cases b with
  |true=>exact kden_ok hc hh t h h4 ha
  |false=>exact kden_ok hc hh e h h4 ha
 |.call f args bs rs bl t,ρ,ρ',h,a,hk,ha=>by
  simp only [cT] at hk
  split at hk
  case h_2=>exact absurd hk.symm ha
  rename_i p hp
  split at hk
  case isFalse=>exact absurd hk.symm ha
  rename_i hf
  obtain ⟨ys,us,h1,h2,h3⟩:=kTAs_ok h (show (kVs ρ (cTA ρ'.length args) fun as=>kSs ρ (bs.map (cS ρ'.length)) fun xs=>onR (kcall f as xs) fun vs ys=>kputs rs vs ρ fun ρ=>kboxs bl ys ρ fun ρ2=>kden (cT sig (ρ'.length+rs.length+bl.length) t) kcall khead ρ2)=a from hk) ha
  obtain ⟨zs,css,h4,h5,h6⟩:=kSs_ok h h3 ha
  cases hr:kcall f ys zs with
  |fail=>rw [hr] at h6;exact absurd h6.symm ha
  |stop ws=>rw [hr] at h6;exact absurd h6.symm ha
  |ret vs bs'=>
   rw [hr] at h6
   obtain ⟨r,h7,h8,h9⟩:=hc f p args ys us zs css vs bs' hp hf h1 h4 hr
   obtain ⟨ρ2,ρ2',q1,q2,q3,q4,q5⟩:=kputs_ok (vs0:=r.1) (pre:=[]) rfl h8 h (show kputs rs vs ρ (fun ρ=>kboxs bl bs' ρ fun ρ2=>kden (cT sig (ρ'.length+rs.length+bl.length) t) kcall khead ρ2)=a from h6) ha
   obtain ⟨ρ3,ρ3',w1,w2,w3,w4,_,w5⟩:=kboxs_ok (bs0:=r.2) (pre:=[]) rfl h9 q1 q5 ha
   have:=kden_ok hc hh t w1 (by rw [w2,q2];exact w5) ha
   simp only [denT,h2,h5,h7,Option.bind_some,sized]
   rw [if_pos ⟨q3,w3⟩]
   have e1:=q4 (fun ρ=>bindBs r.2 (fun ρ=>denT call head t ρ) bl 0 ρ)
   have e2:=w4 (fun ρ=>denT call head t ρ)
   simp only [List.length_nil] at e1 e2
   rw [e1,e2]
   exact this
 |.goto i args,ρ,ρ',h,a,hk,ha=>by
  obtain ⟨ws,ws',h1,h2,h3⟩:=kPs_ok h RE.nil (show kPs ρ (args.map (cTW ρ'.length)) [] (fun ws=>khead i args.length ws)=a from hk) ha
  rw [List.nil_append] at h1
  have:=hh i ws ws' h1
  rw [twDs_lenK h2,h3] at this
  simp only [denT,h2,Option.bind_some]
  exact this
 |.ret rs bs,ρ,ρ',h,a,hk,ha=>by
  obtain ⟨ys,us,h1,h2,h3⟩:=kVs_ok h (show (kVs ρ (rs.map (cV ρ'.length)) fun vs=>kSs ρ (bs.map (cS ρ'.length)) fun xs=> .ret vs xs)=a from hk) ha
  obtain ⟨zs,css,h4,h5,h6⟩:=kSs_ok h h3 ha
  subst h6
  simp only [denT,h2,h5,Option.bind_some]
  exact ⟨_,rfl,h1,h4⟩
 |.fail,ρ,ρ',h,a,hk,ha=>absurd (show Ans.fail=a from hk).symm ha
def KFunOK (G:GT) (sig:Nat→Option (List PS)) (f:Nat) (kf:KFun):Prop:=
 ∃tf,G.fn f=some tf∧sig f=some tf.params∧kf.params=pOf tf.params∧kf.boxes=tf.boxes∧kf.body=cT sig ((pOf tf.params).length+tf.boxes.length) tf.body∧
  ∀(h m:Nat) (t:KTree),kf.heads[h]?=some (m,t)→∃t',tf.heads[h]?=some t'∧t=cT sig m t'
def KKnown (G:GT) (sig:Nat→Option (List PS)) (f:Nat) (kf:KFun):Prop:=kf.heads=[]∧
 ∀p ts ys us zs css call head a,sig f=some p→fits p ts=true→RLs ts ys us→All2 RB zs css→(kputs kf.params ys [] fun ρ=>kboxs kf.boxes zs ρ fun ρ=>kden kf.body call head ρ)=a→a≠.fail→
  ∃vs bs r,a=.ret vs bs∧fnT G f us css=some r∧All2 RVv vs r.1∧All2 RB bs r.2
def KGOK (G:GT) (sig:Nat→Option (List PS)):KG→Prop
 |.leaf=>True
 |.node k f l r=>(KFunOK G sig k f∨KKnown G sig k f)∧KGOK G sig l∧KGOK G sig r
variable {G:GT}
theorem get_ok {a:Ans} {k:KFun→Ans} {f:Nat}:∀{g:KG},KGOK G sig g→g.get f k=a→a≠.fail→∃kf,(KFunOK G sig f kf∨KKnown G sig f kf)∧k kf=a
 |.leaf,_,hk,ha=>absurd (show Ans.fail=a from hk).symm ha
 |.node q kf l r,hg,hk,ha=>by
  have hk':(cond (Nat.beq f q) (k kf) (cond (Nat.ble f q) (l.get f k) (r.get f k)))=a:=hk
  cases hb:Nat.beq f q with
  |true=>
   rw [hb] at hk'
   have:=Nat.eq_of_beq_eq_true hb
   subst this
   exact ⟨kf,hg.1,hk'⟩
  |false=>
   rw [hb,cond_false] at hk'
   cases hc:Nat.ble f q with
   |true=>rw [hc] at hk';exact get_ok hg.2.1 hk' ha
   |false=>rw [hc] at hk';exact get_ok hg.2.2 hk' ha
theorem kheads_ok {a:Ans} {k:KTree→Ans} {n:Nat}:∀{l:List (Nat×KTree)} {i:Nat},kheads l i n k=a→a≠.fail→∃t,l[i]?=some (n,t)∧k t=a
 |[],_,hk,ha=>absurd (show Ans.fail=a from hk).symm ha
 |(m,t)::l,0,hk,ha=>by
  obtain ⟨h1,h2⟩:=cond_ok (show (cond (Nat.beq m n) (k t) .fail)=a from hk) ha
  have:=Nat.eq_of_beq_eq_true h1
  subst this
  exact ⟨t,rfl,h2⟩
 |p::l,i+1,hk,ha=>by
  obtain ⟨t,h1,h2⟩:=kheads_ok (l:=l) (i:=i) hk ha
  exact ⟨t,by simpa using h1,h2⟩
theorem kgo_ok {g:KG} (hg:KGOK G sig g) (hc:CallK sig kcall call) (hh:HeadK S khead head) {f h:Nat} {ws:List KW} {ws':List W} (hw:RE ws ws') {a:Ans} (hk:kgo g f kcall khead h ws'.length ws=a) (ha:a≠.fail):
  ∃tf t,G.fn f=some tf∧tf.heads[h]?=some t∧RA' S a (denT call head t ws'):=by
 obtain ⟨kf,hkf,h3⟩:=get_ok hg (show g.get f (fun tf=>kheads tf.heads h ws'.length fun t=>kden t kcall khead ws)=a from hk) ha
 obtain ⟨t,h4,h5⟩:=kheads_ok h3 ha
 obtain ⟨tf,h1,_,_,_,_,h2⟩:KFunOK G sig f kf:=by
  rcases hkf with hkf|⟨hkf,_⟩
  ·exact hkf
  ·rw [hkf] at h4;simp at h4
 obtain ⟨t',h6,rfl⟩:=h2 _ _ _ h4
 exact ⟨tf,t',h1,h6,kden_ok hc hh t' hw h5 ha⟩
def anyS:List KW→Option R→Prop:=fun _ _=>True
theorem krun_ok {g:KG} (hg:KGOK G sig g):∀n,CallK sig (krun g n).fn (fnT G)∧∀f,HeadK anyS ((krun g n).hd f) (hdT G f)
 |0=>⟨fun f p ts ys us zs css vs bs _ _ _ _ h=>(by cases h),fun f h ws ws' _=>trivial⟩
 |n+1=>by
  obtain ⟨ih1,ih2⟩:=krun_ok hg n
  refine ⟨fun f p ts ys us zs css vs bs hp hf hr hb hk=>?_,fun f h ws ws' hw=>?_⟩
  ·have ha:Ans.ret vs bs≠.fail:=fun e=>by cases e
   obtain ⟨kf,hkf,h6⟩:=get_ok hg (show g.get f (fun tf=>kputs tf.params ys [] fun ρ=>kboxs tf.boxes zs ρ fun ρ=>kden tf.body (krun g n).fn ((krun g n).hd f) ρ)=.ret vs bs from hk) ha
   rcases hkf with ⟨tf,h1,h2,h3,h4,h5,_⟩|⟨_,hkn⟩
   case inr=>
    obtain ⟨vs',bs',r,e1,e2,e3,e4⟩:=hkn p ts ys us zs css _ _ _ hp hf hr hb h6 ha
    injection e1 with e5 e6
    subst e5 e6
    exact ⟨r,e2,e3,e4⟩
   rw [h2] at hp
   injection hp with hp
   subst hp
   rw [h3] at h6
   obtain ⟨ρ2,ρ2',q1,q2,q3,q4⟩:=kentry_ok hf hr RE.nil h6 ha
   rw [h4] at q4
   obtain ⟨ρ3,ρ3',w1,w2,w3,_,w4,w5⟩:=kboxs_ok (bs0:=css) (pre:=[]) rfl hb q1 q4 ha
   rw [h5] at w5
   have hl:ρ3'.length=(pOf tf.params).length+tf.boxes.length:=by rw [w2,q2];simp
   rw [←hl] at w5
   obtain ⟨r,e1,e2,e3⟩:=kden_ok ih1 (ih2 f) tf.body w1 w5 ha
   refine ⟨r,?_,e2,e3⟩
   rw [fnT_eq h1]
   unfold bodyT
   rw [q3,w4]
   exact e1
  ·by_cases ha:kgo g f (krun g n).fn ((krun g n).hd f) h ws'.length ws=.fail
   ·show RA' anyS (kgo g f (krun g n).fn ((krun g n).hd f) h ws'.length ws) _
    rw [ha];trivial
   ·obtain ⟨tf,t,h1,h2,h3⟩:=kgo_ok hg ih1 (ih2 f) hw rfl ha
    show RA' anyS (kgo g f (krun g n).fn ((krun g n).hd f) h ws'.length ws) _
    rw [hdT_eq h1 h2]
    exact h3
theorem krun_fn {g:KG} (hg:KGOK G sig g) {n f:Nat} {p:List PS} (hp:sig f=some p) {ts:List TA} (hf:fits p ts=true) {ys:List KW} {us:List LA} (hr:RLs ts ys us) {zs:List KW} {css:List (List C)} (hb:All2 RB zs css) {vs bs:List KW}
  (hk:(krun g n).fn f ys zs=.ret vs bs):∃r,fnT G f us css=some r∧All2 RVv vs r.1∧All2 RB bs r.2:=by
 exact (krun_ok hg n).1 f p ts ys us zs css vs bs hp hf hr hb hk
theorem krun_call {g:KG} (hg:KGOK G sig g) (n:Nat):CallK sig (krun g n).fn (fnT G):=(krun_ok hg n).1
def stopS (G:GT) (f h0 a:Nat):List KW→Option R→Prop:=fun ws o=>∃ws',RE ws ws'∧ws'.length=a∧o=hdT G f h0 ws'
theorem kmid_ok {g:KG} (hg:KGOK G sig g) (hc:CallK sig kcall (fnT G)) {f h0 a:Nat}:∀m,HeadK (stopS G f h0 a) (kmid g kcall f h0 a m) (hdT G f)
 |0=>fun h ws ws' _=>trivial
 |m+1=>fun h ws ws' hw=>by
  show RA' _ (cond (Nat.beq h h0) (cond (Nat.beq ws'.length a) (.stop ws) .fail) (kgo g f kcall (kmid g kcall f h0 a m) h ws'.length ws)) _
  cases hb:Nat.beq h h0 with
  |true=>
   have:=Nat.eq_of_beq_eq_true hb
   subst this
   cases hl:Nat.beq ws'.length a with
   |true=>exact ⟨ws',hw,Nat.eq_of_beq_eq_true hl,rfl⟩
   |false=>trivial
  |false=>
   rw [cond_false]
   by_cases ha:kgo g f kcall (kmid g kcall f h0 a m) h ws'.length ws=.fail
   ·rw [ha];trivial
   ·obtain ⟨tf,t,h1,h2,h3⟩:=kgo_ok hg hc (kmid_ok hg hc m) hw rfl ha
    rw [hdT_eq h1 h2]
    exact h3
theorem krounds_ok {g:KG} (hg:KGOK G sig g) {n m f h0 a:Nat}:∀(rounds:Nat) {ws:List KW} {ws':List W} {vs:List KW},RE ws ws'→ws'.length=a→krounds g n m f h0 a rounds ws=.stop vs→∃vs',RE vs vs'∧vs'.length=a∧hdT G f h0 ws'=hdT G f h0 vs'
 |0,ws,ws',vs,hw,hl,hk=>by
  have hk':Ans.stop ws=.stop vs:=hk
  injection hk' with e
  subst e
  exact ⟨ws',hw,hl,rfl⟩
 |r+1,ws,ws',vs,hw,hl,hk=>by
  have hk':onStop (kgo g f (krun g n).fn (kmid g (krun g n).fn f h0 a m) h0 a ws) (krounds g n m f h0 a r)=.stop vs:=hk
  cases he:kgo g f (krun g n).fn (kmid g (krun g n).fn f h0 a m) h0 a ws with
  |fail=>rw [he] at hk';cases hk'
  |ret _ _=>rw [he] at hk';cases hk'
  |stop us=>
   rw [he] at hk'
   rw [←hl] at he
   obtain ⟨tf,t,h1,h2,us',h3,h4,h5⟩:=kgo_ok hg (krun_call hg n) (kmid_ok hg (krun_call hg n) m) hw he (fun e=>by cases e)
   obtain ⟨vs',h6,h7,h8⟩:=krounds_ok hg r h3 h4 (show krounds g n m f h0 ws'.length r us=.stop vs by rw [hl];exact hk')
   rw [hl] at h7 h4
   exact ⟨vs',h6,h7,by rw [hdT_eq h1 h2,h5];exact h8⟩
theorem krun_hd {g:KG} (hg:KGOK G sig g) {n f h:Nat} {ws:List KW} {ws':List W} (hw:RE ws ws') {vs bs:List KW} (hk:(krun g n).hd f h ws'.length ws=.ret vs bs):∃r,hdT G f h ws'=some r∧All2 RVv vs r.1∧All2 RB bs r.2:=by
 have:=(krun_ok hg n).2 f h ws ws' hw
 rw [hk] at this
 exact this
theorem kfirst_ok {g:KG} (hg:KGOK G sig g) {n m f h0 a:Nat} {p:List PS} (hp:sig f=some p) {ts:List TA} (hf:fits p ts=true) {ys:List KW} {us:List LA} (hr:RLs ts ys us) {zs:List KW} {css:List (List C)} (hb:All2 RB zs css) {vs:List KW}
  (hk:kfirst g n m f h0 a ys zs=.stop vs):∃vs',RE vs vs'∧vs'.length=a∧fnT G f us css=hdT G f h0 vs':=by
 have ha:Ans.stop vs≠.fail:=fun e=>by cases e
 obtain ⟨kf,hkf,h6⟩:=get_ok hg (show g.get f (fun tf=>kputs tf.params ys [] fun ρ=>kboxs tf.boxes zs ρ fun ρ=>kden tf.body (krun g n).fn (kmid g (krun g n).fn f h0 a m) ρ)=.stop vs from hk) ha
 rcases hkf with ⟨tf,h1,h2,h3,h4,h5,_⟩|⟨_,hkn⟩
 case inr=>
  obtain ⟨vs',bs',r,e1,_⟩:=hkn p ts ys us zs css _ _ _ hp hf hr hb h6 ha
  cases e1
 rw [h2] at hp
 injection hp with hp
 subst hp
 rw [h3] at h6
 obtain ⟨ρ2,ρ2',q1,q2,q3,q4⟩:=kentry_ok hf hr RE.nil h6 ha
 rw [h4] at q4
 obtain ⟨ρ3,ρ3',w1,w2,w3,_,w4,w5⟩:=kboxs_ok (bs0:=css) (pre:=[]) rfl hb q1 q4 ha
 rw [h5] at w5
 have hl:ρ3'.length=(pOf tf.params).length+tf.boxes.length:=by rw [w2,q2];simp
 rw [←hl] at w5
 obtain ⟨vs',e1,e2,e3⟩:=kden_ok (krun_call hg n) (kmid_ok hg (krun_call hg n) m) tf.body w1 w5 ha
 refine ⟨vs',e1,e2,?_⟩
 rw [fnT_eq h1]
 unfold bodyT
 rw [q3,w4]
 exact e3
theorem known_closed {f:Nat} {vs:List KV} {ws:List KW} {us:List V} (hsig:sig f=some []) (hv:All2 RVv ws us) (hk:∀(ρ:List KW) (k:List KW→Ans),kVs ρ vs k=k ws) (h:fnT G f [] []=some (us,[])):KKnown G sig f ⟨[],[],.ret vs [],[]⟩:=by
 refine ⟨rfl,fun p ts ys xs zs css call head a hp hf hr hb hk2 ha=>?_⟩
 rw [hsig] at hp
 injection hp with hp
 subst hp
 cases ts with
 |cons t ts=>cases t<;>cases hf
 |nil=>cases ys with
  |cons _ _=>cases xs<;>exact hr.elim
  |nil=>cases xs with
   |cons _ _=>exact hr.elim
   |nil=>cases zs with
    |cons _ _=>exact absurd hk2.symm ha
    |nil=>cases css with
     |cons _ _=>exact hb.elim
     |nil=>
      have h2:kVs [] vs (fun vs=>kSs [] [] fun xs=> .ret vs xs)=a:=hk2
      rw [hk] at h2
      exact ⟨ws,[],_,h2.symm,h,hv,trivial⟩
end
end Go.Ey

namespace Go.Ey
inductive BT (α:Type) where
 |leaf
 |node (k:Nat) (v:α) (l r:BT α)
def BT.get {α:Type}:BT α→Nat→Option α
 |.leaf,_=>none
 |.node k v l r,n=>cond (Nat.beq n k) (some v) (cond (Nat.ble n k) (l.get n) (r.get n))
def shapeB:List PS→List LA→Bool
 |[],[]=>true
 |.one::ps,.v (.one _)::as=>shapeB ps as
 |.agg m::ps,.v (.agg xs)::as=>Nat.beq xs.length m && shapeB ps as
 |_,_=>false
theorem shapeB_A:∀{ps:List PS} {as:List LA},shapeB ps as=true→shapeA ps as
 |[],[],_=>trivial
 |.one::ps,.v (.one _)::as,h=>shapeB_A (ps:=ps) (as:=as) h
 |.agg m::ps,.v (.agg xs)::as,h=>by
  simp only [shapeB,Bool.and_eq_true] at h
  exact ⟨Nat.eq_of_beq_eq_true h.1,shapeB_A h.2⟩
 |[],_::_,h=>by simp [shapeB] at h
 |.one::_,[],h=>by simp [shapeB] at h
 |.agg _::_,[],h=>by simp [shapeB] at h
 |.ref _ _::_,_,h=>by simp [shapeB] at h
 |.clo _ _::_,_,h=>by simp [shapeB] at h
 |.one::_,.v (.agg _)::_,h=>by simp [shapeB] at h
 |.one::_,.ref _ _::_,h=>by simp [shapeB] at h
 |.agg _::_,.v (.one _)::_,h=>by simp [shapeB] at h
 |.agg _::_,.ref _ _::_,h=>by simp [shapeB] at h
def laVs:List LA→Option (List V)
 |[]=>some []
 |.v x::r=>(laVs r).bind fun l=>some (x::l)
 |.ref _ _::_=>none
theorem laVs_eq:∀{as:List LA} {vs:List V},laVs as=some vs→as=vs.map .v
 |[],vs,h=>by simp only [laVs,Option.some.injEq] at h;subst h;rfl
 |.v x::r,vs,h=>by
  simp only [laVs,Option.bind_eq_some_iff,Option.some.injEq] at h
  obtain ⟨l,h1,rfl⟩:=h
  rw [laVs_eq h1];rfl
 |.ref _ _::_,vs,h=>by simp [laVs] at h
structure Seat where
 P:Program
 sh:Nat→Nat
 sg:BT Sig
 hs:BT (List HS)
 nat:Nat→List V→Option (List V)
 isNat:Nat→Bool
namespace Seat
variable (T:Seat)
def code (f:Nat):Option IFunc:=(T.P.funcs[f]?).bind fun fn=>compFn T.P T.sh fn
def F:Tab:=⟨T.code,T.nat⟩
def sig (k:Nat):Option Sig:=T.sg.get k
def heads (k:Nat):List HS:=(T.hs.get k).getD []
def fnG (k:Nat):Option TFun:=(T.sig k).bind fun s=>if (s.nat||T.isNat (s.cd k))=true then none else (T.code (s.cd k)).bind fun I=>if I.nparams=s.params.length then some (symFn T.sig 2000 s (T.heads k) I) else none
def natG (f:Nat) (as:List LA):List (List C)→Option R
 |[]=>(T.sig f).bind fun s=>if (s.nat && s.boxes.isEmpty && shapeB s.params as)=true then (laVs as).bind fun vs=>(T.nat f vs).bind fun rs=>some (rs,[]) else none
 |_=>none
def G:GT:=⟨T.fnG,T.natG⟩
section Right
variable [Keeps]
structure OK:Prop where
 isNat:∀f vs,T.isNat f=false→T.nat f vs=none
 nat:∀f vs rs,T.nat f vs=some rs→FnOK T.P f vs rs
 names:T.P.funcs.all (fun fn=>!(fn.name== "runtime.NumGoroutine"))=true
 mixed:T.P.follows .mixedOrders=true
variable {T}
theorem OK.table (h:T.OK):Table T.P T.sh T.F where
 nat:=h.nat
 ok:=fun f I hf=>by
  have hf':(T.P.funcs[f]?).bind (fun fn=>compFn T.P T.sh fn)=some I:=hf
  simp only [Option.bind_eq_some_iff] at hf'
  obtain ⟨fn,h1,h2⟩:=hf'
  refine ⟨fn,h1,h2,?_⟩
  have:=Array.all_eq_true_iff_forall_mem.1 h.names fn (Array.mem_of_getElem? h1)
  simpa using this
 mixed:=h.mixed
theorem OK.tab (h:T.OK):TabOK T.F T.sig T.G 2000 T.heads where
 fn:=fun k tf hk=>by
  have hk':T.fnG k=some tf:=hk
  simp only [fnG,Option.bind_eq_some_iff] at hk'
  obtain ⟨s,h1,h2⟩:=hk'
  split at h2
  ·cases h2
  rename_i hn
  simp only [Option.bind_eq_some_iff] at h2
  obtain ⟨I,h3,h4⟩:=h2
  split at h4
  case isFalse=>cases h4
  rename_i hp
  simp only [Option.some.injEq] at h4
  simp only [Bool.or_eq_true,not_or,Bool.not_eq_true] at hn
  exact ⟨I,s,h3,h1,hp,h4.symm,hn.1,fun vs=>h.isNat _ vs hn.2⟩
 nat:=fun f as bs r _ hr=>by
  have hr':T.natG f as bs=some r:=hr
  cases bs with
  |cons _ _=>simp [natG] at hr'
  |nil=>
   simp only [natG,Option.bind_eq_some_iff] at hr'
   obtain ⟨s,h1,h2⟩:=hr'
   split at h2
   case isFalse=>cases h2
   rename_i hc
   simp only [Option.bind_eq_some_iff,Option.some.injEq] at h2
   obtain ⟨vs,h3,rs,h4,rfl⟩:=h2
   simp only [Bool.and_eq_true,List.isEmpty_iff] at hc
   exact ⟨s,vs,h1,hc.1.1,hc.1.2,rfl,shapeB_A hc.2,laVs_eq h3,h4⟩
theorem OK.fn (h:T.OK) {f:Nat} {vs rs:List V} {bs:List (List C)} (hc:(T.sig f).all (fun s=>s.code.isNone)=true) (hr:fnT T.G f (vs.map .v) []=some (rs,bs)):FnOK T.P f vs rs:=by
 obtain ⟨n,hn⟩:=fnT_sim h.tab (fun s hs=>by rw [hs] at hc;simpa using hc) hr
 exact ev_sound h.table hn
theorem OK.ev (h:T.OK) {n f:Nat} {vs rs:List V} (hr:evFn T.F n f vs=some rs):FnOK T.P f vs rs:=ev_sound h.table hr
end Right
def psig (f:Nat):Option (List PS):=(T.sig f).bind fun s=>some s.params
def kHeads:List HS→List Tree→List (Nat×KTree)
 |h::hs,t::ts=>(match (shSyN h).2 with|n=>(n,cT T.psig n t))::kHeads hs ts
 |_,_=>[]
def kOf (k:Nat) (tf:TFun):KFun:=⟨pOf tf.params,tf.boxes,cT T.psig ((pOf tf.params).length+tf.boxes.length) tf.body,T.kHeads (T.heads k) tf.heads⟩
def krow (k:Nat):Option KFun:=(T.fnG k).bind fun tf=>some (T.kOf k tf)
variable {T}
theorem kHeads_get:∀{hs:List HS} {ts:List Tree} {i m:Nat} {t:KTree},(T.kHeads hs ts)[i]?=some (m,t)→∃t',ts[i]?=some t'∧t=cT T.psig m t'
 |[],_,_,_,_,h=>by simp [kHeads] at h
 |_::_,[],_,_,_,h=>by simp [kHeads] at h
 |h::hs,t0::ts,0,m,t,he=>by
  simp only [kHeads,List.getElem?_cons_zero,Option.some.injEq,Prod.mk.injEq] at he
  obtain ⟨rfl,rfl⟩:=he
  exact ⟨t0,rfl,rfl⟩
 |h::hs,t0::ts,i+1,m,t,he=>by
  simp only [kHeads,List.getElem?_cons_succ] at he
  simpa using kHeads_get he
theorem krow_ok {k:Nat} {kf:KFun} (h:T.krow k=some kf):KFunOK T.G T.psig k kf∨KKnown T.G T.psig k kf:=by
 simp only [krow,Option.bind_eq_some_iff,Option.some.injEq] at h
 obtain ⟨tf,h1,rfl⟩:=h
 refine .inl ⟨tf,h1,?_,rfl,rfl,rfl,fun i m t ht=>kHeads_get ht⟩
 simp only [fnG,Option.bind_eq_some_iff] at h1
 obtain ⟨s,h2,h3⟩:=h1
 split at h3
 ·cases h3
 simp only [Option.bind_eq_some_iff] at h3
 obtain ⟨I,_,h4⟩:=h3
 split at h4
 case isFalse=>cases h4
 simp only [Option.some.injEq] at h4
 subst h4
 simp [psig,h2,symFn]
end Seat
end Go.Ey
