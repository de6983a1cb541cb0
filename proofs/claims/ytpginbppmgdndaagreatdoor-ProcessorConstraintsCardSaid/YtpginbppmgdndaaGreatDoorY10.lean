/- A part of the proof. -/
import Derived.Test.YtpginbppmgdndaaGreatDoorY09
import Derived.Laws.Append
import Derived.Laws.OwnMore
import Derived.WalkKit
set_option linter.all false
namespace Go.Ey
def EV (F:Tab) (c:ICode) (s:St) (x:Ex) (s':St):Prop:=∃n,evCode F n c s=some (x,s')
def KRun (F:Tab):List Fr→Ex→St→St→Prop
 |[],x,s,s'=>(x=.normal∨x=.ret)∧s'=s
 |.seq _ c::K,.normal,s,s'=>∃x1 s1,EV F c s x1 s1∧KRun F K x1 s1 s'
 |.seq _ _::K,x,s,s'=>KRun F K x s s'
 |.blk id::K,.exit id',s,s'=>if id'=id then KRun F K .normal s s' else KRun F K (.exit id') s s'
 |.blk _::K,x,s,s'=>KRun F K x s s'
 |.loop _ c::K,.normal,s,s'=>∃x1 s1,EV F (.loop c) s x1 s1∧KRun F K x1 s1 s'
 |.loop _ _::K,x,s,s'=>KRun F K x s s'
def WF (B:ICode):List Fr→Prop
 |[]=>True
 |.seq p c::K=>locate B p=some (c,K)∧WF B K
 |.blk _::K=>WF B K
 |.loop p c::K=>locate B p=some (.loop c,K)∧WF B K
theorem locate_wf {B:ICode}:∀{p:List Nat} {c:ICode} {K:List Fr},locate B p=some (c,K)→WF B K
 |[],c,K,h=>by simp only [locate,Option.some.injEq,Prod.mk.injEq] at h;obtain ⟨_,rfl⟩:=h;trivial
 |i::q,c,K,h=>by
  simp only [locate,Option.bind_eq_some_iff] at h
  obtain ⟨⟨c',K'⟩,h1,h2⟩:=h
  have hw:=locate_wf h1
  split at h2<;>try (cases h2;done)
  all_goals (rename_i e;simp only at e;subst e;simp only [Option.some.injEq,Prod.mk.injEq] at h2;obtain ⟨_,rfl⟩:=h2)
  ·exact ⟨by simp [locate,h1],hw⟩
  ·exact hw
  ·exact hw
  ·exact hw
  ·exact hw
  ·exact ⟨h1,hw⟩
theorem krun_ret {F:Tab} {s:St}:∀K:List Fr,KRun F K .ret s s
 |[]=>⟨.inr rfl,rfl⟩
 |.seq _ _::K=>krun_ret K
 |.blk _::K=>krun_ret K
 |.loop _ _::K=>krun_ret K
theorem EV.seq {F:Tab} {a c:ICode} {s s1 s2:St} {x:Ex} (h1:EV F a s .normal s1) (h2:EV F c s1 x s2):EV F (.seq a c) s x s2:=by
 obtain ⟨n1,h1⟩:=h1
 obtain ⟨n2,h2⟩:=h2
 refine ⟨max n1 n2+1,?_⟩
 simp only [evCode,evCode_le (Nat.le_max_left n1 n2) a s _ h1,Option.bind_eq_bind,Option.bind_some]
 exact evCode_le (Nat.le_max_right n1 n2) c s1 _ h2
theorem EV.loop {F:Tab} {c:ICode} {s s1 s2:St} {x:Ex} (h1:EV F c s .normal s1) (h2:EV F (.loop c) s1 x s2):EV F (.loop c) s x s2:=by
 obtain ⟨n1,h1⟩:=h1
 obtain ⟨n2,h2⟩:=h2
 refine ⟨max n1 n2+1,?_⟩
 simp only [evCode,evCode_le (Nat.le_max_left n1 n2) c s _ h1,Option.bind_eq_bind,Option.bind_some]
 exact evCode_le (Nat.le_max_right n1 n2) (.loop c) s1 _ h2
section
variable {F:Tab} {B:ICode} {cx:Cx} {b:Bs} {call:FnT} {head:HdT} {r:R}
def HeadsOK (F:Tab) (B:ICode) (cx:Cx) (head:HdT):Prop:=
 ∀(i:Nat) (ws:List W) (r:R),head i ws=some r→∀hh,cx.heads[i]?=some hh→∀c K,locate B hh.p=some (.loop c,K)→∀(b:Bs) (μ:Nat→Option Nat) (s:St),b.lent.length=cx.bl.length→Rl b ws μ (shSyN hh).1 s→(shSyN hh).2=ws.length→
  ∃x1 s1 s',EV F (.loop c) s x1 s1∧KRun F K x1 s1 s'∧FinS b cx.res cx.rs cx.bl r s'
theorem tryHeads_ok {k:Nat} {p:List Nat} {σ:Sy} {ρ:List W}:∀{hs:List HS} {i:Nat},denT call head (tryHeads k p σ i hs) ρ=some r→∃j hh tws ws,hs[j]?=some hh∧hh.p=p∧headArgs k hh σ=some tws∧twDs ρ tws=some ws∧head (i+j) ws=some r
 |[],i,hd=>by simp [tryHeads,denT] at hd
 |h::hs,i,hd=>by
  have rest:denT call head (tryHeads k p σ (i+1) hs) ρ=some r→∃j hh tws ws,(h::hs)[j]?=some hh∧hh.p=p∧headArgs k hh σ=some tws∧twDs ρ tws=some ws∧head (i+j) ws=some r:=by
   intro hd
   obtain ⟨j,hh,tws,ws,q1,q2,q3,q4,q5⟩:=tryHeads_ok hd
   exact ⟨j+1,hh,tws,ws,by simpa using q1,q2,q3,q4,by rw [show i+(j+1)=i+1+j by omega];exact q5⟩
  simp only [tryHeads] at hd
  split at hd
  ·rename_i hp
   split at hd
   ·rename_i tws ha
    simp only [denT,Option.bind_eq_some_iff] at hd
    obtain ⟨ws,h1,h2⟩:=hd
    exact ⟨0,h,tws,ws,by simp,hp,ha,h1,h2⟩
   ·exact rest hd
  ·exact rest hd
variable (hh:HeadsOK F B cx head) (hlen:b.lent.length=cx.bl.length)
include hh hlen
theorem loop_ok {p:List Nat} {c:ICode} {K:List Fr} (hloc:locate B p=some (.loop c,K)) {ρ:List W} {μ:Nat→Option Nat} {σ:Sy} {s:St} (hR:Rl b ρ μ σ s) (hd:denT call head (tryHeads cx.bl.length p σ 0 cx.heads) ρ=some r):
  ∃x1 s1 s',EV F (.loop c) s x1 s1∧KRun F K x1 s1 s'∧FinS b cx.res cx.rs cx.bl r s':=by
 obtain ⟨j,h,tws,ws,q1,q2,q3,q4,q5⟩:=tryHeads_ok hd
 rw [←hlen] at q3
 obtain ⟨μ',q6,q7⟩:=head_inst hR q3 q4
 subst q2
 rw [Nat.zero_add] at q5
 exact hh j ws r q5 h q1 c K hloc b μ' s hlen q6 q7
theorem normK_ok {rec:List Nat→ICode→List Fr→Sy→Nat→Kn→Tree}
  (hrec:∀p c K ρ μ σ kn s,locate B p=some (c,K)→Rl b ρ μ σ s→Kno kn ρ→denT call head (rec p c K σ ρ.length kn) ρ=some r→∃x1 s1 s',EV F c s x1 s1∧KRun F K x1 s1 s'∧FinS b cx.res cx.rs cx.bl r s'):
  ∀{K:List Fr} {ρ:List W} {μ:Nat→Option Nat} {σ:Sy} {kn:Kn} {s:St},WF B K→Rl b ρ μ σ s→Kno kn ρ→denT call head (normK cx rec K σ ρ.length kn) ρ=some r→∃s',KRun F K .normal s s'∧FinS b cx.res cx.rs cx.bl r s'
 |[],ρ,μ,σ,kn,s,_,hR,hk,hd=>⟨s,⟨.inl rfl,rfl⟩,symFin_ok hR hlen hd⟩
 |.seq p c::K,ρ,μ,σ,kn,s,hw,hR,hk,hd=>by
  obtain ⟨x1,s1,s',h1,h2,h3⟩:=hrec p c K ρ μ σ kn s hw.1 hR hk hd
  exact ⟨s',⟨x1,s1,h1,h2⟩,h3⟩
 |.blk _::K,ρ,μ,σ,kn,s,hw,hR,hk,hd=>normK_ok hrec (K:=K) hw hR hk hd
 |.loop p c::K,ρ,μ,σ,kn,s,hw,hR,hk,hd=>by
  obtain ⟨x1,s1,s',h1,h2,h3⟩:=loop_ok hh hlen hw.1 hR hd
  exact ⟨s',⟨x1,s1,h1,h2⟩,h3⟩
theorem exitK_ok {rec:List Nat→ICode→List Fr→Sy→Nat→Kn→Tree} {id:Nat}
  (hrec:∀p c K ρ μ σ kn s,locate B p=some (c,K)→Rl b ρ μ σ s→Kno kn ρ→denT call head (rec p c K σ ρ.length kn) ρ=some r→∃x1 s1 s',EV F c s x1 s1∧KRun F K x1 s1 s'∧FinS b cx.res cx.rs cx.bl r s'):
  ∀{K:List Fr} {ρ:List W} {μ:Nat→Option Nat} {σ:Sy} {kn:Kn} {s:St},WF B K→Rl b ρ μ σ s→Kno kn ρ→denT call head (exitK cx rec id K σ ρ.length kn) ρ=some r→∃s',KRun F K (.exit id) s s'∧FinS b cx.res cx.rs cx.bl r s'
 |[],ρ,μ,σ,kn,s,_,hR,hk,hd=>by simp [exitK,denT] at hd
 |.seq p c::K,ρ,μ,σ,kn,s,hw,hR,hk,hd=>exitK_ok hrec (K:=K) hw.2 hR hk hd
 |.blk id'::K,ρ,μ,σ,kn,s,hw,hR,hk,hd=>by
  simp only [exitK] at hd
  split at hd
  ·rename_i e
   obtain ⟨s',h1,h2⟩:=normK_ok hh hlen hrec (K:=K) hw hR hk hd
   exact ⟨s',by simp only [KRun];rw [if_pos e];exact h1,h2⟩
  ·rename_i e
   obtain ⟨s',h1,h2⟩:=exitK_ok hrec (K:=K) hw hR hk hd
   exact ⟨s',by simp only [KRun];rw [if_neg e];exact h1,h2⟩
 |.loop p c::K,ρ,μ,σ,kn,s,hw,hR,hk,hd=>exitK_ok hrec (K:=K) hw.2 hR hk hd
theorem symGo_ok (hcall:CallsOK F cx.sig call):∀(fuel:Nat) (p:List Nat) (c:ICode) (K:List Fr) (ρ:List W) (μ:Nat→Option Nat) (σ:Sy) (kn:Kn) (s:St),locate B p=some (c,K)→Rl b ρ μ σ s→Kno kn ρ→denT call head (symGo cx fuel p c K σ ρ.length kn) ρ=some r→
  ∃x1 s1 s',EV F c s x1 s1∧KRun F K x1 s1 s'∧FinS b cx.res cx.rs cx.bl r s'
 |0,_,_,_,_,_,_,_,_,_,_,_,hd=>by simp [symGo,denT] at hd
 |fuel+1,p,c,K,ρ,μ,σ,kn,s,hloc,hR,hk,hd=>by
  have ih:=symGo_ok hcall fuel
  have hw:=locate_wf hloc
  cases c with
  |skip=>
   obtain ⟨s',h1,h2⟩:=normK_ok hh hlen ih hw hR hk hd
   exact ⟨.normal,s,s',⟨1,rfl⟩,h1,h2⟩
  |ret=>exact ⟨.ret,s,s,⟨1,rfl⟩,krun_ret K,symFin_ok hR hlen hd⟩
  |exit id=>
   obtain ⟨s',h1,h2⟩:=exitK_ok hh hlen ih hw hR hk hd
   exact ⟨.exit id,s,s',⟨1,rfl⟩,h1,h2⟩
  |region is=>
   obtain ⟨n0,s1,h1,ws,μ',σ',kn',p1,p2,p3⟩:=symSeq_ok hcall is ρ μ σ s kn hR hk hd
   obtain ⟨s',h2,h3⟩:=normK_ok hh hlen ih hw p1 p2 p3
   exact ⟨.normal,s1,s',⟨n0+1,by simp [evCode,h1 n0 (Nat.le_refl _)]⟩,h2,h3⟩
  |draw is ws=>
   have hR0:Rl b ρ μ σ ⟨s.env,s.heap,s.nx+0⟩:=hR
   obtain ⟨n0,e',h',ts,h1,ws',μ',σ',kn',tsS',p1,p2,p3,_,p5⟩:=symDraw_ok (nx:=s.nx) hcall is ρ μ σ s.env s.heap 0 kn [] hR0 hk hd
   rw [List.nil_append] at p3
   simp only at p3
   split at p3
   case isFalse=>cases p3
   rename_i hok
   have hok':drawOk ts ws=true:=drawFrom_ids (fun i i' j a1 a2 a3 a4=>p1.mem.inj i i' j a1 a2 a3 a4) (pre:=[]) (pre':=[]) trivial p5 hok
   rw [Nat.zero_add] at p1
   obtain ⟨s',h2,h3⟩:=normK_ok hh hlen ih hw p1 p2 p3
   exact ⟨.normal,_,s',⟨n0+1,by simp [evCode,h1 n0 (Nat.le_refl _),hok']⟩,h2,h3⟩
  |seq a c2=>
   have hl1:locate B (0::p)=some (a,.seq (1::p) c2::K):=by simp [locate,hloc]
   obtain ⟨x1,s1,s',h1,h2,h3⟩:=ih _ _ _ ρ μ σ kn s hl1 hR hk hd
   cases x1 with
   |normal=>
    obtain ⟨x2,s2,h4,h5⟩:=h2
    exact ⟨x2,s2,s',h1.seq h4,h5,h3⟩
   |exit id=>
    obtain ⟨n,hn⟩:=h1
    exact ⟨.exit id,s1,s',⟨n+1,by simp [evCode,hn]⟩,h2,h3⟩
   |ret=>
    obtain ⟨n,hn⟩:=h1
    exact ⟨.ret,s1,s',⟨n+1,by simp [evCode,hn]⟩,h2,h3⟩
  |cond x a c2=>
   simp only [symGo] at hd
   obtain ⟨t,kn',e1,e2,e3⟩:=withBool_ok rfl hk (xS_ok hR.env x) hd
   cases t with
   |true=>
    have hl1:locate B (0::p)=some (a,K):=by simp [locate,hloc]
    obtain ⟨x1,s1,s',⟨n,h1⟩,h2,h3⟩:=ih _ _ _ ρ μ σ kn' s hl1 hR e2 e3
    exact ⟨x1,s1,s',⟨n+1,by simp [evCode,e1,asBool,h1]⟩,h2,h3⟩
   |false=>
    have hl1:locate B (1::p)=some (c2,K):=by simp [locate,hloc]
    obtain ⟨x1,s1,s',⟨n,h1⟩,h2,h3⟩:=ih _ _ _ ρ μ σ kn' s hl1 hR e2 e3
    exact ⟨x1,s1,s',⟨n+1,by simp [evCode,e1,asBool,h1]⟩,h2,h3⟩
  |block id c2=>
   have hl1:locate B (0::p)=some (c2,.blk id::K):=by simp [locate,hloc]
   obtain ⟨x1,s1,s',⟨n,h1⟩,h2,h3⟩:=ih _ _ _ ρ μ σ kn s hl1 hR hk hd
   cases x1 with
   |normal=>exact ⟨.normal,s1,s',⟨n+1,by simp [evCode,h1]⟩,h2,h3⟩
   |ret=>exact ⟨.ret,s1,s',⟨n+1,by simp [evCode,h1]⟩,h2,h3⟩
   |exit id'=>
    simp only [KRun] at h2
    by_cases he:id'=id
    ·rw [if_pos he] at h2
     exact ⟨.normal,s1,s',⟨n+1,by simp [evCode,h1,he]⟩,h2,h3⟩
    ·rw [if_neg he] at h2
     exact ⟨.exit id',s1,s',⟨n+1,by simp [evCode,h1,he]⟩,h2,h3⟩
  |loop c2=>exact loop_ok hh hlen hloc hR hd
end
structure TabOK (F:Tab) (sig:Nat→Option Sig) (G:GT) (fuel:Nat) (hs:Nat→List HS):Prop where
 fn:∀f tf,G.fn f=some tf→∃I s,F.code (s.cd f)=some I∧sig f=some s∧I.nparams=s.params.length∧tf=symFn sig fuel s (hs f) I∧s.nat=false∧∀vs,F.nat (s.cd f) vs=none
 nat:∀f as bs r,G.fn f=none→G.nat f as bs=some r→∃s vs,sig f=some s∧s.nat=true∧s.boxes=[]∧bs=[]∧shapeA s.params as∧as=vs.map .v∧F.nat f vs=some r.1
section
variable {F:Tab} {sig:Nat→Option Sig} {G:GT} {fuel:Nat} {hs:Nat→List HS} (hT:TabOK F sig G fuel hs)
include hT
theorem heads_step {n:Nat} (hc:CallsOK F sig (runT G n)) (hd:∀f I s,F.code (s.cd f)=some I→sig f=some s→(∃tf,G.fn f=some tf)→HeadsOK F I.body ⟨sig,hs f,I.res,s.rs,s.boxes⟩ (runHd G n f)):
  ∀f I s,F.code (s.cd f)=some I→sig f=some s→(∃tf,G.fn f=some tf)→HeadsOK F I.body ⟨sig,hs f,I.res,s.rs,s.boxes⟩ (runHd G (n+1) f):=by
 intro f I s hI hs' ⟨tf,htf⟩ i ws r hr hh hhi c K hloc b μ st hlen hR hn
 obtain ⟨I',s0,q1,q2,_,q4,_⟩:=hT.fn f tf htf
 rw [hs'] at q2;injection q2 with q2;subst q2
 rw [hI] at q1;injection q1 with q1;subst q1
 simp only [runHd,htf,Option.bind_some,Option.bind_eq_some_iff] at hr
 obtain ⟨t,h1,h2⟩:=hr
 subst q4
 simp only [symFn,List.getElem?_map] at h1
 rw [show (hs f)[i]?=some hh from hhi] at h1
 simp only [Option.map_some,Option.some.injEq] at h1
 subst h1
 simp only [headTree,hloc] at h2
 have hl1:locate I.body (0::hh.p)=some (c,.loop hh.p c::K):=by simp [locate,hloc]
 rw [hn] at h2
 obtain ⟨x1,s1,s',g1,g2,g3⟩:=symGo_ok (cx:=⟨sig,hs f,I.res,s.rs,s.boxes⟩) (hd f I s hI hs' ⟨_,htf⟩) hlen hc fuel _ _ _ ws μ _ [] st hl1 hR (fun i j t h=>by simp [knOf] at h) h2
 cases x1 with
 |normal=>
  obtain ⟨x2,s2,g4,g5⟩:=g2
  exact ⟨x2,s2,s',g1.loop g4,g5,g3⟩
 |exit id=>
  obtain ⟨m,hm⟩:=g1
  exact ⟨.exit id,s1,s',⟨m+1,by simp [evCode,hm]⟩,g2,g3⟩
 |ret=>
  obtain ⟨m,hm⟩:=g1
  exact ⟨.ret,s1,s',⟨m+1,by simp [evCode,hm]⟩,g2,g3⟩
end
theorem entryA_some {α:Type} {k:List W→Option α} {r:α}:∀{ps:List PS} {as:List LA} {ρ:List W},entryA k ps as ρ=some r→shapeA ps as∧∃ws,k (ρ++ws)=some r∧
  ∀{lent:List Nat} {ds:List D} {N:Nm} {post:List W} {t:Nat},All3 (ArgR lent) ps as ds→N.ρ=ρ++ws++post→(∀q j,lent[q]?=some j→q < N.nx∧N.μ q=some j)→∀{e:List (Nat×SD)} {n':Nat} {l:List (Nat×Nat)},entP ps t ρ.length=(e,n',l)→
   n'=ρ.length+ws.length∧(∀u,RD N (getS e u) (getE (bindArgs t ds) u))∧∀i m,(i,m)∈l→∃xs,getW N.ρ i=some (.l xs)∧xs.length=m
 |[],[],ρ,h=>by
  refine ⟨trivial,[],by rw [List.append_nil];exact h,?_⟩
  intro lent ds N post t ha hρ hl e n' l he
  cases ds with
  |nil=>
   simp only [entP,Prod.mk.injEq] at he
   obtain ⟨rfl,rfl,rfl⟩:=he
   exact ⟨by simp,fun u=>trivial,by simp⟩
  |cons _ _=>exact ha.elim
 |.one::ps,.v (.one c)::as,ρ,h=>by
  simp only [entryA] at h
  obtain ⟨h1,ws,h2,h3⟩:=entryA_some h
  refine ⟨h1,.c c::ws,by rw [List.append_assoc] at h2;exact h2,?_⟩
  intro lent ds N post t ha hρ hl e n' l he
  cases ds with
  |nil=>exact ha.elim
  |cons d ds=>
   cases e1:entP ps (t+1) (ρ.length+1) with
   |mk e' p=>
    obtain ⟨n1,l1⟩:=p
    simp only [entP,e1,Prod.mk.injEq] at he
    obtain ⟨rfl,rfl,rfl⟩:=he
    obtain ⟨q1,q2,q3⟩:=h3 (N:=N) (post:=post) (t:=t+1) ha.2 (by rw [hρ];simp) hl (e:=e') (n':=n1) (l:=l1) (by rw [List.length_append];exact e1)
    refine ⟨by rw [q1];simp;omega,fun u=>?_,q3⟩
    simp only [getS,bindArgs,getE]
    by_cases hu:t=u
    ·rw [if_pos hu,if_pos hu]
     exact ⟨c,by rw [hρ,List.append_assoc];exact at_new ρ c _,ha.1⟩
    ·rw [if_neg hu,if_neg hu];exact q2 u
 |.agg m::ps,.v (.agg xs)::as,ρ,h=>by
  simp only [entryA] at h
  split at h
  case isFalse=>cases h
  rename_i hm
  obtain ⟨h1,ws,h2,h3⟩:=entryA_some h
  refine ⟨⟨hm,h1⟩,.l xs::ws,by rw [List.append_assoc] at h2;exact h2,?_⟩
  intro lent ds N post t ha hρ hl e n' l he
  cases ds with
  |nil=>exact ha.elim
  |cons d ds=>
   cases e1:entP ps (t+1) (ρ.length+1) with
   |mk e' p=>
    obtain ⟨n1,l1⟩:=p
    simp only [entP,e1,Prod.mk.injEq] at he
    obtain ⟨rfl,rfl,rfl⟩:=he
    obtain ⟨q1,q2,q3⟩:=h3 (N:=N) (post:=post) (t:=t+1) ha.2 (by rw [hρ];simp) hl (e:=e') (n':=n1) (l:=l1) (by rw [List.length_append];exact e1)
    have hg:getW N.ρ ρ.length=some (.l xs):=by rw [hρ,List.append_assoc];exact getW_len ρ _ _
    refine ⟨by rw [q1];simp;omega,fun u=>?_,fun i q hi=>?_⟩
    ·simp only [getS,bindArgs,getE]
     by_cases hu:t=u
     ·rw [if_pos hu,if_pos hu]
      obtain ⟨⟨_,ds',rfl,a2⟩,_⟩:=ha
      exact ⟨ds',rfl,nths_CD hg (List.drop_zero ..) hm a2⟩
     ·rw [if_neg hu,if_neg hu];exact q2 u
    ·simp only [List.mem_cons,Prod.mk.injEq] at hi
     rcases hi with ⟨rfl,rfl⟩|hi
     ·exact ⟨xs,hg,hm⟩
     ·exact q3 i q hi
 |.ref b o::ps,.ref b' o'::as,ρ,h=>by
  simp only [entryA] at h
  split at h
  case isFalse=>cases h
  rename_i hm
  obtain ⟨h1,ws,h2,h3⟩:=entryA_some h
  refine ⟨⟨hm.1.symm,hm.2.symm,h1⟩,ws,h2,?_⟩
  intro lent ds N post t ha hρ hl e n' l he
  cases ds with
  |nil=>exact ha.elim
  |cons d ds=>
   cases e1:entP ps (t+1) ρ.length with
   |mk e' p=>
    obtain ⟨n1,l1⟩:=p
    simp only [entP,e1,Prod.mk.injEq] at he
    obtain ⟨rfl,rfl,rfl⟩:=he
    obtain ⟨q1,q2,q3⟩:=h3 (N:=N) (post:=post) (t:=t+1) ha.2 hρ hl e1
    refine ⟨q1,fun u=>?_,q3⟩
    simp only [getS,bindArgs,getE]
    by_cases hu:t=u
    ·rw [if_pos hu,if_pos hu]
     obtain ⟨_,_,j,a1,a2⟩:=ha.1
     obtain ⟨l1',l2'⟩:=hl b j a1
     exact ⟨l1',j,l2',a2⟩
    ·rw [if_neg hu,if_neg hu];exact q2 u
 |.clo g caps::ps,.ref b' o'::as,ρ,h=>by
  simp only [entryA] at h
  split at h
  case isFalse=>cases h
  rename_i hm
  obtain ⟨h1,ws,h2,h3⟩:=entryA_some h
  refine ⟨⟨hm.1,hm.2,h1⟩,ws,h2,?_⟩
  intro lent ds N post t ha hρ hl e n' l he
  cases ds with
  |nil=>exact ha.elim
  |cons d ds=>
   cases e1:entP ps (t+1) ρ.length with
   |mk e' p=>
    obtain ⟨n1,l1⟩:=p
    simp only [entP,e1,Prod.mk.injEq] at he
    obtain ⟨rfl,rfl,rfl⟩:=he
    obtain ⟨q1,q2,q3⟩:=h3 (N:=N) (post:=post) (t:=t+1) ha.2 hρ hl e1
    refine ⟨q1,fun u=>?_,q3⟩
    simp only [getS,bindArgs,getE]
    by_cases hu:t=u
    ·rw [if_pos hu,if_pos hu]
     obtain ⟨_,_,cs,rfl,a2⟩:=ha.1
     exact ⟨cs,rfl,a2.mono fun p q ⟨c1,c2⟩=>⟨(hl _ _ c1).1,(hl _ _ c1).2,c2⟩⟩
    ·rw [if_neg hu,if_neg hu];exact q2 u
 |.clo _ _::_,[],_,h=>by simp [entryA] at h
 |.clo _ _::_,.v _::_,_,h=>by simp [entryA] at h
 |[],_::_,_,h=>by simp [entryA] at h
 |.one::_,[],_,h=>by simp [entryA] at h
 |.agg _::_,[],_,h=>by simp [entryA] at h
 |.ref _ _::_,[],_,h=>by simp [entryA] at h
 |.one::_,.v (.agg _)::_,_,h=>by simp [entryA] at h
 |.one::_,.ref _ _::_,_,h=>by simp [entryA] at h
 |.agg _::_,.v (.one _)::_,_,h=>by simp [entryA] at h
 |.agg _::_,.ref _ _::_,_,h=>by simp [entryA] at h
 |.ref _ _::_,.v _::_,_,h=>by simp [entryA] at h
theorem entryB_some {α:Type} {k:List W→Option α} {r:α}:∀{ms:List Nat} {bs:List (List C)} {ρ:List W},entryB k ms bs ρ=some r→All2 (fun m (xs:List C)=>xs.length=m) ms bs∧k (ρ++bs.map .l)=some r
 |[],[],ρ,h=>⟨trivial,by rw [List.map_nil,List.append_nil];exact h⟩
 |m::ms,xs::bs,ρ,h=>by
  simp only [entryB] at h
  split at h
  case isFalse=>cases h
  rename_i hm
  obtain ⟨h1,h2⟩:=entryB_some h
  exact ⟨⟨hm,h1⟩,by rw [List.append_assoc] at h2;exact h2⟩
 |[],_::_,_,h=>by simp [entryB] at h
 |_::_,[],_,h=>by simp [entryB] at h
theorem entB_get:∀{ms:List Nat} {b n:Nat} {hp:List (Nat×SO)} {n':Nat} {l:List (Nat×Nat)},entB ms b n=(hp,n',l)→n'=n+ms.length∧(∀i,i < b∨b+ms.length≤i→getO hp i=.dead)∧(∀q m,ms[q]?=some m→getO hp (b+q)=.box ((nths (n+q) 0 m).map .a))∧∀i m,(i,m)∈l→∃q,i=n+q∧ms[q]?=some m
 |[],b,n,hp,n',l,h=>by
  simp only [entB,Prod.mk.injEq] at h
  obtain ⟨rfl,rfl,rfl⟩:=h
  exact ⟨rfl,fun _ _=>rfl,by simp,by simp⟩
 |m::ms,b,n,hp,n',l,h=>by
  cases e:entB ms (b+1) (n+1) with
  |mk hp' p=>
   obtain ⟨n1,l1⟩:=p
   simp only [entB,e,Prod.mk.injEq] at h
   obtain ⟨rfl,rfl,rfl⟩:=h
   obtain ⟨q1,q2,q3,q4⟩:=entB_get e
   refine ⟨by rw [q1];simp;omega,fun i hi=>?_,fun q m' hq=>?_,fun i q hi=>?_⟩
   ·simp only [List.length_cons] at hi
    rw [getO_cons,if_neg (by omega)]
    exact q2 i (by omega)
   ·cases q with
    |zero=>
     simp only [List.getElem?_cons_zero,Option.some.injEq] at hq
     subst hq
     rw [getO_cons,if_pos (by omega)];rfl
    |succ q=>
     simp only [List.getElem?_cons_succ] at hq
     rw [getO_cons,if_neg (by omega),show b+(q+1)=b+1+q by omega,q3 q m' hq,show n+1+q=n+(q+1) by omega]
   ·simp only [List.mem_cons,Prod.mk.injEq] at hi
    rcases hi with ⟨rfl,rfl⟩|hi
    ·exact ⟨0,rfl,rfl⟩
    ·obtain ⟨p,h1,h2⟩:=q4 i q hi
     exact ⟨p+1,by omega,by simpa using h2⟩
theorem nodup_get:∀{l:List Nat},l.Nodup→∀{q q' j:Nat},l[q]?=some j→l[q']?=some j→q=q'
 |[],_,q,q',j,h,_=>by simp at h
 |a::l,hn,q,q',j,h,h'=>by
  rw [List.nodup_cons] at hn
  cases q with
  |zero=>
   simp only [List.getElem?_cons_zero,Option.some.injEq] at h
   subst h
   cases q' with
   |zero=>rfl
   |succ q'=>simp only [List.getElem?_cons_succ] at h';exact absurd (List.mem_of_getElem? h') hn.1
  |succ q=>cases q' with
   |zero=>
    simp only [List.getElem?_cons_zero,Option.some.injEq] at h'
    subst h'
    simp only [List.getElem?_cons_succ] at h
    exact absurd (List.mem_of_getElem? h) hn.1
   |succ q'=>simp only [List.getElem?_cons_succ] at h h';rw [nodup_get hn.2 h h']
section
variable {F:Tab} {sig:Nat→Option Sig} {G:GT} {fuel:Nat} {hs:Nat→List HS} (hT:TabOK F sig G fuel hs)
include hT
theorem calls_step {n:Nat} (hc:CallsOK F sig (runT G n)) (hd:∀f I s,F.code (s.cd f)=some I→sig f=some s→(∃tf,G.fn f=some tf)→HeadsOK F I.body ⟨sig,hs f,I.res,s.rs,s.boxes⟩ (runHd G n f)):CallsOK F sig (runT G (n+1)):=by
 intro f as bs r hr
 rw [runT] at hr
 split at hr
 case h_2 hnone=>
  obtain ⟨s,vs,k1,k2,k3,k4,k5,k6,k7⟩:=hT.nat f as bs r hnone hr
  refine ⟨s,k1,k5,by rw [k3,k4];trivial,fun h=>(by rw [k2] at h;cases h),fun _=>⟨vs,k6,1,fun m hm=>?_⟩⟩
  obtain ⟨m',rfl⟩:∃m',m=m'+1:=⟨m - 1,by omega⟩
  rw [evFn,k7]
 rename_i tf htf
 have hb:=hr
 obtain ⟨I,s,q1,q2,q3,q4,hsn,hnn⟩:=hT.fn f tf htf
 have hdf:=hd f I s q1 q2 ⟨tf,htf⟩
 subst q4
 simp only [bodyT,symFn] at hb
 obtain ⟨hsh,ws,h1,h2⟩:=entryA_some hb
 obtain ⟨h3,h4⟩:=entryB_some h1
 rw [List.nil_append] at h4
 refine ⟨s,q2,hsh,h3,fun _=>⟨fun h k lent ds ha hbx hnd hlk=>?_,hnn⟩,fun h=>(by rw [hsn] at h;cases h)⟩
 have hl3:=hbx.len1
 cases e1:entP s.params 0 0 with
 |mk env' p1=>
  obtain ⟨n1,l1⟩:=p1
  cases e2:entB s.boxes 0 n1 with
  |mk hp p2=>
   obtain ⟨n2,l2⟩:=p2
   have eS:entSyN s=(⟨env',hp,s.boxes.length,l1++l2⟩,n2):=by simp only [entSyN,e1,e2]
   obtain ⟨b1,b2,b3,b4⟩:=entB_get e2
   let N:Nm:=nm (ws++bs.map .l) (fun q=>lent[q]?) ⟨env',hp,s.boxes.length,l1++l2⟩
   have hlq:∀(q j:Nat),lent[q]?=some j→q < s.boxes.length:=fun q j hq=>by
    have:=(List.getElem?_eq_some_iff.1 hq).1;omega
   obtain ⟨r1,r2,r3⟩:=h2 (N:=N) (post:=bs.map .l) (t:=0) ha (by simp [N,nm]) (fun q j hq=>⟨hlq q j hq,hq⟩) (e:=env') (n':=n1) (l:=l1) e1
   have hn1:n1=ws.length:=by rw [r1];simp
   subst hn1
   have hwq:∀(q:Nat) (xs:List C),bs[q]?=some xs→getW (ws++bs.map .l) (ws.length+q)=some (.l xs):=fun q xs hq=>by
    have:=getW_mid ws bs q xs hq []
    rw [List.append_nil] at this
    exact this
   have hR:Rl ⟨h,k,lent⟩ (ws++bs.map .l) (fun q=>lent[q]?) ⟨env',hp,s.boxes.length,l1++l2⟩ ⟨bindArgs 0 ds,h,k⟩:=by
    refine ⟨r2,⟨fun q=>?_,fun q q' j _ _ g3 g4=>nodup_get hnd g3 g4,fun q j _ g2=>hlk j (List.mem_of_getElem? g2),fun q hq=>b2 q (.inr (by have hq':s.boxes.length≤q:=hq;omega)),fun q j _ g2=> .inr (List.mem_of_getElem? g2),fun j _ _=>rfl,Nat.le_refl _,fun i m hi=>?_⟩,fun q j hq=>⟨hlq q j hq,hq⟩⟩
    ·show ROb N h q (getO hp q)
     by_cases hq:q < s.boxes.length
     ·have hj:lent[q]?=some (lent[q]'(by omega)):=List.getElem?_eq_getElem (by omega)
      obtain ⟨m,xs,c1,c2,c3,ds',c4,c5⟩:=hbx.get hj
      have:=b3 q m c1
      rw [Nat.zero_add] at this
      rw [this]
      exact ⟨_,ds',hj,c4,nths_CD (N:=N) (hwq q xs c2) (List.drop_zero ..) c3 c5⟩
     ·rw [b2 q (.inr (by omega))];trivial
    ·rw [List.mem_append] at hi
     rcases hi with hi|hi
     ·exact r3 i m hi
     ·obtain ⟨q,rfl,c1⟩:=b4 i m hi
      have hqb:q < s.boxes.length:=(List.getElem?_eq_some_iff.1 c1).1
      have hj:lent[q]?=some (lent[q]'(by omega)):=List.getElem?_eq_getElem (by omega)
      obtain ⟨m',xs,c2,c3,c4,_⟩:=hbx.get hj
      rw [c1] at c2;injection c2 with c2;subst c2
      exact ⟨xs,hwq q xs c3,c4⟩
   rw [eS] at h4
   simp only at h4
   have hn2:n2=(ws++bs.map W.l).length:=by rw [b1,List.length_append,List.length_map];omega
   rw [hn2] at h4
   obtain ⟨x1,s1,s',⟨m,g1⟩,g2,g3⟩:=symGo_ok (b:=⟨h,k,lent⟩) (cx:=⟨sig,hs f,I.res,s.rs,s.boxes⟩) (B:=I.body) hdf hl3.2.symm hc fuel [] I.body [] _ _ _ [] _ rfl hR (fun i j t hi=>by simp [knOf] at hi) h4
   obtain ⟨g4,rfl⟩:=g2
   obtain ⟨⟨rs,k1,k2,k3,k4⟩,k5,k6,k7⟩:=g3
   refine ⟨m+1,rs,s'.heap,s'.nx,?_,k5,k6,k7,k2,k3,k4⟩
   have hlen:ds.length=I.nparams:=by rw [q3,←ha.len1.2]
   simp only [evBody,q1,Option.bind_eq_bind,Option.bind_some]
   rw [if_pos hlen,g1]
   simp only [Option.bind_some]
   rcases g4 with rfl|rfl<;>simp [k1]
theorem run_sim:∀n,CallsOK F sig (runT G n)∧∀f I s,F.code (s.cd f)=some I→sig f=some s→(∃tf,G.fn f=some tf)→HeadsOK F I.body ⟨sig,hs f,I.res,s.rs,s.boxes⟩ (runHd G n f)
 |0=>⟨fun f as bs r h=>by simp [runT] at h,fun f I s _ _ _ i ws r h=>by simp [runHd] at h⟩
 |n+1=>by
  obtain ⟨h1,h2⟩:=run_sim n
  exact ⟨calls_step hT h1 h2,heads_step hT h1 h2⟩
theorem fnT_sim {f:Nat} {vs rs:List V} {bs':List (List C)} (hcd:∀s,sig f=some s→s.code=none) (h:fnT G f (vs.map .v) []=some (rs,bs')):∃n,evFn F n f vs=some rs:=by
 obtain ⟨n,hn⟩:=fnT_get h
 obtain ⟨s,q1,q2,q3,q4⟩:=(run_sim hT n).1 _ _ _ _ hn
 have hb:s.boxes=[]:=by cases hsb:s.boxes with|nil=>rfl|cons _ _=>rw [hsb] at q3;exact q3.elim
 cases hsn:s.nat with
 |false=>
  obtain ⟨k1,k2⟩:=q4.1 hsn
  have hcd':s.cd f=f:=by simp [Sig.cd,hcd s q1]
  rw [hcd'] at k1 k2
  obtain ⟨n0,h0⟩:=k1.fn q2 hb (k2 _)
  exact ⟨n0,h0 n0 (Nat.le_refl _)⟩
 |true=>
  obtain ⟨vs',k1,n0,h0⟩:=q4.2 hsn
  have inj:∀a b:List V,a.map LA.v=b.map LA.v→a=b:=by
   intro a
   induction a with
   |nil=>intro b hb;cases b with|nil=>rfl|cons _ _=>simp at hb
   |cons x a ih=>intro b hb;cases b with
    |nil=>simp at hb
    |cons y b=>simp only [List.map_cons,List.cons.injEq,LA.v.injEq] at hb;rw [hb.1,ih b hb.2]
  rw [inj _ _ k1]
  exact ⟨n0,h0 n0 (Nat.le_refl _)⟩
end
end Go.Ey

namespace Go.Ey
open Go.RowKit
section
variable {w:World} {Sf:Nat→Nat→Prop}
theorem RepCs_of:∀{cs:List C} {us:List Value} {b o:Nat},All2 (RepC w Sf) cs us→(∀i u,us[i]?=some u→w.cell? ⟨b,o+i,none⟩=some u∧Sf b (o+i))→RepCs w Sf cs b o
 |[],[],_,_,_,_=>by simp [RepCs]
 |c::cs,u::us,b,o,h,hc=>by
  simp only [RepCs]
  obtain ⟨h1,h2⟩:=hc 0 u (by simp)
  refine ⟨⟨u,by simpa using h1,by simpa using h2,h.1⟩,RepCs_of h.2 fun i v hv=>?_⟩
  have:=hc (i+1) v (by simpa using hv)
  rw [show o+1+i=o+(i+1) by omega]
  exact this
 |[],_::_,_,_,h,_=>h.elim
 |_::_,[],_,_,h,_=>h.elim
theorem RepCs_get:∀{cs:List C} {b o:Nat},RepCs w Sf cs b o→∃us:List Value,All2 (RepC w Sf) cs us∧(∀i u,us[i]?=some u→w.cell? ⟨b,o+i,none⟩=some u∧Sf b (o+i))
 |[],_,_,_=>⟨[],trivial,by simp⟩
 |c::cs,b,o,h=>by
  simp only [RepCs] at h
  obtain ⟨⟨u,h1,h2,h3⟩,h4⟩:=h
  obtain ⟨us,h5,h6⟩:=RepCs_get h4
  refine ⟨u::us,⟨h3,h5⟩,fun i v hv=>?_⟩
  cases i with
  |zero=>simp at hv;subst hv;exact ⟨by simpa using h1,by simpa using h2⟩
  |succ i=>
   have:=h6 i v (by simpa using hv)
   rw [show o+(i+1)=o+1+i by omega]
   exact this
theorem RepCs_drop:∀(n:Nat) {cs:List C} {b o:Nat},RepCs w Sf cs b o→RepCs w Sf (cs.drop n) b (o+n)
 |0,_,_,_,h=>by simpa using h
 |n+1,[],_,_,_=>by simp [RepCs]
 |n+1,c::cs,b,o,h=>by
  simp only [RepCs] at h
  have:=RepCs_drop n h.2
  simp only [List.drop_succ_cons]
  rw [show o+(n+1)=o+1+n by omega]
  exact this
theorem RepCs_take:∀(n:Nat) {cs:List C} {b o:Nat},RepCs w Sf cs b o→RepCs w Sf (cs.take n) b o
 |0,_,_,_,_=>by simp [RepCs]
 |n+1,[],_,_,_=>by simp [RepCs]
 |n+1,c::cs,b,o,h=>by
  simp only [RepCs,List.take_succ_cons] at h ⊢
  exact ⟨h.1,RepCs_take n h.2⟩
theorem RepC.oneCell {c:C} {u:Value} (h:RepC w Sf c u):u.oneCell'=true:=by
 cases c with
 |lit v=>
  simp only [RepC] at h
  obtain ⟨rfl,h⟩:=h
  unfold scalar at h
  split at h<;>first|rfl|cases h
 |slice cs n=>
  simp only [RepC] at h
  rcases h with ⟨rfl,_⟩|⟨a,cap,rfl,_⟩
  ·rfl
  ·rfl
end
theorem All2.mem_right {α β:Type} {R:α→β→Prop} {p:β→Prop} (h:∀a b,R a b→p b):∀{as:List α} {bs:List β},All2 R as bs→∀b∈bs,p b
 |[],[],_,_,hb=>by simp at hb
 |_::_,_::_,h1,b,hb=>by
  simp only [List.mem_cons] at hb
  rcases hb with rfl|hb
  ·exact h _ _ h1.1
  ·exact All2.mem_right h h1.2 b hb
 |[],_::_,h1,_,_=>h1.elim
 |_::_,[],h1,_,_=>h1.elim
section
variable {B:Nat} {S:Nat→Nat→Prop}
def M.grow (m:M) (slot:Nat):M:=⟨m.w,m.h,m.β,fun i=>m.U i∨i=slot⟩
theorem grow_evolves (m:M) (slot:Nat):Evolves B S m (m.grow slot):=
 ⟨fun _ _ _ h1 h2=>⟨h1,h2⟩,fun _ h=> .inl h,fun _ _ h=>h,fun _ _=>rfl,fun _ cs' _ fz' _ _ h=>⟨cs',fz',h,rfl⟩,fun _ _ _ h=>⟨rfl,h⟩⟩
theorem grow_hok {m:M} (hk:HOK B S m) (slot:Nat):HOK B S (m.grow slot):=by
 refine ⟨fun id=>?_,hk.inj,fun id h=>hk.dom id fun hu=>h (.inl hu),hk.base,hk.fresh,hk.arrS⟩
 exact (grow_evolves m slot).repOb rfl (hk.obj id)
theorem HOK.arr {m:M} (hk:HOK B S m) {id:Nat} {cs:List C} {esz fz ety:Nat} (ho:getH m.h id=.arr cs esz fz ety):
  B≤m.β id∧∃us:List Value,m.w.heap[m.β id]?=some (.cells us.toArray ety (0,0))∧cs.length≤us.length∧All2 (RepC m.w (Safe B S m)) cs (us.take cs.length):=by
 have h:=hk.obj id
 unfold RepO at h
 rw [ho] at h
 exact h
theorem HOK.box {m:M} (hk:HOK B S m) {id:Nat} {ds:List D} (ho:getH m.h id=.box ds):
  B≤m.β id∧∃(us:List Value) (e:TypeId),m.w.heap[m.β id]?=some (.cells us.toArray e (0,0))∧All2 (RepDc B S m) ds us:=by
 have h:=hk.obj id
 unfold RepO at h
 rw [ho] at h
 exact h
theorem cell_row {w:World} {b o:Nat} {us:List Value} {e:TypeId} {fr:Nat×Nat} (h:w.heap[b]?=some (.cells us.toArray e fr)):w.cell? ⟨b,o,none⟩=us[o]?:=by
 simp [World.cell?,h]
def M.heap (m:M) (h:Heap):M:=⟨m.w,h,m.β,m.U⟩
theorem fz_evolves {m:M} (hk:HOK B S m) {id:Nat} {cs:List C} {esz fz ety fz':Nat} (ho:getH m.h id=.arr cs esz fz ety) (hf:fz≤fz'):
  Evolves B S m (m.heap ((id,.arr cs esz fz' ety)::m.h)):=
 upd_evolves hk ho (o':=.arr cs esz fz' ety) (w':=m.w) ⟨rfl,rfl,hf⟩ (fun _ _=>rfl) (fun _ _ _ h=>h) rfl
theorem fz_hok {m:M} (hk:HOK B S m) {id:Nat} {cs:List C} {esz fz ety fz':Nat} (ho:getH m.h id=.arr cs esz fz ety) (hf:fz≤fz'):
  HOK B S (m.heap ((id,.arr cs esz fz' ety)::m.h)):=by
 have hev:=fz_evolves hk ho hf
 refine upd_hok hk (w':=m.w) (by rw [ho];simp) hev (fun _ _=>rfl) (Nat.le_refl _) ?_
 obtain ⟨h1,us,h2,h3,h4⟩:=hk.arr ho
 exact ⟨h1,us,h2,h3,h4.mono fun x u h5=>RepC.mono hev.cell x u h5⟩
theorem frz_ok {m:M} (hk:HOK B S m) {d:D} {u:Value} (hr:RepDc B S m d u) {c:C} {us:List (Nat×Obj)} (hf:frz m.h d=some (c,us)):
  HOK B S (m.heap (updH m.h us))∧Evolves B S m (m.heap (updH m.h us))∧RepC m.w (Safe B S (m.heap (updH m.h us))) c u:=by
 cases d with
 |c x=>
  simp only [frz,Option.some.injEq,Prod.mk.injEq] at hf
  obtain ⟨rfl,rfl⟩:=hf
  exact ⟨hk,Evolves.refl m,hr⟩
 |arr id off len=>
  simp only [frz] at hf
  obtain ⟨hu,ad,cap,hv,hcap,hr⟩:=hr
  cases ho:getH m.h id with
  |dead=>rw [ho] at hf;cases hf
  |box ds=>rw [ho] at hf;cases hf
  |map ds=>rw [ho] at hf;cases hf
  |arr cs esz fz ety=>
   rw [ho] at hf hr
   simp only at hf hr
   split at hf
   case isFalse=>cases hf
   rename_i hlen
   simp only [Option.some.injEq,Prod.mk.injEq] at hf
   obtain ⟨rfl,rfl⟩:=hf
   obtain ⟨hB,vs,hv1,hv2,hv3⟩:=hk.arr ho
   have key:∃fz',off+len * esz≤fz'∧HOK B S (m.heap (updH m.h (if off+len * esz≤fz then [] else [(id,.arr cs esz (off+len * esz) ety)])))∧
     Evolves B S m (m.heap (updH m.h (if off+len * esz≤fz then [] else [(id,.arr cs esz (off+len * esz) ety)])))∧
     getH (updH m.h (if off+len * esz≤fz then [] else [(id,.arr cs esz (off+len * esz) ety)])) id=.arr cs esz fz' ety:=by
    by_cases hz:off+len * esz≤fz
    ·rw [if_pos hz];exact ⟨fz,hz,hk,Evolves.refl m,ho⟩
    ·rw [if_neg hz]
     exact ⟨off+len * esz,Nat.le_refl _,fz_hok hk ho (by omega),fz_evolves hk ho (by omega),by simp [updH,getH_cons]⟩
   obtain ⟨fz',hz1,hk',hev,ho'⟩:=key
   refine ⟨hk',hev,?_⟩
   generalize (if off+len * esz≤fz then [] else [(id,Obj.arr cs esz (off+len * esz) ety)])=us at *
   simp only [RepC]
   have hsub:∀i c,((cs.drop off).take (len * esz))[i]?=some c→i < len * esz:=by
    intro i c h
    have:=(List.getElem?_eq_some_iff.1 h).1
    simp at this;omega
   have hall:All2 (RepC m.w (Safe B S (m.heap (updH m.h us)))) ((cs.drop off).take (len * esz)) (((vs.take cs.length).drop off).take (len * esz)):=
    ((hv3.mono fun x u h5=>RepC.mono hev.cell x u h5).drop off).take _
   have hcs:RepCs m.w (Safe B S (m.heap (updH m.h us))) ((cs.drop off).take (len * esz)) (m.β id) off:=by
    refine RepCs_of hall fun i u hi=>?_
    have hi2:i < len * esz:=by
     have:=(List.getElem?_eq_some_iff.1 hi).1
     simp at this;omega
    have hi3:vs[off+i]?=some u:=by
     rw [List.getElem?_take_of_lt hi2,List.getElem?_drop,List.getElem?_take_of_lt (by omega)] at hi
     exact hi
    refine ⟨by rw [cell_row hv1];exact hi3,hk.arrS id cs esz fz ety ho _,fun j=>?_⟩
    ·show match getH (updH m.h us) j with|.dead=>True|.box _=>m.β j≠m.β id|.map _=>m.β j≠m.β id|.arr _ _ fz _=>m.β j=m.β id→off+i < fz
     by_cases hj:j=id
     ·subst hj;rw [ho'];exact fun _=>by omega
     ·cases hoj:getH (updH m.h us) j with
      |dead=>trivial
      |box ds=>exact fun e=>hj (hk'.inj j id (by show getH (updH m.h us) j≠_;rw [hoj];simp) (by show getH (updH m.h us) id≠_;rw [ho'];simp) e)
      |map ds=>exact fun e=>hj (hk'.inj j id (by show getH (updH m.h us) j≠_;rw [hoj];simp) (by show getH (updH m.h us) id≠_;rw [ho'];simp) e)
      |arr cs2 esz2 fz2 ety2=>exact fun e=>absurd (hk'.inj j id (by show getH (updH m.h us) j≠_;rw [hoj];simp) (by show getH (updH m.h us) id≠_;rw [ho'];simp) e) hj
   rcases hr with ⟨rfl,_⟩|⟨rfl,rfl⟩
   ·exact .inr ⟨⟨m.β id,off,none⟩,cap,hv,hcap,fun _=>rfl,hcs⟩
   ·refine .inr ⟨ad,0,hv,Nat.le_refl _,fun h=>?_,?_⟩
    ·simp at h
    ·simp [RepCs]
 |full cs n=>
  simp only [frz,Option.some.injEq,Prod.mk.injEq] at hf
  obtain ⟨rfl,rfl⟩:=hf
  refine ⟨hk,Evolves.refl m,?_⟩
  simp only [RepC]
  rcases hr with hr|⟨a,h1,h2,h3⟩
  ·exact .inl hr
  ·exact .inr ⟨a,n,h1,Nat.le_refl _,h2,h3⟩
 |unk=>simp [frz] at hf
 |loc id off=>simp [frz] at hf
 |clo f caps=>simp [frz] at hf
 |mp id=>simp [frz] at hf
 |ptr cs=>simp [frz] at hf
 |agg ds=>simp [frz] at hf
 |tup ds=>simp [frz] at hf
theorem updH_append:∀(us vs:List (Nat×Obj)) (h:Heap),updH h (us++vs)=updH (updH h us) vs
 |[],_,_=>rfl
 |u::us,vs,h=>by simp only [List.cons_append,updH];exact updH_append us vs (u::h)
theorem frzL_ok:∀{ds:List D} {us:List Value} {m:M},HOK B S m→All2 (RepDc B S m) ds us→∀{cs:List C} {xs:List (Nat×Obj)},frzL m.h ds=some (cs,xs)→
  HOK B S (m.heap (updH m.h xs))∧Evolves B S m (m.heap (updH m.h xs))∧All2 (RepC m.w (Safe B S (m.heap (updH m.h xs)))) cs us
 |[],[],m,hk,_,cs,xs,hf=>by
  simp only [frzL,Option.some.injEq,Prod.mk.injEq] at hf
  obtain ⟨rfl,rfl⟩:=hf
  exact ⟨hk,Evolves.refl m,trivial⟩
 |d::ds,u::us,m,hk,hr,cs,xs,hf=>by
  simp only [frzL,Option.bind_eq_bind,Option.bind_eq_some_iff,Prod.exists,Option.some.injEq,Prod.mk.injEq] at hf
  obtain ⟨c,x,h1,cs',xs',h2,rfl,rfl⟩:=hf
  obtain ⟨k1,k2,k3⟩:=frz_ok hk hr.1 h1
  have hr2:All2 (RepDc B S (m.heap (updH m.h x))) ds us:=hr.2.mono fun _ _ h=>k2.repDc h
  obtain ⟨k4,k5,k6⟩:=frzL_ok (m:=m.heap (updH m.h x)) k1 hr2 h2
  rw [updH_append]
  exact ⟨k4,k2.trans k5,RepC.mono k5.cell c u k3,k6⟩
 |[],_::_,_,_,hr,_,_,_=>hr.elim
 |_::_,[],_,_,hr,_,_,_=>hr.elim
theorem frzV_ok {m:M} (hk:HOK B S m) {d:D} {u:Value} (hr:RepA B S m d u) {v:V} {xs:List (Nat×Obj)} (hf:frzV m.h d=some (v,xs)):
  HOK B S (m.heap (updH m.h xs))∧Evolves B S m (m.heap (updH m.h xs))∧RepV m.w (Safe B S (m.heap (updH m.h xs))) v u:=by
 have one:∀d,RepDc B S m d u→(do let (c,y) ←frz m.h d;some (V.one c,y))=some (v,xs)→
   HOK B S (m.heap (updH m.h xs))∧Evolves B S m (m.heap (updH m.h xs))∧RepV m.w (Safe B S (m.heap (updH m.h xs))) v u:=by
  intro d hr hf
  simp only [Option.bind_eq_bind,Option.bind_eq_some_iff,Prod.exists,Option.some.injEq,Prod.mk.injEq] at hf
  obtain ⟨c,x,h1,rfl,rfl⟩:=hf
  exact frz_ok hk hr h1
 cases d with
 |agg ds=>
  simp only [frzV,Option.bind_eq_bind,Option.bind_eq_some_iff,Prod.exists,Option.some.injEq,Prod.mk.injEq] at hf
  obtain ⟨cs,x,h1,rfl,rfl⟩:=hf
  obtain ⟨us,rfl,h2⟩:=hr
  obtain ⟨k1,k2,k3⟩:=frzL_ok hk h2 h1
  exact ⟨k1,k2,us,rfl,k3⟩
 |unk=>exact one .unk hr hf
 |c x=>exact one (.c x) hr hf
 |loc id off=>exact one (.loc id off) hr hf
 |arr id off len=>exact one (.arr id off len) hr hf
 |ptr cs=>exact one (.ptr cs) hr hf
 |full cs n=>exact one (.full cs n) hr hf
 |clo f caps=>exact one (.clo f caps) hr hf
 |mp id=>exact one (.mp id) hr hf
 |tup ds=>exact one (.tup ds) hr hf
theorem frzVs_ok:∀{ds:List D} {us:List Value} {m:M},HOK B S m→All2 (RepA B S m) ds us→∀{vs:List V} {xs:List (Nat×Obj)},frzVs m.h ds=some (vs,xs)→
  HOK B S (m.heap (updH m.h xs))∧Evolves B S m (m.heap (updH m.h xs))∧All2 (RepV m.w (Safe B S (m.heap (updH m.h xs)))) vs us
 |[],[],m,hk,_,cs,xs,hf=>by
  simp only [frzVs,Option.some.injEq,Prod.mk.injEq] at hf
  obtain ⟨rfl,rfl⟩:=hf
  exact ⟨hk,Evolves.refl m,trivial⟩
 |d::ds,u::us,m,hk,hr,cs,xs,hf=>by
  simp only [frzVs,Option.bind_eq_bind,Option.bind_eq_some_iff,Prod.exists,Option.some.injEq,Prod.mk.injEq] at hf
  obtain ⟨c,x,h1,cs',xs',h2,rfl,rfl⟩:=hf
  obtain ⟨k1,k2,k3⟩:=frzV_ok hk hr.1 h1
  have hr2:All2 (RepA B S (m.heap (updH m.h x))) ds us:=hr.2.mono fun _ _ h=>k2.repA h
  obtain ⟨k4,k5,k6⟩:=frzVs_ok (m:=m.heap (updH m.h x)) k1 hr2 h2
  rw [updH_append]
  exact ⟨k4,k2.trans k5,RepV.mono k5.cell k3,k6⟩
 |[],_::_,_,_,hr,_,_,_=>hr.elim
 |_::_,[],_,_,hr,_,_,_=>hr.elim
end
end Go.Ey

namespace Go.Ey
open Go.RowKit
structure Src (P:Program) (w:World) (size n:Nat) (x:Value) (news:List Value):Prop where
 len:Builtin.lenOf x=pure n
 cells:news.length=n * size
 first:∀w':World,w'.heap=w.heap→∀k,k≤n→(Builtin.firstCells size k x).run P w'=.ok (news.take (k * size)).toArray w'
section
variable {P:Program} {w:World}
theorem Src.all {size n:Nat} {x:Value} {news:List Value} (h:Src P w size n x news) {w':World} (hw:w'.heap=w.heap):(Builtin.firstCells size n x).run P w'=.ok news.toArray w':=by
 have h1:=h.first w' hw n (Nat.le_refl _)
 rw [List.take_of_length_le (by rw [h.cells];exact Nat.le_refl _)] at h1
 exact h1
theorem add_off (b o j:Nat):(⟨b,o,none⟩:Addr).add j=⟨b,o+j,none⟩:=by unfold Addr.add;split<;>simp_all
theorem src_cells {size n cap:Nat} {a:Addr} {news:List Value} (hs:news≠[]→a.spot=none) (hl:news.length=n * size)
  (hc:∀j v,news[j]?=some v→w.cell? ⟨a.block,a.off+j,none⟩=some v):Src P w size n (.slice (some a) n cap) news:=by
 refine ⟨rfl,hl,fun w' hw k hk=>?_⟩
 have hk':k * size≤news.length:=by rw [hl];exact Nat.mul_le_mul_right _ hk
 refine run_firstCells_some (P:=P) w' size k a n cap _ (by simp;omega) fun j v hv=>?_
 have hj:j < k * size:=by have:=(List.getElem?_eq_some_iff.1 hv).1;simp at this;omega
 rw [List.getElem?_take_of_lt hj] at hv
 have hne:news≠[]:=by intro e;rw [e] at hv;simp at hv
 obtain ⟨b,o,sp⟩:=a
 have:sp=none:=hs hne
 subst this
 rw [add_off]
 have:=hc j v hv
 simp only [World.cell?,hw] at this ⊢
 exact this
theorem src_nil {size:Nat}:Src P w size 0 (.slice none 0 0) []:=by
 refine ⟨rfl,by simp,fun w' _ k hk=>?_⟩
 have:k=0:=by omega
 subst this
 simp [Builtin.firstCells]
theorem src_string (s:ByteArray):Src P w 1 s.size (.string s) (s.data.toList.map fun b=> .int .u8 b.toNat):=by
 refine ⟨rfl,by rw [List.length_map,Nat.mul_one];rfl,fun w' _ k hk=>?_⟩
 simp only [Builtin.firstCells]
 have h:(s.extract 0 k).data=(s.data.extract 0 k):=by simp [ByteArray.extract,ByteArray.copySlice]
 rw [h]
 show Result.ok _ _=_
 congr 1
 apply Array.ext'
 simp [Array.toList_extract,List.extract]
section append
variable {t t' ty e:TypeId} {i:TypeInfo} {z:Value} {d':TypeDesc}
theorem run_app_nil0 (ht:P.underlying t=some (.slice e)) (ht':P.underlying t'=some d') (hd:∀k,d'≠.int k) (hi:P.info? e=some i) {x:Value} {news:List Value} (h:Src P w i.size 0 x news):
  (Builtin.append_ #[t,t'] ty #[.slice none 0 0,x]).run P w=.ok (.slice none 0 0) w:=by
 have hf:=h.all (w':=w) rfl
 simp [Builtin.append_,run_underlying ht,run_underlying ht',sizeOf,typeInfo,hi,h.len,hf]
theorem run_app_zero (ht:P.underlying t=some (.slice e)) (ht':P.underlying t'=some d') (hd:∀k,d'≠.int k) (hi:P.info? e=some i) {x:Value} {news:List Value} (h:Src P w i.size 0 x news) (ad:Addr) (sLen sCap:Nat) (hc:sLen≤sCap):
  (Builtin.append_ #[t,t'] ty #[.slice (some ad) sLen sCap,x]).run P w=.ok (.slice (some ad) sLen sCap) w:=by
 have hf:=h.all (w':=w) rfl
 have hn:news=[]:=List.eq_nil_of_length_eq_zero (by simpa using h.cells)
 subst hn
 simp [Builtin.append_,run_underlying ht,run_underlying ht',sizeOf,typeInfo,hi,h.len,hf,storeCells,hc]
theorem run_app_nil (ht:P.underlying t=some (.slice e)) (ht':P.underlying t'=some d') (hd:∀k,d'≠.int k) (hi:P.info? e=some i) (hz:i.zero=some z) {x:Value} {n:Nat} {news:List Value} (h:Src P w i.size n x news)
  (h0:0 < n) (h63:(n:Int)≤9223372036854775807) (h48:n * i.bytes≤281474976710656):
  (Builtin.append_ #[t,t'] ty #[.slice none 0 0,x]).run P w=
   .ok (.slice (some ⟨w.heap.size,0,none⟩) n (grownCap w n 0 e)) (w.drew.alloc (.cells (news.toArray++Builtin.zeroCells z.cells (grownCap w n 0 e - n)) e)):=by
 have hn:n≠0:=by omega
 have h63':¬(9223372036854775807 < (n:Int)):=by omega
 have h48':¬(281474976710656 < Builtin.nextslicecap n 0 * i.bytes):=by rw [nextslicecap_zero h0];omega
 have hf:=h.all (w':=w.drew) rfl
 simp [Builtin.append_,run_underlying ht,run_underlying ht',sizeOf,typeInfo,zeroValue,hi,hz,h.len,hn,h63',h48',Question.forced,run_firstCells_none,hf,newRow,grownCap]
theorem run_app_grow (ht:P.underlying t=some (.slice e)) (ht':P.underlying t'=some d') (hd:∀k,d'≠.int k) (hi:P.info? e=some i) (hz:i.zero=some z) {x:Value} {n:Nat} {news:List Value} (h:Src P w i.size n x news)
  (b:Addr) (sLen sCap:Nat) (olds:List Value) (hlo:olds.length=sLen * i.size) (holds:∀j v,olds[j]?=some v→w.cell? (b.add j)=some v)
  (hg:sCap < sLen+n) (h63:((sLen+n:Nat):Int)≤9223372036854775807) (hfit:Builtin.nextslicecap (sLen+n) sCap * i.bytes≤281474976710656):
  (Builtin.append_ #[t,t'] ty #[.slice (some b) sLen sCap,x]).run P w=
   .ok (.slice (some ⟨w.heap.size,0,none⟩) (sLen+n) (grownCap w (sLen+n) sCap e))
    (w.drew.alloc (.cells (olds.toArray++news.toArray++Builtin.zeroCells z.cells (grownCap w (sLen+n) sCap e - (sLen+n))) e)):=by
 have hn:¬(sLen+n≤sCap):=by omega
 have h63':¬(9223372036854775807 < ((sLen:Int)+(n:Int))):=by omega
 have h48':¬(281474976710656 < Builtin.nextslicecap (sLen+n) sCap * i.bytes):=by omega
 have hf:=h.all (w':=w.drew) rfl
 have hfo:=run_firstCells_some (P:=P) w.drew i.size sLen b sLen sCap olds hlo (by simpa using holds)
 simp [Builtin.append_,run_underlying ht,run_underlying ht',sizeOf,typeInfo,zeroValue,hi,hz,h.len,hn,h63',h48',Question.forced,hf,hfo,newRow,grownCap]
 congr 2
 apply Array.ext'
 simp [List.append_assoc]
theorem run_app_room (ht:P.underlying t=some (.slice e)) (ht':P.underlying t'=some d') (hd:∀k,d'≠.int k) (hi:P.info? e=some i) {x:Value} {n:Nat} {news:List Value} (h:Src P w i.size n x news)
  (g sLen sCap:Nat) (cur:Array Value) (hg:w.heap[g]?=some (.cells cur e (0,0))) (h1:∀u∈news,u.oneCell'=true)
  (hroom:sLen+n≤sCap) (hfit:sLen * i.size+news.length≤cur.size):
  (Builtin.append_ #[t,t'] ty #[.slice (some ⟨g,0,none⟩) sLen sCap,x]).run P w=
   .ok (.slice (some ⟨g,0,none⟩) (sLen+n) sCap) (w.setRow g (cur.toList.take (sLen * i.size)++news++cur.toList.drop (sLen * i.size+news.length)).toArray):=by
 have hf:=h.all (w':=w) rfl
 have hst:=run_storeCells_at P g (sLen * i.size) e news 0 cur w hg (by simpa using hfit) h1
 simp only [Nat.add_zero] at hst
 simp [Builtin.append_,run_underlying ht,run_underlying ht',sizeOf,typeInfo,hi,h.len,hroom,hf,Addr.add_lit,hst]
end append
theorem run_cpy {dT sT ty e:TypeId} {i:TypeInfo} (ht:P.underlying dT=some (.slice e)) (hi:P.info? e=some i) {x:Value} {n:Nat} {news:List Value} (h:Src P w i.size n x news)
  (g o dLen dCap:Nat) (cur:Array Value) (t:TypeId) (hg:w.heap[g]?=some (.cells cur t (0,0))) (h1:∀u∈news,u.oneCell'=true) (hfit:o+dLen * i.size≤cur.size):
  (Builtin.copy_ #[dT,sT] ty #[.slice (some ⟨g,o,none⟩) dLen dCap,x]).run P w=
   .ok (goInt (Nat.min n dLen:Nat)) (w.setRow g (cur.toList.take o++news.take (Nat.min n dLen * i.size)++cur.toList.drop (o+(news.take (Nat.min n dLen * i.size)).length)).toArray):=by
 have hmin:Nat.min n dLen≤n:=Nat.min_le_left _ _
 have hmin2:Nat.min n dLen≤dLen:=Nat.min_le_right _ _
 have hf:=h.first w rfl (Nat.min n dLen) hmin
 have hlen:(news.take (Nat.min n dLen * i.size)).length=Nat.min n dLen * i.size:=by
  rw [List.length_take,h.cells]
  have:=Nat.mul_le_mul_right i.size hmin
  omega
 have hle:=Nat.mul_le_mul_right i.size hmin2
 have hst:=run_storeCells_at P g o t (news.take (Nat.min n dLen * i.size)) 0 cur w hg (by rw [hlen];omega) (fun u hu=>h1 u (List.mem_of_mem_take hu))
 simp only [Nat.add_zero] at hst
 simp [Builtin.copy_,run_underlying ht,sizeOf,typeInfo,hi,h.len,hf,hst]
theorem run_cpy_empty {dT sT ty e:TypeId} {i:TypeInfo} (ht:P.underlying dT=some (.slice e)) (hi:P.info? e=some i) {x:Value} {n:Nat} {news:List Value} (h:Src P w i.size n x news) (a:Addr) (dCap:Nat):
  (Builtin.copy_ #[dT,sT] ty #[.slice (some a) 0 dCap,x]).run P w=.ok (goInt 0) w:=by
 have hf:=h.first w rfl 0 (Nat.zero_le _)
 simp at hf
 simp [Builtin.copy_,run_underlying ht,sizeOf,typeInfo,hi,h.len,hf,storeCells]
end
section
variable {B:Nat} {S:Nat→Nat→Prop} {P:Program}
theorem src_of_cells {m:M} {cs:List C} {n esz cap:Nat} {a:Addr} (h2:cs≠[]→a.spot=none) (h3:RepCs m.w (Safe B S m) cs a.block a.off) (hl:cs.length=n * esz):
  ∃news,All2 (RepC m.w (Safe B S m)) cs news∧Src P m.w esz n (.slice (some a) n cap) news:=by
 obtain ⟨us,h4,h5⟩:=RepCs_get h3
 refine ⟨us,h4,src_cells (fun hne=>h2 fun e=>hne ?_) (by rw [←h4.len];exact hl) fun j v hv=>(h5 j v hv).1⟩
 subst e
 cases us with
 |nil=>rfl
 |cons _ _=>exact h4.elim
theorem srcOf_ok {m:M} (hk:HOK B S m) {d:D} {u:Value} (hr:RepD B S m d u) {esz n:Nat} {cs:List C} (hs:srcOf m.h esz d=some (cs,n)) (hl:cs.length=n * esz):
  ∃news,All2 (RepC m.w (Safe B S m)) cs news∧Src P m.w esz n u news:=by
 cases d with
 |c x=>
  replace hr:RepC m.w (Safe B S m) x u:=hr
  cases x with
  |lit v=>
   simp only [RepC] at hr
   obtain ⟨rfl,hsc⟩:=hr
   unfold srcOf at hs
   split at hs<;>try (simp only [reduceCtorEq,D.c.injEq] at *;done)
   ·rename_i s h
    simp only [D.c.injEq,C.lit.injEq] at h
    subst h
    split at hs
    ·rename_i he
     subst he
     simp only [Option.some.injEq,Prod.mk.injEq] at hs
     obtain ⟨rfl,rfl⟩:=hs
     refine ⟨_,?_,src_string s⟩
     clear hl hsc
     generalize s.data.toList=l
     induction l with
     |nil=>trivial
     |cons b l ih=>exact ⟨⟨rfl,rfl⟩,ih⟩
    ·cases hs
  |slice cs' n'=>
   simp only [RepC] at hr
   simp only [srcOf] at hs
   split at hs
   case isFalse=>cases hs
   simp only [Option.some.injEq,Prod.mk.injEq] at hs
   obtain ⟨rfl,rfl⟩:=hs
   rcases hr with ⟨rfl,rfl,rfl⟩|⟨a,cap,rfl,h1,h2,h3⟩
   ·exact ⟨[],trivial,src_nil⟩
   ·exact src_of_cells h2 h3 hl
 |full cs' n'=>
  simp only [srcOf] at hs
  split at hs
  case isFalse=>cases hs
  simp only [Option.some.injEq,Prod.mk.injEq] at hs
  obtain ⟨rfl,rfl⟩:=hs
  rcases hr with ⟨rfl,rfl,rfl⟩|⟨a,rfl,h2,h3⟩
  ·exact ⟨[],trivial,src_nil⟩
  ·exact src_of_cells h2 h3 hl
 |arr id off len=>
  obtain ⟨hu,ad,cap,hv,hcap,hr⟩:=hr
  simp only [srcOf] at hs
  cases ho:getH m.h id with
  |dead=>rw [ho] at hs;cases hs
  |box ds=>rw [ho] at hs;cases hs
  |map ds=>rw [ho] at hs;cases hs
  |arr cs0 esz0 fz ety=>
   rw [ho] at hs hr
   simp only at hs hr
   split at hs
   case isFalse=>cases hs
   rename_i hc
   obtain ⟨rfl,hlen⟩:=hc
   simp only [Option.some.injEq,Prod.mk.injEq] at hs
   obtain ⟨rfl,rfl⟩:=hs
   obtain ⟨hB,vs,hv1,hv2,hv3⟩:=hk.arr ho
   have hall:=(hv3.drop off).take (len * esz0)
   refine ⟨_,hall,?_⟩
   subst hv
   rcases hr with ⟨rfl,_⟩|⟨rfl,rfl⟩
   ·refine src_cells (fun _=>rfl) (by rw [←hall.len];exact hl) fun j v hv=>?_
    have hj:j < len * esz0:=by have:=(List.getElem?_eq_some_iff.1 hv).1;simp at this;omega
    rw [List.getElem?_take_of_lt hj,List.getElem?_drop,List.getElem?_take_of_lt (by omega)] at hv
    show m.w.cell? ⟨m.β id,off+j,none⟩=_
    rw [cell_row hv1];exact hv
   ·refine src_cells (fun h=>?_) (by simp) fun j v hv=>?_
    ·simp at h
    ·simp at hv
 |unk=>simp [srcOf] at hs
 |loc id off=>simp [srcOf] at hs
 |clo f caps=>simp [srcOf] at hs
 |mp id=>simp [srcOf] at hs
 |ptr cs=>simp [srcOf] at hs
 |agg ds=>simp [srcOf] at hs
 |tup ds=>simp [srcOf] at hs
end
end Go.Ey
