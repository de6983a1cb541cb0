/- A part. -/
import Derived.Test.YtolnnaanmfnkjaaGreatDoorY15
set_option linter.all false
namespace Go.Ey
structure Rl (b:Bs) (ρ:List W) (μ:Nat->Option Nat) (σ:Sy) (s:St):Prop where
 env:∀t,RD (nm ρ μ σ) (Bn σ.env t) (iM s.env t)
 mem:Rm b (nm ρ μ σ) s.heap s.nx σ.lens
 bg:∀q j,b.bg[q]?=some j->q < σ.nx/\μ q=some j
def Qd (kn:Kn) (ρ:List W):Prop:=∀i j t,YE kn i j=some t->dW ρ (match j with|0=> .v i|j+1=> .n i j)=some (.lit (.bool t))
theorem Qd.ext {kn:Kn} {ρ:List W} (h:Qd kn ρ) (ws:List W):Qd kn (ρ++ws):=fun i j t hi=>jK (h i j t hi)
theorem Qd.cons {kn:Kn} {ρ:List W} (h:Qd kn ρ) {i j:Nat} {t:Bool} (hc:dW ρ (match j with|0=> .v i|j+1=> .n i j)=some (.lit (.bool t))):Qd (((i,j),t)::kn) ρ:=by
 intro p q t' hq;simp only [YE] at hq;split at hq
 ·rename_i e;obtain ⟨rfl,rfl⟩:=e;injection hq with hq;subst hq;exact hc
 ·exact h p q t' hq
section
variable {b:Bs} {ρ:List W} {μ:Nat->Option Nat} {σ:Sy} {s:St} {call:qM} {head:ug} {r:R} {F:Fe} {sig:Nat->Option fC}
theorem F6 {e:Env} (he:∀t,RD (nm ρ μ σ) (Bn σ.env t) (iM e t)) (x:X):RD (nm ρ μ σ) (xS σ x) (zT e x):=by
 cases x with
 |t n=>exact he n
 |k v=>
  simp only [xS,zT];by_cases hs:scalar v=true
  ·rw [C4 hs,C4 hs];exact ⟨.lit v,rfl,.inl rfl⟩
  ·rw [Dd hs,Dd hs];by_cases hv:v=.slice none 0 0
   ·subst hv;exact ⟨[],0,rfl,rfl⟩
   ·split
    ·exact absurd rfl hv
    ·trivial
 |f n=>exact ⟨[],rfl,trivial⟩
theorem Lr {e:Env} (he:∀t,RD (nm ρ μ σ) (Bn σ.env t) (iM e t)):∀xs:List X,aF (RD (nm ρ μ σ)) (xs.map (xS σ)) (xs.map (zT e))
 |[]=>trivial
 |x::xs=>⟨F6 he x,Lr he xs⟩
theorem ad1 (σ:Sy) (dst:Option Nat) (sd:SD) (t:Nat):Bn (σ.put dst sd).env t=if dst=some t then sd else Bn σ.env t:=by
 cases dst with
 |none=>simp [Sy.put]
 |some q=>
  simp only [Sy.put,Bn,A0]
theorem adM (e:Env) (dst:Option Nat) (d:D) (t:Nat):iM (l8 e dst d) t=if dst=some t then d else iM e t:=by
 cases dst with
 |none=>simp [l8]
 |some q=>simp only [l8,iM,A0]
theorem WS (σ:Sy) (dst:Option Nat) (sd:SD):(σ.put dst sd).heap=σ.heap/\(σ.put dst sd).nx=σ.nx/\(σ.put dst sd).lens=σ.lens:=by cases dst<;>exact ⟨rfl,rfl,rfl⟩
theorem Ze (σ:Sy) (dst:Option Nat) (sd:SD):nm ρ μ (σ.put dst sd)=nm ρ μ σ:=by cases dst<;>rfl
theorem Rl.step (hR:Rl b ρ μ σ s) {ρ':List W} {μ':Nat->Option Nat} {σ':Sy} (he:σ'.env=σ.env) (hv:l9 (nm ρ μ σ) (nm ρ' μ' σ')) {h':Heap} {k':Nat} (hm:Rm b (nm ρ' μ' σ') h' k' σ'.lens) {sd:SD} {d:D} (hr:RD (nm ρ' μ' σ') sd d) (dst:Option Nat):
  Rl b ρ' μ' (σ'.put dst sd) ⟨l8 s.env dst d,h',k'⟩ where
 env t:=by
  rw [Ze,ad1,adM];by_cases h:dst=some t
  ·rw [C4 h,C4 h];exact hr
  ·rw [Dd h,Dd h,he];exact hv.rd (hR.env t)
 mem:=by rw [Ze,(WS σ' dst sd).2.2];exact hm
 bg q j hq:=by obtain ⟨h1,h2⟩:=hR.bg q j hq;rw [(WS σ' dst sd).2.1];exact ⟨Fk h1 hv.nx,by have:=hv.mu q h1;simp only [nm] at this;rw [this];exact h2⟩
theorem BM {N:Nm} (hρ:N.ρ=ρ) {kn:Kn} (hk:Qd kn ρ) {sd:SD} {d:D} (hr:RD N sd d) {kt:Bool->Kn->Tree} (hd:aR call head (Cz kn sd kt) ρ=some r):
  ∃t BX,d=.c (.lit (.bool t))/\Qd BX ρ/\aR call head (kt t BX) ρ=some r:=by
 unfold Cz at hd;split at hd
 ·rename_i t;obtain ⟨c,h1,h2⟩:=hr;simp only [dW,A0] at h1;subst h1;exact ⟨t,kn,CD.lit h2,hk,hd⟩
 ·rename_i i;obtain ⟨c,h1,h2⟩:=hr;rw [hρ] at h1;split at hd
  ·rename_i t hkn;have:=hk i 0 t hkn
   rw [h1] at this;injection this with this;subst this
   exact ⟨t,kn,CD.lit h2,hk,hd⟩
  ·simp only [aR,h1,A4] at hd;unfold FV at hd;split at hd
   ·exact ⟨true,_,CD.lit h2,hk.cons (j:=0) h1,hd⟩
   ·exact ⟨false,_,CD.lit h2,hk.cons (j:=0) h1,hd⟩
   ·cases hd
 ·rename_i i j;obtain ⟨c,h1,h2⟩:=hr;rw [hρ] at h1;split at hd
  ·rename_i t hkn;have:=hk i (j+1) t hkn
   simp only at this;rw [h1] at this;injection this with this;subst this
   exact ⟨t,kn,CD.lit h2,hk,hd⟩
  ·simp only [aR,h1,A4] at hd;unfold FV at hd;split at hd
   ·exact ⟨true,_,CD.lit h2,hk.cons (j:=j+1) h1,hd⟩
   ·exact ⟨false,_,CD.lit h2,hk.cons (j:=j+1) h1,hd⟩
   ·cases hd
 ·cases hd
theorem JM {e:Env} (he:∀t,RD (nm ρ μ σ) (Bn σ.env t) (iM e t)) {kn:Kn} (hk:Qd kn ρ) {g:Option (Nat×Bool)} {kt:Bool->Kn->Tree} (hd:aR call head (Ke σ kn g kt) ρ=some r):
  ∃w BX,wanted e g=some w/\Qd BX ρ/\aR call head (kt w BX) ρ=some r:=by
 unfold Ke at hd;split at hd
 ·exact ⟨true,kn,rfl,hk,hd⟩
 ·rename_i t want;have hr:=he t;split at hd
  ·rename_i hs;rw [hs] at hr;obtain ⟨ds',h1,h2⟩:=hr;cases ds' with
   |nil=>exact ⟨false,kn,by simp [wanted,h1],hk,hd⟩
   |cons _ _=>exact h2.elim
  ·obtain ⟨w,BX,h1,h2,h3⟩:=BM rfl hk hr hd;exact ⟨w==want,BX,by simp [wanted,h1],h2,h3⟩
theorem FJ {cl:Callee} {ld:xg} {i:jl} {is:List jl} {s:St} (h1:∀f own xs,i.ins≠.jB f own xs) (h2:∀x xs,i.ins≠.kX x xs):
  mX cl ld (i::is) s=(wanted s.env i.guard).bind fun w=>if w then (oK cl (zT s.env) s.heap s.nx i.ins).bind fun p=>mX cl ld is ⟨l8 s.env i.dst p.1,aK s.heap p.2,s.nx+1⟩ else mX cl ld is ⟨l8 s.env i.dst AZ,s.heap,s.nx⟩:=by
 simp only [mX,A2]
def U8 (b:Bs) (ρ:List W) (call:qM) (head:ug) (kt:Sy->Nat->Kn->Tree) (r:R) (s':St):Prop:=
 ∃(ws:List W) (μ':Nat->Option Nat) (σ':Sy) (BX:Kn),Rl b (ρ++ws) μ' σ' s'/\Qd BX (ρ++ws)/\aR call head (kt σ' (ρ++ws).length BX) (ρ++ws)=some r
theorem U8.pre {kt:Sy->Nat->Kn->Tree} {ws:List W} {s':St} (h:U8 b (ρ++ws) call head kt r s'):U8 b ρ call head kt r s':=by obtain ⟨ws',μ',σ',BX,h1,h2,h3⟩:=h;rw [Bk] at h1 h2 h3;exact ⟨ws++ws',μ',σ',BX,h1,h2,h3⟩
def Gg:Ins->Bool
 |.pick _ _ _|.call _ _|.jB _ _ _|.kX _ _|.mV _ _|.mkm|.PY _ _ _ _ _ _ _|.PX _ _ _ _ _=>false
 |_=>true
theorem Tz {sig:Nat->Option fC} {kt:Sy->Nat->Kn->Tree} {i:jl} {is:List jl} {σ:Sy} {n:Nat} {kn:Kn} (hp:Gg i.ins=true):
  qK sig kt (i::is) σ n kn=Ke σ kn i.guard fun w kn=>match w with
   |false=>qK sig kt is (σ.put i.dst (.lC [])) n kn
   |true=>bD σ n (xS σ) (fun d σ n=>qK sig kt is (σ.put i.dst d) n kn) i.ins:=by
 simp only [qK];congr 1;funext w kn;cases w with
 |false=>rfl
 |true=>cases hi:i.ins<;>first|rfl|(rw [hi] at hp;cases hp)
theorem Ws {N:Nm}:RD N (.lC []) AZ:=⟨[],rfl,trivial⟩
theorem LP {cl:Callee} {dx:X->D} {h:Heap} {k:Nat} {i:Ins} (hp:Gg i=true):oK cl dx h k i=step dx h k i:=by cases i<;>first|rfl|cases hp
theorem wD (hcall:tN F sig call) {kt:Sy->Nat->Kn->Tree}:∀(is:List jl) (ρ:List W) (μ:Nat->Option Nat) (σ:Sy) (s:St) (kn:Kn),Rl b ρ μ σ s->Qd kn ρ->aR call head (qK sig kt is σ ρ.length kn) ρ=some r->
  ∃n0 s',(∀n,n0<=n->mX (oF F n) (jh F n) is s=some s')/\U8 b ρ call head kt r s'
 |[],ρ,μ,σ,s,kn,hR,hk,hd=>⟨0,s,fun _ _=>rfl,[],μ,σ,kn,by rw [D0];exact hR,by rw [D0];exact hk,by rw [D0];exact hd⟩
 |i::is,ρ,μ,σ,s,kn,hR,hk,hd=>by
  have skip:∀{BX:Kn},Qd BX ρ->wanted s.env i.guard=some false->aR call head (qK sig kt is (σ.put i.dst (.lC [])) ρ.length BX) ρ=some r->
    ∃n0 s',(∀n,n0<=n->mX (oF F n) (jh F n) (i::is) s=some s')/\U8 b ρ call head kt r s':=by
   intro BX hk' hw hd;have hR':=hR.step rfl (l9.refl _) hR.mem Ws i.dst;obtain ⟨n0,s',h1,h2⟩:=wD hcall is ρ μ _ _ BX hR' hk' hd;refine ⟨n0,s',fun n hn=>?_,h2⟩
   simp only [mX,hw,A2,A4];exact h1 n hn
  by_cases hp:Gg i.ins=true
  ·rw [Tz hp] at hd;obtain ⟨w,BX,g1,g2,g3⟩:=JM hR.env hk hd;cases w with
   |false=>exact skip g2 g1 g3
   |true=>
    obtain ⟨d,us,h1,ws,μ',σ',sd,p1,p2,p3,p4,p5,_⟩:=ad4 hR.mem (F6 hR.env) i.ins g3;have hR':=hR.step p1 p2 p3 p4 i.dst;obtain ⟨n0,s',q1,q2⟩:=wD hcall is (ρ++ws) μ' _ _ BX hR' (g2.ext ws) p5;refine ⟨n0,s',fun n hn=>?_,q2.pre⟩
    rw [FJ (fun f own xs e=>by rw [e] at hp;cases hp) (fun x xs e=>by rw [e] at hp;cases hp),g1]
    simp only [A4,Ek];rw [LP hp,h1];exact q1 n hn
  ·simp only [qK] at hd;obtain ⟨w,BX,g1,g2,g3⟩:=JM hR.env hk hd;cases w with
   |false=>exact skip g2 g1 g3
   |true=>
    cases hi:i.ins with
    |pick c x y=>
     rw [hi] at g3;obtain ⟨t,kn2,e1,e2,e3⟩:=BM rfl g2 (F6 hR.env c) g3;have hR':=hR.step rfl (l9.refl _) (hR.mem.tick (N4 _)) (F6 hR.env (if t then x else y)) i.dst
     obtain ⟨n0,s',q1,q2⟩:=wD hcall is ρ μ _ _ kn2 hR' e2 e3;refine ⟨n0,s',fun n hn=>?_,q2⟩
     rw [FJ (fun f own xs e=>by rw [hi] at e;cases e) (fun x xs e=>by rw [hi] at e;cases e),g1]
     simp only [A4,Ek,hi,oK,zn,C2,Cd,eU,step,e1,asBool,A2,dS,G3,aK];have:=q1 n hn
     cases t<;>exact this
    |call f xs=>
     rw [hi] at g3;obtain ⟨n0,vs,us,rs,h1,h2,ws,μ',σ',sd,p1,p2,p3,p4,p5,_⟩:=Nh hcall hR.mem (Lr hR.env xs) g3;have hR':=hR.step p1 p2 p3 p4 i.dst;obtain ⟨n1,s',q1,q2⟩:=wD hcall is (ρ++ws) μ' _ _ BX hR' (g2.ext ws) p5;refine ⟨max n0 n1,s',fun n hn=>?_,q2.pre⟩
     rw [FJ (fun f own xs e=>by rw [hi] at e;cases e) (fun x xs e=>by rw [hi] at e;cases e),g1]
     simp only [A4,Ek,hi,oK,zn,C2,Cd,eU,h1,h2 n (by omega),A2]
     exact q1 n (by omega)
    |jB f own xs=>
     rw [hi] at g3;by_cases ho2:own=2
     ·simp [ho2,aR] at g3
     simp only [ho2,Cd] at g3;obtain ⟨n0,d,h',k',h1,h2,ws,μ',σ',sd,p1,p2,p3,p4,p5⟩:=Oz hcall hR.mem (Lr hR.env xs) g3;have h1:∀n,n0<=n->zy (jh F n) own f (xs.map (zT s.env)) s.heap s.nx=some (d,h',k'):=fun n hn=>by
      have:=h1 n hn
      by_cases ho:own=0
      ·subst ho;exact this
      ·have e9:(own !=0)=true:=by simp [ho]
       rw [e9,Fi] at this;simpa [zy,VA,ho2,ho] using this
     have hR':=hR.step p1 p2 p3 p4 i.dst;obtain ⟨n1,s',q1,q2⟩:=wD hcall is (ρ++ws) μ' _ _ BX hR' (g2.ext ws) p5;refine ⟨max n0 n1,s',fun n hn=>?_,q2.pre⟩
     simp only [mX,g1,hi,A2,A4,Ek,h1 n (by omega)]
     exact q1 n (by omega)
    |kX x xs=>
     rw [hi] at g3;simp only at g3;have hx:=F6 hR.env x;split at g3
     case h_2=>cases g3
     rename_i f caps hxe;rw [hxe] at hx;obtain ⟨cs,hx1,hx2⟩:=hx;have apd:∀{caps cs:List (Nat×Nat)},aF (fun p q:Nat×Nat=>p.1 < (nm ρ μ σ).nx/\(nm ρ μ σ).μ p.1=some q.1/\q.2=p.2) caps cs->aF (RD (nm ρ μ σ)) (caps.map fun p=>SD.loc p.1 p.2) (cs.map fun p=>D.loc p.1 p.2):=by
      intro caps;induction caps with
      |nil=>intro cs h;cases cs with|nil=>trivial|cons _ _=>exact h.elim
      |cons p caps ih=>intro cs h;cases cs with
       |nil=>exact h.elim
       |cons q cs=>exact ⟨⟨h.1.1,q.1,h.1.2.1,by simp only;rw [h.1.2.2]⟩,ih h.2⟩
     obtain ⟨n0,d,h',k',h1,h2,ws,μ',σ',sd,p1,p2,p3,p4,p5⟩:=Oz hcall hR.mem ((Lr hR.env xs).append (apd hx2)) g3;simp only [E4] at h1;have hR':=hR.step p1 p2 p3 p4 i.dst;obtain ⟨n1,s',q1,q2⟩:=wD hcall is (ρ++ws) μ' _ _ BX hR' (g2.ext ws) p5;refine ⟨max n0 n1,s',fun n hn=>?_,q2.pre⟩
     simp only [mX,g1,hi,hx1,A2,A4,Ek,h1 n (by omega)]
     exact q1 n (by omega)
    |mV f xs=>rw [hi] at g3;simp [bD,aR] at g3
    |mkm=>rw [hi] at g3;simp [bD,aR] at g3
    |PY k n ag z ok x y=>rw [hi] at g3;simp [bD,aR] at g3
    |PX k n x y z=>rw [hi] at g3;simp [bD,aR] at g3
    |_=>rw [hi] at hp;exact absurd rfl hp
end
end Go.Ey
namespace Go.Ey
structure TrR (N:Nm) (a c:Trace):Prop where
 rdT:a.rdT=c.rdT
 XD:a.XD=c.XD
 Yu:mY N c.Yu a.Yu
 XE:mY N c.XE a.XE
theorem mY.mono {N N':Nm} (hv:l9 N N') {js is:List Nat} (h:mY N js is):mY N' js is:=fun j hj=>by obtain ⟨i,h1,h2,h3⟩:=h j hj;exact ⟨i,h1,Fk h2 hv.nx,by rw [hv.mu i h2];exact h3⟩
theorem TrR.mono {N N':Nm} (hv:l9 N N') {a c:Trace} (h:TrR N a c):TrR N' a c:=⟨h.rdT,h.XD,h.Yu.mono hv,h.XE.mono hv⟩
theorem RH {N:Nm} (hinj:∀i i' j,i < N.nx->i' < N.nx->N.μ i=some j->N.μ i'=some j->i=i') {a c a' c':List Nat} (h1:mY N a' a) (h2:mY N c' c) (h:meets a c=false):meets a' c'=false:=by
 unfold meets at *;rw [List.any_eq_false] at h |-;intro j hj hc;simp only [List.contains_eq_mem,F1] at hc;obtain ⟨i,q1,q2,q3⟩:=h1 j hj;obtain ⟨i',p1,p2,p3⟩:=h2 j hc;have:=hinj i i' j q2 p2 q3 p3
 subst this;exact h i q1 (by simpa using p1)
theorem mY.app {N:Nm} {a c a' c':List Nat} (h1:mY N a' a) (h2:mY N c' c):mY N (a'++c') (a++c):=h1.append h2
theorem abK {N:Nm} (hinj:∀i i' j,i < N.nx->i' < N.nx->N.μ i=some j->N.μ i'=some j->i=i') {a c a' c':Trace} (h1:TrR N a a') (h2:TrR N c c') (h:clash a c=false):clash a' c'=false:=by
 unfold clash at *;simp only [Bool.or_eq_false_iff] at h |-;obtain ⟨⟨⟨q1,q2⟩,q3⟩,q4⟩:=h;refine ⟨⟨⟨?_,?_⟩,?_⟩,?_⟩
 ·rw [<-h1.XD,<-h2.rdT,<-h2.XD];exact q1
 ·rw [<-h2.XD,<-h1.rdT];exact q2
 ·exact RH hinj h1.XE (h2.Yu.app h2.XE) q3
 ·exact RH hinj h2.XE h1.Yu q4
theorem Qp {N:Nm} (hinj:∀i i' j,i < N.nx->i' < N.nx->N.μ i=some j->N.μ i'=some j->i=i') {m:Nat} {c c':Trace} (hc:TrR N c c'):∀{l l':List Trace} {q:Nat},aF (TrR N) l l'->Nv m c q l=true->Nv m c' q l'=true
 |[],[],_,_,_=>rfl
 |a::l,a'::l',q,hr,h=>by
  simp only [Nv,As,Bool.or_eq_true] at h |-;refine ⟨h.1.imp id fun h1=>?_,Qp hinj hc hr.2 h.2⟩
  have:clash a c=false:=by simpa using h1
  simp [abK hinj hr.1 hc this]
 |[],_::_,_,hr,_=>hr.elim
 |_::_,[],_,hr,_=>hr.elim
theorem Jf {N:Nm} (hinj:∀i i' j,i < N.nx->i' < N.nx->N.μ i=some j->N.μ i'=some j->i=i'):∀{ts ts':List Trace} {ws:List Nat} {pre pre':List Trace},aF (TrR N) pre pre'->aF (TrR N) ts ts'->oN pre ts ws=true->oN pre' ts' ws=true
 |[],[],_,_,_,_,_,_=>by simp [oN]
 |c::ts,c'::ts',[],_,_,_,_,h=>by simp [oN] at h
 |c::ts,c'::ts',w::ws,pre,pre',hp,hr,h=>by simp only [oN,As] at h |-;exact ⟨Qp hinj hr.1 hp h.1,Jf hinj (hp.append (show aF (TrR N) [c] [c'] from ⟨hr.1,trivial⟩)) hr.2 h.2⟩
 |[],_::_,_,_,_,_,hr,_=>hr.elim
 |_::_,[],_,_,_,_,hr,_=>hr.elim
section
variable {b:Bs} {call:qM} {head:ug} {r:R} {F:Fe} {sig:Nat->Option fC}
def GQ (b:Bs) (ρ:List W) (μ:Nat->Option Nat) (σ:Sy) (call:qM) (head:ug) (kt:Sy->Nat->Kn->List Trace->Tree) (r:R) (tsS:List Trace) (s':St) (ts:List Trace):Prop:=
 ∃(ws:List W) (μ':Nat->Option Nat) (σ':Sy) (BX:Kn) (ae4:List Trace),Rl b (ρ++ws) μ' σ' s'/\Qd BX (ρ++ws)/\aR call head (kt σ' (ρ++ws).length BX (tsS++ae4)) (ρ++ws)=some r/\l9 (nm ρ μ σ) (nm (ρ++ws) μ' σ')/\aF (TrR (nm (ρ++ws) μ' σ')) ae4 ts
theorem GQ.pre {ρ:List W} {μ:Nat->Option Nat} {σ:Sy} {kt:Sy->Nat->Kn->List Trace->Tree} {tsS:List Trace} {s':St} {ts:List Trace} {ws:List W} {μ1:Nat->Option Nat} {σ1:Sy} {a c:Trace} {dst:Option Nat} {sd:SD} (hv:l9 (nm ρ μ σ) (nm (ρ++ws) μ1 σ1)) (ht:TrR (nm (ρ++ws) μ1 σ1) a c)
  (h:GQ b (ρ++ws) μ1 (σ1.put dst sd) call head kt r (tsS++[a]) s' ts):GQ b ρ μ σ call head kt r tsS s' (c::ts):=by
 obtain ⟨ws',μ',σ',BX,ae4,h1,h2,h3,h4,h5⟩:=h;rw [Ze] at h4;rw [Bk] at h1 h2 h3 h4 h5;rw [Bk tsS] at h3;exact ⟨ws++ws',μ',σ',BX,a::ae4,h1,h2,h3,hv.trans h4,ht.mono h4,h5⟩
theorem Qi {kt:Sy->Nat->Kn->List Trace->Tree} {i:jl} {is:List jl} {σ:Sy} {n:Nat} {kn:Kn} {ts:List Trace} (hp:Gg i.ins=true):
  xu sig kt (i::is) σ n kn ts=Ke σ kn i.guard fun w kn=>match w with
   |false=>xu sig kt is (σ.put i.dst (.lC [])) n kn (ts++[⟨(match i.guard with|some (t,_)=>[t]|none=>[]),i.dst.toList,[],[]⟩])
   |true=>bD σ n (xS σ) (fun d σ' n=>xu sig kt is (σ'.put i.dst d) n kn (ts++[⟨(match i.guard with|some (t,_)=>[t]|none=>[])++Bo (nM i.ins),i.dst.toList,jF (xS σ) i.ins,FZ σ.nx σ'.nx (Wx (xS σ) i.ins)⟩])) i.ins:=by
 simp only [xu];congr 1;funext w kn;cases w with
 |false=>rfl
 |true=>cases hi:i.ins<;>first|rfl|(rw [hi] at hp;cases hp)
theorem U1 {σ:Sy} {n f:Nat} {jI:List SD} {kt:SD->Sy->Nat->Tree} {ρ:List W} (hd:aR call head (Gm sig σ n f jI kt) ρ=some r):jI.all Ac=true:=by
 unfold Gm at hd;split at hd
 ·rename_i hf;exact NI hf
 ·cases hd
theorem ahn {dx:X->D} {h:Heap} {k:Nat} {i:Ins} {d:D} {us:List (Nat×Obj)} (hr:LC i=true) (h1:step dx h k i=some (d,us)):us=[]:=by
 cases i<;>first|(cases hr;done)|skip
 all_goals
  simp only [step,dS,Fc,A3] at h1;obtain ⟨_,_,_,h2⟩:=h1;exact h2.symm
theorem adH {N:Nm} {sx:X->SD} {dx:X->D} {h:Heap} {k:Nat} {i:Ins} {d:D} {us:List (Nat×Obj)} {nx nx':Nat} (h1:step dx h k i=some (d,us)) (h2:∀j,j∈us.map (·.1)->∃q∈FZ nx nx' (jF sx i),q < N.nx/\N.μ q=some j):mY N (us.map (·.1)) (FZ nx nx' (Wx sx i)):=by
 unfold Wx;by_cases hr:LC i=true
 ·rw [ahn hr h1];exact mY.nil
 ·rw [Dd hr];exact h2
theorem VN {cl:Callee} {ll:Cv} {dx:X->D} {h:Heap} {k:Nat} {i:Ins} (hp:Gg i=true):lW cl ll dx h k i=step dx h k i:=by
 cases i with
 |mV f xs=>cases hp
 |_=>exact LP (cl:=cl) hp
theorem wu (hcall:tN F sig call) {kt:Sy->Nat->Kn->List Trace->Tree} {nx:Nat}:∀(is:List jl) (ρ:List W) (μ:Nat->Option Nat) (σ:Sy) (e:Env) (h:Heap) (k:Nat) (kn:Kn) (tsS:List Trace),Rl b ρ μ σ ⟨e,h,nx+k⟩->Qd kn ρ->aR call head (xu sig kt is σ ρ.length kn tsS) ρ=some r->
  ∃n0 e' h' ts,(∀n,n0<=n->mW (oF F n) (lT F n) nx k is e h=some (e',h',ts))/\GQ b ρ μ σ call head kt r tsS ⟨e',h',nx+(k+is.length)⟩ ts
 |[],ρ,μ,σ,e,h,k,kn,tsS,hR,hk,hd=>⟨0,e,h,[],fun _ _=>rfl,[],μ,σ,kn,[],by rw [D0];exact hR,by rw [D0];exact hk,by rw [D0,D0];exact hd,by rw [D0];exact l9.refl _,trivial⟩
 |i::is,ρ,μ,σ,e,h,k,kn,tsS,hR,hk,hd=>by
  have hlen:nx+(k+(i::is).length)=nx+(k+1+is.length):=by simp;omega
  have skip:∀{BX:Kn},Qd BX ρ->wanted e i.guard=some false->aR call head (xu sig kt is (σ.put i.dst (.lC [])) ρ.length BX (tsS++[⟨(match i.guard with|some (t,_)=>[t]|none=>[]),i.dst.toList,[],[]⟩])) ρ=some r->
    ∃n0 e' h' ts,(∀n,n0<=n->mW (oF F n) (lT F n) nx k (i::is) e h=some (e',h',ts))/\GQ b ρ μ σ call head kt r tsS ⟨e',h',nx+(k+(i::is).length)⟩ ts:=by
   intro BX hk' hw hd;have hR':=hR.step rfl (l9.refl _) (hR.mem.tick (show nx+k<=nx+(k+1) by omega)) Ws i.dst
   obtain ⟨n0,e',h',ts,h1,h2⟩:=wu hcall is ρ μ _ _ _ (k+1) BX _ hR' hk' hd;refine ⟨n0,e',h',⟨(match i.guard with|some (t,_)=>[t]|none=>[]),i.dst.toList,[],[]⟩::ts,fun n hn=>?_,?_⟩
   ·simp only [mW,hw,A2,A4,h1 n hn];rfl
   ·rw [hlen];refine GQ.pre (ws:=[]) (μ1:=μ) (σ1:=σ) (a:=⟨(match i.guard with|some (t,_)=>[t]|none=>[]),i.dst.toList,[],[]⟩) (by rw [D0];exact l9.refl _) ⟨rfl,rfl,mY.nil,mY.nil⟩ (by rw [D0];exact h2)
  by_cases hp:Gg i.ins=true
  ·rw [Qi hp] at hd;obtain ⟨w,BX,g1,g2,g3⟩:=JM hR.env hk hd;cases w with
   |false=>exact skip g2 g1 g3
   |true=>
    obtain ⟨d,us,h1,ws,μ',σ',sd,p1,p2,p3,p4,p5,p6⟩:=ad4 hR.mem (F6 hR.env) i.ins g3;have asE:=afY (F6 hR.env) i.ins (fun f xs e=>by rw [e] at hp;cases hp) g3
    have hR':=hR.step p1 p2 p3 p4 i.dst;obtain ⟨n0,e',h',ts,q1,q2⟩:=wu hcall is (ρ++ws) μ' _ _ _ (k+1) BX _ hR' (g2.ext ws) p5;refine ⟨n0,e',h',⟨(match i.guard with|some (t,_)=>[t]|none=>[])++Bo (nM i.ins),i.dst.toList,touches (zT e) i.ins,us.map (·.1)⟩::ts,fun n hn=>?_,?_⟩
    ·simp only [mW,g1,A2,A4,Ek,VN hp];rw [show step (zT e) h (nx+k) i.ins=some (d,us) from h1]
     simp only [A4,q1 n hn];rfl
    ·rw [hlen];exact GQ.pre (a:=⟨(match i.guard with|some (t,_)=>[t]|none=>[])++Bo (nM i.ins),i.dst.toList,jF (xS σ) i.ins,FZ σ.nx σ'.nx (Wx (xS σ) i.ins)⟩) p2 ⟨rfl,rfl,asE.mono p2,adH h1 p6⟩ q2
  ·simp only [xu] at hd;obtain ⟨w,BX,g1,g2,g3⟩:=JM hR.env hk hd;cases w with
   |false=>exact skip g2 g1 g3
   |true=>
    cases hi:i.ins with
    |pick c x y=>
     rw [hi] at g3;obtain ⟨t,kn2,e1,e2,e3⟩:=BM rfl g2 (F6 hR.env c) g3;have hR':=hR.step rfl (l9.refl _) (hR.mem.tick (show nx+k<=nx+(k+1) by omega)) (F6 hR.env (if t then x else y)) i.dst
     obtain ⟨n0,e',h',ts,q1,q2⟩:=wu hcall is ρ μ _ _ _ (k+1) kn2 _ hR' e2 e3;refine ⟨n0,e',h',⟨(match i.guard with|some (t,_)=>[t]|none=>[])++Bo (nM i.ins),i.dst.toList,[],[]⟩::ts,fun n hn=>?_,?_⟩
     ·have MJ:zT e c=.c (.lit (.bool t)):=e1;simp only [mW,g1,A2,A4,Ek,hi,lW,oK,zn,C2,Cd,eU,step,MJ,asBool,dS,G3,aK];have:=q1 n hn
      rw [show (if t=true then zT e x else zT e y)=zT e (if t=true then x else y) by cases t<;>rfl,this]
      rfl
     ·rw [hlen];refine GQ.pre (ws:=[]) (μ1:=μ) (σ1:=σ) (by rw [D0];exact l9.refl _) ?_ (by rw [D0];exact q2)
      rw [hi];exact ⟨rfl,rfl,mY.nil,mY.nil⟩
    |call f xs=>
     rw [hi] at g3;obtain ⟨n0,vs,us,rs,h1,h2,ws,μ',σ',sd,p1,p2,p3,p4,p5,p6⟩:=Nh hcall hR.mem (Lr hR.env xs) g3;have hR':=hR.step p1 p2 p3 p4 i.dst;obtain ⟨n1,e',h',ts,q1,q2⟩:=wu hcall is (ρ++ws) μ' _ _ _ (k+1) BX _ hR' (g2.ext ws) p5;refine ⟨max n0 n1,e',h',⟨(match i.guard with|some (t,_)=>[t]|none=>[])++Bo (nM i.ins),i.dst.toList,touches (zT e) i.ins,us.map (·.1)⟩::ts,fun n hn=>?_,?_⟩
     ·have h1':jV h (xs.map (zT e))=some (vs,us):=h1;simp only [mW,g1,A2,A4,Ek,hi,lW,oK,zn,C2,Cd,eU,h1',h2 n (by omega)]
      have:=q1 n (by omega)
      simp only at this;rw [this];rfl
     ·rw [hlen];refine GQ.pre p2 ?_ q2;rw [hi];refine ⟨rfl,rfl,mY.mono p2 ?_,?_⟩
      ·have hok:∀x∈xs,Ac (xS σ x)=true:=by
        have:=U1 (jI:=xs.map (xS σ)) g3
        rw [List.all_map,E0] at this;exact this
       exact Ou (g:=id) (F6 hR.env) hok
      ·rw [Mz] at p6;exact p6
    |jB f own xs=>
     rw [hi] at g3;simp [aR] at g3
    |mV f xs=>
     rw [hi] at g3;obtain ⟨n0,d,us,h1,⟨ws,μ',σ',sd,p1,p2,p3,p4,p5⟩,t1,t2⟩:=Zn hcall hR.mem (Lr hR.env xs) g3;have hR':=hR.step p1 p2 (p3.tick (show nx+k<=nx+(k+1) by omega)) p4 i.dst
     obtain ⟨n1,e',h',ts,q1,q2⟩:=wu hcall is (ρ++ws) μ' _ _ _ (k+1) BX _ hR' (g2.ext ws) p5;refine ⟨max n0 n1,e',h',⟨(match i.guard with|some (t,_)=>[t]|none=>[])++Bo (nM i.ins),i.dst.toList,touches (zT e) i.ins,us.map (·.1)⟩::ts,fun n hn=>?_,?_⟩
     ·have h1':Eg (lT F n) h f (xs.map (zT e))=some (d,us):=h1 n (by omega)
      simp only [mW,g1,A2,A4,Ek,hi,lW,h1'];have:=q1 n (by omega)
      simp only at this;rw [this];rfl
     ·rw [hlen];refine GQ.pre p2 ?_ q2;rw [hi];refine ⟨rfl,rfl,mY.mono p2 ?_,?_⟩
      ·rw [Mz,Mz] at t1;exact t1
      ·rw [Mz] at t2;exact fun j hj=>by obtain ⟨q,m1,m2⟩:=mY.mono p2 t2 j hj;exact ⟨q,J0 _ m1,m2⟩
    |kX x xs=>
     rw [hi] at g3;simp [aR] at g3
    |mkm=>rw [hi] at g3;simp [bD,aR] at g3
    |PY k n ag z ok x y=>rw [hi] at g3;simp [bD,aR] at g3
    |PX k n x y z=>rw [hi] at g3;simp [bD,aR] at g3
    |_=>rw [hi] at hp;exact absurd rfl hp
end
end Go.Ey
