/- A part. -/
import Derived.Test.YtolnnaanmfnkjaaGreatDoorZ13
set_option linter.all false
namespace Go.Ey
structure Rl (b:Bs) (ρ:List W) (μ:Nat->Option Nat) (σ:Sy) (s:St):Prop where
 env:∀t,RD (nm ρ μ σ) (Ae σ.env t) (fT s.env t)
 mem:Rm b (nm ρ μ σ) s.heap s.nx σ.lens
 aK:∀q j,b.aK[q]?=some j->q < σ.nx/\μ q=some j
def OU (kn:Kn) (ρ:List W):Prop:=∀i j t,Xe kn i j=some t->dH ρ (match j with|0=> .v i|j+1=> .n i j)=some (.lit (.bool t))
theorem OU.ext {kn:Kn} {ρ:List W} (h:OU kn ρ) (ws:List W):OU kn (ρ++ws):=fun i j t hi=>iF (h i j t hi)
theorem OU.cons {kn:Kn} {ρ:List W} (h:OU kn ρ) {i j:Nat} {t:Bool} (hc:dH ρ (match j with|0=> .v i|j+1=> .n i j)=some (.lit (.bool t))):OU (((i,j),t)::kn) ρ:=by
 intro p q t' hq;simp only [Xe] at hq;split at hq
 ·rename_i e;obtain ⟨rfl,rfl⟩:=e;injection hq with hq;subst hq;exact hc
 ·exact h p q t' hq
section
variable {b:Bs} {ρ:List W} {μ:Nat->Option Nat} {σ:Sy} {s:St} {call:qp} {head:qZ} {r:R} {F:DF} {sig:Nat->Option eT}
theorem Ew {e:Env} (he:∀t,RD (nm ρ μ σ) (Ae σ.env t) (fT e t)) (x:X):RD (nm ρ μ σ) (xS σ x) (yh e x):=by
 cases x with
 |t n=>exact he n
 |k v=>
  simp only [xS,yh];by_cases hs:scalar v=true
  ·rw [C6 hs,C6 hs];exact ⟨.lit v,rfl,.inl rfl⟩
  ·rw [E0 hs,E0 hs];by_cases hv:v=.slice none 0 0
   ·subst hv;exact ⟨[],0,rfl,rfl⟩
   ·split
    ·exact absurd rfl hv
    ·trivial
 |f n=>exact ⟨[],rfl,trivial⟩
theorem KI {e:Env} (he:∀t,RD (nm ρ μ σ) (Ae σ.env t) (fT e t)):∀xs:List X,av (RD (nm ρ μ σ)) (xs.map (xS σ)) (xs.map (yh e))
 |[]=>trivial
 |x::xs=>⟨Ew he x,KI he xs⟩
theorem adg (σ:Sy) (dst:Option Nat) (sd:SD) (t:Nat):Ae (σ.put dst sd).env t=if dst=some t then sd else Ae σ.env t:=by
 cases dst with
 |none=>simp [Sy.put]
 |some q=>
  simp only [Sy.put,Ae,A0]
theorem afl (e:Env) (dst:Option Nat) (d:D) (t:Nat):fT (j5 e dst d) t=if dst=some t then d else fT e t:=by
 cases dst with
 |none=>simp [j5]
 |some q=>simp only [j5,fT,A0]
theorem T9 (σ:Sy) (dst:Option Nat) (sd:SD):(σ.put dst sd).heap=σ.heap/\(σ.put dst sd).nx=σ.nx/\(σ.put dst sd).lens=σ.lens:=by cases dst<;>exact ⟨rfl,rfl,rfl⟩
theorem XU (σ:Sy) (dst:Option Nat) (sd:SD):nm ρ μ (σ.put dst sd)=nm ρ μ σ:=by cases dst<;>rfl
theorem Rl.step (hR:Rl b ρ μ σ s) {ρ':List W} {μ':Nat->Option Nat} {σ':Sy} (he:σ'.env=σ.env) (hv:j4 (nm ρ μ σ) (nm ρ' μ' σ')) {h':Heap} {k':Nat} (hm:Rm b (nm ρ' μ' σ') h' k' σ'.lens) {sd:SD} {d:D} (hr:RD (nm ρ' μ' σ') sd d) (dst:Option Nat):
  Rl b ρ' μ' (σ'.put dst sd) ⟨j5 s.env dst d,h',k'⟩ where
 env t:=by
  rw [XU,adg,afl];by_cases h:dst=some t
  ·rw [C6 h,C6 h];exact hr
  ·rw [E0 h,E0 h,he];exact hv.rd (hR.env t)
 mem:=by rw [XU,(T9 σ' dst sd).2.2];exact hm
 aK q j hq:=by obtain ⟨h1,h2⟩:=hR.aK q j hq;rw [(T9 σ' dst sd).2.1];exact ⟨F0 h1 hv.nx,by have:=hv.mu q h1;simp only [nm] at this;rw [this];exact h2⟩
theorem Ay {N:Nm} (hρ:N.ρ=ρ) {kn:Kn} (hk:OU kn ρ) {sd:SD} {d:D} (hr:RD N sd d) {kt:Bool->Kn->Tree} (hd:aA call head (Bn kn sd kt) ρ=some r):
  ∃t Bc,d=.c (.lit (.bool t))/\OU Bc ρ/\aA call head (kt t Bc) ρ=some r:=by
 unfold Bn at hd;split at hd
 ·rename_i t;obtain ⟨c,h1,h2⟩:=hr;simp only [dH,A0] at h1;subst h1;exact ⟨t,kn,CD.lit h2,hk,hd⟩
 ·rename_i i;obtain ⟨c,h1,h2⟩:=hr;rw [hρ] at h1;split at hd
  ·rename_i t hkn;have:=hk i 0 t hkn
   rw [h1] at this;injection this with this;subst this
   exact ⟨t,kn,CD.lit h2,hk,hd⟩
  ·simp only [aA,h1,A4] at hd;unfold DI at hd;split at hd
   ·exact ⟨true,_,CD.lit h2,hk.cons (j:=0) h1,hd⟩
   ·exact ⟨false,_,CD.lit h2,hk.cons (j:=0) h1,hd⟩
   ·cases hd
 ·rename_i i j;obtain ⟨c,h1,h2⟩:=hr;rw [hρ] at h1;split at hd
  ·rename_i t hkn;have:=hk i (j+1) t hkn
   simp only at this;rw [h1] at this;injection this with this;subst this
   exact ⟨t,kn,CD.lit h2,hk,hd⟩
  ·simp only [aA,h1,A4] at hd;unfold DI at hd;split at hd
   ·exact ⟨true,_,CD.lit h2,hk.cons (j:=j+1) h1,hd⟩
   ·exact ⟨false,_,CD.lit h2,hk.cons (j:=j+1) h1,hd⟩
   ·cases hd
 ·cases hd
theorem IZ {e:Env} (he:∀t,RD (nm ρ μ σ) (Ae σ.env t) (fT e t)) {kn:Kn} (hk:OU kn ρ) {g:Option (Nat×Bool)} {kt:Bool->Kn->Tree} (hd:aA call head (J7 σ kn g kt) ρ=some r):
  ∃w Bc,wanted e g=some w/\OU Bc ρ/\aA call head (kt w Bc) ρ=some r:=by
 unfold J7 at hd;split at hd
 ·exact ⟨true,kn,rfl,hk,hd⟩
 ·rename_i t want;have hr:=he t;split at hd
  ·rename_i hs;rw [hs] at hr;obtain ⟨ds',h1,h2⟩:=hr;cases ds' with
   |nil=>exact ⟨false,kn,by simp [wanted,h1],hk,hd⟩
   |cons _ _=>exact h2.elim
  ·obtain ⟨w,Bc,h1,h2,h3⟩:=Ay rfl hk hr hd;exact ⟨w==want,Bc,by simp [wanted,h1],h2,h3⟩
theorem Ef {cl:Callee} {ld:rV} {i:gD} {is:List gD} {s:St} (h1:∀f own xs,i.ins≠.gU f own xs) (h2:∀x xs,i.ins≠.jv x xs):
  mX cl ld (i::is) s=(wanted s.env i.guard).bind fun w=>if w then (og cl (yh s.env) s.heap s.nx i.ins).bind fun p=>mX cl ld is ⟨j5 s.env i.dst p.1,ay s.heap p.2,s.nx+1⟩ else mX cl ld is ⟨j5 s.env i.dst Af,s.heap,s.nx⟩:=by
 simp only [mX,A2]
def VA (b:Bs) (ρ:List W) (call:qp) (head:qZ) (kt:Sy->Nat->Kn->Tree) (r:R) (s':St):Prop:=
 ∃(ws:List W) (μ':Nat->Option Nat) (σ':Sy) (Bc:Kn),Rl b (ρ++ws) μ' σ' s'/\OU Bc (ρ++ws)/\aA call head (kt σ' (ρ++ws).length Bc) (ρ++ws)=some r
theorem VA.pre {kt:Sy->Nat->Kn->Tree} {ws:List W} {s':St} (h:VA b (ρ++ws) call head kt r s'):VA b ρ call head kt r s':=by obtain ⟨ws',μ',σ',Bc,h1,h2,h3⟩:=h;rw [B9] at h1 h2 h3;exact ⟨ws++ws',μ',σ',Bc,h1,h2,h3⟩
def EM:Ins->Bool
 |.pick _ _ _|.call _ _|.gU _ _ _|.jv _ _|.lH _ _|.mkm|.Pg _ _ _ _ _ _ _|.O0 _ _ _ _ _=>false
 |_=>true
theorem Q7 {sig:Nat->Option eT} {kt:Sy->Nat->Kn->Tree} {i:gD} {is:List gD} {σ:Sy} {n:Nat} {kn:Kn} (hp:EM i.ins=true):
  pX sig kt (i::is) σ n kn=J7 σ kn i.guard fun w kn=>match w with
   |false=>pX sig kt is (σ.put i.dst (.jG [])) n kn
   |true=>aX σ n (xS σ) (fun d σ n=>pX sig kt is (σ.put i.dst d) n kn) i.ins:=by
 simp only [pX];congr 1;funext w kn;cases w with
 |false=>rfl
 |true=>cases hi:i.ins<;>first|rfl|(rw [hi] at hp;cases hp)
theorem UD {N:Nm}:RD N (.jG []) Af:=⟨[],rfl,trivial⟩
theorem KJ {cl:Callee} {dx:X->D} {h:Heap} {k:Nat} {i:Ins} (hp:EM i=true):og cl dx h k i=step dx h k i:=by cases i<;>first|rfl|cases hp
theorem tq (hcall:qf F sig call) {kt:Sy->Nat->Kn->Tree}:∀(is:List gD) (ρ:List W) (μ:Nat->Option Nat) (σ:Sy) (s:St) (kn:Kn),Rl b ρ μ σ s->OU kn ρ->aA call head (pX sig kt is σ ρ.length kn) ρ=some r->
  ∃n0 s',(∀n,n0<=n->mX (jL F n) (gu F n) is s=some s')/\VA b ρ call head kt r s'
 |[],ρ,μ,σ,s,kn,hR,hk,hd=>⟨0,s,fun _ _=>rfl,[],μ,σ,kn,by rw [Cl];exact hR,by rw [Cl];exact hk,by rw [Cl];exact hd⟩
 |i::is,ρ,μ,σ,s,kn,hR,hk,hd=>by
  have skip:∀{Bc:Kn},OU Bc ρ->wanted s.env i.guard=some false->aA call head (pX sig kt is (σ.put i.dst (.jG [])) ρ.length Bc) ρ=some r->
    ∃n0 s',(∀n,n0<=n->mX (jL F n) (gu F n) (i::is) s=some s')/\VA b ρ call head kt r s':=by
   intro Bc hk' hw hd;have hR':=hR.step rfl (j4.refl _) hR.mem UD i.dst;obtain ⟨n0,s',h1,h2⟩:=tq hcall is ρ μ _ _ Bc hR' hk' hd;refine ⟨n0,s',fun n hn=>?_,h2⟩
   simp only [mX,hw,A2,A4];exact h1 n hn
  by_cases hp:EM i.ins=true
  ·rw [Q7 hp] at hd;obtain ⟨w,Bc,g1,g2,g3⟩:=IZ hR.env hk hd;cases w with
   |false=>exact skip g2 g1 g3
   |true=>
    obtain ⟨d,us,h1,ws,μ',σ',sd,p1,p2,p3,p4,p5,_⟩:=acr hR.mem (Ew hR.env) i.ins g3;have hR':=hR.step p1 p2 p3 p4 i.dst;obtain ⟨n0,s',q1,q2⟩:=tq hcall is (ρ++ws) μ' _ _ Bc hR' (g2.ext ws) p5;refine ⟨n0,s',fun n hn=>?_,q2.pre⟩
    rw [Ef (fun f own xs e=>by rw [e] at hp;cases hp) (fun x xs e=>by rw [e] at hp;cases hp),g1]
    simp only [A4,E7];rw [KJ hp,h1];exact q1 n hn
  ·simp only [pX] at hd;obtain ⟨w,Bc,g1,g2,g3⟩:=IZ hR.env hk hd;cases w with
   |false=>exact skip g2 g1 g3
   |true=>
    cases hi:i.ins with
    |pick c x y=>
     rw [hi] at g3;obtain ⟨t,kn2,e1,e2,e3⟩:=Ay rfl g2 (Ew hR.env c) g3;have hR':=hR.step rfl (j4.refl _) (hR.mem.tick (Mb _)) (Ew hR.env (if t then x else y)) i.dst
     obtain ⟨n0,s',q1,q2⟩:=tq hcall is ρ μ _ _ kn2 hR' e2 e3;refine ⟨n0,s',fun n hn=>?_,q2⟩
     rw [Ef (fun f own xs e=>by rw [hi] at e;cases e) (fun x xs e=>by rw [hi] at e;cases e),g1]
     simp only [A4,E7,hi,og,wQ,C2,C7,dX,step,e1,asBool,A2,dF,Hj,ay];have:=q1 n hn
     cases t<;>exact this
    |call f xs=>
     rw [hi] at g3;obtain ⟨n0,vs,us,rs,h1,h2,ws,μ',σ',sd,p1,p2,p3,p4,p5,_⟩:=Mt hcall hR.mem (KI hR.env xs) g3;have hR':=hR.step p1 p2 p3 p4 i.dst;obtain ⟨n1,s',q1,q2⟩:=tq hcall is (ρ++ws) μ' _ _ Bc hR' (g2.ext ws) p5;refine ⟨max n0 n1,s',fun n hn=>?_,q2.pre⟩
     rw [Ef (fun f own xs e=>by rw [hi] at e;cases e) (fun x xs e=>by rw [hi] at e;cases e),g1]
     simp only [A4,E7,hi,og,wQ,C2,C7,dX,h1,h2 n (by omega),A2]
     exact q1 n (by omega)
    |gU f own xs=>
     rw [hi] at g3;by_cases ho2:own=2
     ·simp [ho2,aA] at g3
     simp only [ho2,C7] at g3;obtain ⟨n0,d,h',k',h1,h2,ws,μ',σ',sd,p1,p2,p3,p4,p5⟩:=M7 hcall hR.mem (KI hR.env xs) g3;have h1:∀n,n0<=n->wZ (gu F n) own f (xs.map (yh s.env)) s.heap s.nx=some (d,h',k'):=fun n hn=>by
      have:=h1 n hn
      by_cases ho:own=0
      ·subst ho;exact this
      ·have e9:(own !=0)=true:=by simp [ho]
       rw [e9,F1] at this;simpa [wZ,Wh,ho2,ho] using this
     have hR':=hR.step p1 p2 p3 p4 i.dst;obtain ⟨n1,s',q1,q2⟩:=tq hcall is (ρ++ws) μ' _ _ Bc hR' (g2.ext ws) p5;refine ⟨max n0 n1,s',fun n hn=>?_,q2.pre⟩
     simp only [mX,g1,hi,A2,A4,E7,h1 n (by omega)]
     exact q1 n (by omega)
    |jv x xs=>
     rw [hi] at g3;simp only at g3;have hx:=Ew hR.env x;split at g3
     case h_2=>cases g3
     rename_i f caps hxe;rw [hxe] at hx;obtain ⟨cs,hx1,hx2⟩:=hx;have ao1:∀{caps cs:List (Nat×Nat)},av (fun p q:Nat×Nat=>p.1 < (nm ρ μ σ).nx/\(nm ρ μ σ).μ p.1=some q.1/\q.2=p.2) caps cs->av (RD (nm ρ μ σ)) (caps.map fun p=>SD.loc p.1 p.2) (cs.map fun p=>D.loc p.1 p.2):=by
      intro caps;induction caps with
      |nil=>intro cs h;cases cs with|nil=>trivial|cons _ _=>exact h.elim
      |cons p caps ih=>intro cs h;cases cs with
       |nil=>exact h.elim
       |cons q cs=>exact ⟨⟨h.1.1,q.1,h.1.2.1,by simp only;rw [h.1.2.2]⟩,ih h.2⟩
     obtain ⟨n0,d,h',k',h1,h2,ws,μ',σ',sd,p1,p2,p3,p4,p5⟩:=M7 hcall hR.mem ((KI hR.env xs).append (ao1 hx2)) g3;simp only [Ek] at h1;have hR':=hR.step p1 p2 p3 p4 i.dst;obtain ⟨n1,s',q1,q2⟩:=tq hcall is (ρ++ws) μ' _ _ Bc hR' (g2.ext ws) p5;refine ⟨max n0 n1,s',fun n hn=>?_,q2.pre⟩
     simp only [mX,g1,hi,hx1,A2,A4,E7,h1 n (by omega)]
     exact q1 n (by omega)
    |lH f xs=>rw [hi] at g3;simp [aX,aA] at g3
    |mkm=>rw [hi] at g3;simp [aX,aA] at g3
    |Pg k n ag z ok x y=>rw [hi] at g3;simp [aX,aA] at g3
    |O0 k n x y z=>rw [hi] at g3;simp [aX,aA] at g3
    |_=>rw [hi] at hp;exact absurd rfl hp
end
end Go.Ey
namespace Go.Ey
section
variable {b:Bs} {N:Nm} {h:Heap} {k:Nat} {lens:List (Nat×Nat)}
theorem Y9 {l:List Nat} (hn:l.Nodup) {q j:Nat} (hq:l[q]?=some j):(l.take q).contains j=false:=by
 rw [List.contains_eq_mem,decide_eq_false_iff_not];intro hm;obtain ⟨p,hp⟩:=List.getElem?_of_mem hm;rw [List.getElem?_take] at hp;split at hp
 ·rename_i hlt;obtain ⟨a1,a2⟩:=As.1 hq;obtain ⟨b1,b2⟩:=As.1 hp;have:=(List.getElem_inj hn).1 (a2.trans b2.symm)
  omega
 ·cases hp
theorem abe {l:List Nat} {q j:Nat} (hq:l[q]?=some j):l.take q++[j]=l.take (q+1):=by rw [List.take_add_one,hq];rfl
theorem El {bx aK:List Nat} (hn:aK.Nodup):∀{ps:List PS} {iq:List SD} {ds:List D} {N:Nm} {h:Heap} {q:Nat},Rm b N h k lens->lu N bx aK->av (RD N) iq ds->nM q ps=some aK.length->q<=aK.length->∀{aJ:List TA} {us:List (Nat×SO)},Am lens N.hs bx ps iq=some (aJ,us)->
  ∃lv us',dW h ds (aK.take q)=some (lv,aK,us')/\j4 N (N.upd us)/\Rm b (N.upd us) (ay h us') k lens/\l8 N (us'.map (·.1)) (iq.flatMap nE)/\l8 N (ds.flatMap wO) (iq.flatMap nE)/\∃FC,sj N.ρ aJ=some FC/\(qA ps FC->fB (Zf (List.range aK.length)) ps FC (lv.map LV.mY))
 |[],[],[],N,h,q,hm,_,_,hq,hle,aJ,us,hf=>by simp only [Am,A0,A3] at hf;obtain ⟨rfl,rfl⟩:=hf;simp only [nM,A0] at hq;subst hq;exact ⟨[],[],by simp [dW],j4.refl _,hm,l8.nil,l8.nil,[],rfl,fun _=>trivial⟩
 |[],_::_,_,_,_,_,_,_,_,_,_,_,_,hf=>by simp [Am] at hf
 |.one::_,[],_,_,_,_,_,_,_,_,_,_,_,hf=>by cases hf
 |.agg _::_,[],_,_,_,_,_,_,_,_,_,_,_,hf=>by cases hf
 |.ref _ _::_,[],_,_,_,_,_,_,_,_,_,_,_,hf=>by cases hf
 |.fq _ _::_,[],_,_,_,_,_,_,_,_,_,_,_,hf=>by cases hf
 |p::ps,sd::iq,[],_,_,_,_,_,hr,_,_,_,_,_=>hr.elim
 |[],[],_::_,_,_,_,_,_,hr,_,_,_,_,_=>hr.elim
 |p::ps,sd::iq,d::ds,N,h,q,hm,hl,hr,hq,hle,aJ,us,hf=>by
  have gen:(∀q o,p≠.ref q o)->(∀q o,p≠.fq q o)->nM q ps=some aK.length->(FP lens N.hs sd).bind (fun p=>(Am lens (FW N.hs p.2) bx ps iq).bind fun q=>some (TA.v p.1::q.1,p.2++q.2))=some (aJ,us)->
    ∃lv us',dW h (d::ds) (aK.take q)=some (lv,aK,us')/\j4 N (N.upd us)/\Rm b (N.upd us) (ay h us') k lens/\l8 N (us'.map (·.1)) ((sd::iq).flatMap nE)/\l8 N ((d::ds).flatMap wO) ((sd::iq).flatMap nE)/\∃FC,sj N.ρ aJ=some FC/\(qA (p::ps) FC->fB (Zf (List.range aK.length)) (p::ps) FC (lv.map LV.mY)):=by
   intro hp hp' hq hf;simp only [A1,A0,A3,C1] at hf;obtain ⟨tv,u1,h1,as',u2,h2,rfl,rfl⟩:=hf;obtain ⟨v,Df,k1,k2,k3,k4,k5⟩:=Mv hm hr.1 h1;obtain ⟨lv,Fp,q1,q2,q3,q6,q7,FC,q4,q5⟩:=El hn (N:=N.upd u1) (h:=ay h Df) k4 hl (hr.2.mono fun _ _=>k3.rd) hq hle h2
   have hds:nE sd=yg sd:=by cases sd<;>first|rfl|(simp [FP,ze] at h1)
   have hd:∀id off,d≠.loc id off:=by rintro id off rfl;simp [nN,nP] at k1
   have hdl:wO d=dm d:=by cases d<;>first|rfl|exact absurd rfl (hd _ _)
   have hla:dW h (d::ds) (aK.take q)=(nN h d).bind fun p=>(dW (ay h p.2) ds (aK.take q)).bind fun r=>some (LV.v p.1::r.1,r.2.1,p.2++r.2.2):=by cases d<;>first|rfl|exact absurd rfl (hd _ _)
   refine ⟨.v v::lv,Df++Fp,?_,?_,?_,?_,?_,.v v::FC,?_,fun hs=>?_⟩
   ·rw [hla,k1];simp [q1]
   ·rw [Nm.lJ];exact k3.trans q2
   ·rw [Nm.lJ,gP];exact q3
   ·rw [Is,D3,hds];exact l8.append k5 q6
   ·rw [D3,D3,hds,hdl];exact l8.append (qj hr.1 (QL h1)) q7
   ·have:sj N.ρ as'=some FC:=q4
    simp [sj,XY,k2,this]
   ·cases p with
    |one=>cases v with
     |full _ _=>exact hs.elim
     |one c=>exact ⟨show CD c (.c c) from .inl rfl,q5 hs⟩
     |agg cs=>exact hs.elim
    |agg m=>cases v with
     |full _ _=>exact hs.elim
     |one c=>exact hs.elim
     |agg cs=>exact ⟨⟨hs.1,VD.refl _⟩,q5 hs.2⟩
    |ref q o=>exact absurd rfl (hp q o)
    |fq q o=>exact absurd rfl (hp' q o)
  cases p with
  |one=>exact gen (by simp) (by simp) (by simpa [nM] using hq) (by simpa [Am] using hf)
  |agg m=>exact gen (by simp) (by simp) (by simpa [nM] using hq) (by simpa [Am] using hf)
  |fq g cs=>simp [nM] at hq
  |ref q' off=>
   simp only [nM] at hq;split at hq
   case isFalse=>cases hq
   rename_i hqq;obtain ⟨rfl,rfl⟩:=hqq;cases sd with
   |loc i o=>
    simp only [Am] at hf;split at hf
    case isFalse=>cases hf
    rename_i hc;obtain ⟨hc1,rfl⟩:=hc;simp only [A1,A0,A3,C1] at hf;obtain ⟨as',u2,h2,rfl,rfl⟩:=hf;obtain ⟨hi,j,g1,g2⟩:=hr.1;obtain ⟨j',g3,_,g4⟩:=hl.get hc1;rw [g1] at g4;injection g4 with g4;subst g4
    have hlt:=(As.1 g3).1;obtain ⟨lv,Fp,q1,q2,q3,q6,q7,FC,q4,q5⟩:=El hn (q:=q'+1) hm hl hr.2 hq hlt h2;refine ⟨.ref q'::lv,Fp,?_,q2,q3,?_,?_,.ref q' 0::FC,?_,fun hs=>⟨⟨rfl,rfl,q',by simp [hlt],rfl⟩,q5 hs.2.2⟩⟩
    ·subst g2;simp only [dW];rw [C6 ⟨trivial,Y9 hn g3⟩,abe g3,q1];have:(aK.take q').length=q':=by rw [Fo];omega
     simp [this]
    ·intro j2 hj2;obtain ⟨i2,a1,a2⟩:=q6 j2 hj2;exact ⟨i2,by rw [D3];exact G2 _ a1,a2⟩
    ·subst g2;rw [D3,D3];exact l8.append (fun j2 hj2=>by simp only [wO,B8] at hj2;subst hj2;exact ⟨i,by simp [nE],hi,g1⟩) q7
    ·simp [sj,XY,q4]
   |_=>simp [Am] at hf
theorem KD:∀{cs:List C} {ds:List D},av CD cs ds->jF ds=some cs/\∀hp:Heap,jZ hp ds=some (cs,[])
 |[],[],_=>⟨rfl,fun _=>rfl⟩
 |c::cs,d::ds,hr=>by
  obtain ⟨h1,h2⟩:=KD hr.2;rcases hr.1 with rfl|⟨xs,n,rfl,rfl⟩
  ·exact ⟨by simp [jF,h1],fun hp=>by simp [jZ,nP,ay,h2]⟩
  ·exact ⟨by simp [jF,h1],fun hp=>by simp [jZ,nP,ay,h2]⟩
 |[],_::_,hr=>hr.elim
 |_::_,[],hr=>hr.elim
theorem FO:∀{ms:List Nat} {xss:List (List C)} {aK:List Nat},fB (F8 h) ms xss aK->jg h aK=some xss
 |[],[],[],_=>rfl
 |m::ms,xs::xss,j::aK,hb=>by obtain ⟨_,ds,h1,h2⟩:=hb.1;simp [jg,h1,(KD h2).1,FO hb.2]
 |[],_::_,_,h1=>h1.elim
 |[],[],_::_,h1=>h1.elim
 |_::_,[],_,h1=>h1.elim
 |_::_,_::_,[],h1=>h1.elim
theorem ZB:∀(bs:List (List C)) (q j:Nat) (cs:List C),bs[j]?=some cs->ax (JA q bs) (q+j)=.box (cs.map .c)
 |[],_,_,_,hj=>by simp at hj
 |b::bs,q,0,cs,hj=>by simp only [C0,A0] at hj;subst hj;simp [JA,ax]
 |b::bs,q,j+1,cs,hj=>by
  simp only [Bm] at hj;have:=ZB bs (q+1) j cs hj
  simp only [JA,ax];rw [E0 (by omega),show q+(j+1)=q+1+j by omega]
  exact this
theorem N7:∀cs:List C,av CD cs (cs.map .c)
 |[]=>trivial
 |_::cs=>⟨.inl rfl,N7 cs⟩
theorem ZG {hp:Heap}:∀{ms:List Nat} {xss:List (List C)} {q:Nat},av (fun m (xs:List C)=>xs.length=m) ms xss->(∀j cs,xss[j]?=some cs->ax hp (q+j)=.box (cs.map .c))->fB (F8 hp) ms xss ((List.range xss.length).map (q+·))
 |[],[],q,_,_=>trivial
 |m::ms,xs::xss,q,hs,hg=>by
  rw [C5,List.range_succ_eq_map,D4,List.map_map];refine ⟨⟨hs.1,_,hg 0 xs rfl,N7 xs⟩,?_⟩;have:=ZG (q:=q+1) hs.2 fun j cs hj=>by
   have:=hg (j+1) cs (by simpa using hj)
   rw [show q+1+j=q+(j+1) by omega];exact this
  have e:((fun x=>q+x) ∘ Nat.succ)=fun x=>q+1+x:=by funext x;simp;omega
  rw [e];exact this
 |[],_::_,_,hs,_=>hs.elim
 |_::_,[],_,hs,_=>hs.elim
theorem MS:∀{ms:List Nat} {xss:List (List C)} {q:Nat} {hp:Heap},fB (F8 hp) ms xss ((List.range xss.length).map (q+·))->xW hp q xss.length=some (xss,[])
 |_,[],_,_,_=>rfl
 |m::ms,xs::xss,q,hp,hb=>by
  rw [C5,List.range_succ_eq_map,D4,List.map_map] at hb;obtain ⟨⟨_,ds,h1,h2⟩,hb⟩:=hb;have e:((fun x=>q+x) ∘ Nat.succ)=fun x=>q+1+x:=by funext x;simp;omega
  rw [e] at hb;have:=MS hb
  rw [C5];simp only [Hx] at h1;simp [xW,h1,(KD h2).2,ay,this]
 |[],_::_,_,_,hb=>by rw [C5,List.range_succ_eq_map,D4] at hb;exact hb.elim
theorem F8.upd {hp:Heap} {us:List (Nat×Obj)} {k0:Nat} (hu:∀p∈us,k0<=p.1) {m:Nat} {xs:List C} {j:Nat} (hj:j < k0) (hb:F8 hp m xs j):F8 (ay hp us) m xs j:=by obtain ⟨h1,ds,h2,h3⟩:=hb;exact ⟨h1,ds,by rw [MZ fun p hp he=>by have:=hu p hp;omega];exact h2,h3⟩
theorem fB.mem3 {α β γ:Type} {R R':α->β->γ->Prop}:∀{aJ:List α} {bs:List β} {cs:List γ},(∀a b c,c∈cs->R a b c->R' a b c)->fB R aJ bs cs->fB R' aJ bs cs
 |[],[],[],_,_=>trivial
 |_::_,_::_,_::_,h,h1=>⟨h _ _ _ (by simp) h1.1,fB.mem3 (fun a b c hc=>h a b c (by simp [hc])) h1.2⟩
 |[],_::_,_,_,h1=>h1.elim
 |[],[],_::_,_,h1=>h1.elim
 |_::_,[],_,_,h1=>h1.elim
 |_::_,_::_,[],_,h1=>h1.elim
theorem Qm:∀{ms:List Nat} {xss:List (List C)} {aK:List Nat} (hp:Heap),av (fun m (xs:List C)=>xs.length=m) ms xss->aK.length=xss.length->aK.Nodup->
  fB (F8 (ay hp ((aK.zip xss).map fun p=>(p.1,Obj.box (p.2.map .c))))) ms xss aK/\∀j,j ∉ aK->ax (ay hp ((aK.zip xss).map fun p=>(p.1,Obj.box (p.2.map .c)))) j=ax hp j
 |[],[],[],hp,_,_,_=>⟨trivial,fun _ _=>rfl⟩
 |m::ms,xs::xss,j::aK,hp,hs,hl,hn=>by
  rw [Kp] at hn;obtain ⟨h1,h2⟩:=Qm ((j,Obj.box (xs.map .c))::hp) hs.2 (by simpa using hl) hn.2
  simp only [List.zip_cons_cons,D4,ay];refine ⟨⟨⟨hs.1,xs.map .c,?_,N7 xs⟩,h1⟩,fun i hi=>?_⟩
  ·rw [h2 j hn.1];simp [ax]
  ·simp only [D2,not_or] at hi;rw [h2 i hi.2];simp [ax,Ne.symm hi.1]
 |[],[],_::_,_,_,hl,_=>by simp at hl
 |[],_::_,_,_,hs,_,_=>hs.elim
 |_::_,[],_,_,hs,_,_=>hs.elim
 |_::_,_::_,[],_,_,hl,_=>by simp at hl
theorem aa6:∀rs:List V,Dc (rs.map V.mY)=RH rs
 |[]=>rfl
 |[_]=>rfl
 |_::_::_=>rfl
theorem Cz:∀{ps:List PS} {q m:Nat},nM q ps=some m->∀g cs,PS.fq g cs ∉ ps
 |[],_,_,_,_,_=>by simp
 |.one::ps,q,m,h,g,cs=>by
  have:=Cz (ps:=ps) (q:=q) (m:=m) (by simpa [nM] using h) g cs
  simpa using this
 |.agg _::ps,q,m,h,g,cs=>by
  have:=Cz (ps:=ps) (q:=q) (m:=m) (by simpa [nM] using h) g cs
  simpa using this
 |.ref _ _::ps,q,m,h,g,cs=>by
  simp only [nM] at h;split at h
  ·have:=Cz h g cs
   simpa using this
  ·cases h
 |.fq _ _::_,_,_,h,_,_=>by simp [nM] at h
theorem VZ:∀{ps:List PS} {iq:List SD} {q i:Nat},(∀g cs,PS.fq g cs ∉ ps)->oJ ps iq q=some i->i∈iq.flatMap nE
 |[],_,q,i,_,h=>by simp [oJ] at h
 |.one::_,[],q,i,_,h=>by cases h
 |.agg _::_,[],q,i,_,h=>by cases h
 |.ref _ _::_,[],q,i,_,h=>by cases h
 |.fq _ _::_,[],q,i,_,h=>by cases h
 |p::ps,sd::iq,q,i,hno,h=>by
  have rest:oJ ps iq q=some i->i∈(sd::iq).flatMap nE:=fun h=>by rw [D3];exact G2 _ (VZ (fun g cs hm=>hno g cs (Fm _ hm)) h)
  cases p with
  |one=>exact rest (by simpa [oJ] using h)
  |agg m=>exact rest (by simpa [oJ] using h)
  |ref q' o=>
   cases sd with
   |loc i' o'=>
    simp only [oJ] at h;split at h
    ·simp only [A0] at h;subst h;simp [nE]
    ·exact rest h
   |_=>exact rest (by simpa [oJ] using h)
  |fq g cs=>exact absurd (Fk ..) (hno g cs)
theorem Pv {ps:List PS} {iq:List SD} (hno:∀g cs,PS.fq g cs ∉ ps):∀{m q:Nat} {bx:List Nat},zy ps iq q m=some bx->∀i∈bx,i∈iq.flatMap nE
 |0,_,bx,h=>by simp only [zy,A0] at h;subst h;simp
 |m+1,q,bx,h=>by
  simp only [zy,A1,A0] at h;obtain ⟨i,h1,is,h2,rfl⟩:=h;intro j hj;simp only [D2] at hj;rcases hj with rfl|hj
  ·exact VZ hno h1
  ·exact Pv hno h2 j hj
end
section
variable {b:Bs} {ρ:List W} {μ:Nat->Option Nat} {σ:Sy} {h:Heap} {k:Nat} {call:qp} {head:qZ} {r:R} {F:DF} {sig:Nat->Option eT}
theorem aqb {h:Heap} {k0 k1:Nat}:∀{ks:List RS} {vs:List V} {ds:List D},ks.all RS.isC=true->fB (RsS h k0) ks vs ds->fB (RsS h k1) ks vs ds:=by
 have many:∀{ks:List CK} {cs:List C} {ds:List D},ks.all CK.isC=true->fB (CkS h k0) ks cs ds->fB (CkS h k1) ks cs ds:=by
  intro ks;induction ks with
  |nil=>intro cs ds _ hr;cases cs<;>cases ds<;>first|trivial|exact hr.elim
  |cons ck ks ih=>
   intro cs ds hk hr;cases cs with
   |nil=>exact hr.elim
   |cons c cs=>cases ds with
    |nil=>exact hr.elim
    |cons d ds=>
     simp only [I3,A5] at hk;cases ck with
     |c=>exact ⟨hr.1,ih hk.2 hr.2⟩
     |_=>cases hk.1
 intro ks;induction ks with
 |nil=>intro vs ds _ hr;cases vs<;>cases ds<;>first|trivial|exact hr.elim
 |cons rs ks ih=>
  intro vs ds hk hr;cases vs with
  |nil=>exact hr.elim
  |cons v vs=>cases ds with
   |nil=>exact hr.elim
   |cons d ds=>
    simp only [I3,A5] at hk;refine ⟨?_,ih hk.2 hr.2⟩;cases rs with
    |one k=>cases v with
     |full _ _=>exact hr.1.elim
     |one c=>cases k with
      |c=>exact hr.1
      |_=>cases hk.1
     |agg cs=>exact hr.1.elim
    |agg cks=>cases v with
     |full _ _=>exact hr.1.elim
     |one c=>exact hr.1.elim
     |agg cs=>obtain ⟨es,h1,h2⟩:=hr.1;exact ⟨es,h1,many hk.1 h2⟩
theorem YS {kt:SD->Sy->Nat->Tree} (hcall:qf F sig call) (hm:Rm b (nm ρ μ σ) h k σ.lens) {f:Nat} {iq:List SD} {ds:List D} (hds:av (RD (nm ρ μ σ)) iq ds) (hd:aA call head (Rk sig σ ρ.length f iq kt) ρ=some r):
  ∃n0 d us,(∀n,n0<=n->CY (jI F n) h f ds=some (d,us))/\ZZ b ρ μ σ call head kt r d (ay h us) k/\l8 (nm ρ μ σ) (ds.flatMap wO) (iq.flatMap nE)/\l8 (nm ρ μ σ) (us.map (·.1)) (iq.flatMap nE):=by
 unfold Rk at hd;split at hd
 case h_2=>cases hd
 rename_i s hs;split at hd
 case isFalse=>cases hd
 rename_i hup;unfold Ep at hd;rw [hs] at hd;simp only at hd;by_cases Re:s.nat=true\/s.cd f≠f
 ·rw [C6 Re] at hd;cases hd
 rw [E0 Re] at hd;have hsn:¬s.nat=true:=fun e=>Re (.inl e)
 have hcf:s.cd f=f:=Classical.byContradiction fun e=>Re (.inr e)
 simp only [C2,C7] at hd;split at hd
 case isFalse=>cases hd
 rename_i hkind;split at hd
 case h_2=>cases hd
 rename_i bx hbx;split at hd
 case isFalse=>cases hd
 rename_i hnd;split at hd
 case h_2=>cases hd
 rename_i aJ us hargs;split at hd
 case h_2=>cases hd
 rename_i bs hbs;have hlb:=GQ hbx;obtain ⟨aK,hl⟩:=Jl hds hbx;have hbn:=yY hnd;have hln:=lu.nodup hm hl hbn;have hll:aK.length=s.boxes.length:=by rw [<-hlb];exact hl.len.symm
 obtain ⟨lv,Df,a1,a2,a3,a6,a7,FC,a4,a5⟩:=El hln (q:=0) hm hl hds (by rw [hll];exact hup) (Fl _) hargs
 obtain ⟨xss,c1,c2⟩:=BU (N:=(nm ρ μ σ).upd us) a3 hl hbs;have hxl:xss.length=aK.length:=by have:=c2.ab3;omega
 cases hr:Oh (kQ (σ.upd us) bx s.boxes (ρ.length+(s.rs.map RS.shape).length)) s.rs ρ.length with
 |mk acR σ2=>
  simp only [hr,aA,A1] at hd;obtain ⟨akU,h1,xss',h2,rr,h3,hd⟩:=hd;have e1:akU=FC:=by have:sj ρ aJ=some FC:=a4;rw [h1] at this;injection this
  have e2:xss'=xss:=by have:DK ρ bs=some xss:=c1;rw [h2] at this;injection this
  subst e1 e2;obtain ⟨s',g1,g2,g3,g4⟩:=hcall _ _ _ _ h3;rw [hs] at g1;injection g1 with g1;subst g1
  have hrange:List.range aK.length=(List.range xss'.length).map (0+·):=by rw [hxl];simp
  have arP:fB (F8 (JA 0 xss')) s.boxes xss' (List.range aK.length):=by rw [hrange];exact ZG g3 fun j cs hj=>ZB xss' 0 j cs hj
  obtain ⟨n,rs,h',k',f1,f2,f3,f4,f5,f6,f7⟩:=(hcf▸(g4.1 (by simpa using hsn)).1) (JA 0 xss') xss'.length (List.range aK.length) (lv.map LV.mY) (a5 g2) arP List.nodup_range (fun j hj=>by rw [K2] at hj;omega)
  unfold sized at hd;split at hd
  case isFalse=>cases hd
  rename_i hsz;obtain ⟨ws,w1,w2⟩:=uk hd;rw [C4] at w1;obtain ⟨yss,w3,w4,w5⟩:=Eo w2;have akx:yss=rr.2:=by
   apply List.ext_getElem?;intro q;by_cases hq:q < s.boxes.length
   ·rw [<-w4 q hq,E4]
   ·have q1:yss.length=s.boxes.length:=w3.len.symm;rw [Hp (by omega),Hp (by rw [hsz.2];omega)]
  subst akx;obtain ⟨Fp,d1,d2,_⟩:=E5 (ZU f5);have hrl:rr.2.length=aK.length:=by rw [hsz.2,hll]
  have f4':fB (F8 (ay h' Fp)) s.boxes rr.2 (List.range aK.length):=f4.mem3 fun m xs j hj hb=>hb.upd d2 (by rw [K2] at hj;omega)
  have hba:xW (ay h' Fp) 0 xss'.length=some (rr.2,[]):=by
   have:=MS (q:=0) (ms:=s.boxes) (xss:=rr.2) (hp:=ay h' Fp) (by rw [hrl];simpa using f4')
   rw [hxl,<-hrl];exact this
  have hev:∀m,n+1<=m->jI F m f lv xss'=some (rr.1,rr.2):=fun m hmn=>by refine abH hmn f lv xss' _ ?_;simp [jI,f1,d1,hba]
  have aaj:av (fun m (xs:List C)=>xs.length=m) s.boxes rr.2:=by
   have aux:∀{ms:List Nat} {xss:List (List C)} {l:List Nat} {hp:Heap},fB (F8 hp) ms xss l->av (fun m (xs:List C)=>xs.length=m) ms xss:=by
    intro ms;induction ms with
    |nil=>intro xss l hp h;cases xss with|nil=>trivial|cons _ _=>exact h.elim
    |cons m ms ih=>intro xss l hp h;cases xss with|nil=>exact h.elim|cons _ _=>cases l with|nil=>exact h.elim|cons _ _=>exact ⟨h.1.1,ih h.2⟩
   exact aux f4
  obtain ⟨z1,z2⟩:=Qm (aK:=aK) (ay h Df) aaj hrl.symm hln;obtain ⟨q1,q2⟩:=ZM (h:=ay h (Df++(aK.zip rr.2).map fun p=>(p.1,Obj.box (p.2.map .c)))) hkind f5 (Mw rr.1)
  have hmu:Rm b (nm (ρ++(ws++rr.2.map .l)) μ (σ.upd us)) (ay h Df) k (σ.upd us).lens:=a3.ext (ws++rr.2.map W.l);have hwl:(ρ++ws).length=ρ.length+(s.rs.map RS.shape).length:=by rw [Ax,w1.len]
  obtain ⟨v1,v2⟩:=Mx (σ:=σ.upd us) (ρ:=ρ++(ws++rr.2.map W.l)) (pre:=ρ++ws) (xss:=rr.2) hmu hbn hlb hl (Az hbs) (An k) (fun j _ hj=>z2 j hj) z1 (by rw [B9])
  rw [hwl] at v1 v2;rw [<-gP] at v2;have q3:=aqb (k0:=xss'.length) (k1:=k) hkind q1;obtain ⟨μ',p1,p2,p3,p4,_⟩:=Me (ρ:=ρ++(ws++rr.2.map .l)) (k0:=k) (pre:=ρ) (post:=rr.2.map .l) hm.le v2 w1 (by rw [B9]) q3 (by rw [q2];exact J1) (by rw [q2];simp) hr
  refine ⟨n+1,RH rr.1,Df++(aK.zip rr.2).map fun p=>(p.1,Obj.box (p.2.map .c)),fun m hmn=>?_,⟨ws++rr.2.map .l,μ',σ2,Zj acR,p4.trans Bv.1,((a2.trans (lC _ (ws++rr.2.map W.l))).trans v1).trans p1,p2,?_,?_⟩,a7,?_⟩
  ·have:dW h ds []=some (lv,aK,Df):=by simpa using a1
   simp [CY,this,FO c2,hev m hmn,hrl]
  ·rw [<-aa6];exact ajr p3
  ·rw [B9] at w5;rw [show (ρ++(ws++rr.2.map W.l)).length=ρ.length+(s.rs.map RS.shape).length+s.boxes.length by have q1:=w1.len;have q2:=hsz.2;simp only [Ax,Lw] at *;omega]
   exact w5
  ·rw [Is];intro j hj;rw [B0] at hj;rcases hj with hj|hj
   ·exact a6 j hj
   ·have hj':j∈aK:=by
     rw [List.map_map,J0] at hj;obtain ⟨p,hp,rfl⟩:=hj;exact (List.of_mem_zip hp).1
    obtain ⟨i,m1,m2,m3⟩:=lu.mem hl j hj';exact ⟨i,Pv (Cz hup) hbx i m1,m2,m3⟩
end
end Go.Ey
namespace Go.Ey
structure TrR (N:Nm) (a c:Trace):Prop where
 rdT:a.rdT=c.rdT
 WY:a.WY=c.WY
 Xo:l8 N c.Xo a.Xo
 Xc:l8 N c.Xc a.Xc
theorem l8.mono {N N':Nm} (hv:j4 N N') {js is:List Nat} (h:l8 N js is):l8 N' js is:=fun j hj=>by obtain ⟨i,h1,h2,h3⟩:=h j hj;exact ⟨i,h1,F0 h2 hv.nx,by rw [hv.mu i h2];exact h3⟩
theorem TrR.mono {N N':Nm} (hv:j4 N N') {a c:Trace} (h:TrR N a c):TrR N' a c:=⟨h.rdT,h.WY,h.Xo.mono hv,h.Xc.mono hv⟩
theorem PE {N:Nm} (hinj:∀i i' j,i < N.nx->i' < N.nx->N.μ i=some j->N.μ i'=some j->i=i') {a c a' c':List Nat} (h1:l8 N a' a) (h2:l8 N c' c) (h:meets a c=false):meets a' c'=false:=by
 unfold meets at *;rw [List.any_eq_false] at h |-;intro j hj hc;simp only [List.contains_eq_mem,G0] at hc;obtain ⟨i,q1,q2,q3⟩:=h1 j hj;obtain ⟨i',p1,p2,p3⟩:=h2 j hc;have:=hinj i i' j q2 p2 q3 p3
 subst this;exact h i q1 (by simpa using p1)
theorem l8.app {N:Nm} {a c a' c':List Nat} (h1:l8 N a' a) (h2:l8 N c' c):l8 N (a'++c') (a++c):=h1.append h2
theorem abx {N:Nm} (hinj:∀i i' j,i < N.nx->i' < N.nx->N.μ i=some j->N.μ i'=some j->i=i') {a c a' c':Trace} (h1:TrR N a a') (h2:TrR N c c') (h:clash a c=false):clash a' c'=false:=by
 unfold clash at *;simp only [Bool.or_eq_false_iff] at h |-;obtain ⟨⟨⟨q1,q2⟩,q3⟩,q4⟩:=h;refine ⟨⟨⟨?_,?_⟩,?_⟩,?_⟩
 ·rw [<-h1.WY,<-h2.rdT,<-h2.WY];exact q1
 ·rw [<-h2.WY,<-h1.rdT];exact q2
 ·exact PE hinj h1.Xc (h2.Xo.app h2.Xc) q3
 ·exact PE hinj h2.Xc h1.Xo q4
theorem Qz {N:Nm} (hinj:∀i i' j,i < N.nx->i' < N.nx->N.μ i=some j->N.μ i'=some j->i=i') {m:Nat} {c c':Trace} (hc:TrR N c c'):∀{l l':List Trace} {q:Nat},av (TrR N) l l'->NI m c q l=true->NI m c' q l'=true
 |[],[],_,_,_=>rfl
 |a::l,a'::l',q,hr,h=>by
  simp only [NI,A5,Bool.or_eq_true] at h |-;refine ⟨h.1.imp id fun h1=>?_,Qz hinj hc hr.2 h.2⟩
  have:clash a c=false:=by simpa using h1
  simp [abx hinj hr.1 hc this]
 |[],_::_,_,hr,_=>hr.elim
 |_::_,[],_,hr,_=>hr.elim
theorem G6 {N:Nm} (hinj:∀i i' j,i < N.nx->i' < N.nx->N.μ i=some j->N.μ i'=some j->i=i'):∀{ts ts':List Trace} {ws:List Nat} {pre pre':List Trace},av (TrR N) pre pre'->av (TrR N) ts ts'->om pre ts ws=true->om pre' ts' ws=true
 |[],[],_,_,_,_,_,_=>by simp [om]
 |c::ts,c'::ts',[],_,_,_,_,h=>by simp [om] at h
 |c::ts,c'::ts',w::ws,pre,pre',hp,hr,h=>by simp only [om,A5] at h |-;exact ⟨Qz hinj hr.1 hp h.1,G6 hinj (hp.append (show av (TrR N) [c] [c'] from ⟨hr.1,trivial⟩)) hr.2 h.2⟩
 |[],_::_,_,_,_,_,hr,_=>hr.elim
 |_::_,[],_,_,_,_,hr,_=>hr.elim
section
variable {b:Bs} {call:qp} {head:qZ} {r:R} {F:DF} {sig:Nat->Option eT}
def FJ (b:Bs) (ρ:List W) (μ:Nat->Option Nat) (σ:Sy) (call:qp) (head:qZ) (kt:Sy->Nat->Kn->List Trace->Tree) (r:R) (tsS:List Trace) (s':St) (ts:List Trace):Prop:=
 ∃(ws:List W) (μ':Nat->Option Nat) (σ':Sy) (Bc:Kn) (adJ:List Trace),Rl b (ρ++ws) μ' σ' s'/\OU Bc (ρ++ws)/\aA call head (kt σ' (ρ++ws).length Bc (tsS++adJ)) (ρ++ws)=some r/\j4 (nm ρ μ σ) (nm (ρ++ws) μ' σ')/\av (TrR (nm (ρ++ws) μ' σ')) adJ ts
theorem FJ.pre {ρ:List W} {μ:Nat->Option Nat} {σ:Sy} {kt:Sy->Nat->Kn->List Trace->Tree} {tsS:List Trace} {s':St} {ts:List Trace} {ws:List W} {μ1:Nat->Option Nat} {σ1:Sy} {a c:Trace} {dst:Option Nat} {sd:SD} (hv:j4 (nm ρ μ σ) (nm (ρ++ws) μ1 σ1)) (ht:TrR (nm (ρ++ws) μ1 σ1) a c)
  (h:FJ b (ρ++ws) μ1 (σ1.put dst sd) call head kt r (tsS++[a]) s' ts):FJ b ρ μ σ call head kt r tsS s' (c::ts):=by
 obtain ⟨ws',μ',σ',Bc,adJ,h1,h2,h3,h4,h5⟩:=h;rw [XU] at h4;rw [B9] at h1 h2 h3 h4 h5;rw [B9 tsS] at h3;exact ⟨ws++ws',μ',σ',Bc,a::adJ,h1,h2,h3,hv.trans h4,ht.mono h4,h5⟩
theorem OO {kt:Sy->Nat->Kn->List Trace->Tree} {i:gD} {is:List gD} {σ:Sy} {n:Nat} {kn:Kn} {ts:List Trace} (hp:EM i.ins=true):
  uh sig kt (i::is) σ n kn ts=J7 σ kn i.guard fun w kn=>match w with
   |false=>uh sig kt is (σ.put i.dst (.jG [])) n kn (ts++[⟨(match i.guard with|some (t,_)=>[t]|none=>[]),i.dst.toList,[],[]⟩])
   |true=>aX σ n (xS σ) (fun d σ' n=>uh sig kt is (σ'.put i.dst d) n kn (ts++[⟨(match i.guard with|some (t,_)=>[t]|none=>[])++Ak (mZ i.ins),i.dst.toList,iL (xS σ) i.ins,Eu σ.nx σ'.nx (Wm (xS σ) i.ins)⟩])) i.ins:=by
 simp only [uh];congr 1;funext w kn;cases w with
 |false=>rfl
 |true=>cases hi:i.ins<;>first|rfl|(rw [hi] at hp;cases hp)
theorem Vi {σ:Sy} {n f:Nat} {iq:List SD} {kt:SD->Sy->Nat->Tree} {ρ:List W} (hd:aA call head (Fg sig σ n f iq kt) ρ=some r):iq.all yt=true:=by
 unfold Fg at hd;split at hd
 ·rename_i hf;exact NQ hf
 ·cases hd
theorem agt {dx:X->D} {h:Heap} {k:Nat} {i:Ins} {d:D} {us:List (Nat×Obj)} (hr:JY i=true) (h1:step dx h k i=some (d,us)):us=[]:=by
 cases i<;>first|(cases hr;done)|skip
 all_goals
  simp only [step,dF,Fi,A3] at h1;obtain ⟨_,_,_,h2⟩:=h1;exact h2.symm
theorem acU {N:Nm} {sx:X->SD} {dx:X->D} {h:Heap} {k:Nat} {i:Ins} {d:D} {us:List (Nat×Obj)} {nx nx':Nat} (h1:step dx h k i=some (d,us)) (h2:∀j,j∈us.map (·.1)->∃q∈Eu nx nx' (iL sx i),q < N.nx/\N.μ q=some j):l8 N (us.map (·.1)) (Eu nx nx' (Wm sx i)):=by
 unfold Wm;by_cases hr:JY i=true
 ·rw [agt hr h1];exact l8.nil
 ·rw [E0 hr];exact h2
theorem Vq {cl:Callee} {ll:Bw} {dx:X->D} {h:Heap} {k:Nat} {i:Ins} (hp:EM i=true):j3 cl ll dx h k i=step dx h k i:=by
 cases i with
 |lH f xs=>cases hp
 |_=>exact KJ (cl:=cl) hp
theorem tC (hcall:qf F sig call) {kt:Sy->Nat->Kn->List Trace->Tree} {nx:Nat}:∀(is:List gD) (ρ:List W) (μ:Nat->Option Nat) (σ:Sy) (e:Env) (h:Heap) (k:Nat) (kn:Kn) (tsS:List Trace),Rl b ρ μ σ ⟨e,h,nx+k⟩->OU kn ρ->aA call head (uh sig kt is σ ρ.length kn tsS) ρ=some r->
  ∃n0 e' h' ts,(∀n,n0<=n->lT (jL F n) (jI F n) nx k is e h=some (e',h',ts))/\FJ b ρ μ σ call head kt r tsS ⟨e',h',nx+(k+is.length)⟩ ts
 |[],ρ,μ,σ,e,h,k,kn,tsS,hR,hk,hd=>⟨0,e,h,[],fun _ _=>rfl,[],μ,σ,kn,[],by rw [Cl];exact hR,by rw [Cl];exact hk,by rw [Cl,Cl];exact hd,by rw [Cl];exact j4.refl _,trivial⟩
 |i::is,ρ,μ,σ,e,h,k,kn,tsS,hR,hk,hd=>by
  have hlen:nx+(k+(i::is).length)=nx+(k+1+is.length):=by simp;omega
  have skip:∀{Bc:Kn},OU Bc ρ->wanted e i.guard=some false->aA call head (uh sig kt is (σ.put i.dst (.jG [])) ρ.length Bc (tsS++[⟨(match i.guard with|some (t,_)=>[t]|none=>[]),i.dst.toList,[],[]⟩])) ρ=some r->
    ∃n0 e' h' ts,(∀n,n0<=n->lT (jL F n) (jI F n) nx k (i::is) e h=some (e',h',ts))/\FJ b ρ μ σ call head kt r tsS ⟨e',h',nx+(k+(i::is).length)⟩ ts:=by
   intro Bc hk' hw hd;have hR':=hR.step rfl (j4.refl _) (hR.mem.tick (show nx+k<=nx+(k+1) by omega)) UD i.dst
   obtain ⟨n0,e',h',ts,h1,h2⟩:=tC hcall is ρ μ _ _ _ (k+1) Bc _ hR' hk' hd;refine ⟨n0,e',h',⟨(match i.guard with|some (t,_)=>[t]|none=>[]),i.dst.toList,[],[]⟩::ts,fun n hn=>?_,?_⟩
   ·simp only [lT,hw,A2,A4,h1 n hn];rfl
   ·rw [hlen];refine FJ.pre (ws:=[]) (μ1:=μ) (σ1:=σ) (a:=⟨(match i.guard with|some (t,_)=>[t]|none=>[]),i.dst.toList,[],[]⟩) (by rw [Cl];exact j4.refl _) ⟨rfl,rfl,l8.nil,l8.nil⟩ (by rw [Cl];exact h2)
  by_cases hp:EM i.ins=true
  ·rw [OO hp] at hd;obtain ⟨w,Bc,g1,g2,g3⟩:=IZ hR.env hk hd;cases w with
   |false=>exact skip g2 g1 g3
   |true=>
    obtain ⟨d,us,h1,ws,μ',σ',sd,p1,p2,p3,p4,p5,p6⟩:=acr hR.mem (Ew hR.env) i.ins g3;have atK:=acM (Ew hR.env) i.ins (fun f xs e=>by rw [e] at hp;cases hp) g3
    have hR':=hR.step p1 p2 p3 p4 i.dst;obtain ⟨n0,e',h',ts,q1,q2⟩:=tC hcall is (ρ++ws) μ' _ _ _ (k+1) Bc _ hR' (g2.ext ws) p5;refine ⟨n0,e',h',⟨(match i.guard with|some (t,_)=>[t]|none=>[])++Ak (mZ i.ins),i.dst.toList,touches (yh e) i.ins,us.map (·.1)⟩::ts,fun n hn=>?_,?_⟩
    ·simp only [lT,g1,A2,A4,E7,Vq hp];rw [show step (yh e) h (nx+k) i.ins=some (d,us) from h1]
     simp only [A4,q1 n hn];rfl
    ·rw [hlen];exact FJ.pre (a:=⟨(match i.guard with|some (t,_)=>[t]|none=>[])++Ak (mZ i.ins),i.dst.toList,iL (xS σ) i.ins,Eu σ.nx σ'.nx (Wm (xS σ) i.ins)⟩) p2 ⟨rfl,rfl,atK.mono p2,acU h1 p6⟩ q2
  ·simp only [uh] at hd;obtain ⟨w,Bc,g1,g2,g3⟩:=IZ hR.env hk hd;cases w with
   |false=>exact skip g2 g1 g3
   |true=>
    cases hi:i.ins with
    |pick c x y=>
     rw [hi] at g3;obtain ⟨t,kn2,e1,e2,e3⟩:=Ay rfl g2 (Ew hR.env c) g3;have hR':=hR.step rfl (j4.refl _) (hR.mem.tick (show nx+k<=nx+(k+1) by omega)) (Ew hR.env (if t then x else y)) i.dst
     obtain ⟨n0,e',h',ts,q1,q2⟩:=tC hcall is ρ μ _ _ _ (k+1) kn2 _ hR' e2 e3;refine ⟨n0,e',h',⟨(match i.guard with|some (t,_)=>[t]|none=>[])++Ak (mZ i.ins),i.dst.toList,[],[]⟩::ts,fun n hn=>?_,?_⟩
     ·have Mi:yh e c=.c (.lit (.bool t)):=e1;simp only [lT,g1,A2,A4,E7,hi,j3,og,wQ,C2,C7,dX,step,Mi,asBool,dF,Hj,ay];have:=q1 n hn
      rw [show (if t=true then yh e x else yh e y)=yh e (if t=true then x else y) by cases t<;>rfl,this]
      rfl
     ·rw [hlen];refine FJ.pre (ws:=[]) (μ1:=μ) (σ1:=σ) (by rw [Cl];exact j4.refl _) ?_ (by rw [Cl];exact q2)
      rw [hi];exact ⟨rfl,rfl,l8.nil,l8.nil⟩
    |call f xs=>
     rw [hi] at g3;obtain ⟨n0,vs,us,rs,h1,h2,ws,μ',σ',sd,p1,p2,p3,p4,p5,p6⟩:=Mt hcall hR.mem (KI hR.env xs) g3;have hR':=hR.step p1 p2 p3 p4 i.dst;obtain ⟨n1,e',h',ts,q1,q2⟩:=tC hcall is (ρ++ws) μ' _ _ _ (k+1) Bc _ hR' (g2.ext ws) p5;refine ⟨max n0 n1,e',h',⟨(match i.guard with|some (t,_)=>[t]|none=>[])++Ak (mZ i.ins),i.dst.toList,touches (yh e) i.ins,us.map (·.1)⟩::ts,fun n hn=>?_,?_⟩
     ·have h1':iX h (xs.map (yh e))=some (vs,us):=h1;simp only [lT,g1,A2,A4,E7,hi,j3,og,wQ,C2,C7,dX,h1',h2 n (by omega)]
      have:=q1 n (by omega)
      simp only at this;rw [this];rfl
     ·rw [hlen];refine FJ.pre p2 ?_ q2;rw [hi];refine ⟨rfl,rfl,l8.mono p2 ?_,?_⟩
      ·have hok:∀x∈xs,yt (xS σ x)=true:=by
        have:=Vi (iq:=xs.map (xS σ)) g3
        rw [List.all_map,D0] at this;exact this
       exact Ms (g:=id) (Ew hR.env) hok
      ·rw [Lz] at p6;exact p6
    |gU f own xs=>
     rw [hi] at g3;simp [aA] at g3
    |lH f xs=>
     rw [hi] at g3;obtain ⟨n0,d,us,h1,⟨ws,μ',σ',sd,p1,p2,p3,p4,p5⟩,t1,t2⟩:=YS hcall hR.mem (KI hR.env xs) g3;have hR':=hR.step p1 p2 (p3.tick (show nx+k<=nx+(k+1) by omega)) p4 i.dst
     obtain ⟨n1,e',h',ts,q1,q2⟩:=tC hcall is (ρ++ws) μ' _ _ _ (k+1) Bc _ hR' (g2.ext ws) p5;refine ⟨max n0 n1,e',h',⟨(match i.guard with|some (t,_)=>[t]|none=>[])++Ak (mZ i.ins),i.dst.toList,touches (yh e) i.ins,us.map (·.1)⟩::ts,fun n hn=>?_,?_⟩
     ·have h1':CY (jI F n) h f (xs.map (yh e))=some (d,us):=h1 n (by omega)
      simp only [lT,g1,A2,A4,E7,hi,j3,h1'];have:=q1 n (by omega)
      simp only at this;rw [this];rfl
     ·rw [hlen];refine FJ.pre p2 ?_ q2;rw [hi];refine ⟨rfl,rfl,l8.mono p2 ?_,?_⟩
      ·rw [Lz,Lz] at t1;exact t1
      ·rw [Lz] at t2;exact fun j hj=>by obtain ⟨q,m1,m2⟩:=l8.mono p2 t2 j hj;exact ⟨q,F2 _ m1,m2⟩
    |jv x xs=>
     rw [hi] at g3;simp [aA] at g3
    |mkm=>rw [hi] at g3;simp [aX,aA] at g3
    |Pg k n ag z ok x y=>rw [hi] at g3;simp [aX,aA] at g3
    |O0 k n x y z=>rw [hi] at g3;simp [aX,aA] at g3
    |_=>rw [hi] at hp;exact absurd rfl hp
end
end Go.Ey
