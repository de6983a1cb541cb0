/- A part. -/
import Derived.Test.YtpnjgiplhijhpaaGreatDoorRY17
set_option linter.all false
namespace Go.Ey
structure NJ (N:Nm) (a c:Trace):Prop where
 E5:a.E5=c.E5
 Bo:a.Bo=c.Bo
 Dp:gz N c.Dp a.Dp
 zO:gz N c.zO a.zO
theorem gz.mono {N N':Nm} (hv:fG N N') {js is:List Nat} (h:gz N js is):gz N' js is:=fun j hj=>by obtain ⟨i,h1,h2,h3⟩:=h j hj;exact ⟨i,h1,Nat.lt_of_lt_of_le h2 hv.nx,by rw [hv.mu i h2];exact h3⟩
theorem NJ.mono {N N':Nm} (hv:fG N N') {a c:Trace} (h:NJ N a c):NJ N' a c:=⟨h.E5,h.Bo,h.Dp.mono hv,h.zO.mono hv⟩
theorem CX {N:Nm} (hinj:∀i i' j,i < N.nx->i' < N.nx->N.μ i=some j->N.μ i'=some j->i=i') {a c a' c':List Nat} (h1:gz N a' a) (h2:gz N c' c) (h:meets a c=false):meets a' c'=false:=by
 unfold meets at *;rw [List.any_eq_false] at h |-;intro j hj hc;simp only [List.contains_eq_mem,decide_eq_true_eq] at hc;obtain ⟨i,q1,q2,q3⟩:=h1 j hj;obtain ⟨i',p1,p2,p3⟩:=h2 j hc;have:=hinj i i' j q2 p2 q3 p3
 subst this;exact h i q1 (by simpa using p1)
theorem gz.app {N:Nm} {a c a' c':List Nat} (h1:gz N a' a) (h2:gz N c' c):gz N (a'++c') (a++c):=h1.append h2
theorem NC {N:Nm} (hinj:∀i i' j,i < N.nx->i' < N.nx->N.μ i=some j->N.μ i'=some j->i=i') {a c a' c':Trace} (h1:NJ N a a') (h2:NJ N c c') (h:clash a c=false):clash a' c'=false:=by
 unfold clash at *;simp only [Bool.or_eq_false_iff] at h |-;obtain ⟨⟨⟨q1,q2⟩,q3⟩,q4⟩:=h;refine ⟨⟨⟨?_,?_⟩,?_⟩,?_⟩
 ·rw [<-h1.Bo,<-h2.E5,<-h2.Bo];exact q1
 ·rw [<-h2.Bo,<-h1.E5];exact q2
 ·exact CX hinj h1.zO (h2.Dp.app h2.zO) q3
 ·exact CX hinj h2.zO h1.Dp q4
theorem BO {N:Nm} (hinj:∀i i' j,i < N.nx->i' < N.nx->N.μ i=some j->N.μ i'=some j->i=i') {m:Nat} {c c':Trace} (hc:NJ N c c'):∀{l l':List Trace} {q:Nat},aj (NJ N) l l'->vH m c q l=true->vH m c' q l'=true
 |[],[],_,_,_=>rfl
 |a::l,a'::l',q,hr,h=>by
  simp only [vH,Bool.and_eq_true,Bool.or_eq_true] at h |-;refine ⟨h.1.imp id fun h1=>?_,BO hinj hc hr.2 h.2⟩
  have:clash a c=false:=by simpa using h1
  simp [NC hinj hr.1 hc this]
 |[],_::_,_,hr,_=>hr.elim
 |_::_,[],_,hr,_=>hr.elim
theorem uF {N:Nm} (hinj:∀i i' j,i < N.nx->i' < N.nx->N.μ i=some j->N.μ i'=some j->i=i'):∀{ts ts':List Trace} {ws:List Nat} {pre pre':List Trace},aj (NJ N) pre pre'->aj (NJ N) ts ts'->dL pre ts ws=true->dL pre' ts' ws=true
 |[],[],_,_,_,_,_,_=>by simp [dL]
 |c::ts,c'::ts',[],_,_,_,_,h=>by simp [dL] at h
 |c::ts,c'::ts',w::ws,pre,pre',hp,hr,h=>by simp only [dL,Bool.and_eq_true] at h |-;exact ⟨BO hinj hr.1 hp h.1,uF hinj (hp.append (show aj (NJ N) [c] [c'] from ⟨hr.1,trivial⟩)) hr.2 h.2⟩
 |[],_::_,_,_,_,_,hr,_=>hr.elim
 |_::_,[],_,_,_,_,hr,_=>hr.elim
section
variable {b:Bs} {call:uL} {head:wu} {r:R} {F:nD} {sig:Nat->Option aN}
def rU (b:Bs) (ρ:List W) (μ:Nat->Option Nat) (σ:Sy) (call:uL) (head:wu) (kt:Sy->Nat->Kn->List Trace->Tree) (r:R) (NH:List Trace) (s':St) (ts:List Trace):Prop:=
 ∃(ws:List W) (μ':Nat->Option Nat) (σ':Sy) (mY:Kn) (N8:List Trace),Rl b (ρ++ws) μ' σ' s'/\BC mY (ρ++ws)/\az call head (kt σ' (ρ++ws).length mY (NH++N8)) (ρ++ws)=some r/\fG (nm ρ μ σ) (nm (ρ++ws) μ' σ')/\aj (NJ (nm (ρ++ws) μ' σ')) N8 ts
theorem rU.pre {ρ:List W} {μ:Nat->Option Nat} {σ:Sy} {kt:Sy->Nat->Kn->List Trace->Tree} {NH:List Trace} {s':St} {ts:List Trace} {ws:List W} {NM:Nat->Option Nat} {σ1:Sy} {a c:Trace} {dst:Option Nat} {sd:SD} (hv:fG (nm ρ μ σ) (nm (ρ++ws) NM σ1)) (ht:NJ (nm (ρ++ws) NM σ1) a c)
  (h:rU b (ρ++ws) NM (σ1.put dst sd) call head kt r (NH++[a]) s' ts):rU b ρ μ σ call head kt r NH s' (c::ts):=by
 obtain ⟨ws',μ',σ',mY,N8,h1,h2,h3,h4,h5⟩:=h;rw [Jc] at h4;rw [List.append_assoc] at h1 h2 h3 h4 h5;rw [List.append_assoc NH] at h3;exact ⟨ws++ws',μ',σ',mY,a::N8,h1,h2,h3,hv.trans h4,ht.mono h4,h5⟩
theorem BL {kt:Sy->Nat->Kn->List Trace->Tree} {i:aW} {is:List aW} {σ:Sy} {n:Nat} {kn:Kn} {ts:List Trace} (hp:qL i.ins=true):
  jG sig kt (i::is) σ n kn ts=wP σ kn i.guard fun w kn=>match w with
   |false=>jG sig kt is (σ.put i.dst (.dB [])) n kn (ts++[⟨(match i.guard with|some (t,_)=>[t]|none=>[]),i.dst.toList,[],[]⟩])
   |true=>ay σ n (xS σ) (fun d σ' n=>jG sig kt is (σ'.put i.dst d) n kn (ts++[⟨(match i.guard with|some (t,_)=>[t]|none=>[])++gQ (eY i.ins),i.dst.toList,dM (xS σ) i.ins,qB σ.nx σ'.nx (HZ (xS σ) i.ins)⟩])) i.ins:=by
 simp only [jG];congr 1;funext w kn;cases w with
 |false=>rfl
 |true=>cases hi:i.ins<;>first|rfl|(rw [hi] at hp;cases hp)
theorem Hg {σ:Sy} {n f:Nat} {dN:List SD} {kt:SD->Sy->Nat->Tree} {ρ:List W} (hd:az call head (qJ sig σ n f dN kt) ρ=some r):dN.all R5=true:=by
 unfold qJ at hd;split at hd
 ·rename_i hf;exact AO hf
 ·cases hd
theorem TE {dx:X->D} {h:Heap} {k:Nat} {i:Ins} {d:D} {us:List (Nat×Obj)} (hr:xm i=true) (h1:step dx h k i=some (d,us)):us=[]:=by
 cases i<;>first|(cases hr;done)|skip
 all_goals
  simp only [step,aH,Option.map_eq_some_iff,Prod.mk.injEq] at h1;obtain ⟨_,_,_,h2⟩:=h1;exact h2.symm
theorem Re {N:Nm} {sx:X->SD} {dx:X->D} {h:Heap} {k:Nat} {i:Ins} {d:D} {us:List (Nat×Obj)} {nx nx':Nat} (h1:step dx h k i=some (d,us)) (h2:∀j,j∈us.map (·.1)->∃q∈qB nx nx' (dM sx i),q < N.nx/\N.μ q=some j):gz N (us.map (·.1)) (qB nx nx' (HZ sx i)):=by
 unfold HZ;by_cases hr:xm i=true
 ·rw [TE hr h1];exact gz.nil
 ·rw [if_neg hr];exact h2
theorem GG {cl:Callee} {ll:fo} {dx:X->D} {h:Heap} {k:Nat} {i:Ins} (hp:qL i=true):dP cl ll dx h k i=step dx h k i:=by
 cases i with
 |eZ f xs=>cases hp
 |_=>exact yl (cl:=cl) hp
theorem jC (hcall:iT F sig call) {kt:Sy->Nat->Kn->List Trace->Tree} {nx:Nat}:∀(is:List aW) (ρ:List W) (μ:Nat->Option Nat) (σ:Sy) (e:Env) (h:Heap) (k:Nat) (kn:Kn) (NH:List Trace),Rl b ρ μ σ ⟨e,h,nx+k⟩->BC kn ρ->az call head (jG sig kt is σ ρ.length kn NH) ρ=some r->
  ∃n0 e' h' ts,(∀n,n0<=n->bZ (fQ F n) (cK F n) nx k is e h=some (e',h',ts))/\rU b ρ μ σ call head kt r NH ⟨e',h',nx+(k+is.length)⟩ ts
 |[],ρ,μ,σ,e,h,k,kn,NH,hR,hk,hd=>⟨0,e,h,[],fun _ _=>rfl,[],μ,σ,kn,[],by rw [List.append_nil];exact hR,by rw [List.append_nil];exact hk,by rw [List.append_nil,List.append_nil];exact hd,by rw [List.append_nil];exact fG.refl _,trivial⟩
 |i::is,ρ,μ,σ,e,h,k,kn,NH,hR,hk,hd=>by
  have hlen:nx+(k+(i::is).length)=nx+(k+1+is.length):=by simp;omega
  have skip:∀{mY:Kn},BC mY ρ->wanted e i.guard=some false->az call head (jG sig kt is (σ.put i.dst (.dB [])) ρ.length mY (NH++[⟨(match i.guard with|some (t,_)=>[t]|none=>[]),i.dst.toList,[],[]⟩])) ρ=some r->
    ∃n0 e' h' ts,(∀n,n0<=n->bZ (fQ F n) (cK F n) nx k (i::is) e h=some (e',h',ts))/\rU b ρ μ σ call head kt r NH ⟨e',h',nx+(k+(i::is).length)⟩ ts:=by
   intro mY hk' hw hd;have hR':=hR.step rfl (fG.refl _) (hR.mem.tick (show nx+k<=nx+(k+1) by omega)) E9 i.dst
   obtain ⟨n0,e',h',ts,h1,h2⟩:=jC hcall is ρ μ _ _ _ (k+1) mY _ hR' hk' hd;refine ⟨n0,e',h',⟨(match i.guard with|some (t,_)=>[t]|none=>[]),i.dst.toList,[],[]⟩::ts,fun n hn=>?_,?_⟩
   ·simp only [bZ,hw,Option.bind_eq_bind,Option.bind_some,h1 n hn];rfl
   ·rw [hlen];refine rU.pre (ws:=[]) (NM:=μ) (σ1:=σ) (a:=⟨(match i.guard with|some (t,_)=>[t]|none=>[]),i.dst.toList,[],[]⟩) (by rw [List.append_nil];exact fG.refl _) ⟨rfl,rfl,gz.nil,gz.nil⟩ (by rw [List.append_nil];exact h2)
  by_cases hp:qL i.ins=true
  ·rw [BL hp] at hd;obtain ⟨w,mY,g1,g2,g3⟩:=vO hR.env hk hd;cases w with
   |false=>exact skip g2 g1 g3
   |true=>
    obtain ⟨d,us,h1,ws,μ',σ',sd,p1,p2,p3,p4,p5,p6⟩:=QT hR.mem (pR hR.env) i.ins g3;have ads:=Rh (pR hR.env) i.ins (fun f xs e=>by rw [e] at hp;cases hp) g3
    have hR':=hR.step p1 p2 p3 p4 i.dst;obtain ⟨n0,e',h',ts,q1,q2⟩:=jC hcall is (ρ++ws) μ' _ _ _ (k+1) mY _ hR' (g2.ext ws) p5;refine ⟨n0,e',h',⟨(match i.guard with|some (t,_)=>[t]|none=>[])++gQ (eY i.ins),i.dst.toList,touches (iI e) i.ins,us.map (·.1)⟩::ts,fun n hn=>?_,?_⟩
    ·simp only [bZ,g1,Option.bind_eq_bind,Option.bind_some,if_true,GG hp];rw [show step (iI e) h (nx+k) i.ins=some (d,us) from h1]
     simp only [Option.bind_some,q1 n hn];rfl
    ·rw [hlen];exact rU.pre (a:=⟨(match i.guard with|some (t,_)=>[t]|none=>[])++gQ (eY i.ins),i.dst.toList,dM (xS σ) i.ins,qB σ.nx σ'.nx (HZ (xS σ) i.ins)⟩) p2 ⟨rfl,rfl,ads.mono p2,Re h1 p6⟩ q2
  ·simp only [jG] at hd;obtain ⟨w,mY,g1,g2,g3⟩:=vO hR.env hk hd;cases w with
   |false=>exact skip g2 g1 g3
   |true=>
    cases hi:i.ins with
    |pick c x y=>
     rw [hi] at g3;obtain ⟨t,kn2,e1,e2,e3⟩:=mK rfl g2 (pR hR.env c) g3;have hR':=hR.step rfl (fG.refl _) (hR.mem.tick (show nx+k<=nx+(k+1) by omega)) (pR hR.env (if t then x else y)) i.dst
     obtain ⟨n0,e',h',ts,q1,q2⟩:=jC hcall is ρ μ _ _ _ (k+1) kn2 _ hR' e2 e3;refine ⟨n0,e',h',⟨(match i.guard with|some (t,_)=>[t]|none=>[])++gQ (eY i.ins),i.dst.toList,[],[]⟩::ts,fun n hn=>?_,?_⟩
     ·have yY:iI e c=.c (.lit (.bool t)):=e1;simp only [bZ,g1,Option.bind_eq_bind,Option.bind_some,if_true,hi,dP,gm,lN,Bool.false_eq_true,if_false,bD,step,yY,asBool,aH,Option.map_some,ah];have:=q1 n hn
      rw [show (if t=true then iI e x else iI e y)=iI e (if t=true then x else y) by cases t<;>rfl,this]
      rfl
     ·rw [hlen];refine rU.pre (ws:=[]) (NM:=μ) (σ1:=σ) (by rw [List.append_nil];exact fG.refl _) ?_ (by rw [List.append_nil];exact q2)
      rw [hi];exact ⟨rfl,rfl,gz.nil,gz.nil⟩
    |call f xs=>
     rw [hi] at g3;obtain ⟨n0,vs,us,rs,h1,h2,ws,μ',σ',sd,p1,p2,p3,p4,p5,p6⟩:=Bu hcall hR.mem (xD hR.env xs) g3;have hR':=hR.step p1 p2 p3 p4 i.dst;obtain ⟨n1,e',h',ts,q1,q2⟩:=jC hcall is (ρ++ws) μ' _ _ _ (k+1) mY _ hR' (g2.ext ws) p5;refine ⟨max n0 n1,e',h',⟨(match i.guard with|some (t,_)=>[t]|none=>[])++gQ (eY i.ins),i.dst.toList,touches (iI e) i.ins,us.map (·.1)⟩::ts,fun n hn=>?_,?_⟩
     ·have h1':bY h (xs.map (iI e))=some (vs,us):=h1;simp only [bZ,g1,Option.bind_eq_bind,Option.bind_some,if_true,hi,dP,gm,lN,Bool.false_eq_true,if_false,bD,h1',h2 n (by omega)]
      have:=q1 n (by omega)
      simp only at this;rw [this];rfl
     ·rw [hlen];refine rU.pre p2 ?_ q2;rw [hi];refine ⟨rfl,rfl,gz.mono p2 ?_,?_⟩
      ·have hok:∀x∈xs,R5 (xS σ x)=true:=by
        have:=Hg (dN:=xs.map (xS σ)) g3
        rw [List.all_map,List.all_eq_true] at this;exact this
       exact Az (g:=id) (pR hR.env) hok
      ·rw [List.flatMap_map] at p6;exact p6
    |cu f own xs=>
     rw [hi] at g3;simp [az] at g3
    |eZ f xs=>
     rw [hi] at g3;obtain ⟨n0,d,us,h1,⟨ws,μ',σ',sd,p1,p2,p3,p4,p5⟩,t1,t2⟩:=IJ hcall hR.mem (xD hR.env xs) g3;have hR':=hR.step p1 p2 (p3.tick (show nx+k<=nx+(k+1) by omega)) p4 i.dst
     obtain ⟨n1,e',h',ts,q1,q2⟩:=jC hcall is (ρ++ws) μ' _ _ _ (k+1) mY _ hR' (g2.ext ws) p5;refine ⟨max n0 n1,e',h',⟨(match i.guard with|some (t,_)=>[t]|none=>[])++gQ (eY i.ins),i.dst.toList,touches (iI e) i.ins,us.map (·.1)⟩::ts,fun n hn=>?_,?_⟩
     ·have h1':mD (cK F n) h f (xs.map (iI e))=some (d,us):=h1 n (by omega)
      simp only [bZ,g1,Option.bind_eq_bind,Option.bind_some,if_true,hi,dP,h1'];have:=q1 n (by omega)
      simp only at this;rw [this];rfl
     ·rw [hlen];refine rU.pre p2 ?_ q2;rw [hi];refine ⟨rfl,rfl,gz.mono p2 ?_,?_⟩
      ·rw [List.flatMap_map,List.flatMap_map] at t1;exact t1
      ·rw [List.flatMap_map] at t2;exact fun j hj=>by obtain ⟨q,m1,m2⟩:=gz.mono p2 t2 j hj;exact ⟨q,List.mem_append_left _ m1,m2⟩
    |dQ x xs=>
     rw [hi] at g3;simp [az] at g3
    |Qq=>rw [hi] at g3;simp [ay,az] at g3
    |tK k n ag z ok x y=>rw [hi] at g3;simp [ay,az] at g3
    |tY k n x y z=>rw [hi] at g3;simp [ay,az] at g3
    |_=>rw [hi] at hp;exact absurd rfl hp
end
end Go.Ey
namespace Go.Ey
theorem jQ {ρ:List W}:∀{a c:List TW} {ws:List W},gy ρ (a++c)=some ws->∃wa wc,gy ρ a=some wa/\gy ρ c=some wc/\ws=wa++wc
 |[],c,ws,h=>⟨[],ws,rfl,h,rfl⟩
 |x::a,c,ws,h=>by simp only [List.cons_append,gy,Option.bind_eq_some_iff,Option.some.injEq] at h;obtain ⟨w,h1,ws',h2,rfl⟩:=h;obtain ⟨wa,wc,h3,h4,rfl⟩:=jQ h2;exact ⟨w::wa,wc,by simp [gy,h1,h3],h4,rfl⟩
theorem tZ {ρ:List W} {x:At} {ws:List W} (h:gy ρ [.c x]=some ws):∃c,aV ρ x=some c/\ws=[.c c]:=by simp only [gy,VG,Option.bind_eq_some_iff,Option.some.injEq] at h;obtain ⟨w,⟨c,h1,rfl⟩,ws',rfl,rfl⟩:=h;exact ⟨c,h1,rfl⟩
theorem WK {ρ:List W} {sl:SL} {ws:List W} (h:gy ρ [.l sl]=some ws):∃xs,Dn ρ sl=some xs/\ws=[.l xs]:=by simp only [gy,VG,Option.bind_eq_some_iff,Option.some.injEq] at h;obtain ⟨w,⟨c,h1,rfl⟩,ws',rfl,rfl⟩:=h;exact ⟨c,h1,rfl⟩
theorem iw {ρ:List W} {ws:List W} (h:gy ρ []=some ws):ws=[]:=by simp only [gy,Option.some.injEq] at h;exact h.symm
structure Link (N N':Nm) (ms:List (Option Nat)):Prop where
 some_:∀q i,ms[q]?=some (some i)->i < N.nx->q < N'.nx/\N'.μ q=N.μ i/\∀y aa ety fr al,aM N'.hs q=.arr y aa ety fr al->∃x fr' al',aM N.hs i=.arr x aa ety fr' al'/\(fr'=true->fr=true)/\∃cs n,aV N.ρ x=some (.slice cs n)/\aV N'.ρ y=some (.slice cs n)
 none_:∀q,ms[q]?=some none->q < N'.nx/\N'.μ q=none/\∀y aa ety fr al,aM N'.hs q=.arr y aa ety fr al->aV N'.ρ y=some (.slice [] 0)
section
variable {N N':Nm} {ms:List (Option Nat)} (hL:Link N N' ms)
include hL
theorem Fs:∀{c c':List (Nat×Nat)} {ds:List (Nat×Nat)},CV ms c c'=true->aj (fun p q:Nat×Nat=>p.1 < N.nx/\N.μ p.1=some q.1/\q.2=p.2) c' ds->aj (fun p q:Nat×Nat=>p.1 < N'.nx/\N'.μ p.1=some q.1/\q.2=p.2) c ds
 |[],[],[],_,_=>trivial
 |(i,o)::c,(i',o')::c',d::ds,h,hr=>by
  simp only [CV,Bool.and_eq_true,beq_iff_eq] at h;obtain ⟨⟨h1,h2⟩,h3⟩:=h;split at h1
  ·rename_i j hm;simp only [beq_iff_eq] at h1;subst h1 h2;obtain ⟨q1,q2,_⟩:=hL.some_ _ _ hm hr.1.1;exact ⟨⟨q1,by rw [q2];exact hr.1.2.1,hr.1.2.2⟩,Fs h3 hr.2⟩
  ·cases h1
 |[],_::_,_,h,_=>by simp [CV] at h
 |_::_,[],_,h,_=>by simp [CV] at h
 |[],[],_::_,_,hr=>hr.elim
 |_::_,_::_,[],_,hr=>hr.elim
theorem G7 {sh:Sh} {d:SD} {D':D} (hr:jo N d D') {qQ:List TW} (ha:jU ms sh d=some qQ) {ws pre post:List W} (hw:gy N.ρ qQ=some ws) (hρ:N'.ρ=pre++ws++post) {sd:SD} {n':Nat} (hi:jm pre.length sh=(sd,n')):
  n'=pre.length+ws.length/\jo N' sd D':=by
 have hv:∀{c:C},ws=[.c c]->aV N'.ρ (.v pre.length)=some c:=by intro c h;rw [hρ,h,List.append_assoc];exact at_new pre c _
 cases sh with
 |fK=>
  simp only [jU,Option.some.injEq] at ha;subst ha;have:=iw hw;subst this
  simp only [jm,Prod.mk.injEq] at hi;obtain ⟨rfl,rfl⟩:=hi;exact ⟨by simp,trivial⟩
 |a=>
  simp only [jm,Prod.mk.injEq] at hi;obtain ⟨rfl,rfl⟩:=hi;cases d with
  |a x=>
   simp only [jU,Option.some.injEq] at ha;subst ha;obtain ⟨c,h1,rfl⟩:=tZ hw;obtain ⟨c',h2,h3⟩:=hr;rw [h1] at h2;injection h2 with h2;subst h2
   exact ⟨rfl,c,hv rfl,h3⟩
  |full x=>
   simp only [jU,Option.some.injEq] at ha;subst ha;obtain ⟨c,h1,rfl⟩:=tZ hw;obtain ⟨cs,n,h2,h3⟩:=hr;rw [h1] at h2;injection h2 with h2;subst h2
   exact ⟨rfl,_,hv rfl,.inr ⟨cs,n,rfl,h3⟩⟩
  |_=>simp [jU] at ha
 |full=>
  simp only [jm,Prod.mk.injEq] at hi;obtain ⟨rfl,rfl⟩:=hi;cases d with
  |full x=>
   simp only [jU,Option.some.injEq] at ha;subst ha;obtain ⟨c,h1,rfl⟩:=tZ hw;obtain ⟨cs,n,h2,h3⟩:=hr;rw [h1] at h2;injection h2 with h2;subst h2
   exact ⟨rfl,cs,n,hv rfl,h3⟩
  |_=>simp [jU] at ha
 |loc i off=>
  simp only [jm,Prod.mk.injEq] at hi;obtain ⟨rfl,rfl⟩:=hi;cases d with
  |loc i' off'=>
   simp only [jU] at ha;split at ha
   case isFalse=>cases ha
   rename_i hc;simp only [Option.some.injEq] at ha;subst ha;have:=iw hw;subst this
   obtain ⟨h1,rfl⟩:=hc;obtain ⟨h2,j,h3,h4⟩:=hr;obtain ⟨q1,q2,_⟩:=hL.some_ _ _ h1 h2;exact ⟨by simp,q1,j,by rw [q2];exact h3,h4⟩
  |_=>simp [jU] at ha
 |arr i=>
  simp only [jm,Prod.mk.injEq] at hi;obtain ⟨rfl,rfl⟩:=hi;cases d with
  |arr i'=>
   simp only [jU] at ha;split at ha
   case isFalse=>cases ha
   rename_i hc;simp only [Option.some.injEq] at ha;subst ha;have:=iw hw;subst this
   obtain ⟨h2,hr⟩:=hr;obtain ⟨q1,q2,q3⟩:=hL.some_ _ _ hc h2;refine ⟨by simp,q1,?_⟩
   rcases hr with ⟨j,len,k1,k2,k3⟩|⟨k1,cs,n,k2,k3⟩
   ·refine .inl ⟨j,len,by rw [q2];exact k1,k2,fun y aa ety fr al hg=>?_⟩
    obtain ⟨x,fr',al',g1,_,cs,n,g2,g3⟩:=q3 _ _ _ _ _ hg;obtain ⟨cs',g4⟩:=k3 _ _ _ _ _ g1;rw [g2] at g4;injection g4 with g4;injection g4 with g4 g5;subst g4 g5
    exact ⟨cs,g3⟩
   ·refine .inr ⟨by rw [q2];exact k1,cs,n,k2,fun y aa ety fr al hg=>?_⟩
    obtain ⟨x,fr',al',g1,_,cs',n',g2,g3⟩:=q3 _ _ _ _ _ hg;have g4:=k3 _ _ _ _ _ g1;rw [g2] at g4;injection g4 with g4;injection g4 with g4 g5;subst g4 g5
    exact g3
  |full x=>
   cases x with
   |z=>
    simp only [jU] at ha;split at ha
    case isFalse=>cases ha
    rename_i hc;simp only [Option.some.injEq] at ha;subst ha;have:=iw hw;subst this
    obtain ⟨cs,n,h2,h3⟩:=hr;simp only [aV,Option.some.injEq,C.slice.injEq] at h2;obtain ⟨rfl,rfl⟩:=h2;obtain ⟨q1,q2,q3⟩:=hL.none_ _ hc;exact ⟨by simp,q1,.inr ⟨q2,[],0,h3,fun y aa ety fr al hg=>q3 _ _ _ _ _ hg⟩⟩
   |_=>simp [jU] at ha
  |_=>simp [jU] at ha
 |bJ f caps=>
  simp only [jm,Prod.mk.injEq] at hi;obtain ⟨rfl,rfl⟩:=hi;cases d with
  |bJ f' dA=>
   simp only [jU] at ha;split at ha
   case isFalse=>cases ha
   rename_i hc;simp only [Option.some.injEq] at ha;subst ha;have:=iw hw;subst this
   obtain ⟨rfl,h1⟩:=hc;obtain ⟨ds,h2,h3⟩:=hr;exact ⟨by simp,ds,h2,Fs hL h1 h3⟩
  |_=>simp [jU] at ha
 |MQ m=>cases d<;>simp [jU] at ha
 |agg ss=>cases d<;>simp [jU] at ha
theorem wI:∀{ss:List Sh} {ds:List SD} {Ds:List D},aj (jo N) ds Ds->∀{qQ:List TW},mI ms ss ds=some qQ->∀{ws pre post:List W},gy N.ρ qQ=some ws->N'.ρ=pre++ws++post->∀{dN:List SD} {n':Nat},gW pre.length ss=(dN,n')->
  n'=pre.length+ws.length/\aj (jo N') dN Ds
 |[],[],[],_,qQ,ha,ws,pre,post,hw,_,dN,n',hi=>by
  simp only [mI,Option.some.injEq] at ha;subst ha;have:=iw hw;subst this
  simp only [gW,Prod.mk.injEq] at hi;obtain ⟨rfl,rfl⟩:=hi;exact ⟨by simp,trivial⟩
 |s::ss,d::ds,D'::Ds,hr,qQ,ha,ws,pre,post,hw,hρ,dN,n',hi=>by
  simp only [mI,Option.bind_eq_some_iff,Option.some.injEq] at ha;obtain ⟨t1,h1,t2,h2,rfl⟩:=ha;obtain ⟨w1,w2,h3,h4,rfl⟩:=jQ hw;cases e1:jm pre.length s with
  |mk sd n1=>
   obtain ⟨q1,q2⟩:=G7 hL hr.1 h1 h3 (pre:=pre) (post:=w2++post) (by rw [hρ];simp) e1
   cases e2:gW n1 ss with
   |mk UA n2=>
    simp only [gW,e1,e2,Prod.mk.injEq] at hi;obtain ⟨rfl,rfl⟩:=hi;obtain ⟨q3,q4⟩:=wI hr.2 h2 h4 (pre:=pre++w1) (post:=post) (by rw [hρ];simp) (dN:=UA) (n':=n2) (by rw [List.length_append,<-q1];exact e2)
    exact ⟨by rw [q3];simp;omega,q2,q4⟩
 |[],_::_,_,_,_,ha,_,_,_,_,_,_,_,_=>by simp [mI] at ha
 |_::_,[],_,_,_,ha,_,_,_,_,_,_,_,_=>by simp [mI] at ha
 |[],[],_::_,hr,_,_,_,_,_,_,_,_,_,_=>hr.elim
 |_::_,_::_,[],hr,_,_,_,_,_,_,_,_,_,_=>hr.elim
theorem zF {lens:List (Nat×Nat)} {b:Bs} {h:Heap} {k:Nat} (hm:Rm b N h k lens) {m:Nat} {ds:List SD} {Ds:List D} (hr:aj (jo N) ds Ds) {ax:List At} (ha:pz ds=some ax) (hl:ax.length=m) {ws pre post:List W} (hw:gy N.ρ [.l (vg lens ax)]=some ws) (hρ:N'.ρ=pre++ws++post):
  ws.length=1/\aj (jo N') ((nk pre.length 0 m).map .a) Ds/\∃xs,eu N'.ρ pre.length=some (.l xs)/\xs.length=m:=by
 obtain ⟨xs,h1,rfl⟩:=WK hw;obtain ⟨ys,h2,h3⟩:=qb hr ha;rw [qM hm,h2] at h1;injection h1 with h1;subst h1;have hlen:ys.length=m:=by rw [uG h2,hl]
 have hg:eu N'.ρ pre.length=some (.l ys):=by rw [hρ,List.append_assoc];exact gD pre _ _
 exact ⟨rfl,uY hg (List.drop_zero ..) hlen h3,ys,hg,hlen⟩
theorem QN {lens:List (Nat×Nat)} {b:Bs} {h:Heap} {k:Nat} (hm:Rm b N h k lens) {sh:Sh} {d:SD} {D':D} (hr:RD N d D') {qQ:List TW} (ha:yu lens ms sh d=some qQ) {ws pre post:List W} (hw:gy N.ρ qQ=some ws) (hρ:N'.ρ=pre++ws++post) {sd:SD} {n':Nat} {l:List (Nat×Nat)} (hi:wo pre.length sh=(sd,n',l)):
  n'=pre.length+ws.length/\RD N' sd D'/\∀i m,(i,m)∈l->∃xs,eu N'.ρ i=some (.l xs)/\xs.length=m:=by
 by_cases h1:∃m,sh=.MQ m
 ·obtain ⟨m,rfl⟩:=h1;simp only [wo,Prod.mk.injEq] at hi;obtain ⟨rfl,rfl,rfl⟩:=hi;cases d with
  |agg ds=>
   simp only [yu,Option.bind_eq_some_iff] at ha;obtain ⟨ax,h2,ha⟩:=ha;split at ha
   case isFalse=>cases ha
   rename_i hl;simp only [Option.some.injEq] at ha;subst ha;obtain ⟨Ds,rfl,hr⟩:=hr;obtain ⟨q1,q2,q3⟩:=zF hL hm hr h2 hl hw hρ;refine ⟨by omega,⟨Ds,rfl,q2⟩,fun i q hq=>?_⟩
   simp only [List.mem_singleton,Prod.mk.injEq] at hq;obtain ⟨rfl,rfl⟩:=hq;exact q3
  |_=>simp [yu] at ha
 ·by_cases h2:∃ss,sh=.agg ss
  ·obtain ⟨ss,rfl⟩:=h2;cases d with
   |agg ds=>
    simp only [yu] at ha;obtain ⟨Ds,rfl,hr⟩:=hr;cases e1:gW pre.length ss with
    |mk dN n1=>
     simp only [wo,e1,Prod.mk.injEq] at hi;obtain ⟨rfl,rfl,rfl⟩:=hi;obtain ⟨q1,q2⟩:=wI hL hr ha hw hρ e1;exact ⟨q1,⟨Ds,rfl,q2⟩,by simp⟩
   |_=>simp [yu] at ha
  ·have e0:wo pre.length sh=((jm pre.length sh).1,(jm pre.length sh).2,[]):=by
    cases sh<;>first|rfl|exact absurd ⟨_,rfl⟩ h1|exact absurd ⟨_,rfl⟩ h2
   have e1:yu lens ms sh d=jU ms sh d:=by cases sh<;>first|rfl|exact absurd ⟨_,rfl⟩ h1|exact absurd ⟨_,rfl⟩ h2
   rw [e0] at hi;simp only [Prod.mk.injEq] at hi;obtain ⟨rfl,rfl,rfl⟩:=hi;rw [e1] at ha;by_cases hu:sh=.fK
   ·subst hu;simp only [jU,Option.some.injEq] at ha;subst ha;have:=iw hw;subst this
    exact ⟨by simp [jm],by simp only [jm];trivial,by simp⟩
   ·have hc:jo N d D':=by
     refine hr.c (fun ds e=>?_) (fun ds e=>?_)
     ·subst e;cases sh<;>first|(simp [jU] at ha;done)|exact absurd rfl hu
     ·subst e;cases sh<;>first|(simp [jU] at ha;done)|exact absurd rfl hu
    obtain ⟨q1,q2⟩:=G7 hL hc ha hw hρ (sd:=(jm pre.length sh).1) (n':=(jm pre.length sh).2) rfl;exact ⟨q1,q2.fM,by simp⟩
theorem FP {lens:List (Nat×Nat)} {b:Bs} {h:Heap} {k:Nat} (hm:Rm b N h k lens) {σ:Sy} (hσ:σ.lens=lens) {e:Env} (he:∀t,RD N (lS σ.env t) (bS e t)):∀{env:List (Nat×Sh)} {qQ:List TW},Ie σ ms env=some qQ->∀{ws pre post:List W},gy N.ρ qQ=some ws->N'.ρ=pre++ws++post->
  ∀{e':List (Nat×SD)} {n':Nat} {l:List (Nat×Nat)},rX pre.length env=(e',n',l)->n'=pre.length+ws.length/\(∀t,RD N' (lS e' t) (bS e t))/\∀i m,(i,m)∈l->∃xs,eu N'.ρ i=some (.l xs)/\xs.length=m
 |[],qQ,ha,ws,pre,post,hw,hρ,e',n',l,hi=>by
  simp only [Ie,Option.some.injEq] at ha;subst ha;have:=iw hw;subst this
  simp only [rX,Prod.mk.injEq] at hi;obtain ⟨rfl,rfl,rfl⟩:=hi;exact ⟨by simp,fun t=>trivial,by simp⟩
 |(t,s)::env,qQ,ha,ws,pre,post,hw,hρ,e',n',l,hi=>by
  simp only [Ie,Option.bind_eq_some_iff,Option.some.injEq] at ha;obtain ⟨t1,h1,t2,h2,rfl⟩:=ha;obtain ⟨w1,w2,h3,h4,rfl⟩:=jQ hw;rw [hσ] at h1;cases e1:wo pre.length s with
  |mk sd p=>
   obtain ⟨n1,l1⟩:=p;obtain ⟨q1,q2,q3⟩:=QN hL hm (he t) h1 h3 (pre:=pre) (post:=w2++post) (by rw [hρ];simp) e1
   cases e2:rX n1 env with
   |mk e2' p2=>
    obtain ⟨n2,l2⟩:=p2;simp only [rX,e1,e2,Prod.mk.injEq] at hi;obtain ⟨rfl,rfl,rfl⟩:=hi;obtain ⟨q4,q5,q6⟩:=FP hm hσ he h2 h4 (pre:=pre++w1) (post:=post) (by rw [hρ];simp) (e':=e2') (n':=n2) (l:=l2) (by rw [List.length_append,<-q1];exact e2)
    refine ⟨by rw [q4];simp;omega,fun u=>?_,fun i m hi=>?_⟩
    ·simp only [lS];by_cases hu:t=u
     ·subst hu;rw [if_pos rfl];exact q2
     ·rw [if_neg hu];exact q5 u
    ·rw [List.mem_append] at hi;exact hi.elim (q3 i m) (q6 i m)
end
theorem Bg {ρ:List W}:∀{t:List TW} {ws:List W},gy ρ t=some ws->ws.length=t.length
 |[],ws,h=>by rw [iw h];rfl
 |x::t,ws,h=>by simp only [gy,Option.bind_eq_some_iff,Option.some.injEq] at h;obtain ⟨w,_,ws',h2,rfl⟩:=h;simp [Bg h2]
theorem lT {ms:List (Option Nat)} {s:Sh} {d:SD} {t:List TW} (h:jU ms s d=some t) (n:Nat):(jm n s).2=n+t.length:=by
 unfold jU at h;split at h<;>first
  |(simp only [Option.some.injEq] at h;subst h;rfl)
  |(split at h
    ·simp only [Option.some.injEq] at h;subst h;rfl
    ·cases h)
  |cases h
theorem wW {ms:List (Option Nat)}:∀{ss:List Sh} {ds:List SD} {t:List TW},mI ms ss ds=some t->∀n,(gW n ss).2=n+t.length
 |[],[],t,h,n=>by simp only [mI,Option.some.injEq] at h;subst h;rfl
 |s::ss,d::ds,t,h,n=>by
  simp only [mI,Option.bind_eq_some_iff,Option.some.injEq] at h;obtain ⟨t1,h1,t2,h2,rfl⟩:=h;have e1:=lT h1 n;have e2:=wW h2 (n+t1.length);cases e3:jm n s with
  |mk sd n1=>
   rw [e3] at e1;simp only at e1;subst e1;cases e4:gW (n+t1.length) ss with
   |mk dN n2=>
    rw [e4] at e2;simp only [gW,e3,e4,List.length_append] at e2 |-;omega
 |[],_::_,_,h,_=>by simp [mI] at h
 |_::_,[],_,h,_=>by simp [mI] at h
theorem PX {lens:List (Nat×Nat)} {ms:List (Option Nat)} {sh:Sh} {d:SD} {t:List TW} (h:yu lens ms sh d=some t) (n:Nat):(wo n sh).2.1=n+t.length:=by
 cases sh with
 |MQ m=>
  cases d with
  |agg ds=>
   simp only [yu,Option.bind_eq_some_iff] at h;obtain ⟨ax,_,h⟩:=h;split at h
   ·simp only [Option.some.injEq] at h;subst h;rfl
   ·cases h
  |_=>simp [yu] at h
 |agg ss=>
  cases d with
  |agg ds=>
   simp only [yu] at h;have:=wW h n
   cases e:gW n ss with
   |mk a c=>rw [e] at this;simp only [wo,e];exact this
  |_=>simp [yu] at h
 |fK=>exact lT (ms:=ms) (s:=.fK) (d:=d) h n
 |a=>exact lT (s:=.a) (d:=d) h n
 |full=>exact lT (s:=.full) (d:=d) h n
 |loc i off=>exact lT (s:=.loc i off) (d:=d) h n
 |arr i=>exact lT (s:=.arr i) (d:=d) h n
 |bJ f c=>exact lT (s:=.bJ f c) (d:=d) h n
theorem nQ {σ:Sy} {ms:List (Option Nat)} {j:Option Nat} {o:Nc} {t:List TW} (h:ry σ ms j o=some t):
  (j=none/\∃aa ety fr,o=.arr aa ety fr false/\t=[.c .z])\/
  (∃i,j=some i/\((∃m ds ax,o=.bg m/\aM σ.heap i=.box ds/\pz ds=some ax/\ax.length=m/\t=[.l (vg σ.lens ax)])\/
   (∃ss ds,o=.box ss/\aM σ.heap i=.box ds/\mI ms ss ds=some t)\/
   (∃aa ety fr al x fr' al',o=.arr aa ety fr al/\aM σ.heap i=.arr x aa ety fr' al'/\(fr'=true->fr=true)/\(al=true->al'=true)/\t=[.c x]))):=by
 cases j with
 |none=>
  left;cases o with
  |arr aa ety fr al=>
   cases al with
   |false=>simp only [ry,Option.some.injEq] at h;exact ⟨rfl,aa,ety,fr,rfl,h.symm⟩
   |true=>simp [ry] at h
  |_=>simp [ry] at h
 |some i=>
  refine .inr ⟨i,rfl,?_⟩;cases o with
  |bg m=>
   cases hg:aM σ.heap i with
   |box ds=>
    simp only [ry,hg,Option.bind_eq_some_iff] at h;obtain ⟨ax,h1,h⟩:=h;split at h
    ·rename_i hl;simp only [Option.some.injEq] at h;exact .inl ⟨m,ds,ax,rfl,rfl,h1,hl,h.symm⟩
    ·cases h
   |_=>simp [ry,hg] at h
  |box ss=>
   cases hg:aM σ.heap i with
   |box ds=>simp only [ry,hg] at h;exact .inr (.inl ⟨ss,ds,rfl,rfl,h⟩)
   |_=>simp [ry,hg] at h
  |arr aa ety fr al=>
   cases hg:aM σ.heap i with
   |arr x bU dW fr' al'=>
    simp only [ry,hg] at h;split at h
    ·rename_i hc;simp only [Option.some.injEq] at h;obtain ⟨rfl,rfl,c3,c4⟩:=hc;exact .inr (.inr ⟨_,_,fr,al,x,fr',al',rfl,rfl,c3,c4,h.symm⟩)
    ·cases h
   |_=>simp [ry,hg] at h
theorem QJ {σ:Sy} {ms:List (Option Nat)} {j:Option Nat} {o:Nc} {t:List TW} (h:ry σ ms j o=some t) (n:Nat):(jX n o).2.1=n+t.length:=by
 rcases nQ h with ⟨_,aa,ety,fr,rfl,rfl⟩|⟨i,_,⟨m,ds,ax,rfl,_,_,_,rfl⟩|⟨ss,ds,rfl,_,h1⟩|⟨aa,ety,fr,al,x,fr',al',rfl,_,_,_,rfl⟩⟩
 ·rfl
 ·rfl
 ·have:=wW h1 n
  cases e:gW n ss with
  |mk a c=>rw [e] at this;simp only [jX,e];exact this
 ·rfl
theorem GY {σ:Sy} {ms:List (Option Nat)} {ρ ρ':List W}:∀{js:List (Option Nat)} {os:List Nc} {qQ:List TW},Jy σ ms js os=some qQ->∀{ws pre post:List W},gy ρ qQ=some ws->ρ'=pre++ws++post->∀{q:Nat} {hp:List (Nat×SO)} {n':Nat} {l:List (Nat×Nat)},AJ q pre.length os=(hp,n',l)->
  n'=pre.length+ws.length/\js.length=os.length/\(∀i,i < q\/q+os.length<=i->aM hp i=.dead)/\
  (∀(p:Nat) (o:Nc) (j:Option Nat),os[p]?=some o->js[p]?=some j->∃(t1:List TW) (w1 p8 pq:List W),ry σ ms j o=some t1/\gy ρ t1=some w1/\ρ'=p8++w1++pq/\aM hp (q+p)=(jX p8.length o).1)/\
  ∀x:Nat×Nat,x∈l->∃(p:Nat) (o:Nc) (j:Option Nat) (t1:List TW) (w1 p8 pq:List W),os[p]?=some o/\js[p]?=some j/\ry σ ms j o=some t1/\gy ρ t1=some w1/\ρ'=p8++w1++pq/\x∈(jX p8.length o).2.2
 |[],[],qQ,ha,ws,pre,post,hw,hρ,q,hp,n',l,hi=>by
  simp only [Jy,Option.some.injEq] at ha;subst ha;have:=iw hw;subst this
  simp only [AJ,Prod.mk.injEq] at hi;obtain ⟨rfl,rfl,rfl⟩:=hi;exact ⟨by simp,rfl,fun _ _=>rfl,by simp,by simp⟩
 |[],_::_,_,ha,_,_,_,_,_,_,_,_,_,_=>by simp [Jy] at ha
 |_::_,[],_,ha,_,_,_,_,_,_,_,_,_,_=>by simp [Jy] at ha
 |j::js,o::os,qQ,ha,ws,pre,post,hw,hρ,q,hp,n',l,hi=>by
  simp only [Jy,Option.bind_eq_some_iff,Option.some.injEq] at ha;obtain ⟨t1,h1,t2,h2,rfl⟩:=ha;obtain ⟨w1,w2,h3,h4,rfl⟩:=jQ hw;have e0:=QJ h1 pre.length;cases e1:jX pre.length o with
  |mk x p1=>
   obtain ⟨n1,l1⟩:=p1;rw [e1] at e0;simp only at e0;rw [<-Bg h3,<-List.length_append] at e0;subst e0;cases e2:AJ (q+1) (pre++w1).length os with
   |mk hp2 p2=>
    obtain ⟨n2,l2⟩:=p2;simp only [AJ,e1,e2,Prod.mk.injEq] at hi;obtain ⟨rfl,rfl,rfl⟩:=hi;obtain ⟨q1,q2,q3,q4,q5⟩:=GY (ρ':=ρ') h2 h4 (pre:=pre++w1) (post:=post) (by rw [hρ];simp) e2
    refine ⟨by rw [q1];simp;omega,by simp [q2],fun i hi=>?_,fun p o' j' ho hj=>?_,fun y hy=>?_⟩
    ·simp only [List.length_cons] at hi;rw [aZ,if_neg (by omega)]
     exact q3 i (by omega)
    ·cases p with
     |zero=>
      simp only [List.getElem?_cons_zero,Option.some.injEq] at ho hj;subst ho hj;exact ⟨t1,w1,pre,w2++post,h1,h3,by rw [hρ];simp,by rw [aZ,if_pos (by omega),e1]⟩
     |succ p=>
      simp only [List.getElem?_cons_succ] at ho hj;obtain ⟨t1',w1',p8,pq,r1,r2,r3,r4⟩:=q4 p o' j' ho hj;exact ⟨t1',w1',p8,pq,r1,r2,r3,by rw [aZ,if_neg (by omega),<-r4];congr 1;omega⟩
    ·rw [List.mem_append] at hy;rcases hy with hy|hy
     ·exact ⟨0,o,j,t1,w1,pre,w2++post,rfl,rfl,h1,h3,by rw [hρ];simp,by rw [e1];exact hy⟩
     ·obtain ⟨p,o',j',r⟩:=q5 y hy;exact ⟨p+1,o',j',by simpa using r⟩
theorem qU:∀{l:List (Option Nat)} {q i:Nat},l[q]?=some (some i)->i∈rQ l
 |[],q,i,h=>by simp at h
 |x::l,0,i,h=>by simp only [List.getElem?_cons_zero,Option.some.injEq] at h;subst h;simp [rQ]
 |none::l,q+1,i,h=>by simp only [List.getElem?_cons_succ] at h;simp only [rQ];exact qU h
 |some _::l,q+1,i,h=>by simp only [List.getElem?_cons_succ] at h;simp only [rQ,List.mem_cons];exact .inr (qU h)
theorem wM:∀{l:List (Option Nat)},(rQ l).Nodup->∀{q q' i:Nat},l[q]?=some (some i)->l[q']?=some (some i)->q=q'
 |[],_,q,q',i,h,_=>by simp at h
 |none::l,hn,q,q',i,h,h'=>by
  simp only [rQ] at hn;cases q with
  |zero=>simp at h
  |succ q=>cases q' with
   |zero=>simp at h'
   |succ q'=>simp only [List.getElem?_cons_succ] at h h';rw [wM hn h h']
 |some p::l,hn,q,q',i,h,h'=>by
  simp only [rQ,List.nodup_cons] at hn;cases q with
  |zero=>
   simp only [List.getElem?_cons_zero,Option.some.injEq] at h;subst h;cases q' with
   |zero=>rfl
   |succ q'=>simp only [List.getElem?_cons_succ] at h';exact absurd (qU h') hn.1
  |succ q=>cases q' with
   |zero=>
    simp only [List.getElem?_cons_zero,Option.some.injEq] at h';subst h';simp only [List.getElem?_cons_succ] at h;exact absurd (qU h) hn.1
   |succ q'=>simp only [List.getElem?_cons_succ] at h h';rw [wM hn.2 h h']
theorem zI {ms:List (Option Nat)}:∀{k b q:Nat},EB ms b k=true->b<=q->q < b+k->ms[q]?=some (some q)
 |0,b,q,_,h1,h2=>by omega
 |k+1,b,q,h,h1,h2=>by
  simp only [EB,Bool.and_eq_true] at h;by_cases hq:b=q
  ·subst hq;have h3:=h.1;split at h3
   ·rename_i i hm;simp only [beq_iff_eq] at h3;subst h3;exact hm
   ·cases h3
  ·exact zI h.2 (by omega) (by omega)
theorem M6 {b:Bs} {ρ:List W} {μ:Nat->Option Nat} {σ:Sy} {s:St} (hR:Rl b ρ μ σ s) {hh:HS} {qQ:List TW} (ha:pW b.ai.length hh σ=some qQ) {ws:List W} (hw:gy ρ qQ=some ws):
  ∃μ',Rl b ws μ' (ym hh).1 s/\(ym hh).2=ws.length:=by
 unfold pW at ha;simp only at ha;generalize hms:(List.range hh.heap.length).map _=ms at ha;split at ha
 case isFalse=>cases ha
 rename_i hc;rw [Bool.and_eq_true] at hc;obtain ⟨hc1,hc2⟩:=hc;have ac8:=kX hc1;simp only [Option.bind_eq_some_iff,Option.some.injEq] at ha;obtain ⟨t1,h1,t2,h2,rfl⟩:=ha;obtain ⟨w1,w2,h3,h4,rfl⟩:=jQ hw;have SG:ms.length=hh.heap.length:=by rw [<-hms];simp
 cases e1:rX 0 hh.env with
 |mk env' p1=>
  obtain ⟨n1,l1⟩:=p1;have hn1:n1=w1.length:=by
   have aux:∀(env:List (Nat×Sh)) (t:List TW),Ie σ ms env=some t->∀n,(rX n env).2.1=n+t.length:=by
    intro env;induction env with
    |nil=>intro t ht n;simp only [Ie,Option.some.injEq] at ht;subst ht;rfl
    |cons p env ih=>
     obtain ⟨tt,sh⟩:=p;intro t ht n;simp only [Ie,Option.bind_eq_some_iff,Option.some.injEq] at ht;obtain ⟨a1,g1,a2,g2,rfl⟩:=ht;have f1:=PX g1 n;cases e3:wo n sh with
     |mk sd p=>
      obtain ⟨n2,l2⟩:=p;rw [e3] at f1;simp only at f1;subst f1;have f2:=ih a2 g2 (n+a1.length);cases e4:rX (n+a1.length) env with
      |mk ee p=>
       obtain ⟨n3,l3⟩:=p;rw [e4] at f2;simp only [rX,e3,e4,List.length_append] at f2 |-;omega
   have:=aux _ _ h1 0
   rw [e1] at this;simp only [Nat.zero_add] at this;rw [this,Bg h3]
  subst hn1;cases e2:AJ 0 w1.length hh.heap with
  |mk hp p2=>
   obtain ⟨n2,l2⟩:=p2;have eS:ym hh=(⟨env',hp,hh.heap.length,l1++l2⟩,n2):=by simp only [ym,e1,e2]
   obtain ⟨i1,i2,i3,i4,i5⟩:=GY (ρ:=ρ) (ρ':=w1++w2) h2 h4 (pre:=w1) (post:=[]) (by simp) e2
   let μ':Nat->Option Nat:=fun q=>(ms[q]?.getD none).bind μ
   let N':Nm:=nm (w1++w2) μ' ⟨env',hp,hh.heap.length,l1++l2⟩
   have FR:∀(q:Nat) (o:Nc) (j:Option Nat),hh.heap[q]?=some o->ms[q]?=some j->∃(t1:List TW) (w1' p8 pq:List W),ry σ ms j o=some t1/\gy ρ t1=some w1'/\w1++w2=p8++w1'++pq/\aM hp q=(jX p8.length o).1:=by intro q o j ho hj;obtain ⟨a1,a2,a3,a4,a5,a6,a7,a8⟩:=i4 q o j ho hj;exact ⟨a1,a2,a3,a4,a5,a6,a7,by rw [<-a8];congr 1;omega⟩
   have hat:∀(q:Nat) (j:Option Nat),ms[q]?=some j->∃o,hh.heap[q]?=some o:=fun q j hq=>
    ⟨_,List.getElem?_eq_getElem (by rw [<-SG];exact (List.getElem?_eq_some_iff.1 hq).1)⟩
   have hmu:∀(q i:Nat),ms[q]?=some (some i)->μ' q=μ i:=fun q i hq=>by simp [μ',hq]
   have Zh:∀q:Nat,ms[q]?=some none->μ' q=none:=fun q hq=>by simp [μ',hq]
   have hsome:∀(q i:Nat),ms[q]?=some (some i)->i < σ.nx:=by
    intro q i hq;obtain ⟨o,ho⟩:=hat q _ hq;obtain ⟨a1,a2,a3,a4,a5,_⟩:=FR q o _ ho hq;refine hR.mem.Vb (N:=nm ρ μ σ) fun hd=>?_
    have hd':aM σ.heap i=.dead:=hd;rcases nQ a5 with ⟨e,_⟩|⟨i',e,⟨m,ds,ax,_,g,_⟩|⟨ss,ds,_,g,_⟩|⟨_,_,_,_,x,_,_,_,g,_⟩⟩
    ·cases e
    all_goals (injection e with e;subst e;rw [hd'] at g;cases g)
   have TL:∀(q j:Nat),μ' q=some j->∃i:Nat,ms[q]?=some (some i)/\μ i=some j:=by
    intro q j hq;simp only [μ'] at hq;cases hm:ms[q]? with
    |none=>simp [hm] at hq
    |some x=>cases x with
     |none=>simp [hm] at hq
     |some i=>simp [hm] at hq;exact ⟨i,rfl,hq⟩
   have hL:Link (nm ρ μ σ) N' ms:=by
    refine ⟨fun q i hq _=>⟨?_,hmu q i hq,fun y aa ety fr al hg=>?_⟩,fun q hq=>⟨?_,Zh q hq,fun y aa ety fr al hg=>?_⟩⟩
    ·show q < hh.heap.length;rw [<-SG];exact (List.getElem?_eq_some_iff.1 hq).1
    ·obtain ⟨o,ho⟩:=hat q _ hq;obtain ⟨a1,a2,a3,a4,a5,a6,a7,a8⟩:=FR q o _ ho hq;have hg':aM hp q=.arr y aa ety fr al:=hg;rw [a8] at hg';rcases nQ a5 with ⟨e,_⟩|⟨i',e,⟨m,ds,ax,rfl,g,_⟩|⟨ss,ds,rfl,g,_⟩|⟨bU,dW,RX,VC,x,fr',al',rfl,g,c1,c2,rfl⟩⟩
     ·cases e
     ·cases hg'
     ·cases e9:gW a3.length ss with|mk _ _=>simp only [jX,e9] at hg';cases hg'
     ·injection e with e;subst e;simp only [jX] at hg';injection hg' with x1 x2 x3 x4 x5;subst x1 x2 x3 x4 x5;obtain ⟨c,g1,rfl⟩:=tZ a6;obtain ⟨cs,n,g2,_⟩:=hR.mem.arr (N:=nm ρ μ σ) g;rw [show aV (nm ρ μ σ).ρ x=aV ρ x from rfl,g1] at g2
      injection g2 with g2;subst g2;refine ⟨x,fr',al',g,c1,cs,n,g1,?_⟩;show aV (w1++w2) (.v a3.length)=_
      rw [a7,List.append_assoc];exact at_new a3 _ _
    ·show q < hh.heap.length;rw [<-SG];exact (List.getElem?_eq_some_iff.1 hq).1
    ·obtain ⟨o,ho⟩:=hat q _ hq;obtain ⟨a1,a2,a3,a4,a5,a6,a7,a8⟩:=FR q o _ ho hq;have hg':aM hp q=.arr y aa ety fr al:=hg;rw [a8] at hg';rcases nQ a5 with ⟨_,bU,dW,RX,rfl,rfl⟩|⟨i',e,_⟩
     ·simp only [jX] at hg';injection hg' with x1 x2 x3 x4 x5;subst x1 x2 x3 x4 x5;obtain ⟨c,g1,rfl⟩:=tZ a6;simp only [aV,Option.some.injEq] at g1;subst g1;show aV (w1++w2) (.v a3.length)=_
      rw [a7,List.append_assoc];exact at_new a3 _ _
     ·cases e
   obtain ⟨_,r2,r3⟩:=FP hL hR.mem (σ:=σ) rfl hR.env h1 h3 (pre:=[]) (post:=w2) rfl e1;have hbl:∀(q:Nat) (o:Nc) (j:Option Nat),hh.heap[q]?=some o->ms[q]?=some j->∀(t1:List TW) (w1' p8 pq:List W),ry σ ms j o=some t1->gy ρ t1=some w1'->w1++w2=p8++w1'++pq->∀x∈(jX p8.length o).2.2,∃xs,eu (w1++w2) x.1=some (.l xs)/\xs.length=x.2:=by
    intro q o j ho hj t1' w1' p8 pq a5 a6 a7 x hx;rcases nQ a5 with ⟨_,bU,dW,RX,rfl,rfl⟩|⟨i',rfl,⟨m,ds,ax,rfl,g,c1,c2,rfl⟩|⟨ss,ds,rfl,g,_⟩|⟨bU,dW,RX,VC,x',fr',al',rfl,g,_,_,rfl⟩⟩
    ·simp [jX] at hx
    ·simp only [jX,List.mem_singleton] at hx;subst hx;obtain ⟨j',ds',_,_,g3⟩:=hR.mem.box (N:=nm ρ μ σ) g;exact (zF hL hR.mem g3 c1 c2 a6 a7).2.2
    ·cases e9:gW p8.length ss with|mk _ _=>simp [jX,e9] at hx
    ·simp [jX] at hx
   refine ⟨μ',?_,by rw [eS];simp only;rw [i1,List.length_append]⟩
   rw [eS];refine ⟨r2,⟨fun q=>?_,fun q q' j g1 g2 g3 g4=>?_,fun q j g1 g2=>?_,fun q hq=>?_,fun q j g1 g2=>?_,hR.mem.frame,hR.mem.le,fun i m hi=>?_⟩,fun q j hq=>?_⟩
   ·show Du N' s.heap q (aM hp q)
    by_cases hq:q < hh.heap.length
    ·have ho:hh.heap[q]?=some hh.heap[q]:=List.getElem?_eq_getElem hq;have hj:ms[q]?=some (ms[q]'(by omega)):=List.getElem?_eq_getElem (by omega)
     obtain ⟨a1,a2,a3,a4,a5,a6,a7,a8⟩:=FR q _ _ ho hj;rw [a8];generalize hh.heap[q]=o at *;generalize ms[q]'_=j at *;rcases nQ a5 with ⟨rfl,bU,dW,RX,rfl,rfl⟩|⟨i',rfl,⟨m,ds,ax,rfl,g,c1,c2,rfl⟩|⟨ss,ds,rfl,g,c1⟩|⟨bU,dW,RX,VC,x',fr',al',rfl,g,c1,c2,rfl⟩⟩
     ·obtain ⟨c,g1,rfl⟩:=tZ a6;simp only [aV,Option.some.injEq] at g1;subst g1;refine ⟨[],0,?_,by simp,.inr ⟨Zh q hj,rfl,fun _=>⟨rfl,rfl⟩⟩⟩
      show aV (w1++w2) (.v a3.length)=_
      rw [a7,List.append_assoc];exact at_new a3 _ _
     ·obtain ⟨j',ds',g1,g2,g3⟩:=hR.mem.box (N:=nm ρ μ σ) g;exact ⟨j',ds',by rw [show N'.μ q=μ' q from rfl,hmu q i' hj];exact g1,g2,(zF hL hR.mem g3 c1 c2 a6 a7).2.1⟩
     ·obtain ⟨j',ds',g1,g2,g3⟩:=hR.mem.box (N:=nm ρ μ σ) g;cases e9:gW a3.length ss with
      |mk dN n9=>
       obtain ⟨_,q2⟩:=wI hL g3 c1 a6 a7 e9;simp only [jX,e9];exact ⟨j',ds',by rw [show N'.μ q=μ' q from rfl,hmu q i' hj];exact g1,g2,q2⟩
     ·obtain ⟨cs,n,g1,g2,g3⟩:=hR.mem.arr (N:=nm ρ μ σ) g;obtain ⟨c,f1,rfl⟩:=tZ a6;rw [show aV (nm ρ μ σ).ρ x'=aV ρ x' from rfl,f1] at g1
      injection g1 with g1;subst g1;refine ⟨cs,n,?_,g2,?_⟩
      ·show aV (w1++w2) (.v a3.length)=_
       rw [a7,List.append_assoc];exact at_new a3 _ _
      ·rcases g3 with ⟨j',fz,k1,k2,k3,k4,k5⟩|⟨k1,k2,k3⟩
       ·refine .inl ⟨j',fz,by rw [show N'.μ q=μ' q from rfl,hmu q i' hj];exact k1,k2,k3,k4,fun hf=>k5 ?_⟩
        cases fr' with
        |false=>rfl
        |true=>rw [c1 rfl] at hf;cases hf
       ·refine .inr ⟨by rw [show N'.μ q=μ' q from rfl,hmu q i' hj];exact k1,?_,fun hf=>k3 ?_⟩
        ·cases VC with
         |false=>rfl
         |true=>rw [c2 rfl] at k2;cases k2
        ·cases fr' with
         |false=>rfl
         |true=>rw [c1 rfl] at hf;cases hf
    ·rw [i3 q (.inr (by omega))];trivial
   ·obtain ⟨i,p1,p2⟩:=TL q j g3;obtain ⟨i',p3,p4⟩:=TL q' j g4;have:=hR.mem.inj i i' j (hsome q i p1) (hsome q' i' p3) p2 p4
    subst this;exact wM ac8 p1 p3
   ·obtain ⟨i,p1,p2⟩:=TL q j g2;exact hR.mem.lt i j (hsome q i p1) p2
   ·have hq':hh.heap.length<=q:=hq;exact i3 q (.inr (by omega))
   ·obtain ⟨i,p1,p2⟩:=TL q j g2;exact hR.mem.base i j (hsome q i p1) p2
   ·rw [List.mem_append] at hi;rcases hi with hi|hi
    ·exact r3 i m hi
    ·obtain ⟨p,o,j,t1',w1',p8,pq,b1,b2,b3,b4,b5,b6⟩:=i5 _ hi;exact hbl p o j b1 b2 t1' w1' p8 pq b3 b4 b5 _ b6
   ·have hlt:q < b.ai.length:=(List.getElem?_eq_some_iff.1 hq).1;have hmq:=zI hc2 (Nat.zero_le q) (by omega)
    refine ⟨?_,?_⟩
    ·show q < hh.heap.length;rw [<-SG];exact (List.getElem?_eq_some_iff.1 hmq).1
    ·rw [hmu q q hmq];exact (hR.ai q j hq).2
end Go.Ey
