/- A part. -/
import Derived.Test.YtolnnaanmfnkjaaGreatDoorY12
set_option linter.all false
namespace Go.Ey
section
variable {b:Bs} {ρ:List W} {μ:Nat->Option Nat} {σ:Sy} {h:Heap} {k:Nat} {call:qM} {head:ug} {r:R} {F:Fe} {sig:Nat->Option fC}
theorem BG {lens:List (Nat×Nat)} {hs:List (Nat×SO)}:∀{bx ms:List Nat} {bs:List SL},su lens hs bx ms=some bs->∀i∈bx,∃ds,dm hs i=.box ds
 |[],_,_,_,i,hi=>by simp at hi
 |_::_,[],_,hf,_,_=>by simp [su] at hf
 |i::bx,m::ms,bs,hf,p,hp=>by
  simp only [su] at hf;split at hf
  case h_2=>cases hf
  rename_i ds hg;simp only [A1] at hf;obtain ⟨aY,h1,hf⟩:=hf;split at hf
  case isFalse=>cases hf
  simp only [A1] at hf;obtain ⟨bs',h2,_⟩:=hf;simp only [D1] at hp;rcases hp with rfl|hp
  ·exact ⟨ds,hg⟩
  ·exact BG h2 p hp
theorem aaV {h:Heap} {k0:Nat} {ck:CK} {c:C} {d:D} (hr:QS h k0 ck c d):∀j∈DR ck d,k0<=j:=by
 intro j hj;cases ck with
 |own ay ety fr al=>
  obtain ⟨cs,n,_,_,⟨j',fz,rfl,h3,_⟩|⟨rfl,_⟩⟩:=hr
  ·simp [DR] at hj;subst hj;exact h3
  ·simp [DR] at hj
 |_=>simp [DR] at hj
theorem UY {h:Heap} {k0:Nat}:∀{ks:List CK} {cs:List C} {ds:List D},gz (QS h k0) ks cs ds->∀j∈CU ks ds,k0<=j
 |[],[],[],_,j,hj=>by simp [CU] at hj
 |_::_,_::_,_::_,hr,j,hj=>by simp only [CU,Bx] at hj;exact hj.elim (aaV hr.1 j) (UY hr.2 j)
 |[],_::_,_,h1,_,_=>h1.elim
 |[],[],_::_,h1,_,_=>h1.elim
 |_::_,[],_,h1,_,_=>h1.elim
 |_::_,_::_,[],h1,_,_=>h1.elim
theorem V7 {h:Heap} {k0:Nat}:∀{ks:List RS} {vs:List V} {ds:List D},gz (RsR h k0) ks vs ds->∀j∈qi ks ds,k0<=j
 |[],[],[],_,j,hj=>by simp [qi] at hj
 |rs::_,v::_,d::_,hr,j,hj=>by
  simp only [qi,Bx] at hj;rcases hj with hj|hj
  ·cases rs with
   |one k=>cases v with
    |full _ _=>exact hr.1.elim
    |one c=>exact aaV hr.1 j hj
    |agg cs=>exact hr.1.elim
   |agg ks=>cases v with
    |full _ _=>exact hr.1.elim
    |one c=>exact hr.1.elim
    |agg cs=>obtain ⟨ds,rfl,h2⟩:=hr.1;exact UY h2 j hj
  ·exact V7 hr.2 j hj
 |[],_::_,_,h1,_,_=>h1.elim
 |[],[],_::_,h1,_,_=>h1.elim
 |_::_,[],_,h1,_,_=>h1.elim
 |_::_,_::_,[],h1,_,_=>h1.elim
theorem aeo {h:Heap} {k0:Nat}:∀{ks:List RS} {vs:List V} {ds:List D},ks.all RS.WC=true->gz (RsR h k0) ks vs ds->gz (RsS h k0) ks vs ds:=by
 have one:∀{ck:CK} {c:C} {d:D},ck.WC=true->QS h k0 ck c d->CkS h k0 ck c d:=by intro ck c d hk hr;cases ck<;>first|exact hr|cases hk
 have many:∀{ks:List CK} {cs:List C} {ds:List D},ks.all CK.WC=true->gz (QS h k0) ks cs ds->gz (CkS h k0) ks cs ds:=by
  intro ks;induction ks with
  |nil=>intro cs ds _ hr;cases cs<;>cases ds<;>first|trivial|exact hr.elim
  |cons ck ks ih=>
   intro cs ds hk hr;cases cs with
   |nil=>exact hr.elim
   |cons c cs=>cases ds with
    |nil=>exact hr.elim
    |cons d ds=>
     simp only [Iv,As] at hk;exact ⟨one hk.1 hr.1,ih hk.2 hr.2⟩
 intro ks;induction ks with
 |nil=>intro vs ds _ hr;cases vs<;>cases ds<;>first|trivial|exact hr.elim
 |cons rs ks ih=>
  intro vs ds hk hr;cases vs with
  |nil=>exact hr.elim
  |cons v vs=>cases ds with
   |nil=>exact hr.elim
   |cons d ds=>
    simp only [Iv,As] at hk;refine ⟨?_,ih hk.2 hr.2⟩;cases rs with
    |one k=>cases v with
     |full _ _=>exact hr.1.elim
     |one c=>exact one hk.1 hr.1
     |agg cs=>exact hr.1.elim
    |agg cks=>cases v with
     |full _ _=>exact hr.1.elim
     |one c=>exact hr.1.elim
     |agg cs=>obtain ⟨es,h1,h2⟩:=hr.1;exact ⟨es,h1,many hk.1 h2⟩
theorem aa7 {h h0:Heap} {k0:Nat}:∀{ks:List RS} {vs:List V} {ds ds1:List D},ks.all RS.isC=true->gz (RsR h0 k0) ks vs ds->aF VD vs ds1->gz (RsS h k0) ks vs ds1/\qi ks ds1=[]:=by
 have many:∀{ks:List CK} {cs:List C} {ds ds1:List D},ks.all CK.isC=true->gz (QS h0 k0) ks cs ds->aF CD cs ds1->gz (CkS h k0) ks cs ds1/\CU ks ds1=[]:=by
  intro ks;induction ks with
  |nil=>
   intro cs ds ds1 _ hr hv;cases cs with
   |nil=>cases ds1 with
    |nil=>exact ⟨trivial,rfl⟩
    |cons _ _=>exact hv.elim
   |cons _ _=>cases ds<;>exact hr.elim
  |cons ck ks ih=>
   intro cs ds ds1 hk hr hv;cases cs with
   |nil=>exact hr.elim
   |cons c cs=>cases ds with
    |nil=>exact hr.elim
    |cons d ds=>cases ds1 with
     |nil=>exact hv.elim
     |cons d1 ds1=>
      simp only [Iv,As] at hk;obtain ⟨h1,h2⟩:=ih hk.2 hr.2 hv.2;cases ck with
      |c=>exact ⟨⟨hv.1,h1⟩,by simp [CU,DR,h2]⟩
      |_=>cases hk.1
 intro ks;induction ks with
 |nil=>
  intro vs ds ds1 _ hr hv;cases vs with
  |nil=>cases ds1 with
   |nil=>exact ⟨trivial,rfl⟩
   |cons _ _=>exact hv.elim
  |cons _ _=>cases ds<;>exact hr.elim
 |cons rs ks ih=>
  intro vs ds ds1 hk hr hv;cases vs with
  |nil=>exact hr.elim
  |cons v vs=>cases ds with
   |nil=>exact hr.elim
   |cons d ds=>cases ds1 with
    |nil=>exact hv.elim
    |cons d1 ds1=>
     simp only [Iv,As] at hk;obtain ⟨h1,h2⟩:=ih hk.2 hr.2 hv.2;cases rs with
     |one ck=>cases v with
      |full _ _=>exact hr.1.elim
      |one c=>cases ck with
       |c=>exact ⟨⟨hv.1,h1⟩,by simp [qi,Yr,DR,h2]⟩
       |_=>cases hk.1
      |agg cs=>exact hr.1.elim
     |agg cks=>cases v with
      |full _ _=>exact hr.1.elim
      |one c=>exact hr.1.elim
      |agg cs=>
       obtain ⟨es,_,h3⟩:=hr.1;obtain ⟨es1,h4,h5⟩:=hv.1;obtain ⟨h6,h7⟩:=many hk.1 h3 h5;subst h4;exact ⟨⟨⟨es1,rfl,h6⟩,h1⟩,by simp [qi,Yr,h7,h2]⟩
theorem OT {us:List (Nat×Obj)}:∀{h:Heap} {j:Nat},(∀p∈us,p.1≠j)->aH (aK h us) j=aH h j:=by
 induction us with
 |nil=>intro h j _;rfl
 |cons u us ih=>
  intro h j hn;simp only [aK];rw [ih fun p hp=>hn p (by simp [hp])]
  simp [aH,hn u (by simp)]
theorem Rm.heap' {N:Nm} {lens:List (Nat×Nat)} (hm:Rm b N h k lens) {h':Heap} (hh:∀j,j < b.k0\/(∃i,i < N.nx/\N.μ i=some j)->aH h' j=aH h j):Rm b N h' k lens:=
 { hm with
   obj:=fun i=>by
    by_cases hi:i < N.nx
    ·exact (hm.obj i).mono (l9.refl N) hi fun j hj=>hh j (.inr ⟨i,hi,hj⟩)
    ·rw [hm.dom i (My hi)];trivial
   frame:=fun j h1 h2=>by rw [hh j (.inl h1)];exact hm.frame j h1 h2}
theorem ajk {N:Nm} {jI:List SD} {ds:List D} (h:aF (RA N) jI ds):RD N (ZK jI) (Eu ds):=by
 match jI,ds,h with
 |[],[],_=>exact ⟨[],rfl,trivial⟩
 |[d],[v],h=>exact h.1.nE
 |d::d'::ds,v::v'::vs,h=>exact ⟨_,rfl,h⟩
def aal (b:Bs) (ρ:List W) (μ:Nat->Option Nat) (σ:Sy) (call:qM) (head:ug) (kt:SD->Sy->Nat->Tree) (r:R) (d:D) (h':Heap) (k':Nat):Prop:=
 ∃(ws:List W) (μ':Nat->Option Nat) (σ':Sy) (sd:SD),σ'.env=σ.env/\l9 (nm ρ μ σ) (nm (ρ++ws) μ' σ')/\Rm b (nm (ρ++ws) μ' σ') h' k' σ'.lens/\RD (nm (ρ++ws) μ' σ') sd d/\aR call head (kt sd σ' (ρ++ws).length) (ρ++ws)=some r
theorem Xw {kt:SD->Sy->Nat->Tree} (hcall:tN F sig call) (hm:Rm b (nm ρ μ σ) h k σ.lens) {own:Bool} {f g:Nat} {jI:List SD} {ds:List D} (hds:aF (RD (nm ρ μ σ)) jI ds) (hd:aR call head (F5 sig own σ ρ.length f g jI kt) ρ=some r):
  ∃n0 d h' k',(∀n,n0<=n->zy (jh F n) (cond own 1 0) f ds h k=some (d,h',k'))/\k<=k'/\aal b ρ μ σ call head kt r d h' k':=by
 unfold F5 at hd;split at hd
 case h_2=>cases hd
 rename_i s hs;by_cases SV:s.nat=true\/s.cd g≠f
 ·rw [C4 SV] at hd;cases hd
 rw [Dd SV] at hd;have hsn:¬s.nat=true:=fun e=>SV (.inl e)
 have hcf:s.cd g=f:=L1 fun e=>SV (.inr e)
 by_cases hkind:(if own=true then s.rs.all RS.WC else s.rs.all RS.isC)=true
 case neg=>rw [Dd hkind] at hd;cases hd
 rw [C4 hkind] at hd;split at hd
 case h_2=>cases hd
 rename_i bx hbx;split at hd
 case isFalse=>cases hd
 rename_i hnd;split at hd
 case h_2=>cases hd
 rename_i aY us hargs;split at hd
 case h_2=>cases hd
 rename_i bs hbs;have hlb:=Im hbx;obtain ⟨bg,hl⟩:=KC hds hbx;have hbn:=A8 hnd;obtain ⟨ds1,Et,a1,a2,a3,GH,a4,a5⟩:=ML hm hl hds hargs;obtain ⟨xss,c1,c2⟩:=Dy (N:=(nm ρ μ σ).upd us) a3 hl hbs;cases hr:Py (mH (σ.upd us) bx s.boxes (ρ.length+(s.rs.map RS.shape).length)) s.rs ρ.length with
 |mk aeZ σ2=>
  simp only [hr,aR,A1] at hd;obtain ⟨alo,h1,xss',h2,rr,h3,hd⟩:=hd;have e1:alo=GH:=by have:wC ρ aY=some GH:=a4;rw [h1] at this;injection this
  have e2:xss'=xss:=by have:FL ρ bs=some xss:=c1;rw [h2] at this;injection this
  subst e1 e2;obtain ⟨s',g1,g2,g3,g4⟩:=hcall _ _ _ _ h3;rw [hs] at g1;injection g1 with g1;subst g1
  have hln:=mM.nodup hm hl hbn;have hlk:∀j∈bg,j < k:=fun j hj=>by obtain ⟨i,_,q2,q3⟩:=mM.mem hl j hj;exact hm.lt i j q2 q3
  obtain ⟨n,rs,h',k',f1,f2,f3,f4,f5,f6,f7⟩:=(hcf▸(g4.1 (by simpa using hsn)).1) (aK h Et) k bg ds1 (a5 g2) c2 hln hlk
  unfold sized at hd;split at hd
  case isFalse=>cases hd
  rename_i hsz;obtain ⟨ws,w1,w2⟩:=xx hd;rw [An] at w1;obtain ⟨yss,w3,w4,w5⟩:=Fv w2;have amS:yss=rr.2:=by
   apply List.ext_getElem?;intro q;by_cases hq:q < s.boxes.length
   ·rw [<-w4 q hq,E1]
   ·have q1:yss.length=s.boxes.length:=w3.len.symm;rw [Hj (by omega),Hj (by rw [hsz.2];omega)]
  subst amS;have hmu:Rm b (nm (ρ++(ws++rr.2.map .l)) μ (σ.upd us)) (aK h Et) k (σ.upd us).lens:=a3.ext (ws++rr.2.map W.l);have hwl:(ρ++ws).length=ρ.length+(s.rs.map RS.shape).length:=by rw [B8,w1.len]
  obtain ⟨v1,v2⟩:=NA (σ:=σ.upd us) (ρ:=ρ++(ws++rr.2.map W.l)) (pre:=ρ++ws) (xss:=rr.2) hmu hbn hlb hl (BG hbs) f2 f3 f4 (by rw [Bk])
  rw [hwl] at v1 v2;have hres:∀{h2:Heap} {rs2:List D},Rm b (nm (ρ++(ws++rr.2.map .l)) μ (mH (σ.upd us) bx s.boxes (ρ.length+(s.rs.map RS.shape).length))) h2 k' (mH (σ.upd us) bx s.boxes (ρ.length+(s.rs.map RS.shape).length)).lens->gz (RsS h2 k) s.rs rr.1 rs2->(qi s.rs rs2).Nodup->(∀j∈qi s.rs rs2,k<=j/\j < k')->aal b ρ μ σ call head kt r (Eu rs2) h2 k':=by
   intro h2 rs2 hm2 hrs am7 hown;obtain ⟨μ',p1,p2,p3,p4,_⟩:=MH (ρ:=ρ++(ws++rr.2.map .l)) (k0:=k) (pre:=ρ) (post:=rr.2.map .l) hm.le hm2 w1 (by rw [Bk]) hrs am7 (fun j hj=>⟨(hown j hj).2,fun i hi he=>by
    have e3:(mH (σ.upd us) bx s.boxes (ρ.length+(s.rs.map RS.shape).length)).nx=σ.nx:=CE.2;rw [e3] at hi;have:=hm.lt i j hi he
    have:=(hown j hj).1
    omega⟩) hr
   refine ⟨ws++rr.2.map .l,μ',σ2,ZK aeZ,p4.trans CE.1,((a2.trans (mK _ (ws++rr.2.map W.l))).trans v1).trans p1,p2,ajk p3,?_⟩;rw [Bk] at w5;rw [show (ρ++(ws++rr.2.map W.l)).length=ρ.length+(s.rs.map RS.shape).length+s.boxes.length by have q1:=w1.len;have q2:=hsz.2;simp only [B8,Mn] at *;omega]
   exact w5
  cases own with
  |true=>
   simp only [Ek] at hkind;refine ⟨n,Eu rs,h',k',fun m hmn=>?_,f2,hres v2 (aeo hkind f5) f6 fun j hj=>⟨V7 f5 j hj,f7 j hj⟩⟩
   simp only [zy,VA,Fi,a1,show ¬((1:Nat)=2) by decide,Cd,A2,A4]
   rw [QF hmn f ds1 (aK h Et) k _ f1];simp
  |false=>
   simp only [C2,Cd] at hkind;obtain ⟨HV,d1,d2,_⟩:=Gw (abg f5);obtain ⟨rs2,d3,d4⟩:=WX d1;obtain ⟨q1,q2⟩:=aa7 (h:=aK h' HV) hkind f5 d4;refine ⟨n,Eu rs2,aK h' HV,k',fun m hmn=>?_,f2,hres (v2.heap' fun j hj=>OT fun p hp he=>?_) q1 (by rw [q2];exact Ix) (by rw [q2];simp)⟩
   ·simp only [zy,VA,E4,a1,show ¬((0:Nat)=2) by decide,Cd,A2,A4]
    rw [QF hmn f ds1 (aK h Et) k _ f1];simp [d3]
   ·have hge:=d2 p hp;subst he;rcases hj with hj|⟨i,hi,hj⟩
    ·have:=hm.le;omega
    ·have e3:(mH (σ.upd us) bx s.boxes (ρ.length+(s.rs.map RS.shape).length)).nx=σ.nx:=CE.2;have hi':i < σ.nx:=by rw [<-e3];exact hi
     have:=hm.lt i p.1 hi' hj
     omega
theorem Oz {kt:SD->Sy->Nat->Tree} (hcall:tN F sig call) (hm:Rm b (nm ρ μ σ) h k σ.lens) {own:Bool} {f:Nat} {jI:List SD} {ds:List D} (hds:aF (RD (nm ρ μ σ)) jI ds) (hd:aR call head (Uh sig own σ ρ.length f jI kt) ρ=some r):
  ∃n0 d h' k',(∀n,n0<=n->zy (jh F n) (cond own 1 0) f ds h k=some (d,h',k'))/\k<=k'/\aal b ρ μ σ call head kt r d h' k':=
 Xw hcall hm hds hd
end
end Go.Ey
namespace Go.Ey
section
variable {b:Bs} {N:Nm} {h:Heap} {k:Nat} {lens:List (Nat×Nat)}
theorem Zw {l:List Nat} (hn:l.Nodup) {q j:Nat} (hq:l[q]?=some j):(l.take q).contains j=false:=by
 rw [List.contains_eq_mem,decide_eq_false_iff_not];intro hm;obtain ⟨p,hp⟩:=List.getElem?_of_mem hm;rw [List.getElem?_take] at hp;split at hp
 ·rename_i hlt;obtain ⟨a1,a2⟩:=B0.1 hq;obtain ⟨b1,b2⟩:=B0.1 hp;have:=(List.getElem_inj hn).1 (a2.trans b2.symm)
  omega
 ·cases hp
theorem abU {l:List Nat} {q j:Nat} (hq:l[q]?=some j):l.take q++[j]=l.take (q+1):=by rw [List.take_add_one,hq];rfl
theorem Fj {bx bg:List Nat} (hn:bg.Nodup):∀{ps:List PS} {jI:List SD} {ds:List D} {N:Nm} {h:Heap} {q:Nat},Rm b N h k lens->mM N bx bg->aF (RD N) jI ds->nR q ps=some bg.length->q<=bg.length->∀{aY:List TA} {us:List (Nat×SO)},Br lens N.hs bx ps jI=some (aY,us)->
  ∃lv us',eT h ds (bg.take q)=some (lv,bg,us')/\l9 N (N.upd us)/\Rm b (N.upd us) (aK h us') k lens/\mY N (us'.map (·.1)) (jI.flatMap nG)/\mY N (ds.flatMap zu) (jI.flatMap nG)/\∃GH,wC N.ρ aY=some GH/\(sF ps GH->gz (ZH (List.range bg.length)) ps GH (lv.map LV.nE))
 |[],[],[],N,h,q,hm,_,_,hq,hle,aY,us,hf=>by simp only [Br,A0,A3] at hf;obtain ⟨rfl,rfl⟩:=hf;simp only [nR,A0] at hq;subst hq;exact ⟨[],[],by simp [eT],l9.refl _,hm,mY.nil,mY.nil,[],rfl,fun _=>trivial⟩
 |[],_::_,_,_,_,_,_,_,_,_,_,_,_,hf=>by simp [Br] at hf
 |.one::_,[],_,_,_,_,_,_,_,_,_,_,_,hf=>by cases hf
 |.agg _::_,[],_,_,_,_,_,_,_,_,_,_,_,hf=>by cases hf
 |.ref _ _::_,[],_,_,_,_,_,_,_,_,_,_,_,hf=>by cases hf
 |.fD _ _::_,[],_,_,_,_,_,_,_,_,_,_,_,hf=>by cases hf
 |p::ps,sd::jI,[],_,_,_,_,_,hr,_,_,_,_,_=>hr.elim
 |[],[],_::_,_,_,_,_,_,hr,_,_,_,_,_=>hr.elim
 |p::ps,sd::jI,d::ds,N,h,q,hm,hl,hr,hq,hle,aY,us,hf=>by
  have gen:(∀q o,p≠.ref q o)->(∀q o,p≠.fD q o)->nR q ps=some bg.length->(GX lens N.hs sd).bind (fun p=>(Br lens (H9 N.hs p.2) bx ps jI).bind fun q=>some (TA.v p.1::q.1,p.2++q.2))=some (aY,us)->
    ∃lv us',eT h (d::ds) (bg.take q)=some (lv,bg,us')/\l9 N (N.upd us)/\Rm b (N.upd us) (aK h us') k lens/\mY N (us'.map (·.1)) ((sd::jI).flatMap nG)/\mY N ((d::ds).flatMap zu) ((sd::jI).flatMap nG)/\∃GH,wC N.ρ aY=some GH/\(sF (p::ps) GH->gz (ZH (List.range bg.length)) (p::ps) GH (lv.map LV.nE)):=by
   intro hp hp' hq hf;simp only [A1,A0,A3,C0] at hf;obtain ⟨tv,u1,h1,as',u2,h2,rfl,rfl⟩:=hf;obtain ⟨v,Et,k1,k2,k3,k4,k5⟩:=PN hm hr.1 h1;obtain ⟨lv,HV,q1,q2,q3,q6,q7,GH,q4,q5⟩:=Fj hn (N:=N.upd u1) (h:=aK h Et) k4 hl (hr.2.mono fun _ _=>k3.rd) hq hle h2
   have hds:nG sd=zO sd:=by cases sd<;>first|rfl|(simp [GX,A7] at h1)
   have hd:∀id off,d≠.loc id off:=by rintro id off rfl;simp [nP,oo] at k1
   have hdl:zu d=dI d:=by cases d<;>first|rfl|exact absurd rfl (hd _ _)
   have hla:eT h (d::ds) (bg.take q)=(nP h d).bind fun p=>(eT (aK h p.2) ds (bg.take q)).bind fun r=>some (LV.v p.1::r.1,r.2.1,p.2++r.2.2):=by cases d<;>first|rfl|exact absurd rfl (hd _ _)
   refine ⟨.v v::lv,Et++HV,?_,?_,?_,?_,?_,.v v::GH,?_,fun hs=>?_⟩
   ·rw [hla,k1];simp [q1]
   ·rw [Nm.mZ];exact k3.trans q2
   ·rw [Nm.mZ,jy];exact q3
   ·rw [K1,D3,hds];exact mY.append k5 q6
   ·rw [D3,D3,hds,hdl];exact mY.append (qG hr.1 (Q6 h1)) q7
   ·have:wC N.ρ as'=some GH:=q4
    simp [wC,YX,k2,this]
   ·cases p with
    |one=>cases v with
     |full _ _=>exact hs.elim
     |one c=>exact ⟨show CD c (.c c) from .inl rfl,q5 hs⟩
     |agg cs=>exact hs.elim
    |agg m=>cases v with
     |full _ _=>exact hs.elim
     |one c=>exact hs.elim
     |agg cs=>exact ⟨⟨hs.1,VD.refl _⟩,q5 hs.2⟩
    |ref q o=>exact absurd rfl (hp q o)
    |fD q o=>exact absurd rfl (hp' q o)
  cases p with
  |one=>exact gen (by simp) (by simp) (by simpa [nR] using hq) (by simpa [Br] using hf)
  |agg m=>exact gen (by simp) (by simp) (by simpa [nR] using hq) (by simpa [Br] using hf)
  |fD g cs=>simp [nR] at hq
  |ref q' off=>
   simp only [nR] at hq;split at hq
   case isFalse=>cases hq
   rename_i hqq;obtain ⟨rfl,rfl⟩:=hqq;cases sd with
   |loc i o=>
    simp only [Br] at hf;split at hf
    case isFalse=>cases hf
    rename_i hc;obtain ⟨hc1,rfl⟩:=hc;simp only [A1,A0,A3,C0] at hf;obtain ⟨as',u2,h2,rfl,rfl⟩:=hf;obtain ⟨hi,j,g1,g2⟩:=hr.1;obtain ⟨j',g3,_,g4⟩:=hl.get hc1;rw [g1] at g4;injection g4 with g4;subst g4
    have hlt:=(B0.1 g3).1;obtain ⟨lv,HV,q1,q2,q3,q6,q7,GH,q4,q5⟩:=Fj hn (q:=q'+1) hm hl hr.2 hq hlt h2;refine ⟨.ref q'::lv,HV,?_,q2,q3,?_,?_,.ref q' 0::GH,?_,fun hs=>⟨⟨rfl,rfl,q',by simp [hlt],rfl⟩,q5 hs.2.2⟩⟩
    ·subst g2;simp only [eT];rw [C4 ⟨trivial,Zw hn g3⟩,abU g3,q1];have:(bg.take q').length=q':=by rw [Fo];omega
     simp [this]
    ·intro j2 hj2;obtain ⟨i2,a1,a2⟩:=q6 j2 hj2;exact ⟨i2,by rw [D3];exact Kx _ a1,a2⟩
    ·subst g2;rw [D3,D3];exact mY.append (fun j2 hj2=>by simp only [zu,By] at hj2;subst hj2;exact ⟨i,by simp [nG],hi,g1⟩) q7
    ·simp [wC,YX,q4]
   |_=>simp [Br] at hf
theorem KN:∀{cs:List C} {ds:List D},aF CD cs ds->lq ds=some cs/\∀hp:Heap,lZ hp ds=some (cs,[])
 |[],[],_=>⟨rfl,fun _=>rfl⟩
 |c::cs,d::ds,hr=>by
  obtain ⟨h1,h2⟩:=KN hr.2;rcases hr.1 with rfl|⟨xs,n,rfl,rfl⟩
  ·exact ⟨by simp [lq,h1],fun hp=>by simp [lZ,oo,aK,h2]⟩
  ·exact ⟨by simp [lq,h1],fun hp=>by simp [lZ,oo,aK,h2]⟩
 |[],_::_,hr=>hr.elim
 |_::_,[],hr=>hr.elim
theorem GN:∀{ms:List Nat} {xss:List (List C)} {bg:List Nat},gz (Iz h) ms xss bg->ku h bg=some xss
 |[],[],[],_=>rfl
 |m::ms,xs::xss,j::bg,hb=>by obtain ⟨_,ds,h1,h2⟩:=hb.1;simp [ku,h1,(KN h2).1,GN hb.2]
 |[],_::_,_,h1=>h1.elim
 |[],[],_::_,h1=>h1.elim
 |_::_,[],_,h1=>h1.elim
 |_::_,_::_,[],h1=>h1.elim
theorem aaT:∀(bs:List (List C)) (q j:Nat) (cs:List C),bs[j]?=some cs->aH (J9 q bs) (q+j)=.box (cs.map .c)
 |[],_,_,_,hj=>by simp at hj
 |b::bs,q,0,cs,hj=>by simp only [D2,A0] at hj;subst hj;simp [J9,aH]
 |b::bs,q,j+1,cs,hj=>by
  simp only [C6] at hj;have:=aaT bs (q+1) j cs hj
  simp only [J9,aH];rw [Dd (by omega),show q+(j+1)=q+1+j by omega]
  exact this
theorem Po:∀cs:List C,aF CD cs (cs.map .c)
 |[]=>trivial
 |_::cs=>⟨.inl rfl,Po cs⟩
theorem aae {hp:Heap}:∀{ms:List Nat} {xss:List (List C)} {q:Nat},aF (fun m (xs:List C)=>xs.length=m) ms xss->(∀j cs,xss[j]?=some cs->aH hp (q+j)=.box (cs.map .c))->gz (Iz hp) ms xss ((List.range xss.length).map (q+·))
 |[],[],q,_,_=>trivial
 |m::ms,xs::xss,q,hs,hg=>by
  rw [Bm,List.range_succ_eq_map,Cp,List.map_map];refine ⟨⟨hs.1,_,hg 0 xs rfl,Po xs⟩,?_⟩;have:=aae (q:=q+1) hs.2 fun j cs hj=>by
   have:=hg (j+1) cs (by simpa using hj)
   rw [show q+1+j=q+(j+1) by omega];exact this
  have e:((fun x=>q+x) ∘ Nat.succ)=fun x=>q+1+x:=by funext x;simp;omega
  rw [e];exact this
 |[],_::_,_,hs,_=>hs.elim
 |_::_,[],_,hs,_=>hs.elim
theorem OQ:∀{ms:List Nat} {xss:List (List C)} {q:Nat} {hp:Heap},gz (Iz hp) ms xss ((List.range xss.length).map (q+·))->zP hp q xss.length=some (xss,[])
 |_,[],_,_,_=>rfl
 |m::ms,xs::xss,q,hp,hb=>by
  rw [Bm,List.range_succ_eq_map,Cp,List.map_map] at hb;obtain ⟨⟨_,ds,h1,h2⟩,hb⟩:=hb;have e:((fun x=>q+x) ∘ Nat.succ)=fun x=>q+1+x:=by funext x;simp;omega
  rw [e] at hb;have:=OQ hb
  rw [Bm];simp only [Hp] at h1;simp [zP,h1,(KN h2).2,aK,this]
 |[],_::_,_,_,hb=>by rw [Bm,List.range_succ_eq_map,Cp] at hb;exact hb.elim
theorem Iz.upd {hp:Heap} {us:List (Nat×Obj)} {k0:Nat} (hu:∀p∈us,k0<=p.1) {m:Nat} {xs:List C} {j:Nat} (hj:j < k0) (hb:Iz hp m xs j):Iz (aK hp us) m xs j:=by obtain ⟨h1,ds,h2,h3⟩:=hb;exact ⟨h1,ds,by rw [OT fun p hp he=>by have:=hu p hp;omega];exact h2,h3⟩
theorem gz.mem3 {α β γ:Type} {R R':α->β->γ->Prop}:∀{aY:List α} {bs:List β} {cs:List γ},(∀a b c,c∈cs->R a b c->R' a b c)->gz R aY bs cs->gz R' aY bs cs
 |[],[],[],_,_=>trivial
 |_::_,_::_,_::_,h,h1=>⟨h _ _ _ (by simp) h1.1,gz.mem3 (fun a b c hc=>h a b c (by simp [hc])) h1.2⟩
 |[],_::_,_,_,h1=>h1.elim
 |[],[],_::_,_,h1=>h1.elim
 |_::_,[],_,_,h1=>h1.elim
 |_::_,_::_,[],_,h1=>h1.elim
theorem RL:∀{ms:List Nat} {xss:List (List C)} {bg:List Nat} (hp:Heap),aF (fun m (xs:List C)=>xs.length=m) ms xss->bg.length=xss.length->bg.Nodup->
  gz (Iz (aK hp ((bg.zip xss).map fun p=>(p.1,Obj.box (p.2.map .c))))) ms xss bg/\∀j,j ∉ bg->aH (aK hp ((bg.zip xss).map fun p=>(p.1,Obj.box (p.2.map .c)))) j=aH hp j
 |[],[],[],hp,_,_,_=>⟨trivial,fun _ _=>rfl⟩
 |m::ms,xs::xss,j::bg,hp,hs,hl,hn=>by
  rw [K0] at hn;obtain ⟨h1,h2⟩:=RL ((j,Obj.box (xs.map .c))::hp) hs.2 (by simpa using hl) hn.2
  simp only [List.zip_cons_cons,Cp,aK];refine ⟨⟨⟨hs.1,xs.map .c,?_,Po xs⟩,h1⟩,fun i hi=>?_⟩
  ·rw [h2 j hn.1];simp [aH]
  ·simp only [D1,not_or] at hi;rw [h2 i hi.2];simp [aH,Ne.symm hi.1]
 |[],[],_::_,_,_,hl,_=>by simp at hl
 |[],_::_,_,_,hs,_,_=>hs.elim
 |_::_,[],_,_,hs,_,_=>hs.elim
 |_::_,_::_,[],_,_,hl,_=>by simp at hl
theorem abY:∀rs:List V,Eu (rs.map V.nE)=Sr rs
 |[]=>rfl
 |[_]=>rfl
 |_::_::_=>rfl
theorem DY:∀{ps:List PS} {q m:Nat},nR q ps=some m->∀g cs,PS.fD g cs ∉ ps
 |[],_,_,_,_,_=>by simp
 |.one::ps,q,m,h,g,cs=>by
  have:=DY (ps:=ps) (q:=q) (m:=m) (by simpa [nR] using h) g cs
  simpa using this
 |.agg _::ps,q,m,h,g,cs=>by
  have:=DY (ps:=ps) (q:=q) (m:=m) (by simpa [nR] using h) g cs
  simpa using this
 |.ref _ _::ps,q,m,h,g,cs=>by
  simp only [nR] at h;split at h
  ·have:=DY h g cs
   simpa using this
  ·cases h
 |.fD _ _::_,_,_,h,_,_=>by simp [nR] at h
theorem Vj:∀{ps:List PS} {jI:List SD} {q i:Nat},(∀g cs,PS.fD g cs ∉ ps)->qc ps jI q=some i->i∈jI.flatMap nG
 |[],_,q,i,_,h=>by simp [qc] at h
 |.one::_,[],q,i,_,h=>by cases h
 |.agg _::_,[],q,i,_,h=>by cases h
 |.ref _ _::_,[],q,i,_,h=>by cases h
 |.fD _ _::_,[],q,i,_,h=>by cases h
 |p::ps,sd::jI,q,i,hno,h=>by
  have rest:qc ps jI q=some i->i∈(sd::jI).flatMap nG:=fun h=>by rw [D3];exact Kx _ (Vj (fun g cs hm=>hno g cs (E2 _ hm)) h)
  cases p with
  |one=>exact rest (by simpa [qc] using h)
  |agg m=>exact rest (by simpa [qc] using h)
  |ref q' o=>
   cases sd with
   |loc i' o'=>
    simp only [qc] at h;split at h
    ·simp only [A0] at h;subst h;simp [nG]
    ·exact rest h
   |_=>exact rest (by simpa [qc] using h)
  |fD g cs=>exact absurd (Fm ..) (hno g cs)
theorem Ri {ps:List PS} {jI:List SD} (hno:∀g cs,PS.fD g cs ∉ ps):∀{m q:Nat} {bx:List Nat},Bj ps jI q m=some bx->∀i∈bx,i∈jI.flatMap nG
 |0,_,bx,h=>by simp only [Bj,A0] at h;subst h;simp
 |m+1,q,bx,h=>by
  simp only [Bj,A1,A0] at h;obtain ⟨i,h1,is,h2,rfl⟩:=h;intro j hj;simp only [D1] at hj;rcases hj with rfl|hj
  ·exact Vj hno h1
  ·exact Ri hno h2 j hj
end
section
variable {b:Bs} {ρ:List W} {μ:Nat->Option Nat} {σ:Sy} {h:Heap} {k:Nat} {call:qM} {head:ug} {r:R} {F:Fe} {sig:Nat->Option fC}
theorem aqi {h:Heap} {k0 k1:Nat}:∀{ks:List RS} {vs:List V} {ds:List D},ks.all RS.isC=true->gz (RsS h k0) ks vs ds->gz (RsS h k1) ks vs ds:=by
 have many:∀{ks:List CK} {cs:List C} {ds:List D},ks.all CK.isC=true->gz (CkS h k0) ks cs ds->gz (CkS h k1) ks cs ds:=by
  intro ks;induction ks with
  |nil=>intro cs ds _ hr;cases cs<;>cases ds<;>first|trivial|exact hr.elim
  |cons ck ks ih=>
   intro cs ds hk hr;cases cs with
   |nil=>exact hr.elim
   |cons c cs=>cases ds with
    |nil=>exact hr.elim
    |cons d ds=>
     simp only [Iv,As] at hk;cases ck with
     |c=>exact ⟨hr.1,ih hk.2 hr.2⟩
     |_=>cases hk.1
 intro ks;induction ks with
 |nil=>intro vs ds _ hr;cases vs<;>cases ds<;>first|trivial|exact hr.elim
 |cons rs ks ih=>
  intro vs ds hk hr;cases vs with
  |nil=>exact hr.elim
  |cons v vs=>cases ds with
   |nil=>exact hr.elim
   |cons d ds=>
    simp only [Iv,As] at hk;refine ⟨?_,ih hk.2 hr.2⟩;cases rs with
    |one k=>cases v with
     |full _ _=>exact hr.1.elim
     |one c=>cases k with
      |c=>exact hr.1
      |_=>cases hk.1
     |agg cs=>exact hr.1.elim
    |agg cks=>cases v with
     |full _ _=>exact hr.1.elim
     |one c=>exact hr.1.elim
     |agg cs=>obtain ⟨es,h1,h2⟩:=hr.1;exact ⟨es,h1,many hk.1 h2⟩
theorem Zn {kt:SD->Sy->Nat->Tree} (hcall:tN F sig call) (hm:Rm b (nm ρ μ σ) h k σ.lens) {f:Nat} {jI:List SD} {ds:List D} (hds:aF (RD (nm ρ μ σ)) jI ds) (hd:aR call head (Sa sig σ ρ.length f jI kt) ρ=some r):
  ∃n0 d us,(∀n,n0<=n->Eg (lT F n) h f ds=some (d,us))/\aal b ρ μ σ call head kt r d (aK h us) k/\mY (nm ρ μ σ) (ds.flatMap zu) (jI.flatMap nG)/\mY (nm ρ μ σ) (us.map (·.1)) (jI.flatMap nG):=by
 unfold Sa at hd;split at hd
 case h_2=>cases hd
 rename_i s hs;split at hd
 case isFalse=>cases hd
 rename_i hup;unfold F5 at hd;rw [hs] at hd;simp only at hd;by_cases SV:s.nat=true\/s.cd f≠f
 ·rw [C4 SV] at hd;cases hd
 rw [Dd SV] at hd;have hsn:¬s.nat=true:=fun e=>SV (.inl e)
 have hcf:s.cd f=f:=L1 fun e=>SV (.inr e)
 simp only [C2,Cd] at hd;split at hd
 case isFalse=>cases hd
 rename_i hkind;split at hd
 case h_2=>cases hd
 rename_i bx hbx;split at hd
 case isFalse=>cases hd
 rename_i hnd;split at hd
 case h_2=>cases hd
 rename_i aY us hargs;split at hd
 case h_2=>cases hd
 rename_i bs hbs;have hlb:=Im hbx;obtain ⟨bg,hl⟩:=KC hds hbx;have hbn:=A8 hnd;have hln:=mM.nodup hm hl hbn;have hll:bg.length=s.boxes.length:=by rw [<-hlb];exact hl.len.symm
 obtain ⟨lv,Et,a1,a2,a3,a6,a7,GH,a4,a5⟩:=Fj hln (q:=0) hm hl hds (by rw [hll];exact hup) (Ft _) hargs
 obtain ⟨xss,c1,c2⟩:=Dy (N:=(nm ρ μ σ).upd us) a3 hl hbs;have hxl:xss.length=bg.length:=by have:=c2.acj;omega
 cases hr:Py (mH (σ.upd us) bx s.boxes (ρ.length+(s.rs.map RS.shape).length)) s.rs ρ.length with
 |mk aeZ σ2=>
  simp only [hr,aR,A1] at hd;obtain ⟨alo,h1,xss',h2,rr,h3,hd⟩:=hd;have e1:alo=GH:=by have:wC ρ aY=some GH:=a4;rw [h1] at this;injection this
  have e2:xss'=xss:=by have:FL ρ bs=some xss:=c1;rw [h2] at this;injection this
  subst e1 e2;obtain ⟨s',g1,g2,g3,g4⟩:=hcall _ _ _ _ h3;rw [hs] at g1;injection g1 with g1;subst g1
  have hrange:List.range bg.length=(List.range xss'.length).map (0+·):=by rw [hxl];simp
  have asz:gz (Iz (J9 0 xss')) s.boxes xss' (List.range bg.length):=by rw [hrange];exact aae g3 fun j cs hj=>aaT xss' 0 j cs hj
  obtain ⟨n,rs,h',k',f1,f2,f3,f4,f5,f6,f7⟩:=(hcf▸(g4.1 (by simpa using hsn)).1) (J9 0 xss') xss'.length (List.range bg.length) (lv.map LV.nE) (a5 g2) asz List.nodup_range (fun j hj=>by rw [Ks] at hj;omega)
  unfold sized at hd;split at hd
  case isFalse=>cases hd
  rename_i hsz;obtain ⟨ws,w1,w2⟩:=xx hd;rw [An] at w1;obtain ⟨yss,w3,w4,w5⟩:=Fv w2;have amS:yss=rr.2:=by
   apply List.ext_getElem?;intro q;by_cases hq:q < s.boxes.length
   ·rw [<-w4 q hq,E1]
   ·have q1:yss.length=s.boxes.length:=w3.len.symm;rw [Hj (by omega),Hj (by rw [hsz.2];omega)]
  subst amS;obtain ⟨HV,d1,d2,_⟩:=Gw (abg f5);have hrl:rr.2.length=bg.length:=by rw [hsz.2,hll]
  have f4':gz (Iz (aK h' HV)) s.boxes rr.2 (List.range bg.length):=f4.mem3 fun m xs j hj hb=>hb.upd d2 (by rw [Ks] at hj;omega)
  have hba:zP (aK h' HV) 0 xss'.length=some (rr.2,[]):=by
   have:=OQ (q:=0) (ms:=s.boxes) (xss:=rr.2) (hp:=aK h' HV) (by rw [hrl];simpa using f4')
   rw [hxl,<-hrl];exact this
  have hev:∀m,n+1<=m->lT F m f lv xss'=some (rr.1,rr.2):=fun m hmn=>by refine ack hmn f lv xss' _ ?_;simp [lT,f1,d1,hba]
  have aav:aF (fun m (xs:List C)=>xs.length=m) s.boxes rr.2:=by
   have aux:∀{ms:List Nat} {xss:List (List C)} {l:List Nat} {hp:Heap},gz (Iz hp) ms xss l->aF (fun m (xs:List C)=>xs.length=m) ms xss:=by
    intro ms;induction ms with
    |nil=>intro xss l hp h;cases xss with|nil=>trivial|cons _ _=>exact h.elim
    |cons m ms ih=>intro xss l hp h;cases xss with|nil=>exact h.elim|cons _ _=>cases l with|nil=>exact h.elim|cons _ _=>exact ⟨h.1.1,ih h.2⟩
   exact aux f4
  obtain ⟨z1,z2⟩:=RL (bg:=bg) (aK h Et) aav hrl.symm hln;obtain ⟨q1,q2⟩:=aa7 (h:=aK h (Et++(bg.zip rr.2).map fun p=>(p.1,Obj.box (p.2.map .c)))) hkind f5 (N8 rr.1)
  have hmu:Rm b (nm (ρ++(ws++rr.2.map .l)) μ (σ.upd us)) (aK h Et) k (σ.upd us).lens:=a3.ext (ws++rr.2.map W.l);have hwl:(ρ++ws).length=ρ.length+(s.rs.map RS.shape).length:=by rw [B8,w1.len]
  obtain ⟨v1,v2⟩:=NA (σ:=σ.upd us) (ρ:=ρ++(ws++rr.2.map W.l)) (pre:=ρ++ws) (xss:=rr.2) hmu hbn hlb hl (BG hbs) (B9 k) (fun j _ hj=>z2 j hj) z1 (by rw [Bk])
  rw [hwl] at v1 v2;rw [<-jy] at v2;have q3:=aqi (k0:=xss'.length) (k1:=k) hkind q1;obtain ⟨μ',p1,p2,p3,p4,_⟩:=MH (ρ:=ρ++(ws++rr.2.map .l)) (k0:=k) (pre:=ρ) (post:=rr.2.map .l) hm.le v2 w1 (by rw [Bk]) q3 (by rw [q2];exact Ix) (by rw [q2];simp) hr
  refine ⟨n+1,Sr rr.1,Et++(bg.zip rr.2).map fun p=>(p.1,Obj.box (p.2.map .c)),fun m hmn=>?_,⟨ws++rr.2.map .l,μ',σ2,ZK aeZ,p4.trans CE.1,((a2.trans (mK _ (ws++rr.2.map W.l))).trans v1).trans p1,p2,?_,?_⟩,a7,?_⟩
  ·have:eT h ds []=some (lv,bg,Et):=by simpa using a1
   simp [Eg,this,GN c2,hev m hmn,hrl]
  ·rw [<-abY];exact ajk p3
  ·rw [Bk] at w5;rw [show (ρ++(ws++rr.2.map W.l)).length=ρ.length+(s.rs.map RS.shape).length+s.boxes.length by have q1:=w1.len;have q2:=hsz.2;simp only [B8,Mn] at *;omega]
   exact w5
  ·rw [K1];intro j hj;rw [Bx] at hj;rcases hj with hj|hj
   ·exact a6 j hj
   ·have hj':j∈bg:=by
     rw [List.map_map,Kf] at hj;obtain ⟨p,hp,rfl⟩:=hj;exact (List.of_mem_zip hp).1
    obtain ⟨i,m1,m2,m3⟩:=mM.mem hl j hj';exact ⟨i,Ri (DY hup) hbx i m1,m2,m3⟩
end
end Go.Ey
