/- A part. -/
import Derived.Test.YtolnnaanmfnkjaaGreatDoorZ14
set_option linter.all false
namespace Go.Ey
def oH:At->At->Bool
 |.v i,.v j=>i==j
 |.n i j,.n i' j'=>i==i' && j==j'
 |_,_=>false
theorem Iu {x y:At} (h:oH x y=true):x=y:=by cases x<;>cases y<;>simp_all [oH]
def arY (n:Nat) (op:BinOp) (x y:At):KO:=
 match op with
 |.add=> .add (cA n x) (cA n y)
 |.sub=> .sub (cA n x) (cA n y)
 |.mul=> .mul (cA n x) (cA n y)
 |.quo=> .quo (cA n x) (cA n y)
 |.rem=> .rem (cA n x) (cA n y)
 |.eql=> .eql (cA n x) (cA n y)
 |.neq=> .neq (cA n x) (cA n y)
 |.lss=> .lss (cA n x) (cA n y)
 |.leq=> .leq (cA n x) (cA n y)
 |.gtr=> .gtr (cA n x) (cA n y)
 |.geq=> .geq (cA n x) (cA n y)
 |.shr=> .shz (cA n x) (cA n y)
 |.and=> .anz (cA n x) (cA n y)
 |_=> .no
def aoW (n:Nat) (op:BinOp) (x y:At):KO:=
 match op with
 |.eql=> .eqs [2] false (cS n (.lit [x])) (cS n (.lit [y]))
 |.neq=> .eqs [2] true (cS n (.lit [x])) (cS n (.lit [y]))
 |_=> .no
def cO (n:Nat):OpC->KO
 |.bin op Kg x y=>if Kg then aoW n op x y else arY n op x y
 |.un op x=>(match op with|.not=> .not (cA n x)|.neg=> .neg (cA n x)|_=> .no)
 |.conv k x=> .conv k (cA n x)
 |.eqs ks neg s t=> .eqs ks neg (cS n s) (cS n t)
 |.len b x=> .len b (cA n x)
 |.app aj bytes s t=> .app aj bytes (cA n s) (cA n t)
 |.set aj s i off vs=> .set aj (cA n s) (cA n i) off vs.length (vs.map (cA n))
 |.sub aj s lo hi=> .slc aj (cA n s) (lo.map (cA n)) (hi.map (cA n))
 |.clip aj s lo hi mx=>if oH hi mx then .slc aj (cA n s) (lo.map (cA n)) ((some hi).map (cA n)) else .no
 |.Nu s lo hi=> .Nu (cA n s) (lo.map (cA n)) (hi.map (cA n))
 |.BV s i=> .BV (cA n s) (cA n i)
 |.toStr s=> .toStr (cA n s)
 |.mk aj bytes z l c=>if z.length=aj then .mk aj bytes (z.map VU) (cA n l) (cA n c) else .no
 |.Tf _ _ _=> .no
 |.cnt _ _ _=> .no
 |.mm b x y=>if b then .mx (cA n x) (cA n y) else .mn (cA n x) (cA n y)
 |.lits aj len xs=>if xs.length=len * aj then .lits aj len (xs.map (cA n)) else .no
section
variable {a:bD} {ρ:List KW} {ρ':List W}
theorem K6 {α:Prop} {k:K->bD} (hk:kop .no ρ k=a) (ha:a≠.fail):α:=absurd (show bD.fail=a from hk).symm ha
theorem ZK {x y:At} {neg:Bool} {c:C} (h:dP ρ' (.eqs [2] neg (.lit [x]) (.lit [y]))=some c):dP ρ' (.bin (if neg then .neq else .eql) true x y)=some c:=by
 simp only [dP,Tt,nA,A1,A0,Ea] at h;obtain ⟨xs,⟨u,h1,_,rfl,rfl⟩,ys,⟨v,h2,_,rfl,rfl⟩,q,h3,rfl⟩:=h;simp only [Cj,A1,A0] at h3;obtain ⟨p,h4,_,rfl,rfl⟩:=h3;unfold Jd at h4;split at h4
 ·rename_i e;cases e
 ·rename_i e;cases e
 ·rename_i s t _;simp only [A0] at h4;subst h4;cases neg<;>simp [dP,h1,h2,bW,MM]
 ·cases h4
theorem ahz (h:RE ρ ρ') {aj:Nat} {x hi:At} {lo:Option At} {k:K->bD} (hk:akM aj (cA ρ'.length x) (lo.map (cA ρ'.length)) ((some hi).map (cA ρ'.length)) ρ k=a) (ha:a≠.fail):I6 a ρ' (.clip aj x lo hi hi) k:=by
 obtain ⟨y,c,h1,h2,h3⟩:=aeb h hk ha;refine ⟨y,c,h1,?_,h3⟩;simp only [dP,A1] at h2;obtain ⟨u,h4,l,h5,q,h6',h7⟩:=h2;simp only [LU,A1,A0] at h6';obtain ⟨v,h6,rfl⟩:=h6';simp only [dP,h4,h6,A4];rw [h5,A4];unfold OV at h7;split at h7
 ·rename_i cs n;simp only [A1] at h7;obtain ⟨l',h8,r,h9,h10⟩:=h7;unfold hiC at h9;split at h9
  ·rename_i e;cases e
  ·rename_i p n' e;injection e with e;subst e;simp only [adn,E7,OV,h8,hiC,h9,A4];exact h10
  ·cases h9
 ·cases h7
theorem alp (h:RE ρ ρ') {o:OpC} {k:K->bD} (hk:kop (cO ρ'.length o) ρ k=a) (ha:a≠.fail):I6 a ρ' o k:=by
 cases o with
 |bin op Kg x y=>
  cases Kg with
  |true=>
   simp only [cO,E7] at hk;cases op with
   |eql=>
    obtain ⟨z,c,h1,h2,h3⟩:=YC (ks:=[2]) (neg:=false) (s:=.lit [x]) (t:=.lit [y]) h hk ha;exact ⟨z,c,h1,ZK h2,h3⟩
   |neq=>
    obtain ⟨z,c,h1,h2,h3⟩:=YC (ks:=[2]) (neg:=true) (s:=.lit [x]) (t:=.lit [y]) h hk ha;exact ⟨z,c,h1,ZK h2,h3⟩
   |_=>exact K6 hk ha
  |false=>
   simp only [cO,C2,C7] at hk;cases op with
   |add=>exact YZ h hk ha
   |sub=>exact akv h hk ha
   |mul=>exact akz h hk ha
   |quo=>exact aj5 h hk ha
   |rem=>exact alF h hk ha
   |eql=>exact amE h hk ha
   |neq=>exact ak4 h hk ha
   |lss=>exact am7 h hk ha
   |leq=>exact al8 h hk ha
   |gtr=>exact amD h hk ha
   |geq=>exact akm h hk ha
   |shr=>
    obtain ⟨u,v,c,d,h1,h2,h3,h4,h5⟩:=two h (show kA ρ (cA ρ'.length x) (fun u=>kA ρ (cA ρ'.length y) fun v=>Sv u fun p n=>Sv v fun _ m=>Xb m fun j=>cond (WZ n 0) (k (.i p (.ofNat 0))) (Xb n fun i=>cond (Nat.ble j 8) (jB (Nat.div i (Nat.pow 2 j)) fun q=>k (.i p (.ofNat q))) .fail))=a from hk) ha
    obtain ⟨p,n,rfl,h6⟩:=qz h5 ha;obtain ⟨q,m,rfl,h7⟩:=qz h6 ha;obtain ⟨j,rfl,h8⟩:=Bl h7 ha;rw [h1.int] at h3;rw [h2.int] at h4;cases hz:WZ n 0 with
    |true=>
     rw [hz] at h8;have h9:k (.i p (.ofNat 0))=a:=h8;rw [Cy] at hz;have g2:n=0:=by simpa using hz
     subst g2;refine ⟨.i p (.ofNat 0),_,.i _ _,?_,h9⟩;simp [dP,h3,h4,bW,r9,gM,Ee,show ¬((j:Int) < 0) by omega]
    |false=>
     rw [hz] at h8;obtain ⟨i,rfl,h9⟩:=Bl (show Xb n (fun i=>cond (Nat.ble j 8) (jB (Nat.div i (Nat.pow 2 j)) fun q=>k (.i p (.ofNat q))) .fail)=a from h8) ha
     obtain ⟨g1,h10⟩:=dn h9 ha;rw [jc] at h10;have hj:j<=8:=Nat.le_of_ble_eq_true g1;have hb:min j p.bits=j:=by
      have:8<=p.bits:=by cases p<;>decide
      omega
     refine ⟨.i p (.ofNat (Nat.div i (Nat.pow 2 j))),_,.i _ _,?_,h10⟩;have he:((i:Int).fdiv (2 ^ j))=((i / 2 ^ j:Nat):Int):=by
      rw [Int.fdiv_eq_ediv_of_nonneg _ (by exact_mod_cast Fl (2 ^ j))]
      simp
     simp [dP,h3,h4,bW,r9,gM,Ee,show ¬((j:Int) < 0) by omega,hb,he]
     rfl
   |and=>
    obtain ⟨u,v,c,d,h1,h2,h3,h4,h5⟩:=two h (show kA ρ (cA ρ'.length x) (fun u=>kA ρ (cA ρ'.length y) fun v=>Bu u v fun p n _=>cond (WZ n 0) (k (.i p (.ofNat 0))) .fail)=a from hk) ha
    obtain ⟨p,n,m,rfl,rfl,h6⟩:=BQ h5 ha;obtain ⟨g1,h9⟩:=dn h6 ha;rw [Cy] at g1;have g2:n=0:=by simpa using g1
    subst g2;rw [h1.int] at h3;rw [h2.int] at h4;refine ⟨.i p (.ofNat 0),_,.i _ _,?_,h9⟩;have hw:p.wrap 0=0:=by cases p<;>rfl
    simp [dP,h3,h4,bW,r9,gM,jV,hw]
   |_=>exact K6 hk ha
 |un op x=>
  cases op with
  |not=>exact anb h hk ha
  |neg=>exact akT h hk ha
  |_=>exact K6 hk ha
 |conv k' x=>exact ag1 h hk ha
 |eqs ks neg s t=>exact YC h hk ha
 |len b x=>exact alx h hk ha
 |app aj bytes s t=>exact amT h hk ha
 |set aj s i off vs=>exact amh h hk ha
 |sub aj s lo hi=>exact aeb h hk ha
 |clip aj s lo hi mx=>
  simp only [cO] at hk;split at hk
  ·rename_i hs;have:=Iu hs
   subst this;exact ahz h hk ha
  ·exact K6 hk ha
 |Nu s lo hi=>exact agn h hk ha
 |BV s i=>exact agq h hk ha
 |toStr s=>exact ae1 h hk ha
 |mk aj bytes z l c=>
  simp only [cO] at hk;split at hk
  ·rename_i hz;exact aqw h hz hk ha
  ·exact K6 hk ha
 |Tf aj d s=>exact K6 hk ha
 |cnt aj d s=>exact K6 hk ha
 |mm b x y=>
  cases b with
  |true=>exact aqc h hk ha
  |false=>exact apk h hk ha
 |lits aj len xs=>
  simp only [cO] at hk;split at hk
  ·rename_i hl;exact agf h hl hk ha
  ·exact K6 hk ha
end
def fits:List PS->List TA->Bool
 |[],[]=>true
 |.one::ps,.v _::aJ=>fits ps aJ
 |.agg _::ps,.v _::aJ=>fits ps aJ
 |.ref b o::ps,.ref b' o'::aJ=>b==b' && o==o' && fits ps aJ
 |.fq _ _::ps,.ref b' o'::aJ=>b'==0 && o'==0 && fits ps aJ
 |_,_=>false
def TT:List PS->List (Option Nat)
 |[]=>[]
 |.one::ps=>none::TT ps
 |.agg m::ps=>some m::TT ps
 |.ref _ _::ps=>TT ps
 |.fq _ _::ps=>TT ps
def cT (sig:Nat->Option (List PS)):Nat->Tree->oo
 |n,.dG o t=> .dG (cO n o) (cT sig (n+1) t)
 |n,.row aj s i t=> .row aj (cA n s) (cA n i) (cT sig (n+1) t)
 |n,.ite x t e=> .ite (cA n x) (cT sig n t) (cT sig n e)
 |n,.call f args bs rs bl t=>(match sig f with
  |some p=>if fits p args then .call f (cTA n args) (bs.map (cS n)) rs bl (cT sig (n+rs.length+bl.length) t) else .fail
  |none=> .fail)
 |n,.goto h args=> .goto h args.length (args.map (cTW n))
 |n,.ret rs bs=> .ret (rs.map (cV n)) (bs.map (cS n))
 |_,.fail=> .fail
def RA' (S:List KW->Option R->Prop):bD->Option R->Prop
 |.fail,_=>True
 |.ret vs bs,o=>∃r,o=some r/\av TY vs r.1/\av RB bs r.2
 |.stop ws,o=>S ws o
def UE (sig:Nat->Option (List PS)) (nZ:KFn) (call:qp):Prop:=∀f p ts ys us zs css vs bs,sig f=some p->fits p ts=true->RLs ts ys us->av RB zs css->nZ f ys zs=.ret vs bs->
 ∃r,call f us css=some r/\av TY vs r.1/\av RB bs r.2
def aaU (S:List KW->Option R->Prop) (Av:KHd) (head:qZ):Prop:=∀h ws ws',RE ws ws'->RA' S (Av h ws'.length ws) (head h ws')
theorem NF {a:bD} {w:KW} {k:K->bD} (h:onC w k=a) (ha:a≠.fail):∃x,w=.c x/\k x=a:=by
 cases w with
 |c x=>exact ⟨x,rfl,h⟩
 |l _ _=>exact absurd h.symm ha
theorem YG {a:bD} {w:KW} {k:Nat->List K->bD} (h:onL w k=a) (ha:a≠.fail):∃n xs,w=.l n xs/\k n xs=a:=by
 cases w with
 |c x=>exact absurd h.symm ha
 |l n xs=>exact ⟨n,xs,rfl,h⟩
theorem M9 {a:bD} {vs0:List V}:∀{ss:List (Option Nat)} {ys:List KW} {vs pre:List V} {ρ:List KW} {ρ':List W} {k:List KW->bD},vs0=pre++vs->av TY ys vs->RE ρ ρ'->rA ss ys ρ k=a->a≠.fail->
  ∃G9 qw,RE G9 qw/\qw.length=ρ'.length+ss.length/\vs.length=ss.length/\(∀(g:List W->Option R),fE vs0 g ss pre.length ρ'=g qw)/\k G9=a
 |[],ys,vs,pre,ρ,ρ',k,he,hy,hR,hk,ha=>by
  cases ys with
  |cons _ _=>exact absurd hk.symm ha
  |nil=>cases vs with
   |cons _ _=>exact hy.elim
   |nil=>exact ⟨ρ,ρ',hR,rfl,rfl,fun g=>rfl,hk⟩
 |s::ss,ys,vs,pre,ρ,ρ',k,he,hy,hR,hk,ha=>by
  cases ys with
  |nil=>exact absurd hk.symm ha
  |cons y ys=>cases vs with
   |nil=>exact hy.elim
   |cons v vs=>
    have hget:vs0[pre.length]?=some v:=by rw [he,Hv (An _)];simp
    have he':vs0=(pre++[v])++vs:=by rw [he];simp
    cases s with
    |none=>
     obtain ⟨x,rfl,h1⟩:=NF (show onC y (fun x=>rA ss ys (.c x::ρ) k)=a from hk) ha
     cases v with
     |agg _=>exact hy.1.elim
     |full _ _=>exact hy.1.elim
     |one c=>
      obtain ⟨G9,qw,q1,q2,q3,q4,q5⟩:=M9 he' hy.2 (hR.push (w:=.c x) (w':=.c c) hy.1) h1 ha;refine ⟨G9,qw,q1,by rw [q2];simp;omega,by simp [q3],fun g=>?_,q5⟩
      simp only [fE,getOne,hget,A4];have:=q4 g
      rw [Ax] at this;exact this
    |some m=>
     obtain ⟨n,xs,rfl,h1⟩:=YG (show onL y (fun n xs=>cond (Nat.beq n m) (rA ss ys (.l n xs::ρ) k) .fail)=a from hk) ha
     obtain ⟨g1,h2⟩:=dn h1 ha;have:=Bx g1
     subst this;cases v with
     |one _=>exact hy.1.elim
     |full _ _=>exact hy.1.elim
     |agg cs=>
      have hcl:cs.length=n:=by have h3:=hy.1.1.len;have h4:=hy.1.2;omega
      obtain ⟨G9,qw,q1,q2,q3,q4,q5⟩:=M9 he' hy.2 (hR.push (w:=.l n xs) (w':=.l cs) hy.1) h2 ha;refine ⟨G9,qw,q1,by rw [q2];simp;omega,by simp [q3],fun g=>?_,q5⟩
      simp only [fE,MO,hget,C6 hcl,A4];have:=q4 g
      rw [Ax] at this;exact this
theorem Iy {a:bD} {bs0:List (List C)}:∀{ms:List Nat} {ys:List KW} {bs pre:List (List C)} {ρ:List KW} {ρ':List W} {k:List KW->bD},bs0=pre++bs->av RB ys bs->RE ρ ρ'->Aa ms ys ρ k=a->a≠.fail->
  ∃G9 qw,RE G9 qw/\qw.length=ρ'.length+ms.length/\bs.length=ms.length/\(∀(g:List W->Option R),gL bs0 g ms pre.length ρ'=g qw)/\(∀(g:List W->Option R),fV g ms bs ρ'=g qw)/\k G9=a
 |[],ys,bs,pre,ρ,ρ',k,he,hy,hR,hk,ha=>by
  cases ys with
  |cons _ _=>exact absurd hk.symm ha
  |nil=>cases bs with
   |cons _ _=>exact hy.elim
   |nil=>exact ⟨ρ,ρ',hR,rfl,rfl,fun g=>rfl,fun g=>rfl,hk⟩
 |m::ms,ys,bs,pre,ρ,ρ',k,he,hy,hR,hk,ha=>by
  cases ys with
  |nil=>exact absurd hk.symm ha
  |cons y ys=>cases bs with
   |nil=>exact hy.elim
   |cons cs bs=>
    have hget:bs0[pre.length]?=some cs:=by rw [he,Hv (An _)];simp
    have he':bs0=(pre++[cs])++bs:=by rw [he];simp
    obtain ⟨n,xs,rfl,h1⟩:=YG (show onL y (fun n xs=>cond (Nat.beq n m) (Aa ms ys (.l n xs::ρ) k) .fail)=a from hk) ha
    obtain ⟨g1,h2⟩:=dn h1 ha;have:=Bx g1
    subst this;have hcl:cs.length=n:=by have h3:=hy.1.1.len;have h4:=hy.1.2;omega
    obtain ⟨G9,qw,q1,q2,q3,q4,q6,q5⟩:=Iy he' hy.2 (hR.push (w:=.l n xs) (w':=.l cs) hy.1) h2 ha;refine ⟨G9,qw,q1,by rw [q2];simp;omega,by simp [q3],fun g=>?_,fun g=>?_,q5⟩
    ·simp only [gL,Q5,hget,C6 hcl,A4];have:=q4 g
     rw [Ax] at this;exact this
    ·simp only [fV,C6 hcl];exact q6 g
theorem yM {a:bD}:∀{p:List PS} {ts:List TA} {ys:List KW} {us:List LA} {ρ:List KW} {ρ':List W} {k:List KW->bD},fits p ts=true->RLs ts ys us->RE ρ ρ'->rA (TT p) ys ρ k=a->a≠.fail->
  ∃G9 qw,RE G9 qw/\qw.length=ρ'.length+(TT p).length/\(∀(g:List W->Option R),bS g p us ρ'=g qw)/\k G9=a
 |[],ts,ys,us,ρ,ρ',k,hf,hr,hR,hk,ha=>by
  cases ts with
  |cons t ts=>cases t<;>cases hf
  |nil=>cases ys with
   |cons _ _=>cases us<;>exact hr.elim
   |nil=>cases us with
    |cons _ _=>exact hr.elim
    |nil=>exact ⟨ρ,ρ',hR,rfl,fun g=>rfl,hk⟩
 |q::p,ts,ys,us,ρ,ρ',k,hf,hr,hR,hk,ha=>by
  cases ts with
  |nil=>cases q<;>cases hf
  |cons t ts=>
   cases t with
   |ref b o=>
    cases q with
    |one=>cases hf
    |agg m=>cases hf
    |ref b' o'=>
     simp only [fits,A5,K1] at hf;obtain ⟨⟨rfl,rfl⟩,hf⟩:=hf;cases us with
     |nil=>cases ys<;>exact hr.elim
     |cons u us=>cases u with
      |v _=>cases ys<;>exact hr.elim
      |ref b2 o2=>
       have hr':b2=b'/\o2=o'/\RLs ts ys us:=by cases ys<;>exact hr
       obtain ⟨rfl,rfl,hr'⟩:=hr';obtain ⟨G9,qw,q1,q2,q3,q4⟩:=yM hf hr' hR (show rA (TT p) ys ρ k=a from hk) ha
       exact ⟨G9,qw,q1,q2,fun g=>by simp only [bS];rw [C6 ⟨trivial,trivial⟩];exact q3 g,q4⟩
    |fq g cs=>
     simp only [fits,A5,K1] at hf;obtain ⟨⟨rfl,rfl⟩,hf⟩:=hf;cases us with
     |nil=>cases ys<;>exact hr.elim
     |cons u us=>cases u with
      |v _=>cases ys<;>exact hr.elim
      |ref b2 o2=>
       have hr':b2=0/\o2=0/\RLs ts ys us:=by cases ys<;>exact hr
       obtain ⟨rfl,rfl,hr'⟩:=hr';obtain ⟨G9,qw,q1,q2,q3,q4⟩:=yM hf hr' hR (show rA (TT p) ys ρ k=a from hk) ha
       exact ⟨G9,qw,q1,q2,fun g=>by simp only [bS];rw [C6 ⟨trivial,trivial⟩];exact q3 g,q4⟩
   |v x=>
    cases ys with
    |nil=>cases us with
     |nil=>exact hr.elim
     |cons u us=>cases u<;>exact hr.elim
    |cons y ys=>cases us with
     |nil=>exact hr.elim
     |cons u us=>cases u with
      |ref _ _=>exact hr.elim
      |v v=>
       obtain ⟨hv,hr'⟩:=hr;cases q with
       |ref _ _=>cases hf
       |fq _ _=>cases hf
       |one=>
        obtain ⟨z,rfl,h1⟩:=NF (show onC y (fun x=>rA (TT p) ys (.c x::ρ) k)=a from hk) ha
        cases v with
        |agg _=>exact hv.elim
        |full _ _=>exact hv.elim
        |one c=>
         obtain ⟨G9,qw,q1,q2,q3,q4⟩:=yM (show fits p ts=true from hf) hr' (hR.push (w:=.c z) (w':=.c c) hv) h1 ha
         exact ⟨G9,qw,q1,by rw [q2];simp [TT];omega,fun g=>by simp only [bS];exact q3 g,q4⟩
       |agg m=>
        obtain ⟨n,xs,rfl,h1⟩:=YG (show onL y (fun n xs=>cond (Nat.beq n m) (rA (TT p) ys (.l n xs::ρ) k) .fail)=a from hk) ha
        obtain ⟨g1,h2⟩:=dn h1 ha;have:=Bx g1
        subst this;cases v with
        |one _=>exact hv.elim
        |full _ _=>exact hv.elim
        |agg cs=>
         have hcl:cs.length=n:=by have h3:=hv.1.len;have h4:=hv.2;omega
         obtain ⟨G9,qw,q1,q2,q3,q4⟩:=yM (show fits p ts=true from hf) hr' (hR.push (w:=.l n xs) (w':=.l cs) hv) h2 ha
         exact ⟨G9,qw,q1,by rw [q2];simp [TT];omega,fun g=>by simp only [bS];rw [C6 hcl];exact q3 g,q4⟩
end Go.Ey
namespace Go.Ey
theorem Pw {ρ':List W}:∀{l:List TW} {ws:List W},fQ ρ' l=some ws->ws.length=l.length
 |[],ws,h=>by simp only [fQ,A0] at h;subst h;rfl
 |w::l,ws,h=>by simp only [fQ,A1,A0] at h;obtain ⟨x,_,xs,h2,rfl⟩:=h;simp [Pw h2]
section
variable {sig:Nat->Option (List PS)} {nZ:KFn} {Av:KHd} {call:qp} {head:qZ} {S:List KW->Option R->Prop}
theorem Au (hc:UE sig nZ call) (hh:aaU S Av head):∀(t:Tree) {ρ:List KW} {ρ':List W},RE ρ ρ'->∀{a:bD},xx (cT sig ρ'.length t) nZ Av ρ=a->a≠.fail->RA' S a (aA call head t ρ')
 |.dG o t,ρ,ρ',h,a,hk,ha=>by
  obtain ⟨y,c,h1,h2,h3⟩:=alp h (show kop (cO ρ'.length o) ρ (fun x=>xx (cT sig (ρ'.length+1) t) nZ Av (.c x::ρ))=a from hk) ha
  have hl:(ρ'++[W.c c]).length=ρ'.length+1:=by simp
  have:=Au hc hh t (h.push (w:=.c y) (w':=.c c) h1) (by rw [hl];exact h3) ha
  simp only [aA,h2,A4];exact this
 |.row aj s i t,ρ,ρ',h,a,hk,ha=>by
  obtain ⟨row,r,h1,h2,h3,h4⟩:=amb h (show (kA ρ (cA ρ'.length s) fun u=>kA ρ (cA ρ'.length i) fun v=>F9 aj u v fun xs=>xx (cT sig (ρ'.length+1) t) nZ Av (.l aj xs::ρ))=a from hk) ha
  have hl:(ρ'++[W.l r]).length=ρ'.length+1:=by simp
  have:=Au hc hh t (h.push (w:=.l aj row) (w':=.l r) ⟨h1,h2⟩) (by rw [hl];exact h4) ha
  simp only [aA,h3,A4];exact this
 |.ite x t e,ρ,ρ',h,a,hk,ha=>by
  obtain ⟨y,c,h1,h2,h3⟩:=zz h (show (kA ρ (cA ρ'.length x) fun y=>onB y fun b=>Bool.casesOn (motive:=fun _=>bD) b (xx (cT sig ρ'.length e) nZ Av ρ) (xx (cT sig ρ'.length t) nZ Av ρ))=a from hk) ha
  obtain ⟨b,rfl,h4⟩:=Y0 h3 ha;rw [h1.bool] at h2;simp only [aA,h2,A4];cases b with
  |true=>exact Au hc hh t h h4 ha
  |false=>exact Au hc hh e h h4 ha
 |.call f args bs rs bl t,ρ,ρ',h,a,hk,ha=>by
  simp only [cT] at hk;split at hk
  case h_2=>exact absurd hk.symm ha
  rename_i p hp;split at hk
  case isFalse=>exact absurd hk.symm ha
  rename_i hf;obtain ⟨ys,us,h1,h2,h3⟩:=RJ h (show (kVs ρ (cTA ρ'.length args) fun aJ=>kSs ρ (bs.map (cS ρ'.length)) fun xs=>onR (nZ f aJ xs) fun vs ys=>rA rs vs ρ fun ρ=>Aa bl ys ρ fun G9=>xx (cT sig (ρ'.length+rs.length+bl.length) t) nZ Av G9)=a from hk) ha
  obtain ⟨zs,css,h4,h5,h6⟩:=Xw h h3 ha;cases hr:nZ f ys zs with
  |fail=>rw [hr] at h6;exact absurd h6.symm ha
  |stop ws=>rw [hr] at h6;exact absurd h6.symm ha
  |ret vs bs'=>
   rw [hr] at h6;obtain ⟨r,h7,h8,h9⟩:=hc f p args ys us zs css vs bs' hp hf h1 h4 hr;obtain ⟨G9,qw,q1,q2,q3,q4,q5⟩:=M9 (vs0:=r.1) (pre:=[]) rfl h8 h (show rA rs vs ρ (fun ρ=>Aa bl bs' ρ fun G9=>xx (cT sig (ρ'.length+rs.length+bl.length) t) nZ Av G9)=a from h6) ha
   obtain ⟨ρ3,agZ,w1,w2,w3,w4,_,w5⟩:=Iy (bs0:=r.2) (pre:=[]) rfl h9 q1 q5 ha;have:=Au hc hh t w1 (by rw [w2,q2];exact w5) ha
   simp only [aA,h2,h5,h7,A4,sized];rw [C6 ⟨q3,w3⟩];have e1:=q4 (fun ρ=>gL r.2 (fun ρ=>aA call head t ρ) bl 0 ρ)
   have e2:=w4 (fun ρ=>aA call head t ρ)
   simp only [G3] at e1 e2;rw [e1,e2];exact this
 |.goto i args,ρ,ρ',h,a,hk,ha=>by
  obtain ⟨ws,ws',h1,h2,h3⟩:=afO h RE.nil (show kPs ρ (args.map (cTW ρ'.length)) [] (fun ws=>Av i args.length ws)=a from hk) ha
  rw [E2] at h1;have:=hh i ws ws' h1
  rw [Pw h2,h3] at this;simp only [aA,h2,A4];exact this
 |.ret rs bs,ρ,ρ',h,a,hk,ha=>by
  obtain ⟨ys,us,h1,h2,h3⟩:=afn h (show (kVs ρ (rs.map (cV ρ'.length)) fun vs=>kSs ρ (bs.map (cS ρ'.length)) fun xs=> .ret vs xs)=a from hk) ha
  obtain ⟨zs,css,h4,h5,h6⟩:=Xw h h3 ha;subst h6;simp only [aA,h2,h5,A4];exact ⟨_,rfl,h1,h4⟩
 |.fail,ρ,ρ',h,a,hk,ha=>absurd (show bD.fail=a from hk).symm ha
def MJ (G:GT) (sig:Nat->Option (List PS)) (f:Nat) (kf:GG):Prop:=
 ∃tf,G.fn f=some tf/\sig f=some tf.params/\kf.params=TT tf.params/\kf.boxes=tf.boxes/\kf.body=cT sig ((TT tf.params).length+tf.boxes.length) tf.body/\
  ∀(h m:Nat) (t:oo),kf.heads[h]?=some (m,t)->∃t',tf.heads[h]?=some t'/\t=cT sig m t'
def Ag (G:GT) (sig:Nat->Option (List PS)) (f:Nat) (kf:GG):Prop:=kf.heads=[]/\
 ∀p ts ys us zs css call head a,sig f=some p->fits p ts=true->RLs ts ys us->av RB zs css->(rA kf.params ys [] fun ρ=>Aa kf.boxes zs ρ fun ρ=>xx kf.body call head ρ)=a->a≠.fail->
  ∃vs bs r,a=.ret vs bs/\bq G f us css=some r/\av TY vs r.1/\av RB bs r.2
def Ai (G:GT) (sig:Nat->Option (List PS)):KG->Prop
 |.leaf=>True
 |.node k f l r=>(MJ G sig k f\/Ag G sig k f)/\Ai G sig l/\Ai G sig r
variable {G:GT}
theorem Ni {a:bD} {k:GG->bD} {f:Nat}:∀{g:KG},Ai G sig g->g.get f k=a->a≠.fail->∃kf,(MJ G sig f kf\/Ag G sig f kf)/\k kf=a
 |.leaf,_,hk,ha=>absurd (show bD.fail=a from hk).symm ha
 |.node q kf l r,hg,hk,ha=>by
  have hk':(cond (Nat.beq f q) (k kf) (cond (Nat.ble f q) (l.get f k) (r.get f k)))=a:=hk;cases hb:Nat.beq f q with
  |true=>
   rw [hb] at hk';have:=Bx hb
   subst this;exact ⟨kf,hg.1,hk'⟩
  |false=>
   rw [hb,Ek] at hk';cases hc:Nat.ble f q with
   |true=>rw [hc] at hk';exact Ni hg.2.1 hk' ha
   |false=>rw [hc] at hk';exact Ni hg.2.2 hk' ha
theorem QS {a:bD} {k:oo->bD} {n:Nat}:∀{l:List (Nat×oo)} {i:Nat},Yf l i n k=a->a≠.fail->∃t,l[i]?=some (n,t)/\k t=a
 |[],_,hk,ha=>absurd (show bD.fail=a from hk).symm ha
 |(m,t)::l,0,hk,ha=>by
  obtain ⟨h1,h2⟩:=dn (show (cond (Nat.beq m n) (k t) .fail)=a from hk) ha
  have:=Bx h1
  subst this;exact ⟨t,rfl,h2⟩
 |p::l,i+1,hk,ha=>by obtain ⟨t,h1,h2⟩:=QS (l:=l) (i:=i) hk ha;exact ⟨t,by simpa using h1,h2⟩
theorem Yj {g:KG} (hg:Ai G sig g) (hc:UE sig nZ call) (hh:aaU S Av head) {f h:Nat} {ws:List KW} {ws':List W} (hw:RE ws ws') {a:bD} (hk:kgo g f nZ Av h ws'.length ws=a) (ha:a≠.fail):
  ∃tf t,G.fn f=some tf/\tf.heads[h]?=some t/\RA' S a (aA call head t ws'):=by
 obtain ⟨kf,hkf,h3⟩:=Ni hg (show g.get f (fun tf=>Yf tf.heads h ws'.length fun t=>xx t nZ Av ws)=a from hk) ha
 obtain ⟨t,h4,h5⟩:=QS h3 ha;obtain ⟨tf,h1,_,_,_,_,h2⟩:MJ G sig f kf:=by
  rcases hkf with hkf|⟨hkf,_⟩
  ·exact hkf
  ·rw [hkf] at h4;simp at h4
 obtain ⟨t',h6,rfl⟩:=h2 _ _ _ h4;exact ⟨tf,t',h1,h6,Au hc hh t' hw h5 ha⟩
def anyS:List KW->Option R->Prop:=fun _ _=>True
theorem Md {g:KG} (hg:Ai G sig g):∀n,UE sig (jm g n).fn (bq G)/\∀f,aaU anyS ((jm g n).hd f) (bR G f)
 |0=>⟨fun f p ts ys us zs css vs bs _ _ _ _ h=>(by cases h),fun f h ws ws' _=>trivial⟩
 |n+1=>by
  obtain ⟨ih1,ih2⟩:=Md hg n;refine ⟨fun f p ts ys us zs css vs bs hp hf hr hb hk=>?_,fun f h ws ws' hw=>?_⟩
  ·have ha:bD.ret vs bs≠.fail:=fun e=>by cases e
   obtain ⟨kf,hkf,h6⟩:=Ni hg (show g.get f (fun tf=>rA tf.params ys [] fun ρ=>Aa tf.boxes zs ρ fun ρ=>xx tf.body (jm g n).fn ((jm g n).hd f) ρ)=.ret vs bs from hk) ha
   rcases hkf with ⟨tf,h1,h2,h3,h4,h5,_⟩|⟨_,hkn⟩
   case inr=>
    obtain ⟨vs',bs',r,e1,e2,e3,e4⟩:=hkn p ts ys us zs css _ _ _ hp hf hr hb h6 ha;injection e1 with e5 e6;subst e5 e6;exact ⟨r,e2,e3,e4⟩
   rw [h2] at hp;injection hp with hp;subst hp;rw [h3] at h6;obtain ⟨G9,qw,q1,q2,q3,q4⟩:=yM hf hr RE.nil h6 ha;rw [h4] at q4;obtain ⟨ρ3,agZ,w1,w2,w3,_,w4,w5⟩:=Iy (bs0:=css) (pre:=[]) rfl hb q1 q4 ha;rw [h5] at w5;have hl:agZ.length=(TT tf.params).length+tf.boxes.length:=by rw [w2,q2];simp
   rw [<-hl] at w5;obtain ⟨r,e1,e2,e3⟩:=Au ih1 (ih2 f) tf.body w1 w5 ha;refine ⟨r,?_,e2,e3⟩;rw [aQ h1];unfold CZ;rw [q3,w4];exact e1
  ·by_cases ha:kgo g f (jm g n).fn ((jm g n).hd f) h ws'.length ws=.fail
   ·show RA' anyS (kgo g f (jm g n).fn ((jm g n).hd f) h ws'.length ws) _
    rw [ha];trivial
   ·obtain ⟨tf,t,h1,h2,h3⟩:=Yj hg ih1 (ih2 f) hw rfl ha;show RA' anyS (kgo g f (jm g n).fn ((jm g n).hd f) h ws'.length ws) _
    rw [aF h1 h2];exact h3
theorem AO {g:KG} (hg:Ai G sig g) {n f:Nat} {p:List PS} (hp:sig f=some p) {ts:List TA} (hf:fits p ts=true) {ys:List KW} {us:List LA} (hr:RLs ts ys us) {zs:List KW} {css:List (List C)} (hb:av RB zs css) {vs bs:List KW}
  (hk:(jm g n).fn f ys zs=.ret vs bs):∃r,bq G f us css=some r/\av TY vs r.1/\av RB bs r.2:=by
 exact (Md hg n).1 f p ts ys us zs css vs bs hp hf hr hb hk
theorem ES {g:KG} (hg:Ai G sig g) (n:Nat):UE sig (jm g n).fn (bq G):=(Md hg n).1
def apm (G:GT) (f h0 a:Nat):List KW->Option R->Prop:=fun ws o=>∃ws',RE ws ws'/\ws'.length=a/\o=bR G f h0 ws'
theorem Sb {g:KG} (hg:Ai G sig g) (hc:UE sig nZ (bq G)) {f h0 a:Nat}:∀m,aaU (apm G f h0 a) (UT g nZ f h0 a m) (bR G f)
 |0=>fun h ws ws' _=>trivial
 |m+1=>fun h ws ws' hw=>by
  show RA' _ (cond (Nat.beq h h0) (cond (Nat.beq ws'.length a) (.stop ws) .fail) (kgo g f nZ (UT g nZ f h0 a m) h ws'.length ws)) _
  cases hb:Nat.beq h h0 with
  |true=>
   have:=Bx hb
   subst this;cases hl:Nat.beq ws'.length a with
   |true=>exact ⟨ws',hw,Bx hl,rfl⟩
   |false=>trivial
  |false=>
   rw [Ek];by_cases ha:kgo g f nZ (UT g nZ f h0 a m) h ws'.length ws=.fail
   ·rw [ha];trivial
   ·obtain ⟨tf,t,h1,h2,h3⟩:=Yj hg hc (Sb hg hc m) hw rfl ha;rw [aF h1 h2];exact h3
theorem gy {g:KG} (hg:Ai G sig g) {n m f h0 a:Nat}:∀(rounds:Nat) {ws:List KW} {ws':List W} {vs:List KW},RE ws ws'->ws'.length=a->lD g n m f h0 a rounds ws=.stop vs->∃vs',RE vs vs'/\vs'.length=a/\bR G f h0 ws'=bR G f h0 vs'
 |0,ws,ws',vs,hw,hl,hk=>by have hk':bD.stop ws=.stop vs:=hk;injection hk' with e;subst e;exact ⟨ws',hw,hl,rfl⟩
 |r+1,ws,ws',vs,hw,hl,hk=>by
  have hk':adz (kgo g f (jm g n).fn (UT g (jm g n).fn f h0 a m) h0 a ws) (lD g n m f h0 a r)=.stop vs:=hk;cases he:kgo g f (jm g n).fn (UT g (jm g n).fn f h0 a m) h0 a ws with
  |fail=>rw [he] at hk';cases hk'
  |ret _ _=>rw [he] at hk';cases hk'
  |stop us=>
   rw [he] at hk';rw [<-hl] at he;obtain ⟨tf,t,h1,h2,us',h3,h4,h5⟩:=Yj hg (ES hg n) (Sb hg (ES hg n) m) hw he (fun e=>by cases e)
   obtain ⟨vs',h6,h7,h8⟩:=gy hg r h3 h4 (show lD g n m f h0 ws'.length r us=.stop vs by rw [hl];exact hk')
   rw [hl] at h7 h4;exact ⟨vs',h6,h7,by rw [aF h1 h2,h5];exact h8⟩
theorem RL {g:KG} (hg:Ai G sig g) {n f h:Nat} {ws:List KW} {ws':List W} (hw:RE ws ws') {vs bs:List KW} (hk:(jm g n).hd f h ws'.length ws=.ret vs bs):∃r,bR G f h ws'=some r/\av TY vs r.1/\av RB bs r.2:=by
 have:=(Md hg n).2 f h ws ws' hw
 rw [hk] at this;exact this
theorem Kk {g:KG} (hg:Ai G sig g) {n m f h0 a:Nat} {p:List PS} (hp:sig f=some p) {ts:List TA} (hf:fits p ts=true) {ys:List KW} {us:List LA} (hr:RLs ts ys us) {zs:List KW} {css:List (List C)} (hb:av RB zs css) {vs:List KW}
  (hk:RF g n m f h0 a ys zs=.stop vs):∃vs',RE vs vs'/\vs'.length=a/\bq G f us css=bR G f h0 vs':=by
 have ha:bD.stop vs≠.fail:=fun e=>by cases e
 obtain ⟨kf,hkf,h6⟩:=Ni hg (show g.get f (fun tf=>rA tf.params ys [] fun ρ=>Aa tf.boxes zs ρ fun ρ=>xx tf.body (jm g n).fn (UT g (jm g n).fn f h0 a m) ρ)=.stop vs from hk) ha
 rcases hkf with ⟨tf,h1,h2,h3,h4,h5,_⟩|⟨_,hkn⟩
 case inr=>
  obtain ⟨vs',bs',r,e1,_⟩:=hkn p ts ys us zs css _ _ _ hp hf hr hb h6 ha;cases e1
 rw [h2] at hp;injection hp with hp;subst hp;rw [h3] at h6;obtain ⟨G9,qw,q1,q2,q3,q4⟩:=yM hf hr RE.nil h6 ha;rw [h4] at q4;obtain ⟨ρ3,agZ,w1,w2,w3,_,w4,w5⟩:=Iy (bs0:=css) (pre:=[]) rfl hb q1 q4 ha;rw [h5] at w5;have hl:agZ.length=(TT tf.params).length+tf.boxes.length:=by rw [w2,q2];simp
 rw [<-hl] at w5;obtain ⟨vs',e1,e2,e3⟩:=Au (ES hg n) (Sb hg (ES hg n) m) tf.body w1 w5 ha;refine ⟨vs',e1,e2,?_⟩;rw [aQ h1];unfold CZ;rw [q3,w4];exact e3
theorem G5 {f:Nat} {vs:List KV} {ws:List KW} {us:List V} (hsig:sig f=some []) (hv:av TY ws us) (hk:∀(ρ:List KW) (k:List KW->bD),kVs ρ vs k=k ws) (h:bq G f [] []=some (us,[])):Ag G sig f ⟨[],[],.ret vs [],[]⟩:=by
 refine ⟨rfl,fun p ts ys xs zs css call head a hp hf hr hb hk2 ha=>?_⟩
 rw [hsig] at hp;injection hp with hp;subst hp;cases ts with
 |cons t ts=>cases t<;>cases hf
 |nil=>cases ys with
  |cons _ _=>cases xs<;>exact hr.elim
  |nil=>cases xs with
   |cons _ _=>exact hr.elim
   |nil=>cases zs with
    |cons _ _=>exact absurd hk2.symm ha
    |nil=>cases css with
     |cons _ _=>exact hb.elim
     |nil=>
      have h2:kVs [] vs (fun vs=>kSs [] [] fun xs=> .ret vs xs)=a:=hk2
      rw [hk] at h2;exact ⟨ws,[],_,h2.symm,h,hv,trivial⟩
end
end Go.Ey
namespace Go.Ey
section
variable {G:GT} {sig:Nat->Option (List PS)}
theorem args1 {p:List PS} {ts:List TA} {ys:List KW} {us:List LA} (hp:p=[.one]) (hf:fits p ts=true) (hr:RLs ts ys us):∃y u,ys=[y]/\us=[.v u]/\TY y u:=by
 subst hp;cases ts with
 |nil=>cases hf
 |cons t ts=>
  cases t with
  |ref _ _=>cases hf
  |v x=>cases ts with
   |cons t ts=>cases t<;>cases hf
   |nil=>cases ys with
    |nil=>cases us with
     |nil=>exact hr.elim
     |cons u us=>cases u<;>exact hr.elim
    |cons y ys=>cases us with
     |nil=>exact hr.elim
     |cons u us=>cases u with
      |ref _ _=>exact hr.elim
      |v u=>cases ys with
       |cons _ _=>cases us<;>exact hr.2.elim
       |nil=>cases us with
        |cons _ _=>exact hr.2.elim
        |nil=>exact ⟨y,u,rfl,rfl,hr.1⟩
theorem args2 {p:List PS} {ts:List TA} {ys:List KW} {us:List LA} (hp:p=[.one,.one]) (hf:fits p ts=true) (hr:RLs ts ys us):∃y u y2 u2,ys=[y,y2]/\us=[.v u,.v u2]/\TY y u/\TY y2 u2:=by
 subst hp;cases ts with
 |nil=>cases hf
 |cons t ts=>
  cases t with
  |ref _ _=>cases hf
  |v x=>cases ys with
   |nil=>cases us with
    |nil=>exact hr.elim
    |cons u us=>cases u<;>exact hr.elim
   |cons y ys=>cases us with
    |nil=>exact hr.elim
    |cons u us=>cases u with
     |ref _ _=>exact hr.elim
     |v u=>
      obtain ⟨y2,u2,rfl,rfl,h⟩:=args1 (ts:=ts) rfl hf hr.2;exact ⟨y,u,y2,u2,rfl,rfl,hr.1,h⟩
theorem acz {zs:List KW} {ρ:List KW} {k:List KW->bD} {a:bD} (hk:Aa [] zs ρ k=a) (ha:a≠.fail):zs=[]/\k ρ=a:=by
 cases zs with
 |nil=>exact ⟨rfl,hk⟩
 |cons _ _=>exact absurd hk.symm ha
theorem ahl {a:bD} {x y:K} {g:K->bD} {h:Bool->bD} (hk:Pm x y (fun q=>Qk q g)=a) (hg:∀q,g (.b q)=h q) (hf:h false=.fail) (ha:a≠.fail):(∃k n,x=.i k n/\y=.i k n\/∃l w,x=.s l w/\y=.s l w)/\h true=a:=by
 have fin:∀b:Bool,Qk b g=a->b=true/\h true=a:=by
  intro b hb;cases b with
  |true=>exact ⟨rfl,by rw [<-hg];exact hb⟩
  |false=>
   have h1:g (.b false)=a:=hb;rw [hg,hf] at h1;exact absurd h1.symm ha
 cases x with
 |i p n=>
  cases y with
  |i q m=>
   have h1:cond (Nat.beq (kk p) (kk q)) (Qk (WZ n m) g) .fail=a:=hk;obtain ⟨h2,h3⟩:=dn h1 ha;obtain ⟨h4,h5⟩:=fin _ h3;rw [Cy] at h4;have e1:n=m:=by simpa using h4
   have e2:p=q:=by
    have:=Bx h2
    cases p<;>cases q<;>first|rfl|(exact absurd this (by decide))
   subst e1 e2;exact ⟨⟨p,n,.inl ⟨rfl,rfl⟩⟩,h5⟩
  |_=>exact absurd (show bD.fail=a from hk).symm ha
 |s l v=>
  cases y with
  |s m w=>
   have h1:Qk (and (Nat.beq l m) (Nat.beq v w)) g=a:=hk;obtain ⟨h4,h5⟩:=fin _ h1;simp only [A5] at h4;have e1:=Bx h4.1;have e2:=Bx h4.2;subst e1 e2;exact ⟨⟨.i64,0,.inr ⟨l,v,rfl,rfl⟩⟩,h5⟩
  |_=>exact absurd (show bD.fail=a from hk).symm ha
 |b _=>exact absurd (show bD.fail=a from hk).symm ha
 |sl _ _ _=>exact absurd (show bD.fail=a from hk).symm ha
 |o _=>exact absurd (show bD.fail=a from hk).symm ha
theorem ab1 {f l w:Nat} {vs:List KV} {ws:List KW} (hsig:sig f=some [.one]) (hk:∀(ρ:List KW) (k:List KW->bD),kVs ρ vs k=k ws)
  (h:∀c,RK (.s l w) c->∃us,av TY ws us/\bq G f [.v (.one c)] []=some (us,[])):
  Ag G sig f ⟨[none],[],.dG (.eql (.v 0) (.k (.s l w))) (.ite (.v 0) (.ret vs []) .fail),[]⟩:=by
 refine ⟨rfl,fun p ts ys us zs css call head a hp hf hr hb hk2 ha=>?_⟩
 rw [hsig] at hp;injection hp with hp;obtain ⟨y,u,rfl,rfl,hv⟩:=args1 hp.symm hf hr;obtain ⟨x,rfl,h1⟩:=NF (show onC y (fun x=>rA [] [] [.c x] fun ρ=>Aa [] zs ρ fun ρ=>xx (.dG (.eql (.v 0) (.k (.s l w))) (.ite (.v 0) (.ret vs []) .fail)) call head ρ)=a from hk2) ha
 obtain ⟨rfl,h2⟩:=acz (show Aa [] zs [.c x] (fun ρ=>xx (.dG (.eql (.v 0) (.k (.s l w))) (.ite (.v 0) (.ret vs []) .fail)) call head ρ)=a from h1) ha
 have h3:Pm x (.s l w) (fun q=>Qk q fun z=>xx (.ite (.v 0) (.ret vs []) .fail) call head [.c z,.c x])=a:=h2
 obtain ⟨h4,h5⟩:=ahl (h:=fun q=>xx (.ite (.v 0) (.ret vs []) .fail) call head [.c (.b q),.c x]) h3 (fun _=>rfl) rfl ha
 have hx:x=.s l w:=by
  obtain ⟨_,_,⟨_,h6⟩|⟨_,_,h6,h7⟩⟩:=h4
  ·cases h6
  ·rw [h6,h7]
 subst hx;cases u with
 |agg _=>exact hv.elim
 |full _ _=>exact hv.elim
 |one c=>
  cases css with
  |cons _ _=>exact hb.elim
  |nil=>
   obtain ⟨us,h8,h9⟩:=h c hv;have h10:kVs [.c (.b true),.c (.s l w)] vs (fun vs=>kSs [.c (.b true),.c (.s l w)] [] fun xs=> .ret vs xs)=a:=h5
   rw [hk] at h10;exact ⟨ws,[],_,h10.symm,h9,h8,trivial⟩
theorem aae {g:KG} {f:Nat} {kf:GG} (hg:Ai G sig g) (hk:Ag G sig f kf):Ai G sig (.node f kf g g):=⟨.inr hk,hg,hg⟩
end
end Go.Ey
