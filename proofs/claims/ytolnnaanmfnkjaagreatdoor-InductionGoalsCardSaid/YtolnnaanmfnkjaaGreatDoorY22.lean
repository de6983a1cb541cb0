/- A part. -/
import Derived.Test.YtolnnaanmfnkjaaGreatDoorY20
set_option linter.all false
namespace Go.Ey
def adk:At->At->Bool
 |.v i,.v j=>i==j
 |.n i j,.n i' j'=>i==i' && j==j'
 |_,_=>false
theorem ady {x y:At} (h:adk x y=true):x=y:=by cases x<;>cases y<;>simp_all [adk]
def aqU (n:Nat) (op:BinOp) (x y:At):KO:=
 match op with
 |.add=> .add (cA n x) (cA n y)
 |.sub=> .sub (cA n x) (cA n y)
 |.mul=> .mul (cA n x) (cA n y)
 |.quo=> .quo (cA n x) (cA n y)
 |.rem=> .rem (cA n x) (cA n y)
 |.eql=> .eql (cA n x) (cA n y)
 |.neq=> .neq (cA n x) (cA n y)
 |.lss=> .lss (cA n x) (cA n y)
 |.leq=> .leq (cA n x) (cA n y)
 |.gtr=> .gtr (cA n x) (cA n y)
 |.geq=> .geq (cA n x) (cA n y)
 |.shr=> .shz (cA n x) (cA n y)
 |.and=> .anz (cA n x) (cA n y)
 |_=> .no
def apa (n:Nat) (op:BinOp) (x y:At):KO:=
 match op with
 |.eql=> .eqs [2] false (cS n (.lit [x])) (cS n (.lit [y]))
 |.neq=> .eqs [2] true (cS n (.lit [x])) (cS n (.lit [y]))
 |_=> .no
def cO (n:Nat):OpC->KO
 |.bin op K4 x y=>if K4 then apa n op x y else aqU n op x y
 |.un op x=>(match op with|.not=> .not (cA n x)|.neg=> .neg (cA n x)|_=> .no)
 |.conv k x=> .conv k (cA n x)
 |.eqs ks neg s t=> .eqs ks neg (cS n s) (cS n t)
 |.len b x=> .len b (cA n x)
 |.app ay bytes s t=> .app ay bytes (cA n s) (cA n t)
 |.set ay s i off vs=> .set ay (cA n s) (cA n i) off vs.length (vs.map (cA n))
 |.sub ay s lo hi=> .slc ay (cA n s) (lo.map (cA n)) (hi.map (cA n))
 |.clip ay s lo hi mx=>if adk hi mx then .slc ay (cA n s) (lo.map (cA n)) ((some hi).map (cA n)) else .no
 |.Mq s lo hi=> .Mq (cA n s) (lo.map (cA n)) (hi.map (cA n))
 |.Ct s i=> .Ct (cA n s) (cA n i)
 |.toStr s=> .toStr (cA n s)
 |.mk ay bytes z l c=>if z.length=ay then .mk ay bytes (z.map UR) (cA n l) (cA n c) else .no
 |.R6 _ _ _=> .no
 |.cnt _ _ _=> .no
 |.mm b x y=>if b then .mx (cA n x) (cA n y) else .mn (cA n x) (cA n y)
 |.lits ay len xs=>if xs.length=len * ay then .lits ay len (xs.map (cA n)) else .no
section
variable {a:bN} {ρ:List KW} {ρ':List W}
theorem Mj {α:Prop} {k:K->bN} (hk:kop .no ρ k=a) (ha:a≠.fail):α:=absurd (show bN.fail=a from hk).symm ha
theorem aah {x y:At} {neg:Bool} {c:C} (h:eF ρ' (.eqs [2] neg (.lit [x]) (.lit [y]))=some c):eF ρ' (.bin (if neg then .neq else .eql) true x y)=some c:=by
 simp only [eF,TF,nI,A1,A0,wh] at h;obtain ⟨xs,⟨u,h1,_,rfl,rfl⟩,ys,⟨v,h2,_,rfl,rfl⟩,q,h3,rfl⟩:=h;simp only [DD,A1,A0] at h3;obtain ⟨p,h4,_,rfl,rfl⟩:=h3;unfold Kt at h4;split at h4
 ·rename_i e;cases e
 ·rename_i e;cases e
 ·rename_i s t _;simp only [A0] at h4;subst h4;cases neg<;>simp [eF,h1,h2,cZ,NB]
 ·cases h4
theorem aiS (h:RE ρ ρ') {ay:Nat} {x hi:At} {lo:Option At} {k:K->bN} (hk:aj3 ay (cA ρ'.length x) (lo.map (cA ρ'.length)) ((some hi).map (cA ρ'.length)) ρ k=a) (ha:a≠.fail):JU a ρ' (.clip ay x lo hi hi) k:=by
 obtain ⟨y,c,h1,h2,h3⟩:=afn h hk ha;refine ⟨y,c,h1,?_,h3⟩;simp only [eF,A1] at h2;obtain ⟨u,h4,l,h5,q,h6',h7⟩:=h2;simp only [MS,A1,A0] at h6';obtain ⟨v,h6,rfl⟩:=h6';simp only [eF,h4,h6,A4];rw [h5,A4];unfold ER at h7;split at h7
 ·rename_i cs n;simp only [A1] at h7;obtain ⟨l',h8,r,h9,h10⟩:=h7;unfold hiC at h9;split at h9
  ·rename_i e;cases e
  ·rename_i p n' e;injection e with e;subst e;simp only [afM,Ek,ER,h8,hiC,h9,A4];exact h10
  ·cases h9
 ·cases h7
theorem amI (h:RE ρ ρ') {o:OpC} {k:K->bN} (hk:kop (cO ρ'.length o) ρ k=a) (ha:a≠.fail):JU a ρ' o k:=by
 cases o with
 |bin op K4 x y=>
  cases K4 with
  |true=>
   simp only [cO,Ek] at hk;cases op with
   |eql=>
    obtain ⟨z,c,h1,h2,h3⟩:=YC (ks:=[2]) (neg:=false) (s:=.lit [x]) (t:=.lit [y]) h hk ha;exact ⟨z,c,h1,aah h2,h3⟩
   |neq=>
    obtain ⟨z,c,h1,h2,h3⟩:=YC (ks:=[2]) (neg:=true) (s:=.lit [x]) (t:=.lit [y]) h hk ha;exact ⟨z,c,h1,aah h2,h3⟩
   |_=>exact Mj hk ha
  |false=>
   simp only [cO,C2,Cd] at hk;cases op with
   |add=>exact Yd h hk ha
   |sub=>exact alB h hk ha
   |mul=>exact amQ h hk ha
   |quo=>exact alI h hk ha
   |rem=>exact akh h hk ha
   |eql=>exact akD h hk ha
   |neq=>exact ajY h hk ha
   |lss=>exact akZ h hk ha
   |leq=>exact akp h hk ha
   |gtr=>exact alW h hk ha
   |geq=>exact alT h hk ha
   |shr=>
    obtain ⟨u,v,c,d,h1,h2,h3,h4,h5⟩:=two h (show kA ρ (cA ρ'.length x) (fun u=>kA ρ (cA ρ'.length y) fun v=>TK u fun p n=>TK v fun _ m=>XG m fun j=>cond (XH n 0) (k (.i p (.ofNat 0))) (XG n fun i=>cond (Nat.ble j 8) (kL (Nat.div i (Nat.pow 2 j)) fun q=>k (.i p (.ofNat q))) .fail))=a from hk) ha
    obtain ⟨p,n,rfl,h6⟩:=qN h5 ha;obtain ⟨q,m,rfl,h7⟩:=qN h6 ha;obtain ⟨j,rfl,h8⟩:=BU h7 ha;rw [h1.int] at h3;rw [h2.int] at h4;cases hz:XH n 0 with
    |true=>
     rw [hz] at h8;have h9:k (.i p (.ofNat 0))=a:=h8;rw [Dm] at hz;have g2:n=0:=by simpa using hz
     subst g2;refine ⟨.i p (.ofNat 0),_,.i _ _,?_,h9⟩;simp [eF,h3,h4,cZ,wR,jr,FT,show ¬((j:Int) < 0) by omega]
    |false=>
     rw [hz] at h8;obtain ⟨i,rfl,h9⟩:=BU (show XG n (fun i=>cond (Nat.ble j 8) (kL (Nat.div i (Nat.pow 2 j)) fun q=>k (.i p (.ofNat q))) .fail)=a from h8) ha
     obtain ⟨g1,h10⟩:=dP h9 ha;rw [jZ] at h10;have hj:j<=8:=Nat.le_of_ble_eq_true g1;have hb:min j p.bits=j:=by
      have:8<=p.bits:=by cases p<;>decide
      omega
     refine ⟨.i p (.ofNat (Nat.div i (Nat.pow 2 j))),_,.i _ _,?_,h10⟩;have he:((i:Int).fdiv (2 ^ j))=((i / 2 ^ j:Nat):Int):=by
      rw [Int.fdiv_eq_ediv_of_nonneg _ (by exact_mod_cast Ft (2 ^ j))]
      simp
     simp [eF,h3,h4,cZ,wR,jr,FT,show ¬((j:Int) < 0) by omega,hb,he]
     rfl
   |and=>
    obtain ⟨u,v,c,d,h1,h2,h3,h4,h5⟩:=two h (show kA ρ (cA ρ'.length x) (fun u=>kA ρ (cA ρ'.length y) fun v=>CX u v fun p n _=>cond (XH n 0) (k (.i p (.ofNat 0))) .fail)=a from hk) ha
    obtain ⟨p,n,m,rfl,rfl,h6⟩:=Df h5 ha;obtain ⟨g1,h9⟩:=dP h6 ha;rw [Dm] at g1;have g2:n=0:=by simpa using g1
    subst g2;rw [h1.int] at h3;rw [h2.int] at h4;refine ⟨.i p (.ofNat 0),_,.i _ _,?_,h9⟩;have hw:p.wrap 0=0:=by cases p<;>rfl
    simp [eF,h3,h4,cZ,wR,jr,lQ,hw]
   |_=>exact Mj hk ha
 |un op x=>
  cases op with
  |not=>exact amU h hk ha
  |neg=>exact aku h hk ha
  |_=>exact Mj hk ha
 |conv k' x=>exact ahl h hk ha
 |eqs ks neg s t=>exact YC h hk ha
 |len b x=>exact akV h hk ha
 |app ay bytes s t=>exact aly h hk ha
 |set ay s i off vs=>exact amL h hk ha
 |sub ay s lo hi=>exact afn h hk ha
 |clip ay s lo hi mx=>
  simp only [cO] at hk;split at hk
  ·rename_i hs;have:=ady hs
   subst this;exact aiS h hk ha
  ·exact Mj hk ha
 |Mq s lo hi=>exact aif h hk ha
 |Ct s i=>exact ah8 h hk ha
 |toStr s=>exact afG h hk ha
 |mk ay bytes z l c=>
  simp only [cO] at hk;split at hk
  ·rename_i hz;exact anK h hz hk ha
  ·exact Mj hk ha
 |R6 ay d s=>exact Mj hk ha
 |cnt ay d s=>exact Mj hk ha
 |mm b x y=>
  cases b with
  |true=>exact apZ h hk ha
  |false=>exact aoI h hk ha
 |lits ay len xs=>
  simp only [cO] at hk;split at hk
  ·rename_i hl;exact ahY h hl hk ha
  ·exact Mj hk ha
end
def fits:List PS->List TA->Bool
 |[],[]=>true
 |.one::ps,.v _::aY=>fits ps aY
 |.agg _::ps,.v _::aY=>fits ps aY
 |.ref b o::ps,.ref b' o'::aY=>b==b' && o==o' && fits ps aY
 |.fD _ _::ps,.ref b' o'::aY=>b'==0 && o'==0 && fits ps aY
 |_,_=>false
def UA:List PS->List (Option Nat)
 |[]=>[]
 |.one::ps=>none::UA ps
 |.agg m::ps=>some m::UA ps
 |.ref _ _::ps=>UA ps
 |.fD _ _::ps=>UA ps
def cT (sig:Nat->Option (List PS)):Nat->Tree->mU
 |n,.fG o t=> .fG (cO n o) (cT sig (n+1) t)
 |n,.row ay s i t=> .row ay (cA n s) (cA n i) (cT sig (n+1) t)
 |n,.ite x t e=> .ite (cA n x) (cT sig n t) (cT sig n e)
 |n,.call f args bs rs bl t=>(match sig f with
  |some p=>if fits p args then .call f (cTA n args) (bs.map (cS n)) rs bl (cT sig (n+rs.length+bl.length) t) else .fail
  |none=> .fail)
 |n,.goto h args=> .goto h args.length (args.map (cTW n))
 |n,.ret rs bs=> .ret (rs.map (cV n)) (bs.map (cS n))
 |_,.fail=> .fail
def RA' (S:List KW->Option R->Prop):bN->Option R->Prop
 |.fail,_=>True
 |.ret vs bs,o=>∃r,o=some r/\aF Uw vs r.1/\aF RB bs r.2
 |.stop ws,o=>S ws o
def WY (sig:Nat->Option (List PS)) (oI:KFn) (call:qM):Prop:=∀f p ts ys us zs css vs bs,sig f=some p->fits p ts=true->RLs ts ys us->aF RB zs css->oI f ys zs=.ret vs bs->
 ∃r,call f us css=some r/\aF Uw vs r.1/\aF RB bs r.2
def ZQ (S:List KW->Option R->Prop) (BP:KHd) (head:ug):Prop:=∀h ws ws',RE ws ws'->RA' S (BP h ws'.length ws) (head h ws')
theorem Nq {a:bN} {w:KW} {k:K->bN} (h:onC w k=a) (ha:a≠.fail):∃x,w=.c x/\k x=a:=by
 cases w with
 |c x=>exact ⟨x,rfl,h⟩
 |l _ _=>exact absurd h.symm ha
theorem YS {a:bN} {w:KW} {k:Nat->List K->bN} (h:onL w k=a) (ha:a≠.fail):∃n xs,w=.l n xs/\k n xs=a:=by
 cases w with
 |c x=>exact absurd h.symm ha
 |l n xs=>exact ⟨n,xs,rfl,h⟩
theorem NL {a:bN} {vs0:List V}:∀{ss:List (Option Nat)} {ys:List KW} {vs pre:List V} {ρ:List KW} {ρ':List W} {k:List KW->bN},vs0=pre++vs->aF Uw ys vs->RE ρ ρ'->um ss ys ρ k=a->a≠.fail->
  ∃IX sZ,RE IX sZ/\sZ.length=ρ'.length+ss.length/\vs.length=ss.length/\(∀(g:List W->Option R),gm vs0 g ss pre.length ρ'=g sZ)/\k IX=a
 |[],ys,vs,pre,ρ,ρ',k,he,hy,hR,hk,ha=>by
  cases ys with
  |cons _ _=>exact absurd hk.symm ha
  |nil=>cases vs with
   |cons _ _=>exact hy.elim
   |nil=>exact ⟨ρ,ρ',hR,rfl,rfl,fun g=>rfl,hk⟩
 |s::ss,ys,vs,pre,ρ,ρ',k,he,hy,hR,hk,ha=>by
  cases ys with
  |nil=>exact absurd hk.symm ha
  |cons y ys=>cases vs with
   |nil=>exact hy.elim
   |cons v vs=>
    have hget:vs0[pre.length]?=some v:=by rw [he,Hv (B9 _)];simp
    have he':vs0=(pre++[v])++vs:=by rw [he];simp
    cases s with
    |none=>
     obtain ⟨x,rfl,h1⟩:=Nq (show onC y (fun x=>um ss ys (.c x::ρ) k)=a from hk) ha
     cases v with
     |agg _=>exact hy.1.elim
     |full _ _=>exact hy.1.elim
     |one c=>
      obtain ⟨IX,sZ,q1,q2,q3,q4,q5⟩:=NL he' hy.2 (hR.push (w:=.c x) (w':=.c c) hy.1) h1 ha;refine ⟨IX,sZ,q1,by rw [q2];simp;omega,by simp [q3],fun g=>?_,q5⟩
      simp only [gm,getOne,hget,A4];have:=q4 g
      rw [B8] at this;exact this
    |some m=>
     obtain ⟨n,xs,rfl,h1⟩:=YS (show onL y (fun n xs=>cond (Nat.beq n m) (um ss ys (.l n xs::ρ) k) .fail)=a from hk) ha
     obtain ⟨g1,h2⟩:=dP h1 ha;have:=C5 g1
     subst this;cases v with
     |one _=>exact hy.1.elim
     |full _ _=>exact hy.1.elim
     |agg cs=>
      have hcl:cs.length=n:=by have h3:=hy.1.1.len;have h4:=hy.1.2;omega
      obtain ⟨IX,sZ,q1,q2,q3,q4,q5⟩:=NL he' hy.2 (hR.push (w:=.l n xs) (w':=.l cs) hy.1) h2 ha;refine ⟨IX,sZ,q1,by rw [q2];simp;omega,by simp [q3],fun g=>?_,q5⟩
      simp only [gm,NK,hget,C4 hcl,A4];have:=q4 g
      rw [B8] at this;exact this
theorem JQ {a:bN} {bs0:List (List C)}:∀{ms:List Nat} {ys:List KW} {bs pre:List (List C)} {ρ:List KW} {ρ':List W} {k:List KW->bN},bs0=pre++bs->aF RB ys bs->RE ρ ρ'->Bl ms ys ρ k=a->a≠.fail->
  ∃IX sZ,RE IX sZ/\sZ.length=ρ'.length+ms.length/\bs.length=ms.length/\(∀(g:List W->Option R),jo bs0 g ms pre.length ρ'=g sZ)/\(∀(g:List W->Option R),iD g ms bs ρ'=g sZ)/\k IX=a
 |[],ys,bs,pre,ρ,ρ',k,he,hy,hR,hk,ha=>by
  cases ys with
  |cons _ _=>exact absurd hk.symm ha
  |nil=>cases bs with
   |cons _ _=>exact hy.elim
   |nil=>exact ⟨ρ,ρ',hR,rfl,rfl,fun g=>rfl,fun g=>rfl,hk⟩
 |m::ms,ys,bs,pre,ρ,ρ',k,he,hy,hR,hk,ha=>by
  cases ys with
  |nil=>exact absurd hk.symm ha
  |cons y ys=>cases bs with
   |nil=>exact hy.elim
   |cons cs bs=>
    have hget:bs0[pre.length]?=some cs:=by rw [he,Hv (B9 _)];simp
    have he':bs0=(pre++[cs])++bs:=by rw [he];simp
    obtain ⟨n,xs,rfl,h1⟩:=YS (show onL y (fun n xs=>cond (Nat.beq n m) (Bl ms ys (.l n xs::ρ) k) .fail)=a from hk) ha
    obtain ⟨g1,h2⟩:=dP h1 ha;have:=C5 g1
    subst this;have hcl:cs.length=n:=by have h3:=hy.1.1.len;have h4:=hy.1.2;omega
    obtain ⟨IX,sZ,q1,q2,q3,q4,q6,q5⟩:=JQ he' hy.2 (hR.push (w:=.l n xs) (w':=.l cs) hy.1) h2 ha;refine ⟨IX,sZ,q1,by rw [q2];simp;omega,by simp [q3],fun g=>?_,fun g=>?_,q5⟩
    ·simp only [jo,Sq,hget,C4 hcl,A4];have:=q4 g
     rw [B8] at this;exact this
    ·simp only [iD,C4 hcl];exact q6 g
theorem Ag {a:bN}:∀{p:List PS} {ts:List TA} {ys:List KW} {us:List LA} {ρ:List KW} {ρ':List W} {k:List KW->bN},fits p ts=true->RLs ts ys us->RE ρ ρ'->um (UA p) ys ρ k=a->a≠.fail->
  ∃IX sZ,RE IX sZ/\sZ.length=ρ'.length+(UA p).length/\(∀(g:List W->Option R),di g p us ρ'=g sZ)/\k IX=a
 |[],ts,ys,us,ρ,ρ',k,hf,hr,hR,hk,ha=>by
  cases ts with
  |cons t ts=>cases t<;>cases hf
  |nil=>cases ys with
   |cons _ _=>cases us<;>exact hr.elim
   |nil=>cases us with
    |cons _ _=>exact hr.elim
    |nil=>exact ⟨ρ,ρ',hR,rfl,fun g=>rfl,hk⟩
 |q::p,ts,ys,us,ρ,ρ',k,hf,hr,hR,hk,ha=>by
  cases ts with
  |nil=>cases q<;>cases hf
  |cons t ts=>
   cases t with
   |ref b o=>
    cases q with
    |one=>cases hf
    |agg m=>cases hf
    |ref b' o'=>
     simp only [fits,As,Lw] at hf;obtain ⟨⟨rfl,rfl⟩,hf⟩:=hf;cases us with
     |nil=>cases ys<;>exact hr.elim
     |cons u us=>cases u with
      |v _=>cases ys<;>exact hr.elim
      |ref b2 o2=>
       have hr':b2=b'/\o2=o'/\RLs ts ys us:=by cases ys<;>exact hr
       obtain ⟨rfl,rfl,hr'⟩:=hr';obtain ⟨IX,sZ,q1,q2,q3,q4⟩:=Ag hf hr' hR (show um (UA p) ys ρ k=a from hk) ha
       exact ⟨IX,sZ,q1,q2,fun g=>by simp only [di];rw [C4 ⟨trivial,trivial⟩];exact q3 g,q4⟩
    |fD g cs=>
     simp only [fits,As,Lw] at hf;obtain ⟨⟨rfl,rfl⟩,hf⟩:=hf;cases us with
     |nil=>cases ys<;>exact hr.elim
     |cons u us=>cases u with
      |v _=>cases ys<;>exact hr.elim
      |ref b2 o2=>
       have hr':b2=0/\o2=0/\RLs ts ys us:=by cases ys<;>exact hr
       obtain ⟨rfl,rfl,hr'⟩:=hr';obtain ⟨IX,sZ,q1,q2,q3,q4⟩:=Ag hf hr' hR (show um (UA p) ys ρ k=a from hk) ha
       exact ⟨IX,sZ,q1,q2,fun g=>by simp only [di];rw [C4 ⟨trivial,trivial⟩];exact q3 g,q4⟩
   |v x=>
    cases ys with
    |nil=>cases us with
     |nil=>exact hr.elim
     |cons u us=>cases u<;>exact hr.elim
    |cons y ys=>cases us with
     |nil=>exact hr.elim
     |cons u us=>cases u with
      |ref _ _=>exact hr.elim
      |v v=>
       obtain ⟨hv,hr'⟩:=hr;cases q with
       |ref _ _=>cases hf
       |fD _ _=>cases hf
       |one=>
        obtain ⟨z,rfl,h1⟩:=Nq (show onC y (fun x=>um (UA p) ys (.c x::ρ) k)=a from hk) ha
        cases v with
        |agg _=>exact hv.elim
        |full _ _=>exact hv.elim
        |one c=>
         obtain ⟨IX,sZ,q1,q2,q3,q4⟩:=Ag (show fits p ts=true from hf) hr' (hR.push (w:=.c z) (w':=.c c) hv) h1 ha
         exact ⟨IX,sZ,q1,by rw [q2];simp [UA];omega,fun g=>by simp only [di];exact q3 g,q4⟩
       |agg m=>
        obtain ⟨n,xs,rfl,h1⟩:=YS (show onL y (fun n xs=>cond (Nat.beq n m) (um (UA p) ys (.l n xs::ρ) k) .fail)=a from hk) ha
        obtain ⟨g1,h2⟩:=dP h1 ha;have:=C5 g1
        subst this;cases v with
        |one _=>exact hv.elim
        |full _ _=>exact hv.elim
        |agg cs=>
         have hcl:cs.length=n:=by have h3:=hv.1.len;have h4:=hv.2;omega
         obtain ⟨IX,sZ,q1,q2,q3,q4⟩:=Ag (show fits p ts=true from hf) hr' (hR.push (w:=.l n xs) (w':=.l cs) hv) h2 ha
         exact ⟨IX,sZ,q1,by rw [q2];simp [UA];omega,fun g=>by simp only [di];rw [C4 hcl];exact q3 g,q4⟩
end Go.Ey
namespace Go.Ey
theorem QB {ρ':List W}:∀{l:List TW} {ws:List W},iA ρ' l=some ws->ws.length=l.length
 |[],ws,h=>by simp only [iA,A0] at h;subst h;rfl
 |w::l,ws,h=>by simp only [iA,A1,A0] at h;obtain ⟨x,_,xs,h2,rfl⟩:=h;simp [QB h2]
section
variable {sig:Nat->Option (List PS)} {oI:KFn} {BP:KHd} {call:qM} {head:ug} {S:List KW->Option R->Prop}
theorem Bv (hc:WY sig oI call) (hh:ZQ S BP head):∀(t:Tree) {ρ:List KW} {ρ':List W},RE ρ ρ'->∀{a:bN},zU (cT sig ρ'.length t) oI BP ρ=a->a≠.fail->RA' S a (aR call head t ρ')
 |.fG o t,ρ,ρ',h,a,hk,ha=>by
  obtain ⟨y,c,h1,h2,h3⟩:=amI h (show kop (cO ρ'.length o) ρ (fun x=>zU (cT sig (ρ'.length+1) t) oI BP (.c x::ρ))=a from hk) ha
  have hl:(ρ'++[W.c c]).length=ρ'.length+1:=by simp
  have:=Bv hc hh t (h.push (w:=.c y) (w':=.c c) h1) (by rw [hl];exact h3) ha
  simp only [aR,h2,A4];exact this
 |.row ay s i t,ρ,ρ',h,a,hk,ha=>by
  obtain ⟨row,r,h1,h2,h3,h4⟩:=amv h (show (kA ρ (cA ρ'.length s) fun u=>kA ρ (cA ρ'.length i) fun v=>Kh ay u v fun xs=>zU (cT sig (ρ'.length+1) t) oI BP (.l ay xs::ρ))=a from hk) ha
  have hl:(ρ'++[W.l r]).length=ρ'.length+1:=by simp
  have:=Bv hc hh t (h.push (w:=.l ay row) (w':=.l r) ⟨h1,h2⟩) (by rw [hl];exact h4) ha
  simp only [aR,h3,A4];exact this
 |.ite x t e,ρ,ρ',h,a,hk,ha=>by
  obtain ⟨y,c,h1,h2,h3⟩:=Am h (show (kA ρ (cA ρ'.length x) fun y=>onB y fun b=>Bool.casesOn (motive:=fun _=>bN) b (zU (cT sig ρ'.length e) oI BP ρ) (zU (cT sig ρ'.length t) oI BP ρ))=a from hk) ha
  obtain ⟨b,rfl,h4⟩:=Zf h3 ha;rw [h1.bool] at h2;simp only [aR,h2,A4];cases b with
  |true=>exact Bv hc hh t h h4 ha
  |false=>exact Bv hc hh e h h4 ha
 |.call f args bs rs bl t,ρ,ρ',h,a,hk,ha=>by
  simp only [cT] at hk;split at hk
  case h_2=>exact absurd hk.symm ha
  rename_i p hp;split at hk
  case isFalse=>exact absurd hk.symm ha
  rename_i hf;obtain ⟨ys,us,h1,h2,h3⟩:=Ud h (show (kVs ρ (cTA ρ'.length args) fun aY=>kSs ρ (bs.map (cS ρ'.length)) fun xs=>onR (oI f aY xs) fun vs ys=>um rs vs ρ fun ρ=>Bl bl ys ρ fun IX=>zU (cT sig (ρ'.length+rs.length+bl.length) t) oI BP IX)=a from hk) ha
  obtain ⟨zs,css,h4,h5,h6⟩:=XM h h3 ha;cases hr:oI f ys zs with
  |fail=>rw [hr] at h6;exact absurd h6.symm ha
  |stop ws=>rw [hr] at h6;exact absurd h6.symm ha
  |ret vs bs'=>
   rw [hr] at h6;obtain ⟨r,h7,h8,h9⟩:=hc f p args ys us zs css vs bs' hp hf h1 h4 hr;obtain ⟨IX,sZ,q1,q2,q3,q4,q5⟩:=NL (vs0:=r.1) (pre:=[]) rfl h8 h (show um rs vs ρ (fun ρ=>Bl bl bs' ρ fun IX=>zU (cT sig (ρ'.length+rs.length+bl.length) t) oI BP IX)=a from h6) ha
   obtain ⟨ρ3,aiB,w1,w2,w3,w4,_,w5⟩:=JQ (bs0:=r.2) (pre:=[]) rfl h9 q1 q5 ha;have:=Bv hc hh t w1 (by rw [w2,q2];exact w5) ha
   simp only [aR,h2,h5,h7,A4,sized];rw [C4 ⟨q3,w3⟩];have e1:=q4 (fun ρ=>jo r.2 (fun ρ=>aR call head t ρ) bl 0 ρ)
   have e2:=w4 (fun ρ=>aR call head t ρ)
   simp only [F2] at e1 e2;rw [e1,e2];exact this
 |.goto i args,ρ,ρ',h,a,hk,ha=>by
  obtain ⟨ws,ws',h1,h2,h3⟩:=afE h RE.nil (show kPs ρ (args.map (cTW ρ'.length)) [] (fun ws=>BP i args.length ws)=a from hk) ha
  rw [D4] at h1;have:=hh i ws ws' h1
  rw [QB h2,h3] at this;simp only [aR,h2,A4];exact this
 |.ret rs bs,ρ,ρ',h,a,hk,ha=>by
  obtain ⟨ys,us,h1,h2,h3⟩:=ac6 h (show (kVs ρ (rs.map (cV ρ'.length)) fun vs=>kSs ρ (bs.map (cS ρ'.length)) fun xs=> .ret vs xs)=a from hk) ha
  obtain ⟨zs,css,h4,h5,h6⟩:=XM h h3 ha;subst h6;simp only [aR,h2,h5,A4];exact ⟨_,rfl,h1,h4⟩
 |.fail,ρ,ρ',h,a,hk,ha=>absurd (show bN.fail=a from hk).symm ha
def PM (G:GT) (sig:Nat->Option (List PS)) (f:Nat) (kf:GI):Prop:=
 ∃tf,G.fn f=some tf/\sig f=some tf.params/\kf.params=UA tf.params/\kf.boxes=tf.boxes/\kf.body=cT sig ((UA tf.params).length+tf.boxes.length) tf.body/\
  ∀(h m:Nat) (t:mU),kf.heads[h]?=some (m,t)->∃t',tf.heads[h]?=some t'/\t=cT sig m t'
def AX (G:GT) (sig:Nat->Option (List PS)) (f:Nat) (kf:GI):Prop:=kf.heads=[]/\
 ∀p ts ys us zs css call head a,sig f=some p->fits p ts=true->RLs ts ys us->aF RB zs css->(um kf.params ys [] fun ρ=>Bl kf.boxes zs ρ fun ρ=>zU kf.body call head ρ)=a->a≠.fail->
  ∃vs bs r,a=.ret vs bs/\bz G f us css=some r/\aF Uw vs r.1/\aF RB bs r.2
def Cy (G:GT) (sig:Nat->Option (List PS)):KG->Prop
 |.leaf=>True
 |.node k f l r=>(PM G sig k f\/AX G sig k f)/\Cy G sig l/\Cy G sig r
variable {G:GT}
theorem O9 {a:bN} {k:GI->bN} {f:Nat}:∀{g:KG},Cy G sig g->g.get f k=a->a≠.fail->∃kf,(PM G sig f kf\/AX G sig f kf)/\k kf=a
 |.leaf,_,hk,ha=>absurd (show bN.fail=a from hk).symm ha
 |.node q kf l r,hg,hk,ha=>by
  have hk':(cond (Nat.beq f q) (k kf) (cond (Nat.ble f q) (l.get f k) (r.get f k)))=a:=hk;cases hb:Nat.beq f q with
  |true=>
   rw [hb] at hk';have:=C5 hb
   subst this;exact ⟨kf,hg.1,hk'⟩
  |false=>
   rw [hb,E4] at hk';cases hc:Nat.ble f q with
   |true=>rw [hc] at hk';exact O9 hg.2.1 hk' ha
   |false=>rw [hc] at hk';exact O9 hg.2.2 hk' ha
theorem RJ {a:bN} {k:mU->bN} {n:Nat}:∀{l:List (Nat×mU)} {i:Nat},XK l i n k=a->a≠.fail->∃t,l[i]?=some (n,t)/\k t=a
 |[],_,hk,ha=>absurd (show bN.fail=a from hk).symm ha
 |(m,t)::l,0,hk,ha=>by
  obtain ⟨h1,h2⟩:=dP (show (cond (Nat.beq m n) (k t) .fail)=a from hk) ha
  have:=C5 h1
  subst this;exact ⟨t,rfl,h2⟩
 |p::l,i+1,hk,ha=>by obtain ⟨t,h1,h2⟩:=RJ (l:=l) (i:=i) hk ha;exact ⟨t,by simpa using h1,h2⟩
theorem YJ {g:KG} (hg:Cy G sig g) (hc:WY sig oI call) (hh:ZQ S BP head) {f h:Nat} {ws:List KW} {ws':List W} (hw:RE ws ws') {a:bN} (hk:kgo g f oI BP h ws'.length ws=a) (ha:a≠.fail):
  ∃tf t,G.fn f=some tf/\tf.heads[h]?=some t/\RA' S a (aR call head t ws'):=by
 obtain ⟨kf,hkf,h3⟩:=O9 hg (show g.get f (fun tf=>XK tf.heads h ws'.length fun t=>zU t oI BP ws)=a from hk) ha
 obtain ⟨t,h4,h5⟩:=RJ h3 ha;obtain ⟨tf,h1,_,_,_,_,h2⟩:PM G sig f kf:=by
  rcases hkf with hkf|⟨hkf,_⟩
  ·exact hkf
  ·rw [hkf] at h4;simp at h4
 obtain ⟨t',h6,rfl⟩:=h2 _ _ _ h4;exact ⟨tf,t',h1,h6,Bv hc hh t' hw h5 ha⟩
def anyS:List KW->Option R->Prop:=fun _ _=>True
theorem MO {g:KG} (hg:Cy G sig g):∀n,WY sig (mE g n).fn (bz G)/\∀f,ZQ anyS ((mE g n).hd f) (bn G f)
 |0=>⟨fun f p ts ys us zs css vs bs _ _ _ _ h=>(by cases h),fun f h ws ws' _=>trivial⟩
 |n+1=>by
  obtain ⟨ih1,ih2⟩:=MO hg n;refine ⟨fun f p ts ys us zs css vs bs hp hf hr hb hk=>?_,fun f h ws ws' hw=>?_⟩
  ·have ha:bN.ret vs bs≠.fail:=fun e=>by cases e
   obtain ⟨kf,hkf,h6⟩:=O9 hg (show g.get f (fun tf=>um tf.params ys [] fun ρ=>Bl tf.boxes zs ρ fun ρ=>zU tf.body (mE g n).fn ((mE g n).hd f) ρ)=.ret vs bs from hk) ha
   rcases hkf with ⟨tf,h1,h2,h3,h4,h5,_⟩|⟨_,hkn⟩
   case inr=>
    obtain ⟨vs',bs',r,e1,e2,e3,e4⟩:=hkn p ts ys us zs css _ _ _ hp hf hr hb h6 ha;injection e1 with e5 e6;subst e5 e6;exact ⟨r,e2,e3,e4⟩
   rw [h2] at hp;injection hp with hp;subst hp;rw [h3] at h6;obtain ⟨IX,sZ,q1,q2,q3,q4⟩:=Ag hf hr RE.nil h6 ha;rw [h4] at q4;obtain ⟨ρ3,aiB,w1,w2,w3,_,w4,w5⟩:=JQ (bs0:=css) (pre:=[]) rfl hb q1 q4 ha;rw [h5] at w5;have hl:aiB.length=(UA tf.params).length+tf.boxes.length:=by rw [w2,q2];simp
   rw [<-hl] at w5;obtain ⟨r,e1,e2,e3⟩:=Bv ih1 (ih2 f) tf.body w1 w5 ha;refine ⟨r,?_,e2,e3⟩;rw [aG h1];unfold Ef;rw [q3,w4];exact e1
  ·by_cases ha:kgo g f (mE g n).fn ((mE g n).hd f) h ws'.length ws=.fail
   ·show RA' anyS (kgo g f (mE g n).fn ((mE g n).hd f) h ws'.length ws) _
    rw [ha];trivial
   ·obtain ⟨tf,t,h1,h2,h3⟩:=YJ hg ih1 (ih2 f) hw rfl ha;show RA' anyS (kgo g f (mE g n).fn ((mE g n).hd f) h ws'.length ws) _
    rw [ai h1 h2];exact h3
theorem JG {g:KG} (hg:Cy G sig g) {n f:Nat} {p:List PS} (hp:sig f=some p) {ts:List TA} (hf:fits p ts=true) {ys:List KW} {us:List LA} (hr:RLs ts ys us) {zs:List KW} {css:List (List C)} (hb:aF RB zs css) {vs bs:List KW}
  (hk:(mE g n).fn f ys zs=.ret vs bs):∃r,bz G f us css=some r/\aF Uw vs r.1/\aF RB bs r.2:=by
 exact (MO hg n).1 f p ts ys us zs css vs bs hp hf hr hb hk
theorem Gu {g:KG} (hg:Cy G sig g) (n:Nat):WY sig (mE g n).fn (bz G):=(MO hg n).1
def aoD (G:GT) (f h0 a:Nat):List KW->Option R->Prop:=fun ws o=>∃ws',RE ws ws'/\ws'.length=a/\o=bn G f h0 ws'
theorem Sk {g:KG} (hg:Cy G sig g) (hc:WY sig oI (bz G)) {f h0 a:Nat}:∀m,ZQ (aoD G f h0 a) (UQ g oI f h0 a m) (bn G f)
 |0=>fun h ws ws' _=>trivial
 |m+1=>fun h ws ws' hw=>by
  show RA' _ (cond (Nat.beq h h0) (cond (Nat.beq ws'.length a) (.stop ws) .fail) (kgo g f oI (UQ g oI f h0 a m) h ws'.length ws)) _
  cases hb:Nat.beq h h0 with
  |true=>
   have:=C5 hb
   subst this;cases hl:Nat.beq ws'.length a with
   |true=>exact ⟨ws',hw,C5 hl,rfl⟩
   |false=>trivial
  |false=>
   rw [E4];by_cases ha:kgo g f oI (UQ g oI f h0 a m) h ws'.length ws=.fail
   ·rw [ha];trivial
   ·obtain ⟨tf,t,h1,h2,h3⟩:=YJ hg hc (Sk hg hc m) hw rfl ha;rw [ai h1 h2];exact h3
theorem je {g:KG} (hg:Cy G sig g) {n m f h0 a:Nat}:∀(rounds:Nat) {ws:List KW} {ws':List W} {vs:List KW},RE ws ws'->ws'.length=a->mJ g n m f h0 a rounds ws=.stop vs->∃vs',RE vs vs'/\vs'.length=a/\bn G f h0 ws'=bn G f h0 vs'
 |0,ws,ws',vs,hw,hl,hk=>by have hk':bN.stop ws=.stop vs:=hk;injection hk' with e;subst e;exact ⟨ws',hw,hl,rfl⟩
 |r+1,ws,ws',vs,hw,hl,hk=>by
  have hk':adi (kgo g f (mE g n).fn (UQ g (mE g n).fn f h0 a m) h0 a ws) (mJ g n m f h0 a r)=.stop vs:=hk;cases he:kgo g f (mE g n).fn (UQ g (mE g n).fn f h0 a m) h0 a ws with
  |fail=>rw [he] at hk';cases hk'
  |ret _ _=>rw [he] at hk';cases hk'
  |stop us=>
   rw [he] at hk';rw [<-hl] at he;obtain ⟨tf,t,h1,h2,us',h3,h4,h5⟩:=YJ hg (Gu hg n) (Sk hg (Gu hg n) m) hw he (fun e=>by cases e)
   obtain ⟨vs',h6,h7,h8⟩:=je hg r h3 h4 (show mJ g n m f h0 ws'.length r us=.stop vs by rw [hl];exact hk')
   rw [hl] at h7 h4;exact ⟨vs',h6,h7,by rw [ai h1 h2,h5];exact h8⟩
theorem TD {g:KG} (hg:Cy G sig g) {n f h:Nat} {ws:List KW} {ws':List W} (hw:RE ws ws') {vs bs:List KW} (hk:(mE g n).hd f h ws'.length ws=.ret vs bs):∃r,bn G f h ws'=some r/\aF Uw vs r.1/\aF RB bs r.2:=by
 have:=(MO hg n).2 f h ws ws' hw
 rw [hk] at this;exact this
theorem K3 {g:KG} (hg:Cy G sig g) {n m f h0 a:Nat} {p:List PS} (hp:sig f=some p) {ts:List TA} (hf:fits p ts=true) {ys:List KW} {us:List LA} (hr:RLs ts ys us) {zs:List KW} {css:List (List C)} (hb:aF RB zs css) {vs:List KW}
  (hk:SE g n m f h0 a ys zs=.stop vs):∃vs',RE vs vs'/\vs'.length=a/\bz G f us css=bn G f h0 vs':=by
 have ha:bN.stop vs≠.fail:=fun e=>by cases e
 obtain ⟨kf,hkf,h6⟩:=O9 hg (show g.get f (fun tf=>um tf.params ys [] fun ρ=>Bl tf.boxes zs ρ fun ρ=>zU tf.body (mE g n).fn (UQ g (mE g n).fn f h0 a m) ρ)=.stop vs from hk) ha
 rcases hkf with ⟨tf,h1,h2,h3,h4,h5,_⟩|⟨_,hkn⟩
 case inr=>
  obtain ⟨vs',bs',r,e1,_⟩:=hkn p ts ys us zs css _ _ _ hp hf hr hb h6 ha;cases e1
 rw [h2] at hp;injection hp with hp;subst hp;rw [h3] at h6;obtain ⟨IX,sZ,q1,q2,q3,q4⟩:=Ag hf hr RE.nil h6 ha;rw [h4] at q4;obtain ⟨ρ3,aiB,w1,w2,w3,_,w4,w5⟩:=JQ (bs0:=css) (pre:=[]) rfl hb q1 q4 ha;rw [h5] at w5;have hl:aiB.length=(UA tf.params).length+tf.boxes.length:=by rw [w2,q2];simp
 rw [<-hl] at w5;obtain ⟨vs',e1,e2,e3⟩:=Bv (Gu hg n) (Sk hg (Gu hg n) m) tf.body w1 w5 ha;refine ⟨vs',e1,e2,?_⟩;rw [aG h1];unfold Ef;rw [q3,w4];exact e3
theorem IK {f:Nat} {vs:List KV} {ws:List KW} {us:List V} (hsig:sig f=some []) (hv:aF Uw ws us) (hk:∀(ρ:List KW) (k:List KW->bN),kVs ρ vs k=k ws) (h:bz G f [] []=some (us,[])):AX G sig f ⟨[],[],.ret vs [],[]⟩:=by
 refine ⟨rfl,fun p ts ys xs zs css call head a hp hf hr hb hk2 ha=>?_⟩
 rw [hsig] at hp;injection hp with hp;subst hp;cases ts with
 |cons t ts=>cases t<;>cases hf
 |nil=>cases ys with
  |cons _ _=>cases xs<;>exact hr.elim
  |nil=>cases xs with
   |cons _ _=>exact hr.elim
   |nil=>cases zs with
    |cons _ _=>exact absurd hk2.symm ha
    |nil=>cases css with
     |cons _ _=>exact hb.elim
     |nil=>
      have h2:kVs [] vs (fun vs=>kSs [] [] fun xs=> .ret vs xs)=a:=hk2
      rw [hk] at h2;exact ⟨ws,[],_,h2.symm,h,hv,trivial⟩
end
end Go.Ey
namespace Go.Ey
section
variable {G:GT} {sig:Nat->Option (List PS)}
theorem args1 {p:List PS} {ts:List TA} {ys:List KW} {us:List LA} (hp:p=[.one]) (hf:fits p ts=true) (hr:RLs ts ys us):∃y u,ys=[y]/\us=[.v u]/\Uw y u:=by
 subst hp;cases ts with
 |nil=>cases hf
 |cons t ts=>
  cases t with
  |ref _ _=>cases hf
  |v x=>cases ts with
   |cons t ts=>cases t<;>cases hf
   |nil=>cases ys with
    |nil=>cases us with
     |nil=>exact hr.elim
     |cons u us=>cases u<;>exact hr.elim
    |cons y ys=>cases us with
     |nil=>exact hr.elim
     |cons u us=>cases u with
      |ref _ _=>exact hr.elim
      |v u=>cases ys with
       |cons _ _=>cases us<;>exact hr.2.elim
       |nil=>cases us with
        |cons _ _=>exact hr.2.elim
        |nil=>exact ⟨y,u,rfl,rfl,hr.1⟩
theorem args2 {p:List PS} {ts:List TA} {ys:List KW} {us:List LA} (hp:p=[.one,.one]) (hf:fits p ts=true) (hr:RLs ts ys us):∃y u y2 u2,ys=[y,y2]/\us=[.v u,.v u2]/\Uw y u/\Uw y2 u2:=by
 subst hp;cases ts with
 |nil=>cases hf
 |cons t ts=>
  cases t with
  |ref _ _=>cases hf
  |v x=>cases ys with
   |nil=>cases us with
    |nil=>exact hr.elim
    |cons u us=>cases u<;>exact hr.elim
   |cons y ys=>cases us with
    |nil=>exact hr.elim
    |cons u us=>cases u with
     |ref _ _=>exact hr.elim
     |v u=>
      obtain ⟨y2,u2,rfl,rfl,h⟩:=args1 (ts:=ts) rfl hf hr.2;exact ⟨y,u,y2,u2,rfl,rfl,hr.1,h⟩
theorem aek {zs:List KW} {ρ:List KW} {k:List KW->bN} {a:bN} (hk:Bl [] zs ρ k=a) (ha:a≠.fail):zs=[]/\k ρ=a:=by
 cases zs with
 |nil=>exact ⟨rfl,hk⟩
 |cons _ _=>exact absurd hk.symm ha
theorem agt {a:bN} {x y:K} {g:K->bN} {h:Bool->bN} (hk:Qj x y (fun q=>Q4 q g)=a) (hg:∀q,g (.b q)=h q) (hf:h false=.fail) (ha:a≠.fail):(∃k n,x=.i k n/\y=.i k n\/∃l w,x=.s l w/\y=.s l w)/\h true=a:=by
 have fin:∀b:Bool,Q4 b g=a->b=true/\h true=a:=by
  intro b hb;cases b with
  |true=>exact ⟨rfl,by rw [<-hg];exact hb⟩
  |false=>
   have h1:g (.b false)=a:=hb;rw [hg,hf] at h1;exact absurd h1.symm ha
 cases x with
 |i p n=>
  cases y with
  |i q m=>
   have h1:cond (Nat.beq (kk p) (kk q)) (Q4 (XH n m) g) .fail=a:=hk;obtain ⟨h2,h3⟩:=dP h1 ha;obtain ⟨h4,h5⟩:=fin _ h3;rw [Dm] at h4;have e1:n=m:=by simpa using h4
   have e2:p=q:=by
    have:=C5 h2
    cases p<;>cases q<;>first|rfl|(exact absurd this (by decide))
   subst e1 e2;exact ⟨⟨p,n,.inl ⟨rfl,rfl⟩⟩,h5⟩
  |_=>exact absurd (show bN.fail=a from hk).symm ha
 |s l v=>
  cases y with
  |s m w=>
   have h1:Q4 (and (Nat.beq l m) (Nat.beq v w)) g=a:=hk;obtain ⟨h4,h5⟩:=fin _ h1;simp only [As] at h4;have e1:=C5 h4.1;have e2:=C5 h4.2;subst e1 e2;exact ⟨⟨.i64,0,.inr ⟨l,v,rfl,rfl⟩⟩,h5⟩
  |_=>exact absurd (show bN.fail=a from hk).symm ha
 |b _=>exact absurd (show bN.fail=a from hk).symm ha
 |sl _ _ _=>exact absurd (show bN.fail=a from hk).symm ha
 |o _=>exact absurd (show bN.fail=a from hk).symm ha
theorem ab3 {f l w:Nat} {vs:List KV} {ws:List KW} (hsig:sig f=some [.one]) (hk:∀(ρ:List KW) (k:List KW->bN),kVs ρ vs k=k ws)
  (h:∀c,RK (.s l w) c->∃us,aF Uw ws us/\bz G f [.v (.one c)] []=some (us,[])):
  AX G sig f ⟨[none],[],.fG (.eql (.v 0) (.k (.s l w))) (.ite (.v 0) (.ret vs []) .fail),[]⟩:=by
 refine ⟨rfl,fun p ts ys us zs css call head a hp hf hr hb hk2 ha=>?_⟩
 rw [hsig] at hp;injection hp with hp;obtain ⟨y,u,rfl,rfl,hv⟩:=args1 hp.symm hf hr;obtain ⟨x,rfl,h1⟩:=Nq (show onC y (fun x=>um [] [] [.c x] fun ρ=>Bl [] zs ρ fun ρ=>zU (.fG (.eql (.v 0) (.k (.s l w))) (.ite (.v 0) (.ret vs []) .fail)) call head ρ)=a from hk2) ha
 obtain ⟨rfl,h2⟩:=aek (show Bl [] zs [.c x] (fun ρ=>zU (.fG (.eql (.v 0) (.k (.s l w))) (.ite (.v 0) (.ret vs []) .fail)) call head ρ)=a from h1) ha
 have h3:Qj x (.s l w) (fun q=>Q4 q fun z=>zU (.ite (.v 0) (.ret vs []) .fail) call head [.c z,.c x])=a:=h2
 obtain ⟨h4,h5⟩:=agt (h:=fun q=>zU (.ite (.v 0) (.ret vs []) .fail) call head [.c (.b q),.c x]) h3 (fun _=>rfl) rfl ha
 have hx:x=.s l w:=by
  obtain ⟨_,_,⟨_,h6⟩|⟨_,_,h6,h7⟩⟩:=h4
  ·cases h6
  ·rw [h6,h7]
 subst hx;cases u with
 |agg _=>exact hv.elim
 |full _ _=>exact hv.elim
 |one c=>
  cases css with
  |cons _ _=>exact hb.elim
  |nil=>
   obtain ⟨us,h8,h9⟩:=h c hv;have h10:kVs [.c (.b true),.c (.s l w)] vs (fun vs=>kSs [.c (.b true),.c (.s l w)] [] fun xs=> .ret vs xs)=a:=h5
   rw [hk] at h10;exact ⟨ws,[],_,h10.symm,h9,h8,trivial⟩
theorem ae6 {g:KG} {f:Nat} {kf:GI} (hg:Cy G sig g) (hk:AX G sig f kf):Cy G sig (.node f kf g g):=⟨.inr hk,hg,hg⟩
end
end Go.Ey
