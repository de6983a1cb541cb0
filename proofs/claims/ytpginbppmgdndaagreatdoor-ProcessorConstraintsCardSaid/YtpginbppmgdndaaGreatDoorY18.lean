/- A part of the proof. -/
import Derived.Test.YtpginbppmgdndaaGreatDoorY17
set_option linter.all false
namespace Go.Ey
section
variable {a:Ans} {ρ:List KW} {ρ':List W}
theorem RK.int {p:IntKind} {n:Int} {c:C} (h:RK (.i p n) c):c=.lit (.int p n):=by cases h;rfl
theorem RK.bool {x:Bool} {c:C} (h:RK (.b x) c):c=.lit (.bool x):=by cases h;rfl
theorem RK.str {l w:Nat} {c:C} (h:RK (.s l w) c):∃b:ByteArray,c=.lit (.string b)∧b.data.toList=strOf l w∧w < 256 ^ l:=by
 cases h with
 |s _ _ b hb hw=>exact ⟨b,rfl,hb,hw⟩
theorem RK.sli {e n:Nat} {r:List (List K)} {c:C} (h:RK (.sl e r n) c):∃cs,c=.slice cs n∧RKr e r cs∧r.length=n:=by
 cases h with
 |sl _ _ _ cs h hn=>exact ⟨cs,rfl,h,hn⟩
theorem two (h:RE ρ ρ') {x y:At} {f:K→K→Ans} (hk:(kA ρ (cA ρ'.length x) fun u=>kA ρ (cA ρ'.length y) fun v=>f u v)=a) (ha:a≠.fail):
  ∃u v c d,RK u c∧RK v d∧atC ρ' x=some c∧atC ρ' y=some d∧f u v=a:=by
 obtain ⟨u,c,h1,h2,h3⟩:=kA_ok h hk ha
 obtain ⟨v,d,h4,h5,h6⟩:=kA_ok h h3 ha
 exact ⟨u,v,c,d,h1,h4,h2,h5,h6⟩
theorem kIn_eq (k:IntKind) (n:Int) (r:K→Ans):kIn k n r=r (.i k (k.wrap n)):=by unfold kIn;rw [forceI_eq,kwrap_eq]
theorem kBn_eq (b:Bool) (r:K→Ans):kBn b r=r (.b b):=forceB_eq b _
theorem strOf_inj {l w m v:Nat} (hw:w < 256 ^ l) (hv:v < 256 ^ m):(strOf l w=strOf m v)↔(l=m∧w=v):=by
 constructor
 ·intro h
  have h1:l=m:=by have:=congrArg List.length h;rwa [strOf_len,strOf_len] at this
  subst h1
  refine ⟨rfl,?_⟩
  have:=congrArg packL h
  rwa [pack_strOf _ _ hw,pack_strOf _ _ hv] at this
 ·rintro ⟨rfl,rfl⟩;rfl
theorem str_beq {l w m v:Nat} {b d:ByteArray} (hb:b.data.toList=strOf l w) (hw:w < 256 ^ l) (hd:d.data.toList=strOf m v) (hv:v < 256 ^ m):(b.toList==d.toList)=(Nat.beq l m && Nat.beq w v):=by
 rw [Bool.eq_iff_iff,beq_iff_eq,kt_list,kt_list,hb,hd,strOf_inj hw hv]
 simp [Nat.beq_eq]
abbrev Got (a:Ans) (ρ':List W) (o:OpC) (k:K→Ans):Prop:=∃y c,RK y c∧opcD ρ' o=some c∧k y=a
theorem ints {op:BinOp} {x y:At} {k:K→Ans} {g:IntKind→Int→Int→Ans} (hs:isShift op=false) (h:RE ρ ρ') (hk:(kA ρ (cA ρ'.length x) fun u=>kA ρ (cA ρ'.length y) fun v=>onII u v g)=a) (ha:a≠.fail)
  (hg:∀p n m,g p n m=a→∃z v,RK z (.lit v)∧intBin op p n m=some v∧k z=a):Got a ρ' (.bin op false x y) k:=by
 obtain ⟨u,v,c,d,h1,h2,h3,h4,h5⟩:=two h hk ha
 obtain ⟨p,n,m,rfl,rfl,h6⟩:=onII_ok h5 ha
 rw [h1.int] at h3
 rw [h2.int] at h4
 obtain ⟨z,w,h7,h8,h9⟩:=hg p n m h6
 exact ⟨z,.lit w,h7,by simp [opcD,h3,h4,binC,binV,hs,h8],h9⟩
theorem sub_ok (h:RE ρ ρ') {x y:At} {k:K→Ans} (hk:kSub (cA ρ'.length x) (cA ρ'.length y) ρ k=a) (ha:a≠.fail):Got a ρ' (.bin .sub false x y) k:=
 ints rfl h hk ha fun p n m hg=>⟨_,_,.i _ _,rfl,by rw [←hg,kIn_eq]⟩
theorem mul_ok (h:RE ρ ρ') {x y:At} {k:K→Ans} (hk:kMul (cA ρ'.length x) (cA ρ'.length y) ρ k=a) (ha:a≠.fail):Got a ρ' (.bin .mul false x y) k:=
 ints rfl h hk ha fun p n m hg=>⟨_,_,.i _ _,rfl,by rw [←hg,kIn_eq]⟩
theorem quo_ok (h:RE ρ ρ') {x y:At} {k:K→Ans} (hk:kQuo (cA ρ'.length x) (cA ρ'.length y) ρ k=a) (ha:a≠.fail):Got a ρ' (.bin .quo false x y) k:=
 ints rfl h hk ha fun p n m hg=>by
  obtain ⟨h1,h2⟩:=cond_ok' hg ha
  rw [keq_eq] at h1
  exact ⟨_,_,.i _ _,by simp only [intBin];rw [if_neg (by simpa using h1)],by rw [←h2,kIn_eq]⟩
theorem rem_ok (h:RE ρ ρ') {x y:At} {k:K→Ans} (hk:kRem (cA ρ'.length x) (cA ρ'.length y) ρ k=a) (ha:a≠.fail):Got a ρ' (.bin .rem false x y) k:=
 ints rfl h hk ha fun p n m hg=>by
  obtain ⟨h1,h2⟩:=cond_ok' hg ha
  rw [keq_eq] at h1
  exact ⟨_,_,.i _ _,by simp only [intBin];rw [if_neg (by simpa using h1)],by rw [←h2,forceI_eq]⟩
theorem lss_ok (h:RE ρ ρ') {x y:At} {k:K→Ans} (hk:kLss (cA ρ'.length x) (cA ρ'.length y) ρ k=a) (ha:a≠.fail):Got a ρ' (.bin .lss false x y) k:=
 ints rfl h hk ha fun p n m hg=>⟨_,_,.b _,rfl,by rw [←hg,kBn_eq,klt_eq]⟩
theorem gtr_ok (h:RE ρ ρ') {x y:At} {k:K→Ans} (hk:kGtr (cA ρ'.length x) (cA ρ'.length y) ρ k=a) (ha:a≠.fail):Got a ρ' (.bin .gtr false x y) k:=
 ints rfl h hk ha fun p n m hg=>⟨_,_,.b _,rfl,by rw [←hg,kBn_eq,klt_eq]⟩
theorem leq_ok (h:RE ρ ρ') {x y:At} {k:K→Ans} (hk:kLeq (cA ρ'.length x) (cA ρ'.length y) ρ k=a) (ha:a≠.fail):Got a ρ' (.bin .leq false x y) k:=
 ints rfl h hk ha fun p n m hg=>⟨_,_,.b _,rfl,by rw [←hg,kBn_eq,klt_eq];congr 2;rw [Bool.eq_iff_iff];simp⟩
theorem geq_ok (h:RE ρ ρ') {x y:At} {k:K→Ans} (hk:kGeq (cA ρ'.length x) (cA ρ'.length y) ρ k=a) (ha:a≠.fail):Got a ρ' (.bin .geq false x y) k:=
 ints rfl h hk ha fun p n m hg=>⟨_,_,.b _,rfl,by rw [←hg,kBn_eq,klt_eq];congr 2;rw [Bool.eq_iff_iff];simp⟩
theorem eqN_ok {u v:K} {c d:C} (hu:RK u c) (hv:RK v d) {g:Bool→Ans} (hk:kEqN u v g=a) (ha:a≠.fail):
  ∃q,g q=a∧binC .eql false c d=some (.lit (.bool q))∧binC .neq false c d=some (.lit (.bool (!q))):=by
 cases u with
 |i p n=>
  obtain ⟨p',n',m,h1,rfl,h2⟩:=onII_ok (show onII (.i p n) v (fun _ n m=>g (keq n m))=a from hk) ha
  injection h1 with e1 e2
  subst e1 e2
  rw [hu.int,hv.int]
  refine ⟨_,h2,?_,?_⟩
  ·simp [binC,binV,isShift,intBin,keq_eq]
  ·simp [binC,binV,isShift,intBin,keq_eq,bne]
 |s l w=>
  obtain ⟨m,x,rfl,h2⟩:=onS_ok (show onS v (fun m x=>g (and (Nat.beq l m) (Nat.beq w x)))=a from hk) ha
  obtain ⟨b,rfl,hb,hw⟩:=hu.str
  obtain ⟨d',rfl,hd,hx⟩:=hv.str
  refine ⟨_,h2,?_,?_⟩
  ·simp only [binC,binV,strBin];rw [str_beq hb hw hd hx];rfl
  ·simp only [binC,binV,strBin];rw [str_beq hb hw hd hx];rfl
 |b _=>exact absurd hk.symm ha
 |sl _ _ _=>exact absurd hk.symm ha
 |o _=>exact absurd hk.symm ha
theorem eql_ok (h:RE ρ ρ') {x y:At} {k:K→Ans} (hk:kEql (cA ρ'.length x) (cA ρ'.length y) ρ k=a) (ha:a≠.fail):Got a ρ' (.bin .eql false x y) k:=by
 obtain ⟨u,v,c,d,h1,h2,h3,h4,h5⟩:=two h hk ha
 obtain ⟨q,h6,h7,_⟩:=eqN_ok h1 h2 h5 ha
 exact ⟨.b q,_,.b q,by simp [opcD,h3,h4,h7],by rw [←h6,kBn_eq]⟩
theorem neq_ok (h:RE ρ ρ') {x y:At} {k:K→Ans} (hk:kNeq (cA ρ'.length x) (cA ρ'.length y) ρ k=a) (ha:a≠.fail):Got a ρ' (.bin .neq false x y) k:=by
 obtain ⟨u,v,c,d,h1,h2,h3,h4,h5⟩:=two h hk ha
 obtain ⟨q,h6,_,h7⟩:=eqN_ok h1 h2 h5 ha
 exact ⟨.b (!q),_,.b _,by simp [opcD,h3,h4,h7],by rw [←h6,kBn_eq]⟩
theorem not_ok (h:RE ρ ρ') {x:At} {k:K→Ans} (hk:kNot (cA ρ'.length x) ρ k=a) (ha:a≠.fail):Got a ρ' (.un .not x) k:=by
 obtain ⟨u,c,h1,h2,h3⟩:=kA_ok h hk ha
 obtain ⟨p,rfl,h4⟩:=onB_ok h3 ha
 rw [h1.bool] at h2
 exact ⟨.b (!p),_,.b _,by simp [opcD,h2,unC,unV],by rw [←h4,kBn_eq]⟩
theorem neg_ok (h:RE ρ ρ') {x:At} {k:K→Ans} (hk:kNeg (cA ρ'.length x) ρ k=a) (ha:a≠.fail):Got a ρ' (.un .neg x) k:=by
 obtain ⟨u,c,h1,h2,h3⟩:=kA_ok h hk ha
 obtain ⟨p,n,rfl,h4⟩:=onI_ok h3 ha
 rw [h1.int] at h2
 exact ⟨.i p (p.wrap (0 - n)),_,.i _ _,by simp [opcD,h2,unC,unV],by rw [←h4,kIn_eq]⟩
theorem conv_ok (h:RE ρ ρ') {q:IntKind} {x:At} {k:K→Ans} (hk:kConv q (cA ρ'.length x) ρ k=a) (ha:a≠.fail):Got a ρ' (.conv q x) k:=by
 obtain ⟨u,c,h1,h2,h3⟩:=kA_ok h hk ha
 obtain ⟨p,n,rfl,h4⟩:=onI_ok h3 ha
 rw [h1.int] at h2
 exact ⟨.i q (q.wrap n),_,.i _ _,by simp [opcD,h2,convC],by rw [←h4,kIn_eq]⟩
theorem mx_ok (h:RE ρ ρ') {x y:At} {k:K→Ans} (hk:kMx (cA ρ'.length x) (cA ρ'.length y) ρ k=a) (ha:a≠.fail):Got a ρ' (.mm true x y) k:=by
 obtain ⟨u,v,c,d,h1,h2,h3,h4,h5⟩:=two h hk ha
 obtain ⟨p,n,m,rfl,rfl,h6⟩:=onII_ok h5 ha
 rw [h1.int] at h3
 rw [h2.int] at h4
 rw [klt_eq] at h6
 refine ⟨.i p (if m > n then m else n),_,.i _ _,by simp [opcD,h3,h4,mmC,minmax],?_⟩
 by_cases hlt:n < m
 ·rw [if_pos hlt];simpa [hlt] using h6
 ·rw [if_neg hlt];simpa [hlt] using h6
theorem mn_ok (h:RE ρ ρ') {x y:At} {k:K→Ans} (hk:kMn (cA ρ'.length x) (cA ρ'.length y) ρ k=a) (ha:a≠.fail):Got a ρ' (.mm false x y) k:=by
 obtain ⟨u,v,c,d,h1,h2,h3,h4,h5⟩:=two h hk ha
 obtain ⟨p,n,m,rfl,rfl,h6⟩:=onII_ok h5 ha
 rw [h1.int] at h3
 rw [h2.int] at h4
 rw [klt_eq] at h6
 refine ⟨.i p (if m < n then m else n),_,.i _ _,by simp [opcD,h3,h4,mmC,minmax],?_⟩
 by_cases hlt:m < n
 ·rw [if_pos hlt];simpa [hlt] using h6
 ·rw [if_neg hlt];simpa [hlt] using h6
theorem eq1_ok {u v:K} {c d:C} (hu:RK u c) (hv:RK v d) {n:Nat} (hn:Nat.beq (kkind u) n=true) {g:Bool→Ans} (hk:kEq u v g=a) (ha:a≠.fail):∃q,g q=a∧eqC n c d=some q:=by
 have hn':kkind u=n:=Nat.eq_of_beq_eq_true hn
 subst hn'
 cases u with
 |i p n=>
  obtain ⟨p',n',m,h1,rfl,h2⟩:=onII_ok (show onII (.i p n) v (fun _ n m=>g (keq n m))=a from hk) ha
  injection h1 with e1 e2
  subst e1 e2
  rw [hu.int,hv.int]
  exact ⟨_,h2,by simp [eqC,kkind,keq_eq]⟩
 |s l w=>
  obtain ⟨m,x,rfl,h2⟩:=onS_ok (show onS v (fun m x=>g (and (Nat.beq l m) (Nat.beq w x)))=a from hk) ha
  obtain ⟨b,rfl,hb,hw⟩:=hu.str
  obtain ⟨d',rfl,hd,hx⟩:=hv.str
  exact ⟨_,h2,by simp only [eqC,kkind];rw [str_beq hb hw hd hx]⟩
 |b p=>
  obtain ⟨q,rfl,h2⟩:=onB_ok (show onB v (fun q=>g (not (xor p q)))=a from hk) ha
  rw [hu.bool,hv.bool]
  exact ⟨_,h2,by cases p<;>cases q<;>rfl⟩
 |sl _ _ _=>exact absurd hk.symm ha
 |o _=>exact absurd hk.symm ha
theorem keqs_ok:∀{ks:List Nat} {xs ys:List K} {cs ds:List C} {g:Bool→Ans},RKs xs cs→RKs ys ds→keqs ks xs ys g=a→a≠.fail→∃q,g q=a∧eqCs ks cs ds=some q
 |[],xs,ys,cs,ds,g,hx,hy,hk,ha=>by
  cases xs with
  |cons _ _=>exact absurd hk.symm ha
  |nil=>cases ys with
   |cons _ _=>exact absurd hk.symm ha
   |nil=>cases hx;cases hy;exact ⟨true,hk,rfl⟩
 |n::ks,xs,ys,cs,ds,g,hx,hy,hk,ha=>by
  cases xs with
  |nil=>exact absurd hk.symm ha
  |cons x xs=>cases ys with
   |nil=>exact absurd hk.symm ha
   |cons y ys=>
    cases hx with
    |cons hx1 hx2=>cases hy with
     |cons hy1 hy2=>
      obtain ⟨h1,h2⟩:=cond_ok (show (cond (Nat.beq (kkind x) n) (kEq x y fun q=>keqs ks xs ys fun p=>g (and q p)) .fail)=a from hk) ha
      obtain ⟨q,h3,h4⟩:=eq1_ok hx1 hy1 h1 h2 ha
      obtain ⟨p,h5,h6⟩:=keqs_ok hx2 hy2 h3 ha
      exact ⟨_,h5,by simp [eqCs,h4,h6]⟩
theorem eqs_ok (h:RE ρ ρ') {ks:List Nat} {neg:Bool} {s t:SL} {k:K→Ans} (hk:kEqs ks neg (cS ρ'.length s) (cS ρ'.length t) ρ k=a) (ha:a≠.fail):Got a ρ' (.eqs ks neg s t) k:=by
 obtain ⟨_,xs,cs,h1,_,h2,h3⟩:=kS_ok h hk ha
 obtain ⟨_,ys,ds,h4,_,h5,h6⟩:=kS_ok h h3 ha
 obtain ⟨q,h7,h8⟩:=keqs_ok h1 h4 h6 ha
 refine ⟨.b (if neg then !q else q),_,.b _,by simp [opcD,h2,h5,eqsC,h8],?_⟩
 rw [←h7,kBn_eq]
 cases neg<;>cases q<;>rfl
theorem len_ok (h:RE ρ ρ') {b:Bool} {x:At} {k:K→Ans} (hk:kLen b (cA ρ'.length x) ρ k=a) (ha:a≠.fail):Got a ρ' (.len b x) k:=by
 obtain ⟨u,c,h1,h2,h3⟩:=kA_ok h hk ha
 cases u with
 |s l w=>
  obtain ⟨s,rfl,hs,_⟩:=h1.str
  obtain ⟨h4,h5⟩:=cond_ok (show (cond b (k (.i .i64 (.ofNat l))) .fail)=a from h3) ha
  subst h4
  have:s.size=l:=by
   have:=congrArg List.length hs
   rw [strOf_len] at this
   exact this
  exact ⟨.i .i64 (.ofNat l),intC s.size,by rw [this];exact .i _ _,by simp [opcD,h2,lenC],h5⟩
 |sl e r n=>
  obtain ⟨cs,rfl,_,_⟩:=h1.sli
  obtain ⟨h4,h5⟩:=cond_ok' (show (cond b .fail (k (.i .i64 (.ofNat n))))=a from h3) ha
  subst h4
  exact ⟨.i .i64 (.ofNat n),intC n,.i _ _,by simp [opcD,h2,lenC],h5⟩
 |i _ _=>exact absurd h3.symm ha
 |b _=>exact absurd h3.symm ha
 |o _=>exact absurd h3.symm ha
end
end Go.Ey

namespace Go.Ey
theorem RKs.append {xs ys:List K} {cs ds:List C} (h:RKs xs cs) (h':RKs ys ds):RKs (xs++ys) (cs++ds):=by
 induction xs generalizing cs with
 |nil=>cases h;exact h'
 |cons x xs ih=>cases h with|cons h1 h2=>exact .cons h1 (ih h2)
theorem RKs.take {xs:List K} {cs:List C} (h:RKs xs cs) (n:Nat):RKs (xs.take n) (cs.take n):=by
 induction xs generalizing cs n with
 |nil=>cases h;simpa using RKs.nil
 |cons x xs ih=>
  cases h with
  |cons h1 h2=>cases n with
   |zero=>exact .nil
   |succ n=>exact .cons h1 (ih h2 n)
theorem RKs.drop {xs:List K} {cs:List C} (h:RKs xs cs) (n:Nat):RKs (xs.drop n) (cs.drop n):=by
 induction xs generalizing cs n with
 |nil=>cases h;simpa using RKs.nil
 |cons x xs ih=>
  cases h with
  |cons h1 h2=>cases n with
   |zero=>exact .cons h1 h2
   |succ n=>exact ih h2 n
theorem RKs.splice {xs ys:List K} {cs ds:List C} (h:RKs xs cs) (h':RKs ys ds) (off:Nat):RKs (Ey.splice xs off ys) (Ey.splice cs off ds):=by
 unfold Ey.splice
 rw [h'.len]
 exact ((h.take _).append h').append (h.drop _)
theorem RKr.inv {e:Nat} {row:List K} {rev:List (List K)} {cs:List C} (h:RKr e (row::rev) cs):∃c0 r,cs=c0++r∧RKs row r∧row.length=e∧RKr e rev c0:=by
 cases h with
 |cons h1 h2 h3=>exact ⟨_,_,rfl,h1,h2,h3⟩
theorem RKr.nils {e:Nat} {cs:List C} (h:RKr e [] cs):cs=[]:=by cases h;rfl
theorem RKr.len {e:Nat} {rev:List (List K)} {cs:List C} (h:RKr e rev cs):cs.length=rev.length * e:=by
 induction rev generalizing cs with
 |nil=>rw [h.nils];simp
 |cons row rev ih=>
  obtain ⟨c0,r,rfl,h1,h2,h3⟩:=h.inv
  rw [List.length_append,ih h3,←h1.len,h2,List.length_cons,Nat.succ_mul]
theorem RKr.append {e:Nat} {ys xs:List (List K)} {ds cs:List C} (h:RKr e ys ds) (h':RKr e xs cs):RKr e (ys++xs) (cs++ds):=by
 induction ys generalizing ds with
 |nil=>rw [h.nils,List.append_nil];exact h'
 |cons row ys ih=>
  obtain ⟨c0,r,rfl,h1,h2,h3⟩:=h.inv
  rw [←List.append_assoc]
  exact .cons h1 h2 (ih h3)
theorem RKr.drop {e:Nat} {rev:List (List K)} {cs:List C} (h:RKr e rev cs) (k:Nat):RKr e (rev.drop k) (cs.take ((rev.length - k) * e)):=by
 induction rev generalizing cs k with
 |nil=>rw [h.nils];simpa using RKr.nil
 |cons row rev ih=>
  cases k with
  |zero=>
   rw [Nat.sub_zero,←h.len,List.take_length]
   exact h
  |succ k=>
   obtain ⟨c0,r,rfl,h1,h2,h3⟩:=h.inv
   have:=ih h3 k
   rw [List.drop_succ_cons,show (row::rev).length - (k+1)=rev.length - k by simp]
   rw [List.take_append_of_le_length]
   ·exact this
   ·rw [h3.len];exact Nat.mul_le_mul_right _ (Nat.sub_le _ _)
theorem RKr.take {e:Nat} {rev:List (List K)} {cs:List C} (h:RKr e rev cs) {k:Nat} (hk:k≤rev.length):RKr e (rev.take k) (cs.drop ((rev.length - k) * e)):=by
 induction rev generalizing cs k with
 |nil=>rw [h.nils];simpa using RKr.nil
 |cons row rev ih=>
  cases k with
  |zero=>
   rw [Nat.sub_zero,←h.len,List.drop_length]
   exact .nil
  |succ k=>
   obtain ⟨c0,r,rfl,h1,h2,h3⟩:=h.inv
   have hk':k≤rev.length:=by simpa using hk
   rw [List.take_succ_cons,show (row::rev).length - (k+1)=rev.length - k by simp]
   rw [List.drop_append_of_le_length (by rw [h3.len];exact Nat.mul_le_mul_right _ (Nat.sub_le _ _))]
   exact .cons h1 h2 (ih h3 hk')
theorem RKr.row {e:Nat} {rev:List (List K)} {cs:List C} (h:RKr e rev cs) {j:Nat} (hj:j < rev.length) {row:List K} {rest:List (List K)} (hd:rev.drop (rev.length - (j+1))=row::rest):
  RKs row ((cs.drop (j * e)).take e)∧row.length=e:=by
 have h1:=h.drop (rev.length - (j+1))
 rw [hd,show rev.length - (rev.length - (j+1))=j+1 by omega] at h1
 obtain ⟨c0,r,h2,h3,h4,h5⟩:=h1.inv
 have hl:rest.length=j:=by
  have:=congrArg List.length hd
  rw [List.length_drop,List.length_cons] at this
  omega
 have h6:=h5.len
 rw [hl] at h6
 refine ⟨?_,h4⟩
 have h7:(cs.take ((j+1) * e)).drop (j * e)=r:=by rw [h2,←h6,List.drop_left]
 rw [List.drop_take] at h7
 rw [show (j+1) * e - j * e=e by rw [Nat.succ_mul];omega] at h7
 rw [h7];exact h3
theorem splice_left {c0 r vs:List C} {p:Nat} (h:p+vs.length≤c0.length):splice (c0++r) p vs=splice c0 p vs++r:=by
 unfold splice
 rw [List.take_append_of_le_length (by omega),List.drop_append_of_le_length h]
 simp [List.append_assoc]
theorem splice_right {c0 r vs:List C} {off:Nat}:splice (c0++r) (c0.length+off) vs=c0++splice r off vs:=by
 unfold splice
 rw [List.take_length_add_append,Nat.add_assoc,List.drop_length_add_append]
 simp [List.append_assoc]
theorem splice_len {α:Type} {l vs:List α} {off:Nat} (h:off+vs.length≤l.length):(splice l off vs).length=l.length:=by
 unfold splice;simp;omega
theorem RKr.set {e:Nat} {ys:List K} {vs:List C} (hv:RKs ys vs) {off:Nat} (ho:off+ys.length≤e):∀{rev:List (List K)} {cs:List C} {i:Nat},RKr e rev cs→i < rev.length→
  RKr e (ksetR rev i fun row=>splice row off ys) (splice cs ((rev.length - (i+1)) * e+off) vs)
 |[],_,_,_,hi=>absurd hi (Nat.not_lt_zero _)
 |row::rev,cs,0,h,_=>by
  obtain ⟨c0,r,rfl,h1,h2,h3⟩:=h.inv
  show RKr e ((splice row off ys)::rev) _
  rw [show (row::rev).length - (0+1)=rev.length by simp,←h3.len,splice_right]
  exact .cons (h1.splice hv off) (by rw [splice_len (by omega),h2]) h3
 |row::rev,cs,i+1,h,hi=>by
  obtain ⟨c0,r,rfl,h1,h2,h3⟩:=h.inv
  have hi':i < rev.length:=by simpa using hi
  have ih:=RKr.set hv ho h3 hi'
  show RKr e (row::ksetR rev i fun row=>splice row off ys) _
  rw [show (row::rev).length - (i+1+1)=rev.length - (i+1) by simp]
  rw [splice_left]
  ·exact .cons h1 h2 ih
  ·rw [h3.len,←hv.len]
   have:(rev.length - (i+1)) * e+e≤rev.length * e:=by rw [←Nat.succ_mul];exact Nat.mul_le_mul_right _ (by omega)
   omega
theorem ksetR_len {g:List K→List K}:∀{rev:List (List K)} {i:Nat},i < rev.length→(ksetR rev i g).length=rev.length
 |[],_,hi=>absurd hi (Nat.not_lt_zero _)
 |row::rev,0,_=>rfl
 |row::rev,i+1,hi=>by
  have:=ksetR_len (g:=g) (rev:=rev) (i:=i) (by simpa using hi)
  show (row::ksetR rev i g).length=_
  simp [this]
theorem zeros_comm (z:List Value):∀n,zeros z n++z.map litC=z.map litC++zeros z n
 |0=>by simp [zeros]
 |n+1=>by simp only [zeros];rw [List.append_assoc,zeros_comm z n]
def cLit (v:Value):K:=match litC v with|.lit v=>cVal v|.slice _ _=> .sl 0 [] 0
theorem cLit_ok (v:Value):RK (cLit v) (litC v):=by
 unfold cLit litC
 split
 ·rename_i v' h;rw [h];exact cVal_ok v'
 ·rename_i cs n h
  rw [h]
  split at h<;>first|(injection h with h1 h2;subst h1 h2;exact .sl 0 [] 0 [] .nil rfl)|cases h
theorem zero_ok:∀z:List Value,RKs (z.map cLit) (z.map litC)
 |[]=> .nil
 |v::z=> .cons (cLit_ok v) (zero_ok z)
theorem krep_ok {z:List Value} {e:Nat} (he:z.length=e):∀n,RKr e (krep (z.map cLit) n) (zeros z n)
 |0=> .nil
 |n+1=>by
  show RKr e (z.map cLit::krep (z.map cLit) n) _
  simp only [zeros]
  rw [←zeros_comm]
  exact .cons (zero_ok z) (by simpa using he) (krep_ok he n)
theorem krep_len (z:List K):∀n,(krep z n).length=n
 |0=>rfl
 |n+1=>by show (z::krep z n).length=_;simp [krep_len z n]
section
variable {a:Ans} {ρ:List KW} {ρ':List W}
theorem kchop_ok {e:Nat}:∀{n:Nat} {ys:List K} {cs:List C} {acc:List (List K)} {ds:List C} {k:List (List K)→Ans},RKs ys cs→ys.length=n * e→RKr e acc ds→kchop e n ys acc k=a→∃rev,RKr e rev (ds++cs)∧rev.length=n+acc.length∧k rev=a
 |0,ys,cs,acc,ds,k,hy,hl,hacc,hk=>by
  have:cs=[]:=by have:=hy.len;rw [hl] at this;simp at this;exact List.eq_nil_of_length_eq_zero this.symm
  subst this
  exact ⟨acc,by simpa using hacc,by simp,hk⟩
 |n+1,ys,cs,acc,ds,k,hy,hl,hacc,hk=>by
  have hk':forceL (ys.take e) (fun row=>kchop e n (ys.drop e) (row::acc) k)=a:=hk
  rw [forceL_eq] at hk'
  rw [Nat.succ_mul] at hl
  obtain ⟨rev,h1,h2,h3⟩:=kchop_ok (hy.drop e) (by rw [List.length_drop];omega) (.cons (hy.take e) (by rw [List.length_take];omega) hacc) hk'
  exact ⟨rev,by rw [List.append_assoc,List.take_append_drop] at h1;exact h1,by rw [h2];simp;omega,h3⟩
theorem sl_as {esz e n:Nat} {r:List (List K)} {c:C} (h:RK (.sl e r n) c) {x:Ans} (hk:kesz esz e n x=a) (ha:a≠.fail):∃cs,c=.slice cs n∧RKr esz r cs∧r.length=n∧x=a:=by
 obtain ⟨cs,rfl,h1,h2⟩:=h.sli
 unfold kesz at hk
 cases he:Nat.beq e esz with
 |true=>
  rw [he] at hk
  have:=Nat.eq_of_beq_eq_true he
  subst this
  exact ⟨cs,rfl,h1,h2,hk⟩
 |false=>
  rw [he,cond_false] at hk
  obtain ⟨h3,h4⟩:=cond_ok hk ha
  have:=Nat.eq_of_beq_eq_true h3
  subst this
  have:=List.eq_nil_of_length_eq_zero h2
  subst this
  rw [h1.nils]
  exact ⟨[],rfl,.nil,rfl,h4⟩
theorem ble_le {m n:Nat} (h:Nat.ble m n=true):m≤n:=by rw [Nat.ble_eq] at h;exact h
theorem nz {n:Nat} (h:Nat.beq n 0=false):0 < n:=by
 cases n with
 |zero=>cases h
 |succ n=>exact Nat.succ_pos n
theorem mk_ok (h:RE ρ ρ') {esz bytes:Nat} {z:List Value} (hz:z.length=esz) {x y:At} {k:K→Ans} (hk:kMk esz bytes (z.map cLit) (cA ρ'.length x) (cA ρ'.length y) ρ k=a) (ha:a≠.fail):Got a ρ' (.mk esz bytes z x y) k:=by
 obtain ⟨u,v,c,d,h1,h2,h3,h4,h5⟩:=two h hk ha
 obtain ⟨p,n,rfl,h6⟩:=onI_ok h5 ha
 obtain ⟨m,rfl,h7⟩:=onN_ok h6 ha
 obtain ⟨p',n',rfl,h8⟩:=onI_ok h7 ha
 obtain ⟨q,rfl,h9⟩:=onN_ok h8 ha
 obtain ⟨g1,h9⟩:=cond_ok h9 ha
 obtain ⟨g2,h9⟩:=cond_ok h9 ha
 obtain ⟨g3,h9⟩:=cond_ok h9 ha
 obtain ⟨g4,h9⟩:=cond_ok' h9 ha
 rw [forceL_eq] at h9
 rw [h1.int] at h3
 rw [h2.int] at h4
 have e1:=ble_le g1
 have e2:=ble_le g2
 have e3:=ble_le g3
 have e4:=nz g4
 refine ⟨_,.slice (zeros z m) m,.sl esz _ m _ (krep_ok hz m) (krep_len _ m),?_,h9⟩
 simp only [opcD,h3,h4,Option.bind_some,mkC]
 rw [if_pos ⟨by omega,by omega,by simpa [krm,roomMax] using e2,by simpa [krm,roomMax] using e3,hz,e4⟩]
 simp
theorem lits_ok (h:RE ρ ρ') {esz len:Nat} {xs:List At} (hl:xs.length=len * esz) {k:K→Ans} (hk:kLits esz len (xs.map (cA ρ'.length)) ρ k=a) (ha:a≠.fail):Got a ρ' (.lits esz len xs) k:=by
 obtain ⟨ys,cs,h1,h2,h3,h4⟩:=kAs_ok h (show kAs ρ (xs.map (cA ρ'.length)) (fun ys=>cond (Nat.ble len krm) (cond (Nat.beq esz 0) .fail (kchop esz len ys [] fun zs=>k (.sl esz zs len))) .fail)=a from hk) ha
 obtain ⟨g1,h4⟩:=cond_ok h4 ha
 obtain ⟨g2,h4⟩:=cond_ok' h4 ha
 obtain ⟨rev,h5,h6,h7⟩:=kchop_ok h1 (by omega) .nil h4
 refine ⟨_,.slice cs len,.sl esz rev len cs (by simpa using h5) (by simpa using h6),?_,h7⟩
 simp only [opcD,h3,Option.bind_some,litsC]
 rw [if_pos ⟨by rw [←h1.len];omega,show len≤krm from ble_le g1,nz g2⟩]
theorem row_ok (h:RE ρ ρ') {esz:Nat} {x y:At} {k:List K→Ans} (hk:(kA ρ (cA ρ'.length x) fun u=>kA ρ (cA ρ'.length y) fun v=>krow esz u v k)=a) (ha:a≠.fail):
  ∃row r,RKs row r∧row.length=esz∧(((atC ρ' x).bind fun u=>(atC ρ' y).bind fun v=>rowC esz u v)=some r)∧k row=a:=by
 obtain ⟨u,v,c,d,h1,h2,h3,h4,h5⟩:=two h hk ha
 obtain ⟨e,rev,n,rfl,h6⟩:=onSl_ok h5 ha
 obtain ⟨p,n',rfl,h7⟩:=onI_ok h6 ha
 obtain ⟨j,rfl,h8⟩:=onN_ok h7 ha
 obtain ⟨g1,h8⟩:=cond_ok (x:=cond (Nat.beq e esz) (List.casesOn (motive:=fun _=>Ans) (rev.drop (n - Nat.succ j)) .fail fun row _=>k row) .fail) h8 ha
 obtain ⟨g2,h9⟩:=cond_ok (x:=List.casesOn (motive:=fun _=>Ans) (rev.drop (n - Nat.succ j)) .fail fun row _=>k row) h8 ha
 have:=Nat.eq_of_beq_eq_true g2
 subst this
 obtain ⟨cs,rfl,r1,r2⟩:=h1.sli
 rw [h2.int] at h4
 have e1:=ble_le g1
 subst r2
 cases hd:rev.drop (rev.length - (j+1)) with
 |nil=>rw [show rev.drop (rev.length - Nat.succ j)=[] from hd] at h9;exact absurd h9.symm ha
 |cons row rest=>
  rw [show rev.drop (rev.length - Nat.succ j)=row::rest from hd] at h9
  obtain ⟨q1,q2⟩:=r1.row (j:=j) (by omega) hd
  refine ⟨row,_,q1,q2,?_,h9⟩
  simp only [h3,h4,Option.bind_some,rowC]
  rw [if_pos ⟨by omega,by omega,by rw [r1.len];exact Nat.mul_le_mul_right _ (by simpa using e1)⟩]
  rfl
theorem set_ok (h:RE ρ ρ') {esz off:Nat} {x y:At} {vs:List At} {k:K→Ans} (hk:kSet esz (cA ρ'.length x) (cA ρ'.length y) off vs.length (vs.map (cA ρ'.length)) ρ k=a) (ha:a≠.fail):Got a ρ' (.set esz x y off vs) k:=by
 obtain ⟨u,v,c,d,h1,h2,h3,h4,h5⟩:=two h hk ha
 obtain ⟨ys,ds,w1,w2,w3,h5⟩:=kAs_ok h h5 ha
 obtain ⟨e,rev,n,rfl,h6⟩:=onSl_ok h5 ha
 obtain ⟨p,n',rfl,h7⟩:=onI_ok h6 ha
 obtain ⟨j,rfl,h8⟩:=onN_ok h7 ha
 obtain ⟨g1,h8⟩:=cond_ok h8 ha
 obtain ⟨g2,h8⟩:=cond_ok h8 ha
 obtain ⟨g3,h8⟩:=cond_ok h8 ha
 have:=Nat.eq_of_beq_eq_true g2
 subst this
 obtain ⟨cs,rfl,r1,r2⟩:=h1.sli
 rw [h2.int] at h4
 rw [forceL_eq] at h8
 have e1:=ble_le g1
 have e3:=ble_le g3
 subst r2
 have hi:rev.length - Nat.succ j < rev.length:=by omega
 have key:=RKr.set w1 (off:=off) (by omega) r1 hi
 rw [show rev.length - (rev.length - Nat.succ j+1)=j by omega] at key
 refine ⟨_,_,.sl _ _ _ _ key (ksetR_len hi),?_,h8⟩
 simp only [opcD,h3,h4,w3,Option.bind_some,setC]
 rw [if_pos ⟨by omega,by omega,by rw [←w1.len];omega,r1.len⟩]
 simp
theorem klo_lo (h:RE ρ ρ') {o:Option At} {k:Nat→Ans} (hk:klo ρ (o.map (cA ρ'.length)) 0 k=a) (ha:a≠.fail):∃q n,atO ρ' o=some q∧loC q=some n∧k n=a:=by
 cases o with
 |none=>exact ⟨none,0,rfl,rfl,hk⟩
 |some x=>
  obtain ⟨u,c,h1,h2,h3⟩:=kA_ok h (show kA ρ (cA ρ'.length x) (fun x=>onI x fun _ n=>onN n k)=a from hk) ha
  obtain ⟨p,n,rfl,h4⟩:=onI_ok h3 ha
  obtain ⟨m,rfl,h5⟩:=onN_ok h4 ha
  rw [h1.int] at h2
  exact ⟨some (.lit (.int p m)),m,by simp [atO,h2],by simp [loC],h5⟩
theorem klo_hi (h:RE ρ ρ') {o:Option At} {len:Nat} {k:Nat→Ans} (hk:klo ρ (o.map (cA ρ'.length)) len k=a) (ha:a≠.fail):∃q n,atO ρ' o=some q∧hiC len q=some n∧k n=a:=by
 cases o with
 |none=>exact ⟨none,len,rfl,rfl,hk⟩
 |some x=>
  obtain ⟨u,c,h1,h2,h3⟩:=kA_ok h (show kA ρ (cA ρ'.length x) (fun x=>onI x fun _ n=>onN n k)=a from hk) ha
  obtain ⟨p,n,rfl,h4⟩:=onI_ok h3 ha
  obtain ⟨m,rfl,h5⟩:=onN_ok h4 ha
  rw [h1.int] at h2
  exact ⟨some (.lit (.int p m)),m,by simp [atO,h2],by simp [hiC],h5⟩
theorem slc_ok (h:RE ρ ρ') {esz:Nat} {x:At} {lo hi:Option At} {k:K→Ans} (hk:kSlc esz (cA ρ'.length x) (lo.map (cA ρ'.length)) (hi.map (cA ρ'.length)) ρ k=a) (ha:a≠.fail):Got a ρ' (.sub esz x lo hi) k:=by
 obtain ⟨u,c,h1,h2,h3⟩:=kA_ok h hk ha
 obtain ⟨e,rev,n,rfl,h4⟩:=onSl_ok h3 ha
 obtain ⟨cs,rfl,r1,r2,h5⟩:=sl_as h1 h4 ha
 obtain ⟨ql,l,l1,l2,h5⟩:=klo_lo h h5 ha
 obtain ⟨qh,r,l3,l4,h5⟩:=klo_hi h h5 ha
 obtain ⟨g1,h5⟩:=cond_ok h5 ha
 rw [forceN_eq,forceL_eq] at h5
 rw [Bool.and_eq_true] at g1
 have e1:=ble_le g1.1
 have e2:=ble_le g1.2
 subst r2
 have q1:=r1.drop (rev.length - r)
 rw [show rev.length - (rev.length - r)=r by omega] at q1
 have hlen:(rev.drop (rev.length - r)).length=r:=by rw [List.length_drop];omega
 have q2:=q1.take (k:=r - l) (by omega)
 rw [hlen,show r - (r - l)=l by omega,List.drop_take,←Nat.sub_mul] at q2
 refine ⟨_,_,.sl esz _ (r - l) _ q2 (by rw [List.length_take,hlen];omega),?_,h5⟩
 simp only [opcD,h2,l1,l3,Option.bind_some,subC,l2,l4]
 rw [if_pos ⟨e1,e2⟩]
end
end Go.Ey

namespace Go.Ey
theorem two_pow (l:Nat):2 ^ (8 * l)=256 ^ l:=by rw [Nat.pow_mul]
theorem shl_eq (w l:Nat):Nat.shiftLeft w (8 * l)=w * 256 ^ l:=by
 rw [←two_pow];exact Nat.shiftLeft_eq w (8 * l)
theorem shr_eq (w l:Nat):Nat.shiftRight w (8 * l)=w / 256 ^ l:=by
 rw [←two_pow];exact Nat.shiftRight_eq_div_pow w (8 * l)
theorem strOf_append:∀(l m v w:Nat),v < 256 ^ l→strOf (l+m) (v+w * 256 ^ l)=strOf l v++strOf m w
 |0,m,v,w,h=>by
  have:v=0:=by simpa using h
  subst this
  simp [strOf]
 |l+1,m,v,w,h=>by
  rw [Nat.pow_succ] at h
  have e1:w * 256 ^ (l+1)=256 * (w * 256 ^ l):=by rw [Nat.pow_succ];simp only [Nat.mul_comm,Nat.mul_left_comm]
  rw [show l+1+m=(l+m)+1 by omega,e1]
  simp only [strOf]
  rw [show (v+256 * (w * 256 ^ l)) % 256=v % 256 by omega,show (v+256 * (w * 256 ^ l)) / 256=v / 256+w * 256 ^ l by omega,strOf_append l m (v / 256) w (by omega)]
  rfl
theorem append_lt {l m v w:Nat} (hv:v < 256 ^ l) (hw:w < 256 ^ m):v+w * 256 ^ l < 256 ^ (l+m):=by
 have h1:(w+1) * 256 ^ l≤256 ^ m * 256 ^ l:=Nat.mul_le_mul_right _ hw
 rw [Nat.succ_mul] at h1
 rw [Nat.add_comm l m,Nat.pow_add]
 omega
theorem strOf_drop:∀(l n w:Nat),(strOf n w).drop l=strOf (n - l) (w / 256 ^ l)
 |0,n,w=>by simp
 |l+1,0,w=>by simp [strOf]
 |l+1,n+1,w=>by
  simp only [strOf,List.drop_succ_cons]
  rw [strOf_drop l n (w / 256),Nat.div_div_eq_div_mul,show n+1 - (l+1)=n - l by omega,Nat.pow_succ,Nat.mul_comm]
theorem strOf_take:∀(m n w:Nat),m≤n→(strOf n w).take m=strOf m (w % 256 ^ m)
 |0,n,w,_=>by simp [strOf]
 |m+1,0,w,h=>by omega
 |m+1,n+1,w,h=>by
  simp only [strOf,List.take_succ_cons]
  rw [strOf_take m n (w / 256) (by omega)]
  have e1:w % 256 ^ (m+1) % 256=w % 256:=Nat.mod_mod_of_dvd _ ⟨256 ^ m,by rw [Nat.pow_succ,Nat.mul_comm]⟩
  have e2:w % 256 ^ (m+1) / 256=w / 256 % 256 ^ m:=by rw [Nat.pow_succ,Nat.mul_comm,Nat.mod_mul_right_div_self]
  rw [e1,e2]
theorem strOf_get:∀(n w j:Nat),j < n→(strOf n w)[j]?=some (UInt8.ofNat (w / 256 ^ j % 256))
 |0,_,_,h=>by omega
 |n+1,w,0,_=>by simp [strOf]
 |n+1,w,j+1,h=>by
  simp only [strOf,List.getElem?_cons_succ]
  rw [strOf_get n (w / 256) j (by omega),Nat.div_div_eq_div_mul,Nat.pow_succ,Nat.mul_comm (256 ^ j)]
section
variable {a:Ans} {ρ:List KW} {ρ':List W}
theorem size_of {b:ByteArray} {l w:Nat} (h:b.data.toList=strOf l w):b.size=l:=by
 have:=congrArg List.length h
 rw [strOf_len] at this
 exact this
theorem add_ok (h:RE ρ ρ') {x y:At} {k:K→Ans} (hk:kAdd (cA ρ'.length x) (cA ρ'.length y) ρ k=a) (ha:a≠.fail):Got a ρ' (.bin .add false x y) k:=by
 obtain ⟨u,v,c,d,h1,h2,h3,h4,h5⟩:=two h hk ha
 cases u with
 |i p n=>
  obtain ⟨p',n',m,e,rfl,h6⟩:=onII_ok (show onII (.i p n) v (fun k' n m=>kIn k' (n+m) k)=a from h5) ha
  injection e with e1 e2
  subst e1 e2
  rw [h1.int] at h3
  rw [h2.int] at h4
  rw [kIn_eq] at h6
  exact ⟨_,.lit (.int p (p.wrap (n+m))),.i _ _,by simp [opcD,h3,h4,binC,binV,isShift,intBin],h6⟩
 |s l w=>
  obtain ⟨m,z,rfl,h6⟩:=onS_ok (show onS v (fun m z=>forceN (l+m) fun lm=>cond (Nat.ble lm krm) (forceN (w+Nat.shiftLeft z (8 * l)) fun u=>k (.s lm u)) .fail)=a from h5) ha
  rw [forceN_eq] at h6
  obtain ⟨g1,h7⟩:=cond_ok h6 ha
  rw [forceN_eq,shl_eq] at h7
  obtain ⟨b,rfl,hb,hw⟩:=h1.str
  obtain ⟨b',rfl,hb',hw'⟩:=h2.str
  refine ⟨_,.lit (.string (b++b')),.s _ _ _ ?_ (append_lt hw hw'),?_,h7⟩
  ·rw [strOf_append _ _ _ _ hw,←hb,←hb'];simp [ByteArray.toList_data_append]
  ·simp only [opcD,h3,h4,Option.bind_some,binC,binV,strBin,Bool.false_eq_true,if_false]
   rw [if_pos (by rw [size_of hb,size_of hb'];exact ble_le g1)]
   rfl
 |b _=>exact absurd h5.symm ha
 |sl _ _ _=>exact absurd h5.symm ha
 |o _=>exact absurd h5.symm ha
theorem extract_list (b:ByteArray) (l r:Nat):(b.extract l r).data.toList=(b.data.toList.drop l).take (r - l):=by
 simp [ByteArray.data_extract]
theorem sstr_ok (h:RE ρ ρ') {x:At} {lo hi:Option At} {k:K→Ans} (hk:kSstr (cA ρ'.length x) (lo.map (cA ρ'.length)) (hi.map (cA ρ'.length)) ρ k=a) (ha:a≠.fail):Got a ρ' (.sstr x lo hi) k:=by
 obtain ⟨u,c,h1,h2,h3⟩:=kA_ok h hk ha
 obtain ⟨n,w,rfl,h4⟩:=onS_ok h3 ha
 obtain ⟨b,rfl,hb,hw⟩:=h1.str
 obtain ⟨ql,l,l1,l2,h5⟩:=klo_lo h h4 ha
 obtain ⟨qh,r,l3,l4,h6⟩:=klo_hi h h5 ha
 obtain ⟨g1,h7⟩:=cond_ok h6 ha
 rw [forceN_eq,forceN_eq,shr_eq,shl_eq,Nat.one_mul] at h7
 rw [Bool.and_eq_true] at g1
 have e1:=ble_le g1.1
 have e2:=ble_le g1.2
 refine ⟨_,.lit (.string (b.extract l r)),.s _ _ _ ?_ (Nat.mod_lt _ (Nat.pow_pos (by omega))),?_,h7⟩
 ·rw [extract_list,hb,strOf_drop,strOf_take _ _ _ (by omega)]
 ·simp only [opcD,h2,l1,l3,Option.bind_some,sstrC,l2,size_of hb,l4]
  rw [if_pos ⟨e1,e2⟩]
theorem sidx_ok (h:RE ρ ρ') {x y:At} {k:K→Ans} (hk:kSidx (cA ρ'.length x) (cA ρ'.length y) ρ k=a) (ha:a≠.fail):Got a ρ' (.sidx x y) k:=by
 obtain ⟨u,v,c,d,h1,h2,h3,h4,h5⟩:=two h hk ha
 obtain ⟨n,w,rfl,h6⟩:=onS_ok h5 ha
 obtain ⟨p,m,rfl,h7⟩:=onI_ok h6 ha
 obtain ⟨j,rfl,h8⟩:=onN_ok h7 ha
 obtain ⟨g1,h9⟩:=cond_ok h8 ha
 rw [forceN_eq,shr_eq] at h9
 obtain ⟨b,rfl,hb,hw⟩:=h1.str
 rw [h2.int] at h4
 have e1:j < n:=ble_le g1
 refine ⟨_,.lit (.int .u8 ((w / 256 ^ j % 256:Nat):Int)),.i _ _,?_,h9⟩
 have hg:=strOf_get n w j e1
 rw [←hb,Array.getElem?_toList] at hg
 simp only [opcD,h3,h4,Option.bind_some,sidxC]
 rw [if_pos (by omega),show ((j:Int)).toNat=j from rfl,hg]
 simp
theorem bytesOf_append:∀{cs ds:List C} {xs ys:List UInt8},bytesOf cs=some xs→bytesOf ds=some ys→bytesOf (cs++ds)=some (xs++ys)
 |[],ds,xs,ys,h1,h2=>by simp only [bytesOf,Option.some.injEq] at h1;subst h1;exact h2
 |c::cs,ds,xs,ys,h1,h2=>by
  unfold bytesOf at h1
  split at h1
  ·rename_i h;cases h
  ·rename_i n r heq
   injection heq with e1 e2
   subst e1 e2
   simp only [Option.bind_eq_bind,Option.bind_eq_some_iff,Option.some.injEq] at h1
   obtain ⟨bs,h3,rfl⟩:=h1
   simp only [List.cons_append,bytesOf,bytesOf_append h3 h2,Option.bind_eq_bind,Option.bind_some]
  ·cases h1
theorem kpack_ok:∀{rev:List (List K)} {cs:List C} {suf:List UInt8} {k:Nat→Ans},RKr 1 rev cs→kpack rev (packL suf) k=a→a≠.fail→∃bs,bytesOf cs=some bs∧bs.length=rev.length∧k (packL (bs++suf))=a
 |[],cs,suf,k,hr,hk,ha=>by rw [hr.nils];exact ⟨[],rfl,rfl,hk⟩
 |row::rev,cs,suf,k,hr,hk,ha=>by
  obtain ⟨c0,r,rfl,h1,h2,h3⟩:=hr.inv
  cases row with
  |nil=>simp at h2
  |cons x row=>
   have:row=[]:=by simpa using h2
   subst this
   obtain ⟨p,n,rfl,h4⟩:=onI_ok (show onI x (fun p n=>cond (Nat.beq (kk p) 4) (onN n fun b=>cond (Nat.ble b 255) (forceN (b+256 * packL suf) fun v=>kpack rev v k) .fail) .fail)=a from hk) ha
   obtain ⟨g1,h5⟩:=cond_ok h4 ha
   obtain ⟨b,rfl,h6⟩:=onN_ok h5 ha
   obtain ⟨g2,h7⟩:=cond_ok h6 ha
   rw [forceN_eq] at h7
   have hp:p=.u8:=kk_inj (q:=.u8) g1
   subst hp
   have hb:=ble_le g2
   have e1:b+256 * packL suf=packL (UInt8.ofNat b::suf):=by
    have:(UInt8.ofNat b).toNat=b:=by simp;omega
    simp [packL,this]
   rw [e1] at h7
   obtain ⟨bs,h8,h9,h10⟩:=kpack_ok h3 h7 ha
   cases h1 with
   |cons h11 h12=>
    cases h12
    rw [h11.int]
    refine ⟨bs++[UInt8.ofNat b],bytesOf_append h8 (by simp [bytesOf]),by simp [h9],?_⟩
    rw [List.append_assoc];exact h10
theorem toStr_ok (h:RE ρ ρ') {x:At} {k:K→Ans} (hk:kToStr (cA ρ'.length x) ρ k=a) (ha:a≠.fail):Got a ρ' (.toStr x) k:=by
 obtain ⟨u,c,h1,h2,h3⟩:=kA_ok h hk ha
 obtain ⟨e,rev,n,rfl,h4⟩:=onSl_ok h3 ha
 obtain ⟨cs,rfl,r1,r2,h5⟩:=sl_as h1 h4 ha
 obtain ⟨bs,h6,h7,h8⟩:=kpack_ok (suf:=[]) r1 h5 ha
 rw [List.append_nil] at h8
 refine ⟨_,.lit (.string ⟨bs.toArray⟩),.s n (packL bs) _ ?_ ?_,?_,h8⟩
 ·show bs.toArray.toList=_
  rw [←r2,←h7,strOf_pack]
 ·rw [←r2,←h7];exact pack_lt bs
 ·simp only [opcD,h2,Option.bind_some,toStrC,h6]
  rw [if_pos (by rw [r1.len,r2];omega)]
theorem krevB_ok:∀{l w:Nat} {acc:List (List K)} {cs:List C},RKr 1 acc cs→RKr 1 (krevB l w acc) (cs++(strOf l w).map fun b=>C.lit (.int .u8 b.toNat))∧(krevB l w acc).length=l+acc.length
 |0,w,acc,cs,h=>⟨by show RKr 1 acc _;simpa [strOf] using h,by show acc.length=_;omega⟩
 |l+1,w,acc,cs,h=>by
  have e0:Nat.shiftRight w 8=w / 256:=by have:=shr_eq w 1;simpa using this
  have e1:(K.i .u8 (.ofNat (Nat.mod w 256)))=K.i .u8 ((UInt8.ofNat (w % 256)).toNat:Nat):=by
   have:(UInt8.ofNat (w % 256)).toNat=w % 256:=by simp
   rw [this];rfl
  have h2:RKr 1 ([.i .u8 (.ofNat (Nat.mod w 256))]::acc) (cs++[.lit (.int .u8 ((UInt8.ofNat (w % 256)).toNat:Nat))]):=by
   rw [e1]
   exact .cons (.cons (.i _ _) .nil) rfl h
  obtain ⟨h3,h4⟩:=krevB_ok (l:=l) (w:=w / 256) h2
  have hd:krevB (l+1) w acc=krevB l (w / 256) ([.i .u8 (.ofNat (Nat.mod w 256))]::acc):=by rw [←e0];rfl
  rw [hd]
  refine ⟨?_,by rw [h4];simp;omega⟩
  simp only [strOf,List.map_cons]
  rw [List.append_assoc] at h3
  exact h3
theorem app_ok (h:RE ρ ρ') {esz bytes:Nat} {x y:At} {k:K→Ans} (hk:kApp esz bytes (cA ρ'.length x) (cA ρ'.length y) ρ k=a) (ha:a≠.fail):Got a ρ' (.app esz bytes x y) k:=by
 obtain ⟨u,v,c,d,h1,h2,h3,h4,h5⟩:=two h hk ha
 obtain ⟨e,rev,n,rfl,h6⟩:=onSl_ok h5 ha
 obtain ⟨cs,rfl,r1,r2,h7⟩:=sl_as h1 h6 ha
 cases v with
 |s l w=>
  obtain ⟨g1,h8⟩:=cond_ok (show (cond (Nat.beq esz 1) (forceL (krevB l w rev) fun zs=>forceN (n+l) fun m=>cond (Nat.ble (m * bytes) krm) (cond (Nat.ble m krm) (k (.sl esz zs m)) .fail) .fail) .fail)=a from h7) ha
  rw [forceL_eq,forceN_eq] at h8
  obtain ⟨g2,h9⟩:=cond_ok h8 ha
  obtain ⟨g3,h10⟩:=cond_ok h9 ha
  have:=Nat.eq_of_beq_eq_true g1
  subst this
  obtain ⟨b,rfl,hb,hw⟩:=h2.str
  obtain ⟨q1,q2⟩:=krevB_ok (l:=l) (w:=w) r1
  rw [←hb] at q1
  refine ⟨_,_,.sl 1 _ (n+l) _ q1 (by rw [q2,r2];omega),?_,h10⟩
  have hl:b.data.toList.length=l:=by rw [hb,strOf_len]
  have hl2:b.data.size=l:=by rw [←Array.length_toList];exact hl
  simp only [opcD,h3,h4,Option.bind_some,appC,srcC]
  rw [if_pos trivial,Option.bind_some,if_pos ⟨by simp [size_of hb,hl2],by rw [r1.len,r2],by rw [size_of hb];exact ble_le g2,by omega,by rw [size_of hb];exact ble_le g3⟩]
  rw [size_of hb]
 |sl e' ys m=>
  obtain ⟨ds,rfl,t1,t2,h8⟩:=sl_as h2 (show kesz esz e' m (cond (Nat.beq esz 0) .fail (forceL (ys++rev) fun zs=>forceN (n+m) fun q=>cond (Nat.ble (q * bytes) krm) (cond (Nat.ble q krm) (k (.sl esz zs q)) .fail) .fail))=a from h7) ha
  obtain ⟨g1,h9⟩:=cond_ok' h8 ha
  rw [forceL_eq,forceN_eq] at h9
  obtain ⟨g2,h10⟩:=cond_ok h9 ha
  obtain ⟨g3,h11⟩:=cond_ok h10 ha
  refine ⟨_,_,.sl esz _ (n+m) _ (t1.append r1) (by simp [r2,t2];omega),?_,h11⟩
  simp only [opcD,h3,h4,Option.bind_some,appC,srcC]
  rw [if_pos (by rw [t1.len,t2]),Option.bind_some,if_pos ⟨by rw [t1.len,t2],by rw [r1.len,r2],ble_le g2,nz g1,ble_le g3⟩]
 |i _ _=>exact absurd h7.symm ha
 |b _=>exact absurd h7.symm ha
 |o _=>exact absurd h7.symm ha
end
end Go.Ey

namespace Go.Ey
def sameA:At→At→Bool
 |.v i,.v j=>i==j
 |.n i j,.n i' j'=>i==i' && j==j'
 |_,_=>false
theorem sameA_eq {x y:At} (h:sameA x y=true):x=y:=by
 cases x<;>cases y<;>simp_all [sameA]
def cBin (n:Nat) (op:BinOp) (x y:At):KO:=
 match op with
 |.add=> .add (cA n x) (cA n y)
 |.sub=> .sub (cA n x) (cA n y)
 |.mul=> .mul (cA n x) (cA n y)
 |.quo=> .quo (cA n x) (cA n y)
 |.rem=> .rem (cA n x) (cA n y)
 |.eql=> .eql (cA n x) (cA n y)
 |.neq=> .neq (cA n x) (cA n y)
 |.lss=> .lss (cA n x) (cA n y)
 |.leq=> .leq (cA n x) (cA n y)
 |.gtr=> .gtr (cA n x) (cA n y)
 |.geq=> .geq (cA n x) (cA n y)
 |.shr=> .shz (cA n x) (cA n y)
 |.and=> .anz (cA n x) (cA n y)
 |_=> .no
def cBool (n:Nat) (op:BinOp) (x y:At):KO:=
 match op with
 |.eql=> .eqs [2] false (cS n (.lit [x])) (cS n (.lit [y]))
 |.neq=> .eqs [2] true (cS n (.lit [x])) (cS n (.lit [y]))
 |_=> .no
def cO (n:Nat):OpC→KO
 |.bin op isB x y=>if isB then cBool n op x y else cBin n op x y
 |.un op x=>(match op with|.not=> .not (cA n x)|.neg=> .neg (cA n x)|_=> .no)
 |.conv k x=> .conv k (cA n x)
 |.eqs ks neg s t=> .eqs ks neg (cS n s) (cS n t)
 |.len b x=> .len b (cA n x)
 |.app esz bytes s t=> .app esz bytes (cA n s) (cA n t)
 |.set esz s i off vs=> .set esz (cA n s) (cA n i) off vs.length (vs.map (cA n))
 |.sub esz s lo hi=> .slc esz (cA n s) (lo.map (cA n)) (hi.map (cA n))
 |.clip esz s lo hi mx=>if sameA hi mx then .slc esz (cA n s) (lo.map (cA n)) ((some hi).map (cA n)) else .no
 |.sstr s lo hi=> .sstr (cA n s) (lo.map (cA n)) (hi.map (cA n))
 |.sidx s i=> .sidx (cA n s) (cA n i)
 |.toStr s=> .toStr (cA n s)
 |.mk esz bytes z l c=>if z.length=esz then .mk esz bytes (z.map cLit) (cA n l) (cA n c) else .no
 |.cpy _ _ _=> .no
 |.cnt _ _ _=> .no
 |.mm b x y=>if b then .mx (cA n x) (cA n y) else .mn (cA n x) (cA n y)
 |.lits esz len xs=>if xs.length=len * esz then .lits esz len (xs.map (cA n)) else .no
section
variable {a:Ans} {ρ:List KW} {ρ':List W}
theorem no_ok {α:Prop} {k:K→Ans} (hk:kop .no ρ k=a) (ha:a≠.fail):α:=absurd (show Ans.fail=a from hk).symm ha
theorem bool_ok {x y:At} {neg:Bool} {c:C} (h:opcD ρ' (.eqs [2] neg (.lit [x]) (.lit [y]))=some c):opcD ρ' (.bin (if neg then .neq else .eql) true x y)=some c:=by
 simp only [opcD,slD,atCs,Option.bind_eq_some_iff,Option.some.injEq,eqsC] at h
 obtain ⟨xs,⟨u,h1,_,rfl,rfl⟩,ys,⟨v,h2,_,rfl,rfl⟩,q,h3,rfl⟩:=h
 simp only [eqCs,Option.bind_eq_some_iff,Option.some.injEq] at h3
 obtain ⟨p,h4,_,rfl,rfl⟩:=h3
 unfold eqC at h4
 split at h4
 ·rename_i e;cases e
 ·rename_i e;cases e
 ·rename_i s t _
  simp only [Option.some.injEq] at h4
  subst h4
  cases neg<;>simp [opcD,h1,h2,binC,boolV]
 ·cases h4
theorem clip_ok (h:RE ρ ρ') {esz:Nat} {x hi:At} {lo:Option At} {k:K→Ans} (hk:kSlc esz (cA ρ'.length x) (lo.map (cA ρ'.length)) ((some hi).map (cA ρ'.length)) ρ k=a) (ha:a≠.fail):Got a ρ' (.clip esz x lo hi hi) k:=by
 obtain ⟨y,c,h1,h2,h3⟩:=slc_ok h hk ha
 refine ⟨y,c,h1,?_,h3⟩
 simp only [opcD,Option.bind_eq_some_iff] at h2
 obtain ⟨u,h4,l,h5,q,h6',h7⟩:=h2
 simp only [atO,Option.bind_eq_some_iff,Option.some.injEq] at h6'
 obtain ⟨v,h6,rfl⟩:=h6'
 simp only [opcD,h4,h6,Option.bind_some]
 rw [h5,Option.bind_some]
 unfold subC at h7
 split at h7
 ·rename_i cs n
  simp only [Option.bind_eq_some_iff] at h7
  obtain ⟨l',h8,r,h9,h10⟩:=h7
  unfold hiC at h9
  split at h9
  ·rename_i e;cases e
  ·rename_i p n' e
   injection e with e;subst e
   simp only [clipC,if_true,subC,h8,hiC,h9,Option.bind_some]
   exact h10
  ·cases h9
 ·cases h7
theorem kop_ok (h:RE ρ ρ') {o:OpC} {k:K→Ans} (hk:kop (cO ρ'.length o) ρ k=a) (ha:a≠.fail):Got a ρ' o k:=by
 cases o with
 |bin op isB x y=>
  cases isB with
  |true=>
   simp only [cO,if_true] at hk
   cases op with
   |eql=>
    obtain ⟨z,c,h1,h2,h3⟩:=eqs_ok (ks:=[2]) (neg:=false) (s:=.lit [x]) (t:=.lit [y]) h hk ha
    exact ⟨z,c,h1,bool_ok h2,h3⟩
   |neq=>
    obtain ⟨z,c,h1,h2,h3⟩:=eqs_ok (ks:=[2]) (neg:=true) (s:=.lit [x]) (t:=.lit [y]) h hk ha
    exact ⟨z,c,h1,bool_ok h2,h3⟩
   |_=>exact no_ok hk ha
  |false=>
   simp only [cO,Bool.false_eq_true,if_false] at hk
   cases op with
   |add=>exact add_ok h hk ha
   |sub=>exact sub_ok h hk ha
   |mul=>exact mul_ok h hk ha
   |quo=>exact quo_ok h hk ha
   |rem=>exact rem_ok h hk ha
   |eql=>exact eql_ok h hk ha
   |neq=>exact neq_ok h hk ha
   |lss=>exact lss_ok h hk ha
   |leq=>exact leq_ok h hk ha
   |gtr=>exact gtr_ok h hk ha
   |geq=>exact geq_ok h hk ha
   |shr=>
    obtain ⟨u,v,c,d,h1,h2,h3,h4,h5⟩:=two h (show kA ρ (cA ρ'.length x) (fun u=>kA ρ (cA ρ'.length y) fun v=>onI u fun p n=>onI v fun _ m=>onN m fun j=>cond (keq n 0) (k (.i p (.ofNat 0))) (onN n fun i=>cond (Nat.ble j 8) (forceN (Nat.div i (Nat.pow 2 j)) fun q=>k (.i p (.ofNat q))) .fail))=a from hk) ha
    obtain ⟨p,n,rfl,h6⟩:=onI_ok h5 ha
    obtain ⟨q,m,rfl,h7⟩:=onI_ok h6 ha
    obtain ⟨j,rfl,h8⟩:=onN_ok h7 ha
    rw [h1.int] at h3
    rw [h2.int] at h4
    cases hz:keq n 0 with
    |true=>
     rw [hz] at h8
     have h9:k (.i p (.ofNat 0))=a:=h8
     rw [keq_eq] at hz
     have g2:n=0:=by simpa using hz
     subst g2
     refine ⟨.i p (.ofNat 0),_,.i _ _,?_,h9⟩
     simp [opcD,h3,h4,binC,binV,isShift,shiftBin,show ¬((j:Int) < 0) by omega]
    |false=>
     rw [hz] at h8
     obtain ⟨i,rfl,h9⟩:=onN_ok (show onN n (fun i=>cond (Nat.ble j 8) (forceN (Nat.div i (Nat.pow 2 j)) fun q=>k (.i p (.ofNat q))) .fail)=a from h8) ha
     obtain ⟨g1,h10⟩:=cond_ok h9 ha
     rw [forceN_eq] at h10
     have hj:j≤8:=Nat.le_of_ble_eq_true g1
     have hb:min j p.bits=j:=by
      have:8≤p.bits:=by cases p<;>decide
      omega
     refine ⟨.i p (.ofNat (Nat.div i (Nat.pow 2 j))),_,.i _ _,?_,h10⟩
     have he:((i:Int).fdiv (2 ^ j))=((i / 2 ^ j:Nat):Int):=by
      rw [Int.fdiv_eq_ediv_of_nonneg _ (by exact_mod_cast Nat.zero_le (2 ^ j))]
      simp
     simp [opcD,h3,h4,binC,binV,isShift,shiftBin,show ¬((j:Int) < 0) by omega,hb,he]
     rfl
   |and=>
    obtain ⟨u,v,c,d,h1,h2,h3,h4,h5⟩:=two h (show kA ρ (cA ρ'.length x) (fun u=>kA ρ (cA ρ'.length y) fun v=>onII u v fun p n _=>cond (keq n 0) (k (.i p (.ofNat 0))) .fail)=a from hk) ha
    obtain ⟨p,n,m,rfl,rfl,h6⟩:=onII_ok h5 ha
    obtain ⟨g1,h9⟩:=cond_ok h6 ha
    rw [keq_eq] at g1
    have g2:n=0:=by simpa using g1
    subst g2
    rw [h1.int] at h3
    rw [h2.int] at h4
    refine ⟨.i p (.ofNat 0),_,.i _ _,?_,h9⟩
    have hw:p.wrap 0=0:=by cases p<;>rfl
    simp [opcD,h3,h4,binC,binV,isShift,intBin,hw]
   |_=>exact no_ok hk ha
 |un op x=>
  cases op with
  |not=>exact not_ok h hk ha
  |neg=>exact neg_ok h hk ha
  |_=>exact no_ok hk ha
 |conv k' x=>exact conv_ok h hk ha
 |eqs ks neg s t=>exact eqs_ok h hk ha
 |len b x=>exact len_ok h hk ha
 |app esz bytes s t=>exact app_ok h hk ha
 |set esz s i off vs=>exact set_ok h hk ha
 |sub esz s lo hi=>exact slc_ok h hk ha
 |clip esz s lo hi mx=>
  simp only [cO] at hk
  split at hk
  ·rename_i hs
   have:=sameA_eq hs
   subst this
   exact clip_ok h hk ha
  ·exact no_ok hk ha
 |sstr s lo hi=>exact sstr_ok h hk ha
 |sidx s i=>exact sidx_ok h hk ha
 |toStr s=>exact toStr_ok h hk ha
 |mk esz bytes z l c=>
  simp only [cO] at hk
  split at hk
  ·rename_i hz;exact mk_ok h hz hk ha
  ·exact no_ok hk ha
 |cpy esz d s=>exact no_ok hk ha
 |cnt esz d s=>exact no_ok hk ha
 |mm b x y=>
  cases b with
  |true=>exact mx_ok h hk ha
  |false=>exact mn_ok h hk ha
 |lits esz len xs=>
  simp only [cO] at hk
  split at hk
  ·rename_i hl;exact lits_ok h hl hk ha
  ·exact no_ok hk ha
end
def fits:List PS→List TA→Bool
 |[],[]=>true
 |.one::ps,.v _::as=>fits ps as
 |.agg _::ps,.v _::as=>fits ps as
 |.ref b o::ps,.ref b' o'::as=>b==b' && o==o' && fits ps as
 |.clo _ _::ps,.ref b' o'::as=>b'==0 && o'==0 && fits ps as
 |_,_=>false
def pOf:List PS→List (Option Nat)
 |[]=>[]
 |.one::ps=>none::pOf ps
 |.agg m::ps=>some m::pOf ps
 |.ref _ _::ps=>pOf ps
 |.clo _ _::ps=>pOf ps
def cT (sig:Nat→Option (List PS)):Nat→Tree→KTree
 |n,.opc o t=> .opc (cO n o) (cT sig (n+1) t)
 |n,.row esz s i t=> .row esz (cA n s) (cA n i) (cT sig (n+1) t)
 |n,.ite x t e=> .ite (cA n x) (cT sig n t) (cT sig n e)
 |n,.call f args bs rs bl t=>(match sig f with
  |some p=>if fits p args then .call f (cTA n args) (bs.map (cS n)) rs bl (cT sig (n+rs.length+bl.length) t) else .fail
  |none=> .fail)
 |n,.goto h args=> .goto h args.length (args.map (cTW n))
 |n,.ret rs bs=> .ret (rs.map (cV n)) (bs.map (cS n))
 |_,.fail=> .fail
def RA' (S:List KW→Option R→Prop):Ans→Option R→Prop
 |.fail,_=>True
 |.ret vs bs,o=>∃r,o=some r∧All2 RVv vs r.1∧All2 RB bs r.2
 |.stop ws,o=>S ws o
def CallK (sig:Nat→Option (List PS)) (kcall:KFn) (call:FnT):Prop:=∀f p ts ys us zs css vs bs,sig f=some p→fits p ts=true→RLs ts ys us→All2 RB zs css→kcall f ys zs=.ret vs bs→
 ∃r,call f us css=some r∧All2 RVv vs r.1∧All2 RB bs r.2
def HeadK (S:List KW→Option R→Prop) (khead:KHd) (head:HdT):Prop:=∀h ws ws',RE ws ws'→RA' S (khead h ws'.length ws) (head h ws')
theorem onC_ok {a:Ans} {w:KW} {k:K→Ans} (h:onC w k=a) (ha:a≠.fail):∃x,w=.c x∧k x=a:=by
 cases w with
 |c x=>exact ⟨x,rfl,h⟩
 |l _ _=>exact absurd h.symm ha
theorem onL_ok {a:Ans} {w:KW} {k:Nat→List K→Ans} (h:onL w k=a) (ha:a≠.fail):∃n xs,w=.l n xs∧k n xs=a:=by
 cases w with
 |c x=>exact absurd h.symm ha
 |l n xs=>exact ⟨n,xs,rfl,h⟩
theorem kputs_ok {a:Ans} {vs0:List V}:∀{ss:List (Option Nat)} {ys:List KW} {vs pre:List V} {ρ:List KW} {ρ':List W} {k:List KW→Ans},vs0=pre++vs→All2 RVv ys vs→RE ρ ρ'→kputs ss ys ρ k=a→a≠.fail→
  ∃ρ2 ρ2',RE ρ2 ρ2'∧ρ2'.length=ρ'.length+ss.length∧vs.length=ss.length∧(∀(g:List W→Option R),bindVs vs0 g ss pre.length ρ'=g ρ2')∧k ρ2=a
 |[],ys,vs,pre,ρ,ρ',k,he,hy,hR,hk,ha=>by
  cases ys with
  |cons _ _=>exact absurd hk.symm ha
  |nil=>cases vs with
   |cons _ _=>exact hy.elim
   |nil=>exact ⟨ρ,ρ',hR,rfl,rfl,fun g=>rfl,hk⟩
 |s::ss,ys,vs,pre,ρ,ρ',k,he,hy,hR,hk,ha=>by
  cases ys with
  |nil=>exact absurd hk.symm ha
  |cons y ys=>cases vs with
   |nil=>exact hy.elim
   |cons v vs=>
    have hget:vs0[pre.length]?=some v:=by rw [he,List.getElem?_append_right (Nat.le_refl _)];simp
    have he':vs0=(pre++[v])++vs:=by rw [he];simp
    cases s with
    |none=>
     obtain ⟨x,rfl,h1⟩:=onC_ok (show onC y (fun x=>kputs ss ys (.c x::ρ) k)=a from hk) ha
     cases v with
     |agg _=>exact hy.1.elim
     |one c=>
      obtain ⟨ρ2,ρ2',q1,q2,q3,q4,q5⟩:=kputs_ok he' hy.2 (hR.push (w:=.c x) (w':=.c c) hy.1) h1 ha
      refine ⟨ρ2,ρ2',q1,by rw [q2];simp;omega,by simp [q3],fun g=>?_,q5⟩
      simp only [bindVs,getOne,hget,Option.bind_some]
      have:=q4 g
      rw [List.length_append] at this
      exact this
    |some m=>
     obtain ⟨n,xs,rfl,h1⟩:=onL_ok (show onL y (fun n xs=>cond (Nat.beq n m) (kputs ss ys (.l n xs::ρ) k) .fail)=a from hk) ha
     obtain ⟨g1,h2⟩:=cond_ok h1 ha
     have:=Nat.eq_of_beq_eq_true g1
     subst this
     cases v with
     |one _=>exact hy.1.elim
     |agg cs=>
      have hcl:cs.length=n:=by have h3:=hy.1.1.len;have h4:=hy.1.2;omega
      obtain ⟨ρ2,ρ2',q1,q2,q3,q4,q5⟩:=kputs_ok he' hy.2 (hR.push (w:=.l n xs) (w':=.l cs) hy.1) h2 ha
      refine ⟨ρ2,ρ2',q1,by rw [q2];simp;omega,by simp [q3],fun g=>?_,q5⟩
      simp only [bindVs,getAgg,hget,if_pos hcl,Option.bind_some]
      have:=q4 g
      rw [List.length_append] at this
      exact this
theorem kboxs_ok {a:Ans} {bs0:List (List C)}:∀{ms:List Nat} {ys:List KW} {bs pre:List (List C)} {ρ:List KW} {ρ':List W} {k:List KW→Ans},bs0=pre++bs→All2 RB ys bs→RE ρ ρ'→kboxs ms ys ρ k=a→a≠.fail→
  ∃ρ2 ρ2',RE ρ2 ρ2'∧ρ2'.length=ρ'.length+ms.length∧bs.length=ms.length∧(∀(g:List W→Option R),bindBs bs0 g ms pre.length ρ'=g ρ2')∧(∀(g:List W→Option R),entryB g ms bs ρ'=g ρ2')∧k ρ2=a
 |[],ys,bs,pre,ρ,ρ',k,he,hy,hR,hk,ha=>by
  cases ys with
  |cons _ _=>exact absurd hk.symm ha
  |nil=>cases bs with
   |cons _ _=>exact hy.elim
   |nil=>exact ⟨ρ,ρ',hR,rfl,rfl,fun g=>rfl,fun g=>rfl,hk⟩
 |m::ms,ys,bs,pre,ρ,ρ',k,he,hy,hR,hk,ha=>by
  cases ys with
  |nil=>exact absurd hk.symm ha
  |cons y ys=>cases bs with
   |nil=>exact hy.elim
   |cons cs bs=>
    have hget:bs0[pre.length]?=some cs:=by rw [he,List.getElem?_append_right (Nat.le_refl _)];simp
    have he':bs0=(pre++[cs])++bs:=by rw [he];simp
    obtain ⟨n,xs,rfl,h1⟩:=onL_ok (show onL y (fun n xs=>cond (Nat.beq n m) (kboxs ms ys (.l n xs::ρ) k) .fail)=a from hk) ha
    obtain ⟨g1,h2⟩:=cond_ok h1 ha
    have:=Nat.eq_of_beq_eq_true g1
    subst this
    have hcl:cs.length=n:=by have h3:=hy.1.1.len;have h4:=hy.1.2;omega
    obtain ⟨ρ2,ρ2',q1,q2,q3,q4,q6,q5⟩:=kboxs_ok he' hy.2 (hR.push (w:=.l n xs) (w':=.l cs) hy.1) h2 ha
    refine ⟨ρ2,ρ2',q1,by rw [q2];simp;omega,by simp [q3],fun g=>?_,fun g=>?_,q5⟩
    ·simp only [bindBs,getBox,hget,if_pos hcl,Option.bind_some]
     have:=q4 g
     rw [List.length_append] at this
     exact this
    ·simp only [entryB,if_pos hcl]
     exact q6 g
theorem kentry_ok {a:Ans}:∀{p:List PS} {ts:List TA} {ys:List KW} {us:List LA} {ρ:List KW} {ρ':List W} {k:List KW→Ans},fits p ts=true→RLs ts ys us→RE ρ ρ'→kputs (pOf p) ys ρ k=a→a≠.fail→
  ∃ρ2 ρ2',RE ρ2 ρ2'∧ρ2'.length=ρ'.length+(pOf p).length∧(∀(g:List W→Option R),entryA g p us ρ'=g ρ2')∧k ρ2=a
 |[],ts,ys,us,ρ,ρ',k,hf,hr,hR,hk,ha=>by
  cases ts with
  |cons t ts=>cases t<;>cases hf
  |nil=>cases ys with
   |cons _ _=>cases us<;>exact hr.elim
   |nil=>cases us with
    |cons _ _=>exact hr.elim
    |nil=>exact ⟨ρ,ρ',hR,rfl,fun g=>rfl,hk⟩
 |q::p,ts,ys,us,ρ,ρ',k,hf,hr,hR,hk,ha=>by
  cases ts with
  |nil=>cases q<;>cases hf
  |cons t ts=>
   cases t with
   |ref b o=>
    cases q with
    |one=>cases hf
    |agg m=>cases hf
    |ref b' o'=>
     simp only [fits,Bool.and_eq_true,beq_iff_eq] at hf
     obtain ⟨⟨rfl,rfl⟩,hf⟩:=hf
     cases us with
     |nil=>cases ys<;>exact hr.elim
     |cons u us=>cases u with
      |v _=>cases ys<;>exact hr.elim
      |ref b2 o2=>
       have hr':b2=b'∧o2=o'∧RLs ts ys us:=by cases ys<;>exact hr
       obtain ⟨rfl,rfl,hr'⟩:=hr'
       obtain ⟨ρ2,ρ2',q1,q2,q3,q4⟩:=kentry_ok hf hr' hR (show kputs (pOf p) ys ρ k=a from hk) ha
       exact ⟨ρ2,ρ2',q1,q2,fun g=>by simp only [entryA];rw [if_pos ⟨trivial,trivial⟩];exact q3 g,q4⟩
    |clo g cs=>
     simp only [fits,Bool.and_eq_true,beq_iff_eq] at hf
     obtain ⟨⟨rfl,rfl⟩,hf⟩:=hf
     cases us with
     |nil=>cases ys<;>exact hr.elim
     |cons u us=>cases u with
      |v _=>cases ys<;>exact hr.elim
      |ref b2 o2=>
       have hr':b2=0∧o2=0∧RLs ts ys us:=by cases ys<;>exact hr
       obtain ⟨rfl,rfl,hr'⟩:=hr'
       obtain ⟨ρ2,ρ2',q1,q2,q3,q4⟩:=kentry_ok hf hr' hR (show kputs (pOf p) ys ρ k=a from hk) ha
       exact ⟨ρ2,ρ2',q1,q2,fun g=>by simp only [entryA];rw [if_pos ⟨trivial,trivial⟩];exact q3 g,q4⟩
   |v x=>
    cases ys with
    |nil=>cases us with
     |nil=>exact hr.elim
     |cons u us=>cases u<;>exact hr.elim
    |cons y ys=>cases us with
     |nil=>exact hr.elim
     |cons u us=>cases u with
      |ref _ _=>exact hr.elim
      |v v=>
       obtain ⟨hv,hr'⟩:=hr
       cases q with
       |ref _ _=>cases hf
       |clo _ _=>cases hf
       |one=>
        obtain ⟨z,rfl,h1⟩:=onC_ok (show onC y (fun x=>kputs (pOf p) ys (.c x::ρ) k)=a from hk) ha
        cases v with
        |agg _=>exact hv.elim
        |one c=>
         obtain ⟨ρ2,ρ2',q1,q2,q3,q4⟩:=kentry_ok (show fits p ts=true from hf) hr' (hR.push (w:=.c z) (w':=.c c) hv) h1 ha
         exact ⟨ρ2,ρ2',q1,by rw [q2];simp [pOf];omega,fun g=>by simp only [entryA];exact q3 g,q4⟩
       |agg m=>
        obtain ⟨n,xs,rfl,h1⟩:=onL_ok (show onL y (fun n xs=>cond (Nat.beq n m) (kputs (pOf p) ys (.l n xs::ρ) k) .fail)=a from hk) ha
        obtain ⟨g1,h2⟩:=cond_ok h1 ha
        have:=Nat.eq_of_beq_eq_true g1
        subst this
        cases v with
        |one _=>exact hv.elim
        |agg cs=>
         have hcl:cs.length=n:=by have h3:=hv.1.len;have h4:=hv.2;omega
         obtain ⟨ρ2,ρ2',q1,q2,q3,q4⟩:=kentry_ok (show fits p ts=true from hf) hr' (hR.push (w:=.l n xs) (w':=.l cs) hv) h2 ha
         exact ⟨ρ2,ρ2',q1,by rw [q2];simp [pOf];omega,fun g=>by simp only [entryA];rw [if_pos hcl];exact q3 g,q4⟩
end Go.Ey
