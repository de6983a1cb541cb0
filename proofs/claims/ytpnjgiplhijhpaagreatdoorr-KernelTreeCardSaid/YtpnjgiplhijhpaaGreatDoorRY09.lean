/- A part. -/
import Derived.Test.YtpnjgiplhijhpaaGreatDoorRY06
set_option linter.all false
namespace Go.Ey
theorem nC.append {xs ys:List K} {cs ds:List C} (h:nC xs cs) (h':nC ys ds):nC (xs++ys) (cs++ds):=by
 induction xs generalizing cs with
 |nil=>cases h;exact h'
 |cons x xs ih=>cases h with|cons h1 h2=>exact .cons h1 (ih h2)
theorem nC.take {xs:List K} {cs:List C} (h:nC xs cs) (n:Nat):nC (xs.take n) (cs.take n):=by
 induction xs generalizing cs n with
 |nil=>cases h;simpa using nC.nil
 |cons x xs ih=>
  cases h with
  |cons h1 h2=>cases n with
   |zero=>exact .nil
   |succ n=>exact .cons h1 (ih h2 n)
theorem nC.drop {xs:List K} {cs:List C} (h:nC xs cs) (n:Nat):nC (xs.drop n) (cs.drop n):=by
 induction xs generalizing cs n with
 |nil=>cases h;simpa using nC.nil
 |cons x xs ih=>
  cases h with
  |cons h1 h2=>cases n with
   |zero=>exact .cons h1 h2
   |succ n=>exact ih h2 n
theorem nC.splice {xs ys:List K} {cs ds:List C} (h:nC xs cs) (h':nC ys ds) (off:Nat):nC (Ey.splice xs off ys) (Ey.splice cs off ds):=by unfold Ey.splice;rw [h'.len];exact ((h.take _).append h').append (h.drop _)
theorem kE.inv {e:Nat} {row:List K} {rev:List (List K)} {cs:List C} (h:kE e (row::rev) cs):∃c0 r,cs=c0++r/\nC row r/\row.length=e/\kE e rev c0:=by
 cases h with
 |cons h1 h2 h3=>exact ⟨_,_,rfl,h1,h2,h3⟩
theorem kE.ME {e:Nat} {cs:List C} (h:kE e [] cs):cs=[]:=by cases h;rfl
theorem kE.len {e:Nat} {rev:List (List K)} {cs:List C} (h:kE e rev cs):cs.length=rev.length * e:=by
 induction rev generalizing cs with
 |nil=>rw [h.ME];simp
 |cons row rev ih=>
  obtain ⟨c0,r,rfl,h1,h2,h3⟩:=h.inv;rw [List.length_append,ih h3,<-h1.len,h2,List.length_cons,Nat.succ_mul]
theorem kE.append {e:Nat} {ys xs:List (List K)} {ds cs:List C} (h:kE e ys ds) (h':kE e xs cs):kE e (ys++xs) (cs++ds):=by
 induction ys generalizing ds with
 |nil=>rw [h.ME,List.append_nil];exact h'
 |cons row ys ih=>
  obtain ⟨c0,r,rfl,h1,h2,h3⟩:=h.inv;rw [<-List.append_assoc];exact .cons h1 h2 (ih h3)
theorem kE.drop {e:Nat} {rev:List (List K)} {cs:List C} (h:kE e rev cs) (k:Nat):kE e (rev.drop k) (cs.take ((rev.length - k) * e)):=by
 induction rev generalizing cs k with
 |nil=>rw [h.ME];simpa using kE.nil
 |cons row rev ih=>
  cases k with
  |zero=>
   rw [Nat.sub_zero,<-h.len,List.take_length];exact h
  |succ k=>
   obtain ⟨c0,r,rfl,h1,h2,h3⟩:=h.inv;have:=ih h3 k
   rw [List.drop_succ_cons,show (row::rev).length - (k+1)=rev.length - k by simp]
   rw [List.take_append_of_le_length]
   ·exact this
   ·rw [h3.len];exact Nat.mul_le_mul_right _ (Nat.sub_le _ _)
theorem kE.take {e:Nat} {rev:List (List K)} {cs:List C} (h:kE e rev cs) {k:Nat} (hk:k<=rev.length):kE e (rev.take k) (cs.drop ((rev.length - k) * e)):=by
 induction rev generalizing cs k with
 |nil=>rw [h.ME];simpa using kE.nil
 |cons row rev ih=>
  cases k with
  |zero=>
   rw [Nat.sub_zero,<-h.len,List.drop_length];exact .nil
  |succ k=>
   obtain ⟨c0,r,rfl,h1,h2,h3⟩:=h.inv;have hk':k<=rev.length:=by simpa using hk
   rw [List.take_succ_cons,show (row::rev).length - (k+1)=rev.length - k by simp]
   rw [List.drop_append_of_le_length (by rw [h3.len];exact Nat.mul_le_mul_right _ (Nat.sub_le _ _))]
   exact .cons h1 h2 (ih h3 hk')
theorem kE.row {e:Nat} {rev:List (List K)} {cs:List C} (h:kE e rev cs) {j:Nat} (hj:j < rev.length) {row:List K} {rest:List (List K)} (hd:rev.drop (rev.length - (j+1))=row::rest):
  nC row ((cs.drop (j * e)).take e)/\row.length=e:=by
 have h1:=h.drop (rev.length - (j+1));rw [hd,show rev.length - (rev.length - (j+1))=j+1 by omega] at h1
 obtain ⟨c0,r,h2,h3,h4,h5⟩:=h1.inv;have hl:rest.length=j:=by
  have:=congrArg List.length hd
  rw [List.length_drop,List.length_cons] at this;omega
 have h6:=h5.len;rw [hl] at h6;refine ⟨?_,h4⟩;have h7:(cs.take ((j+1) * e)).drop (j * e)=r:=by rw [h2,<-h6,List.drop_left]
 rw [List.drop_take] at h7;rw [show (j+1) * e - j * e=e by rw [Nat.succ_mul];omega] at h7
 rw [h7];exact h3
theorem F7 {c0 r vs:List C} {p:Nat} (h:p+vs.length<=c0.length):splice (c0++r) p vs=splice c0 p vs++r:=by
 unfold splice;rw [List.take_append_of_le_length (by omega),List.drop_append_of_le_length h]
 simp [List.append_assoc]
theorem EO {c0 r vs:List C} {off:Nat}:splice (c0++r) (c0.length+off) vs=c0++splice r off vs:=by unfold splice;rw [List.take_length_add_append,Nat.add_assoc,List.drop_length_add_append];simp [List.append_assoc]
theorem IM {α:Type} {l vs:List α} {off:Nat} (h:off+vs.length<=l.length):(splice l off vs).length=l.length:=by unfold splice;simp;omega
theorem kE.set {e:Nat} {ys:List K} {vs:List C} (hv:nC ys vs) {off:Nat} (ho:off+ys.length<=e):∀{rev:List (List K)} {cs:List C} {i:Nat},kE e rev cs->i < rev.length->
  kE e (Gb rev i fun row=>splice row off ys) (splice cs ((rev.length - (i+1)) * e+off) vs)
 |[],_,_,_,hi=>absurd hi (Nat.not_lt_zero _)
 |row::rev,cs,0,h,_=>by
  obtain ⟨c0,r,rfl,h1,h2,h3⟩:=h.inv;show kE e ((splice row off ys)::rev) _
  rw [show (row::rev).length - (0+1)=rev.length by simp,<-h3.len,EO]
  exact .cons (h1.splice hv off) (by rw [IM (by omega),h2]) h3
 |row::rev,cs,i+1,h,hi=>by
  obtain ⟨c0,r,rfl,h1,h2,h3⟩:=h.inv;have hi':i < rev.length:=by simpa using hi
  have ih:=kE.set hv ho h3 hi';show kE e (row::Gb rev i fun row=>splice row off ys) _
  rw [show (row::rev).length - (i+1+1)=rev.length - (i+1) by simp]
  rw [F7]
  ·exact .cons h1 h2 ih
  ·rw [h3.len,<-hv.len];have:(rev.length - (i+1)) * e+e<=rev.length * e:=by rw [<-Nat.succ_mul];exact Nat.mul_le_mul_right _ (by omega)
   omega
theorem CL {g:List K->List K}:∀{rev:List (List K)} {i:Nat},i < rev.length->(Gb rev i g).length=rev.length
 |[],_,hi=>absurd hi (Nat.not_lt_zero _)
 |row::rev,0,_=>rfl
 |row::rev,i+1,hi=>by
  have:=CL (g:=g) (rev:=rev) (i:=i) (by simpa using hi)
  show (row::Gb rev i g).length=_
  simp [this]
theorem Bn (z:List Value):∀n,zeros z n++z.map lG=z.map lG++zeros z n
 |0=>by simp [zeros]
 |n+1=>by simp only [zeros];rw [List.append_assoc,Bn z n]
def Gu (v:Value):K:=match lG v with|.lit v=>Tv v|.slice _ _=> .sl 0 [] 0
theorem Uu (v:Value):RK (Gu v) (lG v):=by
 unfold Gu lG;split
 ·rename_i v' h;rw [h];exact Lh v'
 ·rename_i cs n h;rw [h];split at h<;>first|(injection h with h1 h2;subst h1 h2;exact .sl 0 [] 0 [] .nil rfl)|cases h
theorem KF:∀z:List Value,nC (z.map Gu) (z.map lG)
 |[]=> .nil
 |v::z=> .cons (Uu v) (KF z)
theorem KJ {z:List Value} {e:Nat} (he:z.length=e):∀n,kE e (P7 (z.map Gu) n) (zeros z n)
 |0=> .nil
 |n+1=>by
  show kE e (z.map Gu::P7 (z.map Gu) n) _
  simp only [zeros];rw [<-Bn];exact .cons (KF z) (by simpa using he) (KJ he n)
theorem Gv (z:List K):∀n,(P7 z n).length=n
 |0=>rfl
 |n+1=>by show (z::P7 z n).length=_;simp [Gv z n]
section
variable {a:aB} {ρ:List KW} {ρ':List W}
theorem F6 {e:Nat}:∀{n:Nat} {ys:List K} {cs:List C} {acc:List (List K)} {ds:List C} {k:List (List K)->aB},nC ys cs->ys.length=n * e->kE e acc ds->LM e n ys acc k=a->∃rev,kE e rev (ds++cs)/\rev.length=n+acc.length/\k rev=a
 |0,ys,cs,acc,ds,k,hy,hl,hacc,hk=>by
  have:cs=[]:=by have:=hy.len;rw [hl] at this;simp at this;exact List.eq_nil_of_length_eq_zero this.symm
  subst this;exact ⟨acc,by simpa using hacc,by simp,hk⟩
 |n+1,ys,cs,acc,ds,k,hy,hl,hacc,hk=>by
  have hk':mR (ys.take e) (fun row=>LM e n (ys.drop e) (row::acc) k)=a:=hk
  rw [jE] at hk';rw [Nat.succ_mul] at hl;obtain ⟨rev,h1,h2,h3⟩:=F6 (hy.drop e) (by rw [List.length_drop];omega) (.cons (hy.take e) (by rw [List.length_take];omega) hacc) hk'
  exact ⟨rev,by rw [List.append_assoc,List.take_append_drop] at h1;exact h1,by rw [h2];simp;omega,h3⟩
theorem Ke {aa e n:Nat} {r:List (List K)} {c:C} (h:RK (.sl e r n) c) {x:aB} (hk:IY aa e n x=a) (ha:a≠.fail):∃cs,c=.slice cs n/\kE aa r cs/\r.length=n/\x=a:=by
 obtain ⟨cs,rfl,h1,h2⟩:=h.sli;unfold IY at hk;cases he:Nat.beq e aa with
 |true=>
  rw [he] at hk;have:=Nat.eq_of_beq_eq_true he
  subst this;exact ⟨cs,rfl,h1,h2,hk⟩
 |false=>
  rw [he,cond_false] at hk;obtain ⟨h3,h4⟩:=aP hk ha;have:=Nat.eq_of_beq_eq_true h3
  subst this;have:=List.eq_nil_of_length_eq_zero h2
  subst this;rw [h1.ME];exact ⟨[],rfl,.nil,rfl,h4⟩
theorem fP {m n:Nat} (h:Nat.ble m n=true):m<=n:=by rw [Nat.ble_eq] at h;exact h
theorem nz {n:Nat} (h:Nat.beq n 0=false):0 < n:=by
 cases n with
 |zero=>cases h
 |succ n=>exact Nat.succ_pos n
theorem ZV (h:RE ρ ρ') {aa bytes:Nat} {z:List Value} (hz:z.length=aa) {x y:At} {k:K->aB} (hk:kMk aa bytes (z.map Gu) (cA ρ'.length x) (cA ρ'.length y) ρ k=a) (ha:a≠.fail):uJ a ρ' (.mk aa bytes z x y) k:=by
 obtain ⟨u,v,c,d,h1,h2,h3,h4,h5⟩:=two h hk ha;obtain ⟨p,n,rfl,h6⟩:=jf h5 ha;obtain ⟨m,rfl,h7⟩:=nu h6 ha;obtain ⟨p',n',rfl,h8⟩:=jf h7 ha;obtain ⟨q,rfl,h9⟩:=nu h8 ha;obtain ⟨g1,h9⟩:=aP h9 ha;obtain ⟨g2,h9⟩:=aP h9 ha;obtain ⟨g3,h9⟩:=aP h9 ha;obtain ⟨g4,h9⟩:=nP h9 ha;rw [jE] at h9;rw [h1.int] at h3;rw [h2.int] at h4;have e1:=fP g1;have e2:=fP g2;have e3:=fP g3;have e4:=nz g4;refine ⟨_,.slice (zeros z m) m,.sl aa _ m _ (KJ hz m) (Gv _ m),?_,h9⟩;simp only [bB,h3,h4,Option.bind_some,mkC];rw [if_pos ⟨by omega,by omega,by simpa [Hw,aD] using e2,by simpa [Hw,aD] using e3,hz,e4⟩]
 simp
theorem UO (h:RE ρ ρ') {aa len:Nat} {xs:List At} (hl:xs.length=len * aa) {k:K->aB} (hk:Vs aa len (xs.map (cA ρ'.length)) ρ k=a) (ha:a≠.fail):uJ a ρ' (.lits aa len xs) k:=by
 obtain ⟨ys,cs,h1,h2,h3,h4⟩:=Ep h (show Ya ρ (xs.map (cA ρ'.length)) (fun ys=>cond (Nat.ble len Hw) (cond (Nat.beq aa 0) .fail (LM aa len ys [] fun zs=>k (.sl aa zs len))) .fail)=a from hk) ha
 obtain ⟨g1,h4⟩:=aP h4 ha;obtain ⟨g2,h4⟩:=nP h4 ha;obtain ⟨rev,h5,h6,h7⟩:=F6 h1 (by omega) .nil h4
 refine ⟨_,.slice cs len,.sl aa rev len cs (by simpa using h5) (by simpa using h6),?_,h7⟩
 simp only [bB,h3,Option.bind_some,qg];rw [if_pos ⟨by rw [<-h1.len];omega,show len<=Hw from fP g1,nz g2⟩]
theorem Wj (h:RE ρ ρ') {aa:Nat} {x y:At} {k:List K->aB} (hk:(kA ρ (cA ρ'.length x) fun u=>kA ρ (cA ρ'.length y) fun v=>xe aa u v k)=a) (ha:a≠.fail):
  ∃row r,nC row r/\row.length=aa/\(((aV ρ' x).bind fun u=>(aV ρ' y).bind fun v=>tO aa u v)=some r)/\k row=a:=by
 obtain ⟨u,v,c,d,h1,h2,h3,h4,h5⟩:=two h hk ha;obtain ⟨e,rev,n,rfl,h6⟩:=vz h5 ha;obtain ⟨p,n',rfl,h7⟩:=jf h6 ha;obtain ⟨j,rfl,h8⟩:=nu h7 ha;obtain ⟨g1,h8⟩:=aP (x:=cond (Nat.beq e aa) (List.casesOn (motive:=fun _=>aB) (rev.drop (n - Nat.succ j)) .fail fun row _=>k row) .fail) h8 ha
 obtain ⟨g2,h9⟩:=aP (x:=List.casesOn (motive:=fun _=>aB) (rev.drop (n - Nat.succ j)) .fail fun row _=>k row) h8 ha
 have:=Nat.eq_of_beq_eq_true g2
 subst this;obtain ⟨cs,rfl,r1,r2⟩:=h1.sli;rw [h2.int] at h4;have e1:=fP g1;subst r2;cases hd:rev.drop (rev.length - (j+1)) with
 |nil=>rw [show rev.drop (rev.length - Nat.succ j)=[] from hd] at h9;exact absurd h9.symm ha
 |cons row rest=>
  rw [show rev.drop (rev.length - Nat.succ j)=row::rest from hd] at h9
  obtain ⟨q1,q2⟩:=r1.row (j:=j) (by omega) hd
  refine ⟨row,_,q1,q2,?_,h9⟩;simp only [h3,h4,Option.bind_some,tO];rw [if_pos ⟨by omega,by omega,by rw [r1.len];exact Nat.mul_le_mul_right _ (by simpa using e1)⟩]
  rfl
theorem V6 (h:RE ρ ρ') {aa off:Nat} {x y:At} {vs:List At} {k:K->aB} (hk:Z0 aa (cA ρ'.length x) (cA ρ'.length y) off vs.length (vs.map (cA ρ'.length)) ρ k=a) (ha:a≠.fail):uJ a ρ' (.set aa x y off vs) k:=by
 obtain ⟨u,v,c,d,h1,h2,h3,h4,h5⟩:=two h hk ha;obtain ⟨ys,ds,w1,w2,w3,h5⟩:=Ep h h5 ha;obtain ⟨e,rev,n,rfl,h6⟩:=vz h5 ha;obtain ⟨p,n',rfl,h7⟩:=jf h6 ha;obtain ⟨j,rfl,h8⟩:=nu h7 ha;obtain ⟨g1,h8⟩:=aP h8 ha;obtain ⟨g2,h8⟩:=aP h8 ha;obtain ⟨g3,h8⟩:=aP h8 ha;have:=Nat.eq_of_beq_eq_true g2
 subst this;obtain ⟨cs,rfl,r1,r2⟩:=h1.sli;rw [h2.int] at h4;rw [jE] at h8;have e1:=fP g1;have e3:=fP g3;subst r2;have hi:rev.length - Nat.succ j < rev.length:=by omega
 have key:=kE.set w1 (off:=off) (by omega) r1 hi
 rw [show rev.length - (rev.length - Nat.succ j+1)=j by omega] at key
 refine ⟨_,_,.sl _ _ _ _ key (CL hi),?_,h8⟩;simp only [bB,h3,h4,w3,Option.bind_some,Yk];rw [if_pos ⟨by omega,by omega,by rw [<-w1.len];omega,r1.len⟩]
 simp
theorem OG (h:RE ρ ρ') {o:Option At} {k:Nat->aB} (hk:YN ρ (o.map (cA ρ'.length)) 0 k=a) (ha:a≠.fail):∃q n,BJ ρ' o=some q/\VA q=some n/\k n=a:=by
 cases o with
 |none=>exact ⟨none,0,rfl,rfl,hk⟩
 |some x=>
  obtain ⟨u,c,h1,h2,h3⟩:=lq h (show kA ρ (cA ρ'.length x) (fun x=>yR x fun _ n=>wF n k)=a from hk) ha
  obtain ⟨p,n,rfl,h4⟩:=jf h3 ha;obtain ⟨m,rfl,h5⟩:=nu h4 ha;rw [h1.int] at h2;exact ⟨some (.lit (.int p m)),m,by simp [BJ,h2],by simp [VA],h5⟩
theorem RF (h:RE ρ ρ') {o:Option At} {len:Nat} {k:Nat->aB} (hk:YN ρ (o.map (cA ρ'.length)) len k=a) (ha:a≠.fail):∃q n,BJ ρ' o=some q/\RV len q=some n/\k n=a:=by
 cases o with
 |none=>exact ⟨none,len,rfl,rfl,hk⟩
 |some x=>
  obtain ⟨u,c,h1,h2,h3⟩:=lq h (show kA ρ (cA ρ'.length x) (fun x=>yR x fun _ n=>wF n k)=a from hk) ha
  obtain ⟨p,n,rfl,h4⟩:=jf h3 ha;obtain ⟨m,rfl,h5⟩:=nu h4 ha;rw [h1.int] at h2;exact ⟨some (.lit (.int p m)),m,by simp [BJ,h2],by simp [RV],h5⟩
theorem OA (h:RE ρ ρ') {aa:Nat} {x:At} {lo hi:Option At} {k:K->aB} (hk:WH aa (cA ρ'.length x) (lo.map (cA ρ'.length)) (hi.map (cA ρ'.length)) ρ k=a) (ha:a≠.fail):uJ a ρ' (.sub aa x lo hi) k:=by
 obtain ⟨u,c,h1,h2,h3⟩:=lq h hk ha;obtain ⟨e,rev,n,rfl,h4⟩:=vz h3 ha;obtain ⟨cs,rfl,r1,r2,h5⟩:=Ke h1 h4 ha;obtain ⟨ql,l,l1,l2,h5⟩:=OG h h5 ha;obtain ⟨qh,r,l3,l4,h5⟩:=RF h h5 ha;obtain ⟨g1,h5⟩:=aP h5 ha;rw [dX,jE] at h5;rw [Bool.and_eq_true] at g1;have e1:=fP g1.1;have e2:=fP g1.2;subst r2;have q1:=r1.drop (rev.length - r);rw [show rev.length - (rev.length - r)=r by omega] at q1
 have hlen:(rev.drop (rev.length - r)).length=r:=by rw [List.length_drop];omega
 have q2:=q1.take (k:=r - l) (by omega)
 rw [hlen,show r - (r - l)=l by omega,List.drop_take,<-Nat.sub_mul] at q2
 refine ⟨_,_,.sl aa _ (r - l) _ q2 (by rw [List.length_take,hlen];omega),?_,h5⟩
 simp only [bB,h2,l1,l3,Option.bind_some,yz,l2,l4];rw [if_pos ⟨e1,e2⟩]
end
end Go.Ey
namespace Go.Ey
theorem Me (l:Nat):2 ^ (8 * l)=256 ^ l:=by rw [Nat.pow_mul]
theorem QC (w l:Nat):Nat.shiftLeft w (8 * l)=w * 256 ^ l:=by rw [<-Me];exact Nat.shiftLeft_eq w (8 * l)
theorem IA (w l:Nat):Nat.shiftRight w (8 * l)=w / 256 ^ l:=by rw [<-Me];exact Nat.shiftRight_eq_div_pow w (8 * l)
theorem vN:∀(l m v w:Nat),v < 256 ^ l->strOf (l+m) (v+w * 256 ^ l)=strOf l v++strOf m w
 |0,m,v,w,h=>by
  have:v=0:=by simpa using h
  subst this;simp [strOf]
 |l+1,m,v,w,h=>by
  rw [Nat.pow_succ] at h;have e1:w * 256 ^ (l+1)=256 * (w * 256 ^ l):=by rw [Nat.pow_succ];simp only [Nat.mul_comm,Nat.mul_left_comm]
  rw [show l+1+m=(l+m)+1 by omega,e1]
  simp only [strOf];rw [show (v+256 * (w * 256 ^ l)) % 256=v % 256 by omega,show (v+256 * (w * 256 ^ l)) / 256=v / 256+w * 256 ^ l by omega,vN l m (v / 256) w (by omega)]
  rfl
theorem ML {l m v w:Nat} (hv:v < 256 ^ l) (hw:w < 256 ^ m):v+w * 256 ^ l < 256 ^ (l+m):=by have h1:(w+1) * 256 ^ l<=256 ^ m * 256 ^ l:=Nat.mul_le_mul_right _ hw;rw [Nat.succ_mul] at h1;rw [Nat.add_comm l m,Nat.pow_add];omega
theorem zJ:∀(l n w:Nat),(strOf n w).drop l=strOf (n - l) (w / 256 ^ l)
 |0,n,w=>by simp
 |l+1,0,w=>by simp [strOf]
 |l+1,n+1,w=>by simp only [strOf,List.drop_succ_cons];rw [zJ l n (w / 256),Nat.div_div_eq_div_mul,show n+1 - (l+1)=n - l by omega,Nat.pow_succ,Nat.mul_comm]
theorem Ba:∀(m n w:Nat),m<=n->(strOf n w).take m=strOf m (w % 256 ^ m)
 |0,n,w,_=>by simp [strOf]
 |m+1,0,w,h=>by omega
 |m+1,n+1,w,h=>by
  simp only [strOf,List.take_succ_cons];rw [Ba m n (w / 256) (by omega)]
  have e1:w % 256 ^ (m+1) % 256=w % 256:=Nat.mod_mod_of_dvd _ ⟨256 ^ m,by rw [Nat.pow_succ,Nat.mul_comm]⟩
  have e2:w % 256 ^ (m+1) / 256=w / 256 % 256 ^ m:=by rw [Nat.pow_succ,Nat.mul_comm,Nat.mod_mul_right_div_self]
  rw [e1,e2]
theorem Db:∀(n w j:Nat),j < n->(strOf n w)[j]?=some (UInt8.ofNat (w / 256 ^ j % 256))
 |0,_,_,h=>by omega
 |n+1,w,0,_=>by simp [strOf]
 |n+1,w,j+1,h=>by simp only [strOf,List.getElem?_cons_succ];rw [Db n (w / 256) j (by omega),Nat.div_div_eq_div_mul,Nat.pow_succ,Nat.mul_comm (256 ^ j)]
section
variable {a:aB} {ρ:List KW} {ρ':List W}
theorem oM {b:ByteArray} {l w:Nat} (h:b.data.toList=strOf l w):b.size=l:=by
 have:=congrArg List.length h
 rw [kP] at this;exact this
theorem XQ (h:RE ρ ρ') {x y:At} {k:K->aB} (hk:YZ (cA ρ'.length x) (cA ρ'.length y) ρ k=a) (ha:a≠.fail):uJ a ρ' (.bin .add false x y) k:=by
 obtain ⟨u,v,c,d,h1,h2,h3,h4,h5⟩:=two h hk ha;cases u with
 |i p n=>
  obtain ⟨p',n',m,e,rfl,h6⟩:=oJ (show nH (.i p n) v (fun k' n m=>Ua k' (n+m) k)=a from h5) ha
  injection e with e1 e2;subst e1 e2;rw [h1.int] at h3;rw [h2.int] at h4;rw [wQ] at h6;exact ⟨_,.lit (.int p (p.wrap (n+m))),.i _ _,by simp [bB,h3,h4,eG,iL,dn,eT],h6⟩
 |s l w=>
  obtain ⟨m,z,rfl,h6⟩:=Ay (show Lb v (fun m z=>eU (l+m) fun lm=>cond (Nat.ble lm Hw) (eU (w+Nat.shiftLeft z (8 * l)) fun u=>k (.s lm u)) .fail)=a from h5) ha
  rw [dX] at h6;obtain ⟨g1,h7⟩:=aP h6 ha;rw [dX,QC] at h7;obtain ⟨b,rfl,hb,hw⟩:=h1.str;obtain ⟨b',rfl,hb',hw'⟩:=h2.str;refine ⟨_,.lit (.string (b++b')),.s _ _ _ ?_ (ML hw hw'),?_,h7⟩
  ·rw [vN _ _ _ _ hw,<-hb,<-hb'];simp [ByteArray.toList_data_append]
  ·simp only [bB,h3,h4,Option.bind_some,eG,iL,kU,Bool.false_eq_true,if_false];rw [if_pos (by rw [oM hb,oM hb'];exact fP g1)]
   rfl
 |b _=>exact absurd h5.symm ha
 |sl _ _ _=>exact absurd h5.symm ha
 |o _=>exact absurd h5.symm ha
theorem DY (b:ByteArray) (l r:Nat):(b.extract l r).data.toList=(b.data.toList.drop l).take (r - l):=by simp [ByteArray.data_extract]
theorem UF (h:RE ρ ρ') {x:At} {lo hi:Option At} {k:K->aB} (hk:Vj (cA ρ'.length x) (lo.map (cA ρ'.length)) (hi.map (cA ρ'.length)) ρ k=a) (ha:a≠.fail):uJ a ρ' (.GU x lo hi) k:=by
 obtain ⟨u,c,h1,h2,h3⟩:=lq h hk ha;obtain ⟨n,w,rfl,h4⟩:=Ay h3 ha;obtain ⟨b,rfl,hb,hw⟩:=h1.str;obtain ⟨ql,l,l1,l2,h5⟩:=OG h h4 ha;obtain ⟨qh,r,l3,l4,h6⟩:=RF h h5 ha;obtain ⟨g1,h7⟩:=aP h6 ha;rw [dX,dX,IA,QC,Nat.one_mul] at h7;rw [Bool.and_eq_true] at g1;have e1:=fP g1.1;have e2:=fP g1.2;refine ⟨_,.lit (.string (b.extract l r)),.s _ _ _ ?_ (Nat.mod_lt _ (Nat.pow_pos (by omega))),?_,h7⟩
 ·rw [DY,hb,zJ,Ba _ _ _ (by omega)]
 ·simp only [bB,h2,l1,l3,Option.bind_some,Qj,l2,oM hb,l4];rw [if_pos ⟨e1,e2⟩]
theorem Ug (h:RE ρ ρ') {x y:At} {k:K->aB} (hk:VE (cA ρ'.length x) (cA ρ'.length y) ρ k=a) (ha:a≠.fail):uJ a ρ' (.nM x y) k:=by
 obtain ⟨u,v,c,d,h1,h2,h3,h4,h5⟩:=two h hk ha;obtain ⟨n,w,rfl,h6⟩:=Ay h5 ha;obtain ⟨p,m,rfl,h7⟩:=jf h6 ha;obtain ⟨j,rfl,h8⟩:=nu h7 ha;obtain ⟨g1,h9⟩:=aP h8 ha;rw [dX,IA] at h9;obtain ⟨b,rfl,hb,hw⟩:=h1.str;rw [h2.int] at h4;have e1:j < n:=fP g1;refine ⟨_,.lit (.int .u8 ((w / 256 ^ j % 256:Nat):Int)),.i _ _,?_,h9⟩;have hg:=Db n w j e1;rw [<-hb,Array.getElem?_toList] at hg;simp only [bB,h3,h4,Option.bind_some,Ow];rw [if_pos (by omega),show ((j:Int)).toNat=j from rfl,hg]
 simp
theorem qG:∀{cs ds:List C} {xs ys:List UInt8},bytesOf cs=some xs->bytesOf ds=some ys->bytesOf (cs++ds)=some (xs++ys)
 |[],ds,xs,ys,h1,h2=>by simp only [bytesOf,Option.some.injEq] at h1;subst h1;exact h2
 |c::cs,ds,xs,ys,h1,h2=>by
  unfold bytesOf at h1;split at h1
  ·rename_i h;cases h
  ·rename_i n r heq;injection heq with e1 e2;subst e1 e2;simp only [Option.bind_eq_bind,Option.bind_eq_some_iff,Option.some.injEq] at h1;obtain ⟨bs,h3,rfl⟩:=h1;simp only [List.cons_append,bytesOf,qG h3 h2,Option.bind_eq_bind,Option.bind_some]
  ·cases h1
theorem FK:∀{rev:List (List K)} {cs:List C} {Vx:List UInt8} {k:Nat->aB},kE 1 rev cs->QF rev (iG Vx) k=a->a≠.fail->∃bs,bytesOf cs=some bs/\bs.length=rev.length/\k (iG (bs++Vx))=a
 |[],cs,Vx,k,hr,hk,ha=>by rw [hr.ME];exact ⟨[],rfl,rfl,hk⟩
 |row::rev,cs,Vx,k,hr,hk,ha=>by
  obtain ⟨c0,r,rfl,h1,h2,h3⟩:=hr.inv;cases row with
  |nil=>simp at h2
  |cons x row=>
   have:row=[]:=by simpa using h2
   subst this;obtain ⟨p,n,rfl,h4⟩:=jf (show yR x (fun p n=>cond (Nat.beq (kk p) 4) (wF n fun b=>cond (Nat.ble b 255) (eU (b+256 * iG Vx) fun v=>QF rev v k) .fail) .fail)=a from hk) ha
   obtain ⟨g1,h5⟩:=aP h4 ha;obtain ⟨b,rfl,h6⟩:=nu h5 ha;obtain ⟨g2,h7⟩:=aP h6 ha;rw [dX] at h7;have hp:p=.u8:=OH (q:=.u8) g1;subst hp;have hb:=fP g2;have e1:b+256 * iG Vx=iG (UInt8.ofNat b::Vx):=by
    have:(UInt8.ofNat b).toNat=b:=by simp;omega
    simp [iG,this]
   rw [e1] at h7;obtain ⟨bs,h8,h9,h10⟩:=FK h3 h7 ha;cases h1 with
   |cons h11 h12=>
    cases h12;rw [h11.int];refine ⟨bs++[UInt8.ofNat b],qG h8 (by simp [bytesOf]),by simp [h9],?_⟩
    rw [List.append_assoc];exact h10
theorem Qz (h:RE ρ ρ') {x:At} {k:K->aB} (hk:QG (cA ρ'.length x) ρ k=a) (ha:a≠.fail):uJ a ρ' (.toStr x) k:=by
 obtain ⟨u,c,h1,h2,h3⟩:=lq h hk ha;obtain ⟨e,rev,n,rfl,h4⟩:=vz h3 ha;obtain ⟨cs,rfl,r1,r2,h5⟩:=Ke h1 h4 ha;obtain ⟨bs,h6,h7,h8⟩:=FK (Vx:=[]) r1 h5 ha;rw [List.append_nil] at h8;refine ⟨_,.lit (.string ⟨bs.toArray⟩),.s n (iG bs) _ ?_ ?_,?_,h8⟩
 ·show bs.toArray.toList=_
  rw [<-r2,<-h7,sF]
 ·rw [<-r2,<-h7];exact DI bs
 ·simp only [bB,h2,Option.bind_some,D7,h6];rw [if_pos (by rw [r1.len,r2];omega)]
theorem Hl:∀{l w:Nat} {acc:List (List K)} {cs:List C},kE 1 acc cs->kE 1 (CO l w acc) (cs++(strOf l w).map fun b=>C.lit (.int .u8 b.toNat))/\(CO l w acc).length=l+acc.length
 |0,w,acc,cs,h=>⟨by show kE 1 acc _;simpa [strOf] using h,by show acc.length=_;omega⟩
 |l+1,w,acc,cs,h=>by
  have e0:Nat.shiftRight w 8=w / 256:=by have:=IA w 1;simpa using this
  have e1:(K.i .u8 (.ofNat (Nat.mod w 256)))=K.i .u8 ((UInt8.ofNat (w % 256)).toNat:Nat):=by
   have:(UInt8.ofNat (w % 256)).toNat=w % 256:=by simp
   rw [this];rfl
  have h2:kE 1 ([.i .u8 (.ofNat (Nat.mod w 256))]::acc) (cs++[.lit (.int .u8 ((UInt8.ofNat (w % 256)).toNat:Nat))]):=by rw [e1];exact .cons (.cons (.i _ _) .nil) rfl h
  obtain ⟨h3,h4⟩:=Hl (l:=l) (w:=w / 256) h2;have hd:CO (l+1) w acc=CO l (w / 256) ([.i .u8 (.ofNat (Nat.mod w 256))]::acc):=by rw [<-e0];rfl
  rw [hd];refine ⟨?_,by rw [h4];simp;omega⟩
  simp only [strOf,List.map_cons];rw [List.append_assoc] at h3;exact h3
theorem Ws (h:RE ρ ρ') {aa bytes:Nat} {x y:At} {k:K->aB} (hk:abr aa bytes (cA ρ'.length x) (cA ρ'.length y) ρ k=a) (ha:a≠.fail):uJ a ρ' (.app aa bytes x y) k:=by
 obtain ⟨u,v,c,d,h1,h2,h3,h4,h5⟩:=two h hk ha;obtain ⟨e,rev,n,rfl,h6⟩:=vz h5 ha;obtain ⟨cs,rfl,r1,r2,h7⟩:=Ke h1 h6 ha;cases v with
 |s l w=>
  obtain ⟨g1,h8⟩:=aP (show (cond (Nat.beq aa 1) (mR (CO l w rev) fun zs=>eU (n+l) fun m=>cond (Nat.ble (m * bytes) Hw) (cond (Nat.ble m Hw) (k (.sl aa zs m)) .fail) .fail) .fail)=a from h7) ha
  rw [jE,dX] at h8;obtain ⟨g2,h9⟩:=aP h8 ha;obtain ⟨g3,h10⟩:=aP h9 ha;have:=Nat.eq_of_beq_eq_true g1
  subst this;obtain ⟨b,rfl,hb,hw⟩:=h2.str;obtain ⟨q1,q2⟩:=Hl (l:=l) (w:=w) r1;rw [<-hb] at q1;refine ⟨_,_,.sl 1 _ (n+l) _ q1 (by rw [q2,r2];omega),?_,h10⟩
  have hl:b.data.toList.length=l:=by rw [hb,kP]
  have hl2:b.data.size=l:=by rw [<-Array.length_toList];exact hl
  simp only [bB,h3,h4,Option.bind_some,BK,Bq];rw [if_pos trivial,Option.bind_some,if_pos ⟨by simp [oM hb,hl2],by rw [r1.len,r2],by rw [oM hb];exact fP g2,by omega,by rw [oM hb];exact fP g3⟩]
  rw [oM hb]
 |sl e' ys m=>
  obtain ⟨ds,rfl,t1,t2,h8⟩:=Ke h2 (show IY aa e' m (cond (Nat.beq aa 0) .fail (mR (ys++rev) fun zs=>eU (n+m) fun q=>cond (Nat.ble (q * bytes) Hw) (cond (Nat.ble q Hw) (k (.sl aa zs q)) .fail) .fail))=a from h7) ha
  obtain ⟨g1,h9⟩:=nP h8 ha;rw [jE,dX] at h9;obtain ⟨g2,h10⟩:=aP h9 ha;obtain ⟨g3,h11⟩:=aP h10 ha;refine ⟨_,_,.sl aa _ (n+m) _ (t1.append r1) (by simp [r2,t2];omega),?_,h11⟩
  simp only [bB,h3,h4,Option.bind_some,BK,Bq];rw [if_pos (by rw [t1.len,t2]),Option.bind_some,if_pos ⟨by rw [t1.len,t2],by rw [r1.len,r2],fP g2,nz g1,fP g3⟩]
 |i _ _=>exact absurd h7.symm ha
 |b _=>exact absurd h7.symm ha
 |o _=>exact absurd h7.symm ha
end
end Go.Ey
namespace Go.Ey
def PD:At->At->Bool
 |.v i,.v j=>i==j
 |.n i j,.n i' j'=>i==i' && j==j'
 |_,_=>false
theorem OY {x y:At} (h:PD x y=true):x=y:=by cases x<;>cases y<;>simp_all [PD]
def acC (n:Nat) (op:BinOp) (x y:At):KO:=
 match op with
 |.add=> .add (cA n x) (cA n y)
 |.sub=> .sub (cA n x) (cA n y)
 |.mul=> .mul (cA n x) (cA n y)
 |.quo=> .quo (cA n x) (cA n y)
 |.rem=> .rem (cA n x) (cA n y)
 |.eql=> .eql (cA n x) (cA n y)
 |.neq=> .neq (cA n x) (cA n y)
 |.lss=> .lss (cA n x) (cA n y)
 |.leq=> .leq (cA n x) (cA n y)
 |.gtr=> .gtr (cA n x) (cA n y)
 |.geq=> .geq (cA n x) (cA n y)
 |.shr=> .shz (cA n x) (cA n y)
 |.and=> .anz (cA n x) (cA n y)
 |_=> .no
def ZW (n:Nat) (op:BinOp) (x y:At):KO:=
 match op with
 |.eql=> .eqs [2] false (cS n (.lit [x])) (cS n (.lit [y]))
 |.neq=> .eqs [2] true (cS n (.lit [x])) (cS n (.lit [y]))
 |_=> .no
def cO (n:Nat):OpC->KO
 |.bin op oC x y=>if oC then ZW n op x y else acC n op x y
 |.un op x=>(match op with|.not=> .not (cA n x)|.neg=> .neg (cA n x)|_=> .no)
 |.conv k x=> .conv k (cA n x)
 |.eqs ks neg s t=> .eqs ks neg (cS n s) (cS n t)
 |.len b x=> .len b (cA n x)
 |.app aa bytes s t=> .app aa bytes (cA n s) (cA n t)
 |.set aa s i off vs=> .set aa (cA n s) (cA n i) off vs.length (vs.map (cA n))
 |.sub aa s lo hi=> .slc aa (cA n s) (lo.map (cA n)) (hi.map (cA n))
 |.clip aa s lo hi mx=>if PD hi mx then .slc aa (cA n s) (lo.map (cA n)) ((some hi).map (cA n)) else .no
 |.GU s lo hi=> .GU (cA n s) (lo.map (cA n)) (hi.map (cA n))
 |.nM s i=> .nM (cA n s) (cA n i)
 |.toStr s=> .toStr (cA n s)
 |.mk aa bytes z l c=>if z.length=aa then .mk aa bytes (z.map Gu) (cA n l) (cA n c) else .no
 |.EZ _ _ _=> .no
 |.cnt _ _ _=> .no
 |.mm b x y=>if b then .mx (cA n x) (cA n y) else .mn (cA n x) (cA n y)
 |.lits aa len xs=>if xs.length=len * aa then .lits aa len (xs.map (cA n)) else .no
section
variable {a:aB} {ρ:List KW} {ρ':List W}
theorem yt {α:Prop} {k:K->aB} (hk:kop .no ρ k=a) (ha:a≠.fail):α:=absurd (show aB.fail=a from hk).symm ha
theorem Mi {x y:At} {neg:Bool} {c:C} (h:bB ρ' (.eqs [2] neg (.lit [x]) (.lit [y]))=some c):bB ρ' (.bin (if neg then .neq else .eql) true x y)=some c:=by
 simp only [bB,Dn,iM,Option.bind_eq_some_iff,Option.some.injEq,Nb] at h;obtain ⟨xs,⟨u,h1,_,rfl,rfl⟩,ys,⟨v,h2,_,rfl,rfl⟩,q,h3,rfl⟩:=h;simp only [yw,Option.bind_eq_some_iff,Option.some.injEq] at h3;obtain ⟨p,h4,_,rfl,rfl⟩:=h3;unfold Mv at h4;split at h4
 ·rename_i e;cases e
 ·rename_i e;cases e
 ·rename_i s t _;simp only [Option.some.injEq] at h4;subst h4;cases neg<;>simp [bB,h1,h2,eG,uu]
 ·cases h4
theorem Sc (h:RE ρ ρ') {aa:Nat} {x hi:At} {lo:Option At} {k:K->aB} (hk:WH aa (cA ρ'.length x) (lo.map (cA ρ'.length)) ((some hi).map (cA ρ'.length)) ρ k=a) (ha:a≠.fail):uJ a ρ' (.clip aa x lo hi hi) k:=by
 obtain ⟨y,c,h1,h2,h3⟩:=OA h hk ha;refine ⟨y,c,h1,?_,h3⟩;simp only [bB,Option.bind_eq_some_iff] at h2;obtain ⟨u,h4,l,h5,q,h6',h7⟩:=h2;simp only [BJ,Option.bind_eq_some_iff,Option.some.injEq] at h6';obtain ⟨v,h6,rfl⟩:=h6';simp only [bB,h4,h6,Option.bind_some];rw [h5,Option.bind_some];unfold yz at h7;split at h7
 ·rename_i cs n;simp only [Option.bind_eq_some_iff] at h7;obtain ⟨l',h8,r,h9,h10⟩:=h7;unfold RV at h9;split at h9
  ·rename_i e;cases e
  ·rename_i p n' e;injection e with e;subst e;simp only [QU,if_true,yz,h8,RV,h9,Option.bind_some];exact h10
  ·cases h9
 ·cases h7
theorem XT (h:RE ρ ρ') {o:OpC} {k:K->aB} (hk:kop (cO ρ'.length o) ρ k=a) (ha:a≠.fail):uJ a ρ' o k:=by
 cases o with
 |bin op oC x y=>
  cases oC with
  |true=>
   simp only [cO,if_true] at hk;cases op with
   |eql=>
    obtain ⟨z,c,h1,h2,h3⟩:=IQ (ks:=[2]) (neg:=false) (s:=.lit [x]) (t:=.lit [y]) h hk ha;exact ⟨z,c,h1,Mi h2,h3⟩
   |neq=>
    obtain ⟨z,c,h1,h2,h3⟩:=IQ (ks:=[2]) (neg:=true) (s:=.lit [x]) (t:=.lit [y]) h hk ha;exact ⟨z,c,h1,Mi h2,h3⟩
   |_=>exact yt hk ha
  |false=>
   simp only [cO,Bool.false_eq_true,if_false] at hk;cases op with
   |add=>exact XQ h hk ha
   |sub=>exact Wo h hk ha
   |mul=>exact WS h hk ha
   |quo=>exact Wz h hk ha
   |rem=>exact V5 h hk ha
   |eql=>exact Xx h hk ha
   |neq=>exact Yz h hk ha
   |lss=>exact Xw h hk ha
   |leq=>exact Yp h hk ha
   |gtr=>exact XB h hk ha
   |geq=>exact Yf h hk ha
   |shr=>
    obtain ⟨u,v,c,d,h1,h2,h3,h4,h5⟩:=two h (show kA ρ (cA ρ'.length x) (fun u=>kA ρ (cA ρ'.length y) fun v=>yR u fun p n=>yR v fun _ m=>wF m fun j=>cond (zz n 0) (k (.i p (.ofNat 0))) (wF n fun i=>cond (Nat.ble j 8) (eU (Nat.div i (Nat.pow 2 j)) fun q=>k (.i p (.ofNat q))) .fail))=a from hk) ha
    obtain ⟨p,n,rfl,h6⟩:=jf h5 ha;obtain ⟨q,m,rfl,h7⟩:=jf h6 ha;obtain ⟨j,rfl,h8⟩:=nu h7 ha;rw [h1.int] at h3;rw [h2.int] at h4;cases hz:zz n 0 with
    |true=>
     rw [hz] at h8;have h9:k (.i p (.ofNat 0))=a:=h8;rw [jV] at hz;have g2:n=0:=by simpa using hz
     subst g2;refine ⟨.i p (.ofNat 0),_,.i _ _,?_,h9⟩;simp [bB,h3,h4,eG,iL,dn,nU,show ¬((j:Int) < 0) by omega]
    |false=>
     rw [hz] at h8;obtain ⟨i,rfl,h9⟩:=nu (show wF n (fun i=>cond (Nat.ble j 8) (eU (Nat.div i (Nat.pow 2 j)) fun q=>k (.i p (.ofNat q))) .fail)=a from h8) ha
     obtain ⟨g1,h10⟩:=aP h9 ha;rw [dX] at h10;have hj:j<=8:=Nat.le_of_ble_eq_true g1;have hb:min j p.bits=j:=by
      have:8<=p.bits:=by cases p<;>decide
      omega
     refine ⟨.i p (.ofNat (Nat.div i (Nat.pow 2 j))),_,.i _ _,?_,h10⟩;have he:((i:Int).fdiv (2 ^ j))=((i / 2 ^ j:Nat):Int):=by
      rw [Int.fdiv_eq_ediv_of_nonneg _ (by exact_mod_cast Nat.zero_le (2 ^ j))]
      simp
     simp [bB,h3,h4,eG,iL,dn,nU,show ¬((j:Int) < 0) by omega,hb,he]
     rfl
   |and=>
    obtain ⟨u,v,c,d,h1,h2,h3,h4,h5⟩:=two h (show kA ρ (cA ρ'.length x) (fun u=>kA ρ (cA ρ'.length y) fun v=>nH u v fun p n _=>cond (zz n 0) (k (.i p (.ofNat 0))) .fail)=a from hk) ha
    obtain ⟨p,n,m,rfl,rfl,h6⟩:=oJ h5 ha;obtain ⟨g1,h9⟩:=aP h6 ha;rw [jV] at g1;have g2:n=0:=by simpa using g1
    subst g2;rw [h1.int] at h3;rw [h2.int] at h4;refine ⟨.i p (.ofNat 0),_,.i _ _,?_,h9⟩;have hw:p.wrap 0=0:=by cases p<;>rfl
    simp [bB,h3,h4,eG,iL,dn,eT,hw]
   |_=>exact yt hk ha
 |un op x=>
  cases op with
  |not=>exact Wu h hk ha
  |neg=>exact Xv h hk ha
  |_=>exact yt hk ha
 |conv k' x=>exact SN h hk ha
 |eqs ks neg s t=>exact IQ h hk ha
 |len b x=>exact XU h hk ha
 |app aa bytes s t=>exact Ws h hk ha
 |set aa s i off vs=>exact V6 h hk ha
 |sub aa s lo hi=>exact OA h hk ha
 |clip aa s lo hi mx=>
  simp only [cO] at hk;split at hk
  ·rename_i hs;have:=OY hs
   subst this;exact Sc h hk ha
  ·exact yt hk ha
 |GU s lo hi=>exact UF h hk ha
 |nM s i=>exact Ug h hk ha
 |toStr s=>exact Qz h hk ha
 |mk aa bytes z l c=>
  simp only [cO] at hk;split at hk
  ·rename_i hz;exact ZV h hz hk ha
  ·exact yt hk ha
 |EZ aa d s=>exact yt hk ha
 |cnt aa d s=>exact yt hk ha
 |mm b x y=>
  cases b with
  |true=>exact Zy h hk ha
  |false=>exact ZA h hk ha
 |lits aa len xs=>
  simp only [cO] at hk;split at hk
  ·rename_i hl;exact UO h hl hk ha
  ·exact yt hk ha
end
def fits:List PS->List TA->Bool
 |[],[]=>true
 |.one::ps,.v _::ax=>fits ps ax
 |.agg _::ps,.v _::ax=>fits ps ax
 |.ref b o::ps,.ref b' o'::ax=>b==b' && o==o' && fits ps ax
 |.bJ _ _::ps,.ref b' o'::ax=>b'==0 && o'==0 && fits ps ax
 |_,_=>false
def E8:List PS->List (Option Nat)
 |[]=>[]
 |.one::ps=>none::E8 ps
 |.agg m::ps=>some m::E8 ps
 |.ref _ _::ps=>E8 ps
 |.bJ _ _::ps=>E8 ps
def cT (sig:Nat->Option (List PS)):Nat->Tree->gL
 |n,.aY o t=> .aY (cO n o) (cT sig (n+1) t)
 |n,.row aa s i t=> .row aa (cA n s) (cA n i) (cT sig (n+1) t)
 |n,.ite x t e=> .ite (cA n x) (cT sig n t) (cT sig n e)
 |n,.call f args bs rs bl t=>(match sig f with
  |some p=>if fits p args then .call f (Ye n args) (bs.map (cS n)) rs bl (cT sig (n+rs.length+bl.length) t) else .fail
  |none=> .fail)
 |n,.goto h args=> .goto h args.length (args.map (YF n))
 |n,.ret rs bs=> .ret (rs.map (cV n)) (bs.map (cS n))
 |_,.fail=> .fail
def YQ (S:List KW->Option R->Prop):aB->Option R->Prop
 |.fail,_=>True
 |.ret vs bs,o=>∃r,o=some r/\aj EW vs r.1/\aj RB bs r.2
 |.stop ws,o=>S ws o
def H7 (sig:Nat->Option (List PS)) (ig:Va) (call:uL):Prop:=∀f p ts ys us zs css vs bs,sig f=some p->fits p ts=true->NK ts ys us->aj RB zs css->ig f ys zs=.ret vs bs->
 ∃r,call f us css=some r/\aj EW vs r.1/\aj RB bs r.2
def KN (S:List KW->Option R->Prop) (mg:UI) (head:wu):Prop:=∀h ws ws',RE ws ws'->YQ S (mg h ws'.length ws) (head h ws')
theorem zM {a:aB} {w:KW} {k:K->aB} (h:JX w k=a) (ha:a≠.fail):∃x,w=.c x/\k x=a:=by
 cases w with
 |c x=>exact ⟨x,rfl,h⟩
 |l _ _=>exact absurd h.symm ha
theorem JZ {a:aB} {w:KW} {k:Nat->List K->aB} (h:Rx w k=a) (ha:a≠.fail):∃n xs,w=.l n xs/\k n xs=a:=by
 cases w with
 |c x=>exact absurd h.symm ha
 |l n xs=>exact ⟨n,xs,rfl,h⟩
theorem zu {a:aB} {vs0:List V}:∀{ss:List (Option Nat)} {ys:List KW} {vs pre:List V} {ρ:List KW} {ρ':List W} {k:List KW->aB},vs0=pre++vs->aj EW ys vs->RE ρ ρ'->jv ss ys ρ k=a->a≠.fail->
  ∃uV je,RE uV je/\je.length=ρ'.length+ss.length/\vs.length=ss.length/\(∀(g:List W->Option R),cZ vs0 g ss pre.length ρ'=g je)/\k uV=a
 |[],ys,vs,pre,ρ,ρ',k,he,hy,hR,hk,ha=>by
  cases ys with
  |cons _ _=>exact absurd hk.symm ha
  |nil=>cases vs with
   |cons _ _=>exact hy.elim
   |nil=>exact ⟨ρ,ρ',hR,rfl,rfl,fun g=>rfl,hk⟩
 |s::ss,ys,vs,pre,ρ,ρ',k,he,hy,hR,hk,ha=>by
  cases ys with
  |nil=>exact absurd hk.symm ha
  |cons y ys=>cases vs with
   |nil=>exact hy.elim
   |cons v vs=>
    have hget:vs0[pre.length]?=some v:=by rw [he,List.getElem?_append_right (Nat.le_refl _)];simp
    have he':vs0=(pre++[v])++vs:=by rw [he];simp
    cases s with
    |none=>
     obtain ⟨x,rfl,h1⟩:=zM (show JX y (fun x=>jv ss ys (.c x::ρ) k)=a from hk) ha
     cases v with
     |agg _=>exact hy.1.elim
     |full _ _=>exact hy.1.elim
     |one c=>
      obtain ⟨uV,je,q1,q2,q3,q4,q5⟩:=zu he' hy.2 (hR.push (w:=.c x) (w':=.c c) hy.1) h1 ha;refine ⟨uV,je,q1,by rw [q2];simp;omega,by simp [q3],fun g=>?_,q5⟩
      simp only [cZ,getOne,hget,Option.bind_some];have:=q4 g
      rw [List.length_append] at this;exact this
    |some m=>
     obtain ⟨n,xs,rfl,h1⟩:=JZ (show Rx y (fun n xs=>cond (Nat.beq n m) (jv ss ys (.l n xs::ρ) k) .fail)=a from hk) ha
     obtain ⟨g1,h2⟩:=aP h1 ha;have:=Nat.eq_of_beq_eq_true g1
     subst this;cases v with
     |one _=>exact hy.1.elim
     |full _ _=>exact hy.1.elim
     |agg cs=>
      have hcl:cs.length=n:=by have h3:=hy.1.1.len;have h4:=hy.1.2;omega
      obtain ⟨uV,je,q1,q2,q3,q4,q5⟩:=zu he' hy.2 (hR.push (w:=.l n xs) (w':=.l cs) hy.1) h2 ha;refine ⟨uV,je,q1,by rw [q2];simp;omega,by simp [q3],fun g=>?_,q5⟩
      simp only [cZ,zx,hget,if_pos hcl,Option.bind_some];have:=q4 g
      rw [List.length_append] at this;exact this
theorem vS {a:aB} {WL:List (List C)}:∀{ms:List Nat} {ys:List KW} {bs pre:List (List C)} {ρ:List KW} {ρ':List W} {k:List KW->aB},WL=pre++bs->aj RB ys bs->RE ρ ρ'->lC ms ys ρ k=a->a≠.fail->
  ∃uV je,RE uV je/\je.length=ρ'.length+ms.length/\bs.length=ms.length/\(∀(g:List W->Option R),eF WL g ms pre.length ρ'=g je)/\(∀(g:List W->Option R),di g ms bs ρ'=g je)/\k uV=a
 |[],ys,bs,pre,ρ,ρ',k,he,hy,hR,hk,ha=>by
  cases ys with
  |cons _ _=>exact absurd hk.symm ha
  |nil=>cases bs with
   |cons _ _=>exact hy.elim
   |nil=>exact ⟨ρ,ρ',hR,rfl,rfl,fun g=>rfl,fun g=>rfl,hk⟩
 |m::ms,ys,bs,pre,ρ,ρ',k,he,hy,hR,hk,ha=>by
  cases ys with
  |nil=>exact absurd hk.symm ha
  |cons y ys=>cases bs with
   |nil=>exact hy.elim
   |cons cs bs=>
    have hget:WL[pre.length]?=some cs:=by rw [he,List.getElem?_append_right (Nat.le_refl _)];simp
    have he':WL=(pre++[cs])++bs:=by rw [he];simp
    obtain ⟨n,xs,rfl,h1⟩:=JZ (show Rx y (fun n xs=>cond (Nat.beq n m) (lC ms ys (.l n xs::ρ) k) .fail)=a from hk) ha
    obtain ⟨g1,h2⟩:=aP h1 ha;have:=Nat.eq_of_beq_eq_true g1
    subst this;have hcl:cs.length=n:=by have h3:=hy.1.1.len;have h4:=hy.1.2;omega
    obtain ⟨uV,je,q1,q2,q3,q4,q6,q5⟩:=vS he' hy.2 (hR.push (w:=.l n xs) (w':=.l cs) hy.1) h2 ha;refine ⟨uV,je,q1,by rw [q2];simp;omega,by simp [q3],fun g=>?_,fun g=>?_,q5⟩
    ·simp only [eF,EN,hget,if_pos hcl,Option.bind_some];have:=q4 g
     rw [List.length_append] at this;exact this
    ·simp only [di,if_pos hcl];exact q6 g
theorem kJ {a:aB}:∀{p:List PS} {ts:List TA} {ys:List KW} {us:List LA} {ρ:List KW} {ρ':List W} {k:List KW->aB},fits p ts=true->NK ts ys us->RE ρ ρ'->jv (E8 p) ys ρ k=a->a≠.fail->
  ∃uV je,RE uV je/\je.length=ρ'.length+(E8 p).length/\(∀(g:List W->Option R),aK g p us ρ'=g je)/\k uV=a
 |[],ts,ys,us,ρ,ρ',k,hf,hr,hR,hk,ha=>by
  cases ts with
  |cons t ts=>cases t<;>cases hf
  |nil=>cases ys with
   |cons _ _=>cases us<;>exact hr.elim
   |nil=>cases us with
    |cons _ _=>exact hr.elim
    |nil=>exact ⟨ρ,ρ',hR,rfl,fun g=>rfl,hk⟩
 |q::p,ts,ys,us,ρ,ρ',k,hf,hr,hR,hk,ha=>by
  cases ts with
  |nil=>cases q<;>cases hf
  |cons t ts=>
   cases t with
   |ref b o=>
    cases q with
    |one=>cases hf
    |agg m=>cases hf
    |ref b' o'=>
     simp only [fits,Bool.and_eq_true,beq_iff_eq] at hf;obtain ⟨⟨rfl,rfl⟩,hf⟩:=hf;cases us with
     |nil=>cases ys<;>exact hr.elim
     |cons u us=>cases u with
      |v _=>cases ys<;>exact hr.elim
      |ref b2 o2=>
       have hr':b2=b'/\o2=o'/\NK ts ys us:=by cases ys<;>exact hr
       obtain ⟨rfl,rfl,hr'⟩:=hr';obtain ⟨uV,je,q1,q2,q3,q4⟩:=kJ hf hr' hR (show jv (E8 p) ys ρ k=a from hk) ha
       exact ⟨uV,je,q1,q2,fun g=>by simp only [aK];rw [if_pos ⟨trivial,trivial⟩];exact q3 g,q4⟩
    |bJ g cs=>
     simp only [fits,Bool.and_eq_true,beq_iff_eq] at hf;obtain ⟨⟨rfl,rfl⟩,hf⟩:=hf;cases us with
     |nil=>cases ys<;>exact hr.elim
     |cons u us=>cases u with
      |v _=>cases ys<;>exact hr.elim
      |ref b2 o2=>
       have hr':b2=0/\o2=0/\NK ts ys us:=by cases ys<;>exact hr
       obtain ⟨rfl,rfl,hr'⟩:=hr';obtain ⟨uV,je,q1,q2,q3,q4⟩:=kJ hf hr' hR (show jv (E8 p) ys ρ k=a from hk) ha
       exact ⟨uV,je,q1,q2,fun g=>by simp only [aK];rw [if_pos ⟨trivial,trivial⟩];exact q3 g,q4⟩
   |v x=>
    cases ys with
    |nil=>cases us with
     |nil=>exact hr.elim
     |cons u us=>cases u<;>exact hr.elim
    |cons y ys=>cases us with
     |nil=>exact hr.elim
     |cons u us=>cases u with
      |ref _ _=>exact hr.elim
      |v v=>
       obtain ⟨hv,hr'⟩:=hr;cases q with
       |ref _ _=>cases hf
       |bJ _ _=>cases hf
       |one=>
        obtain ⟨z,rfl,h1⟩:=zM (show JX y (fun x=>jv (E8 p) ys (.c x::ρ) k)=a from hk) ha
        cases v with
        |agg _=>exact hv.elim
        |full _ _=>exact hv.elim
        |one c=>
         obtain ⟨uV,je,q1,q2,q3,q4⟩:=kJ (show fits p ts=true from hf) hr' (hR.push (w:=.c z) (w':=.c c) hv) h1 ha
         exact ⟨uV,je,q1,by rw [q2];simp [E8];omega,fun g=>by simp only [aK];exact q3 g,q4⟩
       |agg m=>
        obtain ⟨n,xs,rfl,h1⟩:=JZ (show Rx y (fun n xs=>cond (Nat.beq n m) (jv (E8 p) ys (.l n xs::ρ) k) .fail)=a from hk) ha
        obtain ⟨g1,h2⟩:=aP h1 ha;have:=Nat.eq_of_beq_eq_true g1
        subst this;cases v with
        |one _=>exact hv.elim
        |full _ _=>exact hv.elim
        |agg cs=>
         have hcl:cs.length=n:=by have h3:=hv.1.len;have h4:=hv.2;omega
         obtain ⟨uV,je,q1,q2,q3,q4⟩:=kJ (show fits p ts=true from hf) hr' (hR.push (w:=.l n xs) (w':=.l cs) hv) h2 ha
         exact ⟨uV,je,q1,by rw [q2];simp [E8];omega,fun g=>by simp only [aK];rw [if_pos hcl];exact q3 g,q4⟩
end Go.Ey
namespace Go.Ey
theorem Ce {ρ':List W}:∀{l:List TW} {ws:List W},gy ρ' l=some ws->ws.length=l.length
 |[],ws,h=>by simp only [gy,Option.some.injEq] at h;subst h;rfl
 |w::l,ws,h=>by simp only [gy,Option.bind_eq_some_iff,Option.some.injEq] at h;obtain ⟨x,_,xs,h2,rfl⟩:=h;simp [Ce h2]
section
variable {sig:Nat->Option (List PS)} {ig:Va} {mg:UI} {call:uL} {head:wu} {S:List KW->Option R->Prop}
theorem mF (hc:H7 sig ig call) (hh:KN S mg head):∀(t:Tree) {ρ:List KW} {ρ':List W},RE ρ ρ'->∀{a:aB},kD (cT sig ρ'.length t) ig mg ρ=a->a≠.fail->YQ S a (az call head t ρ')
 |.aY o t,ρ,ρ',h,a,hk,ha=>by
  obtain ⟨y,c,h1,h2,h3⟩:=XT h (show kop (cO ρ'.length o) ρ (fun x=>kD (cT sig (ρ'.length+1) t) ig mg (.c x::ρ))=a from hk) ha
  have hl:(ρ'++[W.c c]).length=ρ'.length+1:=by simp
  have:=mF hc hh t (h.push (w:=.c y) (w':=.c c) h1) (by rw [hl];exact h3) ha
  simp only [az,h2,Option.bind_some];exact this
 |.row aa s i t,ρ,ρ',h,a,hk,ha=>by
  obtain ⟨row,r,h1,h2,h3,h4⟩:=Wj h (show (kA ρ (cA ρ'.length s) fun u=>kA ρ (cA ρ'.length i) fun v=>xe aa u v fun xs=>kD (cT sig (ρ'.length+1) t) ig mg (.l aa xs::ρ))=a from hk) ha
  have hl:(ρ'++[W.l r]).length=ρ'.length+1:=by simp
  have:=mF hc hh t (h.push (w:=.l aa row) (w':=.l r) ⟨h1,h2⟩) (by rw [hl];exact h4) ha
  simp only [az,h3,Option.bind_some];exact this
 |.ite x t e,ρ,ρ',h,a,hk,ha=>by
  obtain ⟨y,c,h1,h2,h3⟩:=lq h (show (kA ρ (cA ρ'.length x) fun y=>YO y fun b=>Bool.casesOn (motive:=fun _=>aB) b (kD (cT sig ρ'.length e) ig mg ρ) (kD (cT sig ρ'.length t) ig mg ρ))=a from hk) ha
  obtain ⟨b,rfl,h4⟩:=IW h3 ha;rw [h1.bool] at h2;simp only [az,h2,Option.bind_some];cases b with
  |true=>exact mF hc hh t h h4 ha
  |false=>exact mF hc hh e h h4 ha
 |.call f args bs rs bl t,ρ,ρ',h,a,hk,ha=>by
  simp only [cT] at hk;split at hk
  case h_2=>exact absurd hk.symm ha
  rename_i p hp;split at hk
  case isFalse=>exact absurd hk.symm ha
  rename_i hf;obtain ⟨ys,us,h1,h2,h3⟩:=DC h (show (Nv ρ (Ye ρ'.length args) fun ax=>VI ρ (bs.map (cS ρ'.length)) fun xs=>onR (ig f ax xs) fun vs ys=>jv rs vs ρ fun ρ=>lC bl ys ρ fun uV=>kD (cT sig (ρ'.length+rs.length+bl.length) t) ig mg uV)=a from hk) ha
  obtain ⟨zs,css,h4,h5,h6⟩:=JH h h3 ha;cases hr:ig f ys zs with
  |fail=>rw [hr] at h6;exact absurd h6.symm ha
  |stop ws=>rw [hr] at h6;exact absurd h6.symm ha
  |ret vs bs'=>
   rw [hr] at h6;obtain ⟨r,h7,h8,h9⟩:=hc f p args ys us zs css vs bs' hp hf h1 h4 hr;obtain ⟨uV,je,q1,q2,q3,q4,q5⟩:=zu (vs0:=r.1) (pre:=[]) rfl h8 h (show jv rs vs ρ (fun ρ=>lC bl bs' ρ fun uV=>kD (cT sig (ρ'.length+rs.length+bl.length) t) ig mg uV)=a from h6) ha
   obtain ⟨ρ3,Ud,w1,w2,w3,w4,_,w5⟩:=vS (WL:=r.2) (pre:=[]) rfl h9 q1 q5 ha;have:=mF hc hh t w1 (by rw [w2,q2];exact w5) ha
   simp only [az,h2,h5,h7,Option.bind_some,sized];rw [if_pos ⟨q3,w3⟩];have e1:=q4 (fun ρ=>eF r.2 (fun ρ=>az call head t ρ) bl 0 ρ)
   have e2:=w4 (fun ρ=>az call head t ρ)
   simp only [List.length_nil] at e1 e2;rw [e1,e2];exact this
 |.goto i args,ρ,ρ',h,a,hk,ha=>by
  obtain ⟨ws,ws',h1,h2,h3⟩:=P6 h RE.nil (show YD ρ (args.map (YF ρ'.length)) [] (fun ws=>mg i args.length ws)=a from hk) ha
  rw [List.nil_append] at h1;have:=hh i ws ws' h1
  rw [Ce h2,h3] at this;simp only [az,h2,Option.bind_some];exact this
 |.ret rs bs,ρ,ρ',h,a,hk,ha=>by
  obtain ⟨ys,us,h1,h2,h3⟩:=PN h (show (Nv ρ (rs.map (cV ρ'.length)) fun vs=>VI ρ (bs.map (cS ρ'.length)) fun xs=> .ret vs xs)=a from hk) ha
  obtain ⟨zs,css,h4,h5,h6⟩:=JH h h3 ha;subst h6;simp only [az,h2,h5,Option.bind_some];exact ⟨_,rfl,h1,h4⟩
 |.fail,ρ,ρ',h,a,hk,ha=>absurd (show aB.fail=a from hk).symm ha
def Au (G:GT) (sig:Nat->Option (List PS)) (f:Nat) (kf:vk):Prop:=
 ∃tf,G.fn f=some tf/\sig f=some tf.params/\kf.params=E8 tf.params/\kf.boxes=tf.boxes/\kf.body=cT sig ((E8 tf.params).length+tf.boxes.length) tf.body/\
  ∀(h m:Nat) (t:gL),kf.heads[h]?=some (m,t)->∃t',tf.heads[h]?=some t'/\t=cT sig m t'
def mQ (G:GT) (sig:Nat->Option (List PS)) (f:Nat) (kf:vk):Prop:=kf.heads=[]/\
 ∀p ts ys us zs css call head a,sig f=some p->fits p ts=true->NK ts ys us->aj RB zs css->(jv kf.params ys [] fun ρ=>lC kf.boxes zs ρ fun ρ=>kD kf.body call head ρ)=a->a≠.fail->
  ∃vs bs r,a=.ret vs bs/\kL G f us css=some r/\aj EW vs r.1/\aj RB bs r.2
def nY (G:GT) (sig:Nat->Option (List PS)):KG->Prop
 |.leaf=>True
 |.node k f l r=>(Au G sig k f\/mQ G sig k f)/\nY G sig l/\nY G sig r
variable {G:GT}
theorem zm {a:aB} {k:vk->aB} {f:Nat}:∀{g:KG},nY G sig g->g.get f k=a->a≠.fail->∃kf,(Au G sig f kf\/mQ G sig f kf)/\k kf=a
 |.leaf,_,hk,ha=>absurd (show aB.fail=a from hk).symm ha
 |.node q kf l r,hg,hk,ha=>by
  have hk':(cond (Nat.beq f q) (k kf) (cond (Nat.ble f q) (l.get f k) (r.get f k)))=a:=hk;cases hb:Nat.beq f q with
  |true=>
   rw [hb] at hk';have:=Nat.eq_of_beq_eq_true hb
   subst this;exact ⟨kf,hg.1,hk'⟩
  |false=>
   rw [hb,cond_false] at hk';cases hc:Nat.ble f q with
   |true=>rw [hc] at hk';exact zm hg.2.1 hk' ha
   |false=>rw [hc] at hk';exact zm hg.2.2 hk' ha
theorem Di {a:aB} {k:gL->aB} {n:Nat}:∀{l:List (Nat×gL)} {i:Nat},Jt l i n k=a->a≠.fail->∃t,l[i]?=some (n,t)/\k t=a
 |[],_,hk,ha=>absurd (show aB.fail=a from hk).symm ha
 |(m,t)::l,0,hk,ha=>by
  obtain ⟨h1,h2⟩:=aP (show (cond (Nat.beq m n) (k t) .fail)=a from hk) ha
  have:=Nat.eq_of_beq_eq_true h1
  subst this;exact ⟨t,rfl,h2⟩
 |p::l,i+1,hk,ha=>by obtain ⟨t,h1,h2⟩:=Di (l:=l) (i:=i) hk ha;exact ⟨t,by simpa using h1,h2⟩
theorem JB {g:KG} (hg:nY G sig g) (hc:H7 sig ig call) (hh:KN S mg head) {f h:Nat} {ws:List KW} {ws':List W} (hw:RE ws ws') {a:aB} (hk:OU g f ig mg h ws'.length ws=a) (ha:a≠.fail):
  ∃tf t,G.fn f=some tf/\tf.heads[h]?=some t/\YQ S a (az call head t ws'):=by
 obtain ⟨kf,TK,h3⟩:=zm hg (show g.get f (fun tf=>Jt tf.heads h ws'.length fun t=>kD t ig mg ws)=a from hk) ha
 obtain ⟨t,h4,h5⟩:=Di h3 ha;obtain ⟨tf,h1,_,_,_,_,h2⟩:Au G sig f kf:=by
  rcases TK with TK|⟨TK,_⟩
  ·exact TK
  ·rw [TK] at h4;simp at h4
 obtain ⟨t',h6,rfl⟩:=h2 _ _ _ h4;exact ⟨tf,t',h1,h6,mF hc hh t' hw h5 ha⟩
def anyS:List KW->Option R->Prop:=fun _ _=>True
theorem yL {g:KG} (hg:nY G sig g):∀n,H7 sig (jk g n).fn (kL G)/\∀f,KN anyS ((jk g n).hd f) (uh G f)
 |0=>⟨fun f p ts ys us zs css vs bs _ _ _ _ h=>(by cases h),fun f h ws ws' _=>trivial⟩
 |n+1=>by
  obtain ⟨ih1,ih2⟩:=yL hg n;refine ⟨fun f p ts ys us zs css vs bs hp hf hr hb hk=>?_,fun f h ws ws' hw=>?_⟩
  ·have ha:aB.ret vs bs≠.fail:=fun e=>by cases e
   obtain ⟨kf,TK,h6⟩:=zm hg (show g.get f (fun tf=>jv tf.params ys [] fun ρ=>lC tf.boxes zs ρ fun ρ=>kD tf.body (jk g n).fn ((jk g n).hd f) ρ)=.ret vs bs from hk) ha
   rcases TK with ⟨tf,h1,h2,h3,h4,h5,_⟩|⟨_,hkn⟩
   case inr=>
    obtain ⟨vs',bs',r,e1,e2,e3,e4⟩:=hkn p ts ys us zs css _ _ _ hp hf hr hb h6 ha;injection e1 with e5 e6;subst e5 e6;exact ⟨r,e2,e3,e4⟩
   rw [h2] at hp;injection hp with hp;subst hp;rw [h3] at h6;obtain ⟨uV,je,q1,q2,q3,q4⟩:=kJ hf hr RE.nil h6 ha;rw [h4] at q4;obtain ⟨ρ3,Ud,w1,w2,w3,_,w4,w5⟩:=vS (WL:=css) (pre:=[]) rfl hb q1 q4 ha;rw [h5] at w5;have hl:Ud.length=(E8 tf.params).length+tf.boxes.length:=by rw [w2,q2];simp
   rw [<-hl] at w5;obtain ⟨r,e1,e2,e3⟩:=mF ih1 (ih2 f) tf.body w1 w5 ha;refine ⟨r,?_,e2,e3⟩;rw [jD h1];unfold rZ;rw [q3,w4];exact e1
  ·by_cases ha:OU g f (jk g n).fn ((jk g n).hd f) h ws'.length ws=.fail
   ·show YQ anyS (OU g f (jk g n).fn ((jk g n).hd f) h ws'.length ws) _
    rw [ha];trivial
   ·obtain ⟨tf,t,h1,h2,h3⟩:=JB hg ih1 (ih2 f) hw rfl ha;show YQ anyS (OU g f (jk g n).fn ((jk g n).hd f) h ws'.length ws) _
    rw [gH h1 h2];exact h3
theorem L8 {g:KG} (hg:nY G sig g) {n f:Nat} {p:List PS} (hp:sig f=some p) {ts:List TA} (hf:fits p ts=true) {ys:List KW} {us:List LA} (hr:NK ts ys us) {zs:List KW} {css:List (List C)} (hb:aj RB zs css) {vs bs:List KW}
  (hk:(jk g n).fn f ys zs=.ret vs bs):∃r,kL G f us css=some r/\aj EW vs r.1/\aj RB bs r.2:=by
 exact (yL hg n).1 f p ts ys us zs css vs bs hp hf hr hb hk
theorem qX {g:KG} (hg:nY G sig g) (n:Nat):H7 sig (jk g n).fn (kL G):=(yL hg n).1
def ZR (G:GT) (f h0 a:Nat):List KW->Option R->Prop:=fun ws o=>∃ws',RE ws ws'/\ws'.length=a/\o=uh G f h0 ws'
theorem EH {g:KG} (hg:nY G sig g) (hc:H7 sig ig (kL G)) {f h0 a:Nat}:∀m,KN (ZR G f h0 a) (GV g ig f h0 a m) (uh G f)
 |0=>fun h ws ws' _=>trivial
 |m+1=>fun h ws ws' hw=>by
  show YQ _ (cond (Nat.beq h h0) (cond (Nat.beq ws'.length a) (.stop ws) .fail) (OU g f ig (GV g ig f h0 a m) h ws'.length ws)) _
  cases hb:Nat.beq h h0 with
  |true=>
   have:=Nat.eq_of_beq_eq_true hb
   subst this;cases hl:Nat.beq ws'.length a with
   |true=>exact ⟨ws',hw,Nat.eq_of_beq_eq_true hl,rfl⟩
   |false=>trivial
  |false=>
   rw [cond_false];by_cases ha:OU g f ig (GV g ig f h0 a m) h ws'.length ws=.fail
   ·rw [ha];trivial
   ·obtain ⟨tf,t,h1,h2,h3⟩:=JB hg hc (EH hg hc m) hw rfl ha;rw [gH h1 h2];exact h3
theorem dh {g:KG} (hg:nY G sig g) {n m f h0 a:Nat}:∀(rounds:Nat) {ws:List KW} {ws':List W} {vs:List KW},RE ws ws'->ws'.length=a->gq g n m f h0 a rounds ws=.stop vs->∃vs',RE vs vs'/\vs'.length=a/\uh G f h0 ws'=uh G f h0 vs'
 |0,ws,ws',vs,hw,hl,hk=>by have hk':aB.stop ws=.stop vs:=hk;injection hk' with e;subst e;exact ⟨ws',hw,hl,rfl⟩
 |r+1,ws,ws',vs,hw,hl,hk=>by
  have hk':NR (OU g f (jk g n).fn (GV g (jk g n).fn f h0 a m) h0 a ws) (gq g n m f h0 a r)=.stop vs:=hk;cases he:OU g f (jk g n).fn (GV g (jk g n).fn f h0 a m) h0 a ws with
  |fail=>rw [he] at hk';cases hk'
  |ret _ _=>rw [he] at hk';cases hk'
  |stop us=>
   rw [he] at hk';rw [<-hl] at he;obtain ⟨tf,t,h1,h2,us',h3,h4,h5⟩:=JB hg (qX hg n) (EH hg (qX hg n) m) hw he (fun e=>by cases e)
   obtain ⟨vs',h6,h7,h8⟩:=dh hg r h3 h4 (show gq g n m f h0 ws'.length r us=.stop vs by rw [hl];exact hk')
   rw [hl] at h7 h4;exact ⟨vs',h6,h7,by rw [gH h1 h2,h5];exact h8⟩
theorem Dt {g:KG} (hg:nY G sig g) {n f h:Nat} {ws:List KW} {ws':List W} (hw:RE ws ws') {vs bs:List KW} (hk:(jk g n).hd f h ws'.length ws=.ret vs bs):∃r,uh G f h ws'=some r/\aj EW vs r.1/\aj RB bs r.2:=by
 have:=(yL hg n).2 f h ws ws' hw
 rw [hk] at this;exact this
theorem xA {g:KG} (hg:nY G sig g) {n m f h0 a:Nat} {p:List PS} (hp:sig f=some p) {ts:List TA} (hf:fits p ts=true) {ys:List KW} {us:List LA} (hr:NK ts ys us) {zs:List KW} {css:List (List C)} (hb:aj RB zs css) {vs:List KW}
  (hk:D9 g n m f h0 a ys zs=.stop vs):∃vs',RE vs vs'/\vs'.length=a/\kL G f us css=uh G f h0 vs':=by
 have ha:aB.stop vs≠.fail:=fun e=>by cases e
 obtain ⟨kf,TK,h6⟩:=zm hg (show g.get f (fun tf=>jv tf.params ys [] fun ρ=>lC tf.boxes zs ρ fun ρ=>kD tf.body (jk g n).fn (GV g (jk g n).fn f h0 a m) ρ)=.stop vs from hk) ha
 rcases TK with ⟨tf,h1,h2,h3,h4,h5,_⟩|⟨_,hkn⟩
 case inr=>
  obtain ⟨vs',bs',r,e1,_⟩:=hkn p ts ys us zs css _ _ _ hp hf hr hb h6 ha;cases e1
 rw [h2] at hp;injection hp with hp;subst hp;rw [h3] at h6;obtain ⟨uV,je,q1,q2,q3,q4⟩:=kJ hf hr RE.nil h6 ha;rw [h4] at q4;obtain ⟨ρ3,Ud,w1,w2,w3,_,w4,w5⟩:=vS (WL:=css) (pre:=[]) rfl hb q1 q4 ha;rw [h5] at w5;have hl:Ud.length=(E8 tf.params).length+tf.boxes.length:=by rw [w2,q2];simp
 rw [<-hl] at w5;obtain ⟨vs',e1,e2,e3⟩:=mF (qX hg n) (EH hg (qX hg n) m) tf.body w1 w5 ha;refine ⟨vs',e1,e2,?_⟩;rw [jD h1];unfold rZ;rw [q3,w4];exact e3
theorem DZ {f:Nat} {vs:List KV} {ws:List KW} {us:List V} (hsig:sig f=some []) (hv:aj EW ws us) (hk:∀(ρ:List KW) (k:List KW->aB),Nv ρ vs k=k ws) (h:kL G f [] []=some (us,[])):mQ G sig f ⟨[],[],.ret vs [],[]⟩:=by
 refine ⟨rfl,fun p ts ys xs zs css call head a hp hf hr hb hk2 ha=>?_⟩
 rw [hsig] at hp;injection hp with hp;subst hp;cases ts with
 |cons t ts=>cases t<;>cases hf
 |nil=>cases ys with
  |cons _ _=>cases xs<;>exact hr.elim
  |nil=>cases xs with
   |cons _ _=>exact hr.elim
   |nil=>cases zs with
    |cons _ _=>exact absurd hk2.symm ha
    |nil=>cases css with
     |cons _ _=>exact hb.elim
     |nil=>
      have h2:Nv [] vs (fun vs=>VI [] [] fun xs=> .ret vs xs)=a:=hk2
      rw [hk] at h2;exact ⟨ws,[],_,h2.symm,h,hv,trivial⟩
end
end Go.Ey
namespace Go.Ey
section
variable {G:GT} {sig:Nat->Option (List PS)}
theorem args1 {p:List PS} {ts:List TA} {ys:List KW} {us:List LA} (hp:p=[.one]) (hf:fits p ts=true) (hr:NK ts ys us):∃y u,ys=[y]/\us=[.v u]/\EW y u:=by
 subst hp;cases ts with
 |nil=>cases hf
 |cons t ts=>
  cases t with
  |ref _ _=>cases hf
  |v x=>cases ts with
   |cons t ts=>cases t<;>cases hf
   |nil=>cases ys with
    |nil=>cases us with
     |nil=>exact hr.elim
     |cons u us=>cases u<;>exact hr.elim
    |cons y ys=>cases us with
     |nil=>exact hr.elim
     |cons u us=>cases u with
      |ref _ _=>exact hr.elim
      |v u=>cases ys with
       |cons _ _=>cases us<;>exact hr.2.elim
       |nil=>cases us with
        |cons _ _=>exact hr.2.elim
        |nil=>exact ⟨y,u,rfl,rfl,hr.1⟩
theorem args2 {p:List PS} {ts:List TA} {ys:List KW} {us:List LA} (hp:p=[.one,.one]) (hf:fits p ts=true) (hr:NK ts ys us):∃y u y2 u2,ys=[y,y2]/\us=[.v u,.v u2]/\EW y u/\EW y2 u2:=by
 subst hp;cases ts with
 |nil=>cases hf
 |cons t ts=>
  cases t with
  |ref _ _=>cases hf
  |v x=>cases ys with
   |nil=>cases us with
    |nil=>exact hr.elim
    |cons u us=>cases u<;>exact hr.elim
   |cons y ys=>cases us with
    |nil=>exact hr.elim
    |cons u us=>cases u with
     |ref _ _=>exact hr.elim
     |v u=>
      obtain ⟨y2,u2,rfl,rfl,h⟩:=args1 (ts:=ts) rfl hf hr.2;exact ⟨y,u,y2,u2,rfl,rfl,hr.1,h⟩
theorem O6 {zs:List KW} {ρ:List KW} {k:List KW->aB} {a:aB} (hk:lC [] zs ρ k=a) (ha:a≠.fail):zs=[]/\k ρ=a:=by
 cases zs with
 |nil=>exact ⟨rfl,hk⟩
 |cons _ _=>exact absurd hk.symm ha
theorem Tw {a:aB} {x y:K} {g:K->aB} {h:Bool->aB} (hk:BG x y (fun q=>BP q g)=a) (hg:∀q,g (.b q)=h q) (hf:h false=.fail) (ha:a≠.fail):(∃k n,x=.i k n/\y=.i k n\/∃l w,x=.s l w/\y=.s l w)/\h true=a:=by
 have fin:∀b:Bool,BP b g=a->b=true/\h true=a:=by
  intro b hb;cases b with
  |true=>exact ⟨rfl,by rw [<-hg];exact hb⟩
  |false=>
   have h1:g (.b false)=a:=hb;rw [hg,hf] at h1;exact absurd h1.symm ha
 cases x with
 |i p n=>
  cases y with
  |i q m=>
   have h1:cond (Nat.beq (kk p) (kk q)) (BP (zz n m) g) .fail=a:=hk;obtain ⟨h2,h3⟩:=aP h1 ha;obtain ⟨h4,h5⟩:=fin _ h3;rw [jV] at h4;have e1:n=m:=by simpa using h4
   have e2:p=q:=by
    have:=Nat.eq_of_beq_eq_true h2
    cases p<;>cases q<;>first|rfl|(exact absurd this (by decide))
   subst e1 e2;exact ⟨⟨p,n,.inl ⟨rfl,rfl⟩⟩,h5⟩
  |_=>exact absurd (show aB.fail=a from hk).symm ha
 |s l v=>
  cases y with
  |s m w=>
   have h1:BP (and (Nat.beq l m) (Nat.beq v w)) g=a:=hk;obtain ⟨h4,h5⟩:=fin _ h1;simp only [Bool.and_eq_true] at h4;have e1:=Nat.eq_of_beq_eq_true h4.1;have e2:=Nat.eq_of_beq_eq_true h4.2;subst e1 e2;exact ⟨⟨.i64,0,.inr ⟨l,v,rfl,rfl⟩⟩,h5⟩
  |_=>exact absurd (show aB.fail=a from hk).symm ha
 |b _=>exact absurd (show aB.fail=a from hk).symm ha
 |sl _ _ _=>exact absurd (show aB.fail=a from hk).symm ha
 |o _=>exact absurd (show aB.fail=a from hk).symm ha
theorem Np {f l w:Nat} {vs:List KV} {ws:List KW} (hsig:sig f=some [.one]) (hk:∀(ρ:List KW) (k:List KW->aB),Nv ρ vs k=k ws)
  (h:∀c,RK (.s l w) c->∃us,aj EW ws us/\kL G f [.v (.one c)] []=some (us,[])):
  mQ G sig f ⟨[none],[],.aY (.eql (.v 0) (.k (.s l w))) (.ite (.v 0) (.ret vs []) .fail),[]⟩:=by
 refine ⟨rfl,fun p ts ys us zs css call head a hp hf hr hb hk2 ha=>?_⟩
 rw [hsig] at hp;injection hp with hp;obtain ⟨y,u,rfl,rfl,hv⟩:=args1 hp.symm hf hr;obtain ⟨x,rfl,h1⟩:=zM (show JX y (fun x=>jv [] [] [.c x] fun ρ=>lC [] zs ρ fun ρ=>kD (.aY (.eql (.v 0) (.k (.s l w))) (.ite (.v 0) (.ret vs []) .fail)) call head ρ)=a from hk2) ha
 obtain ⟨rfl,h2⟩:=O6 (show lC [] zs [.c x] (fun ρ=>kD (.aY (.eql (.v 0) (.k (.s l w))) (.ite (.v 0) (.ret vs []) .fail)) call head ρ)=a from h1) ha
 have h3:BG x (.s l w) (fun q=>BP q fun z=>kD (.ite (.v 0) (.ret vs []) .fail) call head [.c z,.c x])=a:=h2
 obtain ⟨h4,h5⟩:=Tw (h:=fun q=>kD (.ite (.v 0) (.ret vs []) .fail) call head [.c (.b q),.c x]) h3 (fun _=>rfl) rfl ha
 have hx:x=.s l w:=by
  obtain ⟨_,_,⟨_,h6⟩|⟨_,_,h6,h7⟩⟩:=h4
  ·cases h6
  ·rw [h6,h7]
 subst hx;cases u with
 |agg _=>exact hv.elim
 |full _ _=>exact hv.elim
 |one c=>
  cases css with
  |cons _ _=>exact hb.elim
  |nil=>
   obtain ⟨us,h8,h9⟩:=h c hv;have h10:Nv [.c (.b true),.c (.s l w)] vs (fun vs=>VI [.c (.b true),.c (.s l w)] [] fun xs=> .ret vs xs)=a:=h5
   rw [hk] at h10;exact ⟨ws,[],_,h10.symm,h9,h8,trivial⟩
theorem Oq {g:KG} {f:Nat} {kf:vk} (hg:nY G sig g) (hk:mQ G sig f kf):nY G sig (.node f kf g g):=⟨.inr hk,hg,hg⟩
end
end Go.Ey
