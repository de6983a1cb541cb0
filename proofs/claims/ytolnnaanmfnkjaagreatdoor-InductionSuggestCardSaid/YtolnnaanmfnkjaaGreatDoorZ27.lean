import Derived.Test.YtolnnaanmfnkjaaGreatDoorZ25
set_option linter.all false
set_option maxHeartbeats 0
set_option maxRecDepth 100000
namespace Go.Ey
structure HQ where
 cls:Nat
 pm:List Nat
 tg:List Nat
def nJ {α:Type} (pm:List Nat) (l:List α):List α:=pm.filterMap fun q=>l[q]?
def SH (pm:List Nat):List Nat:=(List.range pm.length).map fun q=>pm.idxOf q
def rnV (σ:List Nat) (i:Nat):Nat:=(σ[i]?).getD i
def jl (σ:List Nat):At->At
 |.v i=> .v (rnV σ i)
 |.n i j=> .n (rnV σ i) j
 |.k v=> .k v
 |.z=> .z
def Sd (σ:List Nat):SL->SL
 |.lit aJ=> .lit (aJ.map (jl σ))
 |.all i=> .all (rnV σ i)
def als (σ:List Nat):OpC->OpC
 |.bin op Kg a b=> .bin op Kg (jl σ a) (jl σ b)
 |.un op a=> .un op (jl σ a)
 |.conv k a=> .conv k (jl σ a)
 |.eqs ks neg aJ bs=> .eqs ks neg (Sd σ aJ) (Sd σ bs)
 |.len b a=> .len b (jl σ a)
 |.app aj bytes s t=> .app aj bytes (jl σ s) (jl σ t)
 |.set aj s i off vs=> .set aj (jl σ s) (jl σ i) off (vs.map (jl σ))
 |.sub aj s lo hi=> .sub aj (jl σ s) (lo.map (jl σ)) (hi.map (jl σ))
 |.clip aj s lo hi mx=> .clip aj (jl σ s) (lo.map (jl σ)) (jl σ hi) (jl σ mx)
 |.Nu s lo hi=> .Nu (jl σ s) (lo.map (jl σ)) (hi.map (jl σ))
 |.BV s i=> .BV (jl σ s) (jl σ i)
 |.toStr s=> .toStr (jl σ s)
 |.mk aj bytes zero l c=> .mk aj bytes zero (jl σ l) (jl σ c)
 |.Tf aj d s=> .Tf aj (jl σ d) (jl σ s)
 |.cnt aj d s=> .cnt aj (jl σ d) (jl σ s)
 |.mm isMax a b=> .mm isMax (jl σ a) (jl σ b)
 |.lits aj len xs=> .lits aj len (xs.map (jl σ))
def afD (σ:List Nat):TV->TV
 |.one a=> .one (jl σ a)
 |.agg s=> .agg (Sd σ s)
def ag7 (σ:List Nat):TA->TA
 |.v x=> .v (afD σ x)
 |.ref b off=> .ref b off
def ahb (σ:List Nat):TW->TW
 |.c a=> .c (jl σ a)
 |.l s=> .l (Sd σ s)
def xg (tab:List HQ) (σ:List Nat):Tree->List Nat->Option (Tree×List Nat)
 |.dG o t,g=>(xg tab σ t g).map fun r=>(.dG (als σ o) r.1,r.2)
 |.row e s i t,g=>(xg tab σ t g).map fun r=>(.row e (jl σ s) (jl σ i) r.1,r.2)
 |.ite a t e,g=>(xg tab σ t g).bind fun r=>(xg tab σ e r.2).map fun q=>(.ite (jl σ a) r.1 q.1,q.2)
 |.call f args bs rs bl t,g=>(xg tab σ t g).map fun r=>(.call f (args.map (ag7 σ)) (bs.map (Sd σ)) rs bl r.1,r.2)
 |.goto c args,h::g=>(tab[h]?).bind fun e=>cond (e.cls==c && args.length==e.pm.length) (some (.goto h (nJ e.pm (args.map (ahb σ))),g)) none
 |.goto _ _,[]=>none
 |.ret rs bs,g=>some (.ret (rs.map (afD σ)) (bs.map (Sd σ)),g)
 |.fail,g=>some (.fail,g)
def Oy:List (Nat×Tree)->Nat->Option Tree
 |[],_=>none
 |(c,t)::bs,i=>cond (c==i) (some t) (Oy bs i)
def Vx (tab:List HQ) (bs:List (Nat×Tree)) (e:HQ):Option (Tree×List Nat):=(Oy bs e.cls).bind fun b=>xg tab (SH e.pm) b e.tg
def GD (tab:List HQ) (bs:List (Nat×Tree)):List Tree:=tab.map fun e=>match Vx tab bs e with|some r=>r.1|none=> .fail
def TJ (pm:List Nat):Bool:=pm.all (fun q=>decide (q < pm.length)) && (List.range pm.length).all fun q=>pm.contains q
def okQ (tab:List HQ) (bs:List (Nat×Tree)):Bool:=tab.all fun e=>TJ e.pm && ((Vx tab bs e).isSome && (match tab[e.cls]? with|some e'=>e'.cls==e.cls && e'.pm==List.range e.pm.length|none=>false))
theorem LF:∀(l:List W) (i:Nat),gG l i=l[i]?
 |[],i=>by simp [gG]
 |w::l,0=>by simp [gG]
 |w::l,i+1=>by rw [gG,LF l i];simp
structure Rn (σ:List Nat) (ρ ρ':List W):Prop where
 len:ρ.length=ρ'.length
 le:σ.length<=ρ.length
 lt:∀x∈σ,x < σ.length
 get:∀i,gG ρ (rnV σ i)=gG ρ' i
theorem Za {σ:List Nat} {i:Nat} (h:σ.length<=i):rnV σ i=i:=by simp [rnV,Hp h]
theorem alB {σ:List Nat} (hl:∀x∈σ,x < σ.length) {i n:Nat} (hn:σ.length<=n) (h:i < n):rnV σ i < n:=by
 by_cases hi:i < σ.length
 ·have:rnV σ i=σ[i]:=by simp [rnV,A6 hi]
  rw [this];exact F0 (hl _ (By hi)) hn
 ·rw [Za (by omega)];exact h
theorem Rn.push {σ:List Nat} {ρ ρ':List W} (h:Rn σ ρ ρ') (w:W):Rn σ (ρ++[w]) (ρ'++[w]):=by
 refine ⟨by simp [h.len],by have:=h.le;simp;omega,h.lt,fun i=>?_⟩
 have hg:=h.get i;have hl:=h.len;simp only [LF] at hg |-;by_cases hi:i < ρ.length
 ·rw [Gk (alB h.lt h.le hi),Gk (by omega),hg]
 ·rw [Za (by have:=h.le;omega),Hv (by omega),Hv (by omega),hl]
variable {σ:List Nat} {ρ ρ':List W}
theorem Na (h:Rn σ ρ ρ') (a:At):dH ρ (jl σ a)=dH ρ' a:=by cases a<;>simp [jl,dH,h.get]
theorem YL (h:Rn σ ρ ρ'):∀aJ:List At,nA ρ (aJ.map (jl σ))=nA ρ' aJ
 |[]=>rfl
 |a::aJ=>by simp only [D4,nA,Na h,YL h aJ]
theorem asy (h:Rn σ ρ ρ') (a:Option At):LU ρ (a.map (jl σ))=LU ρ' a:=by cases a<;>simp [LU,Na h]
theorem ZT (h:Rn σ ρ ρ') (s:SL):Tt ρ (Sd σ s)=Tt ρ' s:=by cases s<;>simp [Sd,Tt,h.get,YL h]
theorem X5 (h:Rn σ ρ ρ'):∀ss:List SL,DK ρ (ss.map (Sd σ))=DK ρ' ss
 |[]=>rfl
 |s::ss=>by simp only [D4,DK,ZT h,X5 h ss]
theorem apF (h:Rn σ ρ ρ') (o:OpC):dP ρ (als σ o)=dP ρ' o:=by cases o<;>simp only [als,dP,Na h,YL h,asy h,ZT h]
theorem ajD (h:Rn σ ρ ρ') (x:TV):Ua ρ (afD σ x)=Ua ρ' x:=by cases x<;>simp only [afD,Ua,Na h,ZT h]
theorem afV (h:Rn σ ρ ρ'):∀l:List TV,Dl ρ (l.map (afD σ))=Dl ρ' l
 |[]=>rfl
 |s::ss=>by simp only [D4,Dl,ajD h,afV h ss]
theorem aol (h:Rn σ ρ ρ') (x:TA):XY ρ (ag7 σ x)=XY ρ' x:=by cases x<;>simp only [ag7,XY,ajD h]
theorem adD (h:Rn σ ρ ρ'):∀l:List TA,sj ρ (l.map (ag7 σ))=sj ρ' l
 |[]=>rfl
 |s::ss=>by simp only [D4,sj,aol h,adD h ss]
theorem aqF (h:Rn σ ρ ρ') (x:TW):Z8 ρ (ahb σ x)=Z8 ρ' x:=by cases x<;>simp only [ahb,Z8,Na h,ZT h]
theorem ac3 (h:Rn σ ρ ρ'):∀l:List TW,fQ ρ (l.map (ahb σ))=fQ ρ' l
 |[]=>rfl
 |s::ss=>by simp only [D4,fQ,aqF h,ac3 h ss]
theorem JF {α:Type} {vs:List V} {k k':List W->Option α} (hk:∀ρ ρ',Rn σ ρ ρ'->k ρ=k' ρ'):∀(ss:List (Option Nat)) (j:Nat) (ρ ρ':List W),Rn σ ρ ρ'->fE vs k ss j ρ=fE vs k' ss j ρ'
 |[],_,ρ,ρ',h=>hk ρ ρ' h
 |none::ss,j,ρ,ρ',h=>by simp only [fE];congr 1;funext c;exact JF hk ss (j+1) _ _ (h.push _)
 |some m::ss,j,ρ,ρ',h=>by simp only [fE];congr 1;funext c;exact JF hk ss (j+1) _ _ (h.push _)
theorem PU {α:Type} {bs:List (List C)} {k k':List W->Option α} (hk:∀ρ ρ',Rn σ ρ ρ'->k ρ=k' ρ'):∀(ss:List Nat) (j:Nat) (ρ ρ':List W),Rn σ ρ ρ'->gL bs k ss j ρ=gL bs k' ss j ρ'
 |[],_,ρ,ρ',h=>hk ρ ρ' h
 |_::ss,j,ρ,ρ',h=>by simp only [gL];congr 1;funext c;exact PU hk ss (j+1) _ _ (h.push _)
theorem QZ {α:Type} {l:List α}:∀{pm:List Nat},(∀q∈pm,q < l.length)->(nJ pm l).length=pm.length
 |[],_=>rfl
 |q::pm,h=>by
  have:=QZ (l:=l) (pm:=pm) fun x hx=>h x (by simp [hx])
  simp only [nJ] at this |-;rw [List.filterMap_cons,A6 (h q (by simp))]
  simp [this]
theorem Jy {α:Type} {l:List α}:∀{pm:List Nat},(∀q∈pm,q < l.length)->∀p:Nat,(nJ pm l)[p]?=(pm[p]?).bind fun q=>l[q]?
 |[],_,p=>by simp [nJ]
 |q::pm,h,p=>by
  have ih:=Jy (l:=l) (pm:=pm) fun x hx=>h x (by simp [hx])
  have hq:=A6 (h q (by simp))
  have e:nJ (q::pm) l=l[q]'(h q (by simp))::nJ pm l:=by simp only [nJ];rw [List.filterMap_cons,hq]
  rw [e];cases p with
  |zero=>simp [hq]
  |succ p=>simpa using ih p
theorem KL {α:Type} (l:List α):nJ (List.range l.length) l=l:=by
 refine List.ext_getElem? fun i=>?_
 rw [Jy (by simp)]
 by_cases h:i < l.length
 ·simp [h]
 ·rw [Hp (by simpa using h),Hp (by omega)];rfl
theorem abR {ρ:List W} {A:List TW} {ws:List W} (h:fQ ρ A=some ws):∀pm:List Nat,fQ ρ (nJ pm A)=some (nJ pm ws):=by
 have key:∀(A:List TW) (ws:List W),fQ ρ A=some ws->∀q:Nat,(A[q]?=none/\ws[q]?=none)\/∃a w,A[q]?=some a/\ws[q]?=some w/\Z8 ρ a=some w:=by
  intro A;induction A with
  |nil=>
   intro ws h q;simp only [fQ,A0] at h;subst h;exact .inl ⟨by simp,by simp⟩
  |cons a A ih=>
   intro ws h q;simp only [fQ,A1,A0] at h;obtain ⟨w,h1,ws',h2,rfl⟩:=h;cases q with
   |zero=>exact .inr ⟨a,w,by simp,by simp,h1⟩
   |succ q=>simpa using ih ws' h2 q
 intro pm;induction pm with
 |nil=>rfl
 |cons q pm ih=>
  simp only [nJ] at ih |-;rw [List.filterMap_cons,List.filterMap_cons];rcases key A ws h q with ⟨h1,h2⟩|⟨a,w,h1,h2,h3⟩
  ·rw [h1,h2];exact ih
  ·rw [h1,h2];simp only [fQ,h3,ih,A4]
theorem KH {ρ:List W}:∀{A:List TW},fQ ρ A=none↔∃a∈A,Z8 ρ a=none
 |[]=>by simp [fQ]
 |a::A=>by
  simp only [fQ,D2,exists_eq_or_imp];cases h:Z8 ρ a with
  |none=>simp
  |some w=>
   have:=KH (ρ:=ρ) (A:=A)
   cases h2:fQ ρ A with
   |none=>simp [<-this,h2]
   |some ws=>rw [h2] at this;simpa using this
theorem apW {pm:List Nat} (h:TJ pm=true):∀q∈pm,q < pm.length:=by simp only [TJ,A5,D0,G0] at h;exact h.1
theorem ad8 {pm:List Nat} (h:TJ pm=true):∀q,q < pm.length->q∈pm:=by simp only [TJ,A5,D0,G0,K2,List.contains_iff_mem] at h;exact h.2
theorem aaZ {ρ:List W} {A:List TW} {pm:List Nat} (hl:A.length=pm.length) (hp:TJ pm=true) {k k':List W->Option R} (hk:∀ws,ws.length=pm.length->k (nJ pm ws)=k' ws):
  (fQ ρ (nJ pm A)).bind k=(fQ ρ A).bind k':=by
 cases h:fQ ρ A with
 |some ws=>
  have hlen:ws.length=A.length:=by
   have:∀(A:List TW) (ws:List W),fQ ρ A=some ws->ws.length=A.length:=by
    intro A;induction A with
    |nil=>intro ws h;simp only [fQ,A0] at h;subst h;rfl
    |cons a A ih=>
     intro ws h;simp only [fQ,A1,A0] at h;obtain ⟨w,h1,ws',h2,rfl⟩:=h;simp [ih ws' h2]
   exact this A ws h
  rw [abR h pm];exact hk ws (by omega)
 |none=>
  obtain ⟨a,ha,h2⟩:=KH.1 h;obtain ⟨i,hi,rfl⟩:=List.getElem_of_mem ha;have hm:A[i]∈nJ pm A:=by simp only [nJ,List.mem_filterMap];exact ⟨i,ad8 hp i (by omega),A6 hi⟩
  rw [KH.2 ⟨_,hm,h2⟩];rfl
theorem zu {tab:List HQ} (hv:∀e∈tab,TJ e.pm=true) {call:qp} {head hq:qZ} (hh:∀(h:Nat) (e:HQ),tab[h]?=some e->∀ws:List W,ws.length=e.pm.length->head h (nJ e.pm ws)=hq e.cls ws):
  ∀(t:Tree) (g:List Nat) (t':Tree) (g':List Nat),xg tab σ t g=some (t',g')->∀ρ ρ',Rn σ ρ ρ'->aA call head t' ρ=aA call hq t ρ'
 |.dG o t,g,t',g',hi,ρ,ρ',h=>by simp only [xg,Fi] at hi;obtain ⟨r,h1,h2⟩:=hi;injection h2 with h2 h3;subst h2;simp only [aA,apF h];congr 1;funext c;exact zu hv hh t g r.1 r.2 h1 _ _ (h.push _)
 |.row e s i t,g,t',g',hi,ρ,ρ',h=>by simp only [xg,Fi] at hi;obtain ⟨r,h1,h2⟩:=hi;injection h2 with h2 h3;subst h2;simp only [aA,Na h];congr 1;funext c;exact zu hv hh t g r.1 r.2 h1 _ _ (h.push _)
 |.ite a t e,g,t',g',hi,ρ,ρ',h=>by simp only [xg,A1,Fi] at hi;obtain ⟨r,h1,q,h2,h3⟩:=hi;injection h3 with h3 h4;subst h3;simp only [aA,Na h];congr 1;funext c;rw [zu hv hh t g r.1 r.2 h1 _ _ h,zu hv hh e r.2 q.1 q.2 h2 _ _ h]
 |.call f args bs rs bl t,g,t',g',hi,ρ,ρ',h=>by simp only [xg,Fi] at hi;obtain ⟨r,h1,h2⟩:=hi;injection h2 with h2 h3;subst h2;simp only [aA,adD h,X5 h];congr 1;funext aJ;congr 1;funext xs;congr 1;funext q;congr 1;exact JF (fun ρ ρ' h=>PU (fun ρ ρ' h=>zu hv hh t g r.1 r.2 h1 _ _ h) _ _ _ _ h) _ _ _ _ h
 |.goto c args,[],t',g',hi,ρ,ρ',h=>by simp [xg] at hi
 |.goto c args,k::g,t',g',hi,ρ,ρ',h=>by
  simp only [xg,A1] at hi;obtain ⟨e,h1,h2⟩:=hi;cases hc:(e.cls==c && args.length==e.pm.length) with
  |false=>rw [hc] at h2;cases h2
  |true=>
   rw [hc,F1] at h2;injection h2 with h2;injection h2 with h2 h3;subst h2;simp only [A5,K1] at hc;simp only [aA];rw [<-ac3 h,<-hc.1];exact aaZ (by simpa using hc.2) (hv e (C3 h1)) (hh k e h1)
 |.ret rs bs,g,t',g',hi,ρ,ρ',h=>by simp only [xg,A0,A3] at hi;obtain ⟨rfl,rfl⟩:=hi;simp only [aA,afV h,X5 h]
 |.fail,g,t',g',hi,ρ,ρ',h=>by simp only [xg,A0,A3] at hi;obtain ⟨rfl,rfl⟩:=hi;rfl
theorem aji {pm:List Nat} (hp:TJ pm=true) {ws:List W} (hl:ws.length=pm.length):Rn (SH pm) (nJ pm ws) ws:=by
 have hlt:=apW hp;have hmem:=ad8 hp;have hlen:(nJ pm ws).length=pm.length:=QZ fun q hq=>by rw [hl];exact hlt q hq
 refine ⟨by omega,by simp [SH,hlen],fun x hx=>?_,fun i=>?_⟩
 ·simp only [SH,J0,K2] at hx;obtain ⟨q,hq,rfl⟩:=hx;simp only [SH,Lw,List.length_range];exact List.idxOf_lt_length_of_mem (hmem q hq)
 ·rw [LF,LF,Jy fun q hq=>by rw [hl];exact hlt q hq]
  by_cases hi:i < pm.length
  ·have e:rnV (SH pm) i=pm.idxOf i:=by simp [rnV,SH,hi]
   have h2:pm.idxOf i < pm.length:=List.idxOf_lt_length_of_mem (hmem i hi);rw [e,A6 h2,A4,List.getElem_idxOf h2]
  ·rw [Za (by simp [SH];omega),Hp (by omega),Hp (by omega)];rfl
variable {G:GT} {f:Nat} {tf:cB} {tab:List HQ} {bs:List (Nat×Tree)}
theorem TF (hok:okQ tab bs=true):∀e∈tab,TJ e.pm=true:=fun e he=>by simp only [okQ,D0,A5] at hok;exact (hok e he).1
theorem WG (hok:okQ tab bs=true) (ht:tf.heads=GD tab bs) {h:Nat} {e:HQ} (he:tab[h]?=some e):∃b t g,Oy bs e.cls=some b/\xg tab (SH e.pm) b e.tg=some (t,g)/\tf.heads[h]?=some t:=by
 simp only [okQ,D0,A5] at hok;have h1:=(hok e (C3 he)).2.1;cases hq:Vx tab bs e with
 |none=>rw [hq] at h1;cases h1
 |some r=>
  have hq':=hq;simp only [Vx,A1] at hq';obtain ⟨b,h2,h3⟩:=hq';refine ⟨b,r.1,r.2,h2,h3,?_⟩;rw [ht,GD,List.getElem?_map,he];simp [hq]
theorem aaz (hok:okQ tab bs=true) {h:Nat} {e:HQ} (he:tab[h]?=some e):∃e',tab[e.cls]?=some e'/\e'.cls=e.cls/\e'.pm=List.range e.pm.length:=by
 simp only [okQ,D0,A5] at hok;have h1:=(hok e (C3 he)).2.2;cases hq:tab[e.cls]? with
 |none=>rw [hq] at h1;cases h1
 |some e'=>
  rw [hq] at h1;simp only [A5,K1] at h1;exact ⟨e',rfl,h1.1,h1.2⟩
theorem Wi (hf:G.fn f=some tf) (hok:okQ tab bs=true) (ht:tf.heads=GD tab bs):∀(n h:Nat) (e:HQ),tab[h]?=some e->∀ws:List W,ws.length=e.pm.length->jC G n f h (nJ e.pm ws)=jC G n f e.cls ws
 |0,h,e,he,ws,hl=>rfl
 |n+1,h,e,he,ws,hl=>by
  have one:∀(h:Nat) (e:HQ),tab[h]?=some e->ws.length=e.pm.length->∃b,Oy bs e.cls=some b/\jC G (n+1) f h (nJ e.pm ws)=aA (runT G n) (jC G n f) b ws:=fun h e he hl=>by obtain ⟨b,t,g,h1,h2,h3⟩:=WG hok ht he;refine ⟨b,h1,?_⟩;rw [jC,hf,A4,h3,A4];exact zu (TF hok) (Wi hf hok ht n) b e.tg t g h2 _ _ (aji (TF hok e (C3 he)) hl)
  obtain ⟨e',r1,r2,r3⟩:=aaz hok he;obtain ⟨b,b1,b2⟩:=one h e he hl;obtain ⟨b',c1,c2⟩:=one e.cls e' r1 (by rw [r3];simpa using hl)
  rw [r2,b1] at c1;injection c1 with c1;subst c1;rw [r3,<-hl,KL] at c2;rw [b2,c2]
theorem ahT (hf:G.fn f=some tf) (hok:okQ tab bs=true) (ht:tf.heads=GD tab bs) (h:Nat) (e:HQ) (he:tab[h]?=some e) (ws:List W) (hl:ws.length=e.pm.length):bR G f h (nJ e.pm ws)=bR G f e.cls ws:=by unfold bR;congr 1;funext n;exact Wi hf hok ht n h e he ws hl
theorem jo (hf:G.fn f=some tf) (hok:okQ tab bs=true) (ht:tf.heads=GD tab bs) {c n:Nat} {b:Tree} (hb:Oy bs c=some b) (hc:(match tab[c]? with|some e=>e.cls==c && e.pm.length==n|none=>false)=true) (ws:List W) (hl:ws.length=n):
  bR G f c ws=aA (bq G) (bR G f) b ws:=by
 cases he:tab[c]? with
 |none=>rw [he] at hc;cases hc
 |some e=>
  rw [he] at hc;simp only [A5,K1] at hc;obtain ⟨rfl,rfl⟩:=hc;obtain ⟨b',t,g,h1,h2,h3⟩:=WG hok ht he;rw [hb] at h1;injection h1 with h1;subst h1;obtain ⟨e',r1,r2,r3⟩:=aaz hok he;rw [he] at r1;injection r1 with r1;subst r1;have hr:=aji (TF hok _ (C3 he)) hl;rw [r3,<-hl,KL] at hr;rw [aF hf h3];refine zu (TF hok) (ahT hf hok ht) b e.tg t g h2 _ _ ?_;rw [r3,<-hl];exact hr
end Go.Ey
namespace Go.Ey.Pr
open Rz Seat
variable {nat:Nat->List V->Option (List V)}
def C9:Tree:=.dG (.len false (zQ 21)) (pI .lss (.v 3) (.v 41) (pK 42 (sG 2 (zQ 21) 3 (Xx 4 3 (qI 13 1 [zV 43,zW 43,zV 44,zW 44,zQ 44,oM 44,o8 44,o7 44,o9 44,pq 44,pz 44,pg 44,wU 44] (QY 13 208 22 45 (zJ 1 1 3 (.ite (zV 47) (Xx 4 3 (pI .neq (zV 48) (oP 1) (aBg 49 [xC [.z,.z,.z,Dw,oQ,oQ,Dw,oQ,oQ,oQ,oQ,oQ,.z,.z,.z,Dw],aB1] (Xx 4 3 (aBV 65 [qR 23,aBI [zW 50,zQ 50]] (aBg 51 [xC [.z,.z,.z,Dw,oQ,oQ,Dw,oQ,oQ,oQ,oQ,oQ,.z,.z,.z,Dw],aB1] (Xx 4 3 (qI 2 1 [zW 52,zQ 52] (QY 2 32 23 53 (zJ 1 1 3 (.ite (zV 55) (Xx 4 3 (qI 2 1 [zW 56,zQ 56] (QY 2 32 40 57 (pI .add (.v 3) (oP 1) (.goto 0 [zY,Dp,xe,iP 59,pJ 4,iP 5,iP 6,GU,Dt,Dz,Du,EA,EJ,EG,DR,Eg,Da,Ct,zX,CV,DD,TR,iP 46,iP 54,GN,Dq,Di,CQ,Db,ED,Dn,Dh,Dy,Dk,De,Dv,DZ,FU,Ll,GR,iP 58]))))) (Xx 4 3 (aA9 [zV 56,zW 56,zQ 56,oM 56,o8 56,o7 56,o9 56,pq 56,pz 56,pg 56,wU 56] (QY 11 176 38 57 (pI .add (.v 3) (oP 1) (.goto 0 [zY,Dp,xe,iP 59,pJ 4,iP 5,iP 6,GU,Dt,Dz,Du,EA,EJ,EG,DR,Eg,Da,Ct,zX,CV,DD,TR,iP 46,iP 54,GN,Dq,Di,CQ,Db,ED,Dn,Dh,Dy,Dk,De,Dv,DZ,FU,iP 58,GR,Ik])))))))))))))))) (sG 2 (zQ 21) 3 (aBV 65 [qR 2,uT 48] (pK 49 (Xx 4 3 (pI .neq (zV 50) (oP 1) (aBg 51 [xC [.z,.z,.z,Dw,oQ,oQ,Dw,oQ,oQ,oQ,oQ,oQ,.z,.z,.z,Dw],aB1] (Xx 4 3 (aBV 65 [qR 23,aBI [zW 52,zQ 52]] (aBg 53 [xC [.z,.z,.z,Dw,oQ,oQ,Dw,oQ,oQ,oQ,oQ,oQ,.z,.z,.z,Dw],aB1] (Xx 4 3 (qI 2 1 [zW 54,zQ 54] (QY 2 32 23 55 (zJ 1 1 3 (.ite (zV 57) (Xx 4 3 (qI 2 1 [zW 58,zQ 58] (QY 2 32 40 59 (pI .add (.v 3) (oP 1) (.goto 0 [zY,Dp,xe,iP 61,pJ 4,iP 5,iP 6,GU,Dt,Dz,Du,EA,EJ,EG,DR,Eg,Da,Ct,zX,CV,DD,TR,iP 46,iP 56,GN,Dq,Di,CQ,Db,ED,Dn,Dh,Dy,Dk,De,Dv,DZ,FU,Ll,GR,iP 60]))))) (Xx 4 3 (aA9 [zV 58,zW 58,zQ 58,oM 58,o8 58,o7 58,o9 58,pq 58,pz 58,pg 58,wU 58] (QY 11 176 38 59 (pI .add (.v 3) (oP 1) (.goto 0 [zY,Dp,xe,iP 61,pJ 4,iP 5,iP 6,GU,Dt,Dz,Du,EA,EJ,EG,DR,Eg,Da,Ct,zX,CV,DD,TR,iP 46,iP 56,GN,Dq,Di,CQ,Db,ED,Dn,Dh,Dy,Dk,De,Dv,DZ,FU,iP 60,GR,Ik])))))))))))))))) (zJ 1 1 3 (.ite (zV 50) (Xx 4 3 (qI 2 1 [zW 51,zQ 51] (QY 2 32 40 52 (pI .add (.v 3) (oP 1) (.goto 0 [zY,Dp,xe,iP 54,pJ 4,iP 5,iP 6,GU,Dt,Dz,Du,EA,EJ,EG,DR,Eg,Da,Ct,zX,CV,DD,TR,iP 46,Mm,GN,Dq,Di,CQ,Db,ED,Dn,Dh,Dy,Dk,De,Dv,DZ,FU,Ll,GR,iP 53]))))) (Xx 4 3 (aA9 [zV 51,zW 51,zQ 51,oM 51,o8 51,o7 51,o9 51,pq 51,pz 51,pg 51,wU 51] (QY 11 176 38 52 (pI .add (.v 3) (oP 1) (.goto 0 [zY,Dp,xe,iP 54,pJ 4,iP 5,iP 6,GU,Dt,Dz,Du,EA,EJ,EG,DR,Eg,Da,Ct,zX,CV,DD,TR,iP 46,Mm,GN,Dq,Di,CQ,Db,ED,Dn,Dh,Dy,Dk,De,Dv,DZ,FU,iP 53,GR,Ik])))))))))))))))) (aBV 90 [qR 38] (.call 59 [qR 40,qR 43] [] [none] [] (aBg 44 [xC [.z,.z,.z,Dw,oQ,oQ,Dw,oQ,oQ,oQ,oQ,oQ,.z,.z,.z,Dw],aB1] (ZE 77 (aBI [.n 21 26,.n 21 27,.n 21 28,.n 21 29,.n 21 30,.n 21 31,.n 21 32,.n 21 33,.n 21 34,.n 21 35,.n 21 36]) 22 (.goto 1 [zY,Dp,CG,pJ 4,iP 5,iP 6,GU,Dt,Dz,Du,EA,EJ,EG,DR,Eg,Da,Ct,zX,CV,DD,TR,Jk,iP 43,.c (zV 45),.c (zW 45),.c (zQ 45),.c (oM 45),.c (o8 45),.c (o7 45),.c (o9 45),.c (pq 45),.c (pz 45),.c (pg 45),.c (wU 45),FU,GR,Ik,DZ])))))))
def Vu:Tree:=aBP 0 2 38 (pK 39 (.goto 2 [zY,Dp,xe,CG,pJ 3,iP 4,iP 5,iP 6,GU,Dt,Dz,Du,EA,EJ,EG,DR,Eg,Da,Ct,zX,CV,pJ 20,Pp,Jk,Mm,GN,Dq,Di,CQ,Db,ED,Dn,Dh,Dy,Dk,De,zM,Dv,DZ,FU,zM]) (aAP [xC [.v 35,.v 36,.v 22,.v 23,.v 24,.v 25,.v 26,.v 27,.v 28,.v 29,.v 30,.v 31,.v 32,.v 33,.v 37,.v 34],.one (.k (.bool true))]))
def UU:Tree:=zJ 2 0 2 (.dG (.len false (zV 41)) (pI .lss (.v 3) (.v 42) (pK 43 (zJ 2 0 2 (sG 11 (zV 44) 3 (ZE 77 (uT 45) 22 (.goto 3 [zY,Dp,xe,iP 3,pJ 4,iP 5,iP 6,GU,Dt,Dz,Du,EA,EJ,EG,DR,Eg,Da,Ct,zX,CV,DD,TR,Jk,Mm,GN,Dq,Di,CQ,Db,ED,Dn,Dh,Dy,Dk,De,Dv,DZ,pJ 46,FU,Ll,GR,Ik])))) (.goto 8 [zY,Dp,xe,CG,pJ 4,iP 5,iP 6,GU,Dt,Dz,Du,EA,EJ,EG,DR,Eg,Da,Ct,zX,CV,DD,TR,Jk,Mm,GN,Dq,Di,CQ,Db,ED,Dn,Dh,Dy,Dk,De,Dv,DZ,FU,Ll,GR,Ik]))))
def Q0:Tree:=aBV 92 [uT 37,xE ⟨#[110,111,116]⟩,sN 1] (pK 42 (.row 11 (wU 37) Dw (aBV 92 [uT 43,xE ⟨#[110,111,116]⟩,sN 1] (pK 44 (.row 11 (wU 37) Dw (.row 11 (wU 45) Dw (.goto 3 [zY,Dp,xe,iP 3,pJ 4,iP 5,iP 6,GU,Dt,Dz,Du,EA,EJ,EG,DR,Eg,Da,Ct,zX,CV,DD,TR,Jk,Mm,GN,Dq,Di,CQ,Db,ED,Dn,Dh,Dy,Dk,De,Dv,DZ,pJ 46,Ll,GR,Ik,RN]))) (aA9 [zV 37,zW 37,zQ 37,oM 37,o8 37,o7 37,o9 37,pq 37,pz 37,pg 37,wU 37] (QY 11 176 41 45 (pI .add (.v 3) (oP 1) (.goto 2 [zY,Dp,xe,iP 47,pJ 4,iP 5,iP 6,GU,Dt,Dz,Du,EA,EJ,EG,DR,Eg,Da,Ct,zX,CV,DD,TR,Jk,Mm,GN,Dq,Di,CQ,Db,ED,Dn,Dh,Dy,Dk,De,Dv,DZ,Ll,GR,Ik,iP 46]))))))) (aA9 [zV 37,zW 37,zQ 37,oM 37,o8 37,o7 37,o9 37,pq 37,pz 37,pg 37,wU 37] (QY 11 176 41 43 (pI .add (.v 3) (oP 1) (.goto 2 [zY,Dp,xe,iP 45,pJ 4,iP 5,iP 6,GU,Dt,Dz,Du,EA,EJ,EG,DR,Eg,Da,Ct,zX,CV,DD,TR,Jk,Mm,GN,Dq,Di,CQ,Db,ED,Dn,Dh,Dy,Dk,De,Dv,DZ,Ll,GR,Ik,iP 44])))))
def V4:Tree:=zJ 2 0 2 (.dG (.len false (zW 41)) (pI .lss (.v 3) (.v 42) (pK 43 (.goto 5 [zY,Dp,xe,iP 3,CG,pJ 4,iP 5,iP 6,GU,Dt,Dz,Du,EA,EJ,EG,DR,Eg,Da,Ct,zX,CV,DD,TR,Jk,Mm,GN,Dq,Di,CQ,Db,ED,Dn,Dh,Dy,Dk,De,Dv,zM,DZ,FU,Ll,GR,Ik]) (qI 2 1 [.v 39,.v 40] (QY 2 48 38 44 (pI .add (.v 2) (oP 1) (.goto 1 [zY,Dp,iP 46,pJ 4,iP 5,iP 6,GU,Dt,Dz,Du,EA,EJ,EG,DR,Eg,Da,Ct,zX,CV,DD,TR,Jk,Mm,GN,Dq,Di,CQ,Db,ED,Dn,Dh,Dy,Dk,De,Dv,DZ,FU,iP 45])))))))
def QC:Tree:=.dG (.len false (zQ 22)) (pI .lss (.v 4) (.v 43) (pK 44 (zJ 1 1 4 (.ite (zV 45) (sG 2 (zQ 22) 4 (zN 53 [uT 46] 11 (zJ 2 0 2 (sG 1 (zW 48) 3 (zN 77 [uT 47,nV (zV 49)] 11 (Xx 5 4 (ZE 77 (uT 50) 23 (qI 13 1 [zW 51,zQ 51,zV 52,zW 52,zQ 52,oM 52,o8 52,o7 52,o9 52,pq 52,pz 52,pg 52,wU 52] (QY 13 208 37 53 (pI .add (.v 4) (oP 1) (.goto 5 [zY,Dp,xe,iP 3,iP 55,pJ 5,iP 6,GU,Dt,Dz,Du,EA,EJ,EG,DR,Eg,Da,Ct,zX,CV,DD,Pp,pJ 22,Mm,GN,Dq,Di,CQ,Db,ED,Dn,Dh,Dy,Dk,De,Dv,DZ,iP 54,Ll,GR,Ik,RN,TU]))))))))))) (pI .add (.v 4) (oP 1) (.goto 5 [zY,Dp,xe,iP 3,iP 46,pJ 5,iP 6,GU,Dt,Dz,Du,EA,EJ,EG,DR,Eg,Da,Ct,zX,CV,DD,Pp,pJ 22,Mm,GN,Dq,Di,CQ,Db,ED,Dn,Dh,Dy,Dk,De,Dv,DZ,FU,Ll,GR,Ik,RN,TU])))) (.goto 6 [zY,Dp,xe,iP 3,.c (.k xG),CG,pJ 5,iP 6,GU,Dt,Dz,Du,EA,EJ,EG,DR,Eg,Da,Ct,zX,CV,DD,Pp,pJ 22,Mm,GN,Dq,Di,CQ,Db,ED,Dn,Dh,Dy,Dk,De,Dv,DZ,FU,Ll,GR,Ik,RN,TU])))
def KM:Tree:=aBP 43 5 44 (pK 45 (aBH 4 (pK 46 (zJ 1 43 5 (zJ 1 43 5 (aBV 123 [nV (zV 48),qR 38] (pK 49 (zJ 1 43 5 (zJ 1 43 5 (aBV 123 [qR 38,nV (zV 51)] (pI .add (.v 5) (oP 1) (.goto 6 [zY,Dp,xe,iP 3,iP 52,iP 53,pJ 6,GU,Dt,Dz,Du,EA,EJ,EG,DR,Eg,Da,Ct,zX,CV,DD,Pp,Jk,pJ 23,GN,Dq,Di,CQ,Db,ED,Dn,Dh,Dy,Dk,De,Dv,DZ,FU,Ll,GR,Ik,RN,TU,iP 43]))))) (pI .add (.v 5) (oP 1) (.goto 6 [zY,Dp,xe,iP 3,.c (.k xG),iP 50,pJ 6,GU,Dt,Dz,Du,EA,EJ,EG,DR,Eg,Da,Ct,zX,CV,DD,Pp,Jk,pJ 23,GN,Dq,Di,CQ,Db,ED,Dn,Dh,Dy,Dk,De,Dv,DZ,FU,Ll,GR,Ik,RN,TU,iP 43])))))) (aBH 4 (pK 47 (qI 1 1 [.v 38] (QY 1 24 43 48 (pI .add (.v 3) (oP 1) (.goto 4 [zY,Dp,xe,iP 50,pJ 6,GU,Dt,Dz,Du,EA,EJ,EG,DR,Eg,Da,Ct,zX,CV,DD,Pp,Jk,pJ 23,GN,Dq,Di,CQ,Db,ED,Dn,Dh,Dy,Dk,De,Dv,DZ,FU,GR,Ik,RN,TU,iP 49])))) (pI .add (.v 3) (oP 1) (.goto 4 [zY,Dp,xe,iP 48,pJ 6,GU,Dt,Dz,Du,EA,EJ,EG,DR,Eg,Da,Ct,zX,CV,DD,Pp,Jk,pJ 23,GN,Dq,Di,CQ,Db,ED,Dn,Dh,Dy,Dk,De,Dv,DZ,FU,GR,Ik,RN,TU,iP 43])))))) (aBH 4 (pK 46 (qI 1 1 [.v 38] (QY 1 24 43 47 (pI .add (.v 3) (oP 1) (.goto 4 [zY,Dp,xe,iP 49,pJ 6,GU,Dt,Dz,Du,EA,EJ,EG,DR,Eg,Da,Ct,zX,CV,DD,Pp,Jk,pJ 23,GN,Dq,Di,CQ,Db,ED,Dn,Dh,Dy,Dk,De,Dv,DZ,FU,GR,Ik,RN,TU,iP 48])))) (pI .add (.v 3) (oP 1) (.goto 4 [zY,Dp,xe,iP 47,pJ 6,GU,Dt,Dz,Du,EA,EJ,EG,DR,Eg,Da,Ct,zX,CV,DD,Pp,Jk,pJ 23,GN,Dq,Di,CQ,Db,ED,Dn,Dh,Dy,Dk,De,Dv,DZ,FU,GR,Ik,RN,TU,iP 43])))))
def UL:Tree:=zJ 2 0 2 (.dG (.len false (zW 41)) (pI .lss (.v 3) (.v 42) (pK 43 (.goto 10 [zY,Dp,xe,iP 3,zM,CG,pJ 4,iP 5,iP 6,GU,Dt,Dz,Du,EA,EJ,EG,DR,Eg,Da,Ct,zX,CV,DD,TR,Jk,Mm,GN,Dq,Di,CQ,Db,ED,Dn,Dh,Dy,Dk,De,Dv,DZ,FU,Ll,GR,Ik]) (qI 2 1 [.v 40,.v 36] (QY 2 48 39 44 (pI .add (.v 2) (oP 1) (.goto 1 [zY,Dp,iP 46,pJ 4,iP 5,iP 6,GU,Dt,Dz,Du,EA,EJ,EG,DR,Eg,Da,Ct,zX,CV,DD,TR,Jk,Mm,GN,Dq,Di,CQ,Db,ED,Dn,Dh,Dy,Dk,De,Dv,FU,Ll,iP 45])))))))
def JO:Tree:=.dG (.len false (zQ 23)) (pI .lss (.v 5) (.v 43) (pK 44 (zJ 1 1 5 (.ite (zV 45) (sG 2 (zQ 23) 5 (zN 53 [uT 46] 11 (zJ 2 0 2 (sG 1 (zW 48) 3 (zN 77 [uT 47,nV (zV 49)] 11 (Xx 6 5 (ZE 77 (uT 50) 24 (qI 13 1 [zW 51,zQ 51,zV 52,zW 52,zQ 52,oM 52,o8 52,o7 52,o9 52,pq 52,pz 52,pg 52,wU 52] (QY 13 208 4 53 (pI .add (.v 5) (oP 1) (.goto 10 [zY,Dp,xe,iP 3,iP 54,iP 55,pJ 6,GU,Dt,Dz,Du,EA,EJ,EG,DR,Eg,Da,Ct,zX,CV,DD,Pp,Jk,pJ 23,GN,Dq,Di,CQ,Db,ED,Dn,Dh,Dy,Dk,De,Dv,DZ,FU,Ll,GR,Ik,RN,TU]))))))))))) (pI .add (.v 5) (oP 1) (.goto 10 [zY,Dp,xe,iP 3,iP 4,iP 46,pJ 6,GU,Dt,Dz,Du,EA,EJ,EG,DR,Eg,Da,Ct,zX,CV,DD,Pp,Jk,pJ 23,GN,Dq,Di,CQ,Db,ED,Dn,Dh,Dy,Dk,De,Dv,DZ,FU,Ll,GR,Ik,RN,TU])))) (.goto 14 [zY,Dp,xe,iP 3,iP 4,.c (.k xG),CG,pJ 6,GU,Dt,Dz,Du,EA,EJ,EG,DR,Eg,Da,Ct,zX,CV,DD,Pp,Jk,pJ 23,GN,Dq,Di,CQ,Db,ED,Dn,Dh,Dy,Dk,De,Dv,DZ,FU,Ll,GR,Ik,RN,TU])))
def Rw:Tree:=aBP 39 6 44 (pK 45 (aBH 5 (pK 46 (zJ 1 39 6 (aBV 123 [nV (zV 47),qR 4] (pK 48 (zJ 1 39 6 (aBV 123 [qR 4,nV (zV 49)] (pI .add (.v 6) (oP 1) (.goto 14 [zY,Dp,xe,iP 3,iP 4,iP 50,iP 51,pJ 7,Dt,Dz,Du,EA,EJ,EG,DR,Eg,Da,Ct,zX,CV,DD,Pp,Jk,Mm,pJ 24,Dq,Di,CQ,Db,ED,Dn,Dh,Dy,Dk,De,Dv,DZ,FU,Ll,GR,Ik,RN,TU,iP 43])))) (pI .add (.v 6) (oP 1) (.goto 14 [zY,Dp,xe,iP 3,iP 4,.c (.k xG),iP 49,pJ 7,Dt,Dz,Du,EA,EJ,EG,DR,Eg,Da,Ct,zX,CV,DD,Pp,Jk,Mm,pJ 24,Dq,Di,CQ,Db,ED,Dn,Dh,Dy,Dk,De,Dv,DZ,FU,Ll,GR,Ik,RN,TU,iP 43]))))) (aBH 5 (pK 47 (qI 1 1 [.v 4] (QY 1 24 39 48 (pI .add (.v 3) (oP 1) (.goto 4 [zY,Dp,xe,iP 50,pJ 7,Dt,Dz,Du,EA,EJ,EG,DR,Eg,Da,Ct,zX,CV,DD,Pp,Jk,Mm,pJ 24,Dq,Di,CQ,Db,ED,Dn,Dh,Dy,Dk,De,Dv,DZ,FU,Ll,Ik,RN,TU,iP 43,iP 49])))) (pI .add (.v 3) (oP 1) (.goto 8 [zY,Dp,xe,iP 48,pJ 7,Dt,Dz,Du,EA,EJ,EG,DR,Eg,Da,Ct,zX,CV,DD,Pp,Jk,Mm,pJ 24,Dq,Di,CQ,Db,ED,Dn,Dh,Dy,Dk,De,Dv,DZ,FU,Ll,GR,Ik,RN,TU,iP 43])))))) (aBH 5 (pK 46 (qI 1 1 [.v 4] (QY 1 24 39 47 (pI .add (.v 3) (oP 1) (.goto 4 [zY,Dp,xe,iP 49,pJ 7,Dt,Dz,Du,EA,EJ,EG,DR,Eg,Da,Ct,zX,CV,DD,Pp,Jk,Mm,pJ 24,Dq,Di,CQ,Db,ED,Dn,Dh,Dy,Dk,De,Dv,DZ,FU,Ll,Ik,RN,TU,iP 43,iP 48])))) (pI .add (.v 3) (oP 1) (.goto 8 [zY,Dp,xe,iP 47,pJ 7,Dt,Dz,Du,EA,EJ,EG,DR,Eg,Da,Ct,zX,CV,DD,Pp,Jk,Mm,pJ 24,Dq,Di,CQ,Db,ED,Dn,Dh,Dy,Dk,De,Dv,DZ,FU,Ll,GR,Ik,RN,TU,iP 43])))))
def aqk:List (Nat×Tree):=[(0,C9),(1,Vu),(2,UU),(3,Q0),(4,V4),(5,QC),(6,KM),(8,UL),(10,JO),(14,Rw)]
def q45:List HQ:=[⟨0,List.range 41,[0,0,0,0,0,0,7]⟩,
 ⟨1,List.range 38,[2]⟩,
 ⟨2,List.range 41,[3,8]⟩,
 ⟨3,List.range 42,[3,2,2]⟩,
 ⟨4,List.range 41,[5,1]⟩,
 ⟨5,List.range 43,[5,5,6]⟩,
 ⟨6,List.range 44,[6,6,4,4,4,4]⟩,
 ⟨1,(BH 38 [(34,37)]),[9]⟩,
 ⟨8,List.range 41,[10,1]⟩,
 ⟨2,(BH 41 [(35,39),(37,40)]),[11,12]⟩,
 ⟨10,List.range 43,[13,10,14]⟩,
 ⟨3,(BH 42 [(35,40),(37,41)]),[11,15,15]⟩,
 ⟨8,(BH 41 [(35,39),(37,40)]),[16,1]⟩,
 ⟨10,(BH 43 [(4,5),(5,6),(6,7),(7,8),(8,9),(9,10),(10,11),(11,12),(12,13),(13,14),(14,15),(15,16),(16,17),(17,18),(18,19),(19,20),(20,21),(21,22),(22,23),(23,24),(24,25),(25,26),(26,27),(27,28),(28,29),(29,30),(30,31),(31,32),(32,33),(33,34),(34,35),(35,36),(36,37),(37,38)]),[13,13,17]⟩,
 ⟨14,List.range 44,[14,14,4,8,4,8]⟩,
 ⟨2,(BH 41 [(35,39)]),[20,21]⟩,
 ⟨10,(BH 43 [(37,41),(39,42)]),[22,16,23]⟩,
 ⟨14,(BH 44 [(4,5),(5,6),(6,7),(7,8),(8,9),(9,10),(10,11),(11,12),(12,13),(13,14),(14,15),(15,16),(16,17),(17,18),(18,19),(19,20),(20,21),(21,22),(22,23),(23,24),(24,25),(25,26),(26,27),(27,28),(28,29),(29,30),(30,31),(31,32),(32,33),(33,34),(34,35),(35,36),(36,37),(37,38),(38,39)]),[17,17,4,8,4,8]⟩,
 ⟨2,(BH 41 [(36,40)]),[24,25]⟩,
 ⟨5,(BH 43 [(4,37)]),[5,19,26]⟩,
 ⟨3,(BH 42 [(35,40)]),[20,15,15]⟩,
 ⟨8,(BH 41 [(35,39)]),[27,1]⟩,
 ⟨10,(BH 43 [(4,5),(5,6),(6,7),(7,8),(8,9),(9,10),(10,11),(11,12),(12,13),(13,14),(14,15),(15,16),(16,17),(17,18),(18,19),(19,20),(20,21),(21,22),(22,23),(23,24),(24,25),(25,26),(26,27),(27,28),(28,29),(29,30),(30,31),(31,32),(32,33),(33,34),(34,35),(35,36),(36,41),(37,38),(38,42),(39,40)]),[22,22,28]⟩,
 ⟨14,(BH 44 [(38,42),(40,43)]),[23,23,29,12,29,12]⟩,
 ⟨3,(BH 42 [(36,41)]),[24,2,2]⟩,
 ⟨8,(BH 41 [(36,40)]),[30,1]⟩,
 ⟨6,(BH 44 [(4,38)]),[26,26,4,4,4,4]⟩,
 ⟨10,(BH 43 [(37,41)]),[31,27,32]⟩,
 ⟨14,(BH 44 [(4,5),(5,6),(6,7),(7,8),(8,9),(9,10),(10,11),(11,12),(12,13),(13,14),(14,15),(15,16),(16,17),(17,18),(18,19),(19,20),(20,21),(21,22),(22,23),(23,24),(24,25),(25,26),(26,27),(27,28),(28,29),(29,30),(30,31),(31,32),(32,33),(33,34),(34,35),(35,36),(36,37),(37,42),(38,39),(39,43),(40,41)]),[28,28,29,12,29,12]⟩,
 ⟨4,(BH 41 [(35,38),(37,39)]),[33,1]⟩,
 ⟨10,(BH 43 [(38,42)]),[34,30,35]⟩,
 ⟨10,(BH 43 [(4,5),(5,6),(6,7),(7,8),(8,9),(9,10),(10,11),(11,12),(12,13),(13,14),(14,15),(15,16),(16,17),(17,18),(18,19),(19,20),(20,21),(21,22),(22,23),(23,24),(24,25),(25,26),(26,27),(27,28),(28,29),(29,30),(30,31),(31,32),(32,33),(33,34),(34,35),(35,36),(36,41),(37,38),(38,39)]),[31,31,36]⟩,
 ⟨14,(BH 44 [(38,42)]),[32,32,37,21,37,21]⟩,
 ⟨5,(BH 43 [(4,37),(37,40),(39,41)]),[38,33,39]⟩,
 ⟨10,(BH 43 [(4,5),(5,6),(6,7),(7,8),(8,9),(9,10),(10,11),(11,12),(12,13),(13,14),(14,15),(15,16),(16,17),(17,18),(18,19),(19,20),(20,21),(21,22),(22,23),(23,24),(24,25),(25,26),(26,27),(27,28),(28,29),(29,30),(30,31),(31,32),(32,33),(33,34),(34,35),(35,36),(36,37),(37,42),(38,39)]),[34,34,40]⟩,
 ⟨14,(BH 44 [(39,43)]),[35,35,41,25,41,25]⟩,
 ⟨14,(BH 44 [(4,5),(5,6),(6,7),(7,8),(8,9),(9,10),(10,11),(11,12),(12,13),(13,14),(14,15),(15,16),(16,17),(17,18),(18,19),(19,20),(20,21),(21,22),(22,23),(23,24),(24,25),(25,26),(26,27),(27,28),(28,29),(29,30),(30,31),(31,32),(32,33),(33,34),(34,35),(35,36),(36,37),(37,42),(38,39),(39,40)]),[36,36,37,21,37,21]⟩,
 ⟨4,(BH 41 [(35,38)]),[42,1]⟩,
 ⟨5,(BH 43 [(36,40),(38,41)]),[38,38,43]⟩,
 ⟨6,(BH 44 [(4,38),(38,41),(40,42)]),[39,39,29,29,29,29]⟩,
 ⟨14,(BH 44 [(4,5),(5,6),(6,7),(7,8),(8,9),(9,10),(10,11),(11,12),(12,13),(13,14),(14,15),(15,16),(16,17),(17,18),(18,19),(19,20),(20,21),(21,22),(22,23),(23,24),(24,25),(25,26),(26,27),(27,28),(28,29),(29,30),(30,31),(31,32),(32,33),(33,34),(34,35),(35,36),(36,37),(37,38),(38,43),(39,40)]),[40,40,41,25,41,25]⟩,
 ⟨4,(BH 41 [(36,39)]),[44,1]⟩,
 ⟨5,(BH 43 [(4,37),(37,40)]),[45,42,46]⟩,
 ⟨6,(BH 44 [(37,41),(39,42)]),[43,43,29,29,29,29]⟩,
 ⟨5,(BH 43 [(4,37),(38,41)]),[47,44,48]⟩,
 ⟨5,(BH 43 [(36,40)]),[45,45,49]⟩,
 ⟨6,(BH 44 [(4,38),(38,41)]),[46,46,37,37,37,37]⟩,
 ⟨5,(BH 43 [(37,41)]),[47,47,50]⟩,
 ⟨6,(BH 44 [(4,38),(39,42)]),[48,48,41,41,41,41]⟩,
 ⟨6,(BH 44 [(37,41)]),[49,49,37,37,37,37]⟩,
 ⟨6,(BH 44 [(38,42)]),[50,50,41,41,41,41]⟩]
def t45:cB:=⟨[.one,.one,.agg 11],[],.call 101 [qR 0,aBI [zW 2,zQ 2]] [] [some 37,none] [] (aBH 4 (aBg 5 [xC [.z,.z,.z,Dw,oQ,oQ,Dw,oQ,oQ,oQ,oQ,oQ,.z,.z,.z,Dw],aB1] (pI .neq (oM 3) (oP 1) (aBg 6 [xC [.z,.z,.z,Dw,oQ,oQ,Dw,oQ,oQ,oQ,oQ,oQ,.z,.z,.z,Dw],aB1] (aBV 65 [qR 1,aBI [zW 2,zQ 2]] (aBg 7 [xC [.z,.z,.z,Dw,oQ,oQ,Dw,oQ,oQ,oQ,oQ,oQ,.z,.z,.z,Dw],aB1] (.dG (.len false (wU 2)) (.dG (.len false (zQ 3)) (pI .neq (.v 8) (.v 9) (aBg 10 [xC [.z,.z,.z,Dw,oQ,oQ,Dw,oQ,oQ,oQ,oQ,oQ,.z,.z,.z,Dw],aB1] (.call 120 [qR 0,aBI [zW 2,zQ 2]] [] [none,none] [] (zJ 32 0 11 (.dG (.len false (.n 13 20)) (pI .neq (.v 14) (oP 1) (aBg 15 [xC [.z,.z,.z,Dw,oQ,oQ,Dw,oQ,oQ,oQ,oQ,oQ,.z,.z,.z,Dw],aB1] (.call 121 [uT 3] [] [none,none] [] (aBH 17 (aBg 18 [xC [.z,.z,.z,Dw,oQ,oQ,Dw,oQ,oQ,oQ,oQ,oQ,.z,.z,.z,Dw],aB1] (aBV 122 [uT 3,qR 16] (aA9 [.n 3 26,.n 3 27,.n 3 28,.n 3 29,.n 3 30,.n 3 31,.n 3 32,.n 3 33,.n 3 34,.n 3 35,.n 3 36] (aBV 90 [qR 20] (aA9 [zV 2,zW 2,zQ 2,oM 2,o8 2,o7 2,o9 2,pq 2,pz 2,pg 2,wU 2] (.goto 0 [Da,CV,Pp,CG,pJ 2,zM,zM,zM,CG,xD,xD,CG,xD,xD,xD,xD,xD,zM,zM,zM,CG,pJ 3,zM,zM,zM,CG,xD,xD,CG,xD,xD,xD,xD,xD,zM,zM,zM,.c (oP 1),zM,Jk,zM]))))))))))))))))))))))),GD q45 aqk⟩
theorem qc:(T nat).G.fn 45=some t45:=by kernel_rfl
theorem O8:okQ q45 aqk=true:=by kernel_rfl
theorem Cb (ws:List W) (hl:ws.length=41):bR (T nat).G 45 0 ws=aA (bq (T nat).G) (bR (T nat).G 45) C9 ws:=jo qc O8 rfl (b:=C9) (by kernel_rfl) (by kernel_rfl) ws hl
theorem ae7 (ws:List W) (hl:ws.length=38):bR (T nat).G 45 1 ws=aA (bq (T nat).G) (bR (T nat).G 45) Vu ws:=jo qc O8 rfl (b:=Vu) (by kernel_rfl) (by kernel_rfl) ws hl
theorem aeG (ws:List W) (hl:ws.length=41):bR (T nat).G 45 2 ws=aA (bq (T nat).G) (bR (T nat).G 45) UU ws:=jo qc O8 rfl (b:=UU) (by kernel_rfl) (by kernel_rfl) ws hl
theorem X6 (ws:List W) (hl:ws.length=42):bR (T nat).G 45 3 ws=aA (bq (T nat).G) (bR (T nat).G 45) Q0 ws:=jo qc O8 rfl (b:=Q0) (by kernel_rfl) (by kernel_rfl) ws hl
theorem afy (ws:List W) (hl:ws.length=41):bR (T nat).G 45 4 ws=aA (bq (T nat).G) (bR (T nat).G 45) V4 ws:=jo qc O8 rfl (b:=V4) (by kernel_rfl) (by kernel_rfl) ws hl
theorem Y2 (ws:List W) (hl:ws.length=43):bR (T nat).G 45 5 ws=aA (bq (T nat).G) (bR (T nat).G 45) QC ws:=jo qc O8 rfl (b:=QC) (by kernel_rfl) (by kernel_rfl) ws hl
theorem YB (ws:List W) (hl:ws.length=44):bR (T nat).G 45 6 ws=aA (bq (T nat).G) (bR (T nat).G 45) KM ws:=jo qc O8 rfl (b:=KM) (by kernel_rfl) (by kernel_rfl) ws hl
theorem afk (ws:List W) (hl:ws.length=41):bR (T nat).G 45 8 ws=aA (bq (T nat).G) (bR (T nat).G 45) UL ws:=jo qc O8 rfl (b:=UL) (by kernel_rfl) (by kernel_rfl) ws hl
theorem TD (ws:List W) (hl:ws.length=43):bR (T nat).G 45 10 ws=aA (bq (T nat).G) (bR (T nat).G 45) JO ws:=jo qc O8 rfl (b:=JO) (by kernel_rfl) (by kernel_rfl) ws hl
theorem ahB (ws:List W) (hl:ws.length=44):bR (T nat).G 45 14 ws=aA (bq (T nat).G) (bR (T nat).G 45) Rw ws:=jo qc O8 rfl (b:=Rw) (by kernel_rfl) (by kernel_rfl) ws hl
end Go.Ey.Pr
