/- A part. -/
import Derived.Test.YtolnnaanmfnkjaaGreatDoorY27
set_option linter.all false
namespace Go.Ey
structure HQ where
 cls:Nat
 pm:List Nat
 tg:List Nat
def nN {α:Type} (pm:List Nat) (l:List α):List α:=pm.filterMap fun q=>l[q]?
def Tq (pm:List Nat):List Nat:=(List.range pm.length).map fun q=>pm.idxOf q
def rnV (σ:List Nat) (i:Nat):Nat:=(σ[i]?).getD i
def kK (σ:List Nat):At->At
 |.v i=> .v (rnV σ i)
 |.n i j=> .n (rnV σ i) j
 |.k v=> .k v
 |.z=> .z
def Ta (σ:List Nat):SL->SL
 |.lit aY=> .lit (aY.map (kK σ))
 |.all i=> .all (rnV σ i)
def akJ (σ:List Nat):OpC->OpC
 |.bin op K4 a b=> .bin op K4 (kK σ a) (kK σ b)
 |.un op a=> .un op (kK σ a)
 |.conv k a=> .conv k (kK σ a)
 |.eqs ks neg aY bs=> .eqs ks neg (Ta σ aY) (Ta σ bs)
 |.len b a=> .len b (kK σ a)
 |.app ay bytes s t=> .app ay bytes (kK σ s) (kK σ t)
 |.set ay s i off vs=> .set ay (kK σ s) (kK σ i) off (vs.map (kK σ))
 |.sub ay s lo hi=> .sub ay (kK σ s) (lo.map (kK σ)) (hi.map (kK σ))
 |.clip ay s lo hi mx=> .clip ay (kK σ s) (lo.map (kK σ)) (kK σ hi) (kK σ mx)
 |.Mq s lo hi=> .Mq (kK σ s) (lo.map (kK σ)) (hi.map (kK σ))
 |.Ct s i=> .Ct (kK σ s) (kK σ i)
 |.toStr s=> .toStr (kK σ s)
 |.mk ay bytes zero l c=> .mk ay bytes zero (kK σ l) (kK σ c)
 |.R6 ay d s=> .R6 ay (kK σ d) (kK σ s)
 |.cnt ay d s=> .cnt ay (kK σ d) (kK σ s)
 |.mm isMax a b=> .mm isMax (kK σ a) (kK σ b)
 |.lits ay len xs=> .lits ay len (xs.map (kK σ))
def adX (σ:List Nat):TV->TV
 |.one a=> .one (kK σ a)
 |.agg s=> .agg (Ta σ s)
def ahj (σ:List Nat):TA->TA
 |.v x=> .v (adX σ x)
 |.ref b off=> .ref b off
def ahS (σ:List Nat):TW->TW
 |.c a=> .c (kK σ a)
 |.l s=> .l (Ta σ s)
def zx (tab:List HQ) (σ:List Nat):Tree->List Nat->Option (Tree×List Nat)
 |.fG o t,g=>(zx tab σ t g).map fun r=>(.fG (akJ σ o) r.1,r.2)
 |.row e s i t,g=>(zx tab σ t g).map fun r=>(.row e (kK σ s) (kK σ i) r.1,r.2)
 |.ite a t e,g=>(zx tab σ t g).bind fun r=>(zx tab σ e r.2).map fun q=>(.ite (kK σ a) r.1 q.1,q.2)
 |.call f args bs rs bl t,g=>(zx tab σ t g).map fun r=>(.call f (args.map (ahj σ)) (bs.map (Ta σ)) rs bl r.1,r.2)
 |.goto c args,h::g=>(tab[h]?).bind fun e=>cond (e.cls==c && args.length==e.pm.length) (some (.goto h (nN e.pm (args.map (ahS σ))),g)) none
 |.goto _ _,[]=>none
 |.ret rs bs,g=>some (.ret (rs.map (adX σ)) (bs.map (Ta σ)),g)
 |.fail,g=>some (.fail,g)
def PK:List (Nat×Tree)->Nat->Option Tree
 |[],_=>none
 |(c,t)::bs,i=>cond (c==i) (some t) (PK bs i)
def aa4 (tab:List HQ) (bs:List (Nat×Tree)) (e:HQ):Option (Tree×List Nat):=(PK bs e.cls).bind fun b=>zx tab (Tq e.pm) b e.tg
def KM (tab:List HQ) (bs:List (Nat×Tree)):List Tree:=tab.map fun e=>match aa4 tab bs e with|some r=>r.1|none=> .fail
def R5 (pm:List Nat):Bool:=pm.all (fun q=>decide (q < pm.length)) && (List.range pm.length).all fun q=>pm.contains q
def okQ (tab:List HQ) (bs:List (Nat×Tree)):Bool:=tab.all fun e=>R5 e.pm && ((aa4 tab bs e).isSome && (match tab[e.cls]? with|some e'=>e'.cls==e.cls && e'.pm==List.range e.pm.length|none=>false))
theorem Nb:∀(l:List W) (i:Nat),jm l i=l[i]?
 |[],i=>by simp [jm]
 |w::l,0=>by simp [jm]
 |w::l,i+1=>by rw [jm,Nb l i];simp
structure Rn (σ:List Nat) (ρ ρ':List W):Prop where
 len:ρ.length=ρ'.length
 le:σ.length<=ρ.length
 lt:∀x∈σ,x < σ.length
 get:∀i,jm ρ (rnV σ i)=jm ρ' i
theorem Zz {σ:List Nat} {i:Nat} (h:σ.length<=i):rnV σ i=i:=by simp [rnV,Hj h]
theorem alG {σ:List Nat} (hl:∀x∈σ,x < σ.length) {i n:Nat} (hn:σ.length<=n) (h:i < n):rnV σ i < n:=by
 by_cases hi:i < σ.length
 ·have:rnV σ i=σ[i]:=by simp [rnV,Ax hi]
  rw [this];exact Fk (hl _ (A5 hi)) hn
 ·rw [Zz (by omega)];exact h
theorem Rn.push {σ:List Nat} {ρ ρ':List W} (h:Rn σ ρ ρ') (w:W):Rn σ (ρ++[w]) (ρ'++[w]):=by
 refine ⟨by simp [h.len],by have:=h.le;simp;omega,h.lt,fun i=>?_⟩
 have hg:=h.get i;have hl:=h.len;simp only [Nb] at hg |-;by_cases hi:i < ρ.length
 ·rw [Ge (alG h.lt h.le hi),Ge (by omega),hg]
 ·rw [Zz (by have:=h.le;omega),Hv (by omega),Hv (by omega),hl]
variable {σ:List Nat} {ρ ρ':List W}
theorem Ow (h:Rn σ ρ ρ') (a:At):dW ρ (kK σ a)=dW ρ' a:=by cases a<;>simp [kK,dW,h.get]
theorem ZL (h:Rn σ ρ ρ'):∀aY:List At,nI ρ (aY.map (kK σ))=nI ρ' aY
 |[]=>rfl
 |a::aY=>by simp only [Cp,nI,Ow h,ZL h aY]
theorem arC (h:Rn σ ρ ρ') (a:Option At):MS ρ (a.map (kK σ))=MS ρ' a:=by cases a<;>simp [MS,Ow h]
theorem aaO (h:Rn σ ρ ρ') (s:SL):TF ρ (Ta σ s)=TF ρ' s:=by cases s<;>simp [Ta,TF,h.get,ZL h]
theorem YH (h:Rn σ ρ ρ'):∀ss:List SL,FL ρ (ss.map (Ta σ))=FL ρ' ss
 |[]=>rfl
 |s::ss=>by simp only [Cp,FL,aaO h,YH h ss]
theorem apR (h:Rn σ ρ ρ') (o:OpC):eF ρ (akJ σ o)=eF ρ' o:=by cases o<;>simp only [akJ,eF,Ow h,ZL h,arC h,aaO h]
theorem ajn (h:Rn σ ρ ρ') (x:TV):Wn ρ (adX σ x)=Wn ρ' x:=by cases x<;>simp only [adX,Wn,Ow h,aaO h]
theorem adZ (h:Rn σ ρ ρ'):∀l:List TV,Es ρ (l.map (adX σ))=Es ρ' l
 |[]=>rfl
 |s::ss=>by simp only [Cp,Es,ajn h,adZ h ss]
theorem am9 (h:Rn σ ρ ρ') (x:TA):YX ρ (ahj σ x)=YX ρ' x:=by cases x<;>simp only [ahj,YX,ajn h]
theorem afo (h:Rn σ ρ ρ'):∀l:List TA,wC ρ (l.map (ahj σ))=wC ρ' l
 |[]=>rfl
 |s::ss=>by simp only [Cp,wC,am9 h,afo h ss]
theorem apY (h:Rn σ ρ ρ') (x:TW):twD ρ (ahS σ x)=twD ρ' x:=by cases x<;>simp only [ahS,twD,Ow h,aaO h]
theorem ae1 (h:Rn σ ρ ρ'):∀l:List TW,iA ρ (l.map (ahS σ))=iA ρ' l
 |[]=>rfl
 |s::ss=>by simp only [Cp,iA,apY h,ae1 h ss]
theorem KR {α:Type} {vs:List V} {k k':List W->Option α} (hk:∀ρ ρ',Rn σ ρ ρ'->k ρ=k' ρ'):∀(ss:List (Option Nat)) (j:Nat) (ρ ρ':List W),Rn σ ρ ρ'->gm vs k ss j ρ=gm vs k' ss j ρ'
 |[],_,ρ,ρ',h=>hk ρ ρ' h
 |none::ss,j,ρ,ρ',h=>by simp only [gm];congr 1;funext c;exact KR hk ss (j+1) _ _ (h.push _)
 |some m::ss,j,ρ,ρ',h=>by simp only [gm];congr 1;funext c;exact KR hk ss (j+1) _ _ (h.push _)
theorem QO {α:Type} {bs:List (List C)} {k k':List W->Option α} (hk:∀ρ ρ',Rn σ ρ ρ'->k ρ=k' ρ'):∀(ss:List Nat) (j:Nat) (ρ ρ':List W),Rn σ ρ ρ'->jo bs k ss j ρ=jo bs k' ss j ρ'
 |[],_,ρ,ρ',h=>hk ρ ρ' h
 |_::ss,j,ρ,ρ',h=>by simp only [jo];congr 1;funext c;exact QO hk ss (j+1) _ _ (h.push _)
theorem RX {α:Type} {l:List α}:∀{pm:List Nat},(∀q∈pm,q < l.length)->(nN pm l).length=pm.length
 |[],_=>rfl
 |q::pm,h=>by
  have:=RX (l:=l) (pm:=pm) fun x hx=>h x (by simp [hx])
  simp only [nN] at this |-;rw [List.filterMap_cons,Ax (h q (by simp))]
  simp [this]
theorem LB {α:Type} {l:List α}:∀{pm:List Nat},(∀q∈pm,q < l.length)->∀p:Nat,(nN pm l)[p]?=(pm[p]?).bind fun q=>l[q]?
 |[],_,p=>by simp [nN]
 |q::pm,h,p=>by
  have ih:=LB (l:=l) (pm:=pm) fun x hx=>h x (by simp [hx])
  have hq:=Ax (h q (by simp))
  have e:nN (q::pm) l=l[q]'(h q (by simp))::nN pm l:=by simp only [nN];rw [List.filterMap_cons,hq]
  rw [e];cases p with
  |zero=>simp [hq]
  |succ p=>simpa using ih p
theorem Mc {α:Type} (l:List α):nN (List.range l.length) l=l:=by
 refine List.ext_getElem? fun i=>?_
 rw [LB (by simp)]
 by_cases h:i < l.length
 ·simp [h]
 ·rw [Hj (by simpa using h),Hj (by omega)];rfl
theorem ab9 {ρ:List W} {A:List TW} {ws:List W} (h:iA ρ A=some ws):∀pm:List Nat,iA ρ (nN pm A)=some (nN pm ws):=by
 have key:∀(A:List TW) (ws:List W),iA ρ A=some ws->∀q:Nat,(A[q]?=none/\ws[q]?=none)\/∃a w,A[q]?=some a/\ws[q]?=some w/\twD ρ a=some w:=by
  intro A;induction A with
  |nil=>
   intro ws h q;simp only [iA,A0] at h;subst h;exact .inl ⟨by simp,by simp⟩
  |cons a A ih=>
   intro ws h q;simp only [iA,A1,A0] at h;obtain ⟨w,h1,ws',h2,rfl⟩:=h;cases q with
   |zero=>exact .inr ⟨a,w,by simp,by simp,h1⟩
   |succ q=>simpa using ih ws' h2 q
 intro pm;induction pm with
 |nil=>rfl
 |cons q pm ih=>
  simp only [nN] at ih |-;rw [List.filterMap_cons,List.filterMap_cons];rcases key A ws h q with ⟨h1,h2⟩|⟨a,w,h1,h2,h3⟩
  ·rw [h1,h2];exact ih
  ·rw [h1,h2];simp only [iA,h3,ih,A4]
theorem Kc {ρ:List W}:∀{A:List TW},iA ρ A=none↔∃a∈A,twD ρ a=none
 |[]=>by simp [iA]
 |a::A=>by
  simp only [iA,D1,exists_eq_or_imp];cases h:twD ρ a with
  |none=>simp
  |some w=>
   have:=Kc (ρ:=ρ) (A:=A)
   cases h2:iA ρ A with
   |none=>simp [<-this,h2]
   |some ws=>rw [h2] at this;simpa using this
theorem aqd {pm:List Nat} (h:R5 pm=true):∀q∈pm,q < pm.length:=by simp only [R5,As,E0,F1] at h;exact h.1
theorem afU {pm:List Nat} (h:R5 pm=true):∀q,q < pm.length->q∈pm:=by simp only [R5,As,E0,F1,Ks,List.contains_iff_mem] at h;exact h.2
theorem acu {ρ:List W} {A:List TW} {pm:List Nat} (hl:A.length=pm.length) (hp:R5 pm=true) {k k':List W->Option R} (hk:∀ws,ws.length=pm.length->k (nN pm ws)=k' ws):
  (iA ρ (nN pm A)).bind k=(iA ρ A).bind k':=by
 cases h:iA ρ A with
 |some ws=>
  have hlen:ws.length=A.length:=by
   have:∀(A:List TW) (ws:List W),iA ρ A=some ws->ws.length=A.length:=by
    intro A;induction A with
    |nil=>intro ws h;simp only [iA,A0] at h;subst h;rfl
    |cons a A ih=>
     intro ws h;simp only [iA,A1,A0] at h;obtain ⟨w,h1,ws',h2,rfl⟩:=h;simp [ih ws' h2]
   exact this A ws h
  rw [ab9 h pm];exact hk ws (by omega)
 |none=>
  obtain ⟨a,ha,h2⟩:=Kc.1 h;obtain ⟨i,hi,rfl⟩:=List.getElem_of_mem ha;have hm:A[i]∈nN pm A:=by simp only [nN,List.mem_filterMap];exact ⟨i,afU hp i (by omega),Ax hi⟩
  rw [Kc.2 ⟨_,hm,h2⟩];rfl
theorem Be {tab:List HQ} (hv:∀e∈tab,R5 e.pm=true) {call:qM} {head hq:ug} (hh:∀(h:Nat) (e:HQ),tab[h]?=some e->∀ws:List W,ws.length=e.pm.length->head h (nN e.pm ws)=hq e.cls ws):
  ∀(t:Tree) (g:List Nat) (t':Tree) (g':List Nat),zx tab σ t g=some (t',g')->∀ρ ρ',Rn σ ρ ρ'->aR call head t' ρ=aR call hq t ρ'
 |.fG o t,g,t',g',hi,ρ,ρ',h=>by simp only [zx,Fc] at hi;obtain ⟨r,h1,h2⟩:=hi;injection h2 with h2 h3;subst h2;simp only [aR,apR h];congr 1;funext c;exact Be hv hh t g r.1 r.2 h1 _ _ (h.push _)
 |.row e s i t,g,t',g',hi,ρ,ρ',h=>by simp only [zx,Fc] at hi;obtain ⟨r,h1,h2⟩:=hi;injection h2 with h2 h3;subst h2;simp only [aR,Ow h];congr 1;funext c;exact Be hv hh t g r.1 r.2 h1 _ _ (h.push _)
 |.ite a t e,g,t',g',hi,ρ,ρ',h=>by simp only [zx,A1,Fc] at hi;obtain ⟨r,h1,q,h2,h3⟩:=hi;injection h3 with h3 h4;subst h3;simp only [aR,Ow h];congr 1;funext c;rw [Be hv hh t g r.1 r.2 h1 _ _ h,Be hv hh e r.2 q.1 q.2 h2 _ _ h]
 |.call f args bs rs bl t,g,t',g',hi,ρ,ρ',h=>by simp only [zx,Fc] at hi;obtain ⟨r,h1,h2⟩:=hi;injection h2 with h2 h3;subst h2;simp only [aR,afo h,YH h];congr 1;funext aY;congr 1;funext xs;congr 1;funext q;congr 1;exact KR (fun ρ ρ' h=>QO (fun ρ ρ' h=>Be hv hh t g r.1 r.2 h1 _ _ h) _ _ _ _ h) _ _ _ _ h
 |.goto c args,[],t',g',hi,ρ,ρ',h=>by simp [zx] at hi
 |.goto c args,k::g,t',g',hi,ρ,ρ',h=>by
  simp only [zx,A1] at hi;obtain ⟨e,h1,h2⟩:=hi;cases hc:(e.cls==c && args.length==e.pm.length) with
  |false=>rw [hc] at h2;cases h2
  |true=>
   rw [hc,Fi] at h2;injection h2 with h2;injection h2 with h2 h3;subst h2;simp only [As,Lw] at hc;simp only [aR];rw [<-ae1 h,<-hc.1];exact acu (by simpa using hc.2) (hv e (C7 h1)) (hh k e h1)
 |.ret rs bs,g,t',g',hi,ρ,ρ',h=>by simp only [zx,A0,A3] at hi;obtain ⟨rfl,rfl⟩:=hi;simp only [aR,adZ h,YH h]
 |.fail,g,t',g',hi,ρ,ρ',h=>by simp only [zx,A0,A3] at hi;obtain ⟨rfl,rfl⟩:=hi;rfl
theorem ajC {pm:List Nat} (hp:R5 pm=true) {ws:List W} (hl:ws.length=pm.length):Rn (Tq pm) (nN pm ws) ws:=by
 have hlt:=aqd hp;have hmem:=afU hp;have hlen:(nN pm ws).length=pm.length:=RX fun q hq=>by rw [hl];exact hlt q hq
 refine ⟨by omega,by simp [Tq,hlen],fun x hx=>?_,fun i=>?_⟩
 ·simp only [Tq,Kf,Ks] at hx;obtain ⟨q,hq,rfl⟩:=hx;simp only [Tq,Mn,List.length_range];exact List.idxOf_lt_length_of_mem (hmem q hq)
 ·rw [Nb,Nb,LB fun q hq=>by rw [hl];exact hlt q hq]
  by_cases hi:i < pm.length
  ·have e:rnV (Tq pm) i=pm.idxOf i:=by simp [rnV,Tq,hi]
   have h2:pm.idxOf i < pm.length:=List.idxOf_lt_length_of_mem (hmem i hi);rw [e,Ax h2,A4,List.getElem_idxOf h2]
  ·rw [Zz (by simp [Tq];omega),Hj (by omega),Hj (by omega)];rfl
variable {G:GT} {f:Nat} {tf:bO} {tab:List HQ} {bs:List (Nat×Tree)}
theorem T9 (hok:okQ tab bs=true):∀e∈tab,R5 e.pm=true:=fun e he=>by simp only [okQ,E0,As] at hok;exact (hok e he).1
theorem WK (hok:okQ tab bs=true) (ht:tf.heads=KM tab bs) {h:Nat} {e:HQ} (he:tab[h]?=some e):∃b t g,PK bs e.cls=some b/\zx tab (Tq e.pm) b e.tg=some (t,g)/\tf.heads[h]?=some t:=by
 simp only [okQ,E0,As] at hok;have h1:=(hok e (C7 he)).2.1;cases hq:aa4 tab bs e with
 |none=>rw [hq] at h1;cases h1
 |some r=>
  have hq':=hq;simp only [aa4,A1] at hq';obtain ⟨b,h2,h3⟩:=hq';refine ⟨b,r.1,r.2,h2,h3,?_⟩;rw [ht,KM,List.getElem?_map,he];simp [hq]
theorem aaS (hok:okQ tab bs=true) {h:Nat} {e:HQ} (he:tab[h]?=some e):∃e',tab[e.cls]?=some e'/\e'.cls=e.cls/\e'.pm=List.range e.pm.length:=by
 simp only [okQ,E0,As] at hok;have h1:=(hok e (C7 he)).2.2;cases hq:tab[e.cls]? with
 |none=>rw [hq] at h1;cases h1
 |some e'=>
  rw [hq] at h1;simp only [As,Lw] at h1;exact ⟨e',rfl,h1.1,h1.2⟩
theorem Vp (hf:G.fn f=some tf) (hok:okQ tab bs=true) (ht:tf.heads=KM tab bs):∀(n h:Nat) (e:HQ),tab[h]?=some e->∀ws:List W,ws.length=e.pm.length->kY G n f h (nN e.pm ws)=kY G n f e.cls ws
 |0,h,e,he,ws,hl=>rfl
 |n+1,h,e,he,ws,hl=>by
  have one:∀(h:Nat) (e:HQ),tab[h]?=some e->ws.length=e.pm.length->∃b,PK bs e.cls=some b/\kY G (n+1) f h (nN e.pm ws)=aR (runT G n) (kY G n f) b ws:=fun h e he hl=>by obtain ⟨b,t,g,h1,h2,h3⟩:=WK hok ht he;refine ⟨b,h1,?_⟩;rw [kY,hf,A4,h3,A4];exact Be (T9 hok) (Vp hf hok ht n) b e.tg t g h2 _ _ (ajC (T9 hok e (C7 he)) hl)
  obtain ⟨e',r1,r2,r3⟩:=aaS hok he;obtain ⟨b,b1,b2⟩:=one h e he hl;obtain ⟨b',c1,c2⟩:=one e.cls e' r1 (by rw [r3];simpa using hl)
  rw [r2,b1] at c1;injection c1 with c1;subst c1;rw [r3,<-hl,Mc] at c2;rw [b2,c2]
theorem ahQ (hf:G.fn f=some tf) (hok:okQ tab bs=true) (ht:tf.heads=KM tab bs) (h:Nat) (e:HQ) (he:tab[h]?=some e) (ws:List W) (hl:ws.length=e.pm.length):bn G f h (nN e.pm ws)=bn G f e.cls ws:=by unfold bn;congr 1;funext n;exact Vp hf hok ht n h e he ws hl
theorem Co (hf:G.fn f=some tf) (hok:okQ tab bs=true) (ht:tf.heads=KM tab bs) {c n:Nat} {b:Tree} (hb:PK bs c=some b) (hc:(match tab[c]? with|some e=>e.cls==c && e.pm.length==n|none=>false)=true) (ws:List W) (hl:ws.length=n):
  bn G f c ws=aR (bz G) (bn G f) b ws:=by
 cases he:tab[c]? with
 |none=>rw [he] at hc;cases hc
 |some e=>
  rw [he] at hc;simp only [As,Lw] at hc;obtain ⟨rfl,rfl⟩:=hc;obtain ⟨b',t,g,h1,h2,h3⟩:=WK hok ht he;rw [hb] at h1;injection h1 with h1;subst h1;obtain ⟨e',r1,r2,r3⟩:=aaS hok he;rw [he] at r1;injection r1 with r1;subst r1;have hr:=ajC (T9 hok _ (C7 he)) hl;rw [r3,<-hl,Mc] at hr;rw [ai hf h3];refine Be (T9 hok) (ahQ hf hok ht) b e.tg t g h2 _ _ ?_;rw [r3,<-hl];exact hr
end Go.Ey
set_option maxRecDepth 100000
set_option maxHeartbeats 4000000
namespace Go.Ey.Pr
open Go.Ey Go.Ey.Rz Go.Ey.Seat
variable {nat:Nat->List V->Option (List V)}
def Eb:Tree:=.fG (.len false (zQ 21)) (pI .lss (.v 3) (.v 41) (pK 42 (sG 2 (zQ 21) 3 (Y9 4 3 (qI 13 1 [zV 43,zW 43,zV 44,zW 44,zQ 44,qj 44,qx 44,qp 44,qo 44,qy 44,qA 44,qz 44,wU 44] (QI 13 208 22 45 (zJ 1 1 3 (.ite (zV 47) (Y9 4 3 (pI .neq (zV 48) (oP 1) (aBg 49 [xC [.z,.z,.z,EI,oQ,oQ,EI,oQ,oQ,oQ,oQ,oQ,.z,.z,.z,EI],aB1] (Y9 4 3 (aBV 65 [qR 23,aBI [zW 50,zQ 50]] (aBg 51 [xC [.z,.z,.z,EI,oQ,oQ,EI,oQ,oQ,oQ,oQ,oQ,.z,.z,.z,EI],aB1] (Y9 4 3 (qI 2 1 [zW 52,zQ 52] (QI 2 32 23 53 (zJ 1 1 3 (.ite (zV 55) (Y9 4 3 (qI 2 1 [zW 56,zQ 56] (QI 2 32 40 57 (pI .add (.v 3) (oP 1) (.goto 0 [zY,EL,zG,iP 59,pJ 4,iP 5,iP 6,IB,EM,EG,EE,EZ,FU,FI,Fg,Fp,D9,DK,zX,Eo,ED,UB,iP 46,iP 54,He,EF,Ep,Eh,Er,FO,EK,EA,EC,EB,Ew,EJ,F3,Ih,Mo,IC,iP 58]))))) (Y9 4 3 (aA9 [zV 56,zW 56,zQ 56,qj 56,qx 56,qp 56,qo 56,qy 56,qA 56,qz 56,wU 56] (QI 11 176 38 57 (pI .add (.v 3) (oP 1) (.goto 0 [zY,EL,zG,iP 59,pJ 4,iP 5,iP 6,IB,EM,EG,EE,EZ,FU,FI,Fg,Fp,D9,DK,zX,Eo,ED,UB,iP 46,iP 54,He,EF,Ep,Eh,Er,FO,EK,EA,EC,EB,Ew,EJ,F3,Ih,iP 58,IC,Jj])))))))))))))))) (sG 2 (zQ 21) 3 (aBV 65 [qR 2,uT 48] (pK 49 (Y9 4 3 (pI .neq (zV 50) (oP 1) (aBg 51 [xC [.z,.z,.z,EI,oQ,oQ,EI,oQ,oQ,oQ,oQ,oQ,.z,.z,.z,EI],aB1] (Y9 4 3 (aBV 65 [qR 23,aBI [zW 52,zQ 52]] (aBg 53 [xC [.z,.z,.z,EI,oQ,oQ,EI,oQ,oQ,oQ,oQ,oQ,.z,.z,.z,EI],aB1] (Y9 4 3 (qI 2 1 [zW 54,zQ 54] (QI 2 32 23 55 (zJ 1 1 3 (.ite (zV 57) (Y9 4 3 (qI 2 1 [zW 58,zQ 58] (QI 2 32 40 59 (pI .add (.v 3) (oP 1) (.goto 0 [zY,EL,zG,iP 61,pJ 4,iP 5,iP 6,IB,EM,EG,EE,EZ,FU,FI,Fg,Fp,D9,DK,zX,Eo,ED,UB,iP 46,iP 56,He,EF,Ep,Eh,Er,FO,EK,EA,EC,EB,Ew,EJ,F3,Ih,Mo,IC,iP 60]))))) (Y9 4 3 (aA9 [zV 58,zW 58,zQ 58,qj 58,qx 58,qp 58,qo 58,qy 58,qA 58,qz 58,wU 58] (QI 11 176 38 59 (pI .add (.v 3) (oP 1) (.goto 0 [zY,EL,zG,iP 61,pJ 4,iP 5,iP 6,IB,EM,EG,EE,EZ,FU,FI,Fg,Fp,D9,DK,zX,Eo,ED,UB,iP 46,iP 56,He,EF,Ep,Eh,Er,FO,EK,EA,EC,EB,Ew,EJ,F3,Ih,iP 60,IC,Jj])))))))))))))))) (zJ 1 1 3 (.ite (zV 50) (Y9 4 3 (qI 2 1 [zW 51,zQ 51] (QI 2 32 40 52 (pI .add (.v 3) (oP 1) (.goto 0 [zY,EL,zG,iP 54,pJ 4,iP 5,iP 6,IB,EM,EG,EE,EZ,FU,FI,Fg,Fp,D9,DK,zX,Eo,ED,UB,iP 46,OC,He,EF,Ep,Eh,Er,FO,EK,EA,EC,EB,Ew,EJ,F3,Ih,Mo,IC,iP 53]))))) (Y9 4 3 (aA9 [zV 51,zW 51,zQ 51,qj 51,qx 51,qp 51,qo 51,qy 51,qA 51,qz 51,wU 51] (QI 11 176 38 52 (pI .add (.v 3) (oP 1) (.goto 0 [zY,EL,zG,iP 54,pJ 4,iP 5,iP 6,IB,EM,EG,EE,EZ,FU,FI,Fg,Fp,D9,DK,zX,Eo,ED,UB,iP 46,OC,He,EF,Ep,Eh,Er,FO,EK,EA,EC,EB,Ew,EJ,F3,Ih,iP 53,IC,Jj])))))))))))))))) (aBV 90 [qR 38] (.call 59 [qR 40,qR 43] [] [none] [] (aBg 44 [xC [.z,.z,.z,EI,oQ,oQ,EI,oQ,oQ,oQ,oQ,oQ,.z,.z,.z,EI],aB1] (aBe 77 (aBI [.n 21 26,.n 21 27,.n 21 28,.n 21 29,.n 21 30,.n 21 31,.n 21 32,.n 21 33,.n 21 34,.n 21 35,.n 21 36]) 22 (.goto 1 [zY,EL,En,pJ 4,iP 5,iP 6,IB,EM,EG,EE,EZ,FU,FI,Fg,Fp,D9,DK,zX,Eo,ED,UB,KU,iP 43,.c (zV 45),.c (zW 45),.c (zQ 45),.c (qj 45),.c (qx 45),.c (qp 45),.c (qo 45),.c (qy 45),.c (qA 45),.c (qz 45),.c (wU 45),Ih,IC,Jj,F3])))))))
def Wu:Tree:=aBP 0 2 38 (pK 39 (.goto 2 [zY,EL,zG,En,pJ 3,iP 4,iP 5,iP 6,IB,EM,EG,EE,EZ,FU,FI,Fg,Fp,D9,DK,zX,Eo,pJ 20,P8,KU,OC,He,EF,Ep,Eh,Er,FO,EK,EA,EC,EB,Ew,zM,EJ,F3,Ih,zM]) (aAP [xC [.v 35,.v 36,.v 22,.v 23,.v 24,.v 25,.v 26,.v 27,.v 28,.v 29,.v 30,.v 31,.v 32,.v 33,.v 37,.v 34],.one (.k (.bool true))]))
def UD:Tree:=zJ 2 0 2 (.fG (.len false (zV 41)) (pI .lss (.v 3) (.v 42) (pK 43 (zJ 2 0 2 (sG 11 (zV 44) 3 (aBe 77 (uT 45) 22 (.goto 3 [zY,EL,zG,iP 3,pJ 4,iP 5,iP 6,IB,EM,EG,EE,EZ,FU,FI,Fg,Fp,D9,DK,zX,Eo,ED,UB,KU,OC,He,EF,Ep,Eh,Er,FO,EK,EA,EC,EB,Ew,EJ,F3,pJ 46,Ih,Mo,IC,Jj])))) (.goto 8 [zY,EL,zG,En,pJ 4,iP 5,iP 6,IB,EM,EG,EE,EZ,FU,FI,Fg,Fp,D9,DK,zX,Eo,ED,UB,KU,OC,He,EF,Ep,Eh,Er,FO,EK,EA,EC,EB,Ew,EJ,F3,Ih,Mo,IC,Jj]))))
def Qz:Tree:=aBV 92 [uT 37,xE ⟨#[110,111,116]⟩,sN 1] (pK 42 (.row 11 (wU 37) EI (aBV 92 [uT 43,xE ⟨#[110,111,116]⟩,sN 1] (pK 44 (.row 11 (wU 37) EI (.row 11 (wU 45) EI (.goto 3 [zY,EL,zG,iP 3,pJ 4,iP 5,iP 6,IB,EM,EG,EE,EZ,FU,FI,Fg,Fp,D9,DK,zX,Eo,ED,UB,KU,OC,He,EF,Ep,Eh,Er,FO,EK,EA,EC,EB,Ew,EJ,F3,pJ 46,Mo,IC,Jj,Uc]))) (aA9 [zV 37,zW 37,zQ 37,qj 37,qx 37,qp 37,qo 37,qy 37,qA 37,qz 37,wU 37] (QI 11 176 41 45 (pI .add (.v 3) (oP 1) (.goto 2 [zY,EL,zG,iP 47,pJ 4,iP 5,iP 6,IB,EM,EG,EE,EZ,FU,FI,Fg,Fp,D9,DK,zX,Eo,ED,UB,KU,OC,He,EF,Ep,Eh,Er,FO,EK,EA,EC,EB,Ew,EJ,F3,Mo,IC,Jj,iP 46]))))))) (aA9 [zV 37,zW 37,zQ 37,qj 37,qx 37,qp 37,qo 37,qy 37,qA 37,qz 37,wU 37] (QI 11 176 41 43 (pI .add (.v 3) (oP 1) (.goto 2 [zY,EL,zG,iP 45,pJ 4,iP 5,iP 6,IB,EM,EG,EE,EZ,FU,FI,Fg,Fp,D9,DK,zX,Eo,ED,UB,KU,OC,He,EF,Ep,Eh,Er,FO,EK,EA,EC,EB,Ew,EJ,F3,Mo,IC,Jj,iP 44])))))
def WL:Tree:=zJ 2 0 2 (.fG (.len false (zW 41)) (pI .lss (.v 3) (.v 42) (pK 43 (.goto 5 [zY,EL,zG,iP 3,En,pJ 4,iP 5,iP 6,IB,EM,EG,EE,EZ,FU,FI,Fg,Fp,D9,DK,zX,Eo,ED,UB,KU,OC,He,EF,Ep,Eh,Er,FO,EK,EA,EC,EB,Ew,EJ,zM,F3,Ih,Mo,IC,Jj]) (qI 2 1 [.v 39,.v 40] (QI 2 48 38 44 (pI .add (.v 2) (oP 1) (.goto 1 [zY,EL,iP 46,pJ 4,iP 5,iP 6,IB,EM,EG,EE,EZ,FU,FI,Fg,Fp,D9,DK,zX,Eo,ED,UB,KU,OC,He,EF,Ep,Eh,Er,FO,EK,EA,EC,EB,Ew,EJ,F3,Ih,iP 45])))))))
def RO:Tree:=.fG (.len false (zQ 22)) (pI .lss (.v 4) (.v 43) (pK 44 (zJ 1 1 4 (.ite (zV 45) (sG 2 (zQ 22) 4 (zN 53 [uT 46] 11 (zJ 2 0 2 (sG 1 (zW 48) 3 (zN 77 [uT 47,nV (zV 49)] 11 (Y9 5 4 (aBe 77 (uT 50) 23 (qI 13 1 [zW 51,zQ 51,zV 52,zW 52,zQ 52,qj 52,qx 52,qp 52,qo 52,qy 52,qA 52,qz 52,wU 52] (QI 13 208 37 53 (pI .add (.v 4) (oP 1) (.goto 5 [zY,EL,zG,iP 3,iP 55,pJ 5,iP 6,IB,EM,EG,EE,EZ,FU,FI,Fg,Fp,D9,DK,zX,Eo,ED,P8,pJ 22,OC,He,EF,Ep,Eh,Er,FO,EK,EA,EC,EB,Ew,EJ,F3,iP 54,Mo,IC,Jj,Uc,Uv]))))))))))) (pI .add (.v 4) (oP 1) (.goto 5 [zY,EL,zG,iP 3,iP 46,pJ 5,iP 6,IB,EM,EG,EE,EZ,FU,FI,Fg,Fp,D9,DK,zX,Eo,ED,P8,pJ 22,OC,He,EF,Ep,Eh,Er,FO,EK,EA,EC,EB,Ew,EJ,F3,Ih,Mo,IC,Jj,Uc,Uv])))) (.goto 6 [zY,EL,zG,iP 3,.c (.k xG),En,pJ 5,iP 6,IB,EM,EG,EE,EZ,FU,FI,Fg,Fp,D9,DK,zX,Eo,ED,P8,pJ 22,OC,He,EF,Ep,Eh,Er,FO,EK,EA,EC,EB,Ew,EJ,F3,Ih,Mo,IC,Jj,Uc,Uv])))
def LF:Tree:=aBP 43 5 44 (pK 45 (aBH 4 (pK 46 (zJ 1 43 5 (zJ 1 43 5 (aBV 123 [nV (zV 48),qR 38] (pK 49 (zJ 1 43 5 (zJ 1 43 5 (aBV 123 [qR 38,nV (zV 51)] (pI .add (.v 5) (oP 1) (.goto 6 [zY,EL,zG,iP 3,iP 52,iP 53,pJ 6,IB,EM,EG,EE,EZ,FU,FI,Fg,Fp,D9,DK,zX,Eo,ED,P8,KU,pJ 23,He,EF,Ep,Eh,Er,FO,EK,EA,EC,EB,Ew,EJ,F3,Ih,Mo,IC,Jj,Uc,Uv,iP 43]))))) (pI .add (.v 5) (oP 1) (.goto 6 [zY,EL,zG,iP 3,.c (.k xG),iP 50,pJ 6,IB,EM,EG,EE,EZ,FU,FI,Fg,Fp,D9,DK,zX,Eo,ED,P8,KU,pJ 23,He,EF,Ep,Eh,Er,FO,EK,EA,EC,EB,Ew,EJ,F3,Ih,Mo,IC,Jj,Uc,Uv,iP 43])))))) (aBH 4 (pK 47 (qI 1 1 [.v 38] (QI 1 24 43 48 (pI .add (.v 3) (oP 1) (.goto 4 [zY,EL,zG,iP 50,pJ 6,IB,EM,EG,EE,EZ,FU,FI,Fg,Fp,D9,DK,zX,Eo,ED,P8,KU,pJ 23,He,EF,Ep,Eh,Er,FO,EK,EA,EC,EB,Ew,EJ,F3,Ih,IC,Jj,Uc,Uv,iP 49])))) (pI .add (.v 3) (oP 1) (.goto 4 [zY,EL,zG,iP 48,pJ 6,IB,EM,EG,EE,EZ,FU,FI,Fg,Fp,D9,DK,zX,Eo,ED,P8,KU,pJ 23,He,EF,Ep,Eh,Er,FO,EK,EA,EC,EB,Ew,EJ,F3,Ih,IC,Jj,Uc,Uv,iP 43])))))) (aBH 4 (pK 46 (qI 1 1 [.v 38] (QI 1 24 43 47 (pI .add (.v 3) (oP 1) (.goto 4 [zY,EL,zG,iP 49,pJ 6,IB,EM,EG,EE,EZ,FU,FI,Fg,Fp,D9,DK,zX,Eo,ED,P8,KU,pJ 23,He,EF,Ep,Eh,Er,FO,EK,EA,EC,EB,Ew,EJ,F3,Ih,IC,Jj,Uc,Uv,iP 48])))) (pI .add (.v 3) (oP 1) (.goto 4 [zY,EL,zG,iP 47,pJ 6,IB,EM,EG,EE,EZ,FU,FI,Fg,Fp,D9,DK,zX,Eo,ED,P8,KU,pJ 23,He,EF,Ep,Eh,Er,FO,EK,EA,EC,EB,Ew,EJ,F3,Ih,IC,Jj,Uc,Uv,iP 43])))))
def Wz:Tree:=zJ 2 0 2 (.fG (.len false (zW 41)) (pI .lss (.v 3) (.v 42) (pK 43 (.goto 10 [zY,EL,zG,iP 3,zM,En,pJ 4,iP 5,iP 6,IB,EM,EG,EE,EZ,FU,FI,Fg,Fp,D9,DK,zX,Eo,ED,UB,KU,OC,He,EF,Ep,Eh,Er,FO,EK,EA,EC,EB,Ew,EJ,F3,Ih,Mo,IC,Jj]) (qI 2 1 [.v 40,.v 36] (QI 2 48 39 44 (pI .add (.v 2) (oP 1) (.goto 1 [zY,EL,iP 46,pJ 4,iP 5,iP 6,IB,EM,EG,EE,EZ,FU,FI,Fg,Fp,D9,DK,zX,Eo,ED,UB,KU,OC,He,EF,Ep,Eh,Er,FO,EK,EA,EC,EB,Ew,EJ,Ih,Mo,iP 45])))))))
def KX:Tree:=.fG (.len false (zQ 23)) (pI .lss (.v 5) (.v 43) (pK 44 (zJ 1 1 5 (.ite (zV 45) (sG 2 (zQ 23) 5 (zN 53 [uT 46] 11 (zJ 2 0 2 (sG 1 (zW 48) 3 (zN 77 [uT 47,nV (zV 49)] 11 (Y9 6 5 (aBe 77 (uT 50) 24 (qI 13 1 [zW 51,zQ 51,zV 52,zW 52,zQ 52,qj 52,qx 52,qp 52,qo 52,qy 52,qA 52,qz 52,wU 52] (QI 13 208 4 53 (pI .add (.v 5) (oP 1) (.goto 10 [zY,EL,zG,iP 3,iP 54,iP 55,pJ 6,IB,EM,EG,EE,EZ,FU,FI,Fg,Fp,D9,DK,zX,Eo,ED,P8,KU,pJ 23,He,EF,Ep,Eh,Er,FO,EK,EA,EC,EB,Ew,EJ,F3,Ih,Mo,IC,Jj,Uc,Uv]))))))))))) (pI .add (.v 5) (oP 1) (.goto 10 [zY,EL,zG,iP 3,iP 4,iP 46,pJ 6,IB,EM,EG,EE,EZ,FU,FI,Fg,Fp,D9,DK,zX,Eo,ED,P8,KU,pJ 23,He,EF,Ep,Eh,Er,FO,EK,EA,EC,EB,Ew,EJ,F3,Ih,Mo,IC,Jj,Uc,Uv])))) (.goto 14 [zY,EL,zG,iP 3,iP 4,.c (.k xG),En,pJ 6,IB,EM,EG,EE,EZ,FU,FI,Fg,Fp,D9,DK,zX,Eo,ED,P8,KU,pJ 23,He,EF,Ep,Eh,Er,FO,EK,EA,EC,EB,Ew,EJ,F3,Ih,Mo,IC,Jj,Uc,Uv])))
def Um:Tree:=aBP 39 6 44 (pK 45 (aBH 5 (pK 46 (zJ 1 39 6 (aBV 123 [nV (zV 47),qR 4] (pK 48 (zJ 1 39 6 (aBV 123 [qR 4,nV (zV 49)] (pI .add (.v 6) (oP 1) (.goto 14 [zY,EL,zG,iP 3,iP 4,iP 50,iP 51,pJ 7,EM,EG,EE,EZ,FU,FI,Fg,Fp,D9,DK,zX,Eo,ED,P8,KU,OC,pJ 24,EF,Ep,Eh,Er,FO,EK,EA,EC,EB,Ew,EJ,F3,Ih,Mo,IC,Jj,Uc,Uv,iP 43])))) (pI .add (.v 6) (oP 1) (.goto 14 [zY,EL,zG,iP 3,iP 4,.c (.k xG),iP 49,pJ 7,EM,EG,EE,EZ,FU,FI,Fg,Fp,D9,DK,zX,Eo,ED,P8,KU,OC,pJ 24,EF,Ep,Eh,Er,FO,EK,EA,EC,EB,Ew,EJ,F3,Ih,Mo,IC,Jj,Uc,Uv,iP 43]))))) (aBH 5 (pK 47 (qI 1 1 [.v 4] (QI 1 24 39 48 (pI .add (.v 3) (oP 1) (.goto 4 [zY,EL,zG,iP 50,pJ 7,EM,EG,EE,EZ,FU,FI,Fg,Fp,D9,DK,zX,Eo,ED,P8,KU,OC,pJ 24,EF,Ep,Eh,Er,FO,EK,EA,EC,EB,Ew,EJ,F3,Ih,Mo,Jj,Uc,Uv,iP 43,iP 49])))) (pI .add (.v 3) (oP 1) (.goto 8 [zY,EL,zG,iP 48,pJ 7,EM,EG,EE,EZ,FU,FI,Fg,Fp,D9,DK,zX,Eo,ED,P8,KU,OC,pJ 24,EF,Ep,Eh,Er,FO,EK,EA,EC,EB,Ew,EJ,F3,Ih,Mo,IC,Jj,Uc,Uv,iP 43])))))) (aBH 5 (pK 46 (qI 1 1 [.v 4] (QI 1 24 39 47 (pI .add (.v 3) (oP 1) (.goto 4 [zY,EL,zG,iP 49,pJ 7,EM,EG,EE,EZ,FU,FI,Fg,Fp,D9,DK,zX,Eo,ED,P8,KU,OC,pJ 24,EF,Ep,Eh,Er,FO,EK,EA,EC,EB,Ew,EJ,F3,Ih,Mo,Jj,Uc,Uv,iP 43,iP 48])))) (pI .add (.v 3) (oP 1) (.goto 8 [zY,EL,zG,iP 47,pJ 7,EM,EG,EE,EZ,FU,FI,Fg,Fp,D9,DK,zX,Eo,ED,P8,KU,OC,pJ 24,EF,Ep,Eh,Er,FO,EK,EA,EC,EB,Ew,EJ,F3,Ih,Mo,IC,Jj,Uc,Uv,iP 43])))))
def aog:List (Nat×Tree):=[(0,Eb),(1,Wu),(2,UD),(3,Qz),(4,WL),(5,RO),(6,LF),(8,Wz),(10,KX),(14,Um)]
def q45:List HQ:=[⟨0,List.range 41,[0,0,0,0,0,0,7]⟩,
 ⟨1,List.range 38,[2]⟩,
 ⟨2,List.range 41,[3,8]⟩,
 ⟨3,List.range 42,[3,2,2]⟩,
 ⟨4,List.range 41,[5,1]⟩,
 ⟨5,List.range 43,[5,5,6]⟩,
 ⟨6,List.range 44,[6,6,4,4,4,4]⟩,
 ⟨1,(CQ 38 [(34,37)]),[9]⟩,
 ⟨8,List.range 41,[10,1]⟩,
 ⟨2,(CQ 41 [(35,39),(37,40)]),[11,12]⟩,
 ⟨10,List.range 43,[13,10,14]⟩,
 ⟨3,(CQ 42 [(35,40),(37,41)]),[11,15,15]⟩,
 ⟨8,(CQ 41 [(35,39),(37,40)]),[16,1]⟩,
 ⟨10,(CQ 43 [(4,5),(5,6),(6,7),(7,8),(8,9),(9,10),(10,11),(11,12),(12,13),(13,14),(14,15),(15,16),(16,17),(17,18),(18,19),(19,20),(20,21),(21,22),(22,23),(23,24),(24,25),(25,26),(26,27),(27,28),(28,29),(29,30),(30,31),(31,32),(32,33),(33,34),(34,35),(35,36),(36,37),(37,38)]),[13,13,17]⟩,
 ⟨14,List.range 44,[14,14,4,8,4,8]⟩,
 ⟨2,(CQ 41 [(35,39)]),[20,21]⟩,
 ⟨10,(CQ 43 [(37,41),(39,42)]),[22,16,23]⟩,
 ⟨14,(CQ 44 [(4,5),(5,6),(6,7),(7,8),(8,9),(9,10),(10,11),(11,12),(12,13),(13,14),(14,15),(15,16),(16,17),(17,18),(18,19),(19,20),(20,21),(21,22),(22,23),(23,24),(24,25),(25,26),(26,27),(27,28),(28,29),(29,30),(30,31),(31,32),(32,33),(33,34),(34,35),(35,36),(36,37),(37,38),(38,39)]),[17,17,4,8,4,8]⟩,
 ⟨2,(CQ 41 [(36,40)]),[24,25]⟩,
 ⟨5,(CQ 43 [(4,37)]),[5,19,26]⟩,
 ⟨3,(CQ 42 [(35,40)]),[20,15,15]⟩,
 ⟨8,(CQ 41 [(35,39)]),[27,1]⟩,
 ⟨10,(CQ 43 [(4,5),(5,6),(6,7),(7,8),(8,9),(9,10),(10,11),(11,12),(12,13),(13,14),(14,15),(15,16),(16,17),(17,18),(18,19),(19,20),(20,21),(21,22),(22,23),(23,24),(24,25),(25,26),(26,27),(27,28),(28,29),(29,30),(30,31),(31,32),(32,33),(33,34),(34,35),(35,36),(36,41),(37,38),(38,42),(39,40)]),[22,22,28]⟩,
 ⟨14,(CQ 44 [(38,42),(40,43)]),[23,23,29,12,29,12]⟩,
 ⟨3,(CQ 42 [(36,41)]),[24,2,2]⟩,
 ⟨8,(CQ 41 [(36,40)]),[30,1]⟩,
 ⟨6,(CQ 44 [(4,38)]),[26,26,4,4,4,4]⟩,
 ⟨10,(CQ 43 [(37,41)]),[31,27,32]⟩,
 ⟨14,(CQ 44 [(4,5),(5,6),(6,7),(7,8),(8,9),(9,10),(10,11),(11,12),(12,13),(13,14),(14,15),(15,16),(16,17),(17,18),(18,19),(19,20),(20,21),(21,22),(22,23),(23,24),(24,25),(25,26),(26,27),(27,28),(28,29),(29,30),(30,31),(31,32),(32,33),(33,34),(34,35),(35,36),(36,37),(37,42),(38,39),(39,43),(40,41)]),[28,28,29,12,29,12]⟩,
 ⟨4,(CQ 41 [(35,38),(37,39)]),[33,1]⟩,
 ⟨10,(CQ 43 [(38,42)]),[34,30,35]⟩,
 ⟨10,(CQ 43 [(4,5),(5,6),(6,7),(7,8),(8,9),(9,10),(10,11),(11,12),(12,13),(13,14),(14,15),(15,16),(16,17),(17,18),(18,19),(19,20),(20,21),(21,22),(22,23),(23,24),(24,25),(25,26),(26,27),(27,28),(28,29),(29,30),(30,31),(31,32),(32,33),(33,34),(34,35),(35,36),(36,41),(37,38),(38,39)]),[31,31,36]⟩,
 ⟨14,(CQ 44 [(38,42)]),[32,32,37,21,37,21]⟩,
 ⟨5,(CQ 43 [(4,37),(37,40),(39,41)]),[38,33,39]⟩,
 ⟨10,(CQ 43 [(4,5),(5,6),(6,7),(7,8),(8,9),(9,10),(10,11),(11,12),(12,13),(13,14),(14,15),(15,16),(16,17),(17,18),(18,19),(19,20),(20,21),(21,22),(22,23),(23,24),(24,25),(25,26),(26,27),(27,28),(28,29),(29,30),(30,31),(31,32),(32,33),(33,34),(34,35),(35,36),(36,37),(37,42),(38,39)]),[34,34,40]⟩,
 ⟨14,(CQ 44 [(39,43)]),[35,35,41,25,41,25]⟩,
 ⟨14,(CQ 44 [(4,5),(5,6),(6,7),(7,8),(8,9),(9,10),(10,11),(11,12),(12,13),(13,14),(14,15),(15,16),(16,17),(17,18),(18,19),(19,20),(20,21),(21,22),(22,23),(23,24),(24,25),(25,26),(26,27),(27,28),(28,29),(29,30),(30,31),(31,32),(32,33),(33,34),(34,35),(35,36),(36,37),(37,42),(38,39),(39,40)]),[36,36,37,21,37,21]⟩,
 ⟨4,(CQ 41 [(35,38)]),[42,1]⟩,
 ⟨5,(CQ 43 [(36,40),(38,41)]),[38,38,43]⟩,
 ⟨6,(CQ 44 [(4,38),(38,41),(40,42)]),[39,39,29,29,29,29]⟩,
 ⟨14,(CQ 44 [(4,5),(5,6),(6,7),(7,8),(8,9),(9,10),(10,11),(11,12),(12,13),(13,14),(14,15),(15,16),(16,17),(17,18),(18,19),(19,20),(20,21),(21,22),(22,23),(23,24),(24,25),(25,26),(26,27),(27,28),(28,29),(29,30),(30,31),(31,32),(32,33),(33,34),(34,35),(35,36),(36,37),(37,38),(38,43),(39,40)]),[40,40,41,25,41,25]⟩,
 ⟨4,(CQ 41 [(36,39)]),[44,1]⟩,
 ⟨5,(CQ 43 [(4,37),(37,40)]),[45,42,46]⟩,
 ⟨6,(CQ 44 [(37,41),(39,42)]),[43,43,29,29,29,29]⟩,
 ⟨5,(CQ 43 [(4,37),(38,41)]),[47,44,48]⟩,
 ⟨5,(CQ 43 [(36,40)]),[45,45,49]⟩,
 ⟨6,(CQ 44 [(4,38),(38,41)]),[46,46,37,37,37,37]⟩,
 ⟨5,(CQ 43 [(37,41)]),[47,47,50]⟩,
 ⟨6,(CQ 44 [(4,38),(39,42)]),[48,48,41,41,41,41]⟩,
 ⟨6,(CQ 44 [(37,41)]),[49,49,37,37,37,37]⟩,
 ⟨6,(CQ 44 [(38,42)]),[50,50,41,41,41,41]⟩]
def t45:bO:=⟨[.one,.one,.agg 11],[],.call 101 [qR 0,aBI [zW 2,zQ 2]] [] [some 37,none] [] (aBH 4 (aBg 5 [xC [.z,.z,.z,EI,oQ,oQ,EI,oQ,oQ,oQ,oQ,oQ,.z,.z,.z,EI],aB1] (pI .neq (qj 3) (oP 1) (aBg 6 [xC [.z,.z,.z,EI,oQ,oQ,EI,oQ,oQ,oQ,oQ,oQ,.z,.z,.z,EI],aB1] (aBV 65 [qR 1,aBI [zW 2,zQ 2]] (aBg 7 [xC [.z,.z,.z,EI,oQ,oQ,EI,oQ,oQ,oQ,oQ,oQ,.z,.z,.z,EI],aB1] (.fG (.len false (wU 2)) (.fG (.len false (zQ 3)) (pI .neq (.v 8) (.v 9) (aBg 10 [xC [.z,.z,.z,EI,oQ,oQ,EI,oQ,oQ,oQ,oQ,oQ,.z,.z,.z,EI],aB1] (.call 120 [qR 0,aBI [zW 2,zQ 2]] [] [none,none] [] (zJ 32 0 11 (.fG (.len false (.n 13 20)) (pI .neq (.v 14) (oP 1) (aBg 15 [xC [.z,.z,.z,EI,oQ,oQ,EI,oQ,oQ,oQ,oQ,oQ,.z,.z,.z,EI],aB1] (.call 121 [uT 3] [] [none,none] [] (aBH 17 (aBg 18 [xC [.z,.z,.z,EI,oQ,oQ,EI,oQ,oQ,oQ,oQ,oQ,.z,.z,.z,EI],aB1] (aBV 122 [uT 3,qR 16] (aA9 [.n 3 26,.n 3 27,.n 3 28,.n 3 29,.n 3 30,.n 3 31,.n 3 32,.n 3 33,.n 3 34,.n 3 35,.n 3 36] (aBV 90 [qR 20] (aA9 [zV 2,zW 2,zQ 2,qj 2,qx 2,qp 2,qo 2,qy 2,qA 2,qz 2,wU 2] (.goto 0 [D9,Eo,P8,En,pJ 2,zM,zM,zM,En,xD,xD,En,xD,xD,xD,xD,xD,zM,zM,zM,En,pJ 3,zM,zM,zM,En,xD,xD,En,xD,xD,xD,xD,xD,zM,zM,zM,.c (oP 1),zM,KU,zM]))))))))))))))))))))))),KM q45 aog⟩
theorem tq:(T nat).G.fn 45=some t45:=by kernel_rfl
theorem P9:okQ q45 aog=true:=by kernel_rfl
theorem Db (ws:List W) (hl:ws.length=41):bn (T nat).G 45 0 ws=aR (bz (T nat).G) (bn (T nat).G 45) Eb ws:=Co tq P9 rfl (b:=Eb) (by kernel_rfl) (by kernel_rfl) ws hl
theorem acV (ws:List W) (hl:ws.length=38):bn (T nat).G 45 1 ws=aR (bz (T nat).G) (bn (T nat).G 45) Wu ws:=Co tq P9 rfl (b:=Wu) (by kernel_rfl) (by kernel_rfl) ws hl
theorem af5 (ws:List W) (hl:ws.length=41):bn (T nat).G 45 2 ws=aR (bz (T nat).G) (bn (T nat).G 45) UD ws:=Co tq P9 rfl (b:=UD) (by kernel_rfl) (by kernel_rfl) ws hl
theorem ZC (ws:List W) (hl:ws.length=42):bn (T nat).G 45 3 ws=aR (bz (T nat).G) (bn (T nat).G 45) Qz ws:=Co tq P9 rfl (b:=Qz) (by kernel_rfl) (by kernel_rfl) ws hl
theorem ade (ws:List W) (hl:ws.length=41):bn (T nat).G 45 4 ws=aR (bz (T nat).G) (bn (T nat).G 45) WL ws:=Co tq P9 rfl (b:=WL) (by kernel_rfl) (by kernel_rfl) ws hl
theorem XY (ws:List W) (hl:ws.length=43):bn (T nat).G 45 5 ws=aR (bz (T nat).G) (bn (T nat).G 45) RO ws:=Co tq P9 rfl (b:=RO) (by kernel_rfl) (by kernel_rfl) ws hl
theorem Zu (ws:List W) (hl:ws.length=44):bn (T nat).G 45 6 ws=aR (bz (T nat).G) (bn (T nat).G 45) LF ws:=Co tq P9 rfl (b:=LF) (by kernel_rfl) (by kernel_rfl) ws hl
theorem aej (ws:List W) (hl:ws.length=41):bn (T nat).G 45 8 ws=aR (bz (T nat).G) (bn (T nat).G 45) Wz ws:=Co tq P9 rfl (b:=Wz) (by kernel_rfl) (by kernel_rfl) ws hl
theorem TQ (ws:List W) (hl:ws.length=43):bn (T nat).G 45 10 ws=aR (bz (T nat).G) (bn (T nat).G 45) KX ws:=Co tq P9 rfl (b:=KX) (by kernel_rfl) (by kernel_rfl) ws hl
theorem agw (ws:List W) (hl:ws.length=44):bn (T nat).G 45 14 ws=aR (bz (T nat).G) (bn (T nat).G 45) Um ws:=Co tq P9 rfl (b:=Um) (by kernel_rfl) (by kernel_rfl) ws hl
end Go.Ey.Pr
