import Derived.Test.YtolnnaanmfnkjaaGreatDoorZ36
set_option linter.all false
set_option maxHeartbeats 0
set_option maxRecDepth 100000
namespace Go.Ey.Pr
open Seat RowKit Proofs
section
variable {nat:Nat->List V->Option (List V)}
attribute [local congr] uq vD
theorem aqv (g:Gd) (hg:g.OK) (i k:Nat) (hk:k < 100000) (out:List Cs):∀(n:Nat) (t:Tm) (tests:List Tm),ah t<=n->tests.length < 100000->
  bR (T nat).G 45 3 (st3 g i k t out tests)=bR (T nat).G 45 2 (st2 g i (k+1) out (tests++[HZ n t]))
 |0,t,tests,hn,_=>absurd (dY t) (by omega)
 |n+1,t,tests,hn,htl=>by
  have hs':=bn k (by omega)
  have YP:(⟨#[110,111,116]⟩:ByteArray)=oG:=rfl;have h92:=x92 (nat:=nat) t oG 1;simp only [Int.natCast_one] at h92;have uy:=ku t;have Fv:=BB (acc:=tests) (x:=t) (by omega)
  have hF:=aU hg.f;have hend:OL oG 1 t=false->bR (T nat).G 45 3 (st3 g i k t out tests)=bR (T nat).G 45 2 (st2 g i (k+1) out (tests++[t])):=fun h1=>by rw [h1] at h92;rw [X6 _ rfl];simp [-Int.natCast_add,st3,st2,Q0,zZ,YP,h92,uy,Fv,hs',hF,af]
  cases h1:OL oG 1 t with
  |false=>
   rw [hend h1,HZ,h1];rfl
  |true=>
   obtain ⟨a,rfl⟩:=AP h1;rw [h1] at h92;have hr:fI 11 (rows aa [a]) (ci 0)=some (aa a):=jE af (k:=0) rfl;have e3:ak (aa (.app dw oG [a])) 10=rows aa [a]:=by rw [di];rfl
   have ada:=x92 (nat:=nat) a oG 1;simp only [Int.natCast_one] at ada;cases h2:OL oG 1 a with
   |false=>
    rw [h2] at ada;have e:HZ (n+1) (.app dw oG [a])=.app dw oG [a]:=by simp only [HZ,ai,h1,h2];rfl
    rw [e3] at uy;rw [e,X6 _ rfl];simp [-Int.natCast_add,st3,st2,Q0,zZ,YP,h92,ada,e3,hr,uy,Fv,hs',hF,af]
   |true=>
    obtain ⟨b,rfl⟩:=AP h2;rw [h2] at ada;have hr2:fI 11 (rows aa [b]) (ci 0)=some (aa b):=jE af (k:=0) rfl;have e4:ak (aa (.app dw oG [b])) 10=rows aa [b]:=by rw [di];rfl
    have ih:=aqv g hg i k hk out n b tests (by simp only [ah,au] at hn;omega) htl
    have e:HZ (n+1) (.app dw oG [.app dw oG [b]])=HZ n b:=by simp only [HZ,ai,h1,h2];rfl
    rw [e,<-ih,X6 (st3 g i k (.app dw oG [.app dw oG [b]]) out tests) rfl];simp [-Int.natCast_add,st3,Q0,zZ,YP,h92,ada,e3,e4,hr,hr2,hF,af]
theorem anY (g:Gd) (hg:g.OK) (i:Nat) (hi:i < g.ks.length) (out:List Cs):∀(m k:Nat) (tests:List Tm),k+m=g.ks[i].tests.length->tests.length<=k->
  bR (T nat).G 45 2 (st2 g i k out tests)=bR (T nat).G 45 8 (st8 g i 0 out (tests++(g.ks[i].tests.drop k).map fun t=>nnT (ig g.s t)))
 |0,k,tests,hk,htl=>by
  have hlt:¬((k:Int) < (g.ks[i].tests.length:Int)):=by omega
  have hr:=Pf hi;rw [bG (by omega:¬k < g.ks[i].tests.length),aeG _ rfl]
  simp [-Int.natCast_add,st2,st8,UU,zZ,hlt,hr,aG,aU hg.f,af]
 |m+1,k,tests,hk,htl=>by
  have hc:=hg.tests _ (By hi);have hkr:k < g.ks[i].tests.length:=by omega
  have hlt:((k:Int) < (g.ks[i].tests.length:Int)):=by omega
  have hr:=Pf hi;have hr2:=jd hkr;have hm:=By hkr;have h77:=x77 (nat:=nat) g.s hg.s 3000 g.ks[i].tests[k] (hc.2.1 _ hm) (by omega)
  have hn:=aqv (nat:=nat) g hg i k (by omega) out 3000 (ig g.s g.ks[i].tests[k]) tests (hc.2.2 _ hm) (by omega)
  have ih:=anY g hg i hi out m (k+1) (tests++[HZ 3000 (ig g.s g.ks[i].tests[k])]) (by omega) (by simp;omega)
  have e:HZ 3000 (ig g.s g.ks[i].tests[k])=nnT (ig g.s g.ks[i].tests[k]):=afM _ _ _ (hc.2.2 _ hm) (An _);rw [ih,e] at hn;rw [drop_at hkr,D4,<-List.singleton_append,<-List.append_assoc,<-hn,aeG _ rfl];simp [-Int.natCast_add,st2,st3,UU,zZ,hlt,hr,hr2,h77,aG,aU hg.f,af]
end
section
variable {nat:Nat->List V->Option (List V)}
attribute [local congr] uq vD
theorem acZ (g:Gd) (hg:g.OK) (i:Nat) (hi:i < g.ks.length) (k:Nat) (hk:k < g.ks[i].subs.length) (out:List Cs) (tests:List Tm) (acc:List (List cu)):∀(m p:Nat) (l:List cu),p+m=g.f.ps.length->l.length<=p->
  bR (T nat).G 45 5 (st5 g i k p l out tests acc)=bR (T nat).G 45 6 (st6 g i k false 0 (l++lsA g.s g.ks[i].subs[k] (g.f.ps.drop p) (g.bs.drop p) ((ai g.u).drop p)) out tests acc)
 |0,p,l,hp,hl=>by
  have hlt:¬((p:Int) < (g.f.ps.length:Int)):=by omega
  have e2:ak (eF g.f) 2=rows bP g.f.ps:=rfl;rw [bG (by omega:¬p < g.f.ps.length),show lsA g.s g.ks[i].subs[k] [] (g.bs.drop p) ((ai g.u).drop p)=[] by simp [lsA],Cl,Y2 _ rfl]
  simp [-Int.natCast_add,st5,st6,QC,zZ,hlt,e2,eH,aU hg.f,af]
 |m+1,p,l,hp,hl=>by
  have hpr:p < g.f.ps.length:=by omega
  have hpb:p < g.bs.length:=by have:=hg.bs;omega
  have hpt:p < (ai g.u).length:=by have:=hg.ar;omega
  have hps:=hg.f.ps;have hlt:((p:Int) < (g.f.ps.length:Int)):=by omega
  have hs':=bn p (by omega)
  have e2:ak (eF g.f) 2=rows bP g.f.ps:=rfl;have e10:=gI g.u;have hr:fI 2 (rows bP g.f.ps) (ci p)=some [cs g.f.ps[p].1,cs g.f.ps[p].2]:=oK hpr;have hrt:=jd hpt;have hrb:=CR hpb;have hrk:=Pf hi;have hrs:=X4 hk;have hc:=hg.subs _ (By hi);have hsk:=hc.2 _ (By hk);have h53:=x53 (nat:=nat) g.f.ps[p].1 g.f.ps[p].2;have h77:=x77 (nat:=nat) g.ks[i].subs[k] hsk.1 3000 (.var g.f.ps[p].1 g.f.ps[p].2) (by simp [ah]) (by omega)
  have ak6:=x77 (nat:=nat) g.s hg.s 3000 (ig g.ks[i].subs[k] (.var g.f.ps[p].1 g.f.ps[p].2)) (XB hsk.2 _ _).2 (by omega)
  have A7:=SG (ai g.u)[p] (ig g.s (ig g.ks[i].subs[k] (.var g.f.ps[p].1 g.f.ps[p].2)));have A8:=Es (acc:=l) (x:=⟨aN (ai g.u)[p],ig g.s (ig g.ks[i].subs[k] (.var g.f.ps[p].1 g.f.ps[p].2))⟩) (by omega)
  rw [drop_at hpr,drop_at hpb,drop_at hpt,lsA];cases hbb:g.bs[p] with
  |false=>
   rw [hbb] at hrb;have ih:=acZ g hg i hi k hk out tests acc m (p+1) l (by omega) (by omega)
   rw [Ek,<-ih,Y2 (st5 g i k p l out tests acc) rfl];simp [-Int.natCast_add,st5,QC,zZ,hlt,e2,eH,hrb,hs',aU hg.f,af]
  |true=>
   rw [hbb] at hrb;have ih:=acZ g hg i hi k hk out tests acc m (p+1) (l++[⟨aN (ai g.u)[p],ig g.s (ig g.ks[i].subs[k] (.var g.f.ps[p].1 g.f.ps[p].2))⟩]) (by omega) (by simp;omega)
   rw [F1,<-List.singleton_append,<-List.append_assoc,<-ih,Y2 (st5 g i k p l out tests acc) rfl];simp [-Int.natCast_add,st5,QC,zZ,hlt,e2,eH,hr,hrb,hrk,hrs,hrt,h53,h77,ak6,e10,A7,A8,hs',aU hg.f,af]
theorem XR (g:Gd) (hg:g.OK) (i:Nat) (hi:i < g.ks.length) (k:Nat) (hk:k < g.ks[i].subs.length) (out:List Cs) (tests:List Tm):∀(m p:Nat) (l:List cu),p+m=g.f.ps.length->l.length<=p->
  bR (T nat).G 45 10 (Yv g i k l p out tests)=bR (T nat).G 45 14 (ahi g i k (l++lsA g.s g.ks[i].subs[k] (g.f.ps.drop p) (g.bs.drop p) ((ai g.u).drop p)) false 0 out tests)
 |0,p,l,hp,hl=>by
  have hlt:¬((p:Int) < (g.f.ps.length:Int)):=by omega
  have e2:ak (eF g.f) 2=rows bP g.f.ps:=rfl;rw [bG (by omega:¬p < g.f.ps.length),show lsA g.s g.ks[i].subs[k] [] (g.bs.drop p) ((ai g.u).drop p)=[] by simp [lsA],Cl,TD _ rfl]
  simp [-Int.natCast_add,Yv,ahi,JO,zZ,hlt,e2,eH,aU hg.f,af]
 |m+1,p,l,hp,hl=>by
  have hpr:p < g.f.ps.length:=by omega
  have hpb:p < g.bs.length:=by have:=hg.bs;omega
  have hpt:p < (ai g.u).length:=by have:=hg.ar;omega
  have hps:=hg.f.ps;have hlt:((p:Int) < (g.f.ps.length:Int)):=by omega
  have hs':=bn p (by omega)
  have e2:ak (eF g.f) 2=rows bP g.f.ps:=rfl;have e10:=gI g.u;have hr:fI 2 (rows bP g.f.ps) (ci p)=some [cs g.f.ps[p].1,cs g.f.ps[p].2]:=oK hpr;have hrt:=jd hpt;have hrb:=CR hpb;have hrk:=Pf hi;have hrs:=X4 hk;have hc:=hg.subs _ (By hi);have hsk:=hc.2 _ (By hk);have h53:=x53 (nat:=nat) g.f.ps[p].1 g.f.ps[p].2;have h77:=x77 (nat:=nat) g.ks[i].subs[k] hsk.1 3000 (.var g.f.ps[p].1 g.f.ps[p].2) (by simp [ah]) (by omega)
  have ak6:=x77 (nat:=nat) g.s hg.s 3000 (ig g.ks[i].subs[k] (.var g.f.ps[p].1 g.f.ps[p].2)) (XB hsk.2 _ _).2 (by omega)
  have A7:=SG (ai g.u)[p] (ig g.s (ig g.ks[i].subs[k] (.var g.f.ps[p].1 g.f.ps[p].2)));have A8:=Es (acc:=l) (x:=⟨aN (ai g.u)[p],ig g.s (ig g.ks[i].subs[k] (.var g.f.ps[p].1 g.f.ps[p].2))⟩) (by omega)
  rw [drop_at hpr,drop_at hpb,drop_at hpt,lsA];cases hbb:g.bs[p] with
  |false=>
   rw [hbb] at hrb;have ih:=XR g hg i hi k hk out tests m (p+1) l (by omega) (by omega)
   rw [Ek,<-ih,TD (Yv g i k l p out tests) rfl];simp [-Int.natCast_add,Yv,JO,zZ,hlt,e2,eH,hrb,hs',aU hg.f,af]
  |true=>
   rw [hbb] at hrb;have ih:=XR g hg i hi k hk out tests m (p+1) (l++[⟨aN (ai g.u)[p],ig g.s (ig g.ks[i].subs[k] (.var g.f.ps[p].1 g.f.ps[p].2))⟩]) (by omega) (by simp;omega)
   rw [F1,<-List.singleton_append,<-List.append_assoc,<-ih,TD (Yv g i k l p out tests) rfl];simp [-Int.natCast_add,Yv,JO,zZ,hlt,e2,eH,hr,hrb,hrk,hrs,hrt,h53,h77,ak6,e10,A7,A8,hs',aU hg.f,af]
end
section
variable {nat:Nat->List V->Option (List V)}
attribute [local congr] uq vD
theorem aoD (g:Gd) (hg:g.OK) (i:Nat) (k:Nat) (hk:k < 100000) (out:List Cs) (tests:List Tm) (l:List cu) (hl:l.length < 100000/\yt l) (acc:List (List cu)) (ha:acc.length < 100000/\∀s∈acc,s.length < 100000/\yt s):∀(m j:Nat),j+m=acc.length->
  bR (T nat).G 45 6 (st6 g i k false j l out tests acc)=bR (T nat).G 45 4 (st4 g i (k+1) out tests (cond (wN (acc.drop j) l) acc (acc++[l])))/\∀j',j'<=acc.length->bR (T nat).G 45 6 (st6 g i k true j' l out tests acc)=bR (T nat).G 45 4 (st4 g i (k+1) out tests acc)
 |m,j,hj=>by
  have hF:=aU hg.f;have hs':=bn k (by omega)
  have hl1:=YO l;have ha1:=adj (acc:=acc) (x:=l) (by omega)
  have ht:∀j',j'<=acc.length->bR (T nat).G 45 6 (st6 g i k true j' l out tests acc)=bR (T nat).G 45 4 (st4 g i (k+1) out tests acc):=fun j' hj'=>by rw [YB _ rfl];by_cases hlt:((j':Int) < (acc.length:Int))<;>simp [-Int.natCast_add,st6,st4,KM,zZ,hlt,aG,hs',hF,af]
  refine ⟨?_,ht⟩
  match m,hj with
  |0,hj=>
   have hlt:¬((j:Int) < (acc.length:Int)):=by omega
   rw [bG (by omega:¬j < acc.length),YB _ rfl]
   simp [-Int.natCast_add,st6,st4,KM,zZ,hlt,aG,hs',hl1,ha1,wN,hF,af]
  |m+1,hj=>
   have hjr:j < acc.length:=by omega
   have hlt:((j:Int) < (acc.length:Int)):=by omega
   have hsj:=bn j (by omega)
   have hr:=X4 hjr;have hx:=ha.2 _ (By hjr);have h1:=apE (nat:=nat) acc[j] l hl.1 hx.1 hx.2;have h2:=apE (nat:=nat) l acc[j] hx.1 hl.1 hl.2;have ih:=(aoD g hg i k hk out tests l hl acc ha m (j+1) (by omega)).1
   have htt:=ht (j+1) (by omega)
   have e:wN (acc.drop j) l=((Jo acc[j] l && Jo l acc[j])||wN (acc.drop (j+1)) l):=by rw [drop_at hjr];rfl
   rw [e,YB _ rfl];cases hq:Jo acc[j] l with
   |false=>
    rw [hq] at h1;rw [Bool.false_and,L2,<-ih];simp [-Int.natCast_add,st6,KM,zZ,hlt,aG,hr,h1,hsj,hF,af]
   |true=>
    rw [hq] at h1;cases hq2:Jo l acc[j] with
    |false=>
     rw [hq2] at h2;rw [Bool.and_false,L2,<-ih];simp [-Int.natCast_add,st6,KM,zZ,hlt,aG,hr,h1,h2,hsj,hF,af]
    |true=>
     rw [hq2] at h2;rw [Bool.and_true,Bool.true_or,F1,<-htt];simp [-Int.natCast_add,st6,KM,zZ,hlt,aG,hr,h1,h2,hsj,hF,af]
theorem ak1 (g:Gd) (hg:g.OK) (i:Nat) (k:Nat) (hk:k < 100000) (out:List Cs) (tests:List Tm) (l:List cu):
  bR (T nat).G 45 14 (ahi g i k l false 0 out tests)=bR (T nat).G 45 4 (st4 g i (k+1) out tests [l]):=by
 have hF:=aU hg.f;have hs':=bn k (by omega)
 have hl1:=YO l;have ha1:=adj (acc:=[]) (x:=l) (by simp)
 have hz:rows encS []=cz:=rfl;have hn:jk false cz=some (ci 0):=rfl;rw [hz] at ha1;rw [ahB _ rfl];simp [-Int.natCast_add,ahi,st4,Rw,zZ,hn,hs',hl1,ha1,hF,af]
end
end Go.Ey.Pr
