/- A part. -/
import Derived.Test.YtolnnaanmfnkjaaGreatDoorY46
import Derived.Test.YtolnnaanmfnkjaaGreatDoorY47
import Derived.Test.YtolnnaanmfnkjaaGreatDoorRows
import Derived.LaidMore
import Derived.Lib.LaidPrint
import Derived.ProofKit
import Derived.OpenShut
import Derived.Stop.Joined
import Derived.ChangeOld
set_option linter.all false
set_option maxHeartbeats 4000000
namespace Go.Ey.Pr
open Go Go.Ey Go.Ey.Seat Go.RowKit Go.Proofs
theorem TL:∀{xs:List K} {es:List C},lU xs es->∀{i:Nat} {x:K},xs[i]?=some x->RK x (au es i)
 |_,_,.nil,_,_,h=>by simp at h
 |_,_,.cons h1 _,0,x,h=>by simp only [D2,A0] at h;subst h;exact h1
 |_,_,.cons _ h2,i+1,x,h=>by simp only [C6] at h;exact TL h2 h
theorem abn {e:Nat}:∀{rev:List (List K)} {cs:List C},nQ e rev cs->cs.length=rev.length * e/\∀k,k < rev.length->∃r,lU (rev.getD (rev.length - 1 - k) []) r/\(cs.drop (k * e)).take e=r
 |[],_,.nil=>⟨by simp,fun k hk=>absurd hk (N0 _)⟩
 |row::rev,_,.cons (r:=r) (cs:=cs) h1 h2 h3=>by
  obtain ⟨g1,g2⟩:=abn h3;have hr:r.length=e:=by rw [lU.length h1];exact h2
  refine ⟨by simp [g1,hr,N5],fun k hk=>?_⟩
  by_cases hk2:k < rev.length
  ·obtain ⟨q,q1,q2⟩:=g2 k hk2;have h4:=Cl e hk2;rw [G2] at h4;refine ⟨q,?_,?_⟩
   ·rw [show (row::rev).length - 1 - k=(rev.length - 1 - k)+1 by simp;omega,List.getD_cons_succ]
    exact q1
   ·rw [Of (by omega),M1 (by simp;omega)]
    exact q2
  ·simp only [Bm] at hk;obtain rfl:k=rev.length:=by omega
   refine ⟨r,?_,?_⟩
   ·rw [show (row::rev).length - 1 - rev.length=0 by simp,List.getD_cons_zero]
    exact h1
   ·rw [<-g1,List.drop_left,K2 (by omega)]
theorem agT {e:Nat} {w x:K} {cw:C} {k i:Nat} (hw:RK w cw) (he:∃r n,w=.sl e r n) (h:akN w k i=some x):∃es,eZ e cw (ci k)=some es/\RK x (au es i):=by
 obtain ⟨rev,n,rfl⟩:=he;cases hw with
 |sl _ _ _ cs h1 h2=>
  obtain ⟨g1,g2⟩:=abn h1;simp only [akN] at h;cases hb:Nat.blt k n with
  |false=>rw [hb] at h;cases h
  |true=>
   rw [hb,Fi] at h;have hk:k < n:=by simpa [Nat.blt_eq] using hb
   subst h2;obtain ⟨r,q1,q2⟩:=g2 k hk;have h4:=Cl e hk;rw [G2] at h4;refine ⟨r,?_,TL q1 h⟩;simp only [eZ,ci];rw [C4 ⟨by omega,by omega,by simp only [Is];rw [N5,Nat.one_mul];omega⟩,Is,q2]
theorem RK.lN {e n:Nat} {r:List (List K)} {c:C} (h:RK (.sl e r n) c):lN false c=some (ci n):=by
 cases h with
 |sl _ _ _ cs h1 h2=>rfl
theorem ajh:∀ps:List bq,nQ 2 (ps.map fun p=>[kS p.1,kS p.2]).reverse (ps.flatMap bW)
 |[]=>nQ.nil
 |p::ps=>by rw [Cp,List.reverse_cons,D3];exact nQ.snoc (ajh ps) (.cons (Qe _) (.cons (Qe _) .nil)) rfl
theorem amz (ps:List bq):RK (akf ps) (rows bW ps):=RK.sl 2 _ _ _ (ajh ps) (by simp)
theorem KL:∀{a b:List K} {es:List C},lU (a++b) es->∃c d,es=c++d/\lU a c/\lU b d
 |[],_,es,h=>⟨[],es,rfl,.nil,h⟩
 |_::a,_,_,.cons h1 h2=>by obtain ⟨c,d,rfl,g1,g2⟩:=KL h2;exact ⟨_::c,d,rfl,.cons h1 g1,g2⟩
section
variable {nat:Nat->List V->Option (List V)}
theorem aiR:(T nat).oL 101=some [.one,.agg 2]:=by kernel_rfl
theorem ajg:(T nat).oL 120=some [.one,.agg 2]:=by kernel_rfl
def asr (nat:Nat->List V->Option (List V)) (cw:C) (nm:bq):Prop:=∀off:List bq,off.length < 100000->∃cd:Tm->Option bH,∀u:Tm,bZ u=nm->av u<=90->
 bz (T nat).G 45 [.v (.one cw),.v (.one (rows bW off)),.v (.agg (af u))] []=some (cdV (cd u),[])/\∀c,cd u=some c->Ck c
def aeH (nat:Nat->List V->Option (List V)):Prop:=∀(es:List C) (rs:List V),es.length=37->oF FX 300 121 [.agg es]=some rs->bz (T nat).G 121 [.v (.agg es)] []=some (rs,[])
theorem arI (hn:nS nat) (hs:aeH nat) {cw:C} (hw:RK Hr cw) {nm:bq} (hnm:nm∈names):asr nat cw nm:=by
 have hd:=E0.1 abV nm hnm;have hwl:∃r n,Hr=.sl 32 r n:=⟨wlE,38,rfl⟩;obtain ⟨d,hd⟩:=Option.isSome_iff_exists.1 hd;intro off ho;simp only [amC,apr] at hd;split at hd
 case h_2=>cases hd
 rename_i xs ok k _ e1 e2;cases hx:Nat.beq xs.length 37 with
 |false=>rw [hx] at hd;cases hd
 |true=>
  rw [hx,Fi] at hd;have hxl:xs.length=37:=C5 hx;obtain ⟨r1,g1,g2,g3⟩:=JG (Yz hn) aiR (ts:=[.v (.one (.v 0)),.v (.agg (.all 0))]) rfl (ys:=[.c Hr,.l 2 [kS nm.1,kS nm.2]]) (us:=[.v (.one cw),.v (.agg [cs nm.1,cs nm.2])]) ⟨hw,⟨lU.cons (Qe _) (lU.cons (Qe _) lU.nil),rfl⟩,trivial⟩ (zs:=[]) (css:=[]) trivial e1;obtain ⟨a1,b1⟩:=r1
  match a1,b1,g2,g3 with
  |[.agg es,.one c1],[],g2,_=>
   have hes:lU xs es:=g2.1.1;have hok:RK (.b ok) c1:=g2.2.1;have hel:es.length=37:=by rw [lU.length hes,hxl]
   rw [hok.bool] at g1;obtain ⟨c2,d2,q1,q2,q3⟩:=kc2 hn ajg (ts:=[.v (.one (.v 0)),.v (.agg (.all 0))]) rfl (ys:=[.c Hr,.l 2 [kS nm.1,kS nm.2]]) (us:=[.v (.one cw),.v (.agg [cs nm.1,cs nm.2])]) ⟨hw,⟨lU.cons (Qe _) (lU.cons (Qe _) lU.nil),rfl⟩,trivial⟩ e2;rw [q1.int] at q3;have g1':bz (T nat).G 101 [.v (.one cw),.v (.agg (bW nm))] []=some ([.agg es,.one (cb ok)],[]):=g1;have q3':bz (T nat).G 120 [.v (.one cw),.v (.agg (bW nm))] []=some ([.one (ci (k:Int)),.one d2],[]):=q3;cases ok with
   |false=>
    refine ⟨fun _=>none,fun u hu _=>⟨?_,fun c hc=>by cases hc⟩⟩
    exact arY (by rw [hu];exact g1') hel
   |true=>
    rw [Fi] at hd;split at hd
    case h_2=>cases hd
    rename_i a b pr pn cl rest _;have r3:RK (.i .i64 cl) (au es 3):=TL hes rfl;have r2:RK (.sl 2 pr pn) (au es 2):=TL hes rfl;by_cases hcl:cl=1
    ·subst hcl;simp only [eq_self_iff_true,decide_true,Fi] at hd;have e3:au es 3=ci 1:=by rw [r3.int];rfl
     split at hd
     case h_2=>cases hd
     rename_i _ _ _ cnt hrow;obtain ⟨fs,hr1,hr2⟩:=agT hw hwl hrow;cases hc1:Nat.beq cnt 1 with
     |false=>
      refine ⟨fun _=>none,fun u hu _=>⟨?_,fun c hc=>by cases hc⟩⟩
      exact as7 ho (by rw [hu];exact g1') hel e3 (RK.lN r2) (by rw [hu];exact q3') hr1 (RK.lN hr2) (fun e=>by rw [e] at hc1;cases hc1)
     |true=>
      rw [hc1,Fi] at hd;have hcnt:cnt=1:=C5 hc1;split at hd
      case h_2=>cases hd
      rename_i _ body hbody;cases hq:(Mr [kS nm.1,kS nm.2,akf (acw pr [])] [a,b,.sl 2 pr pn] && (Mr (kT body) ((rest.drop 11).take 11) && (Nat.ble (av body) 3000 && (Nat.ble (acw pr []).length 1000 && acf (a::b:: .sl 2 pr pn:: .i .i64 1::rest))))) with
      |false=>rw [hq] at hd;cases hd
      |true=>
       rw [hq,Fi] at hd;simp only [As,N2] at hq;obtain ⟨k1,k2,k3,k4,k5⟩:=hq;have heq:=lU.one hes (RZ _ k5);cases hS:aiA (oF FX 300 121 [.agg (ado (a::b:: .sl 2 pr pn:: .i .i64 1::rest))]) with
       |none=>rw [hS] at hd;cases hd
       |some sc=>
       rw [hS] at hd;have Vk:=hs es _ hel (by rw [heq];exact aiJ hS)
       clear heq hS;have k1':=IL _ _ k1;simp only [E6,and_true] at k1';obtain ⟨ka,kb,kp⟩:=k1';have k2':=IL _ _ k2;obtain ⟨ps,hps⟩:∃ps,ps=acw pr []:=⟨_,rfl⟩;rw [<-hps] at kp k4 hd;subst ka kb;rw [<-kp] at hes;have hrl:rest.length=33:=by simp at hxl;omega
       have hsp:rest=rest.take 11++((rest.drop 11).take 11++rest.drop 22):=by rw [show rest.drop 22=(rest.drop 11).drop 11 by rw [List.drop_drop],Mu,Mu]
       rw [hsp,<-k2'] at hes
       match es,hes with
       |_::_::_::_::tl,.cons h1 (.cons h2 (.cons h3 (.cons h4 h5)))=>
        obtain ⟨gd,bm,rfl,hgd,hbm⟩:=KL h5;obtain ⟨bd,ms,rfl,hbd,hms⟩:=KL hbm;have e1:=RK.one h1 (Qe nm.1);have e2:=RK.one h2 (Qe nm.2);have e3':=RK.one h3 (amz ps);have e4:=h4.int;have e5:=lU.one hbd (rkT body);subst e1 e2 e3' e4 e5;have hgl:gd.length=11:=by rw [lU.length hgd];simp;omega
        have hml:ms.length=11:=by rw [lU.length hms];simp;omega
        have hf:Fd.OK ⟨nm,ps,1,gd,body,ms⟩:=⟨hgl,hml,k3,k4⟩;obtain ⟨mt,hmt⟩:∃mt,mt=(agF 100 (rest.drop 22)).getD (.eG (.st ⟨#[]⟩)):=⟨_,rfl⟩;rw [<-hmt] at hd;have hks:∀ks,sc=some ks->ab8 ks/\ms=af mt/\av mt<=30/\vOK mt ps ks=true:=fun ks hk=>by
         subst hk;cases hq:(ksb ks && (Mr (kT mt) (rest.drop 22) && (Nat.ble (av mt) 30 && vOK mt ps ks))) with
         |false=>simp only [hq,E4] at hd;cases hd
         |true=>
          simp only [As,N2] at hq;have h6:=IL _ _ hq.2.1;rw [<-h6] at hms;exact ⟨amn hq.1,lU.one hms (rkT mt),hq.2.2.1,hq.2.2.2⟩
        refine ⟨cdF off ⟨nm,ps,1,gd,body,ms⟩ mt sc,fun u hu hun=>⟨?_,fun c hc=>akQ hf (fun ks hk=>⟨(hks ks hk).1,(hks ks hk).2.2.1,(hks ks hk).2.2.2⟩) hun hc⟩⟩
        exact x45 ho hf rfl (by rw [hu];exact g1') (by rw [hu];exact q3') hr1 (by rw [(RK.lN hr2),hcnt];rfl) Vk (fun ks hk=>⟨(hks ks hk).1,(hks ks hk).2.1,(hks ks hk).2.2.1⟩) (by omega)
    ·refine ⟨fun _=>none,fun u hu _=>⟨?_,fun c hc=>by cases hc⟩⟩
     exact aqI (by rw [hu];exact g1') hel r3.int hcl
mutual
theorem ako {P:Tm->Prop} (hP:∀p s ts,P (.app p s ts)->∀x∈ts,P x):∀(t:Tm) (l:List Tm),(∀x∈l,P x)->P t->∀x∈za l t,P x
 |.var p s,l,hl,ht=>by
  rw [za];cases memT l (.var p s) with
  |true=>exact hl
  |false=>exact fun x hx=>(Bx.1 hx).elim (hl x) fun h=>by rw [By.1 h];exact ht
 |.eG o,l,hl,ht=>by
  rw [za];cases memT l (.eG o) with
  |true=>exact hl
  |false=>exact fun x hx=>(Bx.1 hx).elim (hl x) fun h=>by rw [By.1 h];exact ht
 |.app p s ts,l,hl,ht=>by
  rw [za];refine TI hP ts _ ?_ (hP p s ts ht);cases memT l (.app p s ts) with
  |true=>exact hl
  |false=>exact fun x hx=>(Bx.1 hx).elim (hl x) fun h=>by rw [By.1 h];exact ht
theorem TI {P:Tm->Prop} (hP:∀p s ts,P (.app p s ts)->∀x∈ts,P x):∀(ts l:List Tm),(∀x∈l,P x)->(∀x∈ts,P x)->∀x∈j6 l ts,P x
 |[],l,hl,_=>by rw [j6];exact hl
 |t::ts,l,hl,ht=>by rw [j6];exact TI hP ts _ (ako hP t l hl (ht t (by simp))) fun x hx=>ht x (by simp [hx])
end
theorem Z4 (cd:Tm->Option bH):∀l:List Tm,(sgL cd l).length<=l.length
 |[]=>B9 _
 |u::l=>by
  have h:=Z4 cd l;rw [sgL];cases decide (Go.Proofs.kH u=3) with
  |false=>simp;omega
  |true=>cases cd u<;>simp<;>omega
theorem TP {cd:Tm->Option bH} {c:bH}:∀{l:List Tm},c∈sgL cd l->∃u∈l,Go.Proofs.kH u=3/\cd u=some c
 |[],h=>by cases h
 |u::l,h=>by
  rw [sgL] at h;by_cases hk:Go.Proofs.kH u=3
  ·simp only [hk,decide_true,Fi] at h;rcases Bx.1 h with h|h
   ·refine ⟨u,Fm,hk,?_⟩;cases hc:cd u with
    |none=>rw [hc] at h;cases h
    |some d=>rw [hc] at h;rw [By.1 h]
   ·obtain ⟨v,h1,h2⟩:=TP h;exact ⟨v,E2 _ h1,h2⟩
  ·simp only [hk,N6,E4] at h;obtain ⟨v,h1,h2⟩:=TP h;exact ⟨v,E2 _ h1,h2⟩
theorem age {u:Tm} (h:okD u) (hk:Go.Proofs.kH u=3):bZ u∈names:=by
 cases u with
 |var p s=>cases hk
 |eG o=>cases hk
 |app p s ts=>exact h.1
def ada (nat:Nat->List V->Option (List V)):Prop:=∀ts:List Tm,(∀x∈ts,GA x)->aJ ts<=90000->bz (T nat).G 44 [.v (.one (rows af ts))] []=some ([.one (rows af (j6 [] ts))],[])
theorem akM (hn:nS nat) (hs:aeH nat) (hsub:ada nat) {cw:C} (hw:RK Hr cw):U2 nat cw Ck:=fun c hc=>by
 have hP:=TI (P:=fun t=>okD t/\av t<=29) (fun p s ts h x hx=>⟨Ng.1 h.1.2 x hx,by have h1:=nK hx;have h2:=h.2;simp only [av] at h2;omega⟩) c [] (fun x hx=>by cases hx) fun t ht=>⟨(hc.all t ht).ok,(hc.all t ht).sz⟩
 have hlen:=wz c [];have hcl:=hc.len;have hnd:=Bu c fun t ht=>(hc.all t ht).sz
 have am7:=Cl 29 hcl;simp only [F2] at hlen;have h0:∀nm:bq,∃cd:Tm->Option bH,nm∈names->∀u:Tm,bZ u=nm->av u<=90->bz (T nat).G 45 [.v (.one cw),.v (.one (rows bW [])),.v (.agg (af u))] []=some (cdV (cd u),[])/\∀c,cd u=some c->Ck c:=fun nm=>by
  by_cases h:nm∈names
  ·obtain ⟨cd,h1⟩:=arI hn hs hw h [] (by simp)
   exact ⟨cd,fun _=>h1⟩
  ·exact ⟨fun _=>none,fun h'=>absurd h' h⟩
 have h1:∀u∈j6 [] c,Go.Proofs.kH u=3->bz (T nat).G 45 [.v (.one cw),.v (.one cz),.v (.agg (af u))] []=some (cdV ((h0 (bZ u)).choose u),[])/\∀c,(h0 (bZ u)).choose u=some c->Ck c:=fun u hu hk=>by have h2:=hP u hu;exact (h0 (bZ u)).choose_spec (age h2.1 hk) u rfl (by omega)
 refine ⟨sgL (fun u=>(h0 (bZ u)).choose u) (j6 [] c),x15 (hsub c (fun t ht=>C8 (by have:=(hc.all t ht).sz;omega)) (by omega)) (by omega) fun u hu hk=>(h1 u hu hk).1,?_,fun x hx=>?_⟩
 ·have:=Z4 (fun u=>(h0 (bZ u)).choose u) (j6 [] c);omega
 ·obtain ⟨u,hu,hk,hcd⟩:=TP hx;exact (h1 u hu hk).2 x hcd
end
end Go.Ey.Pr
set_option maxHeartbeats 4000000
namespace Go.Ey.Pr
open Go Go.Ey Go.Ey.Seat Go.RowKit Go.Proofs
def R1 (f:Nat) (vs rs:List V):Prop:=R0 f vs rs\/(f=9/\vs=[]/\rs=[.one (cb true)])\/(f=121/\oF FX 300 121 vs=some rs)
theorem atm:isN 9=true:=by kernel_rfl
theorem alk:isN 121=true:=by kernel_rfl
theorem Bi:Sb R1:=⟨fun {f vs rs rs'} h h'=>by
  rcases h with h|⟨rfl,_,rfl⟩|⟨rfl,h⟩
  ·rcases h' with h'|⟨rfl,_,_⟩|⟨rfl,_⟩
   ·exact aaH h h'
   ·rcases Lf h with h|h<;>cases h
   ·rcases Lf h with h|h<;>cases h
  ·rcases h' with h'|⟨_,_,rfl⟩|⟨hf,_⟩
   ·rcases Lf h' with h|h<;>cases h
   ·rfl
   ·cases hf
  ·rcases h' with h'|⟨hf,_⟩|⟨_,h'⟩
   ·rcases Lf h' with h|h<;>cases h
   ·cases hf
   ·exact Jx (h.symm.trans h'),fun h=>by
  rcases h with h|⟨rfl,_,_⟩|⟨rfl,_⟩
  ·exact ad7.isN h
  ·exact atm
  ·exact alk,fun h=>by
  rcases h with h|⟨rfl,rfl,rfl⟩|⟨rfl,h⟩
  ·exact ajo h
  ·exact asB
  ·exact xok h⟩
theorem natFn {nat:Nat->List V->Option (List V)} {f:Nat} {xs:List LA} {vs rs:List V} {s:fC} (h0:(T nat).G.fn f=none) (h1:(T nat).sig f=some s) (h2:s.nat=true) (h3:s.boxes=[]) (h4:lS s.params xs=true) (h5:UU xs=some vs) (h:nat f vs=some rs):bz (T nat).G f xs []=some (rs,[]):=by
 refine aaz h0 ?_;show (T nat).U6 f xs []=_
 have h6:(T nat).nat f vs=some rs:=h;simp [Seat.U6,h1,h2,h3,h4,h5,h6]
section
variable {R:Nat->List V->List V->Prop} (hR:Sb R) (hs:∀{f vs rs},R1 f vs rs->R f vs rs)
include hR hs
theorem Sc:aeH (Mv R):=fun es rs hl h=>natFn (s:=aln) (by kernel_rfl) (by kernel_rfl) rfl rfl (by simp [lS,aln,hl]) rfl (hR.at (hs (.inr (.inr ⟨rfl,h⟩))))
theorem OM:ada (Mv R):=fun ts h1 h2=>natFn (s:=s44) (by kernel_rfl) (by kernel_rfl) rfl rfl rfl rfl (hR.at (hs (.inl (.inr ⟨ts,⟨h1,h2⟩,rfl,rfl,rfl⟩))))
theorem Oh:jq (Mv R):=aiT fun n h1 h2=>hR.at (hs (.inl (.inl ⟨n,⟨h1,h2⟩,rfl,rfl,rfl⟩)))
theorem amc:bz (T (Mv R)).G 9 [] []=some yes:=natFn (s:=s9) (by kernel_rfl) (by kernel_rfl) rfl rfl rfl rfl (hR.at (hs (.inr (.inl ⟨rfl,rfl,rfl⟩))))
end
end Go.Ey.Pr
set_option maxHeartbeats 4000000
namespace Go.Ey.Pr
open Go Go.Ey Go.Ey.Seat Go.RowKit Go.Proofs
theorem uT5:PP.underlying 5=some (.int .u8):=by kernel_rfl
theorem ar5:PP.underlying 22=some (.slice 5):=by kernel_rfl
theorem Zb:Vq PP 3 22=true:=by kernel_rfl
theorem aeu {n:Nat} {cs:List C} (h:Typed PP n 5 cs):∃b:UInt8,cs=wQ b:=by
 cases n with
 |zero=>exact h.elim
 |succ n=>
  unfold Typed at h;rw [uT5] at h;obtain ⟨z,rfl,h2⟩:=h;have h1:IntKind.u8.min<=z/\z<=IntKind.u8.max:=by simpa [Lit.wf] using h2
  have e1:IntKind.u8.min=0:=rfl;have e2:IntKind.u8.max=255:=rfl;refine ⟨UInt8.ofNat z.toNat,?_⟩;have:((UInt8.ofNat z.toNat).toNat:Int)=z:=by rw [UInt8.toNat_ofNat'];omega
  simp only [wQ,this]
theorem FN {n:Nat} {cs:List C} (h:Typed PP n 22 cs):∃bs:List UInt8,cs=[rows wQ bs]/\bs.length<=maxLen:=by
 cases n with
 |zero=>exact h.elim
 |succ n=>
  unfold Typed at h;rw [ar5] at h;obtain ⟨rw_,rfl,hl,hr⟩:=h;have key:∀l:List (List C),(∀r∈l,r.length=PP.cellsOf 5/\Typed PP n 5 r)->∃bs:List UInt8,l.flatten=bs.flatMap wQ/\l.length=bs.length:=by
   intro l;induction l with
   |nil=>exact fun _=>⟨[],rfl,rfl⟩
   |cons r l ih=>
    intro hr;obtain ⟨bs,h1,h2⟩:=ih fun r' hr'=>hr r' (by simp [hr'])
    obtain ⟨b,rfl⟩:=aeu (hr r (by simp)).2
    exact ⟨b::bs,by rw [List.flatten_cons,h1,D3],by simp [h2]⟩
  obtain ⟨bs,h1,h2⟩:=key rw_ hr;exact ⟨bs,by rw [h1,h2,rows],by omega⟩
theorem aj9:PP.globalNamed "internal/strconv.uint64pow10"=some 0:=by kernel_rfl
theorem aqY:(PP.globals[0]?).map (·.type)=some 331:=by kernel_rfl
theorem apL:PP.underlying 331=some (.array 20 83):=by kernel_rfl
theorem aoF:PP.underlying 83=some (.int .u64):=by kernel_rfl
theorem anH:PP.cellsOf 83=1:=by kernel_rfl
theorem as6:PP.cellsOf 331=20:=by kernel_rfl
theorem amq {P:Program} {w:World} {n:String} {cs:Array Value} {g:Nat} (hg:P.globalNamed n=some g) (h:w.var? P n=some cs):g < w.heap.size:=by
 unfold World.var? at h;simp only [hg,A4] at h;rcases Mb g w.heap.size with h'|h'
 ·exact h'
 ·simp [Nx h'] at h
theorem Xg {w w':World} (hb:Below w.heap.size w w') {b o:Nat} {v:Value} (h:w.cell? ⟨b,o,none⟩=some v):w'.cell? ⟨b,o,none⟩=some v:=by rw [hb.cell (World.block_lt_of_cell? _ _ h)];exact h
theorem ai4 {w w':World} (hb:Below w.heap.size w w') {g:Nat} {k:IntKind} {t:List Nat} (h:Lib.TabSlice g k t w):Lib.TabSlice g k t w':=by obtain ⟨R,o,c,h1,h2⟩:=h;exact ⟨R,o,c,Xg hb h1,fun j hj=>Xg hb (h2 j hj)⟩
theorem anj {W:World} (h:ahc W):El W.heap.size W:=fun w' hb=>by obtain ⟨T,⟨h1,h2,h3,h4,r⟩,u1,u2⟩:=h;exact ⟨T,⟨ai4 hb h1,ai4 hb h2,ai4 hb h3,ai4 hb h4,r⟩,fun c hc=>Xg hb (u1 c hc),fun i hi=>⟨Xg hb (u2 i hi).1,Xg hb (u2 i hi).2⟩⟩
theorem u8x:U8Extra PP Tryz.acR:=⟨by kernel_rfl,by kernel_rfl,by kernel_rfl,by kernel_rfl,by kernel_rfl,by kernel_rfl,by kernel_rfl⟩
theorem prx:PrintExtra PP Tryz.acR:=⟨by kernel_rfl,by kernel_rfl,by kernel_rfl,by kernel_rfl,by kernel_rfl,by kernel_rfl,by kernel_rfl,by kernel_rfl,by kernel_rfl,by kernel_rfl⟩
theorem inv_of {l1 l2 l5:String×DataW Unit} {W:World} (h:laidMet PP [l1,l2,("internal/strconv.uint64pow10",Lib.tabData .u64 Lib.pow10Tab),("unicode/utf8.acceptRanges",Lib.acceptData),l5,("strconv.isNotPrint16",Lib.sliceData .u16 Lib.goPrintTabs.n16),("strconv.isNotPrint32",Lib.sliceData .u16 Lib.goPrintTabs.n32),("strconv.isPrint16",Lib.sliceData .u16 Lib.goPrintTabs.p16),("strconv.isPrint32",Lib.sliceData .u32 Lib.goPrintTabs.p32),("unicode/utf8.first",Lib.firstData)] W):lV.Inv W.heap.size W:=by
 have r3:=Lib.laidMet.reads h (n:= "internal/strconv.uint64pow10") (.tail _ (.tail _ (.head _)));refine ⟨fun t ht=>?_,anj ⟨Lib.goPrintTabs,printTabs_of_reads (ρ:=Tryz.acR) { Tryz.SQ with} prx (Lib.laidMet.reads h (.tail _ (.tail _ (.tail _ (.tail _ (.tail _ (.tail _ (.tail _ (.head _))))))))) (Lib.laidMet.reads h (.tail _ (.tail _ (.tail _ (.tail _ (.tail _ (.head _))))))) (Lib.laidMet.reads h (.tail _ (.tail _ (.tail _ (.tail _ (.tail _ (.tail _ (.tail _ (.tail _ (.head _)))))))))) (Lib.laidMet.reads h (.tail _ (.tail _ (.tail _ (.tail _ (.tail _ (.tail _ (.head _)))))))),
  utf8Tabs_of_reads (ρ:=Tryz.acR) { Tryz.SQ with} u8x (Lib.laidMet.reads h (.tail _ (.tail _ (.tail _ (.tail _ (.tail _ (.tail _ (.tail _ (.tail _ (.tail _ (.head _))))))))))) (Lib.laidMet.reads h (.tail _ (.tail _ (.tail _ (.head _)))))⟩⟩
 obtain ⟨g2,t2,cs2,f2,p2,hg2,ht2,hv2,hd2⟩:=r3;obtain rfl:=Jx (aj9.symm.trans hg2);obtain rfl:=Jx (aqY.symm.trans ht2);simp only [By] at ht;subst ht;refine ⟨0,aj9,amq aj9 hv2,?_⟩;show W.var? PP _=_
 rw [hv2,<-Lib.cells_of_tab apL aoF anH as6 hd2]
end Go.Ey.Pr
