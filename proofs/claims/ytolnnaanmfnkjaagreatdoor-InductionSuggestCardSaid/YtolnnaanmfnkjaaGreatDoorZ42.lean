/- InductionSuggest: for every input the law returns true, and its arguments read as before. No condition beyond the tables of the card. -/
import Derived.Test.YtolnnaanmfnkjaaGreatDoorZ46
import Derived.Test.YtolnnaanmfnkjaaGreatDoorZ40
import Derived.Test.YtolnnaanmfnkjaaGreatDoorZ41
import Derived.Test.YtolnnaanmfnkjaaGreatDoorTie
import Derived.Test.YtolnnaanmfnkjaaGreatDoorCards
import Derived.SevenTiedAt
import Derived.Lay
set_option linter.all false
set_option maxHeartbeats 0
set_option maxRecDepth 100000
namespace Go.Ey.Pr
open Seat RowKit Proofs
theorem ahO {A B:Option (Option (List Cs))} {ps:List aI} (h:aks A B ps=true):∃a b,A=some a/\B=some b/\aan b a=true/\ag8 ps a=true:=by
 match A,B,h with
 |some a,some b,h=>
  simp only [aks,A5] at h;exact ⟨a,b,rfl,rfl,h.1,h.2⟩
theorem ah9 {ps:List aI} {xs:List K} (h:amP ps xs=true):∃a b,Ti (jL FX 300 121 [.agg (OX xs)])=some a/\Ti (jL FX 300 113 [.agg (OX xs)])=some b/\aan b a=true/\ag8 ps a=true:=by unfold amP at h;exact ahO h
section
variable {nat:Nat->List V->Option (List V)}
theorem af9:(T nat).ko 110=some [.one,.agg 2]:=by kernel_rfl
theorem ag4:(T nat).ko 112=some [.one,.agg 2]:=by kernel_rfl
def YT (nat:Nat->List V->Option (List V)):Prop:=∀(es:List C) (rs:List V),es.length=37->jL FX 300 113 [.agg es]=some rs->bq (T nat).G 113 [.v (.agg es)] []=some (rs,[])
theorem arb (hn:qd nat) (hv:Cc nat) (hs:aaS nat) (hs':YT nat) {cw:C} (hw:RK D6 cw) {nm:aI} (hnm:nm∈names) (off:List aI) (ho:off.length < 100000) (u:Tm) (hu:aN u=nm) (hun:ah u<=90):
  bq (T nat).G 43 [.v (.one cw),.v (.one (rows bP off)),.v (.agg (aa u))] []=bq (T nat).G 45 [.v (.one cw),.v (.one (rows bP off)),.v (.agg (aa u))] []:=by
 have hd:=D0.1 QE nm hnm;have hp:=D0.1 aby nm hnm;have hwl:∃r n,D6=.sl 32 r n:=⟨wlE,38,rfl⟩;obtain ⟨d,hd⟩:=Option.isSome_iff_exists.1 hd;unfold am2 at hp;rw [hd] at hp;unfold aqf at hp;split at hp
 case h_2=>cases hp
 rename_i xs ok ys ok' k _ k' _ e1 f1 e2 f2;simp only [A5,G0] at hp;obtain ⟨hxy,rfl,hkk,apA,akQ⟩:=hp;obtain rfl:=uj _ _ hxy;obtain rfl:=Bx hkk;simp only [adB,alY,e1,e2] at hd;cases hx:Nat.beq xs.length 37 with
 |false=>rw [hx] at hd;cases hd
 |true=>
  rw [hx,F1] at hd;have hxl:xs.length=37:=Bx hx;obtain ⟨r1,g1,g2,g3⟩:=AO (NK hn) ZN (ts:=[.v (.one (.v 0)),.v (.agg (.all 0))]) rfl (ys:=[.c D6,.l 2 [kS nm.1,kS nm.2]]) (us:=[.v (.one cw),.v (.agg [cs nm.1,cs nm.2])]) ⟨hw,⟨gJ.cons (Fj _) (gJ.cons (Fj _) gJ.nil),rfl⟩,trivial⟩ (zs:=[]) (css:=[]) trivial e1;obtain ⟨r2,p1,p2,p3⟩:=AO (ach hn) af9 (ts:=[.v (.one (.v 0)),.v (.agg (.all 0))]) rfl (ys:=[.c D6,.l 2 [kS nm.1,kS nm.2]]) (us:=[.v (.one cw),.v (.agg [cs nm.1,cs nm.2])]) ⟨hw,⟨gJ.cons (Fj _) (gJ.cons (Fj _) gJ.nil),rfl⟩,trivial⟩ (zs:=[]) (css:=[]) trivial f1;obtain ⟨r3,o1,o2,o3⟩:=AO (ach hn) ag4 (ts:=[.v (.one (.v 0)),.v (.agg (.all 0))]) rfl (ys:=[.c D6,.l 2 [kS nm.1,kS nm.2]]) (us:=[.v (.one cw),.v (.agg [cs nm.1,cs nm.2])]) ⟨hw,⟨gJ.cons (Fj _) (gJ.cons (Fj _) gJ.nil),rfl⟩,trivial⟩ (zs:=[]) (css:=[]) trivial f2;obtain ⟨a1,b1⟩:=r1;obtain ⟨a2,b2⟩:=r2;obtain ⟨a3,b3⟩:=r3
  match a1,b1,g2,g3,a2,b2,p2,p3,a3,b3,o2,o3 with
  |[.agg es,.one c1],[],g2,_,[.agg es',.one c2'],[],p2,_,[.one c3,.one d3],[],o2,_=>
   have hes:gJ xs es:=g2.1.1;have hok:RK (.b ok) c1:=g2.2.1;have hes':gJ xs es':=p2.1.1;have hok':RK (.b ok) c2':=p2.2.1;have hk3:RK (.i .i64 (.ofNat k)) c3:=o2.1;have hel:es.length=37:=by rw [gJ.length hes,hxl]
   have al3:es'.length=37:=by rw [gJ.length hes',hxl]
   rw [hok.bool] at g1;rw [hok'.bool] at p1;rw [hk3.int] at o1;obtain ⟨c2,d2,q1,q2,q3⟩:=kc2 hn aam (ts:=[.v (.one (.v 0)),.v (.agg (.all 0))]) rfl (ys:=[.c D6,.l 2 [kS nm.1,kS nm.2]]) (us:=[.v (.one cw),.v (.agg [cs nm.1,cs nm.2])]) ⟨hw,⟨gJ.cons (Fj _) (gJ.cons (Fj _) gJ.nil),rfl⟩,trivial⟩ e2;rw [q1.int] at q3;have g1':bq (T nat).G 101 [.v (.one cw),.v (.agg (bP nm))] []=some ([.agg es,.one (cb ok)],[]):=g1;have p1':bq (T nat).G 110 [.v (.one cw),.v (.agg (bP nm))] []=some ([.agg es',.one (cb ok)],[]):=p1;have q3':bq (T nat).G 120 [.v (.one cw),.v (.agg (bP nm))] []=some ([.one (ci (k:Int)),.one d2],[]):=q3;have o1':bq (T nat).G 112 [.v (.one cw),.v (.agg (bP nm))] []=some ([.one (ci (k:Int)),.one d3],[]):=o1;rw [<-hu] at g1' p1' q3' o1';cases ok with
   |false=>rw [aqP p1' al3,anm g1' hel]
   |true=>
    rw [F1] at hd;split at hd
    case h_2=>cases hd
    rename_i a b pr pn cl rest _ _;have r3:RK (.i .i64 cl) (ak es 3):=Bd hes rfl;have r2:RK (.sl 2 pr pn) (ak es 2):=Bd hes rfl;have r3':RK (.i .i64 cl) (ak es' 3):=Bd hes' rfl;have r2':RK (.sl 2 pr pn) (ak es' 2):=Bd hes' rfl;by_cases hcl:cl=1
    ·subst hcl;simp only [eq_self_iff_true,decide_true,F1] at hd;have e3:ak es 3=ci 1:=by rw [r3.int];rfl
     have e3':ak es' 3=ci 1:=by rw [r3'.int];rfl
     split at hd
     case h_2=>cases hd
     rename_i _ _ _ cnt hrow;obtain ⟨fs,hr1,hr2⟩:=aao hw hwl hrow;cases hc1:Nat.beq cnt 1 with
     |false=>
      rw [hc1,Ek] at hd;cases hd;have hne:cnt≠1:=fun e=>by rw [e] at hc1;cases hc1
      simp only [F1,L3,List.take_zero] at apA;have aj4:=uj _ _ apA;simp only [Dg,and_true] at aj4;have n0:RK a (ak es' 0):=Bd hes' rfl;have n1:RK b (ak es' 1):=Bd hes' rfl;rw [aj4.1] at n0;rw [aj4.2] at n1;rw [apu ho g1' hel e3 (RK.jk r2) q3' hr1 (RK.jk hr2) hne];exact as0 ho p1' al3 (by rw [gW,hu];exact RK.one n0 (Fj _)) (by rw [gY,hu];exact RK.one n1 (Fj _)) e3' (RK.jk r2') o1' hr1 (RK.jk hr2) hne
     |true=>
      rw [hc1,F1] at hd;have hcnt:cnt=1:=Bx hc1;split at hd
      case h_2=>cases hd
      rename_i _ body hbody;cases hq:(Eh [kS nm.1,kS nm.2,aiL (Ph pr [])] [a,b,.sl 2 pr pn] && (Eh (kT body) ((rest.drop 11).take 11) && (Nat.ble (ah body) 3000 && (Nat.ble (Ph pr []).length 1000 && Xi (a::b:: .sl 2 pr pn:: .i .i64 1::rest))))) with
      |false=>rw [hq] at hd;cases hd
      |true=>
       rw [hq,F1] at hd;simp only [A5,Ln] at hq;obtain ⟨k1,k2,k3,k4,k5⟩:=hq;have heq:=gJ.one hes (H7 _ k5);have heq':es'=es:=(gJ.one hes' (H7 _ k5)).trans heq.symm;subst heq';cases hS:Ti (jL FX 300 121 [.agg (OX (a::b:: .sl 2 pr pn:: .i .i64 1::rest))]) with
       |none=>rw [hS] at hd;cases hd
       |some sc=>
       rw [hS] at hd;have hdd:d=.some (Ph pr []) body ((abn 100 (rest.drop 22)).getD (.dV (.st ⟨#[]⟩))):=by
        cases sc with
        |none=>exact (I2 hd).symm
        |some ks=>
         simp only at hd;generalize (ksb ks && _)=qq at hd;cases qq with
         |false=>cases hd
         |true=>exact (I2 hd).symm
       rw [hdd] at akQ;obtain ⟨sc2,sc',hA,hB,hE,hpo⟩:=ah9 akQ;obtain rfl:sc=sc2:=I2 (hS.symm.trans hA);have Pq:=hs es' _ hel (by rw [heq];exact Su hS)
       have Q8:=hs' es' _ hel (by rw [heq];exact Su hB)
       rw [aeM hE] at Q8;clear heq hS hA hB hE akQ hdd;have k1':=uj _ _ k1;simp only [Dg,and_true] at k1';obtain ⟨ka,kb,kp⟩:=k1';have k2':=uj _ _ k2;obtain ⟨ps,hps⟩:∃ps,ps=Ph pr []:=⟨_,rfl⟩;rw [<-hps] at kp k4 hd hpo;subst ka kb;rw [<-kp] at hes;have hrl:rest.length=33:=by simp at hxl;omega
       have hsp:rest=rest.take 11++((rest.drop 11).take 11++rest.drop 22):=by rw [show rest.drop 22=(rest.drop 11).drop 11 by rw [List.drop_drop],Iv,Iv]
       rw [hsp,<-k2'] at hes
       match es',hes with
       |_::_::_::_::tl,.cons h1 (.cons h2 (.cons h3 (.cons h4 h5)))=>
        obtain ⟨gd,bm,rfl,hgd,hbm⟩:=BI h5;obtain ⟨bd,ms,rfl,hbd,hms⟩:=BI hbm;clear e1 e2 f1 f2;have n1:=RK.one h1 (Fj nm.1);have n2:=RK.one h2 (Fj nm.2);have n3:=RK.one h3 (ac8 ps);have n4:=h4.int;have n5:=gJ.one hbd (rkT body);subst n1 n2 n3 n5
        first|subst n4|skip
        have hgl:gd.length=11:=by rw [gJ.length hgd];simp;omega
        have hml:ms.length=11:=by rw [gJ.length hms];simp;omega
        have hf:Fd.OK ⟨nm,ps,1,gd,body,ms⟩:=⟨hgl,hml,k3,k4⟩;obtain ⟨mt,hmt⟩:∃mt,mt=(abn 100 (rest.drop 22)).getD (.dV (.st ⟨#[]⟩)):=⟨_,rfl⟩;rw [<-hmt] at hd;have hks:∀ks,sc=some ks->RO ks/\ms=aa mt/\ah mt<=30:=fun ks hk=>by
         subst hk;cases hq:(ksb ks && (Eh (kT mt) (rest.drop 22) && (Nat.ble (ah mt) 30 && vOK mt ps ks))) with
         |false=>simp only [hq,Ek] at hd;cases hd
         |true=>
          simp only [A5,Ln] at hq;have h6:=uj _ _ hq.2.1;rw [<-h6] at hms;exact ⟨aeV hq.1,gJ.one hms (rkT mt),hq.2.2.1⟩
        rw [x45 ho hf rfl g1' q3' hr1 (by rw [(RK.jk hr2),hcnt];rfl) Pq hks (by omega)]
        exact x43 hv ho hf rfl hu.symm p1' o1' hr1 (by rw [(RK.jk hr2),hcnt];rfl) Q8 (fun ks hk=>⟨(hks ks hk).1,(hks ks hk).2.1,(hks ks hk).2.2,ahw (by rw [<-hk];exact hpo)⟩) (by omega)
    ·rw [anq g1' hel r3.int hcl,ark p1' al3 r3'.int hcl]
end
section
variable {nat:Nat->List V->Option (List V)}
theorem LP (w off:C) (ts:List Tm) (hl:ts.length < 100000) (cd:Tm->Option gX) (hcd:∀u∈ts,Go.Proofs.fZ u=3->bq (T nat).G 43 [.v (.one w),.v (.one off),.v (.agg (aa u))] []=some (OW (cd u),[])):∀(m k:Nat) (acc:List gX),k+m=ts.length->acc.length<=k->
  bR (T nat).G 14 0 [.c w,.c off,.c (rows aa ts),.c (ci ts.length),.c (ci k),.c (rows aZ acc)]=some ([.one (rows aZ (acc++YI cd (ts.drop k)))],[])
 |0,k,acc,hk,ha=>by
  have hlt:¬((k:Int) < (ts.length:Int)):=by omega
  rw [aF Nb (t:=t14.heads[0]) rfl,bG (by omega:¬k < ts.length)]
  simp [-Int.natCast_add,t14,zZ,hlt,YI]
 |m+1,k,acc,hk,ha=>by
  have hkr:k < ts.length:=by omega
  have hlt:((k:Int) < (ts.length:Int)):=by omega
  have hs:=bn k (by omega)
  have hr:=jd hkr;have hkd:=OE ts[k];rw [drop_at hkr,YI];by_cases h3:Go.Proofs.fZ ts[k]=3
  ·have hc:=hcd _ (By hkr) h3;cases hq:cd ts[k] with
   |none=>
    rw [hq] at hc;simp only [OW,dS] at hc;have ih:=LP w off ts hl cd hcd m (k+1) acc (by omega) (by omega)
    rw [aF Nb (t:=t14.heads[0]) rfl];simp [-Int.natCast_add,t14,zZ,hlt,hr,hkd,h3,hc,hs,ih,af]
   |some c=>
    rw [hq] at hc;simp only [OW] at hc;have ih:=LP w off ts hl cd hcd m (k+1) (acc++[c]) (by omega) (by simp;omega)
    have ani:=afs c;have ha16:=ajk (acc:=acc) (x:=c) (by omega)
    rw [aF Nb (t:=t14.heads[0]) rfl];simp [-Int.natCast_add,t14,zZ,hlt,hr,hkd,h3,hc,ani,ha16,hs,ih,af,oD]
  ·have h3':(Go.Proofs.fZ ts[k]==3)=false:=Dd.2 h3;have ih:=LP w off ts hl cd hcd m (k+1) acc (by omega) (by omega)
   rw [aF Nb (t:=t14.heads[0]) rfl];simp [-Int.natCast_add,t14,zZ,hlt,hr,hkd,h3,h3',hs,ih,af]
theorem x14 {w off:C} {ts us:List Tm} (h42:bq (T nat).G 42 [.v (.one (rows aa ts))] []=some ([.one (rows aa us)],[])) (hl:us.length < 100000) {cd:Tm->Option gX} (hcd:∀u∈us,Go.Proofs.fZ u=3->bq (T nat).G 43 [.v (.one w),.v (.one off),.v (.agg (aa u))] []=some (OW (cd u),[])):
  bq (T nat).G 14 [.v (.one w),.v (.one off),.v (.one (rows aa ts))] []=some ([.one (rows aZ (YI cd us))],[]):=by
 have h:=LP (nat:=nat) w off us hl cd hcd us.length 0 [] (by omega) (by simp)
 simp only [C4,D1,E2,show rows aZ []=cz from rfl] at h
 rw [aQ Nb];simp [t14,zZ,aG,h42,h]
def afe (nat:Nat->List V->Option (List V)):Prop:=∀ts:List Tm,(∀x∈ts,UN x)->au ts<=80000->bq (T nat).G 42 [.v (.one (rows aa ts))] []=some ([.one (rows aa (lq [] ts))],[])
theorem sg2 (hn:qd nat) (hv:Cc nat) (hs:aaS nat) (hs':YT nat) (hsub:afL nat) (aoa:afe nat) {cw:C} (hw:RK D6 cw) (off:List aI) (ho:off.length < 100000) (c:List Tm) (hc:DC 3 29 c) (hk:∀t∈c,UN t):
  ∃l:List gX,bq (T nat).G 14 [.v (.one cw),.v (.one (rows bP off)),.v (.one (rows aa c))] []=some ([.one (rows aZ l)],[])/\bq (T nat).G 15 [.v (.one cw),.v (.one (rows bP off)),.v (.one (rows aa c))] []=some ([.one (rows aZ l)],[])/\l.length<=100/\∀x∈l,OT x:=by
 have hP:=SS (P:=fun t=>okD t/\ah t<=29) (fun p s ts h x hx=>⟨Nl.1 h.1.2 x hx,by have h1:=nC hx;have h2:=h.2;simp only [ah] at h2;omega⟩) c [] (fun x hx=>by cases hx) fun t ht=>⟨(hc.all t ht).ok,(hc.all t ht).sz⟩
 have hlen:=rT c [];have hcl:=hc.len;have hnd:=wh c fun t ht=>(hc.all t ht).sz
 have aph:=Cd 29 hcl;simp only [G3] at hlen;have h0:∀nm:aI,∃cd:Tm->Option gX,nm∈names->∀u:Tm,aN u=nm->ah u<=90->bq (T nat).G 45 [.v (.one cw),.v (.one (rows bP off)),.v (.agg (aa u))] []=some (OW (cd u),[])/\∀c,cd u=some c->OT c:=fun nm=>by
  by_cases h:nm∈names
  ·obtain ⟨cd,h1⟩:=asQ hn hs hw h off ho;exact ⟨cd,fun _=>h1⟩
  ·exact ⟨fun _=>none,fun h'=>absurd h' h⟩
 have h1:∀u∈fG [] c,Go.Proofs.fZ u=3->bq (T nat).G 45 [.v (.one cw),.v (.one (rows bP off)),.v (.agg (aa u))] []=some (OW ((h0 (aN u)).choose u),[])/\∀c,(h0 (aN u)).choose u=some c->OT c:=fun u hu hk=>by have h2:=hP u hu;exact (h0 (aN u)).choose_spec (Vv h2.1 hk) u rfl (by omega)
 have h42:=aoa c hk (by omega)
 rw [Go.Proofs.an6] at h42;refine ⟨YI (fun u=>(h0 (aN u)).choose u) (fG [] c),x14 h42 (by omega) fun u hu hk=>?_,x15 (hsub c (fun t ht=>Ca (by have:=(hc.all t ht).sz;omega)) (by omega)) (by omega) fun u hu hk=>(h1 u hu hk).1,?_,fun x hx=>?_⟩
 ·have h2:=hP u hu;rw [arb hn hv hs hs' hw (Vv h2.1 hk) off ho u rfl (by omega)]
  exact (h1 u hu hk).1
 ·have:=aag (fun u=>(h0 (aN u)).choose u) (fG [] c);omega
 ·obtain ⟨u,hu,hk,hcd⟩:=Q4 hx;exact (h1 u hu hk).2 x hcd
theorem Y5 (l:List gX) (hl:l.length < 100000) (h:∀c∈l,OT c):∀(m i:Nat),i+m=l.length->bR (T nat).G 3 0 [.c (rows aZ l),.c (rows aZ l),.c (ci i)]=some yes
 |0,i,hi=>by
  have hlt:¬((i:Int) < (l.length:Int)):=by omega
  rw [aF ade (t:=t3.heads[0]) rfl];simp [-Int.natCast_add,t3,zZ,hlt,aG,yes]
 |m+1,i,hi=>by
  have hir:i < l.length:=by omega
  have hlt:((i:Int) < (l.length:Int)):=by omega
  have hs:=bn i (by omega)
  have ih:=Y5 l hl h m (i+1) (by omega)
  have hc:=h _ (By hir);have h16:=x16 (nat:=nat) l[i] hc.cd hc.w.co hc.w.mo;simp only [yes] at h16 ih;rw [aF ade (t:=t3.heads[0]) rfl];simp [-Int.natCast_add,t3,zZ,hlt,aG,aqH hir,h16,hs,ih,oD,yes]
theorem ako (n:Int):∃r:Int,bW .rem false (.lit (.int .u8 n)) (.lit (.int .u8 4))=some (.lit (.int .u8 r)):=⟨_,rfl⟩
theorem x3 (na:kN nat) (hn:qd nat) {w:C} (hw:RK D6 w) (air:bq (T nat).G 10 [.v (.one (.lit (.int .u32 0)))] []=some ([.one w],[])) (h9:bq (T nat).G 9 [] []=some yes)
  (hsg:∀(off:List aI),off.length < 100000->∀c:List Tm,DC 3 29 c->∃l:List gX,bq (T nat).G 14 [.v (.one w),.v (.one (rows bP off)),.v (.one (rows aa c))] []=some ([.one (rows aZ l)],[])/\bq (T nat).G 15 [.v (.one w),.v (.one (rows bP off)),.v (.one (rows aa c))] []=some ([.one (rows aZ l)],[])/\l.length<=100/\∀x∈l,OT x) (bs:List UInt8) (o:Int):
  bq (T nat).G 3 [.v (.one (rows DY bs)),.v (.one (.lit (.int .u8 o)))] []=some yes:=by
 simp only [yes] at h9;have hlen:jk false (rows DY bs)=some (ci bs.length):=rfl;obtain ⟨r,hr⟩:=ako o;have he:bW .eql false (.lit (.int .u8 r)) (.lit (.int .u8 1))=some (cb (r==1)):=rfl;rw [aQ ade];by_cases hb:(60:Int) < (bs.length:Int)
 ·simp [t3,zZ,h9,hlen,hb,yes]
 ·obtain ⟨c,p1,h11,hc,hp1⟩:=x11 na hn hw bs (by omega) 0 (Fl _)
  simp only [bx,D1] at h11;cases hq:(r==1) with
  |true=>
   rw [hq] at he;obtain ⟨l,h14,h15,hl,hP⟩:=hsg [(dw,⟨#[98,105,110,97,114,121,45,97,112,112,101,110,100]⟩),(⟨#[117,115,101,114]⟩,⟨#[112,97,105,114,115]⟩)] (by simp) c hc
   have h0:=Y5 (nat:=nat) l (by omega) hP l.length 0 (by omega)
   simp only [D1] at h0;have asE:fK 2 2 [cs dw,cs ⟨#[98,105,110,97,114,121,45,97,112,112,101,110,100]⟩,cs ⟨#[117,115,101,114]⟩,cs ⟨#[112,97,105,114,115]⟩]=some (rows bP [(dw,⟨#[98,105,110,97,114,121,45,97,112,112,101,110,100]⟩),(⟨#[117,115,101,114]⟩,⟨#[112,97,105,114,115]⟩)]):=by simp [fK,rows,bP,bg]
   simp [t3,zZ,h9,hlen,hb,air,h11,hr,he,x12,x13,asE,h14,h15,aG,h0,zg]
  |false=>
   rw [hq] at he;obtain ⟨l,h14,h15,hl,hP⟩:=hsg [] (by simp) c hc
   have h0:=Y5 (nat:=nat) l (by omega) hP l.length 0 (by omega)
   simp only [D1] at h0;have ez:rows bP []=cz:=rfl;rw [ez] at h14 h15;simp [t3,zZ,h9,hlen,hb,air,h11,hr,he,h14,h15,aG,h0,zg]
end
def R2 (f:Nat) (vs rs:List V):Prop:=R1 f vs rs\/(f=113/\jL FX 300 113 vs=some rs)\/
 (∃ts:List Tm,((∀x∈ts,ah x<=3000)/\au ts<=70000)/\f=116/\vs=[.one (rows aa ts)]/\rs=[.one (rows bP (bT 1 [] ts))])\/
 (∃ts:List Tm,((∀x∈ts,UN x)/\au ts<=80000)/\f=42/\vs=[.one (rows aa ts)]/\rs=[.one (rows aa (lq [] ts))])
theorem JW {f:Nat} {vs rs:List V} (h:R1 f vs rs):f=283\/f=44\/f=9\/f=121:=by
 rcases h with h|⟨rfl,_⟩|⟨rfl,_⟩
 ·rcases Km h with h|h<;>simp [h]
 ·simp
 ·simp
theorem alm:isN 113=true:=by kernel_rfl
theorem amR:isN 116=true:=by kernel_rfl
theorem aoo:isN 42=true:=by kernel_rfl
theorem IE:Rb R2:=⟨fun {f vs rs rs'} h h'=>by
  rcases h with h|⟨rfl,h⟩|⟨ts,_,rfl,rfl,rfl⟩|⟨ts,_,rfl,rfl,rfl⟩
  ·rcases h' with h'|⟨rfl,_⟩|⟨_,_,rfl,_⟩|⟨_,_,rfl,_⟩
   ·exact afX.uniq h h'
   ·rcases JW h with h|h|h|h<;>cases h
   ·rcases JW h with h|h|h|h<;>cases h
   ·rcases JW h with h|h|h|h<;>cases h
  ·rcases h' with h'|⟨_,h'⟩|⟨_,_,hf,_⟩|⟨_,_,hf,_⟩
   ·rcases JW h' with h|h|h|h<;>cases h
   ·exact I2 (h.symm.trans h')
   ·cases hf
   ·cases hf
  ·rcases h' with h'|⟨hf,_⟩|⟨ts',_,_,hv,rfl⟩|⟨_,_,hf,_⟩
   ·rcases JW h' with h|h|h|h<;>cases h
   ·cases hf
   ·rw [Kl (LY hv).1]
   ·cases hf
  ·rcases h' with h'|⟨hf,_⟩|⟨_,_,hf,_⟩|⟨ts',_,_,hv,rfl⟩
   ·rcases JW h' with h|h|h|h<;>cases h
   ·cases hf
   ·cases hf
   ·rw [Kl (LY hv).1],fun h=>by
  rcases h with h|⟨rfl,_⟩|⟨_,_,rfl,_⟩|⟨_,_,rfl,_⟩
  ·exact afX.isN h
  ·exact alm
  ·exact amR
  ·exact aoo,fun h=>by
  rcases h with h|⟨rfl,h⟩|⟨ts,hp,rfl,rfl,rfl⟩|⟨ts,hp,rfl,rfl,rfl⟩
  ·exact afX.ok h
  ·exact xok h
  ·exact anf hp.1 hp.2
  ·exact ajo hp.1 hp.2⟩
theorem ahh:Cc (Hw R2):=fun ts h1 h2=>natFn (s:=apx) (by kernel_rfl) (by kernel_rfl) rfl rfl rfl rfl (IE.at (.inr (.inr (.inl ⟨ts,⟨h1,by omega⟩,rfl,rfl,rfl⟩))))
theorem aid:afe (Hw R2):=fun ts h1 h2=>natFn (s:=s42) (by kernel_rfl) (by kernel_rfl) rfl rfl rfl rfl (IE.at (.inr (.inr (.inr ⟨ts,⟨h1,h2⟩,rfl,rfl,rfl⟩))))
theorem agN:YT (Hw R2):=fun es rs hl h=>natFn (s:=amz) (by kernel_rfl) (by kernel_rfl) rfl rfl (by simp [jq,amz,hl]) rfl (IE.at (.inr (.inl ⟨rfl,h⟩)))
theorem ata (bs:List UInt8) (o:Int):nY PP 3 [.one (rows DY bs),.one (.lit (.int .u8 o))] [.one (cb true)]:=by
 have hn:=anR IE fun h=> .inl (.inl h)
 obtain ⟨w,hw,air⟩:=ad2 hn;exact IE.seat.fn (by kernel_rfl) (x3 (ad1 IE .inl) hn hw air (asL IE .inl) (fun off ho c hc=>sg2 hn ahh (ahS IE .inl) agN (afa IE .inl) aid hw off ho c hc fun t ht=>aka (hc.all t ht).ok (by have:=(hc.all t ht).sz;omega)) bs o)
end Go.Ey.Pr
namespace Go.Proofs.YtolnnaanmfnkjaaGreatDoor.inductionSuggest
open Ey Ey.Pr ChangeShapes WideShapes ChangeAt RowKit
set_option linter.unusedVariables false
theorem own:ownKnob Tryz.prog.godebug=none:=by kernel_rfl
theorem laidOut:laidOutB Tryz.prog=true:=by kernel_rfl
theorem looks:false=Tryz.prog.looks []:=by kernel_rfl
theorem mainIs:Tryz.prog.mainIs=some (true,("553e0069a973972142efee23b9f5ec7bad0651dc19b133852792b5bb8afd5c39":String).toList):=by kernel_rfl
theorem ahu:Rows.inductionSuggestRow.laid=[("math/bits.deBruijn32tab",Rows.laid_math_bits_deBruijn32tab),("math/bits.deBruijn64tab",Rows.laid_math_bits_deBruijn64tab),("internal/strconv.uint64pow10",Lib.tabData .u64 Lib.pow10Tab),("unicode/utf8.acceptRanges",Lib.acceptData),("strconv.isGraphic",Rows.laid_strconv_isGraphic),("strconv.isNotPrint16",Lib.sliceData .u16 Lib.goPrintTabs.n16),("strconv.isNotPrint32",Lib.sliceData .u16 Lib.goPrintTabs.n32),("strconv.isPrint16",Lib.sliceData .u16 Lib.goPrintTabs.p16),("strconv.isPrint32",Lib.sliceData .u32 Lib.goPrintTabs.p32),("unicode/utf8.first",Lib.firstData)]:=by kernel_rfl
theorem inv (W:World) (h:laidMetH Tryz.prog Rows.inductionSuggestRow.laid W):lV.Inv W.heap.size W:=by
 rw [MakeChecks.laidMetH_plain _ _ _ (by kernel_rfl),ahu] at h
 exact inv_of h
theorem lifted (os:Os) (started:os.Started) (H:Type) (enc:TypeId×Value->H):
  ReturnsInHanded {} Tryz.checked os 3 .any (fun w args=>(Rows.inductionSuggestSpec.pre enc Tryz.prog Tryz.f3 [] false w args/\laidMetH Tryz.prog Rows.inductionSuggestRow.laid w)/\sizedMet enc Tryz.prog Tryz.f3 (OpenSpec.ofChange Rows.inductionSuggestSpec) false w args)
   (Rows.inductionSuggestSpec.post enc Tryz.prog Tryz.f3 false true false false):=by
 refine returnsInHanded_of_change_and (C:=Tryz.checked) (X:=fun w _=>laidMetH Tryz.prog Rows.inductionSuggestRow.laid w) (fun _ _ _ hh h=>h.of_heap hh) own started (by kernel_rfl) Tryz.func3
  (ChangeSpec.witness_shaped (enc:=enc) (C:=Tryz.checked) (os:=os) (X:=fun w _=>laidMetH Tryz.prog Rows.inductionSuggestRow.laid w) false (World.laidAll Tryz.prog os Rows.inductionSuggestRow.laid) #[.slice none 0 0,.int .u8 0] 8 (World.laidAll_os _ _ _) (World.shaped_of_ZipB (by kernel_rfl) (by kernel_rfl)) (by kernel_rfl) (by kernel_rfl) (by kernel_rfl)
   (by rw [MakeChecks.laidMetH_plain _ _ _ (by kernel_rfl)];exact laidMet_laidAll _ (by kernel_rfl) (by kernel_rfl))) ?_
 intro W base args ds gs before hval0 hW _ _ hL _;have hval:∀(j:Nat) t v,Tryz.f3.params[j]?=some t->args[j]?=some v->Value.okWide Tryz.prog W .any base t v:=hval0;have hW':=hW;obtain ⟨p,q,hA0,hV,rfl,hfz,hnd⟩:=hW;have hA:DataW.TrodAll enc Tryz.prog W 0 (fun _=>true) true Tryz.f3.params.toList args.toList ds p:=hA0
 rw [Tryz.params3] at hA hval;obtain ⟨v0,vs0,d0,ds0,p0,q0,hargs,rfl,rfl,h0,r0⟩:=trodAll_cons hA;obtain ⟨v1,vs1,d1,ds1,p1,q1,rfl,rfl,rfl,h1,r1⟩:=trodAll_cons r0;obtain ⟨rfl,rfl,rfl⟩:=trodAll_nil r1;obtain rfl:args=#[v0,v1]:=by cases args;simp_all
 obtain ⟨rfl,rfl⟩:=trodVars_none hV;obtain ⟨a0,apC,cap0,rfl⟩:=okWide_slice Tryz.underlying22 (hval 0 22 v0 rfl rfl);have k0:=h0;have lt0:∀x∈p0,x.block < W.heap.size:=by obtain ⟨m,hm⟩:=k0;exact DataW.trod_lt m _ _ _ hm
 obtain ⟨bs,hrep⟩:∃bs,fP W (fun _ _=>True) (.one (rows DY bs)) (.slice a0 apC cap0):=by obtain ⟨fuel,hf⟩:=h0;obtain ⟨ccs,ha,ht⟩:=Gf 3 22 amA fuel _ _ hf;obtain ⟨bs,rfl,_⟩:=Ux ht;exact ⟨bs,ha.1⟩
 obtain ⟨o,rfl,rfl,rfl,w1⟩:=open_int Tryz.underlying5 (hval 1 5 v1 rfl rfl) h1;clear hA0 hval0;refine ((ata bs o).2 (fun _ _=>True) W [.slice a0 apC cap0,.int .u8 o] (inv W hL) ⟨hrep,by show bJ W (fun _ _=>True) (.lit (.int .u8 o)) (.int .u8 o);simp [bJ,scalar],trivial⟩).mono fun e W' ⟨v,he,hv,Ao⟩=>?_
 subst he;have hb:v=.bool true:=hv.1;subst hb;exact ⟨_,rfl,_,_,_,[],_,[],hW',trodAll_mk1 (shut_bool Tryz.underlying4 _),(trodAll_cons_mk (Below.trod laidOut (by kernel_rfl) (of_decide_eq_true (by kernel_rfl)) k0 Ao lt0) (trodAll_cons_mk (shut_int Tryz.underlying5 w1) trodAll_mk0)),rfl,Ao.frame _,fun h=>by cases h⟩
theorem over:Rows.InductionSuggestSaid:=
 OpenClaim.holds_of_wide (p:=Tryz.pinned) 3 Tryz.f3 rfl rfl rfl rfl rfl rfl rfl ⟨rfl,rfl,rfl,rfl,rfl⟩ rfl rfl rfl rfl rfl OH.named Tryz.func3 OH.closed
  (of_decide_eq_true (by kernel_rfl)) (by unfold Func.isWrapper;first|(rw [C6 (by decide+kernel)];kernel_rfl)|(rw [E0 (by decide+kernel)];exact ⟨rfl,rfl⟩))
  (fun os started H enc _=>lifted os started H enc)
theorem params (f:FuncId) (fn:Func) (hf:Tryz.prog.funcNamed "lispprover/lispproverlaw37.InductionSuggest"=some f) (hfn:Tryz.prog.funcs[f]?=some fn):false=Tryz.prog.looks []/\∀(j:Nat) t,fn.params[j]?=some t->Tryz.prog.wantsStandIn t=false:=by
 obtain rfl:f=3:=(I2 (OH.named.symm.trans hf)).symm;obtain rfl:fn=Tryz.f3:=(I2 (Tryz.func3.symm.trans hfn)).symm;refine ⟨looks,fun j t ht=>?_⟩
 rw [Tryz.params3] at ht;have h3:t=22\/t=5:=by
  rcases j with _|_|j
  ·exact .inl (by simpa using ht.symm)
  ·exact .inr (by simpa using ht.symm)
  ·simp at ht
 rcases h3 with rfl|rfl
 ·exact (show Tryz.prog.wantsStandIn 22=false by kernel_rfl)
 ·exact (show Tryz.prog.wantsStandIn 5=false by kernel_rfl)
theorem proved:Rows.InductionSuggestCardSaid:=
 Claim7.holds_tied_plain_at (p:=Tryz.pinned) (c:=Rows.inductionSuggestRow) .later [] [.data,.data,.data,.data,.pinned,.pinned,.pinned,.pinned,.pinned,.pinned] true (true, "553e0069a973972142efee23b9f5ec7bad0651dc19b133852792b5bb8afd5c39") false
  over (fun _ h=>by cases h) (by kernel_rfl) (fun _ h=>by cases h) inductionSuggest_row_tie rfl ⟨rfl,rfl⟩ mainIs rfl
  params OH.goesBy.symm
end Go.Proofs.YtolnnaanmfnkjaaGreatDoor.inductionSuggest
