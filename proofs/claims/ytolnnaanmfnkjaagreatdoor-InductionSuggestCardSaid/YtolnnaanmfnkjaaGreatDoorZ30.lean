import Derived.Test.YtolnnaanmfnkjaaGreatDoorZ28
import Derived.Test.YtolnnaanmfnkjaaGreatDoorZ29
import Derived.StillTailTactics
import Derived.Deep.AppendLies
import Derived.Deep.RegionHeld3
set_option linter.all false
set_option maxHeartbeats 0
set_option maxRecDepth 100000
namespace Go.Ey.Pr
open Seat
def t191:cB:=⟨[.one],[],
 .call 227 [(.v (.one (.v 0)))] [] [none] [] <|
 .ret [(.one (.v 1))] [],
 []⟩
def t227:cB:=⟨[.one],[],
 .call 266 [(.v (.one (.v 0)))] [] [none] [] <|
 .ret [(.one (.v 1))] [],
 []⟩
def t266:cB:=⟨[.one],[],
 .call 283 [(.v (.one (.v 0))),(.v (.one (.k (.int .i64 10))))] [] [none] [] <|
 .ret [(.one (.v 1))] [],
 []⟩
def OI (n:Int):ByteArray:=
 if n=0 then ⟨#[48]⟩ else if n=1 then ⟨#[49]⟩ else if n=2 then ⟨#[50]⟩ else if n=3 then ⟨#[51]⟩ else if n=-1 then ⟨#[45,49]⟩ else if n=-2 then ⟨#[45,50]⟩ else ⟨#[45,51]⟩
def agx (nat:Nat->List V->Option (List V)):Prop:=
 ∀n:Int,-3<=n->n<=3->nat 283 [.one (ci n),.one (ci 10)]=some [.one (cs (OI n))]
theorem agx.i {nat:Nat->List V->Option (List V)} (h:agx nat):qd nat:=⟨h 0 (by omega) (by omega),h 1 (by omega) (by omega)⟩
section
variable {nat:Nat->List V->Option (List V)}
theorem aik:(T nat).G.fn 191=some t191:=by kernel_rfl
theorem agW:(T nat).G.fn 227=some t227:=by kernel_rfl
theorem agz:(T nat).G.fn 266=some t266:=by kernel_rfl
theorem asf (h:agx nat) {n:Int} (h1:-3<=n) (h2:n<=3):bq (T nat).G 191 [.v (.one (ci n))] []=some ([.one (cs (OI n))],[]):=by
 have e1:=YD (h n h1 h2);have e2:bq (T nat).G 266 [.v (.one (ci n))] []=some ([.one (cs (OI n))],[]):=by rw [aQ agz];simp [t266,zS,e1]
 have e3:bq (T nat).G 227 [.v (.one (ci n))] []=some ([.one (cs (OI n))],[]):=by rw [aQ agW];simp [t227,zS,e2]
 rw [aQ aik];simp [t191,zS,e3]
theorem aeO {n:Int} (h1:-3<=n) (h2:n<=3):(OI n,(⟨#[49]⟩:ByteArray))∈small/\Lj n=.num (OI n) ⟨#[49]⟩:=by
 have h:n=-3\/n=-2\/n=-1\/n=0\/n=1\/n=2\/n=3:=by omega
 rcases h with rfl|rfl|rfl|rfl|rfl|rfl|rfl<;>simp [OI,small,Lj]
theorem aiz (h:agx nat):kN nat:=by
 refine ⟨fun n h1 h2=>?_,x159 h.i (⟨#[49]⟩,⟨#[50]⟩) (by simp [small]),x159 h.i (⟨#[45,53]⟩,⟨#[51]⟩) (by simp [small])⟩
 obtain ⟨g1,g2⟩:=aeO h1 h2;have e1:=x159 h.i _ g1;rw [g2,aQ agR];simp only at e1;simp [t147,zS,asf h h1 h2,e1,bF]
end
end Go.Ey.Pr
namespace Go.Proofs
open Shelf RowKit Ey Ey.Pr
mutual
def FB:Tm->Prop
 |.var p s=>OJ p/\OJ s
 |.dV o=>O6 o
 |.app p s ts=>OJ p/\OJ s/\ts.length<=3/\P8 ts
def P8:List Tm->Prop
 |[]=>True
 |t::ts=>FB t/\P8 ts
end
mutual
theorem vg:∀{t:Tm},FB t->(oz t).length<=1000 * ah t
 |.var p s,h=>by
  have h1:=jh h.1;have h2:=jh h.2
  simp only [oz,oL,ah,C5,Ax];omega
 |.dV o,h=>by
  have h1:=zA (show O6 o from h)
  have h2:=BX o;simp only [oz,ah,C5];cases o with
  |cons a b=>
   have h3:=zA h.1;have h4:=zA h.2
   simp only [oO,Gc,C5,Ax,G3];omega
  |num n d=>
   have e1:n.data.toList.length<=200:=h.1;have e2:d.data.toList.length<=200:=h.2;simp only [oO,Gc,C5,Ax,G3];omega
  |sy p s=>
   have e1:=jh h.1;have e2:=jh h.2
   simp only [oO,oL,Gc,C5,Ax];omega
  |st t=>
   have e1:=jh (show OJ t from h)
   simp only [oO,Gc,C5];omega
 |.app p s ts,h=>by
  have h1:=jh h.1;have h2:=jh h.2.1
  have h3:=Qh h.2.2.2;simp only [oz,oL,ah,C5,Ax,G3];omega
theorem Qh:∀{ts:List Tm},P8 ts->(zo ts).length<=1000 * au ts
 |[],_=>by simp [zo]
 |t::ts,h=>by
  have h1:=vg h.1;have h2:=Qh h.2
  simp only [zo,au,Ax];omega
end
theorem bL {w:World} {B:Nat} {t:Tm} {us:List Value} (h:Ey.av (RB w B) (aa t) us):∃(k0:Int) (k1 k2:ByteArray) (k3:Int) (k4 k5 k6 k7 k8:ByteArray) (kp:Option Addr) (kl kc:Nat) (kq:Option Addr) (km kd:Nat),us=[.int .i64 k0,.string k1,.string k2,.int .i64 k3,.string k4,.string k5,.string k6,.string k7,.string k8,.slice kp kl kc,.slice kq km kd]:=by
 have hz:∀{c:C} {u:Value},(∃xs n,c=.slice xs n)->RB w B c u->∃p l c,u=.slice p l c:=fun {c u} hc h=>by obtain ⟨xs,n,rfl⟩:=hc;rcases h with ⟨rfl,_⟩|⟨a,cap,rfl,_⟩<;>exact ⟨_,_,_,rfl⟩
 have key:∀{a:Int} {b1 b2:ByteArray} {b:Int} {b3 b4 b5 b6 b7:ByteArray} {c d:C},(∃xs n,c=.slice xs n)->(∃xs n,d=.slice xs n)->Ey.av (RB w B) [ci a,cs b1,cs b2,ci b,cs b3,cs b4,cs b5,cs b6,cs b7,c,d] us->∃(k0:Int) (k1 k2:ByteArray) (k3:Int) (k4 k5 k6 k7 k8:ByteArray) (kp:Option Addr) (kl kc:Nat) (kq:Option Addr) (km kd:Nat),us=[.int .i64 k0,.string k1,.string k2,.int .i64 k3,.string k4,.string k5,.string k6,.string k7,.string k8,.slice kp kl kc,.slice kq km kd]:=by
  intro a b1 b2 b b3 b4 b5 b6 b7 c d hc hd h
  match us,h with
  |[u0,u1,u2,u3,u4,u5,u6,u7,u8,u9,Sl],⟨q0,q1,q2,q3,q4,q5,q6,q7,q8,q9,q10,_⟩=>
   obtain ⟨_,_,_,e9⟩:=hz hc q9;obtain ⟨_,_,_,e10⟩:=hz hd q10;exact ⟨_,_,_,_,_,_,_,_,_,_,_,_,_,_,_,by rw [q0.i,RB.s q1,RB.s q2,q3.i,RB.s q4,RB.s q5,RB.s q6,RB.s q7,RB.s q8,e9,e10]⟩
 cases t with
 |var p s=>exact key ⟨_,_,rfl⟩ ⟨_,_,rfl⟩ (show Ey.av (RB w B) [ci 1,cs p,cs s,ci 0,cs ⟨#[]⟩,cs ⟨#[]⟩,cs ⟨#[]⟩,cs ⟨#[]⟩,cs ⟨#[]⟩,cz,cz] us from h)
 |app p s ts=>exact key ⟨_,_,rfl⟩ ⟨_,_,rfl⟩ (show Ey.av (RB w B) [ci 3,cs p,cs s,ci 0,cs ⟨#[]⟩,cs ⟨#[]⟩,cs ⟨#[]⟩,cs ⟨#[]⟩,cs ⟨#[]⟩,cz,.slice (eZ ts) ts.length] us from h)
 |dV ob=>
  cases ob with
  |num n d=>exact key ⟨_,_,rfl⟩ ⟨_,_,rfl⟩ (show Ey.av (RB w B) [ci 2,cs ⟨#[]⟩,cs ⟨#[]⟩,ci 1,cs n,cs d,cs ⟨#[]⟩,cs ⟨#[]⟩,cs ⟨#[]⟩,cz,cz] us from h)
  |sy p s=>exact key ⟨_,_,rfl⟩ ⟨_,_,rfl⟩ (show Ey.av (RB w B) [ci 2,cs ⟨#[]⟩,cs ⟨#[]⟩,ci 2,cs ⟨#[]⟩,cs ⟨#[]⟩,cs p,cs s,cs ⟨#[]⟩,cz,cz] us from h)
  |st t=>exact key ⟨_,_,rfl⟩ ⟨_,_,rfl⟩ (show Ey.av (RB w B) [ci 2,cs ⟨#[]⟩,cs ⟨#[]⟩,ci 3,cs ⟨#[]⟩,cs ⟨#[]⟩,cs ⟨#[]⟩,cs ⟨#[]⟩,cs t,cz,cz] us from h)
  |cons a b=>exact key ⟨_,_,rfl⟩ ⟨_,_,rfl⟩ (show Ey.av (RB w B) [ci 2,cs ⟨#[]⟩,cs ⟨#[]⟩,ci 4,cs ⟨#[]⟩,cs ⟨#[]⟩,cs ⟨#[]⟩,cs ⟨#[]⟩,cs ⟨#[]⟩,.slice (enc a++enc b) 2,cz] us from h)
def GK (B b:Nat) (t:Tm):Prop:=∀(l:List UInt8) (us:List Value) (w:World),BK B b l w->l.length+2000 * ah t<=10000000->FB t->Ey.av (RB w B) (aa t) us->
    Calls Tryz.prog 163 #[.pointer (some ⟨b,0,none⟩),.agg us.toArray] w fun e w'=>e=.returned (.tuple #[])/\BK B b (l++oz t) w'/\KP B b w w'
theorem GK.use {B b:Nat} {t:Tm} (h:GK B b t) {l:List UInt8} {us:List Value} {w:World} (h1:BK B b l w) (h2:l.length+2000 * ah t<=10000000) (h3:FB t) (h4:Ey.av (RB w B) (aa t) us):
  Calls Tryz.prog 163 #[.pointer (some ⟨b,0,none⟩),.agg us.toArray] w fun e w'=>e=.returned (.tuple #[])/\BK B b (l++oz t) w'/\KP B b w w':=h l us w h1 h2 h3 h4
theorem Tryz.ari (B b:Nat) (p s:ByteArray):GK B b (.var p s):=by
  intro l us w h hl hq hu;simp only [ah] at hl
  match us,hu with
  |[u0,u1,u2,u3,u4,u5,u6,u7,u8,u9,Sl],⟨q0,q1,q2,q3,q4,q5,q6,q7,q8,q9,q10,_⟩=>
   obtain rfl:=q0.i;obtain rfl:=RB.s q1;obtain rfl:=RB.s q2;have hb:=zL h.1;clear q0 q1 q2 q3 q4 q5 q6 q7 q8 q9 q10;obtain ⟨w1,hw1⟩:∃w1,w1=w.alloc (.cells #[.int .i64 1,.string p,.string s,u3,u4,u5,u6,u7,u8,u9,Sl] 44):=⟨_,rfl⟩;have bf:Below w.heap.size w w1:=by rw [hw1];exact (Below.refl _ w).alloc (An _) _
   have hn:w1.heap[w.heap.size]?=some (.cells #[.int .i64 1,.string p,.string s,u3,u4,u5,u6,u7,u8,u9,Sl] 44):=by
    rw [hw1];show (w.heap.push _)[w.heap.size]?=_
    simp
   have k1:=KP.of (b:=b) h.2.1 bf;have h5:=h.keep bf;go_enter Tryz.func163,Tryz.ntmps163;have c1:=Tryz.Aq B b l 118 w1 h5 (by omega)
   go_wp2_with (go_at_call 195;rw [<-hw1];refine c1.mono ?_);rintro e w2 ⟨rfl,h6,k2⟩;have hc1:w2.cell? ⟨w.heap.size,1,none⟩=some (.string p):=by rw [k2.cell hn (by omega) (by decide) 1];simp only [World.cell?,hn];rfl
   have hc2:w2.cell? ⟨w.heap.size,2,none⟩=some (.string s):=by rw [k2.cell hn (by omega) (by decide) 2];simp only [World.cell?,hn];rfl
   have c2:=Tryz.Qs B b _ p s w2 h6 (by simp;omega) hq.1 hq.2
   go_wp2_with (go_at_call 196;refine c2.mono ?_);rintro e w3 ⟨rfl,h7,k3⟩;go_wp2;go_end0;refine ⟨rfl,?_,k1.trans (k2.trans k3)⟩;simpa [oz] using h7
theorem Tryz.asS (B b:Nat) (ob:Ob):GK B b (.dV ob):=by
  intro l us w h hl hq hu;simp only [ah] at hl;have hq':O6 ob:=hq;rw [show aa (.dV ob)=[ci 2,ce,ce]++(enc ob++[cz]) by cases ob<;>rfl] at hu
  obtain ⟨ua,ub,rfl,hua,hub⟩:=gz hu;obtain ⟨uo,uz,rfl,huo,huz⟩:=gz hub;obtain ⟨x0,x1,x2,x3,x4,x5,xp,xl,xc,rfl⟩:=Jw huo
  match ua,hua,uz,huz with
  |[u0,u1,u2],⟨q0,q1,q2,_⟩,[Sl],_=>
   obtain rfl:=q0.i;have hb:=zL h.1;have hpos:=BX ob;clear q0 q1 q2 hu hub;obtain ⟨w1,hw1⟩:∃w1,w1=w.alloc (.cells #[.int .i64 2,u1,u2,.int .i64 x0,.string x1,.string x2,.string x3,.string x4,.string x5,.slice xp xl xc,Sl] 44):=⟨_,rfl⟩;have bf:Below w.heap.size w w1:=by rw [hw1];exact (Below.refl _ w).alloc (An _) _
   have hn:w1.heap[w.heap.size]?=some (.cells #[.int .i64 2,u1,u2,.int .i64 x0,.string x1,.string x2,.string x3,.string x4,.string x5,.slice xp xl xc,Sl] 44):=by
    rw [hw1];show (w.heap.push _)[w.heap.size]?=_
    simp
   have k1:=KP.of (b:=b) h.2.1 bf;have h5:=h.keep bf;go_enter Tryz.func163,Tryz.ntmps163;have c1:=Tryz.Aq B b l 99 w1 h5 (by omega)
   go_wp2_with (go_at_call 195;rw [<-hw1];refine c1.mono ?_);rintro e w2 ⟨rfl,h6,k2⟩;have hc3:w2.cell? ⟨w.heap.size,3,none⟩=some (.int .i64 x0):=by rw [k2.cell hn (by omega) (by decide) 3];simp only [World.cell?,hn];rfl
   have hc4:w2.cell? ⟨w.heap.size,4,none⟩=some (.string x1):=by rw [k2.cell hn (by omega) (by decide) 4];simp only [World.cell?,hn];rfl
   have hc5:w2.cell? ⟨w.heap.size,5,none⟩=some (.string x2):=by rw [k2.cell hn (by omega) (by decide) 5];simp only [World.cell?,hn];rfl
   have hc6:w2.cell? ⟨w.heap.size,6,none⟩=some (.string x3):=by rw [k2.cell hn (by omega) (by decide) 6];simp only [World.cell?,hn];rfl
   have hc7:w2.cell? ⟨w.heap.size,7,none⟩=some (.string x4):=by rw [k2.cell hn (by omega) (by decide) 7];simp only [World.cell?,hn];rfl
   have hc8:w2.cell? ⟨w.heap.size,8,none⟩=some (.string x5):=by rw [k2.cell hn (by omega) (by decide) 8];simp only [World.cell?,hn];rfl
   have hc9:w2.cell? ⟨w.heap.size,9,none⟩=some (.slice xp xl xc):=by rw [k2.cell hn (by omega) (by decide) 9];simp only [World.cell?,hn];rfl
   have c2:=(Tryz.akp B b ob).use h6 (by simp;omega) hq' (huo.mono fun _ _ h=>RB.keep (k1.trans k2).Ao h)
   go_wp2_with (go_at_call 197;refine c2.mono ?_);rintro e w3 ⟨rfl,h7,k3⟩;go_wp2;go_end0;refine ⟨rfl,?_,k1.trans (k2.trans k3)⟩;simpa [oz] using h7
theorem Tryz.ao8 (B b:Nat) (p s:ByteArray):GK B b (.app p s []):=by
  intro l us w h hl hq hu;simp only [ah,au] at hl
  match us,hu with
  |[u0,u1,u2,u3,u4,u5,u6,u7,u8,u9,Sl],⟨q0,q1,q2,q3,q4,q5,q6,q7,q8,q9,q10,_⟩=>
   obtain rfl:=q0.i;obtain rfl:=RB.s q1;obtain rfl:=RB.s q2;have hb:=zL h.1;obtain ⟨a10,cap,rfl⟩:∃a10 cap,Sl=.slice a10 0 cap:=by rcases q10 with ⟨rfl,_⟩|⟨a,cap,rfl,_⟩<;>exact ⟨_,_,rfl⟩
   clear q0 q1 q2 q3 q4 q5 q6 q7 q8 q9 q10;obtain ⟨w1,hw1⟩:∃w1,w1=w.alloc (.cells #[.int .i64 3,.string p,.string s,u3,u4,u5,u6,u7,u8,u9,.slice a10 0 cap] 44):=⟨_,rfl⟩;have bf:Below w.heap.size w w1:=by rw [hw1];exact (Below.refl _ w).alloc (An _) _
   have hn:w1.heap[w.heap.size]?=some (.cells #[.int .i64 3,.string p,.string s,u3,u4,u5,u6,u7,u8,u9,.slice a10 0 cap] 44):=by
    rw [hw1];show (w.heap.push _)[w.heap.size]?=_
    simp
   have k1:=KP.of (b:=b) h.2.1 bf;have h5:=h.keep bf;go_enter Tryz.func163,Tryz.ntmps163;have c1:=Tryz.Aq B b l 40 w1 h5 (by omega)
   go_wp2_with (go_at_call 195;rw [<-hw1];refine c1.mono ?_)
   first|(rintro e w2 rfl h6 k2;try rw [<-hw1] at k2)|rintro e w2 ⟨rfl,h6,k2⟩
   have hc1:w2.cell? ⟨w.heap.size,1,none⟩=some (.string p):=by rw [k2.cell hn (by omega) (by decide) 1];simp only [World.cell?,hn];rfl
   have hc2:w2.cell? ⟨w.heap.size,2,none⟩=some (.string s):=by rw [k2.cell hn (by omega) (by decide) 2];simp only [World.cell?,hn];rfl
   have c2:=Tryz.Qs B b _ p s w2 h6 (by simp;omega) hq.1 hq.2.1
   go_wp2_with (go_at_call 196;refine c2.mono ?_);rintro e w3 ⟨rfl,h7,k3⟩;have k23:=k2.trans k3;have abf:w3.cell? ⟨w.heap.size,10,none⟩=some (.slice a10 0 cap):=by rw [k23.cell hn (by omega) (by decide) 10];simp only [World.cell?,hn];rfl
   have hnk:(oL p s).length<=404:=by have:=jh hq.1;have:=jh hq.2.1;simp only [oL,Ax];omega
   have g3:=k1.trans k23;go_wp2;refine wp_loop_rounds 1 ?_;rw [rounds_succ];have cl:=Tryz.Aq B b _ 41 w3 h7 (by simp;omega)
   go_wp2_with (go_at_call 195;refine cl.mono ?_);rintro e we ⟨rfl,he,ke⟩;go_wp2;go_end0;refine ⟨rfl,?_,g3.trans ke⟩;simpa [oz,zo] using he
theorem Tryz.apU (B b:Nat) (p s:ByteArray) (tx:Tm) (ix:GK B b tx):GK B b (.app p s [tx]):=by
  intro l us w h hl hq hu;simp only [ah,au] at hl
  match us,hu with
  |[u0,u1,u2,u3,u4,u5,u6,u7,u8,u9,Sl],⟨q0,q1,q2,q3,q4,q5,q6,q7,q8,q9,q10,_⟩=>
   obtain rfl:=q0.i;obtain rfl:=RB.s q1;obtain rfl:=RB.s q2;have hb:=zL h.1;rcases q10 with ⟨_,h0,_⟩|⟨ad,cap,rfl,hcap,hsp,hcells⟩
   ·cases h0
   obtain ⟨bk,of,sp⟩:=ad;have Tk:sp=none:=hsp (by intro e;have:=E6 List.length e;simp [eZ,af] at this)
   subst Tk;obtain ⟨vs,hv1,hv2⟩:=Oa hcells;clear hcells hsp q0 q1 q2 q3 q4 q5 q6 q7 q8 q9;simp only [eZ] at hv1;obtain ⟨vx,rx,rfl,Wv,hrx⟩:=gz hv1;obtain ⟨x0,x1,x2,x3,x4,x5,x6,x7,x8,xp,xl,xc,xq,xm,xd,rfl⟩:=bL Wv;obtain rfl:rx=[]:=by cases rx with|nil=>rfl|cons _ _=>exact hrx.elim
   clear hv1 hrx;obtain ⟨w1,hw1⟩:∃w1,w1=w.alloc (.cells #[.int .i64 3,.string p,.string s,u3,u4,u5,u6,u7,u8,u9,.slice (some ⟨bk,of,none⟩) 1 cap] 44):=⟨_,rfl⟩;have bf:Below w.heap.size w w1:=by rw [hw1];exact (Below.refl _ w).alloc (An _) _
   have hn:w1.heap[w.heap.size]?=some (.cells #[.int .i64 3,.string p,.string s,u3,u4,u5,u6,u7,u8,u9,.slice (some ⟨bk,of,none⟩) 1 cap] 44):=by
    rw [hw1];show (w.heap.push _)[w.heap.size]?=_
    simp
   have k1:=KP.of (b:=b) h.2.1 bf;have h5:=h.keep bf;go_enter Tryz.func163,Tryz.ntmps163;have c1:=Tryz.Aq B b l 40 w1 h5 (by omega)
   go_wp2_with (go_at_call 195;rw [<-hw1];refine c1.mono ?_)
   first|(rintro e w2 rfl h6 k2;try rw [<-hw1] at k2)|rintro e w2 ⟨rfl,h6,k2⟩
   have hc1:w2.cell? ⟨w.heap.size,1,none⟩=some (.string p):=by rw [k2.cell hn (by omega) (by decide) 1];simp only [World.cell?,hn];rfl
   have hc2:w2.cell? ⟨w.heap.size,2,none⟩=some (.string s):=by rw [k2.cell hn (by omega) (by decide) 2];simp only [World.cell?,hn];rfl
   have c2:=Tryz.Qs B b _ p s w2 h6 (by simp;omega) hq.1 hq.2.1
   go_wp2_with (go_at_call 196;refine c2.mono ?_);rintro e w3 ⟨rfl,h7,k3⟩;have k23:=k2.trans k3;have abf:w3.cell? ⟨w.heap.size,10,none⟩=some (.slice (some ⟨bk,of,none⟩) 1 cap):=by rw [k23.cell hn (by omega) (by decide) 10];simp only [World.cell?,hn];rfl
   have hnk:(oL p s).length<=404:=by have:=jh hq.1;have:=jh hq.2.1;simp only [oL,Ax];omega
   have g3:=k1.trans k23;have row0:=hv2.keep g3.Ao;obtain ⟨apt,apO,apL,api,aoX,aoT,an8,aov,apD,an9,ajN⟩:=(anc (o:=of) row0.cell);go_wp2;refine wp_loop_rounds 2 ?_;rw [rounds_succ];obtain ⟨w4,hw4⟩:∃w',w'=w3.alloc (.cells #[.int .i64 x0,.string x1,.string x2,.int .i64 x3,.string x4,.string x5,.string x6,.string x7,.string x8,.slice xp xl xc,.slice xq xm xd] 44):=⟨_,rfl⟩;have bf4:Below w3.heap.size w3 w4:=by rw [hw4];exact (Below.refl _ w3).alloc (An _) _
   have hb4:=h7.keep bf4;have kk4:=KP.of (b:=b) h7.2.1 bf4;have hqx:FB tx:=hq.2.2.2.1;have hlx:=vg hqx;have cc4:=ix.use hb4 (by simp;omega) hqx (Wv.mono fun _ _ h=>RB.keep (g3.trans kk4).Ao h)
   go_wp2_with (go_at_call 163;rw [<-hw4];refine cc4.mono ?_);rintro e w5 ⟨rfl,h12,kk5⟩;have g5:=g3.trans (kk4.trans kk5);go_wp2;rw [rounds_succ];have cl:=Tryz.Aq B b _ 41 w5 h12 (by simp;omega)
   go_wp2_with (go_at_call 195;refine cl.mono ?_);rintro e we ⟨rfl,he,ke⟩;go_wp2;go_end0;refine ⟨rfl,?_,g5.trans ke⟩;simpa [oz,zo] using he
theorem Tryz.apc (B b:Nat) (p s:ByteArray) (tx:Tm) (ty:Tm) (ix:GK B b tx) (iy:GK B b ty):GK B b (.app p s [tx,ty]):=by
  intro l us w h hl hq hu;simp only [ah,au] at hl
  match us,hu with
  |[u0,u1,u2,u3,u4,u5,u6,u7,u8,u9,Sl],⟨q0,q1,q2,q3,q4,q5,q6,q7,q8,q9,q10,_⟩=>
   obtain rfl:=q0.i;obtain rfl:=RB.s q1;obtain rfl:=RB.s q2;have hb:=zL h.1;rcases q10 with ⟨_,h0,_⟩|⟨ad,cap,rfl,hcap,hsp,hcells⟩
   ·cases h0
   obtain ⟨bk,of,sp⟩:=ad;have Tk:sp=none:=hsp (by intro e;have:=E6 List.length e;simp [eZ,af] at this)
   subst Tk;obtain ⟨vs,hv1,hv2⟩:=Oa hcells;clear hcells hsp q0 q1 q2 q3 q4 q5 q6 q7 q8 q9;simp only [eZ] at hv1;obtain ⟨vx,rx,rfl,Wv,hrx⟩:=gz hv1;obtain ⟨x0,x1,x2,x3,x4,x5,x6,x7,x8,xp,xl,xc,xq,xm,xd,rfl⟩:=bL Wv;obtain ⟨vy,ry,rfl,huy,hry⟩:=gz hrx;obtain ⟨y0,y1,y2,y3,y4,y5,y6,y7,y8,yp,yl,yc,yq,ym,yd,rfl⟩:=bL huy;obtain rfl:ry=[]:=by cases ry with|nil=>rfl|cons _ _=>exact hry.elim
   clear hv1 hrx hry;obtain ⟨w1,hw1⟩:∃w1,w1=w.alloc (.cells #[.int .i64 3,.string p,.string s,u3,u4,u5,u6,u7,u8,u9,.slice (some ⟨bk,of,none⟩) 2 cap] 44):=⟨_,rfl⟩;have bf:Below w.heap.size w w1:=by rw [hw1];exact (Below.refl _ w).alloc (An _) _
   have hn:w1.heap[w.heap.size]?=some (.cells #[.int .i64 3,.string p,.string s,u3,u4,u5,u6,u7,u8,u9,.slice (some ⟨bk,of,none⟩) 2 cap] 44):=by
    rw [hw1];show (w.heap.push _)[w.heap.size]?=_
    simp
   have k1:=KP.of (b:=b) h.2.1 bf;have h5:=h.keep bf;go_enter Tryz.func163,Tryz.ntmps163;have c1:=Tryz.Aq B b l 40 w1 h5 (by omega)
   go_wp2_with (go_at_call 195;rw [<-hw1];refine c1.mono ?_)
   first|(rintro e w2 rfl h6 k2;try rw [<-hw1] at k2)|rintro e w2 ⟨rfl,h6,k2⟩
   have hc1:w2.cell? ⟨w.heap.size,1,none⟩=some (.string p):=by rw [k2.cell hn (by omega) (by decide) 1];simp only [World.cell?,hn];rfl
   have hc2:w2.cell? ⟨w.heap.size,2,none⟩=some (.string s):=by rw [k2.cell hn (by omega) (by decide) 2];simp only [World.cell?,hn];rfl
   have c2:=Tryz.Qs B b _ p s w2 h6 (by simp;omega) hq.1 hq.2.1
   go_wp2_with (go_at_call 196;refine c2.mono ?_);rintro e w3 ⟨rfl,h7,k3⟩;have k23:=k2.trans k3;have abf:w3.cell? ⟨w.heap.size,10,none⟩=some (.slice (some ⟨bk,of,none⟩) 2 cap):=by rw [k23.cell hn (by omega) (by decide) 10];simp only [World.cell?,hn];rfl
   have hnk:(oL p s).length<=404:=by have:=jh hq.1;have:=jh hq.2.1;simp only [oL,Ax];omega
   have g3:=k1.trans k23;have row0:=hv2.keep g3.Ao;obtain ⟨apt,apO,apL,api,aoX,aoT,an8,aov,apD,an9,ajN⟩:=(anc (o:=of) row0.cell);go_wp2;refine wp_loop_rounds 3 ?_;rw [rounds_succ];obtain ⟨w4,hw4⟩:∃w',w'=w3.alloc (.cells #[.int .i64 x0,.string x1,.string x2,.int .i64 x3,.string x4,.string x5,.string x6,.string x7,.string x8,.slice xp xl xc,.slice xq xm xd] 44):=⟨_,rfl⟩;have bf4:Below w3.heap.size w3 w4:=by rw [hw4];exact (Below.refl _ w3).alloc (An _) _
   have hb4:=h7.keep bf4;have kk4:=KP.of (b:=b) h7.2.1 bf4;have hqx:FB tx:=hq.2.2.2.1;have hlx:=vg hqx;have cc4:=ix.use hb4 (by simp;omega) hqx (Wv.mono fun _ _ h=>RB.keep (g3.trans kk4).Ao h)
   go_wp2_with (go_at_call 163;rw [<-hw4];refine cc4.mono ?_);rintro e w5 ⟨rfl,h12,kk5⟩;have g5:=g3.trans (kk4.trans kk5);have zw:=hv2.keep g5.Ao;have asc:w5.cell? ⟨bk,of+11,none⟩=some (.int .i64 y0):=zw.cell 11 _ rfl;have asi:w5.cell? ⟨bk,of+12,none⟩=some (.string y1):=zw.cell 12 _ rfl;have asn:w5.cell? ⟨bk,of+13,none⟩=some (.string y2):=zw.cell 13 _ rfl;have asT:w5.cell? ⟨bk,of+14,none⟩=some (.int .i64 y3):=zw.cell 14 _ rfl;have aug:w5.cell? ⟨bk,of+15,none⟩=some (.string y4):=zw.cell 15 _ rfl;have ar2:w5.cell? ⟨bk,of+16,none⟩=some (.string y5):=zw.cell 16 _ rfl;have atm:w5.cell? ⟨bk,of+17,none⟩=some (.string y6):=zw.cell 17 _ rfl;have asa:w5.cell? ⟨bk,of+18,none⟩=some (.string y7):=zw.cell 18 _ rfl;have asx:w5.cell? ⟨bk,of+19,none⟩=some (.string y8):=zw.cell 19 _ rfl;have asW:w5.cell? ⟨bk,of+20,none⟩=some (.slice yp yl yc):=zw.cell 20 _ rfl;have aoC:w5.cell? ⟨bk,of+21,none⟩=some (.slice yq ym yd):=zw.cell 21 _ rfl;go_wp2;rw [rounds_succ];obtain ⟨w6,hw6⟩:∃w',w'=w5.alloc (.cells #[.int .i64 y0,.string y1,.string y2,.int .i64 y3,.string y4,.string y5,.string y6,.string y7,.string y8,.slice yp yl yc,.slice yq ym yd] 44):=⟨_,rfl⟩;have bf6:Below w5.heap.size w5 w6:=by rw [hw6];exact (Below.refl _ w5).alloc (An _) _
   have hb6:=h12.keep bf6;have kk6:=KP.of (b:=b) h12.2.1 bf6;have hqy:FB ty:=hq.2.2.2.2.1;have hly:=vg hqy;have cc6:=iy.use hb6 (by simp;omega) hqy (huy.mono fun _ _ h=>RB.keep (g5.trans kk6).Ao h)
   go_wp2_with (go_at_call 163;rw [<-hw6];refine cc6.mono ?_);rintro e w7 ⟨rfl,h14,kk7⟩;have g7:=g5.trans (kk6.trans kk7);go_wp2;rw [rounds_succ];have cl:=Tryz.Aq B b _ 41 w7 h14 (by simp;omega)
   go_wp2_with (go_at_call 195;refine cl.mono ?_);rintro e we ⟨rfl,he,ke⟩;go_wp2;go_end0;refine ⟨rfl,?_,g7.trans ke⟩;simpa [oz,zo] using he
theorem Tryz.aom (B b:Nat) (p s:ByteArray) (tx:Tm) (ty:Tm) (tz:Tm) (ix:GK B b tx) (iy:GK B b ty) (iz:GK B b tz):GK B b (.app p s [tx,ty,tz]):=by
  intro l us w h hl hq hu;simp only [ah,au] at hl
  match us,hu with
  |[u0,u1,u2,u3,u4,u5,u6,u7,u8,u9,Sl],⟨q0,q1,q2,q3,q4,q5,q6,q7,q8,q9,q10,_⟩=>
   obtain rfl:=q0.i;obtain rfl:=RB.s q1;obtain rfl:=RB.s q2;have hb:=zL h.1;rcases q10 with ⟨_,h0,_⟩|⟨ad,cap,rfl,hcap,hsp,hcells⟩
   ·cases h0
   obtain ⟨bk,of,sp⟩:=ad;have Tk:sp=none:=hsp (by intro e;have:=E6 List.length e;simp [eZ,af] at this)
   subst Tk;obtain ⟨vs,hv1,hv2⟩:=Oa hcells;clear hcells hsp q0 q1 q2 q3 q4 q5 q6 q7 q8 q9;simp only [eZ] at hv1;obtain ⟨vx,rx,rfl,Wv,hrx⟩:=gz hv1;obtain ⟨x0,x1,x2,x3,x4,x5,x6,x7,x8,xp,xl,xc,xq,xm,xd,rfl⟩:=bL Wv;obtain ⟨vy,ry,rfl,huy,hry⟩:=gz hrx;obtain ⟨y0,y1,y2,y3,y4,y5,y6,y7,y8,yp,yl,yc,yq,ym,yd,rfl⟩:=bL huy;obtain ⟨vz,rz,rfl,huz,hrz⟩:=gz hry;obtain ⟨z0,z1,z2,z3,z4,z5,z6,z7,z8,zp,zl,zc,zq,zm,zd,rfl⟩:=bL huz;obtain rfl:rz=[]:=by cases rz with|nil=>rfl|cons _ _=>exact hrz.elim
   clear hv1 hrx hry hrz;obtain ⟨w1,hw1⟩:∃w1,w1=w.alloc (.cells #[.int .i64 3,.string p,.string s,u3,u4,u5,u6,u7,u8,u9,.slice (some ⟨bk,of,none⟩) 3 cap] 44):=⟨_,rfl⟩;have bf:Below w.heap.size w w1:=by rw [hw1];exact (Below.refl _ w).alloc (An _) _
   have hn:w1.heap[w.heap.size]?=some (.cells #[.int .i64 3,.string p,.string s,u3,u4,u5,u6,u7,u8,u9,.slice (some ⟨bk,of,none⟩) 3 cap] 44):=by
    rw [hw1];show (w.heap.push _)[w.heap.size]?=_
    simp
   have k1:=KP.of (b:=b) h.2.1 bf;have h5:=h.keep bf;go_enter Tryz.func163,Tryz.ntmps163;have c1:=Tryz.Aq B b l 40 w1 h5 (by omega)
   go_wp2_with (go_at_call 195;rw [<-hw1];refine c1.mono ?_)
   first|(rintro e w2 rfl h6 k2;try rw [<-hw1] at k2)|rintro e w2 ⟨rfl,h6,k2⟩
   have hc1:w2.cell? ⟨w.heap.size,1,none⟩=some (.string p):=by rw [k2.cell hn (by omega) (by decide) 1];simp only [World.cell?,hn];rfl
   have hc2:w2.cell? ⟨w.heap.size,2,none⟩=some (.string s):=by rw [k2.cell hn (by omega) (by decide) 2];simp only [World.cell?,hn];rfl
   have c2:=Tryz.Qs B b _ p s w2 h6 (by simp;omega) hq.1 hq.2.1
   go_wp2_with (go_at_call 196;refine c2.mono ?_);rintro e w3 ⟨rfl,h7,k3⟩;have k23:=k2.trans k3;have abf:w3.cell? ⟨w.heap.size,10,none⟩=some (.slice (some ⟨bk,of,none⟩) 3 cap):=by rw [k23.cell hn (by omega) (by decide) 10];simp only [World.cell?,hn];rfl
   have hnk:(oL p s).length<=404:=by have:=jh hq.1;have:=jh hq.2.1;simp only [oL,Ax];omega
   have g3:=k1.trans k23;have row0:=hv2.keep g3.Ao;obtain ⟨apt,apO,apL,api,aoX,aoT,an8,aov,apD,an9,ajN⟩:=(anc (o:=of) row0.cell);go_wp2;refine wp_loop_rounds 4 ?_;rw [rounds_succ];obtain ⟨w4,hw4⟩:∃w',w'=w3.alloc (.cells #[.int .i64 x0,.string x1,.string x2,.int .i64 x3,.string x4,.string x5,.string x6,.string x7,.string x8,.slice xp xl xc,.slice xq xm xd] 44):=⟨_,rfl⟩;have bf4:Below w3.heap.size w3 w4:=by rw [hw4];exact (Below.refl _ w3).alloc (An _) _
   have hb4:=h7.keep bf4;have kk4:=KP.of (b:=b) h7.2.1 bf4;have hqx:FB tx:=hq.2.2.2.1;have hlx:=vg hqx;have cc4:=ix.use hb4 (by simp;omega) hqx (Wv.mono fun _ _ h=>RB.keep (g3.trans kk4).Ao h)
   go_wp2_with (go_at_call 163;rw [<-hw4];refine cc4.mono ?_);rintro e w5 ⟨rfl,h12,kk5⟩;have g5:=g3.trans (kk4.trans kk5);have zw:=hv2.keep g5.Ao;have asc:w5.cell? ⟨bk,of+11,none⟩=some (.int .i64 y0):=zw.cell 11 _ rfl;have asi:w5.cell? ⟨bk,of+12,none⟩=some (.string y1):=zw.cell 12 _ rfl;have asn:w5.cell? ⟨bk,of+13,none⟩=some (.string y2):=zw.cell 13 _ rfl;have asT:w5.cell? ⟨bk,of+14,none⟩=some (.int .i64 y3):=zw.cell 14 _ rfl;have aug:w5.cell? ⟨bk,of+15,none⟩=some (.string y4):=zw.cell 15 _ rfl;have ar2:w5.cell? ⟨bk,of+16,none⟩=some (.string y5):=zw.cell 16 _ rfl;have atm:w5.cell? ⟨bk,of+17,none⟩=some (.string y6):=zw.cell 17 _ rfl;have asa:w5.cell? ⟨bk,of+18,none⟩=some (.string y7):=zw.cell 18 _ rfl;have asx:w5.cell? ⟨bk,of+19,none⟩=some (.string y8):=zw.cell 19 _ rfl;have asW:w5.cell? ⟨bk,of+20,none⟩=some (.slice yp yl yc):=zw.cell 20 _ rfl;have aoC:w5.cell? ⟨bk,of+21,none⟩=some (.slice yq ym yd):=zw.cell 21 _ rfl;go_wp2;rw [rounds_succ];obtain ⟨w6,hw6⟩:∃w',w'=w5.alloc (.cells #[.int .i64 y0,.string y1,.string y2,.int .i64 y3,.string y4,.string y5,.string y6,.string y7,.string y8,.slice yp yl yc,.slice yq ym yd] 44):=⟨_,rfl⟩;have bf6:Below w5.heap.size w5 w6:=by rw [hw6];exact (Below.refl _ w5).alloc (An _) _
   have hb6:=h12.keep bf6;have kk6:=KP.of (b:=b) h12.2.1 bf6;have hqy:FB ty:=hq.2.2.2.2.1;have hly:=vg hqy;have cc6:=iy.use hb6 (by simp;omega) hqy (huy.mono fun _ _ h=>RB.keep (g5.trans kk6).Ao h)
   go_wp2_with (go_at_call 163;rw [<-hw6];refine cc6.mono ?_);rintro e w7 ⟨rfl,h14,kk7⟩;have g7:=g5.trans (kk6.trans kk7);have Nv:=hv2.keep g7.Ao;have auH:w7.cell? ⟨bk,of+22,none⟩=some (.int .i64 z0):=Nv.cell 22 _ rfl;have auF:w7.cell? ⟨bk,of+23,none⟩=some (.string z1):=Nv.cell 23 _ rfl;have auJ:w7.cell? ⟨bk,of+24,none⟩=some (.string z2):=Nv.cell 24 _ rfl;have auE:w7.cell? ⟨bk,of+25,none⟩=some (.int .i64 z3):=Nv.cell 25 _ rfl;have auz:w7.cell? ⟨bk,of+26,none⟩=some (.string z4):=Nv.cell 26 _ rfl;have auG:w7.cell? ⟨bk,of+27,none⟩=some (.string z5):=Nv.cell 27 _ rfl;have auB:w7.cell? ⟨bk,of+28,none⟩=some (.string z6):=Nv.cell 28 _ rfl;have auy:w7.cell? ⟨bk,of+29,none⟩=some (.string z7):=Nv.cell 29 _ rfl;have auv:w7.cell? ⟨bk,of+30,none⟩=some (.string z8):=Nv.cell 30 _ rfl;have auw:w7.cell? ⟨bk,of+31,none⟩=some (.slice zp zl zc):=Nv.cell 31 _ rfl;have auj:w7.cell? ⟨bk,of+32,none⟩=some (.slice zq zm zd):=Nv.cell 32 _ rfl;go_wp2;rw [rounds_succ];obtain ⟨w8,hw8⟩:∃w',w'=w7.alloc (.cells #[.int .i64 z0,.string z1,.string z2,.int .i64 z3,.string z4,.string z5,.string z6,.string z7,.string z8,.slice zp zl zc,.slice zq zm zd] 44):=⟨_,rfl⟩;have bf8:Below w7.heap.size w7 w8:=by rw [hw8];exact (Below.refl _ w7).alloc (An _) _
   have hb8:=h14.keep bf8;have kk8:=KP.of (b:=b) h14.2.1 bf8;have hqz:FB tz:=hq.2.2.2.2.2.1;have hlz:=vg hqz;have cc8:=iz.use hb8 (by simp;omega) hqz (huz.mono fun _ _ h=>RB.keep (g7.trans kk8).Ao h)
   go_wp2_with (go_at_call 163;rw [<-hw8];refine cc8.mono ?_);rintro e w9 ⟨rfl,h16,kk9⟩;have g9:=g7.trans (kk8.trans kk9);go_wp2;rw [rounds_succ];have cl:=Tryz.Aq B b _ 41 w9 h16 (by simp;omega)
   go_wp2_with (go_at_call 195;refine cl.mono ?_);rintro e we ⟨rfl,he,ke⟩;go_wp2;go_end0;refine ⟨rfl,?_,g9.trans ke⟩;simpa [oz,zo] using he
theorem C8.mono {B B':Nat} {w:World} (hB:B<=B') (h:C8 B w):C8 B' w:=fun w' h2=>h w' (h2.mono hB)
end Go.Proofs
namespace Go.Ey.Pr
open Seat RowKit Proofs
theorem abM {n:Int} (h1:-3<=n) (h2:n<=3):(⟨(Lib.itoa n).toArray⟩:ByteArray)=OI n:=by
 have h:n=-3\/n=-2\/n=-1\/n=0\/n=1\/n=2\/n=3:=by omega
 rcases h with rfl|rfl|rfl|rfl|rfl|rfl|rfl<;>simp [Lib.itoa,Lib.decDigits,OI]
theorem H8 {P:Program} {f:Nat} (h:(P.funcs[f]?).any (fun fn=>!fn.body.isNone && !(fn.name== "runtime.NumGoroutine"))=true):qm P f:=by
 cases hf:P.funcs[f]? with
 |none=>rw [hf] at h;cases h
 |some fn=>
  rw [hf] at h;simp only [Option.any_some,A5,L1] at h;exact ⟨fn,hf,h.1,h.2⟩
abbrev aky:List (String×IntKind×List Int):=[("internal/strconv.uint64pow10",.u64,Lib.pow10Tab)]
@[reducible] def keeps:lV where
  Inv B w:=(GX PP aky).Inv B w/\C8 B w
  keep:=fun hb h=>⟨(GX PP aky).keep hb h.1,h.2.keep hb⟩
  mono:=fun hB h=>⟨(GX PP aky).mono hB h.1,h.2.mono hB⟩
instance : lV:=keeps
theorem alz {n:Int} (h1:-3<=n) (h2:n<=3):nY PP 283 [.one (ci n),.one (ci 10)] [.one (cs (OI n))]:=by
 refine ⟨H8 (by kernel_rfl),fun S w us hinv hall=>?_⟩
 match us,hall with
 |[u,v],⟨hu,hv,_⟩=>
  have e1:u=.int .i64 n:=hu.1;have e2:v=.int .i64 10:=hv.1;subst e1 e2;have htab:Lib.TabIs PP w "internal/strconv.uint64pow10" .u64 Lib.pow10Tab:=V9 hinv.1 (t:=("internal/strconv.uint64pow10",.u64,Lib.pow10Tab)) (by simp)
  have hc:=Go.Proofs.Any.internal_strconv_FormatInt_10 Go.Proofs.Tryz.afu n (by omega) (by omega) w htab
  refine Calls.mono (show Calls PP 283 #[.int .i64 n,.int .i64 10] w _ from hc) ?_
  rintro e w' ⟨rfl,k,os,rfl⟩;refine ⟨_,rfl,⟨?_,rfl⟩,?_⟩
  ·rw [abM h1 h2]
  ·exact ⟨rfl,rfl,rfl,by
    show w.heap.size<=(w.heap++os).size
    rw [Array.size_append];omega,fun k' hk=>by
    show (w.heap++os)[k']?=_
    rw [Array.getElem?_append_left hk]⟩
end Go.Ey.Pr
namespace Go.Proofs
open Shelf RowKit Ey Ey.Pr
theorem Tryz.XT (B b:Nat):∀t:Tm,FB t->GK B b t
 |.var p s,_=>Tryz.ari B b p s
 |.dV o,_=>Tryz.asS B b o
 |.app p s [],_=>Tryz.ao8 B b p s
 |.app p s [x],h=>Tryz.apU B b p s x (Tryz.XT B b x h.2.2.2.1)
 |.app p s [x,y],h=>Tryz.apc B b p s x y (Tryz.XT B b x h.2.2.2.1) (Tryz.XT B b y h.2.2.2.2.1)
 |.app p s [x,y,z],h=>Tryz.aom B b p s x y z (Tryz.XT B b x h.2.2.2.1) (Tryz.XT B b y h.2.2.2.2.1) (Tryz.XT B b z h.2.2.2.2.2.1)
 |.app p s (x::y::z::u::l),h=>absurd h.2.2.1 (by simp)
theorem Tryz.as5 (t:Tm) (us:List Value) (w:World) (hq:FB t) (hn:2000 * ah t<=10000000) (hk:C8 w.heap.size w) (hu:Ey.av (RB w w.heap.size) (aa t) us):
  Calls Tryz.prog 109 #[.agg us.toArray] w fun e w'=>e=.returned (.string ⟨(oz t).toArray⟩)/\Below w.heap.size w w':=by
 have hu0:=hu;obtain ⟨k0,k1,k2,k3,k4,k5,k6,k7,k8,kp,kl,kc,kq,km,kd,rfl⟩:=bL hu;obtain ⟨w1,hw1⟩:∃w1,w1=w.alloc (.cells #[.int .i64 k0,.string k1,.string k2,.int .i64 k3,.string k4,.string k5,.string k6,.string k7,.string k8,.slice kp kl kc,.slice kq km kd] 44):=⟨_,rfl⟩;have hs1:w1.heap.size=w.heap.size+1:=by rw [hw1];simp
 have b1:Below w.heap.size w w1:=by rw [hw1];exact (Below.refl _ w).alloc (An _) _
 have hc:w1.heap[w.heap.size]?=some (.cells #[.int .i64 k0,.string k1,.string k2,.int .i64 k3,.string k4,.string k5,.string k6,.string k7,.string k8,.slice kp kl kc,.slice kq km kd] 44):=by
  rw [hw1];show (w.heap.push _)[w.heap.size]?=_
  simp
 obtain ⟨w2,hw2⟩:∃w2,w2=w1.alloc (.cells #[.pointer none,.slice none 0 0] 193):=⟨_,rfl⟩;have b2:Below w1.heap.size w1 w2:=by rw [hw2];exact (Below.refl _ w1).alloc (An _) _
 have h0:Lib.IsBuilderF 193 5 w1.heap.size w1.heap.size (Lib.byteCells []) w2:=by rw [hw2];exact Lib.IsBuilderF.of (Lib.fresh_isBuilder 193 5 w1)
 have hbk:BK w1.heap.size w1.heap.size [] w2:=⟨h0,b2.size,(hk.keep b1).mono (by omega)|>.keep b2⟩
 have b3:Below w.heap.size w w2:=b1.trans (b2.mono (by omega))
 have hu2:Ey.av (RB w2 w1.heap.size) (aa t) [.int .i64 k0,.string k1,.string k2,.int .i64 k3,.string k4,.string k5,.string k6,.string k7,.string k8,.slice kp kl kc,.slice kq km kd]:=
  hu0.mono fun c u h=>bJ.mono (fun k o v hcc hkk=>⟨by rw [b3.cell hkk];exact hcc,by omega⟩) c u h
 have hc0:∀j,w2.cell? ⟨w.heap.size,j,none⟩=w1.cell? ⟨w.heap.size,j,none⟩:=fun j=>b2.cell (show w.heap.size < w1.heap.size by omega)
 have c1:=(Tryz.XT w1.heap.size w1.heap.size t hq).use hbk (by simpa using hn) hq hu2
 rw [hs1] at c1;obtain ⟨auh,aum,auk,aut,aun,auq,aup,aur,auo,aul,arF⟩:=ahP hc0 hc;clear hc0;go_enter Tryz.func109,Tryz.ntmps109;go_wp2_with (go_at_call 163;rw [<-hw1,<-hw2];refine c1.mono ?_);rintro e w3 ⟨rfl,h3,k3'⟩;have c2:=Tryz.ain (w.heap.size+1) (w.heap.size+1) _ w3 h3.1 h3.2.1;go_wp2_with (go_at_call 164;refine c2.mono ?_);rintro e w4 ⟨rfl,b4⟩;go_wp2;go_ret;refine ⟨by simp,b3.trans ((k3'.Ao.trans b4).mono (by omega))⟩
open Ey.Seat
structure SK (v v':Value) (w w':World):Prop where
 os:w'.os=w.os
 tape:w'.tape=w.tape
 output:w'.output=w.output
 size:w.heap.size<=w'.heap.size
 block:∀k,k < w.heap.size->some k≠v.ownBlock->w'.heap[k]?=w.heap[k]?
 new:∀k,v'.ownBlock=some k->v.ownBlock=some k\/w.heap.size<=k
theorem SK.refl (v:Value) (w:World):SK v v w w:=⟨rfl,rfl,rfl,An _,fun _ _ _=>rfl,fun _ h=> .inl h⟩
theorem SK.trans {u v x:Value} {w w' w'':World} (h:SK u v w w') (k:SK v x w' w''):SK u x w w'':=
 ⟨k.os.trans h.os,k.tape.trans h.tape,k.output.trans h.output,E1 h.size k.size,fun j hj hne=>by
  rw [k.block j (F0 hj h.size) fun e=>(h.new j e.symm).elim (fun e2=>hne e2.symm) fun h2=>absurd h2 (by omega)]
  exact h.block j hj hne,fun j hj=>(k.new j hj).elim (h.new j) fun h2=> .inr (E1 h.size h2)⟩
theorem SK.dJ {v:Value} {w w':World} (h:Below w.heap.size w w'):SK v v w w':=
 ⟨h.os,h.tape,h.output,h.size,fun k hk _=>h.block k hk,fun _ h=> .inl h⟩
theorem SK.below {v v':Value} {w w':World} {B:Nat} (h:SK v v' w w') (hB:B<=w.heap.size) (hv:∀k,v.ownBlock=some k->B<=k):Below B w w':=
 ⟨h.os,h.tape,h.output,h.size,fun k hk=>h.block k (by omega) fun e=>by have:=hv k e.symm;omega⟩
abbrev RQ (w:World) (B:Nat) (S:Nat->Nat->Prop):=bJ w (fun k o=>k < B/\S k o)
theorem RQ.keep {B:Nat} {S:Nat->Nat->Prop} {w w':World} (h:Below B w w'):∀{c:C} {u:Value},RQ w B S c u->RQ w' B S c u:=fun {c u} hr=>
 bJ.mono (fun k o v hc hk=>⟨by rw [h.cell hk.1];exact hc,hk⟩) c u hr
theorem qx.keep {B:Nat} {S:Nat->Nat->Prop} {w w':World} (h:Below B w w') {cs:List C} {us:List Value} (hr:Ey.av (RQ w B S) cs us):Ey.av (RQ w' B S) cs us:=hr.mono fun _ _ h1=>RQ.keep h h1
theorem RQ.rb {B:Nat} {S:Nat->Nat->Prop} {w:World}:∀{c:C} {u:Value},RQ w B S c u->RB w B c u:=fun {c u} hr=>
 bJ.mono (fun k o v hc hk=>⟨hc,hk.1⟩) c u hr
theorem qx.rb {B:Nat} {S:Nat->Nat->Prop} {w:World} {cs:List C} {us:List Value} (hr:Ey.av (RQ w B S) cs us):Ey.av (RB w B) cs us:=hr.mono fun _ _ h1=>RQ.rb h1
theorem aex {w:World} {B k:Nat} {S:Nat->Nat->Prop}:∀{cs:List C} {o:Nat},fo w (fun k o=>k < B/\S k o) cs k o->∃us:List Value,Ey.av (RQ w B S) cs us/\Row w B k o us
 |[],o,_=>⟨[],trivial,⟨fun j u hj=>by simp at hj,fun h=>absurd rfl h⟩⟩
 |c::cs,o,h=>by
  obtain ⟨⟨u,h1,h2,h3⟩,h4⟩:=h;obtain ⟨us,e1,e2⟩:=aex h4;refine ⟨u::us,⟨h3,e1⟩,⟨fun j v hj=>?_,fun _=>h2.1⟩⟩
  match j,hj with
  |0,hj=>
   obtain rfl:u=v:=by simpa using hj
   exact h1
  |j+1,hj=>
   have:=e2.cell j v (by simpa using hj)
   rwa [show o+1+j=o+(j+1) by omega] at this
structure gB (B:Nat) (S:Nat->Nat->Prop) (v:Value) (ts:List Tm) (w:World):Prop where
 row:∃xs,w.ownsRow B 44 11 v ts.length xs/\Ey.av (RQ w B S) (eZ ts) xs
 le:B<=w.heap.size
theorem gB.kept {B:Nat} {S:Nat->Nat->Prop} {v:Value} {ts:List Tm} {w w':World} (h:gB B S v ts w) (hb:Below w.heap.size w w'):gB B S v ts w':=by
 obtain ⟨xs,h1,h2⟩:=h.row;refine ⟨⟨xs,?_,qx.keep (hb.mono h.le) h2⟩,E1 h.le hb.size⟩;refine ⟨h1.1,?_⟩;rcases h1.2 with hn|⟨g,cap,cur,rfl,hg,hgg,rest⟩
 ·exact .inl hn
 ·exact .inr ⟨g,cap,cur,rfl,hg,by rw [hb.block g (Bk.1 hgg).1];exact hgg,rest⟩
theorem gB.own {B:Nat} {S:Nat->Nat->Prop} {v:Value} {ts:List Tm} {w:World} (h:gB B S v ts w):∀k,v.ownBlock=some k->B<=k/\k < w.heap.size:=by obtain ⟨xs,h1,_⟩:=h.row;exact h1.lt
theorem gB.shape {B:Nat} {S:Nat->Nat->Prop} {v:Value} {ts:List Tm} {w:World} (h:gB B S v ts w):∃ao cap,v=.slice ao ts.length cap/\(0 < ts.length->∃g,ao=some ⟨g,0,none⟩):=by
 obtain ⟨xs,h1,_⟩:=h.row;rcases h1.2 with ⟨rfl,h0⟩|⟨g,cap,cur,rfl,_⟩
 ·exact ⟨none,0,by rw [h0],fun h=>absurd h (by omega)⟩
 ·exact ⟨some ⟨g,0,none⟩,cap,rfl,fun _=>⟨g,rfl⟩⟩
theorem JD:∀{ts:List Tm} {xs:List Value} {R:C->Value->Prop} {k:Nat} {t:Tm},Ey.av R (eZ ts) xs->ts[k]?=some t->
  ∃us,us.length=11/\Ey.av R (aa t) us/\∀j u,us[j]?=some u->xs[k * 11+j]?=some u
 |t::ts,xs,R,0,x,h,hk=>by
  obtain rfl:t=x:=by simpa using hk
  obtain ⟨ua,ub,rfl,h1,h2⟩:=gz (show Ey.av R (aa t++eZ ts) xs from h)
  have hl:ua.length=11:=by rw [<-h1.len,af]
  refine ⟨ua,hl,h1,fun j u hj=>?_⟩
  have:=(As.1 hj).1
  rw [Nat.zero_mul,E4,Gk this];exact hj
 |t::ts,xs,R,k+1,x,h,hk=>by
  obtain ⟨ua,ub,rfl,h1,h2⟩:=gz (show Ey.av R (aa t++eZ ts) xs from h)
  have hl:ua.length=11:=by rw [<-h1.len,af]
  obtain ⟨us,e1,e2,e3⟩:=JD h2 (show ts[k]?=some x by simpa using hk)
  refine ⟨us,e1,e2,fun j u hj=>?_⟩
  rw [Hv (by omega),hl,show (k+1) * 11+j - 11=k * 11+j by omega]
  exact e3 j u hj
theorem gB.get {B:Nat} {S:Nat->Nat->Prop} {ts:List Tm} {w:World} {g n cap:Nat} (h:gB B S (.slice (some ⟨g,0,none⟩) n cap) ts w) {k:Nat} {t:Tm} (hk:ts[k]?=some t):
  ∃us,Ey.av (RQ w B S) (aa t) us/\∀j u,us[j]?=some u->w.cell? ⟨g,k * 11+j,none⟩=some u:=by
 obtain ⟨xs,h1,h2⟩:=h.row;obtain ⟨us,_,e2,e3⟩:=JD h2 hk;refine ⟨us,e2,fun j u hj=>?_⟩
 have:=h1.cells (g:=g) rfl _ _ (e3 j u hj)
 rw [Addr.add_lit,E4] at this;exact this
theorem gB.snoc {B:Nat} {S:Nat->Nat->Prop} {v':Value} {ts:List Tm} {t:Tm} {us xs:List Value} {w w':World} (hr:Ey.av (RQ w B S) (eZ ts) xs) (hu:Ey.av (RQ w B S) (aa t) us)
  (hb:Below B w w') (hB:B<=w'.heap.size) (ho:w'.ownsRow B 44 11 v' (ts.length+1) (xs++us)):gB B S v' (ts++[t]) w':=by
 refine ⟨⟨xs++us,by simpa using ho,?_⟩,hB⟩
 rw [show eZ (ts++[t])=eZ ts++aa t by simp [iG]]
 exact Ey.av.append (qx.keep hb hr) (qx.keep hb hu)
theorem gB.pushed {B:Nat} {S:Nat->Nat->Prop} {v:Value} {l:List Tm} {t:Tm} {us xs:List Value} {wr w':World} {g cap:Nat} {o:Go.Obj} (h:gB B S v l wr) (hxs:Ey.av (RQ wr B S) (eZ l) xs) (hu:Ey.av (RQ wr B S) (aa t) us)
  (ho:w'.ownsRow B 44 11 (.slice (some ⟨g,0,none⟩) (l.length+1) cap) (l.length+1) (xs++us)) (hg:(wr.alloc o).grownBy w' v.ownBlock) (hat:v.ownBlock=some g\/g=wr.heap.size+1):
  gB B S (.slice (some ⟨g,0,none⟩) (l.length+1) cap) (l++[t]) w'/\SK v (.slice (some ⟨g,0,none⟩) (l.length+1) cap) wr w':=by
 have hs:(wr.alloc o).heap.size=wr.heap.size+1:=by simp
 have b0:Below wr.heap.size wr (wr.alloc o):=(Below.refl _ wr).alloc (An _) _;have k:SK v (.slice (some ⟨g,0,none⟩) (l.length+1) cap) wr w':=
  ⟨hg.os,hg.tape,hg.output,by have:=hg.size;omega,fun j hj hne=>by rw [hg.block j (by omega) hne];exact b0.block j hj,fun j hj=>by
   have:g=j:=by simpa [Value.ownBlock] using hj
   subst this;rcases hat with h1|h1
   ·exact .inl h1
   ·exact .inr (by omega)⟩
 have hb:Below B wr w':=k.below h.le fun j hj=>(h.own j hj).1
 exact ⟨gB.snoc hxs hu hb (E1 h.le hb.size) ho,k⟩
theorem Tryz.J8:(Tryz.prog.info? 44).map (fun i=>(i.zero,i.size,i.bytes))=some (some (.agg #[.int .i64 0,.string ⟨#[]⟩,.string ⟨#[]⟩,.int .i64 0,.string ⟨#[]⟩,.string ⟨#[]⟩,.string ⟨#[]⟩,.string ⟨#[]⟩,.string ⟨#[]⟩,.slice none 0 0,.slice none 0 0]),11,176):=by kernel_rfl
theorem Tryz.mixed:Tryz.prog.follows .mixedOrders=true:=by kernel_rfl
def memT (l:List Tm) (t:Tm):Bool:=l.any fun x=>nR x t
mutual
def lg (l:List Tm):Tm->List Tm
 |.app p s ts=>fG (cond (memT l (.app p s ts)) l (l++[.app p s ts])) ts
 |.var p s=>cond (memT l (.var p s)) l (l++[.var p s])
 |.dV o=>cond (memT l (.dV o)) l (l++[.dV o])
def fG (l:List Tm):List Tm->List Tm
 |[]=>l
 |t::ts=>fG (lg l t) ts
end
end Go.Proofs
