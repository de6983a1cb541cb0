import Derived.Test.YtolnnaanmfnkjaaGreatDoorZ35
import Derived.Test.YtolnnaanmfnkjaaGreatDoorCards
import Derived.SevenTiedAt
import Derived.JoinedOf
import Derived.KernelRfl
set_option linter.all false
set_option maxHeartbeats 0
set_option maxRecDepth 100000
namespace Go.Ey.Pr
open Seat
section
variable {nat:Nat->List V->Option (List V)}
def t124:cB:=⟨[.one,.one],[],
 .dG (.len false (.v 0)) <|
 .dG (.len false (.v 1)) <|
 .dG (.bin .neq false (.v 2) (.v 3)) <|
 .ite (.v 4)
 (.ret [(.one (.k (.bool false)))] [])
 (.goto 0 [(.c (.v 0)),(.c (.v 1)),(.c (.k (.int .i64 0)))]),
 [.dG (.len false (.v 0)) <|
 .dG (.bin .lss false (.v 2) (.v 3)) <|
 .ite (.v 4)
 (.row 13 (.v 0) (.v 2) <|
 .row 13 (.v 1) (.v 2) <|
 .dG (.eqs [1,1] true (.lit [(.n 5 0),(.n 5 1)]) (.lit [(.n 6 0),(.n 6 1)])) <|
 .ite (.v 7)
 (.ret [(.one (.k (.bool false)))] [])
 (.row 13 (.v 0) (.v 2) <|
 .row 13 (.v 1) (.v 2) <|
 .call 49 [(.v (.agg (.lit [(.n 8 2),(.n 8 3),(.n 8 4),(.n 8 5),(.n 8 6),(.n 8 7),(.n 8 8),(.n 8 9),(.n 8 10),(.n 8 11),(.n 8 12)]))),(.v (.agg (.lit [(.n 9 2),(.n 9 3),(.n 9 4),(.n 9 5),(.n 9 6),(.n 9 7),(.n 9 8),(.n 9 9),(.n 9 10),(.n 9 11),(.n 9 12)])))] [] [none] [] <|
 .dG (.un .not (.v 10)) <|
 .ite (.v 11)
 (.ret [(.one (.k (.bool false)))] [])
 (.dG (.bin .add false (.v 2) (.k (.int .i64 1))) <|
 .goto 0 [(.c (.v 0)),(.c (.v 1)),(.c (.v 12))])))
 (.ret [(.one (.k (.bool true)))] [])]⟩
theorem Ri:(T nat).G.fn 124=some t124:=by kernel_rfl
end
def syV (p:aI):List Value:=[.string p.1,.string p.2]
end Go.Ey.Pr
namespace Go.Proofs
open RowKit Ey Ey.Pr Ey.Seat
theorem Tryz.aiX:Tryz.prog.stoodInHeld 35=false:=by kernel_rfl
theorem Tryz.aj8 (a b c d:ByteArray) (w:World):Sem.run Tryz.prog (binOp .eql 35 (.agg #[.string a,.string b]) (.agg #[.string c,.string d])) w=.ok (.bool (CX (a,b) (c,d))) w:=by
 have hf:Tryz.prog.underlying 35=some (.struct (Tryz.prog.fieldsOf 35)):=by simp only [Program.fieldsOf,Tryz.underlying35]
 rw [run_eql_struct,run_equalIn_struct w 9999 35 _ _ hf Tryz.aiX];have e2:(Tryz.prog.fieldsOf 35).toList=[{ name:= "Package",type:=9,offset:=0,embedded:=false,tag:= "",pkgPath:= "",byteOffset:=0},{ name:= "Name",type:=9,offset:=1,embedded:=false,tag:= "",pkgPath:= "",byteOffset:=16}]:=by simp only [Program.fieldsOf,Tryz.underlying35]
 have h9:∀(a b:ByteArray) (w:World),(Op.equalIn 9999 9 (.string a) (.string b)).run Tryz.prog w=.ok (decide (a=b)) w:=fun a b w=>by rw [run_equalIn_string w 9998 9 a b Tryz.underlying9,Ci]
 have p0:∀(a b:Value) (w:World),(part 9 #[a,b] 0).run Tryz.prog w=.ok a w:=fun a b w=>by kernel_rfl
 have p1:∀(a b:Value) (w:World),(part 9 #[a,b] 1).run Tryz.prog w=.ok b w:=fun a b w=>by kernel_rfl
 rw [e2];by_cases h1:a=c<;>by_cases h2:b=d<;>simp [Op.eqFields,p0,p1,h9,h1,h2,CX]
structure Al (B:Nat) (v:Value) (xs:List aI) (w:World):Prop where
 row:w.ownsRow B 35 2 v xs.length (xs.flatMap syV)
theorem Al.kept {B:Nat} {v:Value} {xs:List aI} {w w':World} (h:Al B v xs w) (hb:Below w.heap.size w w'):Al B v xs w':=by
 have h1:=h.row;refine ⟨h1.1,?_⟩;rcases h1.2 with hn|⟨g,cap,cur,rfl,hg,hgg,rest⟩
 ·exact .inl hn
 ·exact .inr ⟨g,cap,cur,rfl,hg,by rw [hb.block g (Bk.1 hgg).1];exact hgg,rest⟩
theorem Al.shape {B:Nat} {v:Value} {xs:List aI} {w:World} (h:Al B v xs w):∃ao cap,v=.slice ao xs.length cap/\(0 < xs.length->∃g,ao=some ⟨g,0,none⟩):=by
 have h1:=h.row;rcases h1.2 with ⟨rfl,h0⟩|⟨g,cap,cur,rfl,_⟩
 ·exact ⟨none,0,by rw [h0],fun h=>absurd h (by omega)⟩
 ·exact ⟨some ⟨g,0,none⟩,cap,rfl,fun _=>⟨g,rfl⟩⟩
theorem aja:∀(xs:List aI) (k:Nat) (p:aI),xs[k]?=some p->(xs.flatMap syV)[k * 2]?=some (.string p.1)/\(xs.flatMap syV)[k * 2+1]?=some (.string p.2)
 |x::xs,0,p,h=>by
  obtain rfl:x=p:=by simpa using h
  simp [syV]
 |x::xs,k+1,p,h=>by
  have:=aja xs k p (by simpa using h)
  rw [show (k+1) * 2=k * 2+1+1 by omega,show k * 2+1+1+1=(k * 2+1)+2 by omega]
  simpa [syV] using this
theorem Al.get {B:Nat} {xs:List aI} {w:World} {g n cap:Nat} (h:Al B (.slice (some ⟨g,0,none⟩) n cap) xs w) {k:Nat} {p:aI} (hk:xs[k]?=some p):
  w.cell? ⟨g,k * 2,none⟩=some (.string p.1)/\w.cell? ⟨g,k * 2+1,none⟩=some (.string p.2):=by
 obtain ⟨h1,h2⟩:=aja xs k p hk;have e1:=h.row.cells (g:=g) rfl _ _ h1;have e2:=h.row.cells (g:=g) rfl _ _ h2;rw [Addr.add_lit,E4] at e1 e2;exact ⟨e1,e2⟩
theorem afZ {l:List aI} {k:Nat} {x t:aI} (h:l[k]?=some x):gm (l.take (k+1)) t=(gm (l.take k) t||CX t x):=by rw [List.take_add_one,h];simp [gm]
theorem Ub {l:List aI} {k:Nat} {t:aI} (h:gm (l.take k) t=true):gm l t=true:=by rw [xY] at h |-;exact Hs h
theorem Tryz.ahA:Tryz.prog.eqGuardType Tryz.prog.depth 35=false:=by kernel_rfl
theorem Tryz.ajY (B:Nat) (v:Value) (xs:List aI) (a b:ByteArray) (w:World) (hr:Al B v xs w) (hn:xs.length<=100000):
  Calls Tryz.prog 242 #[v,.agg #[.string a,.string b]] w fun e w'=>∃r:Int,e=.returned (.int .i64 r)/\decide (0<=r)=gm xs (a,b)/\Below w.heap.size w w':=by
 obtain ⟨ao,cap,rfl,hao⟩:=hr.shape;obtain ⟨w1,hw1⟩:∃w1,w1=w.alloc (.cells #[.string a,.string b] 35):=⟨_,rfl⟩;have b1:Below w.heap.size w w1:=by rw [hw1];exact (Below.refl _ w).alloc (An _) _
 have hs1:w1.heap.size=w.heap.size+1:=by rw [hw1];simp
 have hc:w1.heap[w.heap.size]?=some (.cells #[.string a,.string b] 35):=by
  rw [hw1];show (w.heap.push _)[w.heap.size]?=_
  simp
 have heq:=Tryz.aj8;have hgd:=Tryz.ahA;go_enter Tryz.func242,Tryz.ntmps242;go_wp2;rw [<-hw1];go_loopw [8] (fun i wr=>∃k:Nat,k<=xs.length/\i=.int .i64 k/\gm (xs.take k) (a,b)=false/\Below w1.heap.size w1 wr) (fun i _=>xs.length - (intOf i).toNat)
 case atStart=>exact ⟨0,Fl _,rfl,rfl,Below.refl _ _⟩
 case round=>
  obtain ⟨k,hkl,rfl,hno,hb⟩:=hrel;have hrw:=hr.kept (b1.trans (hb.mono b1.size));have hcb:wr.heap[w.heap.size]?=some (.cells #[.string a,.string b] 35):=by rw [hb.block _ (by omega)];exact hc
  have hc0:wr.cell? ⟨w.heap.size,0,none⟩=some (.string a):=by simp only [World.cell?,hcb];rfl
  have hc1:wr.cell? ⟨w.heap.size,1,none⟩=some (.string b):=by simp only [World.cell?,hcb];rfl
  clear hcb;by_cases hx:k < xs.length
  ·obtain ⟨x,hxk⟩:∃x,xs[k]?=some x:=⟨_,A6 hx⟩;obtain ⟨g,rfl⟩:=hao (by omega)
   obtain ⟨c,d⟩:=x;obtain ⟨f0,f1⟩:=hrw.get hxk;simp only at f0 f1;have h2:=afZ (t:=(a,b)) hxk;rw [hno,L2] at h2;cases hM:CX (a,b) (c,d) with
   |true=>
    have heq':∀w,Sem.run Tryz.prog (binOp .eql 35 (.agg #[.string a,.string b]) (.agg #[.string c,.string d])) w=.ok (.bool true) w:=fun w=>by rw [Tryz.aj8,hM]
    clear heq;go_wp2;go_still_tail 5,Tryz.mixed;go_wp2;go_ret;rw [hM] at h2;exact ⟨k,rfl,by rw [Ub h2];simp,b1.trans ((hb.mono b1.size).trans (fC _ wr))⟩
   |false=>
    have heq':∀w,Sem.run Tryz.prog (binOp .eql 35 (.agg #[.string a,.string b]) (.agg #[.string c,.string d])) w=.ok (.bool false) w:=fun w=>by rw [Tryz.aj8,hM]
    clear heq;go_wp2;go_still_tail 5,Tryz.mixed;go_wp2;go_roundw;rw [hM] at h2
    case rel=>exact ⟨k+1,by omega,by simp,h2,hb.trans (fC _ wr)⟩
    case measure=>simp [intOf];omega
  ·obtain rfl:k=xs.length:=by omega
   rw [Ge] at hno;go_wp2;go_ret;exact ⟨-1,rfl,by rw [hno];decide,b1.trans (hb.mono b1.size)⟩
theorem Tryz.aj6 (B:Nat) (v:Value) (xs:List aI) (a b:ByteArray) (w:World) (hr:Al B v xs w) (hn:xs.length<=100000):
  Calls Tryz.prog 206 #[v,.agg #[.string a,.string b]] w fun e w'=>e=.returned (.bool (gm xs (a,b)))/\Below w.heap.size w w':=by
 obtain ⟨w1,hw1⟩:∃w1,w1=w.alloc (.cells #[.string a,.string b] 35):=⟨_,rfl⟩;have b1:Below w.heap.size w w1:=by rw [hw1];exact (Below.refl _ w).alloc (An _) _
 have hc:w1.heap[w.heap.size]?=some (.cells #[.string a,.string b] 35):=by
  rw [hw1];show (w.heap.push _)[w.heap.size]?=_
  simp
 have hc0:w1.cell? ⟨w.heap.size,0,none⟩=some (.string a):=by simp only [World.cell?,hc];rfl
 have hc1:w1.cell? ⟨w.heap.size,1,none⟩=some (.string b):=by simp only [World.cell?,hc];rfl
 have c1:=Tryz.ajY B v xs a b w1 (hr.kept b1) hn;go_enter Tryz.func206,Tryz.ntmps206;go_wp2_with (go_at_call 242;rw [<-hw1];refine c1.mono ?_);rintro e w2 ⟨r,rfl,h1,b2⟩;go_wp2;go_ret;refine ⟨by rw [<-h1];simp,b1.trans (b2.mono b1.size)⟩
theorem Gm (k:Int):∀(ts:List Tm) (xs:List aI) (t:Tm),bT k xs (ts++[t])=Gn k (bT k xs ts) t
 |[],xs,t=>by simp [bT]
 |x::ts,xs,t=>by simp only [E3,bT];exact Gm k ts _ t
structure CS (B K O:Nat) (kind:Int) (xs:List aI) (w:World):Prop where
 kb:w.heap[K]?=some (.cells #[.int .i64 kind] 3 (0,0))
 ob:∃v,w.heap[O]?=some (.cells #[v] 33 (0,0))/\Al B v xs w
 le:B<=w.heap.size
 leO:B<=O
theorem CS.keep {B K O:Nat} {kind:Int} {xs:List aI} {w w':World} (h:CS B K O kind xs w) (hb:Below w.heap.size w w'):CS B K O kind xs w':=by obtain ⟨v,h1,h2⟩:=h.ob;exact ⟨by rw [hb.block K (Bk.1 h.kb).1];exact h.kb,⟨v,by rw [hb.block O (Bk.1 h1).1];exact h1,h2.kept hb⟩,E1 h.le hb.size,h.leO⟩
theorem CS.ltO {B K O:Nat} {kind:Int} {xs:List aI} {w:World} (h:CS B K O kind xs w):O < w.heap.size:=by obtain ⟨v,h1,_⟩:=h.ob;exact (Bk.1 h1).1
structure KV (B O:Nat) (w w':World):Prop where
 Ao:Below B w w'
 fJ:Lib.OthersKept 35 (some O) w w'
theorem KV.trans {B O:Nat} {w w' w'':World} (h:KV B O w w') (k:KV B O w' w''):KV B O w w'':=⟨h.Ao.trans k.Ao,h.fJ.trans k.fJ⟩
theorem KV.of {B O:Nat} {w w':World} (hB:B<=w.heap.size) (h:Below w.heap.size w w'):KV B O w w':=⟨h.mono hB,(Lib.OthersKept.refl 35 (some O) w).below h⟩
theorem KV.block {B O T:Nat} {w w':World} (h:KV B O w w') {k:Nat} {vs:Array Value} {fz:Nat×Nat} (hk:w.heap[k]?=some (.cells vs T fz)) (hb:k≠O) (hT:T≠35):w'.heap[k]?=some (.cells vs T fz):=
 h.fJ k _ hk (by simpa using hb) (fun c nG e=>by injection e with _ e2 _;exact hT e2)
theorem Al.ne {B O T:Nat} {v:Value} {xs:List aI} {w:World} {vs:Array Value} {fz:Nat×Nat} (h:Al B v xs w) (hO:w.heap[O]?=some (.cells vs T fz)) (hT:T≠35):v.ownBlock≠some O:=by
 intro e;rcases h.row.2 with ⟨rfl,_⟩|⟨g,cap,cur,rfl,hg,hgg,_⟩
 ·simp [Value.ownBlock] at e
 ·have:g=O:=by simpa [Value.ownBlock] using e
  subst this;rw [hgg] at hO;injection hO with hO;injection hO with _ e2 _;exact hT e2.symm
theorem Al.asV {B:Nat} {v:Value} {xs:List aI} {w:World} (h:Al B v xs w):∀g,v.ownBlock=some g->∃c fz,w.heap[g]?=some (.cells c 35 fz):=by
 intro k e;rcases h.row.2 with ⟨rfl,_⟩|⟨g,cap,cur,rfl,hg,hgg,_⟩
 ·simp [Value.ownBlock] at e
 ·have:g=k:=by simpa [Value.ownBlock] using e
  subst this;exact ⟨_,_,hgg⟩
theorem Al.base {B:Nat} {v:Value} {xs:List aI} {w:World} (h:Al B v xs w):∀g,v.ownBlock=some g->B<=g/\g < w.heap.size:=h.row.lt
theorem CS.pushed {B K O:Nat} {kind:Int} {xs:List aI} {x:aI} {v u:Value} {w w3:World} {o:Go.Obj} (h:CS B K O kind xs w) (hv:w.heap[O]?=some (.cells #[v] 33 (0,0))) (hs:Al B v xs w)
  (ho:w3.ownsRow B 35 2 u (xs.length+1) (xs.flatMap syV++[.string x.1,.string x.2])) (hg:(w.alloc o).grownBy w3 v.ownBlock):
  w3.heap[O]?=some (.cells #[v] 33 (0,0))/\CS B K O kind (xs++[x]) (w3.setCell ⟨O,0,none⟩ u)/\KV B O w (w3.setCell ⟨O,0,none⟩ u):=by
 have b0:Below w.heap.size w (w.alloc o):=(Below.refl _ w).alloc (An _) _;have lO:O < w.heap.size:=h.ltO;have lK:K < w.heap.size:=(Bk.1 h.kb).1;have hO3:w3.heap[O]?=some (.cells #[v] 33 (0,0)):=by rw [hg.block O (by simp;omega) fun e=>hs.ne hv (by decide) e.symm,b0.block O lO];exact hv
 have hK3:w3.heap[K]?=some (.cells #[.int .i64 kind] 3 (0,0)):=by rw [hg.block K (by simp;omega) fun e=>hs.ne h.kb (by decide) e.symm,b0.block K lK];exact h.kb
 have hs3:Al B u (xs++[x]) w3:=⟨by simpa [syV] using ho⟩
 have hKO:K≠O:=fun e=>by
  have:=h.kb
  rw [e,hv] at this;injection this with this;injection this with _ e2 _;cases e2
 have Ao:Below B w w3:=(b0.mono h.le).trans ⟨hg.os,hg.tape,hg.output,hg.size,fun k hk=>hg.block k (by simp;have:=h.le;omega) fun e=>by have:=(hs.base k e.symm).1;omega⟩
 refine ⟨hO3,⟨?_,⟨u,one_setCell hO3,⟨ownsRow_setCell_other hs3.row (hs3.ne hO3 (by decide)) u⟩⟩,?_,h.leO⟩,⟨Ao.setCell h.leO u,?_⟩⟩
 ·rw [Below.heap_setCell _ _ _ _ hKO];exact hK3
 ·exact E1 h.le (Ao.setCell (p:=⟨O,0,none⟩) h.leO u).size
 ·exact (((Lib.OthersKept.refl 35 (some O) w).alloc o).grown hg fun g e=>by obtain ⟨c,fz,hc⟩:=hs.asV g e;exact ⟨c,fz,by rw [b0.block g (hs.base g e).2];exact hc⟩).setCell _ rfl u
theorem Tryz.akK:(Tryz.prog.info? 35).map (fun i=>(i.zero,i.size,i.bytes))=some (some (.agg #[.string ⟨#[]⟩,.string ⟨#[]⟩]),2,32):=by kernel_rfl
theorem Tryz.amq (B K O:Nat) (kind:Int) (t:Tm) (xs:List aI) (us:List Value) (w:World) (h:CS B K O kind xs w) (hn:xs.length<=90000) (hu:Ey.av (RB w B) (aa t) us):
  Calls Tryz.prog 205 #[.agg us.toArray,.pointer (some ⟨K,0,none⟩),.pointer (some ⟨O,0,none⟩)] w fun e w'=>e=.returned (.bool true)/\CS B K O kind (Gy kind xs t) w'/\KV B O w w':=by
 obtain ⟨k3,k4,k5,k6,k7,k8,kp,kl,kc,kq,km,kd,rfl⟩:=Qv hu;obtain ⟨a,ha⟩:∃a,Hid (a=(aN t).1):=⟨_,⟨rfl⟩⟩;obtain ⟨b,hb⟩:∃b,Hid (b=(aN t).2):=⟨_,⟨rfl⟩⟩;obtain ⟨c,hcc⟩:∃c,Hid (c=fZ t):=⟨_,⟨rfl⟩⟩;have hab:Hid (aN t=(a,b)):=⟨by rw [ha.h,hb.h]⟩
 rw [<-ha.h,<-hb.h,<-hcc.h];clear hu;obtain ⟨w1,hw1⟩:∃w1,w1=w.alloc (.cells #[.int .i64 c,.string a,.string b,.int .i64 k3,.string k4,.string k5,.string k6,.string k7,.string k8,.slice kp kl kc,.slice kq km kd] 44):=⟨_,rfl⟩;have b1:Below w.heap.size w w1:=by rw [hw1];exact (Below.refl _ w).alloc (An _) _
 have hs1:w1.heap.size=w.heap.size+1:=by rw [hw1];simp
 have hc:w1.heap[w.heap.size]?=some (.cells #[.int .i64 c,.string a,.string b,.int .i64 k3,.string k4,.string k5,.string k6,.string k7,.string k8,.slice kp kl kc,.slice kq km kd] 44):=by
  rw [hw1];show (w.heap.push _)[w.heap.size]?=_
  simp
 have h1:=h.keep b1;obtain ⟨v,hv1,hv2⟩:=h1.ob;have hK:w.cell? ⟨K,0,none⟩=some (.int .i64 kind):=cell_of_one h.kb;have hO:w.cell? ⟨O,0,none⟩=some v:=by
  have:=cell_of_one hv1
  rwa [b1.cell (show O < w.heap.size from h.ltO)] at this
 have hK1:=cell_of_one h1.kb;have hO1:=cell_of_one hv1;rw [hw1] at hK1 hO1;by_cases hk:c=kind
 ·subst hk;have cc:=Tryz.aj6 B v xs a b w1 hv2 (by omega)
  cases hM:gm xs (a,b) with
  |true=>
   rw [hM] at cc;go_enter Tryz.func205,Tryz.ntmps205;go_wp2_with (go_at_call 206;rw [<-hw1];refine cc.mono ?_);rintro e w2 ⟨rfl,b2⟩;go_wp2;go_ret;refine ⟨rfl,?_,KV.of h.le (b1.trans (b2.mono b1.size))⟩;rw [Gy,hab.h,hM,<-hcc.h];simpa using h1.keep b2
  |false=>
   rw [hM] at cc;go_enter Tryz.func205,Tryz.ntmps205;go_wp2_with (go_at_call 206;rw [<-hw1];refine cc.mono ?_);rintro e w2 ⟨rfl,b2⟩;have h2:=h1.keep b2;have hv3:=hv2.kept b2;have hO2:w2.heap[O]?=some (.cells #[v] 33 (0,0)):=by rw [b2.block O (by have:=h.ltO;omega)];exact hv1
   have hc2:w2.heap[w.heap.size]?=some (.cells #[.int .i64 c,.string a,.string b,.int .i64 k3,.string k4,.string k5,.string k6,.string k7,.string k8,.slice kp kl kc,.slice kq km kd] 44):=by rw [b2.block _ (by omega)];exact hc
   have f1:w2.cell? ⟨w.heap.size,1,none⟩=some (.string a):=by simp only [World.cell?,hc2];rfl
   have f2:w2.cell? ⟨w.heap.size,2,none⟩=some (.string b):=by simp only [World.cell?,hc2];rfl
   have f3:w2.cell? ⟨O,0,none⟩=some v:=cell_of_one hO2;obtain ⟨i0,hi,hz0,hz1,hz2⟩:=info_parts Tryz.akK;clear hK hO hK1 hO1 hc2;go_wp2_with (first
    |(at_builtin;refine wpList_append_lies _ rfl _ _ 33 rfl B 35 i0 _ 2 32 Tryz.underlying33 hi hz0 hz1 hz2 rfl (by decide) _ _ _ rfl (hv3.row.alloc _) ⟨w2.heap.size,0,none⟩ 1 1 [.string a,.string b] rfl rfl ?c1 ?c2 (by omega) ?c3 ?c4 ?c5 _ rfl ?_)
    |go_in)
   case c1=>exact World.news_of_block (cs:=#[.string a,.string b]) (t:=35) (fr:=(0,0)) (heap_alloc_new w2 _)
   case c2=>
    intro u hu;simp only [D2,List.mem_nil_iff,or_false] at hu;rcases hu with rfl|rfl<;>rfl
   case c3=>unfold maxLen;omega
   case c4=>omega
   case c5=>have:=h2.le;simp;omega
   ·intro g' cap' w3 ho' hg' hat hlt;obtain ⟨hO3,hcs,hkv⟩:=CS.pushed (x:=(a,b)) h2 hO2 hv3 ho' hg';have hOc:=cell_of_one hO3;have hOf:=free_of_one hO3;clear ho' hg' hat f1 f2 f3 hO3;go_wp2;go_ret;refine ⟨rfl,?_,(KV.of h.le (b1.trans (b2.mono b1.size))).trans hkv⟩;rw [Gy,hab.h,hM,<-hcc.h];simpa using hcs
 ·go_enter Tryz.func205,Tryz.ntmps205;go_wp2;go_ret;refine ⟨rfl,?_,KV.of h.le ?_⟩
  ·rw [Gy,<-hcc.h,decide_eq_false hk];simpa [hw1] using h1
  ·rw [<-hw1];exact b1
def Yl (B K O:Nat) (kind:Int) (S:Nat->Nat->Prop) (t:Tm):Prop:=∀(xs:List aI) (us:List Value) (w:World),CS B K O kind xs w->ah t<=3000->xs.length+ah t<=80000->Ey.av (RQ w B S) (aa t) us->
    Calls Tryz.prog 204 #[.agg us.toArray,.func (.func 205) #[] #[.pointer (some ⟨K,0,none⟩),.pointer (some ⟨O,0,none⟩)]] w fun e w'=>e=.returned (.bool true)/\CS B K O kind (Gn kind xs t) w'/\KV B O w w'
theorem Yl.use {B K O:Nat} {kind:Int} {S:Nat->Nat->Prop} {t:Tm} (h:Yl B K O kind S t) {xs:List aI} {us:List Value} {w:World} (h1:CS B K O kind xs w) (h2:ah t<=3000) (h3:xs.length+ah t<=80000) (h4:Ey.av (RQ w B S) (aa t) us):
  Calls Tryz.prog 204 #[.agg us.toArray,.func (.func 205) #[] #[.pointer (some ⟨K,0,none⟩),.pointer (some ⟨O,0,none⟩)]] w fun e w'=>e=.returned (.bool true)/\CS B K O kind (Gn kind xs t) w'/\KV B O w w':=h xs us w h1 h2 h3 h4
theorem Tryz.ao2 (B K O:Nat) (kind:Int) (S:Nat->Nat->Prop) (p s:ByteArray):Yl B K O kind S (.var p s):=by
 intro xs us w h hnd hn hu;have hu0:=hu;obtain ⟨k0,k1,k2,k3,k4,k5,k6,k7,k8,kp,kl,kc,kq,km,kd,rfl⟩:=bL (qx.rb hu);obtain rfl:k0=1:=by (have:=(RQ.rb hu.1).i;simpa using this)
 obtain ⟨w1,hw1⟩:∃w1,w1=w.alloc (.cells #[.int .i64 1,.string k1,.string k2,.int .i64 k3,.string k4,.string k5,.string k6,.string k7,.string k8,.slice kp kl kc,.slice kq km kd] 44):=⟨_,rfl⟩;have b1:Below w.heap.size w w1:=by rw [hw1];exact (Below.refl _ w).alloc (An _) _
 have hs1:w1.heap.size=w.heap.size+1:=by rw [hw1];simp
 have hc:w1.heap[w.heap.size]?=some (.cells #[.int .i64 1,.string k1,.string k2,.int .i64 k3,.string k4,.string k5,.string k6,.string k7,.string k8,.slice kp kl kc,.slice kq km kd] 44):=by
  rw [hw1];show (w.heap.push _)[w.heap.size]?=_
  simp
 have h1:=h.keep b1;have hnp:=dY (.var p s);have c1:=Tryz.amq B K O kind (.var p s) xs _ w1 h1 (by omega) (qx.rb (qx.keep (b1.mono h.le) hu0))
 go_enter Tryz.func204,Tryz.ntmps204;go_wp2_with (go_at_call 205;rw [<-hw1];refine c1.mono ?_);rintro e w2 ⟨rfl,h2,kv2⟩;have hc2:=kv2.block hc (fun e=>by have:=h.ltO;omega) (by decide)
 have f0:w2.cell? ⟨w.heap.size,0,none⟩=some (.int .i64 1):=by simp only [World.cell?,hc2];rfl
 clear hc hc2;go_wp2;go_ret;exact ⟨rfl,h2,(KV.of h.le b1).trans kv2⟩
theorem Tryz.an4 (B K O:Nat) (kind:Int) (S:Nat->Nat->Prop) (ob:Ob):Yl B K O kind S (.dV ob):=by
 intro xs us w h hnd hn hu;have hu0:=hu;obtain ⟨k0,k1,k2,k3,k4,k5,k6,k7,k8,kp,kl,kc,kq,km,kd,rfl⟩:=bL (qx.rb hu);obtain rfl:k0=2:=by cases ob<;>(have:=(RQ.rb hu.1).i;simpa using this)
 obtain ⟨w1,hw1⟩:∃w1,w1=w.alloc (.cells #[.int .i64 2,.string k1,.string k2,.int .i64 k3,.string k4,.string k5,.string k6,.string k7,.string k8,.slice kp kl kc,.slice kq km kd] 44):=⟨_,rfl⟩;have b1:Below w.heap.size w w1:=by rw [hw1];exact (Below.refl _ w).alloc (An _) _
 have hs1:w1.heap.size=w.heap.size+1:=by rw [hw1];simp
 have hc:w1.heap[w.heap.size]?=some (.cells #[.int .i64 2,.string k1,.string k2,.int .i64 k3,.string k4,.string k5,.string k6,.string k7,.string k8,.slice kp kl kc,.slice kq km kd] 44):=by
  rw [hw1];show (w.heap.push _)[w.heap.size]?=_
  simp
 have h1:=h.keep b1;have hnp:=dY (.dV ob);have c1:=Tryz.amq B K O kind (.dV ob) xs _ w1 h1 (by omega) (qx.rb (qx.keep (b1.mono h.le) hu0))
 go_enter Tryz.func204,Tryz.ntmps204;go_wp2_with (go_at_call 205;rw [<-hw1];refine c1.mono ?_);rintro e w2 ⟨rfl,h2,kv2⟩;have hc2:=kv2.block hc (fun e=>by have:=h.ltO;omega) (by decide)
 have f0:w2.cell? ⟨w.heap.size,0,none⟩=some (.int .i64 2):=by simp only [World.cell?,hc2];rfl
 clear hc hc2;go_wp2;go_ret;exact ⟨rfl,h2,(KV.of h.le b1).trans kv2⟩
theorem Tryz.anF (B K O:Nat) (kind:Int) (S:Nat->Nat->Prop) (p s:ByteArray) (ts:List Tm) (ih:∀x∈ts,Yl B K O kind S x):Yl B K O kind S (.app p s ts):=by
 intro xs us w h hnd hn hu;have hu0:=hu;obtain ⟨k0,k1,k2,k3,k4,k5,k6,k7,k8,kp,kl,kc,kq,km,kd,rfl⟩:=bL (qx.rb hu);obtain rfl:k0=3:=by (have:=(RQ.rb hu.1).i;simpa using this)
 obtain ⟨rfl,hargs⟩:=argsAt hu.2.2.2.2.2.2.2.2.2.2.1;have hnt:ts.length<=3000:=by have h1:=lZ ts;simp only [ah] at hnd;omega
 obtain ⟨w1,hw1⟩:∃w1,w1=w.alloc (.cells #[.int .i64 3,.string k1,.string k2,.int .i64 k3,.string k4,.string k5,.string k6,.string k7,.string k8,.slice kp kl kc,.slice kq ts.length kd] 44):=⟨_,rfl⟩;have b1:Below w.heap.size w w1:=by rw [hw1];exact (Below.refl _ w).alloc (An _) _
 have hs1:w1.heap.size=w.heap.size+1:=by rw [hw1];simp
 have hc:w1.heap[w.heap.size]?=some (.cells #[.int .i64 3,.string k1,.string k2,.int .i64 k3,.string k4,.string k5,.string k6,.string k7,.string k8,.slice kp kl kc,.slice kq ts.length kd] 44):=by
  rw [hw1];show (w.heap.push _)[w.heap.size]?=_
  simp
 have h1:=h.keep b1;have hnp:=dY (.app p s ts);have c1:=Tryz.amq B K O kind (.app p s ts) xs _ w1 h1 (by omega) (qx.rb (qx.keep (b1.mono h.le) hu0))
 go_enter Tryz.func204,Tryz.ntmps204;go_wp2_with (go_at_call 205;rw [<-hw1];refine c1.mono ?_);rintro e w2 ⟨rfl,h2,kv2⟩;have hc2:=kv2.block hc (fun e=>by have:=h.ltO;omega) (by decide)
 have f0:w2.cell? ⟨w.heap.size,0,none⟩=some (.int .i64 3):=by simp only [World.cell?,hc2];rfl
 have f10:w2.cell? ⟨w.heap.size,10,none⟩=some (.slice kq ts.length kd):=by simp only [World.cell?,hc2];rfl
 clear hc hc2;go_wp2;go_loopw [17] (fun i wy=>∃kk:Nat,kk<=ts.length/\i=.int .i64 kk/\CS B K O kind (bT kind (Gy kind xs (.app p s ts)) (ts.take kk)) wy/\KV B O w2 wy) (fun i _=>ts.length - (intOf i).toNat)
 case atStart=>exact ⟨0,Fl _,rfl,h2,⟨Below.refl _ _,Lib.OthersKept.refl _ _ _⟩⟩
 case round=>
  obtain ⟨kk,hkk,rfl,hcs,hkv⟩:=hrel;have yj:Below B w wr:=(b1.mono h.le).trans (kv2.Ao.trans hkv.Ao);by_cases hx2:kk < ts.length
  ·obtain ⟨y,hyk⟩:∃y,ts[kk]?=some y:=⟨_,A6 hx2⟩;have hym:=C3 hyk;obtain ⟨bk,o,Fp,rfl,hyu,KQ⟩:=hargs.get yj hyk;obtain ⟨y0,y1,y2,y3,y4,y5,y6,y7,y8,yp,yl,yc,yq,ym,yd,rfl⟩:=bL (qx.rb hyu);obtain ⟨e0,e1,e2,e3,e4,e5,e6,e7,e8,e9,e10⟩:=SY KQ;clear KQ;obtain ⟨wb,hwb⟩:∃wb,wb=wr.alloc (.cells #[.int .i64 y0,.string y1,.string y2,.int .i64 y3,.string y4,.string y5,.string y6,.string y7,.string y8,.slice yp yl yc,.slice yq ym yd] 44):=⟨_,rfl⟩;have bb:Below wr.heap.size wr wb:=by rw [hwb];exact (Below.refl _ wr).alloc (An _) _
   have hn1:=mg hyk;have hn2:=jr kind (ts.take kk) (Gy kind xs (.app p s ts));have hn3:=IY kind xs (.app p s ts);have hn4:ah (.app p s ts)=1+au ts:=rfl;have c2:=(ih y hym).use (hcs.keep bb) (by omega) (by omega) (qx.keep (bb.mono hcs.le) hyu)
   go_wp2_with (go_at_call 204;rw [<-hwb];refine c2.mono ?_);rintro e w3 ⟨rfl,h3,kv3⟩;go_wp2;go_roundw
   case rel=>exact ⟨kk+1,by omega,by simp,by rw [jD hyk,Gm];exact h3,hkv.trans ((KV.of hcs.le bb).trans kv3)⟩
   case measure=>simp [intOf];omega
  ·obtain rfl:kk=ts.length:=by omega
   rw [Ge] at hcs;go_wp2;go_ret;exact ⟨rfl,hcs,(KV.of h.le b1).trans (kv2.trans hkv)⟩
theorem Tryz.aqJ (B K O:Nat) (kind:Int) (S:Nat->Nat->Prop):∀t:Tm,Yl B K O kind S t
 |.var p s=>Tryz.ao2 B K O kind S p s
 |.dV o=>Tryz.an4 B K O kind S o
 |.app p s ts=>Tryz.anF B K O kind S p s ts fun x _=>Tryz.aqJ B K O kind S x
theorem Al.rep {v:Value} {xs:List aI} {w w':World} {S:Nat->Nat->Prop} (h:Al w.heap.size v xs w'):bJ w' (fun b o=>b < w.heap.size->S b o) (.slice (xs.flatMap bP) xs.length) v:=by
 have h1:=h.row;rcases h1.2 with ⟨rfl,h0⟩|⟨g,cap,cur,rfl,hg,hgg,_,hcap,_⟩
 ·have:xs=[]:=Cp h0
  subst this;exact .inl ⟨rfl,rfl,rfl⟩
 ·refine .inr ⟨⟨g,0,none⟩,cap,rfl,by omega,fun _=>rfl,?_⟩
  have hall:∀l:List aI,Ey.av (bJ w' (fun b o=>b < w.heap.size->S b o)) (l.flatMap bP) (l.flatMap syV):=fun l=>by
   induction l with
   |nil=>exact trivial
   |cons x l ih=>exact ⟨⟨rfl,rfl⟩,⟨rfl,rfl⟩,ih⟩
  refine JZ (us:=xs.flatMap syV) (hall xs) (fun j u hj=>?_) fun j (hlt:g < w.heap.size)=>absurd hlt (by omega)
  have:=h.row.cells (g:=g) rfl _ _ hj
  rw [Addr.add_lit] at this;exact this
theorem Tryz.acX (ts:List Tm) (kind:Int) (S:Nat->Nat->Prop) (q:Option Addr) (d:Nat) (w:World) (hok:∀x∈ts,ah x<=3000) (hsz:au ts<=70000) (hargs:su w.heap.size S ts q w):
  Calls Tryz.prog 171 #[.slice q ts.length d,.int .i64 kind] w fun e w'=>∃v',e=.returned v'/\Al w.heap.size v' (bT kind [] ts) w'/\Below w.heap.size w w':=by
 have hnt:ts.length<=70000:=by have:=lZ ts;omega
 obtain ⟨K,hK⟩:∃K,Hid (K=w.heap.size):=⟨_,⟨rfl⟩⟩;obtain ⟨O,hO⟩:∃O,Hid (O=w.heap.size+1):=⟨_,⟨rfl⟩⟩;obtain ⟨w1,hw1⟩:∃w1,w1=w.alloc (.cells #[.int .i64 kind] 3):=⟨_,rfl⟩;obtain ⟨w2,hw2⟩:∃w2,w2=w1.alloc (.cells #[.slice none 0 0] 33):=⟨_,rfl⟩;have b1:Below w.heap.size w w1:=by rw [hw1];exact (Below.refl _ w).alloc (An _) _
 have b2:Below w1.heap.size w1 w2:=by rw [hw2];exact (Below.refl _ w1).alloc (An _) _
 have hs1:w1.heap.size=w.heap.size+1:=by rw [hw1];simp
 have b12:Below w.heap.size w w2:=b1.trans (b2.mono b1.size);have hcs:CS w.heap.size K O kind [] w2:=by
  refine ⟨?_,⟨.slice none 0 0,?_,⟨World.ownsRow_nil _ _ _ _⟩⟩,b12.size,by rw [hO.h];omega⟩
  ·rw [hK.h,b2.block _ (by omega),hw1]
   show (w.heap.push _)[w.heap.size]?=_
   simp
  ·rw [hO.h,<-hs1,hw2];show (w1.heap.push _)[w1.heap.size]?=_
   simp
 go_enter Tryz.func171,Tryz.ntmps171;go_wp2;rw [<-hw1,<-hw2,<-hO.h,<-hK.h];go_loopw [10] (fun i wy=>∃kk:Nat,kk<=ts.length/\i=.int .i64 kk/\CS w.heap.size K O kind (bT kind [] (ts.take kk)) wy/\KV w.heap.size O w2 wy) (fun i _=>ts.length - (intOf i).toNat)
 case atStart=>exact ⟨0,Fl _,rfl,hcs,⟨Below.refl _ _,Lib.OthersKept.refl _ _ _⟩⟩
 case round=>
  obtain ⟨kk,hkk,rfl,hcz,hkv⟩:=hrel;have yj:Below w.heap.size w wr:=b12.trans hkv.Ao;by_cases hx2:kk < ts.length
  ·obtain ⟨y,hyk⟩:∃y,ts[kk]?=some y:=⟨_,A6 hx2⟩;have hym:=C3 hyk;obtain ⟨bk,o,Fp,rfl,hyu,KQ⟩:=hargs.get yj hyk;obtain ⟨y0,y1,y2,y3,y4,y5,y6,y7,y8,yp,yl,yc,yq,ym,yd,rfl⟩:=bL (qx.rb hyu);obtain ⟨e0,e1,e2,e3,e4,e5,e6,e7,e8,e9,e10⟩:=SY KQ;clear KQ;obtain ⟨wb,hwb⟩:∃wb,wb=wr.alloc (.cells #[.int .i64 y0,.string y1,.string y2,.int .i64 y3,.string y4,.string y5,.string y6,.string y7,.string y8,.slice yp yl yc,.slice yq ym yd] 44):=⟨_,rfl⟩;have bb:Below wr.heap.size wr wb:=by rw [hwb];exact (Below.refl _ wr).alloc (An _) _
   have hn1:=mg hyk;have hn2:=jr kind (ts.take kk) [];have hn3:([]:List aI).length=0:=rfl;have c2:=(Tryz.aqJ w.heap.size K O kind S y).use (hcz.keep bb) (hok y hym) (by omega) (qx.keep (bb.mono hcz.le) hyu)
   go_wp2_with (go_at_call 204;rw [<-hwb];refine c2.mono ?_);rintro e w3 ⟨rfl,h3,kv3⟩;go_wp2;go_roundw
   case rel=>exact ⟨kk+1,by omega,by simp,by rw [jD hyk,Gm];exact h3,hkv.trans ((KV.of hcz.le bb).trans kv3)⟩
   case measure=>simp [intOf];omega
  ·obtain rfl:kk=ts.length:=by omega
   rw [Ge] at hcz;obtain ⟨v,hv1,hv2⟩:=hcz.ob;have hOc:=cell_of_one hv1;go_wp2;go_ret;exact ⟨_,rfl,hv2,yj⟩
theorem Tryz.ano (ts:List Tm) (S:Nat->Nat->Prop) (q:Option Addr) (d:Nat) (w:World) (hok:∀x∈ts,ah x<=3000) (hsz:au ts<=70000) (hargs:su w.heap.size S ts q w):
  Calls Tryz.prog 116 #[.slice q ts.length d] w fun e w'=>∃v',e=.returned v'/\Al w.heap.size v' (bT 1 [] ts) w'/\Below w.heap.size w w':=by
 have c1:=Tryz.acX ts 1 S q d w hok hsz hargs;go_enter Tryz.func116,Tryz.ntmps116;go_wp2_with (go_at_call 171;refine c1.mono ?_);rintro e w2 ⟨v,rfl,h1,b1⟩;go_wp2;go_ret;exact ⟨_,rfl,h1,b1⟩
end Go.Proofs
namespace Go.Ey.Pr
open Seat RowKit Proofs
theorem anf {ts:List Tm} (hok:∀x∈ts,ah x<=3000) (hsz:au ts<=70000):nY PP 116 [.one (rows aa ts)] [.one (rows bP (bT 1 [] ts))]:=by
 rw [sF];refine ⟨H8 (by kernel_rfl),fun S w us hinv hall=>?_⟩
 match us,hall with
 |[u],⟨hu,_⟩=>
  obtain ⟨q,d,rfl,_,ha⟩:=GZ hu;refine Calls.mono (Tryz.ano ts S q d w hok hsz ha) ?_;rintro e w' ⟨v,rfl,htr,hb⟩;exact ⟨v,rfl,htr.rep,hb⟩
end Go.Ey.Pr
namespace Go.Proofs.YtolnnaanmfnkjaaGreatDoor.OH
set_option linter.unusedVariables false
theorem fq:Tryz.prog.closure 3=[3,9,10,34,78,141,142,140,182,183,211,246,247,212,248,249,275,285,250,251,252,253,254,194,228,267,229,230,268,269,270,231,255,184,160,213,256,152,80,161,137,162,214,185,215,79,143,186,187,125,95,94,144,188,216,257,276,138,53,217,258,151,218,259,277,219,220,221,222,260,278,279,280,147,191,227,266,283,289,290,298,297,299,291,292,300,301,318,319,159,262,261,281,286,106,155,190,101,156,157,92,287,288,295,307,308,309,323,310,311,324,312,313,325,296,314,327,329,326,315,316,328,330,331,332,333,317,265,282,223,54,189,224,263,150,225,264,226,145,81,146,35,19,13,18,52,82,83,85,50,21,84,86,36,87,88,148,93,37,89,149,192,49,126,90,91,96,153,97,154,193,98,99,44,119,100,102,158,33,40,28,14,42,108,109,163,195,232,271,196,234,272,284,293,302,294,303,320,321,304,305,322,306,233,197,164,43,110,165,166,199,198,111,112,113,167,200,236,171,205,206,242,204,237,235,273,168,201,202,73,134,132,181,203,238,239,240,114,169,170,241,274,115,116,74,136,135,117,172,118,173,67,26,63,55,64,127,177,176,209,128,130,68,24,56,57,58,31,71,131,179,210,178,180,72,133,11,38,39,22,103,104,105,12,41,107,15,45,65,120,121,174,207,243,175,76,208,244,245,122,77,139,59,123,16,46,47,124,48]:=by kernel_rfl
abbrev c:OpenClaim:=Rows.inductionSuggestRow
abbrev s:ChangeSpec:=Rows.inductionSuggestSpec
theorem unf:Tryz.prog.unfollowed 3=true:=by unfold Program.unfollowed;rw [fq];kernel_rfl
theorem inp:Tryz.prog.inPlace 3=["internal/abi.NoEscape"]:=by unfold Program.inPlace;rw [fq];kernel_rfl
theorem recs:Tryz.prog.recurses 3=true:=by unfold Program.recurses;rw [unf];rfl
theorem vars:Tryz.prog.varsNamed 3=["internal/strconv.uint64pow10", "math/bits.deBruijn32tab", "math/bits.deBruijn64tab", "unicode/utf8.first", "unicode/utf8.acceptRanges", "strconv.isPrint16", "strconv.isNotPrint16", "strconv.isPrint32", "strconv.isNotPrint32", "strconv.isGraphic"]:=by unfold Program.varsNamed;rw [fq];kernel_rfl
theorem named:Tryz.prog.funcNamed "lispprover/lispproverlaw37.InductionSuggest"=some 3:=by kernel_rfl
theorem as3:Tryz.prog.goes 3=false:=by unfold Program.goes;rw [fq,unf];kernel_rfl
theorem goesBy:c.goesBy Tryz.prog=false:=by
 unfold OpenClaim.goesBy Program.goesAt Program.goesFrom;show ((Tryz.prog.funcNamed "lispprover/lispproverlaw37.InductionSuggest").any Tryz.prog.goes||false)=false
 rw [named,Option.any_some,as3];rfl
theorem closed:joinedFacts Tryz.prog 3 Tryz.f3 s c=true:=by
 unfold joinedFacts;rw [inp,unf,recs,vars];simp only [A5];refine ⟨⟨⟨⟨⟨⟨⟨⟨⟨⟨⟨⟨⟨⟨⟨⟨⟨⟨⟨⟨⟨⟨⟨⟨⟨⟨⟨⟨⟨⟨⟨?_,?_⟩,?_⟩,?_⟩,?_⟩,?_⟩,?_⟩,?_⟩,?_⟩,?_⟩,?_⟩,?_⟩,?_⟩,?_⟩,?_⟩,?_⟩,?_⟩,?_⟩,?_⟩,?_⟩,?_⟩,?_⟩,?_⟩,?_⟩,?_⟩,?_⟩,?_⟩,?_⟩,?_⟩,?_⟩,?_⟩,?_⟩
 all_goals kernel_rfl
end Go.Proofs.YtolnnaanmfnkjaaGreatDoor.OH
