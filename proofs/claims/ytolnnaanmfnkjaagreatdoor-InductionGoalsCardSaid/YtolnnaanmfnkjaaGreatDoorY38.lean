/- A part. -/
import Derived.Test.YtolnnaanmfnkjaaGreatDoorY36
import Derived.Deep.DeepCutAuto
import Derived.Deep.DrawnRows
set_option linter.all false
namespace Go.Proofs
open Go.RowKit Go.Ey Go.Ey.Pr Go.Ey.Seat Go.Maps
theorem TM (l:List Tm) (t:Tm):Ol l t=cond (memT l t) l (uu (l++[t]) (aN t)):=by cases t<;>simp [Ol,aN,uu]
theorem SF.refl (O M:Nat) (v:Value) (w:World):SF O M v v w w:=⟨rfl,rfl,rfl,B9 _,fun _ _ _ _ _=>rfl,fun _ h=> .inl h⟩
theorem SF.trans {O M:Nat} {u v x:Value} {w w' w'':World} (h:SF O M u v w w') (k:SF O M v x w' w''):SF O M u x w w'':=
 ⟨k.os.trans h.os,k.tape.trans h.tape,k.output.trans h.output,Dg h.size k.size,fun j hj hO hM hne=>by
  rw [k.block j (Fk hj h.size) hO hM fun e=>(h.new j e.symm).elim (fun e2=>hne e2.symm) fun h2=>absurd h2 (by omega)]
  exact h.block j hj hO hM hne,fun j hj=>(k.new j hj).elim (h.new j) fun h2=> .inr (Dg h.size h2)⟩
theorem SF.dY {O M:Nat} {v:Value} {w w':World} (h:Below w.heap.size w w'):SF O M v v w w':=⟨h.os,h.tape,h.output,h.size,fun k hk _ _ _=>h.block k hk,fun _ h=> .inl h⟩
theorem SF.below {O M B:Nat} {v v':Value} {w w':World} (h:SF O M v v' w w') (hB:B<=w.heap.size) (hO:B<=O) (hM:B<=M) (hv:∀k,v.ownBlock=some k->B<=k):Below B w w':=
 ⟨h.os,h.tape,h.output,h.size,fun k hk=>h.block k (by omega) (by omega) (by omega) fun e=>by have:=hv k e.symm;omega⟩
theorem Ik:∀(ts l:List Tm) (t:Tm),uu l (ts++[t])=Ol (uu l ts) t
 |[],l,t=>by simp [uu]
 |x::ts,l,t=>by simp only [E3,uu];exact Ik ts _ t
mutual
theorem aeA:∀(t:Tm) (l:List Tm),(Ol l t).length<=l.length+av t
 |.var p s,l=>by rw [Ol,av];cases memT l (.var p s)<;>simp
 |.eG o,l=>by
  have:=Dc o
  rw [Ol,av];cases memT l (.eG o)<;>simp
  omega
 |.app p s ts,l=>by
  rw [Ol,av];have:=F8 ts (l++[.app p s ts])
  cases memT l (.app p s ts)<;>simp at this |-
  omega
theorem F8:∀(ts l:List Tm),(uu l ts).length<=l.length+aJ ts
 |[],l=>by simp [uu,aJ]
 |t::ts,l=>by rw [uu,aJ];have h1:=F8 ts (Ol l t);have h2:=aeA t l;omega
end
theorem LQ (t:Tm):aJ (aN t)<=av t:=by cases t<;>simp [aN,aJ,av]
theorem VH:∀{ts:List Tm},Y4 ts=true->∀x∈ts,plT x=true
 |y::ts,h,x,hx=>by
  simp only [Y4,As] at h;rcases D1.1 hx with rfl|hx
  ·exact h.1
  ·exact VH h.2 x hx
theorem Ro:∀{ts:List Tm},WI ts->∀x∈ts,Hu x
 |y::ts,h,x,hx=>by
  rcases D1.1 hx with rfl|hx
  ·exact h.1
  ·exact Ro h.2 x hx
theorem okK.args {t:Tm} (h:okK t):∀x∈aN t,okK x:=by
 cases t with
 |var p s=>intro x hx;cases hx
 |eG o=>intro x hx;cases hx
 |app p s ts=>
  intro x hx;have h1:=h.pl;simp only [plT,As] at h1;have h2:=h.nd;have h3:=nK (show x∈ts from hx)
  simp only [av] at h2;exact ⟨VH h1.2 x hx,Ro h.qk.2.2.2 x hx,by omega⟩
def ab4 (B:Nat) (S:Nat->Nat->Prop) (O M Sn Ad:Nat) (t:Tm):Prop:=∀(l:List Tm) (v:Value) (us:List Value) (w:World),XF B S O M Sn Ad l v w->keeps.Inv B w->okK t->l.length+av t<=90000->Ey.aF (RQ w B S) (af t) us->
    Calls Tryz.prog 108 #[.agg us.toArray,.pointer (some ⟨Sn,0,none⟩),.pointer (some ⟨O,0,none⟩),.pointer (some ⟨Ad,0,none⟩)] w fun e w'=>e=.returned (.tuple #[])/\∃v',XF B S O M Sn Ad (Ol l t) v' w'/\SF O M v v' w w'
theorem ab4.use {B:Nat} {S:Nat->Nat->Prop} {O M Sn Ad:Nat} {t:Tm} (h:ab4 B S O M Sn Ad t) {l:List Tm} {v:Value} {us:List Value} {w:World} (h1:XF B S O M Sn Ad l v w) (hk:keeps.Inv B w) (hok:okK t) (hn:l.length+av t<=90000) (hu:Ey.aF (RQ w B S) (af t) us):
  Calls Tryz.prog 108 #[.agg us.toArray,.pointer (some ⟨Sn,0,none⟩),.pointer (some ⟨O,0,none⟩),.pointer (some ⟨Ad,0,none⟩)] w fun e w'=>e=.returned (.tuple #[])/\∃v',XF B S O M Sn Ad (Ol l t) v' w'/\SF O M v v' w w':=h l v us w h1 hk hok hn hu
attribute [local go_sem ↓] Go.wp_at_zero Go.wp_at_succ
set_option maxRecDepth 100000 in
set_option maxHeartbeats 4000000 in
theorem Tryz.aj6 (B:Nat) (S:Nat->Nat->Prop) (O M Sn Ad:Nat) (t:Tm) (ih:∀x∈aN t,ab4 B S O M Sn Ad x):ab4 B S O M Sn Ad t:=by
 intro l v us w h hk hok hn hu;have hu0:=hu;obtain ⟨k3,k4,k5,k6,k7,k8,kp,kl,kc,kq,kd,rfl⟩:=abO (Bp.rb hu);have hargs:AQ B S (aN t) kq w:=by
  cases t with
  |var p s=>exact ⟨fun h=>absurd h (by simp [aN])⟩
  |eG o=>exact ⟨fun h=>absurd h (by simp [aN])⟩
  |app p s ts=>exact (argsAt hu.2.2.2.2.2.2.2.2.2.2.1).2
 obtain ⟨a,ha⟩:∃a,Hid (a=(bZ t).1):=⟨_,⟨rfl⟩⟩;obtain ⟨b,hb⟩:∃b,Hid (b=(bZ t).2):=⟨_,⟨rfl⟩⟩;obtain ⟨c,hcc⟩:∃c,Hid (c=kH t):=⟨_,⟨rfl⟩⟩;rw [<-ha.h,<-hb.h,<-hcc.h] at hu0 |-;clear hu;obtain ⟨ao,cap,rfl,hao⟩:=h.row.shape;obtain ⟨w1,hw1⟩:∃w1,w1=w.alloc (.cells #[.int .i64 c,.string a,.string b,.int .i64 k3,.string k4,.string k5,.string k6,.string k7,.string k8,.slice kp kl kc,.slice kq (EN t) kd] 44):=⟨_,rfl⟩;have b1:Below w.heap.size w w1:=by rw [hw1];exact (Below.refl _ w).alloc (B9 _) _
 have hs1:w1.heap.size=w.heap.size+1:=by rw [hw1];simp
 have hc:w1.heap[w.heap.size]?=some (.cells #[.int .i64 c,.string a,.string b,.int .i64 k3,.string k4,.string k5,.string k6,.string k7,.string k8,.slice kp kl kc,.slice kq (EN t) kd] 44):=by
  rw [hw1];show (w.heap.push _)[w.heap.size]?=_
  simp
 have h1:=h.keep b1;have hk1:keeps.Inv w1.heap.size w1:=keeps.mono h1.row.le (keeps.keep (b1.mono h.row.le) hk);have hnd:=hok.nd;have hnp:=jf t;have c1:=Tryz.asT t _ w1 hok.qk (by omega) hk1.2 (hu0.mono fun c u hr=>cK.mono (fun k o v hcc hkk=>⟨by rw [b1.cell (show k < w.heap.size from Fk hkk.1 h.row.le)];exact hcc,Fk hkk.1 (Dg h.row.le b1.size)⟩) c u hr)
 obtain ⟨kt,hkt⟩:∃kt,Hid (kt=(⟨(pq t).toArray⟩:ByteArray)):=⟨_,⟨rfl⟩⟩;rw [<-hkt.h] at c1;go_enter Tryz.func108,Tryz.ntmps108;go_wp2_with (go_at_call 109;rw [<-hw1];refine c1.mono ?_);rintro e w2 ⟨rfl,b2⟩;have h2:=h1.keep b2;have hlk:=h2.mp.look hok;rw [<-hkt.h] at hlk;have hsn:=cell_of_one h2.sb;have bb0:=b1.trans (b2.mono b1.size);cases hM:memT l t with
 |true=>
  rw [hM] at hlk;go_wp2;refine bodyPost_ret (results_none rfl _ _ _) rfl ?_;exact ⟨rfl,_,by rw [TM,hM];exact h2,SF.dY bb0⟩
 |false=>
  rw [hM] at hlk;obtain ⟨D,hD1,hD2⟩:=h2.mp.ex;go_wp2_with (first
   |(at_mapUpdate;refine wpList_mapUpdate_own _ rfl _ _ _ 146 rfl 9 4 Tryz.aor Tryz.underlying146 _ M l.length D rfl hD1 (by unfold maxLen;omega) _ _ (afD t) rfl rfl (by rw [hkt.h];exact Tryz.an5 hok) _ [] (plainElem_bool Tryz.underlying4 true) ?_)
   |go_in)
  intro w3 hD3 hg3;have lO:=(C3.1 h2.ob).1;have hMO:O≠M:=fun e=>by
   obtain ⟨es,clock,e1,_⟩:=hD1;have:=h2.ob
   rw [e,e1] at this;injection this with this;cases this
  have hO3:w3.heap[O]?=some (.cells #[.slice ao l.length cap] 27 (0,0)):=by rw [hg3.block O lO (by simpa using hMO)];exact h2.ob
  have anM:w2.heap[w.heap.size]?=some (.cells #[.int .i64 c,.string a,.string b,.int .i64 k3,.string k4,.string k5,.string k6,.string k7,.string k8,.slice kp kl kc,.slice kq (EN t) kd] 44):=by rw [b2.block _ (by omega)];exact hc
  have hbM:M≠w.heap.size:=fun e=>by have:=h.mp.lt;omega
  have ahd:w3.heap[w.heap.size]?=some (.cells #[.int .i64 c,.string a,.string b,.int .i64 k3,.string k4,.string k5,.string k6,.string k7,.string k8,.slice kp kl kc,.slice kq (EN t) kd] 44):=by rw [hg3.block _ (by have:=b2.size;omega) (by simpa using hbM.symm)];exact anM
  have hrow3:jc B S (.slice ao l.length cap) l w3:=by
   obtain ⟨xs,ho,hxs⟩:=h2.row.row;have hvm:(Value.slice ao l.length cap).ownBlock≠some M:=fun e=>by
    rcases ho.2 with ⟨e1,_⟩|⟨g,cap',cur,e1,_,hgg,_⟩
    ·rw [e1] at e;simp [Value.ownBlock] at e
    ·rw [e1] at e;have:g=M:=by simpa [Value.ownBlock] using e
     subst this;obtain ⟨es,clock,e2,_⟩:=hD1;rw [hgg] at e2;injection e2 with e2;cases e2
   exact ⟨⟨xs,ho.kept hg3 (.inr (by exact hvm)),Bp.keep ⟨hg3.os,hg3.tape,hg3.output,hg3.size,fun k hk=>hg3.block k (by have:=h2.row.le;omega) (by have:=h.leM;simp;omega)⟩ hxs⟩,Dg h2.row.le hg3.size⟩
  have hOc:=cell_of_one hO3;have hOf:=free_of_one hO3;obtain ⟨f0,f1,f2,f3,f4,f5,f6,f7,f8,f9,f10⟩:=amb ahd;obtain ⟨i0,hi,hz0,hz1,hz2⟩:=info_parts Tryz.La;obtain ⟨xs,ho,hxs⟩:=hrow3.row;have hvO:(Value.slice ao l.length cap).ownBlock≠some O:=TY hrow3 hO3 (by decide)
  have hvX:(Value.slice ao l.length cap).ownBlock≠some w.heap.size:=fun e=>by have:=(h.row.own _ e).2;omega
  have asA:Hid (w3.heap[Sn]?=some (.cells #[.map (some M)] 146 (0,0))):=⟨(hg3.block Sn (C3.1 h2.sb).1 (by simpa using h2.mp.aai h2.sb)).trans h2.sb⟩
  have arn:Hid (w3.heap[Ad]?=some (.cells #[.func (.func 108) #[] #[.pointer (some ⟨Sn,0,none⟩),.pointer (some ⟨O,0,none⟩),.pointer (some ⟨Ad,0,none⟩)]] 147 (0,0))):=⟨(hg3.block Ad (C3.1 h2.ab).1 (by simpa using h2.mp.aai h2.ab)).trans h2.ab⟩
  have aqz:Hid (kM M (l++[t]) w3):=⟨kM.put hok hD1.isMap hD2 hD3⟩;have bb2:Hid (Below w.heap.size w w2):=⟨bb0⟩;have atl:Hid (Ey.aF (RQ w3 B S) (af t) [.int .i64 c,.string a,.string b,.int .i64 k3,.string k4,.string k5,.string k6,.string k7,.string k8,.slice kp kl kc,.slice kq (EN t) kd]):=⟨Bp.keep ((bb2.h.mono h.row.le).trans ⟨hg3.os,hg3.tape,hg3.output,hg3.size,fun k hk=>hg3.block k (by have:=h2.row.le;omega) (by have:=h.leM;simp;omega)⟩) hu0⟩
  have asS:Hid (Ey.aF (RQ w3 B S) (fF l) xs):=⟨hxs⟩;have alJ:Hid (jc B S (.slice ao l.length cap) l w3):=⟨hrow3⟩;have hg3':Hid (w2.grownBy w3 (some M)):=⟨hg3⟩;have apz:Hid (w3.heap[w.heap.size]?=some (.cells #[.int .i64 c,.string a,.string b,.int .i64 k3,.string k4,.string k5,.string k6,.string k7,.string k8,.slice kp kl kc,.slice kq (EN t) kd] 44)):=⟨ahd⟩;have leO:Hid (B<=O):=⟨h.leO⟩;have leM:Hid (B<=M):=⟨h.leM⟩;have h':Hid (XF B S O M Sn Ad l (.slice ao l.length cap) w):=⟨h⟩;have hargs':Hid (AQ B S (aN t) kq w):=⟨hargs⟩;have hk':Hid (keeps.Inv B w):=⟨hk⟩;have ih':Hid (∀x∈aN t,ab4 B S O M Sn Ad x):=⟨ih⟩;have lX:w.heap.size < w3.heap.size:=(C3.1 ahd).1;have lO3:O < w3.heap.size:=(C3.1 hO3).1;have lOw:=(C3.1 h.ob).1;have lB:=hrow3.le;clear hu0 hlk hsn hD1 hD2 hD3 h1 h2 c1 hxs hrow3 hg3 ahd anM h hargs hk ih b1 b2 bb0 hc hk1 hao hw1 lO;have hOX:¬O=w.heap.size:=by omega
  have hXO:¬w.heap.size=O:=by omega
  have hxl:xs.length=l.length * 11:=ho.1;have hx0:(0:Int)<=(l.length:Int):=Int.natCast_nonneg _;have hx1:(l.length:Int) < (l.length:Int)+1:=by omega
  have hclose:Hid (∀(gg cp:Nat) (w4 W:World),G4 w3 w4 (Value.slice ao l.length cap).ownBlock->((Value.slice ao l.length cap).ownBlock=some gg\/gg=w3.heap.size+1)->acy B O gg (.slice (some ⟨gg,0,none⟩) (l.length+1) cp) (l.length+1) (xs++[.int .i64 c,.string a,.string b,.int .i64 k3,.string k4,.string k5,.string k6,.string k7,.string k8,.slice kp kl kc,.slice kq (EN t) kd]) w4 W->
    XF B S O M Sn Ad (l++[t]) (.slice (some ⟨gg,0,none⟩) (l.length+1) cp) W/\SF O M (.slice ao l.length cap) (.slice (some ⟨gg,0,none⟩) (l.length+1) cp) w W/\W.heap[w.heap.size]?=some (.cells #[.int .i64 c,.string a,.string b,.int .i64 k3,.string k4,.string k5,.string k6,.string k7,.string k8,.slice kp kl kc,.slice kq (EN t) kd] 44)/\(Value.slice (some ⟨gg,0,none⟩) (l.length+1) cp).ownBlock≠some w.heap.size):=⟨fun gg cp w4 W hgr hat hf=>by
   obtain ⟨r1,r2⟩:=XF.close alJ.h asS.h atl.h hO3 asA.h arn.h aqz.h leO.h leM.h hgr hat hf;exact ⟨r1,SF.before bb2.h hg3'.h r2,by rw [r2.block _ lX hXO (fun e=>hbM e.symm) (fun e=>hvX e.symm)];exact apz.h,fun e=>by
    have e2:gg=w.heap.size:=by simpa [Value.ownBlock] using e
    subst e2;exact hat.elim (fun e3=>hvX e3) (fun e3=>by omega)⟩⟩
  go_upto_region 4 with fail
  go_cut [] (fun wx=>∃v',XF B S O M Sn Ad (l++[t]) v' wx/\SF O M (.slice ao l.length cap) v' w wx/\wx.heap[w.heap.size]?=some (.cells #[.int .i64 c,.string a,.string b,.int .i64 k3,.string k4,.string k5,.string k6,.string k7,.string k8,.slice kp kl kc,.slice kq (EN t) kd] 44)/\v'.ownBlock≠some w.heap.size)
  case first=>
   go_region_law
    ((refine step_append_lies _ (by rfl) _ _ _ (by rfl) B 44 i0 _ 11 176 Tryz.underlying27 hi hz0 hz1 hz2 rfl (by omega) (.slice ao l.length cap) l.length xs (by rfl) ((ho.alloc _).drew)
       ⟨w3.heap.size,0,none⟩ 1 1 [.int .i64 0,.string ⟨#[]⟩,.string ⟨#[]⟩,.int .i64 0,.string ⟨#[]⟩,.string ⟨#[]⟩,.string ⟨#[]⟩,.string ⟨#[]⟩,.string ⟨#[]⟩,.slice none 0 0,.slice none 0 0] (by rfl) (by rfl) (World.news_of_block (cs:=#[.int .i64 0,.string ⟨#[]⟩,.string ⟨#[]⟩,.int .i64 0,.string ⟨#[]⟩,.string ⟨#[]⟩,.string ⟨#[]⟩,.string ⟨#[]⟩,.string ⟨#[]⟩,.slice none 0 0,.slice none 0 0]) (t:=44) (fr:=(0,0)) (heap_alloc_new w3 _)) (by simp [Value.oneCell'])
       (by omega) (by unfold maxLen;omega) (by omega) (by simp;omega) (w3.heap.size+1) (by simp) ?_;intro gg cp w4 M5 hgrow hat hlt;have hO4:w4.heap[O]?=some (.cells #[.slice ao l.length cap] 27 (0,0)):=((hgrow.block O (by simp;omega) (fun e=>hvO e.symm)).trans ((((Below.refl w3.heap.size w3).alloc (B9 _) _).block O lO3).trans hO3));have auc:=cell_of_one hO4;have at0:=free_of_one hO4;have hgX:¬gg=w.heap.size:=(fun e=>hat.elim (fun e2=>hvX (by rw [e2,e])) (fun e2=>by omega));have hgO:¬gg=O:=(fun e=>hat.elim (fun e2=>hvO (by rw [e2,e])) (fun e2=>by omega));have hG:Hid (G4 w3 w4 (Value.slice ao l.length cap).ownBlock):=⟨⟨hgrow.os,hgrow.tape,hgrow.output,Dg (by simp) hgrow.size,fun k hk hne=>(hgrow.block k (by simp;omega) hne).trans (((Below.refl w3.heap.size w3).alloc (B9 _) _).block k hk)⟩⟩;have y0:w4.cell? ⟨gg,l.length * 11,none⟩=some (.int .i64 0):=nC M5 hxl (j:=0) rfl (by omega);have y1:w4.cell? ⟨gg,l.length * 11+1,none⟩=some (.string ⟨#[]⟩):=nC M5 hxl (j:=1) rfl (by omega);have y2:w4.cell? ⟨gg,l.length * 11+2,none⟩=some (.string ⟨#[]⟩):=nC M5 hxl (j:=2) rfl (by omega);have y3:w4.cell? ⟨gg,l.length * 11+3,none⟩=some (.int .i64 0):=nC M5 hxl (j:=3) rfl (by omega);have y4:w4.cell? ⟨gg,l.length * 11+4,none⟩=some (.string ⟨#[]⟩):=nC M5 hxl (j:=4) rfl (by omega);have y5:w4.cell? ⟨gg,l.length * 11+5,none⟩=some (.string ⟨#[]⟩):=nC M5 hxl (j:=5) rfl (by omega);have y6:w4.cell? ⟨gg,l.length * 11+6,none⟩=some (.string ⟨#[]⟩):=nC M5 hxl (j:=6) rfl (by omega);have y7:w4.cell? ⟨gg,l.length * 11+7,none⟩=some (.string ⟨#[]⟩):=nC M5 hxl (j:=7) rfl (by omega);have y8:w4.cell? ⟨gg,l.length * 11+8,none⟩=some (.string ⟨#[]⟩):=nC M5 hxl (j:=8) rfl (by omega);have y9:w4.cell? ⟨gg,l.length * 11+9,none⟩=some (.slice none 0 0):=nC M5 hxl (j:=9) rfl (by omega);have y10:w4.cell? ⟨gg,l.length * 11+10,none⟩=some (.slice none 0 0):=nC M5 hxl (j:=10) rfl (by omega);have z0:=M5.frozenAt (l.length * 11);have z1:=M5.frozenAt (l.length * 11+1);have z2:=M5.frozenAt (l.length * 11+2);have z3:=M5.frozenAt (l.length * 11+3);have z4:=M5.frozenAt (l.length * 11+4);have z5:=M5.frozenAt (l.length * 11+5);have z6:=M5.frozenAt (l.length * 11+6);have z7:=M5.frozenAt (l.length * 11+7);have z8:=M5.frozenAt (l.length * 11+8);have z9:=M5.frozenAt (l.length * 11+9);have z10:=M5.frozenAt (l.length * 11+10)))
   all_goals
    (go_wp2_with fail
     go_meet;refine ⟨(.slice (some ⟨gg,0,none⟩) (l.length+1) cp),hclose.h gg cp w4 _ hG.h hat ?_⟩
     with_reducible first|exact agW hO4 hgO M5 hxl|exact agL hO4 hgO M5 hxl)
  case rest=>
   obtain ⟨v4,hf4,hs4,hb4,hv4⟩:=hcut;have g0:wc.cell? ⟨w.heap.size,0,none⟩=some (.int .i64 c):=by simp only [World.cell?,hb4];rfl
   have g10:wc.cell? ⟨w.heap.size,10,none⟩=some (.slice kq (EN t) kd):=by simp only [World.cell?,hb4];rfl
   clear hOc hOf f0 f1 f2 f3 f4 f5 f6 f7 f8 f9 f10 ho hO3 hi hz0 hz1 hz2;by_cases h3:c=3
   ·have hl3:EN t<=3000:=by
     have e1:=yw (aN t);have e2:=LQ t
     rw [Qs] at e1;omega
    subst h3;obtain ⟨LT,hLT⟩:∃n:Nat,Hid (n=EN t):=⟨_,⟨rfl⟩⟩;rw [<-hLT.h] at g10 hl3 hb4;have hAL:Hid ((aN t).length=LT):=⟨by rw [Qs,hLT.h]⟩
    go_wp2;go_loopw [27] (fun i wy=>∃(kk:Nat) (vz:Value),kk<=LT/\i=.int .i64 kk/\XF B S O M Sn Ad (uu (l++[t]) ((aN t).take kk)) vz wy/\SF O M v4 vz wc wy) (fun i _=>LT - (intOf i).toNat)
    case atStart=>exact ⟨0,v4,Ft _,rfl,by simpa [uu] using hf4,SF.refl _ _ _ _⟩
    case round=>
     obtain ⟨kk,vz,hkk,rfl,hfz,hsz⟩:=hrel;have sfz:SF O M (.slice ao l.length cap) vz w wr:=hs4.trans hsz;have DZ:Below B w wr:=sfz.below h'.h.row.le leO.h leM.h fun j hj=>(h'.h.row.own j hj).1
     have hbr:wr.heap[w.heap.size]?=some (.cells #[.int .i64 3,.string a,.string b,.int .i64 k3,.string k4,.string k5,.string k6,.string k7,.string k8,.slice kp kl kc,.slice kq (LT) kd] 44):=by
      rw [hsz.block w.heap.size (by have:=(C3.1 hb4).1;exact this) hXO (fun e=>hbM e.symm) fun e=>hv4 e.symm]
      exact hb4
     have hAd:=cell_of_one hfz.ab;have hAl:Ad < wr.heap.size:=(C3.1 hfz.ab).1;by_cases hx2:kk < LT
     ·obtain ⟨y,hyk⟩:∃y,(aN t)[kk]?=some y:=⟨_,Ax (by rw [hAL.h];exact hx2)⟩
      have hym:=C7 hyk;obtain ⟨bk,o,HV,rfl,hyu,Qv⟩:=hargs'.h.get DZ hyk;obtain ⟨y0,y1,y2,y3,y4,y5,y6,y7,y8,yp,yl,yc,yq,ym,yd,rfl⟩:=dF (Bp.rb hyu);obtain ⟨e0,e1,e2,e3,e4,e5,e6,e7,e8,e9,e10⟩:=Yh Qv;clear Qv;obtain ⟨wb,hwb⟩:∃wb,wb=wr.alloc (.cells #[.int .i64 y0,.string y1,.string y2,.int .i64 y3,.string y4,.string y5,.string y6,.string y7,.string y8,.slice yp yl yc,.slice yq ym yd] 44):=⟨_,rfl⟩;have bb:Below wr.heap.size wr wb:=by rw [hwb];exact (Below.refl _ wr).alloc (B9 _) _
      have hn1:=xk hyk;have hn2:=F8 ((aN t).take kk) (l++[t]);have hn3:=LQ t;have hn4:(l++[t]).length=l.length+1:=by simp
      have hn5:aJ (aN t)+1<=av t:=by
       have:=jf t
       cases t with
       |var p s=>simp [aN,aJ,av]
       |eG o=>have:=Dc o;simp [aN,aJ,av];omega
       |app p s ts=>simp [aN,aJ,av];omega
      have c2:=(ih'.h y hym).use (hfz.keep bb) (keeps.keep (DZ.trans (bb.mono hfz.row.le)) hk'.h) (hok.args y hym) (by omega) (Bp.keep (bb.mono hfz.row.le) hyu)
      go_wp2_with (go_at_call 108;rw [<-hwb];refine c2.mono ?_);rintro e w5 ⟨rfl,v5,hf5,hs5⟩;go_wp2;go_roundw
      case rel=>exact ⟨kk+1,v5,by omega,by simp,by rw [nJ hyk,Ik];exact hf5,hsz.trans ((SF.dY bb).trans hs5)⟩
      case measure=>simp [intOf];omega
     ·obtain rfl:kk=LT:=by omega
      rw [<-hAL.h,I0] at hfz;go_wp2;go_end0;exact ⟨rfl,vz,by rw [TM,hM];exact hfz,sfz⟩
   ·have hA0:aN t=[]:=by
     cases t with
     |var p s=>rfl
     |eG o=>rfl
     |app p s ts=>exact absurd hcc.h h3
    go_wp2;go_end0;exact ⟨rfl,v4,by rw [TM,hM,hA0];simpa [uu] using hf4,hs4⟩
theorem Tryz.anc (B:Nat) (S:Nat->Nat->Prop) (O M Sn Ad:Nat):∀t:Tm,ab4 B S O M Sn Ad t
 |.var p s=>Tryz.aj6 B S O M Sn Ad _ fun x hx=>by cases hx
 |.eG o=>Tryz.aj6 B S O M Sn Ad _ fun x hx=>by cases hx
 |.app p s ts=>Tryz.aj6 B S O M Sn Ad _ fun x (hx:x∈ts)=>Tryz.anc B S O M Sn Ad x
end Go.Proofs
