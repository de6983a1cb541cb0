import Derived.Test.YtolnnaanmfnkjaaGreatDoorZ33
import Derived.Maps.Own
import Derived.Maps.OwnSet
import Derived.Deep.DeepCutAuto
import Derived.Deep.DrawnRows
set_option linter.all false
set_option maxHeartbeats 0
set_option maxRecDepth 100000
namespace Go.Proofs
open RowKit Ey Ey.Pr Ey.Seat Maps WideMaps MapKept
theorem YQ:∀{a b:Ob},tu a b=true->a=b
 |.num n d,.num n' d',h=>by simp [tu] at h;rw [h.1,h.2]
 |.sy p s,.sy p' s',h=>by simp [tu] at h;rw [h.1,h.2]
 |.st t,.st t',h=>by simp [tu] at h;rw [h]
 |.cons a b,.cons a' b',h=>by simp only [tu,A5] at h;rw [YQ h.1,YQ h.2]
 |.num ..,.sy ..,h=>by simp [tu] at h
 |.num ..,.st ..,h=>by simp [tu] at h
 |.num ..,.cons ..,h=>by simp [tu] at h
 |.sy ..,.num ..,h=>by simp [tu] at h
 |.sy ..,.st ..,h=>by simp [tu] at h
 |.sy ..,.cons ..,h=>by simp [tu] at h
 |.st ..,.num ..,h=>by simp [tu] at h
 |.st ..,.sy ..,h=>by simp [tu] at h
 |.st ..,.cons ..,h=>by simp [tu] at h
 |.cons ..,.num ..,h=>by simp [tu] at h
 |.cons ..,.sy ..,h=>by simp [tu] at h
 |.cons ..,.st ..,h=>by simp [tu] at h
mutual
theorem NM:∀{a b:Tm},nR a b=true->a=b
 |.var p s,.var p' s',h=>by simp [nR] at h;rw [h.1,h.2]
 |.dV o,.dV o',h=>by simp only [nR] at h;rw [YQ h]
 |.app p s ts,.app p' s' ts',h=>by simp [nR] at h;rw [h.1.1,h.1.2,aaa h.2]
 |.var ..,.dV ..,h=>by simp [nR] at h
 |.var ..,.app ..,h=>by simp [nR] at h
 |.dV ..,.var ..,h=>by simp [nR] at h
 |.dV ..,.app ..,h=>by simp [nR] at h
 |.app ..,.var ..,h=>by simp [nR] at h
 |.app ..,.dV ..,h=>by simp [nR] at h
theorem aaa:∀{a b:List Tm},Bp a b=true->a=b
 |[],[],_=>rfl
 |[],_::_,h=>by simp [Bp] at h
 |_::_,[],h=>by simp [Bp] at h
 |t::ts,t'::ts',h=>by simp only [Bp,A5] at h;rw [NM h.1,aaa h.2]
end
theorem al5 {a b:Tm} (h:a≠b):nR a b=false:=by
 cases he:nR a b with
 |false=>rfl
 |true=>exact absurd (NM he) h
structure UN (t:Tm):Prop where
 pl:ZH t=true
 qk:FB t
 nd:ah t<=3000
abbrev acV (t:Tm):Lit:=.string (oz t)
theorem Tryz.aoP:Keyed Tryz.prog 9:=string_keyed Tryz.underlying9
theorem Tryz.anX {t:Tm} (h:UN t):keyOf Tryz.prog 9 (.string ⟨(oz t).toArray⟩)=some (acV t):=by
 have hl:=vg h.qk;have hn:=h.nd;have:=keyOf_string_mk (k:=9) Tryz.underlying9 (s:=⟨(oz t).toArray⟩) (by show (oz t).toArray.size<=_;simp only [List.size_toArray];unfold maxLen;omega)
 simpa using this
structure jA (M:Nat) (l:List Tm) (w:World):Prop where
 ex:∃D:DataW Unit,w.ownsMap Tryz.prog 9 (plainElem Tryz.prog 4) M l.length D/\∀t,UN t->D.atKey (acV t) (.lit (.bool false))=.lit (.bool (memT l t))
theorem Gh {v:Value} {x:Bool} {ps:List MemPlace} (h:plainElem (H:=Unit) Tryz.prog 4 v=some (.lit (.bool x),ps)):v=.bool x:=by
 have hu:=Tryz.underlying4;revert hu h;unfold plainElem;generalize Tryz.prog.underlying 4=u;rintro h rfl;cases v<;>simp at h
 rw [h.1]
theorem jA.look {M:Nat} {l:List Tm} {w:World} (h:jA M l w) {t:Tm} (ht:UN t):
  Sem.run Tryz.prog (Instr.lookup 146 (.map (some M)) (.string ⟨(oz t).toArray⟩) false) w=.ok (.bool (memT l t)) w:=by
 obtain ⟨D,h1,h2⟩:=h.ex;obtain ⟨v,ps,hrun,hv⟩:=h1.lookup Tryz.aoP Tryz.underlying146 (z:=.bool false) (by kernel_rfl) (plainElem_bool Tryz.underlying4 false) (Tryz.anX ht)
 rw [h2 t ht] at hv;rw [<-Gh hv];exact hrun
theorem jA.kept {M:Nat} {l:List Tm} {w w':World} (h:jA M l w) (hb:w'.heap[M]?=w.heap[M]?):jA M l w':=by obtain ⟨D,⟨es,clock,e1,e2⟩,h2⟩:=h.ex;exact ⟨D,⟨es,clock,by rw [hb];exact e1,e2⟩,h2⟩
theorem jA.put {M:Nat} {l:List Tm} {w':World} {D:DataW Unit} {t:Tm} (ht:UN t) (hm:Maps.IsMap D)
  (hd:∀t,UN t->D.atKey (acV t) (.lit (.bool false))=.lit (.bool (memT l t))) (h1:w'.ownsMap Tryz.prog 9 (plainElem Tryz.prog 4) M (l.length+1) (D.put (acV t) (.lit (.bool true)))):jA M (l++[t]) w':=by
 refine ⟨_,by simpa using h1,fun x hx=>?_⟩
 have hmem:memT (l++[t]) x=(memT l x||nR t x):=by simp [memT]
 rw [hmem];by_cases he:x=t
 ·subst he;rw [atKey_put_same hm (by trivial),zh,Bool.or_true]
 ·rw [atKey_put_other (fun e=>he (key_inj hx.pl ht.pl (by simpa using e))),hd x hx,al5 (fun e=>he e.symm),Bool.or_false]
theorem jA.nil {w:World}:jA w.heap.size [] (w.alloc (.map #[] 0)):=
 ⟨_,World.ownsMap_made _ _ _ _,fun t _=>rfl⟩
def wR (w:World) (g o:Nat):List Value->World
 |[]=>w
 |u::us=>wR (w.setCell ⟨g,o,none⟩ u) g (o+1) us
theorem Wy {a b c:World} {row:Option Nat} (h:a.grownBy b row) (k:b.grownBy c row):a.grownBy c row:=
 ⟨k.os.trans h.os,k.tape.trans h.tape,k.output.trans h.output,E1 h.size k.size,fun j hj hne=>(k.block j (F0 hj h.size) hne).trans (h.block j hj hne)⟩
theorem Gp {B g n cap:Nat}:∀(us zs xs:List Value) (o:Nat) (w:World),w.ownsRow B 44 11 (.slice (some ⟨g,0,none⟩) n cap) n (xs++zs)->xs.length=o->zs.length=us.length->
  (wR w g o us).ownsRow B 44 11 (.slice (some ⟨g,0,none⟩) n cap) n (xs++us)/\w.grownBy (wR w g o us) (some g)/\(wR w g o us).heap.size=w.heap.size
 |[],[],xs,o,w,h,_,_=>⟨h,World.grownBy.refl _ _,rfl⟩
 |[],_::_,_,_,_,_,_,h=>by simp at h
 |_::_,[],_,_,_,_,_,h=>by simp at h
 |u::us,z::zs,xs,o,w,h,ho,hl=>by
  obtain ⟨h1,h2⟩:=h.stored o u;have e:(xs++z::zs).set o u=(xs++[u])++zs:=by
   rw [List.set_append_right _ _ (by omega),ho]
   simp
  rw [e] at h1;obtain ⟨r1,r2,r3⟩:=Gp us zs (xs++[u]) (o+1) _ h1 (by simp [ho]) (by simpa using hl)
  refine ⟨by simpa [wR] using r1,by rw [wR];exact Wy h2 r2,by rw [wR,r3];simp⟩
structure abz (B O g:Nat) (v':Value) (n:Nat) (ys:List Value) (w W:World):Prop where
 os:W.os=w.os
 tape:W.tape=w.tape
 output:W.output=w.output
 size:W.heap.size=w.heap.size
 block:∀k,k < w.heap.size->k≠O->k≠g->W.heap[k]?=w.heap[k]?
 ob:W.heap[O]?=some (.cells #[v'] 27 (0,0))
 row:W.ownsRow B 44 11 v' n ys
theorem an1 {B O g n cap o:Nat} {v:Value} {us zs xs:List Value} {w:World} (hO:w.heap[O]?=some (.cells #[v] 27 (0,0))) (hgO:¬g=O) (h:w.ownsRow B 44 11 (.slice (some ⟨g,0,none⟩) n cap) n (xs++zs)) (hl:zs.length=us.length) (hxo:xs.length=o):
  abz B O g (.slice (some ⟨g,0,none⟩) n cap) n (xs++us) w ((wR w g o us).setCell ⟨O,0,none⟩ (.slice (some ⟨g,0,none⟩) n cap)):=by
 subst hxo;obtain ⟨r1,r2,r3⟩:=Gp us zs xs _ w h rfl hl;have lO:=(Bk.1 hO).1;have hO1:(wR w g xs.length us).heap[O]?=some (.cells #[v] 27 (0,0)):=by rw [r2.block O lO (by simpa using fun e=>hgO e.symm)];exact hO
 refine ⟨r2.os,r2.tape,r2.output,by simp [r3],fun k hk hkO hkg=>?_,one_setCell hO1,ownsRow_setCell_other r1 (by simpa [Value.ownBlock] using hgO) _⟩
 rw [Below.heap_setCell _ _ _ _ hkO,r2.block k hk (by simpa using hkg)]
theorem anV {B O g n cap o:Nat} {v:Value} {us zs xs:List Value} {w:World} (hO:w.heap[O]?=some (.cells #[v] 27 (0,0))) (hgO:¬g=O) (h:w.ownsRow B 44 11 (.slice (some ⟨g,0,none⟩) n cap) n (xs++zs)) (hl:zs.length=us.length) (hxo:xs.length=o):
  abz B O g (.slice (some ⟨g,0,none⟩) n cap) n (xs++us) w (wR (w.setCell ⟨O,0,none⟩ (.slice (some ⟨g,0,none⟩) n cap)) g o us):=by
 subst hxo;have h':=ownsRow_setCell_other h (a:=⟨O,0,none⟩) (by simpa [Value.ownBlock] using hgO) (.slice (some ⟨g,0,none⟩) n cap)
 obtain ⟨r1,r2,r3⟩:=Gp us zs xs _ _ h' rfl hl;have lO:=(Bk.1 hO).1;have hs:(w.setCell ⟨O,0,none⟩ (.slice (some ⟨g,0,none⟩) n cap)).heap.size=w.heap.size:=by simp
 refine ⟨r2.os,r2.tape,r2.output,by rw [r3,hs],fun k hk hkO hkg=>?_,?_,r1⟩
 ·rw [r2.block k (by omega) (by simpa using hkg),Below.heap_setCell _ _ _ _ hkO]
 ·rw [r2.block O (by omega) (by simpa using fun e=>hgO e.symm)];exact one_setCell hO
theorem agM {B O g n cap o:Nat} {v u0 u1 u2 u3 u4 u5 u6 u7 u8 u9 Sl z0 z1 z2 z3 z4 z5 z6 z7 z8 z9 z10:Value} {xs:List Value} {w:World} (hO:w.heap[O]?=some (.cells #[v] 27 (0,0))) (hgO:¬g=O) (h:w.ownsRow B 44 11 (.slice (some ⟨g,0,none⟩) n cap) n (xs++[z0,z1,z2,z3,z4,z5,z6,z7,z8,z9,z10])) (hxo:xs.length=o):
  abz B O g (.slice (some ⟨g,0,none⟩) n cap) n (xs++[u0,u1,u2,u3,u4,u5,u6,u7,u8,u9,Sl]) w ((((((((((((w.setCell ⟨g,o,none⟩ u0).setCell ⟨g,o+1,none⟩ u1).setCell ⟨g,o+2,none⟩ u2).setCell ⟨g,o+3,none⟩ u3).setCell ⟨g,o+4,none⟩ u4).setCell ⟨g,o+5,none⟩ u5).setCell ⟨g,o+6,none⟩ u6).setCell ⟨g,o+7,none⟩ u7).setCell ⟨g,o+8,none⟩ u8).setCell ⟨g,o+9,none⟩ u9).setCell ⟨g,o+10,none⟩ Sl).setCell ⟨O,0,none⟩ (.slice (some ⟨g,0,none⟩) n cap)):=by
 have r:=an1 (us:=[u0,u1,u2,u3,u4,u5,u6,u7,u8,u9,Sl]) hO hgO h rfl hxo;simp only [wR,Nat.add_assoc,Nat.reduceAdd] at r;exact r
theorem ahq {B O g n cap o:Nat} {v u0 u1 u2 u3 u4 u5 u6 u7 u8 u9 Sl z0 z1 z2 z3 z4 z5 z6 z7 z8 z9 z10:Value} {xs:List Value} {w:World} (hO:w.heap[O]?=some (.cells #[v] 27 (0,0))) (hgO:¬g=O) (h:w.ownsRow B 44 11 (.slice (some ⟨g,0,none⟩) n cap) n (xs++[z0,z1,z2,z3,z4,z5,z6,z7,z8,z9,z10])) (hxo:xs.length=o):
  abz B O g (.slice (some ⟨g,0,none⟩) n cap) n (xs++[u0,u1,u2,u3,u4,u5,u6,u7,u8,u9,Sl]) w ((((((((((((w.setCell ⟨O,0,none⟩ (.slice (some ⟨g,0,none⟩) n cap)).setCell ⟨g,o,none⟩ u0).setCell ⟨g,o+1,none⟩ u1).setCell ⟨g,o+2,none⟩ u2).setCell ⟨g,o+3,none⟩ u3).setCell ⟨g,o+4,none⟩ u4).setCell ⟨g,o+5,none⟩ u5).setCell ⟨g,o+6,none⟩ u6).setCell ⟨g,o+7,none⟩ u7).setCell ⟨g,o+8,none⟩ u8).setCell ⟨g,o+9,none⟩ u9).setCell ⟨g,o+10,none⟩ Sl):=by
 have r:=anV (us:=[u0,u1,u2,u3,u4,u5,u6,u7,u8,u9,Sl]) hO hgO h rfl hxo;simp only [wR,Nat.add_assoc,Nat.reduceAdd] at r;exact r
structure Xa (B:Nat) (S:Nat->Nat->Prop) (O M Sn Ad:Nat) (l:List Tm) (v:Value) (w:World):Prop where
 ob:w.heap[O]?=some (.cells #[v] 27 (0,0))
 row:gB B S v l w
 sb:w.heap[Sn]?=some (.cells #[.map (some M)] 146 (0,0))
 ab:w.heap[Ad]?=some (.cells #[.func (.func 108) #[] #[.pointer (some ⟨Sn,0,none⟩),.pointer (some ⟨O,0,none⟩),.pointer (some ⟨Ad,0,none⟩)]] 147 (0,0))
 mp:jA M l w
 leO:B<=O
 leM:B<=M
structure SF (O M:Nat) (v v':Value) (w w':World):Prop where
 os:w'.os=w.os
 tape:w'.tape=w.tape
 output:w'.output=w.output
 size:w.heap.size<=w'.heap.size
 block:∀k,k < w.heap.size->k≠O->k≠M->some k≠v.ownBlock->w'.heap[k]?=w.heap[k]?
 new:∀k,v'.ownBlock=some k->v.ownBlock=some k\/w.heap.size<=k
theorem jA.lt {M:Nat} {l:List Tm} {w:World} (h:jA M l w):M < w.heap.size:=by obtain ⟨D,h1,_⟩:=h.ex;exact h1.lt
theorem Xa.keep {B:Nat} {S:Nat->Nat->Prop} {O M Sn Ad:Nat} {l:List Tm} {v:Value} {w w':World} (h:Xa B S O M Sn Ad l v w) (hb:Below w.heap.size w w'):Xa B S O M Sn Ad l v w':=
 ⟨by rw [hb.block O (Bk.1 h.ob).1];exact h.ob,h.row.kept hb,by rw [hb.block Sn (Bk.1 h.sb).1];exact h.sb,
  by rw [hb.block Ad (Bk.1 h.ab).1];exact h.ab,h.mp.kept (hb.block M h.mp.lt),h.leO,h.leM⟩
theorem l9 {w:World} {B g n cap:Nat} {xs zs:List Value} (h:w.ownsRow B 44 11 (.slice (some ⟨g,0,none⟩) (n+1) cap) (n+1) (xs++zs)) (hx:xs.length=n * 11) {j:Nat} {u:Value} (hj:zs[j]?=some u) (h11:j < 11):w.cell? ⟨g,n * 11+j,none⟩=some u:=by
 rw [h.cellAt (n * 11+j) (by omega),Hv (by omega),hx,Nat.add_sub_cancel_left]
 exact hj
mutual
def Gg (l:List Tm):Tm->List Tm
 |.app p s ts=>cond (memT l (.app p s ts)) l (lq (l++[.app p s ts]) ts)
 |.var p s=>cond (memT l (.var p s)) l (l++[.var p s])
 |.dV o=>cond (memT l (.dV o)) l (l++[.dV o])
def lq (l:List Tm):List Tm->List Tm
 |[]=>l
 |t::ts=>lq (Gg l t) ts
end
theorem Tw {B O T:Nat} {S:Nat->Nat->Prop} {v:Value} {l:List Tm} {w:World} {vs:Array Value} {fz:Nat×Nat} (h:gB B S v l w) (hO:w.heap[O]?=some (.cells vs T fz)) (hT:T≠44):v.ownBlock≠some O:=by
 intro e;obtain ⟨xs,h1,_⟩:=h.row;rcases h1.2 with ⟨rfl,_⟩|⟨g,cap,cur,rfl,hg,hgg,_⟩
 ·simp [Value.ownBlock] at e
 ·have:g=O:=by simpa [Value.ownBlock] using e
  subst this;rw [hgg] at hO;injection hO with hO;injection hO with _ e2 _;exact hT e2.symm
theorem XK {B M:Nat} {S:Nat->Nat->Prop} {v:Value} {l m:List Tm} {w:World} (h:gB B S v l w) (hM:jA M m w):v.ownBlock≠some M:=by
 intro e;obtain ⟨xs,h1,_⟩:=h.row;obtain ⟨D,⟨es,clock,e2,_⟩,_⟩:=hM.ex;rcases h1.2 with ⟨rfl,_⟩|⟨g,cap,cur,rfl,hg,hgg,_⟩
 ·simp [Value.ownBlock] at e
 ·have:g=M:=by simpa [Value.ownBlock] using e
  subst this;rw [hgg] at e2;injection e2 with e2;cases e2
structure G4 (w3 w4:World) (r:Option Nat):Prop where
 os:w4.os=w3.os
 tape:w4.tape=w3.tape
 output:w4.output=w3.output
 size:w3.heap.size+1<=w4.heap.size
 block:∀k,k < w3.heap.size->some k≠r->w4.heap[k]?=w3.heap[k]?
theorem Xa.close {B O M Sn Ad gg cp:Nat} {S:Nat->Nat->Prop} {v:Value} {l:List Tm} {t:Tm} {us xs:List Value} {w3 w4 W:World}
  (hrow3:gB B S v l w3) (hxs:Ey.av (RQ w3 B S) (eZ l) xs) (hus:Ey.av (RQ w3 B S) (aa t) us)
  (hO3:w3.heap[O]?=some (.cells #[v] 27 (0,0))) (hsb:w3.heap[Sn]?=some (.cells #[.map (some M)] 146 (0,0)))
  (hab:w3.heap[Ad]?=some (.cells #[.func (.func 108) #[] #[.pointer (some ⟨Sn,0,none⟩),.pointer (some ⟨O,0,none⟩),.pointer (some ⟨Ad,0,none⟩)]] 147 (0,0)))
  (hmp:jA M (l++[t]) w3) (leO:B<=O) (leM:B<=M)
  (hgrow:G4 w3 w4 v.ownBlock) (hat:v.ownBlock=some gg\/gg=w3.heap.size+1)
  (hf:abz B O gg (.slice (some ⟨gg,0,none⟩) (l.length+1) cp) (l.length+1) (xs++us) w4 W):
  Xa B S O M Sn Ad (l++[t]) (.slice (some ⟨gg,0,none⟩) (l.length+1) cp) W/\SF O M v (.slice (some ⟨gg,0,none⟩) (l.length+1) cp) w3 W:=by
 have hs4:=hgrow.size;have old:∀k,k < w3.heap.size->k≠O->some k≠v.ownBlock->W.heap[k]?=w3.heap[k]?:=fun k hk hkO hkv=>by
  have hkg:k≠gg:=fun e=>hat.elim (fun e2=>hkv (by rw [e2,e])) (fun e2=>by omega)
  rw [hf.block k (by omega) hkO hkg,hgrow.block k hk hkv]
 have lt:∀{k:Nat} {x:Go.Obj},w3.heap[k]?=some x->k < w3.heap.size:=fun h=>(Bk.1 h).1
 have hSO:Sn≠O:=fun e=>by rw [e,hO3] at hsb;injection hsb with hsb;injection hsb with _ e2 _;cases e2
 have hAO:Ad≠O:=fun e=>by rw [e,hO3] at hab;injection hab with hab;injection hab with _ e2 _;cases e2
 have hMO:M≠O:=fun e=>by obtain ⟨D,⟨es,clock,e2,_⟩,_⟩:=hmp.ex;rw [e,hO3] at e2;injection e2 with e2;cases e2
 have Ao:Below B w3 W:=⟨by rw [hf.os,hgrow.os],by rw [hf.tape,hgrow.tape],by rw [hf.output,hgrow.output],by rw [hf.size];omega,
  fun k hk=>old k (by have:=hrow3.le;omega) (by omega) fun e=>by have:=(hrow3.own k e.symm).1;omega⟩
 have hall:=Ey.av.append (qx.keep Ao hxs) (qx.keep Ao hus);refine ⟨⟨hf.ob,⟨⟨xs++us,by simpa using hf.row,?_⟩,E1 hrow3.le Ao.size⟩,?_,?_,hmp.kept (old M hmp.lt hMO fun e=>XK hrow3 hmp e.symm),leO,leM⟩,
  ⟨Ao.os,Ao.tape,Ao.output,Ao.size,fun k hk hkO _ hkv=>old k hk hkO hkv,fun k hk=>?_⟩⟩
 ·rw [show eZ (l++[t])=eZ l++aa t by simp [iG]];exact hall
 ·rw [old Sn (lt hsb) hSO fun e=>Tw hrow3 hsb (by decide) e.symm];exact hsb
 ·rw [old Ad (lt hab) hAO fun e=>Tw hrow3 hab (by decide) e.symm];exact hab
 ·have:gg=k:=by simpa [Value.ownBlock] using hk
  subst this;exact hat.imp id fun e=>by omega
theorem SF.before {O M:Nat} {v v':Value} {w w2 w3 W:World} (bb:Below w.heap.size w w2) (hg:w2.grownBy w3 (some M)) (h:SF O M v v' w3 W):SF O M v v' w W:=
 ⟨by rw [h.os,hg.os,bb.os],by rw [h.tape,hg.tape,bb.tape],by rw [h.output,hg.output,bb.output],E1 bb.size (E1 hg.size h.size),
  fun k hk hO hM hv=>by rw [h.block k (by have:=bb.size;have:=hg.size;omega) hO hM hv,hg.block k (by have:=bb.size;omega) (by simpa using hM),bb.block k hk],
  fun k hk=>(h.new k hk).imp id fun e=>by have:=bb.size;have:=hg.size;omega⟩
theorem jA.aaG {M k T:Nat} {l:List Tm} {w:World} {vs:Array Value} {fz:Nat×Nat} (h:jA M l w) (hk:w.heap[k]?=some (.cells vs T fz)):k≠M:=fun e=>by obtain ⟨D,⟨es,clock,e2,_⟩,_⟩:=h.ex;rw [e,e2] at hk;injection hk with hk;cases hk
theorem Sg (l:List Tm) (t:Tm):Gg l t=cond (memT l t) l (lq (l++[t]) (ai t)):=by cases t<;>simp [Gg,ai,lq]
theorem SF.refl (O M:Nat) (v:Value) (w:World):SF O M v v w w:=⟨rfl,rfl,rfl,An _,fun _ _ _ _ _=>rfl,fun _ h=> .inl h⟩
theorem SF.trans {O M:Nat} {u v x:Value} {w w' w'':World} (h:SF O M u v w w') (k:SF O M v x w' w''):SF O M u x w w'':=
 ⟨k.os.trans h.os,k.tape.trans h.tape,k.output.trans h.output,E1 h.size k.size,fun j hj hO hM hne=>by
  rw [k.block j (F0 hj h.size) hO hM fun e=>(h.new j e.symm).elim (fun e2=>hne e2.symm) fun h2=>absurd h2 (by omega)]
  exact h.block j hj hO hM hne,fun j hj=>(k.new j hj).elim (h.new j) fun h2=> .inr (E1 h.size h2)⟩
theorem SF.dJ {O M:Nat} {v:Value} {w w':World} (h:Below w.heap.size w w'):SF O M v v w w':=⟨h.os,h.tape,h.output,h.size,fun k hk _ _ _=>h.block k hk,fun _ h=> .inl h⟩
theorem SF.below {O M B:Nat} {v v':Value} {w w':World} (h:SF O M v v' w w') (hB:B<=w.heap.size) (hO:B<=O) (hM:B<=M) (hv:∀k,v.ownBlock=some k->B<=k):Below B w w':=
 ⟨h.os,h.tape,h.output,h.size,fun k hk=>h.block k (by omega) (by omega) (by omega) fun e=>by have:=hv k e.symm;omega⟩
theorem Ga:∀(ts l:List Tm) (t:Tm),lq l (ts++[t])=Gg (lq l ts) t
 |[],l,t=>by simp [lq]
 |x::ts,l,t=>by simp only [E3,lq];exact Ga ts _ t
mutual
theorem aep:∀(t:Tm) (l:List Tm),(Gg l t).length<=l.length+ah t
 |.var p s,l=>by rw [Gg,ah];cases memT l (.var p s)<;>simp
 |.dV o,l=>by
  have:=BX o
  rw [Gg,ah];cases memT l (.dV o)<;>simp
  omega
 |.app p s ts,l=>by
  rw [Gg,ah];have:=EN ts (l++[.app p s ts])
  cases memT l (.app p s ts)<;>simp at this |-
  omega
theorem EN:∀(ts l:List Tm),(lq l ts).length<=l.length+au ts
 |[],l=>by simp [lq,au]
 |t::ts,l=>by rw [lq,au];have h1:=EN ts (Gg l t);have h2:=aep t l;omega
end
theorem KN (t:Tm):au (ai t)<=ah t:=by cases t<;>simp [ai,au,ah]
theorem Uz:∀{ts:List Tm},TI ts=true->∀x∈ts,ZH x=true
 |y::ts,h,x,hx=>by
  simp only [TI,A5] at h;rcases D2.1 hx with rfl|hx
  ·exact h.1
  ·exact Uz h.2 x hx
theorem Qp:∀{ts:List Tm},P8 ts->∀x∈ts,FB x
 |y::ts,h,x,hx=>by
  rcases D2.1 hx with rfl|hx
  ·exact h.1
  ·exact Qp h.2 x hx
theorem UN.args {t:Tm} (h:UN t):∀x∈ai t,UN x:=by
 cases t with
 |var p s=>intro x hx;cases hx
 |dV o=>intro x hx;cases hx
 |app p s ts=>
  intro x hx;have h1:=h.pl;simp only [ZH,A5] at h1;have h2:=h.nd;have h3:=nC (show x∈ts from hx)
  simp only [ah] at h2;exact ⟨Uz h1.2 x hx,Qp h.qk.2.2.2 x hx,by omega⟩
def aa0 (B:Nat) (S:Nat->Nat->Prop) (O M Sn Ad:Nat) (t:Tm):Prop:=∀(l:List Tm) (v:Value) (us:List Value) (w:World),Xa B S O M Sn Ad l v w->keeps.Inv B w->UN t->l.length+ah t<=90000->Ey.av (RQ w B S) (aa t) us->
    Calls Tryz.prog 108 #[.agg us.toArray,.pointer (some ⟨Sn,0,none⟩),.pointer (some ⟨O,0,none⟩),.pointer (some ⟨Ad,0,none⟩)] w fun e w'=>e=.returned (.tuple #[])/\∃v',Xa B S O M Sn Ad (Gg l t) v' w'/\SF O M v v' w w'
theorem aa0.use {B:Nat} {S:Nat->Nat->Prop} {O M Sn Ad:Nat} {t:Tm} (h:aa0 B S O M Sn Ad t) {l:List Tm} {v:Value} {us:List Value} {w:World} (h1:Xa B S O M Sn Ad l v w) (hk:keeps.Inv B w) (hok:UN t) (hn:l.length+ah t<=90000) (hu:Ey.av (RQ w B S) (aa t) us):
  Calls Tryz.prog 108 #[.agg us.toArray,.pointer (some ⟨Sn,0,none⟩),.pointer (some ⟨O,0,none⟩),.pointer (some ⟨Ad,0,none⟩)] w fun e w'=>e=.returned (.tuple #[])/\∃v',Xa B S O M Sn Ad (Gg l t) v' w'/\SF O M v v' w w':=h l v us w h1 hk hok hn hu
attribute [local go_sem ↓] Go.wp_at_zero Go.wp_at_succ
theorem Tryz.akt (B:Nat) (S:Nat->Nat->Prop) (O M Sn Ad:Nat) (t:Tm) (ih:∀x∈ai t,aa0 B S O M Sn Ad x):aa0 B S O M Sn Ad t:=by
 intro l v us w h hk hok hn hu;have hu0:=hu;obtain ⟨k3,k4,k5,k6,k7,k8,kp,kl,kc,kq,kd,rfl⟩:=abt (qx.rb hu);have hargs:su B S (ai t) kq w:=by
  cases t with
  |var p s=>exact ⟨fun h=>absurd h (by simp [ai])⟩
  |dV o=>exact ⟨fun h=>absurd h (by simp [ai])⟩
  |app p s ts=>exact (argsAt hu.2.2.2.2.2.2.2.2.2.2.1).2
 obtain ⟨a,ha⟩:∃a,Hid (a=(aN t).1):=⟨_,⟨rfl⟩⟩;obtain ⟨b,hb⟩:∃b,Hid (b=(aN t).2):=⟨_,⟨rfl⟩⟩;obtain ⟨c,hcc⟩:∃c,Hid (c=fZ t):=⟨_,⟨rfl⟩⟩;rw [<-ha.h,<-hb.h,<-hcc.h] at hu0 |-;clear hu;obtain ⟨ao,cap,rfl,hao⟩:=h.row.shape;obtain ⟨w1,hw1⟩:∃w1,w1=w.alloc (.cells #[.int .i64 c,.string a,.string b,.int .i64 k3,.string k4,.string k5,.string k6,.string k7,.string k8,.slice kp kl kc,.slice kq (F5 t) kd] 44):=⟨_,rfl⟩;have b1:Below w.heap.size w w1:=by rw [hw1];exact (Below.refl _ w).alloc (An _) _
 have hs1:w1.heap.size=w.heap.size+1:=by rw [hw1];simp
 have hc:w1.heap[w.heap.size]?=some (.cells #[.int .i64 c,.string a,.string b,.int .i64 k3,.string k4,.string k5,.string k6,.string k7,.string k8,.slice kp kl kc,.slice kq (F5 t) kd] 44):=by
  rw [hw1];show (w.heap.push _)[w.heap.size]?=_
  simp
 have h1:=h.keep b1;have hk1:keeps.Inv w1.heap.size w1:=keeps.mono h1.row.le (keeps.keep (b1.mono h.row.le) hk);have hnd:=hok.nd;have hnp:=dY t;have c1:=Tryz.as5 t _ w1 hok.qk (by omega) hk1.2 (hu0.mono fun c u hr=>bJ.mono (fun k o v hcc hkk=>⟨by rw [b1.cell (show k < w.heap.size from F0 hkk.1 h.row.le)];exact hcc,F0 hkk.1 (E1 h.row.le b1.size)⟩) c u hr)
 obtain ⟨kt,hkt⟩:∃kt,Hid (kt=(⟨(oz t).toArray⟩:ByteArray)):=⟨_,⟨rfl⟩⟩;rw [<-hkt.h] at c1;go_enter Tryz.func108,Tryz.ntmps108;go_wp2_with (go_at_call 109;rw [<-hw1];refine c1.mono ?_);rintro e w2 ⟨rfl,b2⟩;have h2:=h1.keep b2;have hlk:=h2.mp.look hok;rw [<-hkt.h] at hlk;have hsn:=cell_of_one h2.sb;have bb0:=b1.trans (b2.mono b1.size);cases hM:memT l t with
 |true=>
  rw [hM] at hlk;go_wp2;refine bodyPost_ret (results_none rfl _ _ _) rfl ?_;exact ⟨rfl,_,by rw [Sg,hM];exact h2,SF.dJ bb0⟩
 |false=>
  rw [hM] at hlk;obtain ⟨D,hD1,hD2⟩:=h2.mp.ex;go_wp2_with (first
   |(at_mapUpdate;refine wpList_mapUpdate_own _ rfl _ _ _ 146 rfl 9 4 Tryz.aoP Tryz.underlying146 _ M l.length D rfl hD1 (by unfold maxLen;omega) _ _ (acV t) rfl rfl (by rw [hkt.h];exact Tryz.anX hok) _ [] (plainElem_bool Tryz.underlying4 true) ?_)
   |go_in)
  intro w3 hD3 hg3;have lO:=(Bk.1 h2.ob).1;have hMO:O≠M:=fun e=>by
   obtain ⟨es,clock,e1,_⟩:=hD1;have:=h2.ob
   rw [e,e1] at this;injection this with this;cases this
  have hO3:w3.heap[O]?=some (.cells #[.slice ao l.length cap] 27 (0,0)):=by rw [hg3.block O lO (by simpa using hMO)];exact h2.ob
  have anA:w2.heap[w.heap.size]?=some (.cells #[.int .i64 c,.string a,.string b,.int .i64 k3,.string k4,.string k5,.string k6,.string k7,.string k8,.slice kp kl kc,.slice kq (F5 t) kd] 44):=by rw [b2.block _ (by omega)];exact hc
  have hbM:M≠w.heap.size:=fun e=>by have:=h.mp.lt;omega
  have ahI:w3.heap[w.heap.size]?=some (.cells #[.int .i64 c,.string a,.string b,.int .i64 k3,.string k4,.string k5,.string k6,.string k7,.string k8,.slice kp kl kc,.slice kq (F5 t) kd] 44):=by rw [hg3.block _ (by have:=b2.size;omega) (by simpa using hbM.symm)];exact anA
  have hrow3:gB B S (.slice ao l.length cap) l w3:=by
   obtain ⟨xs,ho,hxs⟩:=h2.row.row;have hvm:(Value.slice ao l.length cap).ownBlock≠some M:=fun e=>by
    rcases ho.2 with ⟨e1,_⟩|⟨g,cap',cur,e1,_,hgg,_⟩
    ·rw [e1] at e;simp [Value.ownBlock] at e
    ·rw [e1] at e;have:g=M:=by simpa [Value.ownBlock] using e
     subst this;obtain ⟨es,clock,e2,_⟩:=hD1;rw [hgg] at e2;injection e2 with e2;cases e2
   exact ⟨⟨xs,ho.kept hg3 (.inr (by exact hvm)),qx.keep ⟨hg3.os,hg3.tape,hg3.output,hg3.size,fun k hk=>hg3.block k (by have:=h2.row.le;omega) (by have:=h.leM;simp;omega)⟩ hxs⟩,E1 h2.row.le hg3.size⟩
  have hOc:=cell_of_one hO3;have hOf:=free_of_one hO3;obtain ⟨f0,f1,f2,f3,f4,f5,f6,f7,f8,f9,f10⟩:=amk ahI;obtain ⟨i0,hi,hz0,hz1,hz2⟩:=info_parts Tryz.J8;obtain ⟨xs,ho,hxs⟩:=hrow3.row;have hvO:(Value.slice ao l.length cap).ownBlock≠some O:=Tw hrow3 hO3 (by decide)
  have hvX:(Value.slice ao l.length cap).ownBlock≠some w.heap.size:=fun e=>by have:=(h.row.own _ e).2;omega
  have asM:Hid (w3.heap[Sn]?=some (.cells #[.map (some M)] 146 (0,0))):=⟨(hg3.block Sn (Bk.1 h2.sb).1 (by simpa using h2.mp.aaG h2.sb)).trans h2.sb⟩
  have arl:Hid (w3.heap[Ad]?=some (.cells #[.func (.func 108) #[] #[.pointer (some ⟨Sn,0,none⟩),.pointer (some ⟨O,0,none⟩),.pointer (some ⟨Ad,0,none⟩)]] 147 (0,0))):=⟨(hg3.block Ad (Bk.1 h2.ab).1 (by simpa using h2.mp.aaG h2.ab)).trans h2.ab⟩
  have at7:Hid (jA M (l++[t]) w3):=⟨jA.put hok hD1.isMap hD2 hD3⟩;have bb2:Hid (Below w.heap.size w w2):=⟨bb0⟩;have arM:Hid (Ey.av (RQ w3 B S) (aa t) [.int .i64 c,.string a,.string b,.int .i64 k3,.string k4,.string k5,.string k6,.string k7,.string k8,.slice kp kl kc,.slice kq (F5 t) kd]):=⟨qx.keep ((bb2.h.mono h.row.le).trans ⟨hg3.os,hg3.tape,hg3.output,hg3.size,fun k hk=>hg3.block k (by have:=h2.row.le;omega) (by have:=h.leM;simp;omega)⟩) hu0⟩
  have asv:Hid (Ey.av (RQ w3 B S) (eZ l) xs):=⟨hxs⟩;have alD:Hid (gB B S (.slice ao l.length cap) l w3):=⟨hrow3⟩;have hg3':Hid (w2.grownBy w3 (some M)):=⟨hg3⟩;have an5:Hid (w3.heap[w.heap.size]?=some (.cells #[.int .i64 c,.string a,.string b,.int .i64 k3,.string k4,.string k5,.string k6,.string k7,.string k8,.slice kp kl kc,.slice kq (F5 t) kd] 44)):=⟨ahI⟩;have leO:Hid (B<=O):=⟨h.leO⟩;have leM:Hid (B<=M):=⟨h.leM⟩;have h':Hid (Xa B S O M Sn Ad l (.slice ao l.length cap) w):=⟨h⟩;have hargs':Hid (su B S (ai t) kq w):=⟨hargs⟩;have hk':Hid (keeps.Inv B w):=⟨hk⟩;have ih':Hid (∀x∈ai t,aa0 B S O M Sn Ad x):=⟨ih⟩;have lX:w.heap.size < w3.heap.size:=(Bk.1 ahI).1;have lO3:O < w3.heap.size:=(Bk.1 hO3).1;have lOw:=(Bk.1 h.ob).1;have lB:=hrow3.le;clear hu0 hlk hsn hD1 hD2 hD3 h1 h2 c1 hxs hrow3 hg3 ahI anA h hargs hk ih b1 b2 bb0 hc hk1 hao hw1 lO;have hOX:¬O=w.heap.size:=by omega
  have hXO:¬w.heap.size=O:=by omega
  have hxl:xs.length=l.length * 11:=ho.1;have hx0:(0:Int)<=(l.length:Int):=Int.natCast_nonneg _;have hx1:(l.length:Int) < (l.length:Int)+1:=by omega
  have hclose:Hid (∀(gg cp:Nat) (w4 W:World),G4 w3 w4 (Value.slice ao l.length cap).ownBlock->((Value.slice ao l.length cap).ownBlock=some gg\/gg=w3.heap.size+1)->abz B O gg (.slice (some ⟨gg,0,none⟩) (l.length+1) cp) (l.length+1) (xs++[.int .i64 c,.string a,.string b,.int .i64 k3,.string k4,.string k5,.string k6,.string k7,.string k8,.slice kp kl kc,.slice kq (F5 t) kd]) w4 W->
    Xa B S O M Sn Ad (l++[t]) (.slice (some ⟨gg,0,none⟩) (l.length+1) cp) W/\SF O M (.slice ao l.length cap) (.slice (some ⟨gg,0,none⟩) (l.length+1) cp) w W/\W.heap[w.heap.size]?=some (.cells #[.int .i64 c,.string a,.string b,.int .i64 k3,.string k4,.string k5,.string k6,.string k7,.string k8,.slice kp kl kc,.slice kq (F5 t) kd] 44)/\(Value.slice (some ⟨gg,0,none⟩) (l.length+1) cp).ownBlock≠some w.heap.size):=⟨fun gg cp w4 W hgr hat hf=>by
   obtain ⟨r1,r2⟩:=Xa.close alD.h asv.h arM.h hO3 asM.h arl.h at7.h leO.h leM.h hgr hat hf;exact ⟨r1,SF.before bb2.h hg3'.h r2,by rw [r2.block _ lX hXO (fun e=>hbM e.symm) (fun e=>hvX e.symm)];exact an5.h,fun e=>by
    have e2:gg=w.heap.size:=by simpa [Value.ownBlock] using e
    subst e2;exact hat.elim (fun e3=>hvX e3) (fun e3=>by omega)⟩⟩
  go_upto_region 4 with fail
  go_cut [] (fun wx=>∃v',Xa B S O M Sn Ad (l++[t]) v' wx/\SF O M (.slice ao l.length cap) v' w wx/\wx.heap[w.heap.size]?=some (.cells #[.int .i64 c,.string a,.string b,.int .i64 k3,.string k4,.string k5,.string k6,.string k7,.string k8,.slice kp kl kc,.slice kq (F5 t) kd] 44)/\v'.ownBlock≠some w.heap.size)
  case first=>
   go_region_law
    ((refine step_append_lies _ (by rfl) _ _ _ (by rfl) B 44 i0 _ 11 176 Tryz.underlying27 hi hz0 hz1 hz2 rfl (by omega) (.slice ao l.length cap) l.length xs (by rfl) ((ho.alloc _).drew)
       ⟨w3.heap.size,0,none⟩ 1 1 [.int .i64 0,.string ⟨#[]⟩,.string ⟨#[]⟩,.int .i64 0,.string ⟨#[]⟩,.string ⟨#[]⟩,.string ⟨#[]⟩,.string ⟨#[]⟩,.string ⟨#[]⟩,.slice none 0 0,.slice none 0 0] (by rfl) (by rfl) (World.news_of_block (cs:=#[.int .i64 0,.string ⟨#[]⟩,.string ⟨#[]⟩,.int .i64 0,.string ⟨#[]⟩,.string ⟨#[]⟩,.string ⟨#[]⟩,.string ⟨#[]⟩,.string ⟨#[]⟩,.slice none 0 0,.slice none 0 0]) (t:=44) (fr:=(0,0)) (heap_alloc_new w3 _)) (by simp [Value.oneCell'])
       (by omega) (by unfold maxLen;omega) (by omega) (by simp;omega) (w3.heap.size+1) (by simp) ?_;intro gg cp w4 Mc hgrow hat hlt;have hO4:w4.heap[O]?=some (.cells #[.slice ao l.length cap] 27 (0,0)):=((hgrow.block O (by simp;omega) (fun e=>hvO e.symm)).trans ((((Below.refl w3.heap.size w3).alloc (An _) _).block O lO3).trans hO3));have auI:=cell_of_one hO4;have auA:=free_of_one hO4;have hgX:¬gg=w.heap.size:=(fun e=>hat.elim (fun e2=>hvX (by rw [e2,e])) (fun e2=>by omega));have hgO:¬gg=O:=(fun e=>hat.elim (fun e2=>hvO (by rw [e2,e])) (fun e2=>by omega));have hG:Hid (G4 w3 w4 (Value.slice ao l.length cap).ownBlock):=⟨⟨hgrow.os,hgrow.tape,hgrow.output,E1 (by simp) hgrow.size,fun k hk hne=>(hgrow.block k (by simp;omega) hne).trans (((Below.refl w3.heap.size w3).alloc (An _) _).block k hk)⟩⟩;have y0:w4.cell? ⟨gg,l.length * 11,none⟩=some (.int .i64 0):=l9 Mc hxl (j:=0) rfl (by omega);have y1:w4.cell? ⟨gg,l.length * 11+1,none⟩=some (.string ⟨#[]⟩):=l9 Mc hxl (j:=1) rfl (by omega);have y2:w4.cell? ⟨gg,l.length * 11+2,none⟩=some (.string ⟨#[]⟩):=l9 Mc hxl (j:=2) rfl (by omega);have y3:w4.cell? ⟨gg,l.length * 11+3,none⟩=some (.int .i64 0):=l9 Mc hxl (j:=3) rfl (by omega);have y4:w4.cell? ⟨gg,l.length * 11+4,none⟩=some (.string ⟨#[]⟩):=l9 Mc hxl (j:=4) rfl (by omega);have y5:w4.cell? ⟨gg,l.length * 11+5,none⟩=some (.string ⟨#[]⟩):=l9 Mc hxl (j:=5) rfl (by omega);have y6:w4.cell? ⟨gg,l.length * 11+6,none⟩=some (.string ⟨#[]⟩):=l9 Mc hxl (j:=6) rfl (by omega);have y7:w4.cell? ⟨gg,l.length * 11+7,none⟩=some (.string ⟨#[]⟩):=l9 Mc hxl (j:=7) rfl (by omega);have y8:w4.cell? ⟨gg,l.length * 11+8,none⟩=some (.string ⟨#[]⟩):=l9 Mc hxl (j:=8) rfl (by omega);have y9:w4.cell? ⟨gg,l.length * 11+9,none⟩=some (.slice none 0 0):=l9 Mc hxl (j:=9) rfl (by omega);have y10:w4.cell? ⟨gg,l.length * 11+10,none⟩=some (.slice none 0 0):=l9 Mc hxl (j:=10) rfl (by omega);have z0:=Mc.frozenAt (l.length * 11);have z1:=Mc.frozenAt (l.length * 11+1);have z2:=Mc.frozenAt (l.length * 11+2);have z3:=Mc.frozenAt (l.length * 11+3);have z4:=Mc.frozenAt (l.length * 11+4);have z5:=Mc.frozenAt (l.length * 11+5);have z6:=Mc.frozenAt (l.length * 11+6);have z7:=Mc.frozenAt (l.length * 11+7);have z8:=Mc.frozenAt (l.length * 11+8);have z9:=Mc.frozenAt (l.length * 11+9);have z10:=Mc.frozenAt (l.length * 11+10)))
   all_goals
    (go_wp2_with fail
     go_meet;refine ⟨(.slice (some ⟨gg,0,none⟩) (l.length+1) cp),hclose.h gg cp w4 _ hG.h hat ?_⟩
     with_reducible first|exact agM hO4 hgO Mc hxl|exact ahq hO4 hgO Mc hxl)
  case rest=>
   obtain ⟨v4,hf4,hs4,hb4,hv4⟩:=hcut;have g0:wc.cell? ⟨w.heap.size,0,none⟩=some (.int .i64 c):=by simp only [World.cell?,hb4];rfl
   have g10:wc.cell? ⟨w.heap.size,10,none⟩=some (.slice kq (F5 t) kd):=by simp only [World.cell?,hb4];rfl
   clear hOc hOf f0 f1 f2 f3 f4 f5 f6 f7 f8 f9 f10 ho hO3 hi hz0 hz1 hz2;by_cases h3:c=3
   ·have hl3:F5 t<=3000:=by
     have e1:=lZ (ai t);have e2:=KN t
     rw [QA] at e1;omega
    subst h3;obtain ⟨LT,hLT⟩:∃n:Nat,Hid (n=F5 t):=⟨_,⟨rfl⟩⟩;rw [<-hLT.h] at g10 hl3 hb4;have hAL:Hid ((ai t).length=LT):=⟨by rw [QA,hLT.h]⟩
    go_wp2;go_loopw [27] (fun i wy=>∃(kk:Nat) (vz:Value),kk<=LT/\i=.int .i64 kk/\Xa B S O M Sn Ad (lq (l++[t]) ((ai t).take kk)) vz wy/\SF O M v4 vz wc wy) (fun i _=>LT - (intOf i).toNat)
    case atStart=>exact ⟨0,v4,Fl _,rfl,by simpa [lq] using hf4,SF.refl _ _ _ _⟩
    case round=>
     obtain ⟨kk,vz,hkk,rfl,hfz,hsz⟩:=hrel;have sfz:SF O M (.slice ao l.length cap) vz w wr:=hs4.trans hsz;have yj:Below B w wr:=sfz.below h'.h.row.le leO.h leM.h fun j hj=>(h'.h.row.own j hj).1
     have hbr:wr.heap[w.heap.size]?=some (.cells #[.int .i64 3,.string a,.string b,.int .i64 k3,.string k4,.string k5,.string k6,.string k7,.string k8,.slice kp kl kc,.slice kq (LT) kd] 44):=by
      rw [hsz.block w.heap.size (by have:=(Bk.1 hb4).1;exact this) hXO (fun e=>hbM e.symm) fun e=>hv4 e.symm]
      exact hb4
     have hAd:=cell_of_one hfz.ab;have hAl:Ad < wr.heap.size:=(Bk.1 hfz.ab).1;by_cases hx2:kk < LT
     ·obtain ⟨y,hyk⟩:∃y,(ai t)[kk]?=some y:=⟨_,A6 (by rw [hAL.h];exact hx2)⟩
      have hym:=C3 hyk;obtain ⟨bk,o,Fp,rfl,hyu,KQ⟩:=hargs'.h.get yj hyk;obtain ⟨y0,y1,y2,y3,y4,y5,y6,y7,y8,yp,yl,yc,yq,ym,yd,rfl⟩:=bL (qx.rb hyu);obtain ⟨e0,e1,e2,e3,e4,e5,e6,e7,e8,e9,e10⟩:=SY KQ;clear KQ;obtain ⟨wb,hwb⟩:∃wb,wb=wr.alloc (.cells #[.int .i64 y0,.string y1,.string y2,.int .i64 y3,.string y4,.string y5,.string y6,.string y7,.string y8,.slice yp yl yc,.slice yq ym yd] 44):=⟨_,rfl⟩;have bb:Below wr.heap.size wr wb:=by rw [hwb];exact (Below.refl _ wr).alloc (An _) _
      have hn1:=mg hyk;have hn2:=EN ((ai t).take kk) (l++[t]);have hn3:=KN t;have hn4:(l++[t]).length=l.length+1:=by simp
      have hn5:au (ai t)+1<=ah t:=by
       have:=dY t
       cases t with
       |var p s=>simp [ai,au,ah]
       |dV o=>have:=BX o;simp [ai,au,ah];omega
       |app p s ts=>simp [ai,au,ah];omega
      have c2:=(ih'.h y hym).use (hfz.keep bb) (keeps.keep (yj.trans (bb.mono hfz.row.le)) hk'.h) (hok.args y hym) (by omega) (qx.keep (bb.mono hfz.row.le) hyu)
      go_wp2_with (go_at_call 108;rw [<-hwb];refine c2.mono ?_);rintro e w5 ⟨rfl,v5,hf5,hs5⟩;go_wp2;go_roundw
      case rel=>exact ⟨kk+1,v5,by omega,by simp,by rw [jD hyk,Ga];exact hf5,hsz.trans ((SF.dJ bb).trans hs5)⟩
      case measure=>simp [intOf];omega
     ·obtain rfl:kk=LT:=by omega
      rw [<-hAL.h,Ge] at hfz;go_wp2;go_end0;exact ⟨rfl,vz,by rw [Sg,hM];exact hfz,sfz⟩
   ·have hA0:ai t=[]:=by
     cases t with
     |var p s=>rfl
     |dV o=>rfl
     |app p s ts=>exact absurd hcc.h h3
    go_wp2;go_end0;exact ⟨rfl,v4,by rw [Sg,hM,hA0];simpa [lq] using hf4,hs4⟩
theorem Tryz.apd (B:Nat) (S:Nat->Nat->Prop) (O M Sn Ad:Nat):∀t:Tm,aa0 B S O M Sn Ad t
 |.var p s=>Tryz.akt B S O M Sn Ad _ fun x hx=>by cases hx
 |.dV o=>Tryz.akt B S O M Sn Ad _ fun x hx=>by cases hx
 |.app p s ts=>Tryz.akt B S O M Sn Ad _ fun x (hx:x∈ts)=>Tryz.apd B S O M Sn Ad x
theorem Bq {l:List Tm} {t:Tm}:memT l t=true↔t∈l:=by
 rw [memT,Ix];constructor
 ·rintro ⟨x,hx,h⟩;rw [<-NM h];exact hx
 ·exact fun h=>⟨t,h,zh t⟩
mutual
def Qg (l:List Tm):Tm->Prop
 |.var p s=> .var p s∈l
 |.dV o=> .dV o∈l
 |.app p s ts=> .app p s ts∈l/\JB l ts
def JB (l:List Tm):List Tm->Prop
 |[]=>True
 |t::ts=>Qg l t/\JB l ts
end
mutual
theorem yo {l m:List Tm} (h:∀x∈l,x∈m):∀{t:Tm},Qg l t->Qg m t
 |.var p s,ht=>h _ ht
 |.dV o,ht=>h _ ht
 |.app p s ts,ht=>⟨h _ ht.1,MU h ht.2⟩
theorem MU {l m:List Tm} (h:∀x∈l,x∈m):∀{ts:List Tm},JB l ts->JB m ts
 |[],_=>trivial
 |_::_,ht=>⟨yo h ht.1,MU h ht.2⟩
end
mutual
theorem aeH {l:List Tm}:∀{t:Tm},Qg l t->lg l t=l
 |.var p s,h=>by rw [lg,Bq.2 h];rfl
 |.dV o,h=>by rw [lg,Bq.2 h];rfl
 |.app p s ts,h=>by rw [lg,Bq.2 h.1,F1];exact JL h.2
theorem JL {l:List Tm}:∀{ts:List Tm},JB l ts->fG l ts=l
 |[],_=>by rw [fG]
 |t::ts,h=>by rw [fG,aeH h.1];exact JL h.2
end
def aiu (n:Nat) (l:List Tm):Prop:=∀x∈l,ah x < n->Qg l x
structure ap2 (n b:Nat) (l r:List Tm):Prop where
 inv:aiu n r
 le:∀x∈l,x∈r
 new:∀x∈r,x∈l\/ah x<=b
mutual
theorem adk:∀(t:Tm) (n:Nat) (l:List Tm),aiu n l->ah t < n->Gg l t=lg l t/\ap2 n (ah t) l (lg l t)/\Qg (lg l t) t
 |.var p s,n,l,hl,hn=>by
  rw [Gg,lg];refine ⟨rfl,?_⟩;cases h:memT l (.var p s) with
  |true=>exact ⟨⟨hl,fun x hx=>hx,fun x hx=> .inl hx⟩,Bq.1 h⟩
  |false=>
   refine ⟨⟨fun x hx hxn=>?_,fun x hx=>F2 _ hx,fun x hx=>?_⟩,show _∈_ from G2 _ Fk⟩
   ·rcases B0.1 hx with hx|hx
    ·exact yo (fun y hy=>F2 _ hy) (hl x hx hxn)
    ·rw [B8.1 hx];exact show _∈_ from G2 _ Fk
   ·rcases B0.1 hx with hx|hx
    ·exact .inl hx
    ·rw [B8.1 hx];exact .inr (An _)
 |.dV o,n,l,hl,hn=>by
  rw [Gg,lg];refine ⟨rfl,?_⟩;cases h:memT l (.dV o) with
  |true=>exact ⟨⟨hl,fun x hx=>hx,fun x hx=> .inl hx⟩,Bq.1 h⟩
  |false=>
   refine ⟨⟨fun x hx hxn=>?_,fun x hx=>F2 _ hx,fun x hx=>?_⟩,show _∈_ from G2 _ Fk⟩
   ·rcases B0.1 hx with hx|hx
    ·exact yo (fun y hy=>F2 _ hy) (hl x hx hxn)
    ·rw [B8.1 hx];exact show _∈_ from G2 _ Fk
   ·rcases B0.1 hx with hx|hx
    ·exact .inl hx
    ·rw [B8.1 hx];exact .inr (An _)
 |.app p s ts,n,l,hl,hn=>by
  rw [Gg,lg];cases h:memT l (.app p s ts) with
  |true=>
   have hf:=hl _ (Bq.1 h) hn;rw [F1,F1,JL hf.2];exact ⟨rfl,⟨hl,fun x hx=>hx,fun x hx=> .inl hx⟩,hf⟩
  |false=>
   rw [Ek,Ek];have hs:au ts < ah (.app p s ts):=by simp only [ah];omega
   have h0:aiu (ah (.app p s ts)) (l++[.app p s ts]):=fun x hx hxn=>by
    rcases B0.1 hx with hx|hx
    ·exact yo (fun y hy=>F2 _ hy) (hl x hx (by omega))
    ·rw [B8.1 hx] at hxn;exact absurd hxn (Nat.lt_irrefl _)
   obtain ⟨h1,h2,h3⟩:=JV ts (ah (.app p s ts)) (l++[.app p s ts]) h0 hs;have hme:Tm.app p s ts∈fG (l++[.app p s ts]) ts:=h2.le _ (G2 _ Fk);refine ⟨h1,⟨fun x hx hxn=>?_,fun x hx=>h2.le x (F2 _ hx),fun x hx=>?_⟩,⟨hme,h3⟩⟩
   ·rcases h2.new x hx with hx'|hx'
    ·rcases B0.1 hx' with hx'|hx'
     ·exact yo (fun y hy=>h2.le y (F2 _ hy)) (hl x hx' hxn)
     ·rw [B8.1 hx'];exact ⟨hme,h3⟩
    ·exact h2.inv x hx (by omega)
   ·rcases h2.new x hx with hx'|hx'
    ·rcases B0.1 hx' with hx'|hx'
     ·exact .inl hx'
     ·rw [B8.1 hx'];exact .inr (An _)
    ·exact .inr (by omega)
theorem JV:∀(ts:List Tm) (n:Nat) (l:List Tm),aiu n l->au ts < n->lq l ts=fG l ts/\ap2 n (au ts) l (fG l ts)/\JB (fG l ts) ts
 |[],n,l,hl,_=>by rw [lq,fG];exact ⟨rfl,⟨hl,fun x hx=>hx,fun x hx=> .inl hx⟩,trivial⟩
 |t::ts,n,l,hl,hn=>by
  have hn':ah t+au ts=au (t::ts):=by simp [au]
  obtain ⟨h1,h2,h3⟩:=adk t n l hl (by omega)
  obtain ⟨g1,g2,g3⟩:=JV ts n (lg l t) h2.inv (by omega)
  rw [lq,fG,h1];refine ⟨g1,⟨g2.inv,fun x hx=>g2.le x (h2.le x hx),fun x hx=>?_⟩,⟨yo g2.le h3,g3⟩⟩
  rcases g2.new x hx with hx|hx
  ·rcases h2.new x hx with hx|hx
   ·exact .inl hx
   ·exact .inr (by omega)
  ·exact .inr (by omega)
end
theorem an6 (ts:List Tm):lq [] ts=fG [] ts:=(JV ts (au ts+1) [] (fun x hx=>by cases hx) (by omega)).1
end Go.Proofs
namespace Go.Ey.Pr
open Seat RowKit Proofs
def qL:List ByteArray:=dw::usr::akV::ahG::tB::⟨#[]⟩::⟨#[112]⟩::⟨#[112,113]⟩::⟨#[97]⟩::⟨#[98]⟩::⟨#[99]⟩::(aff++(aje++agI))
theorem aru (T:Lib.PrintTabs):qL.map (fun s=>strOfNums (Lib.quoteZ T s))=qL.map (fun s=>(⟨(qB s).toArray⟩:ByteArray)):=by kernel_rfl
theorem arW:qL.all (fun s=>decide (s.size<=200) && OY 34 s)=true:=by kernel_rfl
theorem FV {s:ByteArray} (h:s∈qL):OJ s/\OY 34 s=true:=by have h1:=D0.1 arW s h;simp only [A5,G0] at h1;exact ⟨⟨h1.1,fun T=>List.map_inj_left.1 (aru T) s h⟩,h1.2⟩
def aiS:Ob->Bool
 |.num n d=>decide (n.size<=200) && (decide (d.size<=200) && (OY 47 n && OY 32 d))
 |.sy p s=>qL.any (fun x=>decide (x=p)) && qL.any fun x=>decide (x=s)
 |.st t=>qL.any fun x=>decide (x=t)
 |.cons _ _=>false
theorem Gl:atoms.all aiS=true:=by kernel_rfl
theorem Yt {s:ByteArray} (h:(qL.any fun x=>decide (x=s))=true):s∈qL:=by obtain ⟨x,hx,h1⟩:=Ix.1 h;rw [<-of_decide_eq_true h1];exact hx
theorem SX {o:Ob} (h:aiS o=true):plO o=true/\O6 o:=by
 cases o with
 |num n d=>
  simp only [aiS,A5,G0] at h;exact ⟨by simp only [plO,A5];exact ⟨h.2.2.1,h.2.2.2⟩,h.1,h.2.1⟩
 |sy p s=>
  simp only [aiS,A5] at h;have h1:=FV (Yt h.1);have h2:=FV (Yt h.2);exact ⟨by simp only [plO,A5];exact ⟨h1.2,h2.2⟩,h1.1,h2.1⟩
 |st t=>
  have h1:=FV (Yt h);exact ⟨h1.2,h1.1⟩
 |cons a b=>cases h
theorem Y7:∀o:Ob,Good o->plO o=true/\O6 o
 |.cons a b,h=>by have h1:=Y7 a h.1;have h2:=Y7 b h.2;exact ⟨by simp only [plO,A5];exact ⟨h1.1,h2.1⟩,h1.2,h2.2⟩
 |.num n d,h=>SX (D0.1 Gl _ h)
 |.sy p s,h=>SX (D0.1 Gl _ h)
 |.st t,h=>SX (D0.1 Gl _ h)
theorem ai3 {p s:ByteArray} (h:(p,s)∈names):p∈qL/\s∈qL:=by
 rw [names,B0,J0,J0] at h;rcases h with ⟨x,hx,he⟩|⟨x,hx,he⟩
 ·cases he;exact ⟨Fk,by simp only [qL,D2,B0];simp only [hx,true_or,or_true]⟩
 ·cases he;exact ⟨Fm _ Fk,by simp only [qL,D2,B0];simp only [hx,true_or,or_true]⟩
mutual
theorem acF:∀t:Tm,okD t->ZH t=true/\FB t
 |.var p s,h=>by
  have h1:=FV (s:=p) (by rw [h.1];exact Fm _ Fk)
  have h2:=FV (s:=s) (by have:=h.2;simp only [qL,D2,B0];simp only [this,or_true])
  exact ⟨by simp only [ZH,A5];exact ⟨h1.2,h2.2⟩,h1.1,h2.1⟩
 |.dV o,h=>Y7 o h
 |.app p s ts,h=>by have h1:=ai3 h.1.1;have h2:=FV h1.1;have h3:=FV h1.2;have h4:=aet ts h.2;exact ⟨by simp only [ZH,A5];exact ⟨⟨h2.2,h3.2⟩,h4.1⟩,h2.1,h3.1,h.1.2,h4.2⟩
theorem aet:∀ts:List Tm,abv ts->TI ts=true/\P8 ts
 |[],_=>⟨rfl,trivial⟩
 |t::ts,h=>by have h1:=acF t h.1;have h2:=aet ts h.2;exact ⟨by simp only [TI,A5];exact ⟨h1.1,h2.1⟩,h1.2,h2.2⟩
end
theorem aka {t:Tm} (h:okD t) (hn:ah t<=3000):UN t:=⟨(acF t h).1,(acF t h).2,hn⟩
end Go.Ey.Pr
