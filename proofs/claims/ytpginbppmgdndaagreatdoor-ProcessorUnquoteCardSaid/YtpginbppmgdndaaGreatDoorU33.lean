/- ProcessorUnquote: for every input the law returns true, and its argument reads as before. No condition beyond the card's own tables. -/
import Derived.Test.YtpginbppmgdndaaGreatDoorU32
import Derived.Deep.Slices
import Derived.Test.YtpginbppmgdndaaGreatDoorRows
import Derived.LaidMore
import Derived.ProofKit
import Derived.OpenShut
import Derived.Stop.Joined
import Derived.ChangeOld
import Derived.Test.YtpginbppmgdndaaGreatDoorCards
import Derived.SevenTiedAt
import Derived.JoinedOf
import Derived.KernelRfl
import Derived.Test.YtpginbppmgdndaaGreatDoorTie
set_option linter.unusedVariables false
set_option linter.unusedSimpArgs false
namespace Go.Ey.Pr
open Go Go.Ey Go.Ey.Seat
def k143:KFun:=⟨[none,(some 2)],[],(.call 184 [(.one (.v 1)),(.agg (.all 0))] [] [none,none,none] [] (.opc (.not (.v 0)) (.ite (.v 0) (.ret [(.agg (.lit 37 [(.k (.s 0 0)),(.k (.s 0 0)),(.k (.sl 0 [] 0)),(.k (.i .i64 (.ofNat 0))),(.k (.i .i64 (.ofNat 0))),(.k (.s 0 0)),(.k (.s 0 0)),(.k (.i .i64 (.ofNat 0))),(.k (.s 0 0)),(.k (.s 0 0)),(.k (.s 0 0)),(.k (.s 0 0)),(.k (.s 0 0)),(.k (.sl 0 [] 0)),(.k (.sl 0 [] 0)),(.k (.i .i64 (.ofNat 0))),(.k (.s 0 0)),(.k (.s 0 0)),(.k (.i .i64 (.ofNat 0))),(.k (.s 0 0)),(.k (.s 0 0)),(.k (.s 0 0)),(.k (.s 0 0)),(.k (.s 0 0)),(.k (.sl 0 [] 0)),(.k (.sl 0 [] 0)),(.k (.i .i64 (.ofNat 0))),(.k (.s 0 0)),(.k (.s 0 0)),(.k (.i .i64 (.ofNat 0))),(.k (.s 0 0)),(.k (.s 0 0)),(.k (.s 0 0)),(.k (.s 0 0)),(.k (.s 0 0)),(.k (.sl 0 [] 0)),(.k (.sl 0 [] 0))])),(.one (.k (.b false)))] []) (.row 32 (.v 5) (.v 3) (.call 185 [(.agg (.all 0))] [] [none] [] (.row 37 (.v 0) (.v 4) (.ret [(.agg (.all 0)),(.one (.k (.b true)))] []))))))),[]⟩
theorem r143 (nat:Nat→List V→Option (List V)):(T nat).krow 143=some k143:=by kernel_rfl
def k184:KFun:=⟨[none,(some 2)],[],(.opc (.len false (.v 1)) (.goto 0 4 [(.one (.v 2)),(.one (.v 0)),(.one (.k (.i .i64 (.ofNat 0)))),(.agg (.all 1))])),[(4,(.opc (.lss (.v 1) (.v 2)) (.ite (.v 0) (.row 32 (.v 4) (.v 2) (.call 185 [(.agg (.all 0))] [] [none] [] (.call 399 [(.one (.v 0))] [(.all 3)] [none,none] [2] (.ite (.v 1) (.ret [(.one (.v 7)),(.one (.v 2)),(.one (.k (.b true)))] []) (.opc (.add (.v 7) (.k (.i .i64 (.ofNat 1)))) (.goto 0 4 [(.one (.v 10)),(.one (.v 9)),(.one (.v 0)),(.agg (.all 1))])))))) (.ret [(.one (.k (.i .i64 (.ofNat 0)))),(.one (.k (.i .i64 (.ofNat 0)))),(.one (.k (.b false)))] []))))]⟩
theorem r184 (nat:Nat→List V→Option (List V)):(T nat).krow 184=some k184:=by kernel_rfl
def k185:KFun:=⟨[(some 32)],[],(.opc (.eql (.n 0 0) (.k (.i .i64 (.ofNat 3)))) (.ite (.v 0) (.ret [(.one (.n 1 20))] []) (.opc (.eql (.n 1 0) (.k (.i .i64 (.ofNat 5)))) (.ite (.v 0) (.ret [(.one (.n 2 20))] []) (.opc (.eql (.n 2 0) (.k (.i .i64 (.ofNat 6)))) (.ite (.v 0) (.ret [(.one (.n 3 20))] []) (.opc (.eql (.n 3 0) (.k (.i .i64 (.ofNat 7)))) (.ite (.v 0) (.ret [(.one (.n 4 20))] []) (.ret [(.one (.k (.sl 0 [] 0)))] []))))))))),[]⟩
theorem r185 (nat:Nat→List V→Option (List V)):(T nat).krow 185=some k185:=by kernel_rfl
def k399:KFun:=⟨[none],[2],(.opc (.len false (.v 1)) (.goto 0 4 [(.one (.v 2)),(.one (.v 0)),(.one (.k (.i .i64 (.ofNat 0)))),(.agg (.all 1))])),[(4,(.opc (.lss (.v 1) (.v 2)) (.ite (.v 0) (.row 37 (.v 4) (.v 2) (.call 220 [(.agg (.all 0))] [(.all 2)] [none] [2] (.ite (.v 1) (.ret [(.one (.v 5)),(.one (.k (.b true)))] [(.all 0)]) (.opc (.add (.v 5) (.k (.i .i64 (.ofNat 1)))) (.goto 0 4 [(.one (.v 8)),(.one (.v 7)),(.one (.v 0)),(.agg (.all 1))]))))) (.ret [(.one (.k (.i .i64 (.ofNat 0)))),(.one (.k (.b false)))] [(.all 1)]))))]⟩
theorem r399 (nat:Nat→List V→Option (List V)):(T nat).krow 399=some k399:=by kernel_rfl
def k220:KFun:=⟨[(some 37)],[2],(.opc (.eqs [1,1] false (.lit 2 [(.n 1 0),(.n 1 1)]) (.all 0)) (.ret [(.one (.v 0))] [(.all 1)])),[]⟩
theorem r220 (nat:Nat→List V→Option (List V)):(T nat).krow 220=some k220:=by kernel_rfl
def consB:ByteArray:=⟨#[99,111,110,115]⟩
def sameB:ByteArray:=⟨#[115,97,109,101]⟩
def cB:ByteArray:=⟨#[99]⟩
def qdO:Ob:=.cons (.sy user ⟨#[120]⟩) (.cons (.cons (.sy lispB ⟨#[110,111,116]⟩) (.cons (.sy user ⟨#[121]⟩) oNil)) oNil)
def obO:Ob:=.cons qdO oNil
def sameT:Tm:=.app lispB consB [.var lispB cB,.con oNil]
def smC:List C:=[cs user,cs sameB]
def fnC:List C:=[cs user,cs sameB,.slice [cs lispB,cs cB] 1,ci 1]++encT (.con oT)++encT sameT++zT
def fnK:List K:=[kS user,kS sameB,.sl 2 [[kS lispB,kS cB]] 1,kI 1]++kT (.con oT)++kT sameT++[kI 0,kE,kE,kI 0,kE,kE,kE,kE,kE,kz,kz]
theorem rk_fn:RKs fnK fnC:=by
 refine RKs.app (RKs.app (RKs.app ?_ (rkT _)) (rkT _)) ?_
 ·have h:=RKr.cons (RKs.cons (rkS lispB) (RKs.cons (rkS cB) RKs.nil)) rfl (RKr.nil (esz:=2))
  exact .cons (rkS _) (.cons (rkS _) (.cons (RK.sl 2 [[kS lispB,kS cB]] 1 _ h rfl) (.cons (RK.i _ _) .nil)))
 ·exact .cons (RK.i _ _) (.cons rkE (.cons rkE (.cons (RK.i _ _) (.cons rkE (.cons rkE (.cons rkE (.cons rkE (.cons rkE (.cons rkZ (.cons rkZ .nil))))))))))
theorem sm_eq:smL=[kS user,kS sameB]:=by kernel_rfl
theorem qd_eq:qdL=kOb qdO:=by kernel_rfl
theorem ob_eq:obL=kOb obO:=by kernel_rfl
theorem sm_one {cf:List C} (h:RKs smL cf):cf=smC:=by
 rw [sm_eq] at h
 exact RKs.one h (.cons (rkS _) (.cons (rkS _) .nil))
theorem qd_one {cq:C} (h:RK (.sl 7 [qdL] 1) cq):cq=.slice (enc qdO) 1:=by
 rw [qd_eq] at h
 have h2:=RKr.cons (rkOb qdO) (kOb_len qdO) (RKr.nil (esz:=7))
 exact RK.one h (RK.sl 7 [kOb qdO] 1 _ h2 rfl)
theorem kgF_ok {nat:Nat→List V→Option (List V)}:KGOK (T nat).G (T nat).psig (.node 143 k143 .leaf (.node 184 k184 .leaf (.node 220 k220 (.node 185 k185 .leaf .leaf) (.node 399 k399 .leaf .leaf)))):=
 ⟨krow_ok (r143 nat),trivial,krow_ok (r184 nat),trivial,krow_ok (r220 nat),⟨krow_ok (r185 nat),trivial,trivial⟩,⟨krow_ok (r399 nat),trivial,trivial⟩⟩
noncomputable def kgW:KG:=(.node 143 k143 .leaf (.node 184 k184 .leaf (.node 220 k220 (.node 185 k185 .leaf .leaf) (.node 399 k399 .leaf .leaf))))
theorem kgW_ok {nat:Nat→List V→Option (List V)}:KGOK (T nat).G (T nat).psig kgW:=kgF_ok
theorem a143:(krun kgW 3000).fn 143 [.c waK,.l 2 smL] []=.ret [.l 37 fnK,.c (.b true)] []:=by kernel_rfl
theorem a90ob:(krun kgD 3000).fn 90 [.l 7 obL] []=.ret [.c (.b true)] []:=by kernel_rfl
section
variable {nat:Nat→List V→Option (List V)}
theorem psig143:(T nat).psig 143=some [.one,.agg 2]:=by kernel_rfl
theorem x143 {cw:C} (hw:RK waK cw):fnT (T nat).G 143 [.v (.one cw),.v (.agg smC)] []=some ([.agg fnC,.one (cb true)],[]):=by
 have hs:RKs smL smC:=by rw [sm_eq];exact .cons (rkS _) (.cons (rkS _) .nil)
 obtain ⟨r1,g1,g2,g3⟩:=krun_fn (kgW_ok (nat:=nat)) psig143 (ts:=[.v (.one (.v 0)),.v (.agg (.all 0))]) rfl (ys:=[.c waK,.l 2 smL]) (us:=[.v (.one cw),.v (.agg smC)]) ⟨hw,⟨hs,rfl⟩,trivial⟩ (zs:=[]) (css:=[]) trivial a143
 obtain ⟨a1,b1⟩:=r1
 match a1,b1,g2,g3 with
 |[.agg c1,.one d1],[],g2,_=>
  have h1:c1=fnC:=RKs.one g2.1.1 rk_fn
  have h2:RK (.b true) d1:=g2.2.1
  rw [h1,h2.bool] at g1
  exact g1
theorem x90ob (hn:NatI nat):fnT (T nat).G 90 [.v (.agg (enc obO))] []=some ([.one (cb true)],[]):=by
 have hs:RKs obL (enc obO):=by rw [ob_eq];exact rkOb _
 obtain ⟨c,b,e⟩:=kc1 hn psig90 (ts:=[.v (.agg (.all 0))]) rfl (ys:=[.l 7 obL]) (us:=[.v (.agg (enc obO))]) ⟨⟨hs,rfl⟩,trivial⟩ a90ob
 rw [b.bool] at e
 exact e
end
def p246:HP:=.seq .all (.seq .all (.seq (.at 5 [.agg fnC,.one (cb true)]) .all))
def p247:HP:=(.seq .all (.seq .all (.seq .all (.seq .all (.seq .all (.seq .all (.seq .all (.seq .all (.seq .all (.seq (.seq (.at 1 [.one (cb true)]) .all) .all))))))))))
def p224c:HP:=(.seq .all (.seq .all (.seq .all (.seq .all (.seq .all (.seq .all (.seq .all (.seq .all (.seq .all (.seq (.seq .all (.sub (.seq (.into 3 p247) .all))) .all))))))))))
def p191 (p:HP):HP:=.seq .all (.seq (.seq .all (.sub (.seq .all (.sub (.seq .all (.sub (.seq (.into 3 p) .all))))))) .all)
def p224s:HP:=(.seq .all (.seq .all (.seq .all (.seq .all (.seq .all (.seq (.seq .all (.sub (.seq .all (.seq (.seq (.into 3 p246) .all) .all)))) (.seq .all (.seq .all (.seq .all (.seq .all (.seq .all (.seq .all (.seq (.into 4 (p191 p224c)) .all)))))))))))))
def p152:HP:=.seq .all (.seq .all (.seq (.into 3 (p191 p224s)) .all))
def p91:HP:=.seq .all (.seq .all (.seq .all (.seq (.into 5 p152) .all)))
noncomputable def F1:Tab:=(T (natOf (lB []))).F
theorem run91 (cw:C):fnH F1 (evH F1 60 p91) 91 [.one cw,.agg smC,.one (.slice (enc qdO) 1),.one (intC 100)]=some ([(143,[.one cw,.agg smC],[.agg fnC,.one (cb true)]),(90,[.agg (enc obO)],[.one (cb true)])],[.agg (enc obO),.one (ci 2),.one (ci 0)]):=by kernel_rfl
theorem evn_fn {nat:Nat→List V→Option (List V)} (h:(T nat).OK) {f:Nat} {vs rs:List V} {bs:List (List C)} (hc:((T nat).sig f).all (fun s=>s.code.isNone)=true) (hr:fnT (T nat).G f (vs.map .v) []=some (rs,bs)):∃n,evFn (T nat).F n f vs=some rs:=
 fnT_sim h.tab (fun s hs=>by rw [hs] at hc;simpa using hc) hr
theorem fok91 {cw:C} (hw:RK waK cw):FnOK PP 91 [.one cw,.agg smC,.one (.slice (enc qdO) 1),.one (intC 100)] [.agg (enc obO),.one (ci 2),.one (ci 0)]:=by
 have h9:Only91 []:=fun e h=>by cases h
 have hok:=seat_ok h9 (fun e h=>by cases h)
 have hn:=NatF.i (natF h9)
 obtain ⟨n,hr⟩:=evHF_ok (F:=F1) (run91 cw) fun q hq=>by
  simp only [List.mem_cons,List.mem_nil_iff,or_false] at hq
  rcases hq with rfl|rfl
  ·exact evn_fn hok (by kernel_rfl) (x143 hw)
  ·exact evn_fn hok (by kernel_rfl) (x90ob hn)
 exact hok.ev hr
theorem whole:∃m,Only91 m∧(∀e∈m,FnOK PP e.1 e.2.1 e.2.2)∧NatA (natOf (lB m)):=by
 by_cases hw:∃cw,RK waK cw
 ·obtain ⟨cw,hw⟩:=hw
  refine ⟨[(91,[.one cw,.agg smC,.one (.slice (enc qdO) 1),.one (intC 100)],[.agg (enc obO),.one (ci 2),.one (ci 0)])],fun e he=>?_,fun e he=>?_,?_⟩
  ·simp only [List.mem_singleton] at he;subst he;rfl
  ·simp only [List.mem_singleton] at he;subst he;exact fok91 hw
  ·have h9:Only91 [(91,[.one cw,.agg smC,.one (.slice (enc qdO) 1),.one (intC 100)],[.agg (enc obO),.one (ci 2),.one (ci 0)])]:=fun e he=>by simp only [List.mem_singleton] at he;subst he;rfl
   refine ⟨NatF.i (natF h9),fun cw' cf cq h1 h2 h3=>?_⟩
   rw [RK.one h1 hw,sm_one h2,qd_one h3]
   refine ⟨enc obO,ci 2,by rw [ob_eq];exact rkOb _,natOf_at ?_ fun e he h3 h4=>?_⟩
   ·exact List.mem_append_right _ (by simp [intC,ci])
   ·rcases lB_mem he with h|h|h|h
    ·obtain ⟨k,_,_,rfl⟩:=mem238 h;cases h3
    ·obtain ⟨q,hq,rfl⟩:=List.mem_map.1 h;cases h3
    ·simp only [l272,List.mem_singleton] at h;subst h;cases h3
    ·simp only [List.mem_singleton] at h;subst h;rfl
 ·have h9:Only91 []:=fun e h=>by cases h
  exact ⟨[],h9,(fun e h=>by cases h),⟨NatF.i (natF h9),fun cw cf cq h1=>absurd ⟨cw,h1⟩ hw⟩⟩
theorem fok4 (bs:List UInt8):FnOK PP 4 [.one (rows encB bs)] [.one (cb true)]:=by
 obtain ⟨m,h9,hm,ha⟩:=whole
 exact (seat_ok h9 hm).fn (by kernel_rfl) (x4nat' ha (natF h9) (natP h9) (natS h9) bs)
end Go.Ey.Pr

namespace Go.Ey
open Go.RowKit
def Typed (P:Program):Nat→TypeId→List C→Prop
 |0,_,_=>False
 |n+1,t,cs=>
  match P.underlying t with
  |some .bool=>∃b,cs=[.lit (.bool b)]
  |some (.int k)=>∃z,cs=[.lit (.int k z)]∧(Lit.int k z).wf=true
  |some .string=>∃s:ByteArray,cs=[.lit (.string s)]∧s.size≤maxLen
  |some (.slice e)=>∃rows:List (List C),cs=[.slice rows.flatten rows.length]∧rows.length≤maxLen∧∀r∈rows,r.length=P.cellsOf e∧Typed P n e r
  |some (.struct fs)=>cs.length=P.cellsOf t∧∀f∈fs.toList,Typed P n f.type ((cs.drop f.offset).take (P.cellsOf f.type))
  |_=>False
def tile (P:Program) (total:Nat):Nat→List Field→Bool
 |off,[]=>decide (off=total)
 |off,f::fs=>decide (f.offset=off) && decide (off+P.cellsOf f.type≤total) && tile P total (off+P.cellsOf f.type) fs
def openB (P:Program):Nat→TypeId→Bool
 |0,_=>false
 |n+1,t=>
  match P.underlying t with
  |some .bool|some (.int _)|some .string=>true
  |some (.slice e)=>decide (0 < P.cellsOf e) && openB P n e
  |some (.struct fs)=>tile P (P.cellsOf t) 0 fs.toList && fs.toList.all fun f=>openB P n f.type
  |_=>false
def Any:Nat→Nat→Prop:=fun _ _=>True
section
variable {H:Type} {enc:TypeId×Value→H} {P:Program} {w:World} {base:Nat} {spare:Nat→Bool} {held:Bool}
theorem tile_open {n total:Nat} {vs:List Value} (hv:vs.length=total):∀(fs:List Field) (off:Nat),off≤total→tile P total off fs=true→
  (∀f∈fs,∃cs,All2 (RepC w Any) cs ((vs.drop f.offset).take (P.cellsOf f.type))∧Typed P n f.type cs)→
  ∃cs,All2 (RepC w Any) cs (vs.drop off)∧∀f∈fs,off≤f.offset∧Typed P n f.type ((cs.drop (f.offset - off)).take (P.cellsOf f.type))
 |[],off,_,ht,_=>by
  simp only [tile,decide_eq_true_eq] at ht
  subst ht
  exact ⟨[],by rw [List.drop_eq_nil_of_le (by omega)];trivial,by simp⟩
 |f::fs,off,ho,ht,hf=>by
  simp only [tile,Bool.and_eq_true,decide_eq_true_eq] at ht
  obtain ⟨⟨h1,h2⟩,h3⟩:=ht
  obtain ⟨c0,k1,k2⟩:=hf f (by simp)
  obtain ⟨cs,k3,k4⟩:=tile_open hv fs (off+P.cellsOf f.type) h2 h3 fun g hg=>hf g (by simp [hg])
  have hlen:c0.length=P.cellsOf f.type:=by rw [k1.len,List.length_take,List.length_drop];omega
  refine ⟨c0++cs,?_,fun g hg=>?_⟩
  ·have:=k1.append k3
   rw [h1,←List.drop_drop,List.take_append_drop] at this
   exact this
  ·simp only [List.mem_cons] at hg
   rcases hg with rfl|hg
   ·refine ⟨by omega,?_⟩
    rw [h1,Nat.sub_self,List.drop_zero,List.take_append_of_le_length (by omega),List.take_of_length_le (by omega)]
    exact k2
   ·obtain ⟨k5,k6⟩:=k4 g hg
    refine ⟨by omega,?_⟩
    rw [show g.offset - off=c0.length+(g.offset - (off+P.cellsOf f.type)) by omega,←List.drop_drop,List.drop_left]
    exact k6
theorem rows_open {n c:Nat} {e:TypeId} {a:Addr} (hc:c=P.cellsOf e):∀k,(∀i,i < k→∃us cs,w.cells? base (a.add (i * c)) c=some us∧All2 (RepC w Any) cs us∧Typed P n e cs)→
  ∃(rows:List (List C)) (us:List Value),rows.length=k∧us.length=k * c∧All2 (RepC w Any) rows.flatten us∧(∀j u,us[j]?=some u→w.cell? (a.add j)=some u)∧∀r∈rows,r.length=c∧Typed P n e r
 |0,_=>⟨[],[],rfl,by simp,trivial,by simp,by simp⟩
 |k+1,h=>by
  obtain ⟨rows,us,h1,h2,h3,h4,h5⟩:=rows_open hc k fun i hi=>h i (by omega)
  obtain ⟨vs,cs,k1,k2,k3⟩:=h k (by omega)
  obtain ⟨_,k4,k5⟩:=World.cells?_some k1
  refine ⟨rows++[cs],us++vs,by simp [h1],by rw [List.length_append,h2,k4,Nat.succ_mul],?_,?_,?_⟩
  ·simp only [List.flatten_append,List.flatten_cons,List.flatten_nil,List.append_nil]
   exact h3.append k2
  ·intro j u hu
   by_cases hj:j < us.length
   ·rw [List.getElem?_append_left hj] at hu;exact h4 j u hu
   ·rw [List.getElem?_append_right (by omega)] at hu
    have hlt:=(List.getElem?_eq_some_iff.1 hu).1
    have:=k5 (j - us.length) (by omega)
    rw [Go.Deep.add_add,hu,h2] at this
    rw [show k * c+(j - k * c)=j by omega] at this
    exact this
  ·intro r hr
   simp only [List.mem_append,List.mem_singleton] at hr
   rcases hr with hr|rfl
   ·exact h5 r hr
   ·exact ⟨by rw [k2.len,k4],k3⟩
theorem rep_slice {a:Addr} {rows:List C} {us:List Value} {len cap:Nat} (hl:len≤cap) (h3:All2 (RepC w Any) rows us) (h4:∀j u,us[j]?=some u→w.cell? (a.add j)=some u):RepC w Any (.slice rows len) (.slice (some a) len cap):=by
 simp only [RepC]
 have hs:rows≠[]→a.spot=none:=by
  intro hne
  cases us with
  |nil=>cases rows with|nil=>exact absurd rfl hne|cons _ _=>exact h3.elim
  |cons u us=>
   have:=World.cell?_spot (h4 0 u rfl)
   simpa [Addr.add] using this
 refine .inr ⟨a,cap,rfl,hl,hs,RepCs_of h3 fun i u hi=>⟨?_,trivial⟩⟩
 have hne:rows≠[]:=by
  intro e
  subst e
  cases us with
  |nil=>simp at hi
  |cons _ _=>exact h3.elim
 obtain ⟨b,o,sp⟩:=a
 have:sp=none:=hs hne
 subst this
 have:=h4 i u hi
 unfold Addr.add at this
 split at this
 ·rename_i h0;subst h0;exact this
 ·exact this
theorem open_typed:∀(n:Nat) (t:TypeId),openB P n t=true→∀(fuel:Nat) (vs:List Value) (x:DataW H×List MemPlace),DataW.trod enc P w base spare held fuel t vs=some x→∃cs,All2 (RepC w Any) cs vs∧Typed P n t cs
 |0,_,h,_,_,_,_=>by cases h
 |n+1,t,h,fuel,vs,x,hx=>by
  unfold openB at h
  cases ht:P.underlying t with
  |none=>rw [ht] at h;cases h
  |some d=>
   rw [ht] at h
   cases d with
   |bool=>
    obtain ⟨b,rfl,_⟩:=DataW.trod_bool ht hx
    exact ⟨[.lit (.bool b)],⟨⟨rfl,rfl⟩,trivial⟩,by unfold Typed;rw [ht];exact ⟨b,rfl⟩⟩
   |int k=>
    obtain ⟨z,rfl,_,hw⟩:=DataW.trod_int ht hx
    exact ⟨[.lit (.int k z)],⟨⟨rfl,rfl⟩,trivial⟩,by unfold Typed;rw [ht];exact ⟨z,rfl,hw⟩⟩
   |string=>
    obtain ⟨s,rfl,_,hs⟩:=DataW.trod_string ht hx
    exact ⟨[.lit (.string s)],⟨⟨rfl,rfl⟩,trivial⟩,by unfold Typed;rw [ht];exact ⟨s,rfl,hs⟩⟩
   |slice e=>
    simp only [Bool.and_eq_true,decide_eq_true_eq] at h
    rcases Go.Deep.open_slice ht hx with ⟨rfl,_⟩|⟨a,len,cap,m,n',D,Pl,rfl,hb,hl,hm,hmm,_,hel⟩
    ·refine ⟨[.slice [] 0],⟨by unfold RepC;exact .inl ⟨rfl,rfl,rfl⟩,trivial⟩,?_⟩
     unfold Typed;rw [ht]
     exact ⟨[],rfl,by simp,by simp⟩
    ·have hlm:len≤m:=by rw [hmm];split<;>omega
     obtain ⟨rows,us,h1,h2,h3,h4,h5⟩:=rows_open (w:=w) (base:=base) (n:=n) (a:=a) (rfl:P.cellsOf e=P.cellsOf e) len fun i hi=>by
      obtain ⟨us,k1,k2⟩:=hel i (by omega)
      obtain ⟨cs,k3,k4⟩:=open_typed n e h.2 n' us _ k2
      exact ⟨us,cs,k1,k3,k4⟩
     refine ⟨[.slice rows.flatten rows.length],⟨?_,trivial⟩,?_⟩
     ·rw [h1];exact rep_slice hl h3 h4
     ·unfold Typed;rw [ht]
      exact ⟨rows,rfl,by omega,h5⟩
   |struct fs=>
    simp only [Bool.and_eq_true,List.all_eq_true] at h
    obtain ⟨xs,m,rfl,_,hl,hxl,hf⟩:=DataW.trod_struct ht hx
    obtain ⟨cs,k1,k2⟩:=tile_open (w:=w) (n:=n) hl fs.toList 0 (by omega) h.1 fun f hfm=>by
     obtain ⟨i,hi,hif⟩:=List.getElem_of_mem hfm
     have hi':i < fs.size:=by simpa using hi
     have h1:=hf i f (by rw [Array.getElem?_eq_getElem hi'];simpa using hif)
     rw [List.getElem?_eq_getElem (by omega)] at h1
     exact open_typed n f.type (h.2 f hfm) m _ _ h1
    rw [List.drop_zero] at k1
    refine ⟨cs,k1,?_⟩
    unfold Typed;rw [ht]
    refine ⟨by rw [k1.len];exact hl,fun f hfm=>?_⟩
    have:=(k2 f hfm).2
    rw [Nat.sub_zero] at this
    exact this
   |_=>cases h
end
end Go.Ey

namespace Go.Ey.Pr
open Go Go.Ey Go.Ey.Seat Go.RowKit
theorem u5:PP.underlying 5=some (.int .u8):=by kernel_rfl
theorem u22:PP.underlying 22=some (.slice 5):=by kernel_rfl
theorem open22:openB PP 3 22=true:=by kernel_rfl
theorem typed_u8 {n:Nat} {cs:List C} (h:Typed PP n 5 cs):∃b:UInt8,cs=encB b:=by
 cases n with
 |zero=>exact h.elim
 |succ n=>
  unfold Typed at h
  rw [u5] at h
  obtain ⟨z,rfl,h2⟩:=h
  have h1:IntKind.u8.min≤z∧z≤IntKind.u8.max:=by simpa [Lit.wf] using h2
  have e1:IntKind.u8.min=0:=rfl
  have e2:IntKind.u8.max=255:=rfl
  refine ⟨UInt8.ofNat z.toNat,?_⟩
  have:((UInt8.ofNat z.toNat).toNat:Int)=z:=by
   rw [UInt8.toNat_ofNat']
   omega
  simp only [encB,this]
theorem typed_bytes {n:Nat} {cs:List C} (h:Typed PP n 22 cs):∃bs:List UInt8,cs=[rows encB bs]∧bs.length≤maxLen:=by
 cases n with
 |zero=>exact h.elim
 |succ n=>
  unfold Typed at h
  rw [u22] at h
  obtain ⟨rw_,rfl,hl,hr⟩:=h
  have key:∀l:List (List C),(∀r∈l,r.length=PP.cellsOf 5∧Typed PP n 5 r)→∃bs:List UInt8,l.flatten=bs.flatMap encB∧l.length=bs.length:=by
   intro l
   induction l with
   |nil=>exact fun _=>⟨[],rfl,rfl⟩
   |cons r l ih=>
    intro hr
    obtain ⟨bs,h1,h2⟩:=ih fun r' hr'=>hr r' (by simp [hr'])
    obtain ⟨b,rfl⟩:=typed_u8 (hr r (by simp)).2
    exact ⟨b::bs,by rw [List.flatten_cons,h1,List.flatMap_cons],by simp [h2]⟩
  obtain ⟨bs,h1,h2⟩:=key rw_ hr
  exact ⟨bs,by rw [h1,h2,rows],by omega⟩
theorem gPow:PP.globalNamed "internal/strconv.uint64pow10"=some 0:=by kernel_rfl
theorem tPow:(PP.globals[0]?).map (·.type)=some 285:=by kernel_rfl
theorem uPow1:PP.underlying 285=some (.array 20 82):=by kernel_rfl
theorem uPow2:PP.underlying 82=some (.int .u64):=by kernel_rfl
theorem uPow3:PP.cellsOf 82=1:=by kernel_rfl
theorem cPow:PP.cellsOf 285=20:=by kernel_rfl
theorem var_lt {P:Program} {w:World} {n:String} {cs:Array Value} {g:Nat} (hg:P.globalNamed n=some g) (h:w.var? P n=some cs):g < w.heap.size:=by
 unfold World.var? at h
 simp only [hg,Option.bind_some] at h
 rcases Nat.lt_or_ge g w.heap.size with h'|h'
 ·exact h'
 ·simp [Array.getElem?_eq_none h'] at h
theorem inv_of {l1 l2:String×DataW Unit} {rest:List (String×DataW Unit)} {W:World} (h:laidMet PP (l1::l2::("internal/strconv.uint64pow10",Lib.tabData .u64 Lib.pow10Tab)::rest) W):Keeps.Inv W.heap.size W:=by
 obtain ⟨n1,d1⟩:=l1
 obtain ⟨n2,d2⟩:=l2
 obtain ⟨ps,⟨g0,t0,cs0,f0,p0,q0,hg0,ht0,hv0,hd0,⟨g1,t1,cs1,f1,p1,q1,hg1,ht1,hv1,hd1,⟨g2,t2,cs2,f2,p2,q2,hg2,ht2,hv2,hd2,_,_⟩,_⟩,_⟩,_⟩:=h
 obtain rfl:=Option.some.inj (gPow.symm.trans hg2)
 obtain rfl:=Option.some.inj (tPow.symm.trans ht2)
 intro t ht
 simp only [List.mem_singleton] at ht
 subst ht
 refine ⟨0,gPow,var_lt gPow hv2,?_⟩
 show W.var? PP _=_
 rw [hv2,←Lib.cells_of_tab uPow1 uPow2 uPow3 cPow hd2]
end Go.Ey.Pr

namespace Go.Proofs.YtpginbppmgdndaaGreatDoor.facts4
open Go.Proofs.YtpginbppmgdndaaGreatDoor
open Go
set_option linter.unusedVariables false
theorem clo:Tryz.prog.closure 4=[4,6,18,20,54,134,135,19,28,7,32,92,154,155,153,192,193,225,248,249,226,250,251,284,268,252,253,254,255,256,129,177,210,178,179,211,212,213,180,257,194,50,227,258,49,94,14,44,45,228,195,229,93,51,130,131,11,46,83,156,196,216,218,240,198,87,230,259,162,231,260,285,232,233,234,235,261,286,287,288,47,128,176,209,238,264,265,291,290,292,266,267,293,294,322,323,48,263,262,289,319,78,144,186,114,166,167,106,320,321,332,343,344,345,357,346,347,358,348,349,359,333,350,361,363,360,351,352,362,364,365,366,367,353,217,239,236,72,133,181,214,161,182,215,183,157,95,158,33,29,30,73,96,88,86,97,98,99,100,34,101,102,159,107,35,103,160,197,84,146,104,105,108,163,109,164,199,110,111,112,165,113,115,168,85,71,76,82,148,147,81,22,23,70,74,75,77,79,40,89,31,43,126,170,200,149,187,171,201,172,202,204,119,90,150,188,189,221,241,269,295,222,242,223,243,244,270,296,324,334,335,325,336,354,337,338,355,339,297,271,298,300,301,299,274,272,302,326,340,303,304,245,273,190,121,145,203,205,237,206,127,174,175,208,173,207,10,38,120,39,122,91,151,136,152,191,224,142,246,143,184,185,220,219,124,247,275,305,280,312,306,307,327,341,356,328,329,309,308,276,277,278,279,310,311,330,342,281,282,313,331,283,314,315,316,317,318,13,41,123,42,125,169,15,26,16,8,17,52,132,53,116]:=by kernel_rfl
abbrev c:OpenClaim:=Rows.processorUnquoteRow
abbrev s:ChangeSpec:=Rows.processorUnquoteSpec
theorem unf:Tryz.prog.unfollowed 4=true:=by
 unfold Program.unfollowed
 rw [clo]
 kernel_rfl
theorem inp:Tryz.prog.inPlace 4=["internal/abi.NoEscape"]:=by
 unfold Program.inPlace
 rw [clo]
 kernel_rfl
theorem recs:Tryz.prog.recurses 4=true:=by
 unfold Program.recurses
 rw [unf]
 rfl
theorem vars:Tryz.prog.varsNamed 4=["internal/strconv.uint64pow10", "math/bits.deBruijn32tab", "math/bits.deBruijn64tab", "strconv.ErrSyntax", "strconv.ErrRange"]:=by
 unfold Program.varsNamed
 rw [clo]
 kernel_rfl
theorem named:Tryz.prog.funcNamed "lispprover/lispproverlaw41.ProcessorUnquote"=some 4:=by kernel_rfl
theorem noGo:Tryz.prog.goes 4=false:=by
 unfold Program.goes
 rw [clo,unf]
 kernel_rfl
theorem goesBy:c.goesBy Tryz.prog=false:=by
 unfold OpenClaim.goesBy Program.goesAt Program.goesFrom
 show ((Tryz.prog.funcNamed "lispprover/lispproverlaw41.ProcessorUnquote").any Tryz.prog.goes||false)=false
 rw [named,Option.any_some,noGo]
 rfl
theorem closed:joinedFacts Tryz.prog 4 Tryz.f4 s c=true:=by
 unfold joinedFacts
 rw [inp,unf,recs,vars]
 simp only [Bool.and_eq_true]
 refine ⟨⟨⟨⟨⟨⟨⟨⟨⟨⟨⟨⟨⟨⟨⟨⟨⟨⟨⟨⟨⟨⟨⟨⟨⟨⟨⟨⟨⟨⟨⟨?_,?_⟩,?_⟩,?_⟩,?_⟩,?_⟩,?_⟩,?_⟩,?_⟩,?_⟩,?_⟩,?_⟩,?_⟩,?_⟩,?_⟩,?_⟩,?_⟩,?_⟩,?_⟩,?_⟩,?_⟩,?_⟩,?_⟩,?_⟩,?_⟩,?_⟩,?_⟩,?_⟩,?_⟩,?_⟩,?_⟩,?_⟩
 all_goals kernel_rfl
end Go.Proofs.YtpginbppmgdndaaGreatDoor.facts4

namespace Go.Proofs.YtpginbppmgdndaaGreatDoor.processorUnquote
open Go.Proofs.YtpginbppmgdndaaGreatDoor
open Go Go.Ey Go.Ey.Pr Go.ChangeShapes Go.WideShapes Go.ChangeAt Go.RowKit
set_option linter.unusedVariables false
theorem own:ownKnob Tryz.prog.godebug=none:=by kernel_rfl
theorem laidOut:laidOutB Tryz.prog=true:=by kernel_rfl
theorem looks:true=Tryz.prog.looks []:=by kernel_rfl
theorem mainIs:Tryz.prog.mainIs=some (true,("25d70e701cfe16b64d4998cb0d1a585cfe32958a8e3816e2529fbcd3264aed28":String).toList):=by kernel_rfl
theorem door_met (os:Os) (args:Array Value):laidMetH Tryz.prog Rows.processorUnquoteRow.laid ((World.doorLaid Tryz.prog 62 os).forCall (fun _ _=>0) ⟨#[],args,[]⟩).memory:=
 laidMetH_of_parts3 (fuel:=8) (laidMet_of_run' 8 (by kernel_rfl) (by kernel_rfl)) (by kernel_rfl) (by kernel_rfl)
theorem inv (W:World) (h:laidMetH Tryz.prog Rows.processorUnquoteRow.laid W):Keeps.Inv W.heap.size W:=by
 rw [MakeChecks.laidMetH_plain _ _ _ (by kernel_rfl)] at h
 exact inv_of h
set_option maxRecDepth 100000 in
theorem lifted (os:Os) (started:os.Started) (H:Type) (enc:TypeId×Value→H):
  ReturnsInHanded {} Tryz.checked os 4 .any (fun w args=>(Rows.processorUnquoteSpec.pre enc Tryz.prog Tryz.f4 [] false w args∧laidMetH Tryz.prog Rows.processorUnquoteRow.laid w)∧sizedMet enc Tryz.prog Tryz.f4 (OpenSpec.ofChange Rows.processorUnquoteSpec) false w args)
   (Rows.processorUnquoteSpec.post enc Tryz.prog Tryz.f4 false true false false):=by
 refine returnsInHanded_of_change_and (C:=Tryz.checked) (X:=fun w _=>laidMetH Tryz.prog Rows.processorUnquoteRow.laid w) (fun _ _ _ hh h=>h.of_heap hh) own started (by kernel_rfl) Tryz.func4
  (ChangeSpec.witness_shaped (enc:=enc) (C:=Tryz.checked) (os:=os) (X:=fun w _=>laidMetH Tryz.prog Rows.processorUnquoteRow.laid w) false (World.doorLaid Tryz.prog 62 os) #[.slice none 0 0] 8 rfl (World.shaped_of_RefB (by kernel_rfl) (by kernel_rfl)) (by kernel_rfl) (by kernel_rfl) (by kernel_rfl) (door_met os _)) ?_
 intro W base args ds gs before hval0 hW _ _ hL _
 have hval:∀(j:Nat) t v,Tryz.f4.params[j]?=some t→args[j]?=some v→Value.okWide Tryz.prog W .any base t v:=hval0
 have hW':=hW
 obtain ⟨p,q,hA0,hV,rfl,hfz,hnd⟩:=hW
 have hA:DataW.TrodAll enc Tryz.prog W 0 (fun _=>true) true Tryz.f4.params.toList args.toList ds p:=hA0
 rw [Tryz.params4] at hA hval
 obtain ⟨v0,d0,hargs,rfl,h0⟩:=trodAll_one hA
 obtain rfl:args=#[v0]:=by cases args;simp_all
 obtain ⟨rfl,rfl⟩:=trodVars_none hV
 obtain ⟨a0,len0,cap0,rfl⟩:=okWide_slice Tryz.underlying22 (hval 0 22 v0 rfl rfl)
 have k0:=h0
 have lt0:∀x∈p,x.block < W.heap.size:=by obtain ⟨m,hm⟩:=k0;exact DataW.trod_lt m _ _ _ hm
 obtain ⟨bs,hrep⟩:∃bs,RepV W (fun _ _=>True) (.one (rows encB bs)) (.slice a0 len0 cap0):=by
  obtain ⟨fuel,hf⟩:=h0
  obtain ⟨ccs,ha,ht⟩:=open_typed 3 22 open22 fuel _ _ hf
  obtain ⟨bs,rfl,_⟩:=typed_bytes ht
  exact ⟨bs,ha.1⟩
 clear hA0 hval0
 refine ((fok4 bs).2 (fun _ _=>True) W [.slice a0 len0 cap0] (inv W hL) ⟨hrep,trivial⟩).mono fun e W' ⟨v,he,hv,bel⟩=>?_
 subst he
 have hb:v=.bool true:=hv.1
 subst hb
 exact ⟨_,rfl,_,_,_,[],_,[],hW',trodAll_mk1 (shut_bool Tryz.underlying4 _),(trodAll_mk1 (Below.trod laidOut (by kernel_rfl) (of_decide_eq_true (by kernel_rfl)) k0 bel lt0)),rfl,bel.frame _,fun h=>by cases h⟩
theorem over:Rows.ProcessorUnquoteSaid:=
 OpenClaim.holds_of_wide (p:=Tryz.pinned) 4 Tryz.f4 rfl rfl rfl rfl rfl rfl rfl ⟨rfl,rfl,rfl,rfl,rfl⟩ rfl rfl rfl rfl rfl facts4.named Tryz.func4 facts4.closed
  (of_decide_eq_true (by kernel_rfl)) (by unfold Func.isWrapper;first|(rw [if_pos (by decide+kernel)];kernel_rfl)|(rw [if_neg (by decide+kernel)];exact ⟨rfl,rfl⟩))
  (fun os started H enc _=>lifted os started H enc)
theorem params (f:FuncId) (fn:Func) (hf:Tryz.prog.funcNamed "lispprover/lispproverlaw41.ProcessorUnquote"=some f) (hfn:Tryz.prog.funcs[f]?=some fn):true=Tryz.prog.looks []∧∀(j:Nat) t,fn.params[j]?=some t→Tryz.prog.wantsStandIn t=false:=by
 obtain rfl:f=4:=(Option.some.inj (facts4.named.symm.trans hf)).symm
 obtain rfl:fn=Tryz.f4:=(Option.some.inj (Tryz.func4.symm.trans hfn)).symm
 refine ⟨looks,fun j t ht=>?_⟩
 rw [Tryz.params4] at ht
 have h3:t=22:=by
  rcases j with _|j
  ·simpa using ht.symm
  ·simp at ht
 subst h3
 exact (show Tryz.prog.wantsStandIn 22=false by kernel_rfl)
theorem proved:Rows.ProcessorUnquoteCardSaid:=
 Claim7.holds_tied_plain_at (p:=Tryz.pinned) (c:=Rows.processorUnquoteRow) .later [] [.data,.data,.data,.sentinel,.sentinel] true (true, "25d70e701cfe16b64d4998cb0d1a585cfe32958a8e3816e2529fbcd3264aed28") true
  over (fun _ h=>by cases h) (by kernel_rfl) (fun _ h=>by cases h) processorUnquote_row_tie rfl ⟨rfl,rfl⟩ mainIs rfl
  params facts4.goesBy.symm
end Go.Proofs.YtpginbppmgdndaaGreatDoor.processorUnquote
