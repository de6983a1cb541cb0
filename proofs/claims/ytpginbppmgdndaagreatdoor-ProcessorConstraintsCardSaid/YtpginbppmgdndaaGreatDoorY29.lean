/- A part of the proof. -/
import Derived.Test.YtpginbppmgdndaaGreatDoorY28
import Derived.Test.YtpginbppmgdndaaGreatDoorRows
import Derived.LaidMore
import Derived.ProofKit
import Derived.OpenShut
import Derived.Stop.Joined
import Derived.ChangeOld
set_option linter.all false
set_option maxHeartbeats 4000000
namespace Go.Ey.Pr
open Go Go.Ey Go.Ey.Seat Go.RowKit
theorem uT5:PP.underlying 5=some (.int .u8):=by kernel_rfl
theorem uT22:PP.underlying 22=some (.slice 5):=by kernel_rfl
theorem open22:openB PP 3 22=true:=by kernel_rfl
theorem typed_u8 {n:Nat} {cs:List C} (h:Typed PP n 5 cs):∃b:UInt8,cs=encB b:=by
 cases n with
 |zero=>exact h.elim
 |succ n=>
  unfold Typed at h
  rw [uT5] at h
  obtain ⟨z,rfl,h2⟩:=h
  have h1:IntKind.u8.min≤z∧z≤IntKind.u8.max:=by simpa [Lit.wf] using h2
  have e1:IntKind.u8.min=0:=rfl
  have e2:IntKind.u8.max=255:=rfl
  refine ⟨UInt8.ofNat z.toNat,?_⟩
  have:((UInt8.ofNat z.toNat).toNat:Int)=z:=by
   rw [UInt8.toNat_ofNat']
   omega
  simp only [encB,this]
theorem typed_bytes {n:Nat} {cs:List C} (h:Typed PP n 22 cs):∃bs:List UInt8,cs=[rows encB bs]∧bs.length≤maxLen:=by
 cases n with
 |zero=>exact h.elim
 |succ n=>
  unfold Typed at h
  rw [uT22] at h
  obtain ⟨rw_,rfl,hl,hr⟩:=h
  have key:∀l:List (List C),(∀r∈l,r.length=PP.cellsOf 5∧Typed PP n 5 r)→∃bs:List UInt8,l.flatten=bs.flatMap encB∧l.length=bs.length:=by
   intro l
   induction l with
   |nil=>exact fun _=>⟨[],rfl,rfl⟩
   |cons r l ih=>
    intro hr
    obtain ⟨bs,h1,h2⟩:=ih fun r' hr'=>hr r' (by simp [hr'])
    obtain ⟨b,rfl⟩:=typed_u8 (hr r (by simp)).2
    exact ⟨b::bs,by rw [List.flatten_cons,h1,List.flatMap_cons],by simp [h2]⟩
  obtain ⟨bs,h1,h2⟩:=key rw_ hr
  exact ⟨bs,by rw [h1,h2,rows],by omega⟩
theorem gPow:PP.globalNamed "internal/strconv.uint64pow10"=some 0:=by kernel_rfl
theorem tPow:(PP.globals[0]?).map (·.type)=some 285:=by kernel_rfl
theorem uPow1:PP.underlying 285=some (.array 20 82):=by kernel_rfl
theorem uPow2:PP.underlying 82=some (.int .u64):=by kernel_rfl
theorem uPow3:PP.cellsOf 82=1:=by kernel_rfl
theorem cPow:PP.cellsOf 285=20:=by kernel_rfl
theorem var_lt {P:Program} {w:World} {n:String} {cs:Array Value} {g:Nat} (hg:P.globalNamed n=some g) (h:w.var? P n=some cs):g < w.heap.size:=by
 unfold World.var? at h
 simp only [hg,Option.bind_some] at h
 rcases Nat.lt_or_ge g w.heap.size with h'|h'
 ·exact h'
 ·simp [Array.getElem?_eq_none h'] at h
theorem inv_of {l1 l2:String×DataW Unit} {rest:List (String×DataW Unit)} {W:World} (h:laidMet PP (l1::l2::("internal/strconv.uint64pow10",Lib.tabData .u64 Lib.pow10Tab)::rest) W):Keeps.Inv W.heap.size W:=by
 obtain ⟨n1,d1⟩:=l1
 obtain ⟨n2,d2⟩:=l2
 obtain ⟨ps,⟨g0,t0,cs0,f0,p0,q0,hg0,ht0,hv0,hd0,⟨g1,t1,cs1,f1,p1,q1,hg1,ht1,hv1,hd1,⟨g2,t2,cs2,f2,p2,q2,hg2,ht2,hv2,hd2,_,_⟩,_⟩,_⟩,_⟩:=h
 obtain rfl:=Option.some.inj (gPow.symm.trans hg2)
 obtain rfl:=Option.some.inj (tPow.symm.trans ht2)
 intro t ht
 simp only [List.mem_singleton] at ht
 subst ht
 refine ⟨0,gPow,var_lt gPow hv2,?_⟩
 show W.var? PP _=_
 rw [hv2,←Lib.cells_of_tab uPow1 uPow2 uPow3 cPow hd2]
end Go.Ey.Pr

set_option maxHeartbeats 4000000
namespace Go.Ey.Pr
open Go.Ey Go.Ey.Seat
def mm2 (a:Nat):List At:=[.n a 0,.n a 1]
def mm7 (a:Nat):List At:=[.n a 0,.n a 1,.n a 2,.n a 3,.n a 4,.n a 5,.n a 6]
def mm11 (a:Nat):List At:=[.n a 0,.n a 1,.n a 2,.n a 3,.n a 4,.n a 5,.n a 6,.n a 7,.n a 8,.n a 9,.n a 10]
def es:At:=.k (.string ⟨#[]⟩)
def i0:At:=.k (.int .i64 0)
def i1:At:=.k (.int .i64 1)
def ec:TW:=.c es
def ic:TW:=.c i0
def zc:TW:=.c .z
def t20:TFun:=⟨[.one],[],
 .ret [(.agg (.lit [(.k (.string ⟨#[108,105,115,112]⟩)),(.v 0)]))] [],
 []⟩
def t134:TFun:=⟨[],[],
 .opc (.lits 1 25 [(.k (.string ⟨#[99,97,114]⟩)),(.k (.string ⟨#[99,100,114]⟩)),(.k (.string ⟨#[99,111,110,115]⟩)),(.k (.string ⟨#[99,111,110,115,112]⟩)),(.k (.string ⟨#[110,111,116]⟩)),(.k (.string ⟨#[101,113,117,97,108]⟩)),(.k (.string ⟨#[105,102]⟩)),(.k (.string ⟨#[98,105,110,97,114,121,45,43]⟩)),(.k (.string ⟨#[60]⟩)),(.k (.string ⟨#[105,110,116,101,103,101,114,112]⟩)),(.k (.string ⟨#[108,101,110]⟩)),(.k (.string ⟨#[98,105,110,97,114,121,45,97,112,112,101,110,100]⟩)),(.k (.string ⟨#[114,101,118]⟩)),(.k (.string ⟨#[116,114,117,101,45,108,105,115,116,112]⟩)),(.k (.string ⟨#[110,97,116,112]⟩)),(.k (.string ⟨#[112,111,115,112]⟩)),(.k (.string ⟨#[117,110,97,114,121,45,45]⟩)),(.k (.string ⟨#[98,105,110,97,114,121,45,42]⟩)),(.k (.string ⟨#[105,109,112,108,105,101,115]⟩)),(.k (.string ⟨#[115,121,109,98,111,108,112]⟩)),(.k (.string ⟨#[114,97,116,105,111,110,97,108,112]⟩)),(.k (.string ⟨#[102,105,120]⟩)),(.k (.string ⟨#[105,102,102]⟩)),(.k (.string ⟨#[110,102,105,120]⟩)),(.k (.string ⟨#[122,112]⟩))]) <|
 .ret [(.one (.v 0))] [],
 []⟩
def t135:TFun:=⟨[],[],
 .opc (.lits 1 8 [(.k (.string ⟨#[100,117,98]⟩)),(.k (.string ⟨#[115,97,109,101,45,108,101,110]⟩)),(.k (.string ⟨#[112,97,105,114,115]⟩)),(.k (.string ⟨#[100,117,98,115]⟩)),(.k (.string ⟨#[116,114,101,101]⟩)),(.k (.string ⟨#[101,118,101,110,115]⟩)),(.k (.string ⟨#[111,100,100,115]⟩)),(.k (.string ⟨#[120,111,114,50]⟩))]) <|
 .ret [(.one (.v 0))] [],
 []⟩
def t22:TFun:=⟨[],[],
 .call 19 [(.v (.one (.k (.string ⟨#[101,118]⟩))))] [] [(some 2)] [] <|
 .ret [(.agg (.all 0))] [],
 []⟩
def t139:TFun:=⟨[.one],[],
 .ret [(.agg (.lit [(.k (.string ⟨#[108,105,115,112]⟩)),(.v 0)]))] [],
 []⟩
def t65:TFun:=⟨[.one],[],
 .call 139 [(.v (.one (.v 0)))] [] [(some 2)] [] <|
 .ret [(.agg (.all 1))] [],
 []⟩
def t76:TFun:=⟨[.one],[],
 .call 94 [(.v (.one (.v 0)))] [] [(some 2)] [] <|
 .ret [(.agg (.all 1))] [],
 []⟩
def t71:TFun:=⟨[.one],[],
 .call 76 [(.v (.one (.v 0)))] [] [(some 2)] [] <|
 .call 87 [(.v (.agg (.all 1)))] [] [(some 11)] [] <|
 .ret [(.agg (.all 2))] [],
 []⟩
def t137:TFun:=⟨[.one],[],
 .call 139 [(.v (.one (.v 0)))] [] [(some 2)] [] <|
 .call 169 [(.v (.agg (.all 1)))] [] [(some 11)] [] <|
 .ret [(.agg (.all 2))] [],
 []⟩
def t57:TFun:=⟨[],[],
 .call 137 [(.v (.one (.k (.string ⟨#[120]⟩))))] [] [(some 11)] [] <|
 .ret [(.agg (.all 0))] [],
 []⟩
def t58:TFun:=⟨[],[],
 .call 137 [(.v (.one (.k (.string ⟨#[97]⟩))))] [] [(some 11)] [] <|
 .ret [(.agg (.all 0))] [],
 []⟩
def t140:TFun:=⟨[.agg 7],[],
 .call 151 [(.v (.agg (.all 0)))] [] [(some 11)] [] <|
 .ret [(.agg (.all 1))] [],
 []⟩
def t66:TFun:=⟨[],[],
 .call 121 [] [] [(some 7)] [] <|
 .call 140 [(.v (.agg (.all 0)))] [] [(some 11)] [] <|
 .ret [(.agg (.all 1))] [],
 []⟩
def t80:TFun:=⟨[],[],
 .call 145 [] [] [(some 7)] [] <|
 .call 140 [(.v (.agg (.all 0)))] [] [(some 11)] [] <|
 .ret [(.agg (.all 1))] [],
 []⟩
def t81:TFun:=⟨[],[],
 .call 44 [] [] [(some 7)] [] <|
 .call 83 [(.v (.agg (.all 0)))] [] [(some 11)] [] <|
 .ret [(.agg (.all 1))] [],
 []⟩
def t82:TFun:=⟨[.agg 2],[],
 .call 49 [(.v (.agg (.all 0)))] [] [(some 7)] [] <|
 .call 83 [(.v (.agg (.all 1)))] [] [(some 11)] [] <|
 .ret [(.agg (.all 2))] [],
 []⟩
def t138:TFun:=⟨[.agg 2],[],
 .call 119 [(.v (.agg (.all 0)))] [] [(some 7)] [] <|
 .call 151 [(.v (.agg (.all 1)))] [] [(some 11)] [] <|
 .ret [(.agg (.all 2))] [],
 []⟩
def t59:TFun:=⟨[.one,.one],[],
 .call 136 [(.v (.agg (.lit [(.k (.string ⟨#[108,105,115,112]⟩)),(.v 0)]))),(.v (.one (.v 1)))] [] [(some 11)] [] <|
 .ret [(.agg (.all 2))] [],
 []⟩
def t60:TFun:=⟨[.agg 11,.agg 11],[],
 .opc (.lits 11 2 (mm11 0++mm11 1)) <|
 .call 59 [(.v (.one (.k (.string ⟨#[105,109,112,108,105,101,115]⟩)))),(.v (.one (.v 2)))] [] [(some 11)] [] <|
 .ret [(.agg (.all 3))] [],
 []⟩
def t61:TFun:=⟨[.agg 11,.agg 11],[],
 .opc (.lits 11 2 (mm11 0++mm11 1)) <|
 .call 59 [(.v (.one (.k (.string ⟨#[101,113,117,97,108]⟩)))),(.v (.one (.v 2)))] [] [(some 11)] [] <|
 .ret [(.agg (.all 3))] [],
 []⟩
def t63:TFun:=⟨[.agg 11,.agg 11,.agg 11],[],
 .opc (.lits 11 3 (mm11 0++mm11 1++mm11 2)) <|
 .call 59 [(.v (.one (.k (.string ⟨#[105,102]⟩)))),(.v (.one (.v 3)))] [] [(some 11)] [] <|
 .ret [(.agg (.all 4))] [],
 []⟩
def t56:TFun:=⟨[.agg 2,.agg 11,.agg 11],[],
 .opc (.lits 11 2 (mm11 1++mm11 2)) <|
 .call 136 [(.v (.agg (.all 0))),(.v (.one (.v 3)))] [] [(some 11)] [] <|
 .ret [(.agg (.all 4))] [],
 []⟩
def t62:TFun:=⟨[],[],
 .call 57 [] [] [(some 11)] [] <|
 .call 57 [] [] [(some 11)] [] <|
 .call 58 [] [] [(some 11)] [] <|
 .opc (.lits 11 2 (mm11 1++mm11 2)) <|
 .call 59 [(.v (.one (.k (.string ⟨#[97,115,115,111,99,45,101,113,117,97,108]⟩)))),(.v (.one (.v 3)))] [] [(some 11)] [] <|
 .opc (.lits 11 1 (mm11 4)) <|
 .call 59 [(.v (.one (.k (.string ⟨#[99,100,114]⟩)))),(.v (.one (.v 5)))] [] [(some 11)] [] <|
 .call 66 [] [] [(some 11)] [] <|
 .call 63 [(.v (.agg (.all 0))),(.v (.agg (.all 6))),(.v (.agg (.all 7)))] [] [(some 11)] [] <|
 .ret [(.agg (.all 8))] [],
 []⟩
def t73:TFun:=⟨[.one,.one],[],
 .call 94 [(.v (.one (.v 0)))] [] [(some 2)] [] <|
 .call 72 [(.v (.agg (.all 2))),(.v (.one (.v 1)))] [] [(some 11)] [] <|
 .ret [(.agg (.all 3))] [],
 []⟩
def t74:TFun:=⟨[],[],
 .call 71 [(.v (.one (.k (.string ⟨#[120]⟩))))] [] [(some 11)] [] <|
 .call 71 [(.v (.one (.k (.string ⟨#[97]⟩))))] [] [(some 11)] [] <|
 .opc (.lits 11 2 (mm11 0++mm11 1)) <|
 .call 73 [(.v (.one (.k (.string ⟨#[97,115,115,111,99,45,101,113,117,97,108]⟩)))),(.v (.one (.v 2)))] [] [(some 11)] [] <|
 .opc (.lits 11 1 (mm11 3)) <|
 .call 73 [(.v (.one (.k (.string ⟨#[99,100,114]⟩)))),(.v (.one (.v 4)))] [] [(some 11)] [] <|
 .call 81 [] [] [(some 11)] [] <|
 .opc (.lits 11 3 (mm11 0++mm11 5++mm11 6)) <|
 .call 73 [(.v (.one (.k (.string ⟨#[105,102]⟩)))),(.v (.one (.v 7)))] [] [(some 11)] [] <|
 .ret [(.agg (.all 8))] [],
 []⟩
def t64:TFun:=⟨[.agg 2],[],
 .call 57 [] [] [(some 11)] [] <|
 .opc (.lits 11 1 (mm11 1)) <|
 .call 59 [(.v (.one (.k (.string ⟨#[99,97,114]⟩)))),(.v (.one (.v 2)))] [] [(some 11)] [] <|
 .call 138 [(.v (.agg (.all 0)))] [] [(some 11)] [] <|
 .call 61 [(.v (.agg (.all 3))),(.v (.agg (.all 4)))] [] [(some 11)] [] <|
 .ret [(.agg (.all 5))] [],
 []⟩
def t75:TFun:=⟨[.agg 2],[],
 .call 71 [(.v (.one (.k (.string ⟨#[120]⟩))))] [] [(some 11)] [] <|
 .opc (.lits 11 1 (mm11 1)) <|
 .call 73 [(.v (.one (.k (.string ⟨#[99,111,110,115,112]⟩)))),(.v (.one (.v 2)))] [] [(some 11)] [] <|
 .opc (.lits 11 1 (mm11 1)) <|
 .call 73 [(.v (.one (.k (.string ⟨#[99,97,114]⟩)))),(.v (.one (.v 4)))] [] [(some 11)] [] <|
 .call 82 [(.v (.agg (.all 0)))] [] [(some 11)] [] <|
 .opc (.lits 11 2 (mm11 5++mm11 6)) <|
 .call 73 [(.v (.one (.k (.string ⟨#[101,113,117,97,108]⟩)))),(.v (.one (.v 7)))] [] [(some 11)] [] <|
 .call 81 [] [] [(some 11)] [] <|
 .opc (.lits 11 3 (mm11 3++mm11 8++mm11 9)) <|
 .call 73 [(.v (.one (.k (.string ⟨#[105,102]⟩)))),(.v (.one (.v 10)))] [] [(some 11)] [] <|
 .ret [(.agg (.all 11))] [],
 []⟩
def t141:TFun:=⟨[.agg 11,.one],[],
 .goto 0 [(.c (.v 1)),ic,(.l (.all 0)),ic,ec,ec,ic,ec,ec,ec,ec,ec,zc,zc],
 [.opc (.bin .lss false (.v 1) (.v 0)) <|
 .ite (.v 14)
 (.opc (.lits 11 1 (mm11 2)) <|
 .call 59 [(.v (.one (.k (.string ⟨#[99,100,114]⟩)))),(.v (.one (.v 15)))] [] [(some 11)] [] <|
 .opc (.bin .add false (.v 1) i1) <|
 .goto 0 [(.c (.v 0)),(.c (.v 17)),(.l (.all 16)),(.c (.v 3)),(.c (.v 4)),(.c (.v 5)),(.c (.v 6)),(.c (.v 7)),(.c (.v 8)),(.c (.v 9)),(.c (.v 10)),(.c (.v 11)),(.c (.v 12)),(.c (.v 13))])
 (.ret [(.agg (.all 2))] [])]⟩
def t67:TFun:=⟨[.agg 11,.one],[],
 .opc (.bin .add false (.v 1) i1) <|
 .call 141 [(.v (.agg (.all 0))),(.v (.one (.v 2)))] [] [(some 11)] [] <|
 .opc (.lits 11 1 (mm11 3)) <|
 .call 59 [(.v (.one (.k (.string ⟨#[99,97,114]⟩)))),(.v (.one (.v 4)))] [] [(some 11)] [] <|
 .ret [(.agg (.all 5))] [],
 []⟩
def t77:TFun:=⟨[.one],[],
 .call 71 [(.v (.one (.k (.string ⟨#[120]⟩))))] [] [(some 11)] [] <|
 .opc (.lits 11 1 (mm11 1)) <|
 .call 73 [(.v (.one (.k (.string ⟨#[99,100,114]⟩)))),(.v (.one (.v 2)))] [] [(some 11)] [] <|
 .goto 0 [(.c (.v 0)),ic,ic,ec,ec,ic,ec,ec,ec,ec,ec,zc,zc,(.l (.all 3))],
 [.opc (.bin .lss false (.v 1) (.v 0)) <|
 .ite (.v 14)
 (.opc (.lits 11 1 (mm11 13)) <|
 .call 73 [(.v (.one (.k (.string ⟨#[99,100,114]⟩)))),(.v (.one (.v 15)))] [] [(some 11)] [] <|
 .opc (.bin .add false (.v 1) i1) <|
 .goto 0 [(.c (.v 0)),(.c (.v 17)),(.c (.v 2)),(.c (.v 3)),(.c (.v 4)),(.c (.v 5)),(.c (.v 6)),(.c (.v 7)),(.c (.v 8)),(.c (.v 9)),(.c (.v 10)),(.c (.v 11)),(.c (.v 12)),(.l (.all 16))])
 (.opc (.lits 11 1 (mm11 13)) <|
 .call 73 [(.v (.one (.k (.string ⟨#[99,97,114]⟩)))),(.v (.one (.v 15)))] [] [(some 11)] [] <|
 .ret [(.agg (.all 16))] [])]⟩
def t69:TFun:=⟨[.agg 2,.agg 2,.one],[],
 .goto 0 [(.c (.v 2)),ic,(.l (.all 0)),(.l (.all 1)),ic,ec,ec,ic,ec,ec,ec,ec,ec,zc,zc,zc],
 [.opc (.bin .lss false (.v 1) (.v 0)) <|
 .ite (.v 16)
 (.call 57 [] [] [(some 11)] [] <|
 .call 67 [(.v (.agg (.all 17))),(.v (.one (.v 1)))] [] [(some 11)] [] <|
 .call 58 [] [] [(some 11)] [] <|
 .call 56 [(.v (.agg (.all 2))),(.v (.agg (.all 18))),(.v (.agg (.all 19)))] [] [(some 11)] [] <|
 .opc (.lits 11 1 (mm11 20)) <|
 .opc (.app 11 176 (.v 15) (.v 21)) <|
 .opc (.bin .add false (.v 1) i1) <|
 .goto 0 [(.c (.v 0)),(.c (.v 23)),(.l (.all 2)),(.l (.all 3)),(.c (.v 4)),(.c (.v 5)),(.c (.v 6)),(.c (.v 7)),(.c (.v 8)),(.c (.v 9)),(.c (.v 10)),(.c (.v 11)),(.c (.v 12)),(.c (.v 13)),(.c (.v 14)),(.c (.v 22))])
 (.call 136 [(.v (.agg (.all 3))),(.v (.one (.v 15)))] [] [(some 11)] [] <|
 .ret [(.agg (.all 17))] [])]⟩
def t79:TFun:=⟨[.agg 2,.agg 2,.one],[],
 .goto 0 [(.c (.v 2)),ic,(.l (.all 0)),(.l (.all 1)),ic,ec,ec,ic,ec,ec,ec,ec,ec,zc,zc,zc],
 [.opc (.bin .lss false (.v 1) (.v 0)) <|
 .ite (.v 16)
 (.call 77 [(.v (.one (.v 1)))] [] [(some 11)] [] <|
 .call 71 [(.v (.one (.k (.string ⟨#[97]⟩))))] [] [(some 11)] [] <|
 .opc (.lits 11 2 (mm11 17++mm11 18)) <|
 .call 72 [(.v (.agg (.all 2))),(.v (.one (.v 19)))] [] [(some 11)] [] <|
 .opc (.lits 11 1 (mm11 20)) <|
 .opc (.app 11 176 (.v 15) (.v 21)) <|
 .opc (.bin .add false (.v 1) i1) <|
 .goto 0 [(.c (.v 0)),(.c (.v 23)),(.l (.all 2)),(.l (.all 3)),(.c (.v 4)),(.c (.v 5)),(.c (.v 6)),(.c (.v 7)),(.c (.v 8)),(.c (.v 9)),(.c (.v 10)),(.c (.v 11)),(.c (.v 12)),(.c (.v 13)),(.c (.v 14)),(.c (.v 22))])
 (.call 72 [(.v (.agg (.all 3))),(.v (.one (.v 15)))] [] [(some 11)] [] <|
 .ret [(.agg (.all 17))] [])]⟩
def t55:TFun:=⟨[.one,.one],[],
 .opc (.len false (.v 1)) <|
 .goto 0 [(.c (.v 0)),(.c (.v 1)),(.c (.v 1)),(.c (.v 2)),ic],
 [.opc (.bin .lss false (.v 4) (.v 3)) <|
 .ite (.v 5)
 (.row 2 (.v 2) (.v 4) <|
 .call 68 [(.v (.one (.v 0))),(.v (.agg (.all 6)))] [] [none,none] [] <|
 .opc (.un .not (.v 8)) <|
 .ite (.v 9)
 (.ret [(.one (.k (.int .i64 7)))] [])
 (.call 65 [(.v (.one (.k (.string ⟨#[113,117,111,116,101]⟩))))] [] [(some 2)] [] <|
 .opc (.eqs [1,1] false (.all 6) (.all 10)) <|
 .ite (.v 11)
 (.ret [(.one (.k (.int .i64 7)))] [])
 (.opc (.sub 2 (.v 1) none (some (.v 4))) <|
 .opc (.len false (.v 12)) <|
 .goto 1 [(.c (.v 0)),(.c (.v 1)),(.c (.v 2)),(.c (.v 3)),(.c (.v 4)),(.c (.v 12)),(.c (.v 13)),ic,(.l (.all 6))])))
 (.ret [(.one i0)] []),
 .opc (.bin .lss false (.v 7) (.v 6)) <|
 .ite (.v 9)
 (.row 2 (.v 5) (.v 7) <|
 .opc (.eqs [1,1] false (.all 8) (.all 10)) <|
 .ite (.v 11)
 (.ret [(.one (.k (.int .i64 4)))] [])
 (.opc (.bin .add false (.v 7) i1) <|
 .goto 1 [(.c (.v 0)),(.c (.v 1)),(.c (.v 2)),(.c (.v 3)),(.c (.v 4)),(.c (.v 5)),(.c (.v 6)),(.c (.v 12)),(.l (.all 8))]))
 (.opc (.bin .add false (.v 4) i1) <|
 .goto 0 [(.c (.v 0)),(.c (.v 1)),(.c (.v 2)),(.c (.v 3)),(.c (.v 10))])]⟩
def t70:TFun:=⟨[.one,.one],[],
 .goto 0 [(.c (.v 0)),(.c (.v 1)),ic],
 [.opc (.len false (.v 1)) <|
 .opc (.bin .lss false (.v 2) (.v 3)) <|
 .ite (.v 4)
 (.row 2 (.v 1) (.v 2) <|
 .call 78 [(.v (.one (.v 0))),(.v (.agg (.all 5)))] [] [none,none] [] <|
 .opc (.un .not (.v 7)) <|
 .ite (.v 8)
 (.ret [(.one (.k (.int .i64 7)))] [])
 (.row 2 (.v 1) (.v 2) <|
 .call 76 [(.v (.one (.k (.string ⟨#[113,117,111,116,101]⟩))))] [] [(some 2)] [] <|
 .opc (.eqs [1,1] false (.all 9) (.all 10)) <|
 .ite (.v 11)
 (.ret [(.one (.k (.int .i64 7)))] [])
 (.goto 1 [(.c (.v 0)),(.c (.v 1)),(.c (.v 2)),ic])))
 (.ret [(.one i0)] []),
 .opc (.bin .lss false (.v 3) (.v 2)) <|
 .ite (.v 4)
 (.row 2 (.v 1) (.v 3) <|
 .row 2 (.v 1) (.v 2) <|
 .opc (.eqs [1,1] false (.all 5) (.all 6)) <|
 .ite (.v 7)
 (.ret [(.one (.k (.int .i64 4)))] [])
 (.opc (.bin .add false (.v 3) i1) <|
 .goto 1 [(.c (.v 0)),(.c (.v 1)),(.c (.v 2)),(.c (.v 8))]))
 (.opc (.bin .add false (.v 2) i1) <|
 .goto 0 [(.c (.v 0)),(.c (.v 1)),(.c (.v 5))])]⟩
def t18:TFun:=⟨[.one],[],
 .call 20 [(.v (.one (.k (.string ⟨#[105,102]⟩))))] [] [(some 2)] [] <|
 .call 20 [(.v (.one (.k (.string ⟨#[110,111,116]⟩))))] [] [(some 2)] [] <|
 .opc (.lits 2 2 (mm2 1++mm2 2)) <|
 .call 54 [] [] [none] [] <|
 .goto 0 [(.c (.v 0)),(.c (.v 4)),ic,(.c (.v 3))],
 [.opc (.len false (.v 0)) <|
 .opc (.bin .lss false (.v 2) (.v 4)) <|
 .ite (.v 5)
 (.row 1 (.v 0) (.v 2) <|
 .opc (.conv .i64 (.n 6 0)) <|
 .opc (.len false (.v 1)) <|
 .opc (.bin .rem false (.v 7) (.v 8)) <|
 .row 2 (.v 1) (.v 9) <|
 .goto 1 [(.c (.v 0)),(.c (.v 1)),(.c (.v 2)),(.c (.k (.bool false))),ic,(.c (.v 3)),(.l (.all 10))])
 (.ret [(.one (.v 3))] []),
 .opc (.len false (.v 5)) <|
 .opc (.bin .lss false (.v 4) (.v 7)) <|
 .ite (.v 8)
 (.ite (.v 3)
 (.opc (.bin .add false (.v 4) i1) <|
 .goto 1 [(.c (.v 0)),(.c (.v 1)),(.c (.v 2)),(.c (.k (.bool true))),(.c (.v 9)),(.c (.v 5)),(.l (.all 6))])
 (.row 2 (.v 5) (.v 4) <|
 .row 2 (.v 5) (.v 4) <|
 .opc (.eqs [1,1] false (.all 10) (.all 6)) <|
 .opc (.bin .add false (.v 4) i1) <|
 .goto 1 [(.c (.v 0)),(.c (.v 1)),(.c (.v 2)),(.c (.v 11)),(.c (.v 12)),(.c (.v 5)),(.l (.all 6))]))
 (.opc (.un .not (.v 3)) <|
 .ite (.v 9)
 (.opc (.lits 2 1 (mm2 6)) <|
 .opc (.app 2 32 (.v 5) (.v 10)) <|
 .opc (.bin .add false (.v 2) i1) <|
 .goto 0 [(.c (.v 0)),(.c (.v 1)),(.c (.v 12)),(.c (.v 11))])
 (.opc (.bin .add false (.v 2) i1) <|
 .goto 0 [(.c (.v 0)),(.c (.v 1)),(.c (.v 10)),(.c (.v 5))]))]⟩
def t54:TFun:=⟨[],[],
 .call 134 [] [] [none] [] <|
 .call 135 [] [] [none] [] <|
 .goto 0 [(.c (.v 0)),(.c (.v 1)),ic,zc],
 [.opc (.len false (.v 0)) <|
 .opc (.bin .lss false (.v 2) (.v 4)) <|
 .ite (.v 5)
 (.row 1 (.v 0) (.v 2) <|
 .call 20 [(.v (.one (.n 6 0)))] [] [(some 2)] [] <|
 .opc (.lits 2 1 (mm2 7)) <|
 .opc (.app 2 32 (.v 3) (.v 8)) <|
 .opc (.bin .add false (.v 2) i1) <|
 .goto 0 [(.c (.v 0)),(.c (.v 1)),(.c (.v 10)),(.c (.v 9))])
 (.goto 1 [(.c (.v 1)),ic,(.c (.v 3))]),
 .opc (.len false (.v 0)) <|
 .opc (.bin .lss false (.v 1) (.v 3)) <|
 .ite (.v 4)
 (.row 1 (.v 0) (.v 1) <|
 .call 19 [(.v (.one (.n 5 0)))] [] [(some 2)] [] <|
 .opc (.lits 2 1 (mm2 6)) <|
 .opc (.app 2 32 (.v 2) (.v 7)) <|
 .opc (.bin .add false (.v 1) i1) <|
 .goto 1 [(.c (.v 0)),(.c (.v 9)),(.c (.v 8))])
 (.ret [(.one (.v 2))] [])]⟩
def t27:TFun:=⟨[.agg 37,.agg 37],[],
 .opc (.eqs [1,1] true (.lit (mm2 0)) (.lit (mm2 1))) <|
 .ite (.v 2)
 (.ret [(.one (.k (.bool false)))] [])
 (.opc (.bin .neq false (.n 0 3) (.n 1 3)) <|
 .ite (.v 3)
 (.ret [(.one (.k (.bool false)))] [])
 (.opc (.len false (.n 0 2)) <|
 .opc (.len false (.n 1 2)) <|
 .opc (.bin .neq false (.v 4) (.v 5)) <|
 .ite (.v 6)
 (.ret [(.one (.k (.bool false)))] [])
 (.goto 0 [ic,(.l (.all 0)),(.l (.all 1))]))),
 [.opc (.len false (.n 1 2)) <|
 .opc (.bin .lss false (.v 0) (.v 3)) <|
 .ite (.v 4)
 (.row 2 (.n 1 2) (.v 0) <|
 .row 2 (.n 2 2) (.v 0) <|
 .opc (.eqs [1,1] true (.all 5) (.all 6)) <|
 .ite (.v 7)
 (.ret [(.one (.k (.bool false)))] [])
 (.opc (.bin .add false (.v 0) i1) <|
 .goto 0 [(.c (.v 8)),(.l (.all 1)),(.l (.all 2))]))
 (.call 84 [(.v (.agg (.lit [(.n 1 4),(.n 1 5),(.n 1 6),(.n 1 7),(.n 1 8),(.n 1 9),(.n 1 10),(.n 1 11),(.n 1 12),(.n 1 13),(.n 1 14)]))),(.v (.agg (.lit [(.n 2 4),(.n 2 5),(.n 2 6),(.n 2 7),(.n 2 8),(.n 2 9),(.n 2 10),(.n 2 11),(.n 2 12),(.n 2 13),(.n 2 14)])))] [] [none] [] <|
 .ite (.v 5)
 (.call 84 [(.v (.agg (.lit [(.n 1 15),(.n 1 16),(.n 1 17),(.n 1 18),(.n 1 19),(.n 1 20),(.n 1 21),(.n 1 22),(.n 1 23),(.n 1 24),(.n 1 25)]))),(.v (.agg (.lit [(.n 2 15),(.n 2 16),(.n 2 17),(.n 2 18),(.n 2 19),(.n 2 20),(.n 2 21),(.n 2 22),(.n 2 23),(.n 2 24),(.n 2 25)])))] [] [none] [] <|
 .ite (.v 6)
 (.call 84 [(.v (.agg (.lit [(.n 1 26),(.n 1 27),(.n 1 28),(.n 1 29),(.n 1 30),(.n 1 31),(.n 1 32),(.n 1 33),(.n 1 34),(.n 1 35),(.n 1 36)]))),(.v (.agg (.lit [(.n 2 26),(.n 2 27),(.n 2 28),(.n 2 29),(.n 2 30),(.n 2 31),(.n 2 32),(.n 2 33),(.n 2 34),(.n 2 35),(.n 2 36)])))] [] [none] [] <|
 .ret [(.one (.v 7))] [])
 (.ret [(.one (.k (.bool false)))] []))
 (.ret [(.one (.k (.bool false)))] []))]⟩
def u5_0:Tree:=.call 26 [(.v (.one (.v 15))),(.v (.one (.v 18)))] [] [none] [] <|
 .ite (.v 28) (.call 27 [(.v (.agg (.all 21))),(.v (.agg (.all 24)))] [] [none] [] <|
 .ret [(.one (.v 29))] []) (.ret [(.one (.k (.bool false)))] [])
def u5_1:Tree:=.call 26 [(.v (.one (.v 15))),(.v (.one (.v 18)))] [] [none] [] <|
 .ite (.v 28) (.call 27 [(.v (.agg (.all 21))),(.v (.agg (.all 24)))] [] [none] [] <|
 .ret [(.one (.v 29))] []) (.ret [(.one (.k (.bool false)))] [])
def u5_2:Tree:=.call 26 [(.v (.one (.v 16))),(.v (.one (.v 19)))] [] [none] [] <|
 .ite (.v 29) (.call 27 [(.v (.agg (.all 22))),(.v (.agg (.all 25)))] [] [none] [] <|
 .ret [(.one (.v 30))] []) (.ret [(.one (.k (.bool false)))] [])
def u5_3:Tree:=.call 26 [(.v (.one (.v 13))),(.v (.one (.v 16)))] [] [none] [] <|
 .ite (.v 26) (.call 27 [(.v (.agg (.all 19))),(.v (.agg (.all 22)))] [] [none] [] <|
 .ret [(.one (.v 27))] []) (.ret [(.one (.k (.bool false)))] [])
def u5_4:Tree:=.call 20 [(.v (.one (.k (.string ⟨#[113,117,111,116,101]⟩))))] [] [(some 2)] [] <|
 .opc (.lits 2 1 (mm2 12)) <|
 .opc (.app 2 32 (.v 7) (.v 13)) <|
 .call 22 [] [] [(some 2)] [] <|
 .call 21 [(.v (.one (.v 6))),(.v (.agg (.all 15))),(.v (.one (.v 14)))] [] [none,none] [] <|
 .call 22 [] [] [(some 2)] [] <|
 .call 23 [(.v (.one (.v 6))),(.v (.agg (.all 18))),(.v (.one (.v 14)))] [] [none,none] [] <|
 .call 22 [] [] [(some 2)] [] <|
 .call 24 [(.v (.one (.v 6))),(.v (.agg (.all 21))),(.v (.one (.v 14)))] [] [(some 37),none] [] <|
 .call 22 [] [] [(some 2)] [] <|
 .call 25 [(.v (.one (.v 6))),(.v (.agg (.all 24))),(.v (.one (.v 14)))] [] [(some 37),none] [] <|
 .opc (.bin .eql false (.v 17) (.v 20)) <|
 .ite (.v 27) (.opc (.bin .eql false (.v 23) (.v 26)) <|
 .ite (.v 28) u5_2 (.ret [(.one (.k (.bool false)))] [])) (.ret [(.one (.k (.bool false)))] [])
def u5_5:Tree:=.call 22 [] [] [(some 2)] [] <|
 .call 21 [(.v (.one (.v 6))),(.v (.agg (.all 12))),(.v (.one (.v 7)))] [] [none,none] [] <|
 .call 22 [] [] [(some 2)] [] <|
 .call 23 [(.v (.one (.v 6))),(.v (.agg (.all 15))),(.v (.one (.v 7)))] [] [none,none] [] <|
 .call 22 [] [] [(some 2)] [] <|
 .call 24 [(.v (.one (.v 6))),(.v (.agg (.all 18))),(.v (.one (.v 7)))] [] [(some 37),none] [] <|
 .call 22 [] [] [(some 2)] [] <|
 .call 25 [(.v (.one (.v 6))),(.v (.agg (.all 21))),(.v (.one (.v 7)))] [] [(some 37),none] [] <|
 .opc (.bin .eql false (.v 14) (.v 17)) <|
 .ite (.v 24) (.opc (.bin .eql false (.v 20) (.v 23)) <|
 .ite (.v 25) u5_3 (.ret [(.one (.k (.bool false)))] [])) (.ret [(.one (.k (.bool false)))] [])
def u5_6:Tree:=.call 19 [(.v (.one (.k (.string ⟨#[117,110,107,110,111,119,110]⟩))))] [] [(some 2)] [] <|
 .opc (.lits 2 1 (mm2 11)) <|
 .opc (.app 2 32 (.v 7) (.v 12)) <|
 .call 22 [] [] [(some 2)] [] <|
 .call 21 [(.v (.one (.v 6))),(.v (.agg (.all 14))),(.v (.one (.v 13)))] [] [none,none] [] <|
 .call 22 [] [] [(some 2)] [] <|
 .call 23 [(.v (.one (.v 6))),(.v (.agg (.all 17))),(.v (.one (.v 13)))] [] [none,none] [] <|
 .call 22 [] [] [(some 2)] [] <|
 .call 24 [(.v (.one (.v 6))),(.v (.agg (.all 20))),(.v (.one (.v 13)))] [] [(some 37),none] [] <|
 .call 22 [] [] [(some 2)] [] <|
 .call 25 [(.v (.one (.v 6))),(.v (.agg (.all 23))),(.v (.one (.v 13)))] [] [(some 37),none] [] <|
 .opc (.bin .eql false (.v 16) (.v 19)) <|
 .ite (.v 26) (.opc (.bin .eql false (.v 22) (.v 25)) <|
 .ite (.v 27) u5_1 (.ret [(.one (.k (.bool false)))] [])) (.ret [(.one (.k (.bool false)))] [])
def u5_7:Tree:=.row 2 (.v 7) i0 <|
 .row 2 (.v 7) i0 <|
 .opc (.lits 2 1 (mm2 11)) <|
 .opc (.app 2 32 (.v 7) (.v 12)) <|
 .call 22 [] [] [(some 2)] [] <|
 .call 21 [(.v (.one (.v 6))),(.v (.agg (.all 14))),(.v (.one (.v 13)))] [] [none,none] [] <|
 .call 22 [] [] [(some 2)] [] <|
 .call 23 [(.v (.one (.v 6))),(.v (.agg (.all 17))),(.v (.one (.v 13)))] [] [none,none] [] <|
 .call 22 [] [] [(some 2)] [] <|
 .call 24 [(.v (.one (.v 6))),(.v (.agg (.all 20))),(.v (.one (.v 13)))] [] [(some 37),none] [] <|
 .call 22 [] [] [(some 2)] [] <|
 .call 25 [(.v (.one (.v 6))),(.v (.agg (.all 23))),(.v (.one (.v 13)))] [] [(some 37),none] [] <|
 .opc (.bin .eql false (.v 16) (.v 19)) <|
 .ite (.v 26) (.opc (.bin .eql false (.v 22) (.v 25)) <|
 .ite (.v 27) u5_0 (.ret [(.one (.k (.bool false)))] [])) (.ret [(.one (.k (.bool false)))] [])
def u5_8:Tree:=.call 7 [(.v (.one (.k (.int .u32 0))))] [] [none] [] <|
 .call 18 [(.v (.one (.v 0)))] [] [none] [] <|
 .opc (.bin .rem false (.v 1) (.k (.int .u8 8))) <|
 .opc (.bin .eql false (.v 8) (.k (.int .u8 1))) <|
 .ite (.v 9) u5_7 (.opc (.bin .eql false (.v 8) (.k (.int .u8 2))) <|
 .ite (.v 10) u5_6 (.opc (.bin .eql false (.v 8) (.k (.int .u8 3))) <|
 .ite (.v 11) u5_4 u5_5))
def hh5:List Tree:=[]
def u5:TFun:=⟨[.one,.one],[],.call 6 [] [] [none] [] <|
 .opc (.un .not (.v 2)) <|
 .ite (.v 3) (.ret [(.one (.k (.bool false)))] []) (.opc (.len false (.v 0)) <|
 .opc (.bin .gtr false (.v 4) (.k (.int .i64 10))) <|
 .ite (.v 5) (.ret [(.one (.k (.bool true)))] []) u5_8),hh5⟩
def u21_0:Tree:=.call 57 [] [] [(some 11)] [] <|
 .call 58 [] [] [(some 11)] [] <|
 .call 56 [(.v (.agg (.all 1))),(.v (.agg (.all 5))),(.v (.agg (.all 6)))] [] [(some 11)] [] <|
 .call 57 [] [] [(some 11)] [] <|
 .opc (.lits 11 1 (mm11 8)) <|
 .call 59 [(.v (.one (.k (.string ⟨#[99,111,110,115,112]⟩)))),(.v (.one (.v 9)))] [] [(some 11)] [] <|
 .call 57 [] [] [(some 11)] [] <|
 .opc (.lits 11 1 (mm11 11)) <|
 .call 59 [(.v (.one (.k (.string ⟨#[115,121,109,98,111,108,112]⟩)))),(.v (.one (.v 12)))] [] [(some 11)] [] <|
 .call 62 [] [] [(some 11)] [] <|
 .call 61 [(.v (.agg (.all 7))),(.v (.agg (.all 14)))] [] [(some 11)] [] <|
 .call 60 [(.v (.agg (.all 13))),(.v (.agg (.all 15)))] [] [(some 11)] [] <|
 .call 65 [(.v (.one (.k (.string ⟨#[113,117,111,116,101]⟩))))] [] [(some 2)] [] <|
 .call 64 [(.v (.agg (.all 17)))] [] [(some 11)] [] <|
 .call 66 [] [] [(some 11)] [] <|
 .call 63 [(.v (.agg (.all 10))),(.v (.agg (.all 18))),(.v (.agg (.all 19)))] [] [(some 11)] [] <|
 .call 57 [] [] [(some 11)] [] <|
 .call 67 [(.v (.agg (.all 21))),(.v (.one i0))] [] [(some 11)] [] <|
 .call 61 [(.v (.agg (.all 7))),(.v (.agg (.all 22)))] [] [(some 11)] [] <|
 .call 60 [(.v (.agg (.all 20))),(.v (.agg (.all 23)))] [] [(some 11)] [] <|
 .opc (.lits 11 2 (mm11 16++mm11 24)) <|
 .opc (.len false (.v 2)) <|
 .goto 0 [(.c (.v 0)),(.c (.v 2)),(.c (.v 26)),ic,(.l (.all 1)),(.l (.all 7)),(.l (.all 10)),(.c (.v 25))]
def h21_0:Tree:=.row 2 (.v 1) (.v 3) <|
 .call 68 [(.v (.one (.v 0))),(.v (.agg (.all 9)))] [] [none,none] [] <|
 .call 64 [(.v (.agg (.all 9)))] [] [(some 11)] [] <|
 .call 66 [] [] [(some 11)] [] <|
 .call 63 [(.v (.agg (.all 6))),(.v (.agg (.all 12))),(.v (.agg (.all 13)))] [] [(some 11)] [] <|
 .call 69 [(.v (.agg (.all 4))),(.v (.agg (.all 9))),(.v (.one (.v 10)))] [] [(some 11)] [] <|
 .call 61 [(.v (.agg (.all 5))),(.v (.agg (.all 15)))] [] [(some 11)] [] <|
 .call 60 [(.v (.agg (.all 14))),(.v (.agg (.all 16)))] [] [(some 11)] [] <|
 .opc (.lits 11 1 (mm11 17)) <|
 .opc (.app 11 176 (.v 7) (.v 18)) <|
 .opc (.bin .add false (.v 3) i1) <|
 .goto 0 [(.c (.v 0)),(.c (.v 1)),(.c (.v 2)),(.c (.v 20)),(.l (.all 4)),(.l (.all 5)),(.l (.all 6)),(.c (.v 19))]
def hh21:List Tree:=[.opc (.bin .lss false (.v 3) (.v 2)) <|
 .ite (.v 8) h21_0 (.ret [(.one (.v 7)),(.one i0)] [])]
def u21:TFun:=⟨[.one,.agg 2,.one],[],.call 55 [(.v (.one (.v 0))),(.v (.one (.v 2)))] [] [none] [] <|
 .opc (.bin .neq false (.v 3) i0) <|
 .ite (.v 4) (.ret [(.one .z),(.one (.v 3))] []) u21_0,hh21⟩
def u23_0:Tree:=.call 71 [(.v (.one (.k (.string ⟨#[120]⟩))))] [] [(some 11)] [] <|
 .call 71 [(.v (.one (.k (.string ⟨#[97]⟩))))] [] [(some 11)] [] <|
 .opc (.lits 11 2 (mm11 5++mm11 6)) <|
 .call 72 [(.v (.agg (.all 1))),(.v (.one (.v 7)))] [] [(some 11)] [] <|
 .opc (.lits 11 1 (mm11 5)) <|
 .call 73 [(.v (.one (.k (.string ⟨#[115,121,109,98,111,108,112]⟩)))),(.v (.one (.v 9)))] [] [(some 11)] [] <|
 .call 74 [] [] [(some 11)] [] <|
 .opc (.lits 11 2 (mm11 8++mm11 11)) <|
 .call 73 [(.v (.one (.k (.string ⟨#[101,113,117,97,108]⟩)))),(.v (.one (.v 12)))] [] [(some 11)] [] <|
 .opc (.lits 11 2 (mm11 10++mm11 13)) <|
 .call 73 [(.v (.one (.k (.string ⟨#[105,109,112,108,105,101,115]⟩)))),(.v (.one (.v 14)))] [] [(some 11)] [] <|
 .call 76 [(.v (.one (.k (.string ⟨#[113,117,111,116,101]⟩))))] [] [(some 2)] [] <|
 .call 75 [(.v (.agg (.all 16)))] [] [(some 11)] [] <|
 .call 77 [(.v (.one i0))] [] [(some 11)] [] <|
 .opc (.lits 11 2 (mm11 8++mm11 18)) <|
 .call 73 [(.v (.one (.k (.string ⟨#[101,113,117,97,108]⟩)))),(.v (.one (.v 19)))] [] [(some 11)] [] <|
 .opc (.lits 11 2 (mm11 17++mm11 20)) <|
 .call 73 [(.v (.one (.k (.string ⟨#[105,109,112,108,105,101,115]⟩)))),(.v (.one (.v 21)))] [] [(some 11)] [] <|
 .opc (.lits 11 2 (mm11 15++mm11 22)) <|
 .goto 0 [(.c (.v 0)),(.c (.v 2)),ic,(.l (.all 1)),(.l (.all 8)),(.c (.v 23))]
def h23_0:Tree:=.row 2 (.v 1) (.v 2) <|
 .call 78 [(.v (.one (.v 0))),(.v (.agg (.all 8)))] [] [none,none] [] <|
 .row 2 (.v 1) (.v 2) <|
 .call 75 [(.v (.agg (.all 11)))] [] [(some 11)] [] <|
 .row 2 (.v 1) (.v 2) <|
 .call 79 [(.v (.agg (.all 3))),(.v (.agg (.all 13))),(.v (.one (.v 9)))] [] [(some 11)] [] <|
 .opc (.lits 11 2 (mm11 4++mm11 14)) <|
 .call 73 [(.v (.one (.k (.string ⟨#[101,113,117,97,108]⟩)))),(.v (.one (.v 15)))] [] [(some 11)] [] <|
 .opc (.lits 11 2 (mm11 12++mm11 16)) <|
 .call 73 [(.v (.one (.k (.string ⟨#[105,109,112,108,105,101,115]⟩)))),(.v (.one (.v 17)))] [] [(some 11)] [] <|
 .opc (.lits 11 1 (mm11 18)) <|
 .opc (.app 11 176 (.v 5) (.v 19)) <|
 .opc (.bin .add false (.v 2) i1) <|
 .goto 0 [(.c (.v 0)),(.c (.v 1)),(.c (.v 21)),(.l (.all 3)),(.l (.all 4)),(.c (.v 20))]
def hh23:List Tree:=[.opc (.len false (.v 1)) <|
 .opc (.bin .lss false (.v 2) (.v 6)) <|
 .ite (.v 7) h23_0 (.ret [(.one (.v 5)),(.one i0)] [])]
def u23:TFun:=⟨[.one,.agg 2,.one],[],.call 70 [(.v (.one (.v 0))),(.v (.one (.v 2)))] [] [none] [] <|
 .opc (.bin .neq false (.v 3) i0) <|
 .ite (.v 4) (.ret [(.one .z),(.one (.v 3))] []) u23_0,hh23⟩
def u24_0:Tree:=.ret [(.agg (.lit [es,es,.z,i0,i0,es,es,i0,es,es,es,es,es,.z,.z,i0,es,es,i0,es,es,es,es,es,.z,.z,i0,es,es,i0,es,es,es,es,es,.z,.z])),(.one (.v 3))] []
def u24_1:Tree:=.call 66 [] [] [(some 11)] [] <|
 .opc (.len false (.v 2)) <|
 .opc (.bin .sub false (.v 6) i1) <|
 .goto 0 [(.c (.v 0)),(.c (.v 2)),(.c (.v 7)),(.l (.all 1)),ec,ec,zc,ic,ic,ec,ec,ic,ec,ec,ec,ec,ec,zc,zc,ic,ec,ec,ic,ec,ec,ec,ec,ec,zc,zc,ic,ec,ec,ic,ec,ec,ec,ec,ec,zc,zc,(.l (.all 5))]
def h24_0:Tree:=.row 2 (.v 1) (.v 2) <|
 .call 68 [(.v (.one (.v 0))),(.v (.agg (.all 43)))] [] [none,none] [] <|
 .row 2 (.v 1) (.v 2) <|
 .call 64 [(.v (.agg (.all 46)))] [] [(some 11)] [] <|
 .row 2 (.v 1) (.v 2) <|
 .call 69 [(.v (.agg (.all 3))),(.v (.agg (.all 48))),(.v (.one (.v 44)))] [] [(some 11)] [] <|
 .call 63 [(.v (.agg (.all 47))),(.v (.agg (.all 49))),(.v (.agg (.all 41)))] [] [(some 11)] [] <|
 .opc (.bin .sub false (.v 2) i1) <|
 .goto 0 [(.c (.v 0)),(.c (.v 1)),(.c (.v 51)),(.l (.all 3)),(.c (.v 4)),(.c (.v 5)),(.c (.v 6)),(.c (.v 7)),(.c (.v 8)),(.c (.v 9)),(.c (.v 10)),(.c (.v 11)),(.c (.v 12)),(.c (.v 13)),(.c (.v 14)),(.c (.v 15)),(.c (.v 16)),(.c (.v 17)),(.c (.v 18)),(.c (.v 19)),(.c (.v 20)),(.c (.v 21)),(.c (.v 22)),(.c (.v 23)),(.c (.v 24)),(.c (.v 25)),(.c (.v 26)),(.c (.v 27)),(.c (.v 28)),(.c (.v 29)),(.c (.v 30)),(.c (.v 31)),(.c (.v 32)),(.c (.v 33)),(.c (.v 34)),(.c (.v 35)),(.c (.v 36)),(.c (.v 37)),(.c (.v 38)),(.c (.v 39)),(.c (.v 40)),(.l (.all 50))]
def h24_1:Tree:=.call 65 [(.v (.one (.k (.string ⟨#[113,117,111,116,101]⟩))))] [] [(some 2)] [] <|
 .call 64 [(.v (.agg (.all 43)))] [] [(some 11)] [] <|
 .call 57 [] [] [(some 11)] [] <|
 .call 67 [(.v (.agg (.all 45))),(.v (.one i0))] [] [(some 11)] [] <|
 .call 63 [(.v (.agg (.all 44))),(.v (.agg (.all 46))),(.v (.agg (.all 41)))] [] [(some 11)] [] <|
 .call 57 [] [] [(some 11)] [] <|
 .opc (.lits 11 1 (mm11 48)) <|
 .call 59 [(.v (.one (.k (.string ⟨#[99,111,110,115,112]⟩)))),(.v (.one (.v 49)))] [] [(some 11)] [] <|
 .call 57 [] [] [(some 11)] [] <|
 .opc (.lits 11 1 (mm11 51)) <|
 .call 59 [(.v (.one (.k (.string ⟨#[115,121,109,98,111,108,112]⟩)))),(.v (.one (.v 52)))] [] [(some 11)] [] <|
 .call 62 [] [] [(some 11)] [] <|
 .call 66 [] [] [(some 11)] [] <|
 .call 63 [(.v (.agg (.all 53))),(.v (.agg (.all 54))),(.v (.agg (.all 55)))] [] [(some 11)] [] <|
 .call 63 [(.v (.agg (.all 50))),(.v (.agg (.all 47))),(.v (.agg (.all 56)))] [] [(some 11)] [] <|
 .call 65 [(.v (.one (.k (.string ⟨#[120]⟩))))] [] [(some 2)] [] <|
 .call 65 [(.v (.one (.k (.string ⟨#[97]⟩))))] [] [(some 2)] [] <|
 .opc (.lits 2 2 (mm2 58++mm2 59)) <|
 .call 80 [] [] [(some 11)] [] <|
 .call 57 [] [] [(some 11)] [] <|
 .opc (.lits 11 1 (mm11 62)) <|
 .call 59 [(.v (.one (.k (.string ⟨#[99,111,117,110,116]⟩)))),(.v (.one (.v 63)))] [] [(some 11)] [] <|
 .ret [(.agg (.lit [(.n 3 0),(.n 3 1),(.v 60),i1,(.n 61 0),(.n 61 1),(.n 61 2),(.n 61 3),(.n 61 4),(.n 61 5),(.n 61 6),(.n 61 7),(.n 61 8),(.n 61 9),(.n 61 10),(.n 57 0),(.n 57 1),(.n 57 2),(.n 57 3),(.n 57 4),(.n 57 5),(.n 57 6),(.n 57 7),(.n 57 8),(.n 57 9),(.n 57 10),(.n 64 0),(.n 64 1),(.n 64 2),(.n 64 3),(.n 64 4),(.n 64 5),(.n 64 6),(.n 64 7),(.n 64 8),(.n 64 9),(.n 64 10)])),(.one i0)] []
def hh24:List Tree:=[.opc (.bin .geq false (.v 2) i0) <|
 .ite (.v 42) h24_0 h24_1]
def u24:TFun:=⟨[.one,.agg 2,.one],[],.call 55 [(.v (.one (.v 0))),(.v (.one (.v 2)))] [] [none] [] <|
 .opc (.bin .neq false (.v 3) i0) <|
 .ite (.v 4) u24_0 u24_1,hh24⟩
def u25_0:Tree:=.ret [(.agg (.lit [es,es,.z,i0,i0,es,es,i0,es,es,es,es,es,.z,.z,i0,es,es,i0,es,es,es,es,es,.z,.z,i0,es,es,i0,es,es,es,es,es,.z,.z])),(.one (.v 3))] []
def u25_1:Tree:=.call 71 [(.v (.one (.k (.string ⟨#[120]⟩))))] [] [(some 11)] [] <|
 .call 81 [] [] [(some 11)] [] <|
 .opc (.len false (.v 2)) <|
 .opc (.bin .sub false (.v 7) i1) <|
 .goto 0 [(.c (.v 0)),(.c (.v 2)),(.c (.v 8)),(.l (.all 1)),ec,ec,zc,ic,ic,ec,ec,ic,ec,ec,ec,ec,ec,zc,zc,ic,ec,ec,ic,ec,ec,ec,ec,ec,zc,zc,ic,ec,ec,ic,ec,ec,ec,ec,ec,zc,zc,(.l (.all 5)),(.l (.all 6))]
def h25_0:Tree:=.row 2 (.v 1) (.v 2) <|
 .call 78 [(.v (.one (.v 0))),(.v (.agg (.all 44)))] [] [none,none] [] <|
 .opc (.lits 11 1 (mm11 41)) <|
 .call 73 [(.v (.one (.k (.string ⟨#[99,97,114]⟩)))),(.v (.one (.v 47)))] [] [(some 11)] [] <|
 .row 2 (.v 1) (.v 2) <|
 .call 82 [(.v (.agg (.all 49)))] [] [(some 11)] [] <|
 .opc (.lits 11 2 (mm11 48++mm11 50)) <|
 .call 73 [(.v (.one (.k (.string ⟨#[101,113,117,97,108]⟩)))),(.v (.one (.v 51)))] [] [(some 11)] [] <|
 .row 2 (.v 1) (.v 2) <|
 .call 79 [(.v (.agg (.all 3))),(.v (.agg (.all 53))),(.v (.one (.v 45)))] [] [(some 11)] [] <|
 .opc (.lits 11 3 (mm11 52++mm11 54++mm11 42)) <|
 .call 73 [(.v (.one (.k (.string ⟨#[105,102]⟩)))),(.v (.one (.v 55)))] [] [(some 11)] [] <|
 .opc (.bin .sub false (.v 2) i1) <|
 .goto 0 [(.c (.v 0)),(.c (.v 1)),(.c (.v 57)),(.l (.all 3)),(.c (.v 4)),(.c (.v 5)),(.c (.v 6)),(.c (.v 7)),(.c (.v 8)),(.c (.v 9)),(.c (.v 10)),(.c (.v 11)),(.c (.v 12)),(.c (.v 13)),(.c (.v 14)),(.c (.v 15)),(.c (.v 16)),(.c (.v 17)),(.c (.v 18)),(.c (.v 19)),(.c (.v 20)),(.c (.v 21)),(.c (.v 22)),(.c (.v 23)),(.c (.v 24)),(.c (.v 25)),(.c (.v 26)),(.c (.v 27)),(.c (.v 28)),(.c (.v 29)),(.c (.v 30)),(.c (.v 31)),(.c (.v 32)),(.c (.v 33)),(.c (.v 34)),(.c (.v 35)),(.c (.v 36)),(.c (.v 37)),(.c (.v 38)),(.c (.v 39)),(.c (.v 40)),(.l (.all 41)),(.l (.all 56))]
def h25_1:Tree:=.opc (.lits 11 1 (mm11 41)) <|
 .call 73 [(.v (.one (.k (.string ⟨#[99,97,114]⟩)))),(.v (.one (.v 44)))] [] [(some 11)] [] <|
 .call 76 [(.v (.one (.k (.string ⟨#[113,117,111,116,101]⟩))))] [] [(some 2)] [] <|
 .call 82 [(.v (.agg (.all 46)))] [] [(some 11)] [] <|
 .opc (.lits 11 2 (mm11 45++mm11 47)) <|
 .call 73 [(.v (.one (.k (.string ⟨#[101,113,117,97,108]⟩)))),(.v (.one (.v 48)))] [] [(some 11)] [] <|
 .call 77 [(.v (.one i0))] [] [(some 11)] [] <|
 .opc (.lits 11 3 (mm11 49++mm11 50++mm11 42)) <|
 .call 73 [(.v (.one (.k (.string ⟨#[105,102]⟩)))),(.v (.one (.v 51)))] [] [(some 11)] [] <|
 .opc (.lits 11 1 (mm11 41)) <|
 .call 73 [(.v (.one (.k (.string ⟨#[99,111,110,115,112]⟩)))),(.v (.one (.v 53)))] [] [(some 11)] [] <|
 .opc (.lits 11 1 (mm11 41)) <|
 .call 73 [(.v (.one (.k (.string ⟨#[115,121,109,98,111,108,112]⟩)))),(.v (.one (.v 55)))] [] [(some 11)] [] <|
 .call 74 [] [] [(some 11)] [] <|
 .call 81 [] [] [(some 11)] [] <|
 .opc (.lits 11 3 (mm11 56++mm11 57++mm11 58)) <|
 .call 73 [(.v (.one (.k (.string ⟨#[105,102]⟩)))),(.v (.one (.v 59)))] [] [(some 11)] [] <|
 .opc (.lits 11 3 (mm11 54++mm11 52++mm11 60)) <|
 .call 73 [(.v (.one (.k (.string ⟨#[105,102]⟩)))),(.v (.one (.v 61)))] [] [(some 11)] [] <|
 .call 76 [(.v (.one (.k (.string ⟨#[120]⟩))))] [] [(some 2)] [] <|
 .call 76 [(.v (.one (.k (.string ⟨#[97]⟩))))] [] [(some 2)] [] <|
 .opc (.lits 2 2 (mm2 63++mm2 64)) <|
 .call 46 [] [] [(some 7)] [] <|
 .call 83 [(.v (.agg (.all 66)))] [] [(some 11)] [] <|
 .opc (.lits 11 1 (mm11 41)) <|
 .call 73 [(.v (.one (.k (.string ⟨#[99,111,117,110,116]⟩)))),(.v (.one (.v 68)))] [] [(some 11)] [] <|
 .ret [(.agg (.lit [(.n 3 0),(.n 3 1),(.v 65),i1,(.n 67 0),(.n 67 1),(.n 67 2),(.n 67 3),(.n 67 4),(.n 67 5),(.n 67 6),(.n 67 7),(.n 67 8),(.n 67 9),(.n 67 10),(.n 62 0),(.n 62 1),(.n 62 2),(.n 62 3),(.n 62 4),(.n 62 5),(.n 62 6),(.n 62 7),(.n 62 8),(.n 62 9),(.n 62 10),(.n 69 0),(.n 69 1),(.n 69 2),(.n 69 3),(.n 69 4),(.n 69 5),(.n 69 6),(.n 69 7),(.n 69 8),(.n 69 9),(.n 69 10)])),(.one i0)] []
def hh25:List Tree:=[.opc (.bin .geq false (.v 2) i0) <|
 .ite (.v 43) h25_0 h25_1]
def u25:TFun:=⟨[.one,.agg 2,.one],[],.call 70 [(.v (.one (.v 0))),(.v (.one (.v 2)))] [] [none] [] <|
 .opc (.bin .neq false (.v 3) i0) <|
 .ite (.v 4) u25_0 u25_1,hh25⟩
section
variable {nat:Nat→List V→Option (List V)}
theorem tree20:(T nat).G.fn 20=some t20:=by kernel_rfl
theorem tree134:(T nat).G.fn 134=some t134:=by kernel_rfl
theorem tree135:(T nat).G.fn 135=some t135:=by kernel_rfl
theorem tree22:(T nat).G.fn 22=some t22:=by kernel_rfl
theorem tree139:(T nat).G.fn 139=some t139:=by kernel_rfl
theorem tree65:(T nat).G.fn 65=some t65:=by kernel_rfl
theorem tree76:(T nat).G.fn 76=some t76:=by kernel_rfl
theorem tree71:(T nat).G.fn 71=some t71:=by kernel_rfl
theorem tree137:(T nat).G.fn 137=some t137:=by kernel_rfl
theorem tree57:(T nat).G.fn 57=some t57:=by kernel_rfl
theorem tree58:(T nat).G.fn 58=some t58:=by kernel_rfl
theorem tree140:(T nat).G.fn 140=some t140:=by kernel_rfl
theorem tree66:(T nat).G.fn 66=some t66:=by kernel_rfl
theorem tree80:(T nat).G.fn 80=some t80:=by kernel_rfl
theorem tree81:(T nat).G.fn 81=some t81:=by kernel_rfl
theorem tree82:(T nat).G.fn 82=some t82:=by kernel_rfl
theorem tree138:(T nat).G.fn 138=some t138:=by kernel_rfl
theorem tree59:(T nat).G.fn 59=some t59:=by kernel_rfl
theorem tree60:(T nat).G.fn 60=some t60:=by kernel_rfl
theorem tree61:(T nat).G.fn 61=some t61:=by kernel_rfl
theorem tree63:(T nat).G.fn 63=some t63:=by kernel_rfl
theorem tree56:(T nat).G.fn 56=some t56:=by kernel_rfl
theorem tree62:(T nat).G.fn 62=some t62:=by kernel_rfl
theorem tree73:(T nat).G.fn 73=some t73:=by kernel_rfl
theorem tree74:(T nat).G.fn 74=some t74:=by kernel_rfl
theorem tree64:(T nat).G.fn 64=some t64:=by kernel_rfl
theorem tree75:(T nat).G.fn 75=some t75:=by kernel_rfl
theorem tree141:(T nat).G.fn 141=some t141:=by kernel_rfl
theorem tree67:(T nat).G.fn 67=some t67:=by kernel_rfl
theorem tree77:(T nat).G.fn 77=some t77:=by kernel_rfl
theorem tree69:(T nat).G.fn 69=some t69:=by kernel_rfl
theorem tree79:(T nat).G.fn 79=some t79:=by kernel_rfl
theorem tree55:(T nat).G.fn 55=some t55:=by kernel_rfl
theorem tree70:(T nat).G.fn 70=some t70:=by kernel_rfl
theorem tree18:(T nat).G.fn 18=some t18:=by kernel_rfl
theorem tree54:(T nat).G.fn 54=some t54:=by kernel_rfl
theorem tree27:(T nat).G.fn 27=some t27:=by kernel_rfl
theorem tree5:(T nat).G.fn 5=some u5:=by kernel_rfl
theorem tree21:(T nat).G.fn 21=some u21:=by kernel_rfl
theorem tree23:(T nat).G.fn 23=some u23:=by kernel_rfl
theorem tree24:(T nat).G.fn 24=some u24:=by kernel_rfl
theorem tree25:(T nat).G.fn 25=some u25:=by kernel_rfl
end
def zL:=And.intro zZ (And.intro @mm2.eq_1 (And.intro @mm7.eq_1 (And.intro @mm11.eq_1 (And.intro es.eq_1 (And.intro i0.eq_1 (And.intro i1.eq_1 (And.intro ec.eq_1 (And.intro ic.eq_1 zc.eq_1))))))))
end Go.Ey.Pr

set_option maxHeartbeats 4000000
namespace Go.Ey.Pr
open Go.Ey Go.Ey.Seat
theorem lits11q (t:Tm):litsC 11 1 [nthC (encT t) 0,nthC (encT t) 1,nthC (encT t) 2,nthC (encT t) 3,nthC (encT t) 4,nthC (encT t) 5,nthC (encT t) 6,nthC (encT t) 7,nthC (encT t) 8,nthC (encT t) 9,nthC (encT t) 10]=some (rows encT [t]):=by
 rw [nth11];simp [litsC,encT_len,roomMax,rows]
theorem lits22q (t u:Tm):litsC 11 2 [nthC (encT t) 0,nthC (encT t) 1,nthC (encT t) 2,nthC (encT t) 3,nthC (encT t) 4,nthC (encT t) 5,nthC (encT t) 6,nthC (encT t) 7,nthC (encT t) 8,nthC (encT t) 9,nthC (encT t) 10,nthC (encT u) 0,nthC (encT u) 1,nthC (encT u) 2,nthC (encT u) 3,nthC (encT u) 4,nthC (encT u) 5,nthC (encT u) 6,nthC (encT u) 7,nthC (encT u) 8,nthC (encT u) 9,nthC (encT u) 10]=some (rows encT [t,u]):=by
 have h:∀{a b:List C},a=encT t→b=encT u→litsC 11 2 (a++b)=some (rows encT [t,u]):=by
  rintro _ _ rfl rfl
  simp [litsC,encT_len,roomMax,rows]
 exact h (nth11 t) (nth11 u)
theorem lits33q (t u v:Tm):litsC 11 3 [nthC (encT t) 0,nthC (encT t) 1,nthC (encT t) 2,nthC (encT t) 3,nthC (encT t) 4,nthC (encT t) 5,nthC (encT t) 6,nthC (encT t) 7,nthC (encT t) 8,nthC (encT t) 9,nthC (encT t) 10,nthC (encT u) 0,nthC (encT u) 1,nthC (encT u) 2,nthC (encT u) 3,nthC (encT u) 4,nthC (encT u) 5,nthC (encT u) 6,nthC (encT u) 7,nthC (encT u) 8,nthC (encT u) 9,nthC (encT u) 10,nthC (encT v) 0,nthC (encT v) 1,nthC (encT v) 2,nthC (encT v) 3,nthC (encT v) 4,nthC (encT v) 5,nthC (encT v) 6,nthC (encT v) 7,nthC (encT v) 8,nthC (encT v) 9,nthC (encT v) 10]=some (rows encT [t,u,v]):=by
 have h:∀{a b c:List C},a=encT t→b=encT u→c=encT v→litsC 11 3 (a++(b++c))=some (rows encT [t,u,v]):=by
  rintro _ _ _ rfl rfl rfl
  simp [litsC,encT_len,roomMax,rows]
 exact h (nth11 t) (nth11 u) (nth11 v)
def vX:Tm:=.var lispB ⟨#[120]⟩
def vA:Tm:=.var lispB ⟨#[97]⟩
def nilT:Tm:=.con oNil
def lookT:Tm:=.app lispB ⟨#[105,102]⟩ [vX,.app lispB ⟨#[99,100,114]⟩ [.app lispB ⟨#[97,115,115,111,99,45,101,113,117,97,108]⟩ [vX,vA]],nilT]
def hdIs (p s:ByteArray):Tm:=.app lispB ⟨#[101,113,117,97,108]⟩ [.app lispB ⟨#[99,97,114]⟩ [vX],.con (.sy p s)]
def tailT (t:Tm):Nat→Tm
 |0=>t
 |k+1=> .app lispB ⟨#[99,100,114]⟩ [tailT t k]
theorem tailT_in (t:Tm):∀k,tailT (.app lispB ⟨#[99,100,114]⟩ [t]) k=tailT t (k+1)
 |0=>rfl
 |k+1=>by rw [tailT,tailT_in t k];rfl
def partT (i:Nat):Tm:=.app lispB ⟨#[99,97,114]⟩ [tailT vX (i+1)]
def callArgs (ep es:ByteArray) (n:Nat):List Tm:=(List.range n).map fun i=> .app ep es [partT i,vA]
def callT (ep es p s:ByteArray) (n:Nat):Tm:=.app p s (callArgs ep es n)
section
variable {nat:Nat→List V→Option (List V)}
theorem x20 (s:ByteArray):fnT (T nat).G 20 [.v (.one (cs s))] []=some ([.agg [cs lispB,cs s]],[]):=by
 rw [fnT_eq tree20]
 simp [t20,zL]
theorem x139 (s:ByteArray):fnT (T nat).G 139 [.v (.one (cs s))] []=some ([.agg [cs lispB,cs s]],[]):=by
 rw [fnT_eq tree139]
 simp [t139,zL]
theorem x65 (s:ByteArray):fnT (T nat).G 65 [.v (.one (cs s))] []=some ([.agg [cs lispB,cs s]],[]):=by
 rw [fnT_eq tree65]
 simp [t65,zL,x139]
theorem x76 (s:ByteArray):fnT (T nat).G 76 [.v (.one (cs s))] []=some ([.agg [cs lispB,cs s]],[]):=by
 rw [fnT_eq tree76]
 simp [t76,zL,x94]
theorem x22:fnT (T nat).G 22 [] []=some ([.agg [cs ⟨#[117,115,101,114]⟩,cs ⟨#[101,118]⟩]],[]):=by
 rw [fnT_eq tree22]
 simp [t22,zL,x19]
theorem x71 (s:ByteArray):fnT (T nat).G 71 [.v (.one (cs s))] []=some ([.agg (encT (.var lispB s))],[]):=by
 rw [fnT_eq tree71]
 simp [t71,zL,x76,x87,encT_len]
theorem x71x:fnT (T nat).G 71 [.v (.one (cs ⟨#[120]⟩))] []=some ([.agg (encT vX)],[]):=x71 _
theorem x71a:fnT (T nat).G 71 [.v (.one (cs ⟨#[97]⟩))] []=some ([.agg (encT vA)],[]):=x71 _
theorem x137 (s:ByteArray):fnT (T nat).G 137 [.v (.one (cs s))] []=some ([.agg (encT (.var lispB s))],[]):=by
 rw [fnT_eq tree137]
 simp [t137,zL,x139,x169,encT_len]
theorem x57:fnT (T nat).G 57 [] []=some ([.agg (encT vX)],[]):=by
 rw [fnT_eq tree57]
 simp [t57,zL,x137,encT_len]
 rfl
theorem x58:fnT (T nat).G 58 [] []=some ([.agg (encT vA)],[]):=by
 rw [fnT_eq tree58]
 simp [t58,zL,x137,encT_len]
 rfl
theorem x140 (o:Ob):fnT (T nat).G 140 [.v (.agg (enc o))] []=some ([.agg (encT (.con o))],[]):=by
 rw [fnT_eq tree140]
 simp [t140,zL,x151,enc_len,encT_len]
theorem x66:fnT (T nat).G 66 [] []=some ([.agg (encT nilT)],[]):=by
 rw [fnT_eq tree66]
 simp [t66,zL,x121,x140,enc_len,encT_len,nilT]
theorem x80:fnT (T nat).G 80 [] []=some ([.agg (encT (.con oT))],[]):=by
 rw [fnT_eq tree80]
 simp [t80,zL,x145,x140,enc_len,encT_len]
theorem x81:fnT (T nat).G 81 [] []=some ([.agg (encT nilT)],[]):=by
 rw [fnT_eq tree81]
 simp [t81,zL,x44,x83,enc_len,encT_len,nilT]
theorem x82 (p s:ByteArray):fnT (T nat).G 82 [.v (.agg [cs p,cs s])] []=some ([.agg (encT (.con (.sy p s)))],[]):=by
 rw [fnT_eq tree82]
 simp [t82,zL,x49,x83,enc_len,encT_len]
theorem x138 (p s:ByteArray):fnT (T nat).G 138 [.v (.agg [cs p,cs s])] []=some ([.agg (encT (.con (.sy p s)))],[]):=by
 rw [fnT_eq tree138]
 simp [t138,zL,x119,x151,enc_len,encT_len]
theorem x59 (s:ByteArray) (ts:List Tm):fnT (T nat).G 59 [.v (.one (cs s)),.v (.one (rows encT ts))] []=some ([.agg (encT (.app lispB s ts))],[]):=by
 rw [fnT_eq tree59]
 simp [t59,zL,x136,encT_len]
theorem x73 (s:ByteArray) (ts:List Tm):fnT (T nat).G 73 [.v (.one (cs s)),.v (.one (rows encT ts))] []=some ([.agg (encT (.app lispB s ts))],[]):=by
 rw [fnT_eq tree73]
 simp [t73,zL,x94,x72,encT_len]
theorem x60 (t u:Tm):fnT (T nat).G 60 [.v (.agg (encT t)),.v (.agg (encT u))] []=some ([.agg (encT (.app lispB ⟨#[105,109,112,108,105,101,115]⟩ [t,u]))],[]):=by
 rw [fnT_eq tree60]
 simp [t60,zL,lits22q,x59,encT_len]
theorem x61 (t u:Tm):fnT (T nat).G 61 [.v (.agg (encT t)),.v (.agg (encT u))] []=some ([.agg (encT (.app lispB ⟨#[101,113,117,97,108]⟩ [t,u]))],[]):=by
 rw [fnT_eq tree61]
 simp [t61,zL,lits22q,x59,encT_len]
theorem x63 (t u v:Tm):fnT (T nat).G 63 [.v (.agg (encT t)),.v (.agg (encT u)),.v (.agg (encT v))] []=some ([.agg (encT (.app lispB ⟨#[105,102]⟩ [t,u,v]))],[]):=by
 rw [fnT_eq tree63]
 simp [t63,zL,lits33q,x59,encT_len]
theorem x56 (p s:ByteArray) (t u:Tm):fnT (T nat).G 56 [.v (.agg [cs p,cs s]),.v (.agg (encT t)),.v (.agg (encT u))] []=some ([.agg (encT (.app p s [t,u]))],[]):=by
 rw [fnT_eq tree56]
 simp [t56,zL,lits22q,x136,encT_len]
theorem x62:fnT (T nat).G 62 [] []=some ([.agg (encT lookT)],[]):=by
 rw [fnT_eq tree62]
 simp (config := { maxSteps := 1000000 }) [t62,zL,x57,x58,lits22q,lits11q,x59,x66,x63,encT_len]
 rfl
theorem x74:fnT (T nat).G 74 [] []=some ([.agg (encT lookT)],[]):=by
 rw [fnT_eq tree74]
 simp (config := { maxSteps := 1000000 }) [t74,zL,x71x,x71a,lits22q,lits11q,lits33q,x73,x81,encT_len]
 rfl
theorem x64 (p s:ByteArray):fnT (T nat).G 64 [.v (.agg [cs p,cs s])] []=some ([.agg (encT (hdIs p s))],[]):=by
 rw [fnT_eq tree64]
 simp [t64,zL,x57,lits11q,x59,x138,x61,encT_len]
 rfl
theorem x75 (p s:ByteArray):fnT (T nat).G 75 [.v (.agg [cs p,cs s])] []=some ([.agg (encT (.app lispB ⟨#[105,102]⟩ [.app lispB ⟨#[99,111,110,115,112]⟩ [vX],hdIs p s,nilT]))],[]):=by
 rw [fnT_eq tree75]
 simp (config := { maxSteps := 1000000 }) [t75,zL,x71x,lits22q,lits11q,lits33q,x73,x81,x82,encT_len]
 rfl
theorem x141loop (n:Nat) (hn:n < 1000):∀(m k:Nat) (t:Tm),k+m=n→
  hdT (T nat).G 141 0 [.c (ci n),.c (ci k),.l (encT t),.c (ci 0),.c ce,.c ce,.c (ci 0),.c ce,.c ce,.c ce,.c ce,.c ce,.c cz,.c cz]=some ([.agg (encT (tailT t m))],[])
 |0,k,t,h=>by
  have hlt:¬((k:Int) < (n:Int)):=by omega
  rw [hdT_eq tree141 (t:=t141.heads[0]) rfl]
  simp [t141,zL,hlt,encT_len,tailT]
 |m+1,k,t,h=>by
  have hlt:((k:Int) < (n:Int)):=by omega
  have hs:=add_nat k (by omega)
  have hi:=x141loop n hn m (k+1) (.app lispB ⟨#[99,100,114]⟩ [t]) (by omega)
  rw [tailT_in] at hi
  rw [hdT_eq tree141 (t:=t141.heads[0]) rfl]
  simp [-Int.natCast_add,t141,zL,hlt,lits11q,x59,hs,hi,encT_len]
theorem x67 (i:Nat) (hi:i < 900):fnT (T nat).G 67 [.v (.agg (encT vX)),.v (.one (ci i))] []=some ([.agg (encT (partT i))],[]):=by
 have hs:=add_nat i (by omega)
 have h1:=x141loop (nat:=nat) (i+1) (by omega) (i+1) 0 vX (by omega)
 simp only [Int.natCast_zero] at h1
 have h2:fnT (T nat).G 141 [.v (.agg (encT vX)),.v (.one (ci ((i+1:Nat):Int)))] []=some ([.agg (encT (tailT vX (i+1)))],[]):=by
  rw [fnT_eq tree141]
  simp [-Int.natCast_add,t141,zL,h1,encT_len]
 rw [fnT_eq tree67]
 simp [-Int.natCast_add,t67,zL,hs,h2,lits11q,x59,encT_len]
 rfl
theorem x77loop (n:Nat) (hn:n < 1000):∀(m k:Nat) (t:Tm),k+m=n→
  hdT (T nat).G 77 0 [.c (ci n),.c (ci k),.c (ci 0),.c ce,.c ce,.c (ci 0),.c ce,.c ce,.c ce,.c ce,.c ce,.c cz,.c cz,.l (encT t)]=some ([.agg (encT (.app lispB ⟨#[99,97,114]⟩ [tailT t m]))],[])
 |0,k,t,h=>by
  have hlt:¬((k:Int) < (n:Int)):=by omega
  rw [hdT_eq tree77 (t:=t77.heads[0]) rfl]
  simp [t77,zL,hlt,lits11q,x73,encT_len,tailT]
 |m+1,k,t,h=>by
  have hlt:((k:Int) < (n:Int)):=by omega
  have hs:=add_nat k (by omega)
  have hi:=x77loop n hn m (k+1) (.app lispB ⟨#[99,100,114]⟩ [t]) (by omega)
  rw [tailT_in] at hi
  rw [hdT_eq tree77 (t:=t77.heads[0]) rfl]
  simp [-Int.natCast_add,t77,zL,hlt,lits11q,x73,hs,hi,encT_len]
theorem x77 (i:Nat) (hi:i < 900):fnT (T nat).G 77 [.v (.one (ci i))] []=some ([.agg (encT (partT i))],[]):=by
 have h1:=x77loop (nat:=nat) i (by omega) i 0 (.app lispB ⟨#[99,100,114]⟩ [vX]) (by omega)
 rw [tailT_in] at h1
 simp only [Int.natCast_zero] at h1
 rw [fnT_eq tree77]
 simp [t77,zL,x71x,lits11q,x73,h1,encT_len]
 rfl
theorem args_snoc (ep es:ByteArray) (k:Nat):callArgs ep es (k+1)=callArgs ep es k++[.app ep es [partT k,vA]]:=by
 simp [callArgs,List.range_succ]
theorem args_len (ep es:ByteArray) (k:Nat):(callArgs ep es k).length=k:=by simp [callArgs]
theorem x69loop (ep es p s:ByteArray) (n:Nat) (hn:n < 800):∀(m k:Nat),k+m=n→
  hdT (T nat).G 69 0 [.c (ci n),.c (ci k),.l [cs ep,cs es],.l [cs p,cs s],.c (ci 0),.c ce,.c ce,.c (ci 0),.c ce,.c ce,.c ce,.c ce,.c ce,.c cz,.c cz,.c (rows encT (callArgs ep es k))]=some ([.agg (encT (callT ep es p s n))],[])
 |0,k,h=>by
  have hlt:¬((k:Int) < (n:Int)):=by omega
  have e:k=n:=by omega
  rw [hdT_eq tree69 (t:=t69.heads[0]) rfl]
  simp [t69,zL,hlt,x136,encT_len,callT,e]
 |m+1,k,h=>by
  have hlt:((k:Int) < (n:Int)):=by omega
  have hs:=add_nat k (by omega)
  have hap:=app11 (acc:=callArgs ep es k) (x:=.app ep es [partT k,vA]) (by rw [args_len];omega)
  have hp:=x67 (nat:=nat) k (by omega)
  have hi:=x69loop ep es p s n hn m (k+1) (by omega)
  rw [args_snoc] at hi
  rw [hdT_eq tree69 (t:=t69.heads[0]) rfl]
  simp [-Int.natCast_add,t69,zL,hlt,x57,x58,hp,x56,lits11,hap,hs,hi,encT_len]
theorem x69 (ep es p s:ByteArray) (n:Nat) (hn:n < 800):fnT (T nat).G 69 [.v (.agg [cs ep,cs es]),.v (.agg [cs p,cs s]),.v (.one (ci n))] []=some ([.agg (encT (callT ep es p s n))],[]):=by
 have h1:=x69loop (nat:=nat) ep es p s n hn n 0 (by omega)
 simp only [Int.natCast_zero,callArgs,List.range_zero,List.map_nil,rows_nil] at h1
 rw [fnT_eq tree69]
 simp [t69,zL,h1]
theorem x79loop (ep es p s:ByteArray) (n:Nat) (hn:n < 800):∀(m k:Nat),k+m=n→
  hdT (T nat).G 79 0 [.c (ci n),.c (ci k),.l [cs ep,cs es],.l [cs p,cs s],.c (ci 0),.c ce,.c ce,.c (ci 0),.c ce,.c ce,.c ce,.c ce,.c ce,.c cz,.c cz,.c (rows encT (callArgs ep es k))]=some ([.agg (encT (callT ep es p s n))],[])
 |0,k,h=>by
  have hlt:¬((k:Int) < (n:Int)):=by omega
  have e:k=n:=by omega
  rw [hdT_eq tree79 (t:=t79.heads[0]) rfl]
  simp [t79,zL,hlt,x72,encT_len,callT,e]
 |m+1,k,h=>by
  have hlt:((k:Int) < (n:Int)):=by omega
  have hs:=add_nat k (by omega)
  have hap:=app11 (acc:=callArgs ep es k) (x:=.app ep es [partT k,vA]) (by rw [args_len];omega)
  have hp:=x77 (nat:=nat) k (by omega)
  have hi:=x79loop ep es p s n hn m (k+1) (by omega)
  rw [args_snoc] at hi
  rw [hdT_eq tree79 (t:=t79.heads[0]) rfl]
  simp [-Int.natCast_add,t79,zL,hlt,x71a,hp,lits22q,x72,lits11,hap,hs,hi,encT_len]
theorem x79 (ep es p s:ByteArray) (n:Nat) (hn:n < 800):fnT (T nat).G 79 [.v (.agg [cs ep,cs es]),.v (.agg [cs p,cs s]),.v (.one (ci n))] []=some ([.agg (encT (callT ep es p s n))],[]):=by
 have h1:=x79loop (nat:=nat) ep es p s n hn n 0 (by omega)
 simp only [Int.natCast_zero,callArgs,List.range_zero,List.map_nil,rows_nil] at h1
 rw [fnT_eq tree79]
 simp [t79,zL,h1]
end
end Go.Ey.Pr
