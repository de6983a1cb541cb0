/- A part of the proof. -/
import Derived.Test.YtpginbppmgdndaaGreatDoorV32
import Derived.Test.YtpginbppmgdndaaGreatDoorRows
import Derived.LaidMore
import Derived.ProofKit
import Derived.OpenShut
import Derived.Stop.Joined
import Derived.ChangeOld
set_option linter.all false
set_option maxHeartbeats 4000000
namespace Go.Ey.Pr
open Go Go.Ey Go.Ey.Seat Go.RowKit
theorem u5:PP.underlying 5=some (.int .u8):=by kernel_rfl
theorem u22:PP.underlying 22=some (.slice 5):=by kernel_rfl
theorem open22:openB PP 3 22=true:=by kernel_rfl
theorem typed_u8 {n:Nat} {cs:List C} (h:Typed PP n 5 cs):∃b:UInt8,cs=encB b:=by
 cases n with
 |zero=>exact h.elim
 |succ n=>
  unfold Typed at h
  rw [u5] at h
  obtain ⟨z,rfl,h2⟩:=h
  have h1:IntKind.u8.min≤z∧z≤IntKind.u8.max:=by simpa [Lit.wf] using h2
  have e1:IntKind.u8.min=0:=rfl
  have e2:IntKind.u8.max=255:=rfl
  refine ⟨UInt8.ofNat z.toNat,?_⟩
  have:((UInt8.ofNat z.toNat).toNat:Int)=z:=by
   rw [UInt8.toNat_ofNat']
   omega
  simp only [encB,this]
theorem typed_bytes {n:Nat} {cs:List C} (h:Typed PP n 22 cs):∃bs:List UInt8,cs=[rows encB bs]∧bs.length≤maxLen:=by
 cases n with
 |zero=>exact h.elim
 |succ n=>
  unfold Typed at h
  rw [u22] at h
  obtain ⟨rw_,rfl,hl,hr⟩:=h
  have key:∀l:List (List C),(∀r∈l,r.length=PP.cellsOf 5∧Typed PP n 5 r)→∃bs:List UInt8,l.flatten=bs.flatMap encB∧l.length=bs.length:=by
   intro l
   induction l with
   |nil=>exact fun _=>⟨[],rfl,rfl⟩
   |cons r l ih=>
    intro hr
    obtain ⟨bs,h1,h2⟩:=ih fun r' hr'=>hr r' (by simp [hr'])
    obtain ⟨b,rfl⟩:=typed_u8 (hr r (by simp)).2
    exact ⟨b::bs,by rw [List.flatten_cons,h1,List.flatMap_cons],by simp [h2]⟩
  obtain ⟨bs,h1,h2⟩:=key rw_ hr
  exact ⟨bs,by rw [h1,h2,rows],by omega⟩
theorem gPow:PP.globalNamed "internal/strconv.uint64pow10"=some 0:=by kernel_rfl
theorem tPow:(PP.globals[0]?).map (·.type)=some 285:=by kernel_rfl
theorem uPow1:PP.underlying 285=some (.array 20 82):=by kernel_rfl
theorem uPow2:PP.underlying 82=some (.int .u64):=by kernel_rfl
theorem uPow3:PP.cellsOf 82=1:=by kernel_rfl
theorem cPow:PP.cellsOf 285=20:=by kernel_rfl
theorem var_lt {P:Program} {w:World} {n:String} {cs:Array Value} {g:Nat} (hg:P.globalNamed n=some g) (h:w.var? P n=some cs):g < w.heap.size:=by
 unfold World.var? at h
 simp only [hg,Option.bind_some] at h
 rcases Nat.lt_or_ge g w.heap.size with h'|h'
 ·exact h'
 ·simp [Array.getElem?_eq_none h'] at h
theorem inv_of {l1 l2:String×DataW Unit} {rest:List (String×DataW Unit)} {W:World} (h:laidMet PP (l1::l2::("internal/strconv.uint64pow10",Lib.tabData .u64 Lib.pow10Tab)::rest) W):Keeps.Inv W.heap.size W:=by
 obtain ⟨n1,d1⟩:=l1
 obtain ⟨n2,d2⟩:=l2
 obtain ⟨ps,⟨g0,t0,cs0,f0,p0,q0,hg0,ht0,hv0,hd0,⟨g1,t1,cs1,f1,p1,q1,hg1,ht1,hv1,hd1,⟨g2,t2,cs2,f2,p2,q2,hg2,ht2,hv2,hd2,_,_⟩,_⟩,_⟩,_⟩:=h
 obtain rfl:=Option.some.inj (gPow.symm.trans hg2)
 obtain rfl:=Option.some.inj (tPow.symm.trans ht2)
 intro t ht
 simp only [List.mem_singleton] at ht
 subst ht
 refine ⟨0,gPow,var_lt gPow hv2,?_⟩
 show W.var? PP _=_
 rw [hv2,←Lib.cells_of_tab uPow1 uPow2 uPow3 cPow hd2]
end Go.Ey.Pr

set_option maxHeartbeats 4000000
namespace Go.Ey.Pr
open Go.Ey Go.Ey.Seat
def t20:TFun:=⟨[.one],[],
 .ret [(.agg (.lit [(.k (.string ⟨#[108,105,115,112]⟩)),(.v 0)]))] [],
 []⟩
def t122:TFun:=⟨[.agg 7,.agg 7],[],
 .opc (.lits 7 2 [(.n 0 0),(.n 0 1),(.n 0 2),(.n 0 3),(.n 0 4),(.n 0 5),(.n 0 6),(.n 1 0),(.n 1 1),(.n 1 2),(.n 1 3),(.n 1 4),(.n 1 5),(.n 1 6)]) <|
 .ret [(.agg (.lit [(.k (.int .i64 4)),(.k (.string ⟨#[]⟩)),(.k (.string ⟨#[]⟩)),(.k (.string ⟨#[]⟩)),(.k (.string ⟨#[]⟩)),(.k (.string ⟨#[]⟩)),(.v 2)]))] [],
 []⟩
def t73:TFun:=⟨[.one,.one],[],
 .call 94 [(.v (.one (.v 0)))] [] [(some 2)] [] <|
 .call 72 [(.v (.agg (.all 2))),(.v (.one (.v 1)))] [] [(some 11)] [] <|
 .ret [(.agg (.all 3))] [],
 []⟩
def t30:TFun:=⟨[.one,.one],[],
 .call 73 [(.v (.one (.v 0))),(.v (.one (.v 1)))] [] [(some 11)] [] <|
 .ret [(.agg (.all 2))] [],
 []⟩
def t29:TFun:=⟨[.one],[],
 .call 19 [(.v (.one (.v 0)))] [] [(some 2)] [] <|
 .call 87 [(.v (.agg (.all 1)))] [] [(some 11)] [] <|
 .ret [(.agg (.all 2))] [],
 []⟩
def t118:TFun:=⟨[.ref 0 0],[2],
 .call 8 [(.ref 0 0),(.v (.one (.k (.int .i64 3))))] [(.all 0)] [none] [2] <|
 .opc (.sstr (.k (.string ⟨#[120,121,122]⟩)) (some (.v 1)) none) <|
 .opc (.sstr (.v 3) none (some (.k (.int .i64 1)))) <|
 .call 29 [(.v (.one (.v 4)))] [] [(some 11)] [] <|
 .ret [(.agg (.all 5))] [(.all 2)],
 []⟩
def t134:TFun:=⟨[],[],
 .opc (.lits 1 25 [(.k (.string ⟨#[99,97,114]⟩)),(.k (.string ⟨#[99,100,114]⟩)),(.k (.string ⟨#[99,111,110,115]⟩)),(.k (.string ⟨#[99,111,110,115,112]⟩)),(.k (.string ⟨#[110,111,116]⟩)),(.k (.string ⟨#[101,113,117,97,108]⟩)),(.k (.string ⟨#[105,102]⟩)),(.k (.string ⟨#[98,105,110,97,114,121,45,43]⟩)),(.k (.string ⟨#[60]⟩)),(.k (.string ⟨#[105,110,116,101,103,101,114,112]⟩)),(.k (.string ⟨#[108,101,110]⟩)),(.k (.string ⟨#[98,105,110,97,114,121,45,97,112,112,101,110,100]⟩)),(.k (.string ⟨#[114,101,118]⟩)),(.k (.string ⟨#[116,114,117,101,45,108,105,115,116,112]⟩)),(.k (.string ⟨#[110,97,116,112]⟩)),(.k (.string ⟨#[112,111,115,112]⟩)),(.k (.string ⟨#[117,110,97,114,121,45,45]⟩)),(.k (.string ⟨#[98,105,110,97,114,121,45,42]⟩)),(.k (.string ⟨#[105,109,112,108,105,101,115]⟩)),(.k (.string ⟨#[115,121,109,98,111,108,112]⟩)),(.k (.string ⟨#[114,97,116,105,111,110,97,108,112]⟩)),(.k (.string ⟨#[102,105,120]⟩)),(.k (.string ⟨#[105,102,102]⟩)),(.k (.string ⟨#[110,102,105,120]⟩)),(.k (.string ⟨#[122,112]⟩))]) <|
 .ret [(.one (.v 0))] [],
 []⟩
def t135:TFun:=⟨[],[],
 .opc (.lits 1 8 [(.k (.string ⟨#[100,117,98]⟩)),(.k (.string ⟨#[115,97,109,101,45,108,101,110]⟩)),(.k (.string ⟨#[112,97,105,114,115]⟩)),(.k (.string ⟨#[100,117,98,115]⟩)),(.k (.string ⟨#[116,114,101,101]⟩)),(.k (.string ⟨#[101,118,101,110,115]⟩)),(.k (.string ⟨#[111,100,100,115]⟩)),(.k (.string ⟨#[120,111,114,50]⟩))]) <|
 .ret [(.one (.v 0))] [],
 []⟩
def t36:TFun:=⟨[.one,.one],[],
 .opc (.len false (.v 0)) <|
 .opc (.len false (.v 1)) <|
 .opc (.bin .add false (.v 2) (.v 3)) <|
 .opc (.mk 11 176 [(.int .i64 0),(.string ⟨#[]⟩),(.string ⟨#[]⟩),(.int .i64 0),(.string ⟨#[]⟩),(.string ⟨#[]⟩),(.string ⟨#[]⟩),(.string ⟨#[]⟩),(.string ⟨#[]⟩),(.slice none 0 0),(.slice none 0 0)] (.k (.int .i64 0)) (.v 4)) <|
 .opc (.app 11 176 (.v 5) (.v 0)) <|
 .goto 0 [(.c (.v 1)),(.c (.k (.int .i64 0))),(.c (.v 6))],
 [.opc (.len false (.v 0)) <|
 .opc (.bin .lss false (.v 1) (.v 3)) <|
 .ite (.v 4)
 (.row 11 (.v 0) (.v 1) <|
 .call 116 [(.v (.one (.v 2))),(.v (.agg (.all 5)))] [] [none] [] <|
 .opc (.un .not (.v 6)) <|
 .ite (.v 7)
 (.row 11 (.v 0) (.v 1) <|
 .opc (.lits 11 1 [(.n 8 0),(.n 8 1),(.n 8 2),(.n 8 3),(.n 8 4),(.n 8 5),(.n 8 6),(.n 8 7),(.n 8 8),(.n 8 9),(.n 8 10)]) <|
 .opc (.app 11 176 (.v 2) (.v 9)) <|
 .opc (.bin .add false (.v 1) (.k (.int .i64 1))) <|
 .goto 0 [(.c (.v 0)),(.c (.v 11)),(.c (.v 10))])
 (.opc (.bin .add false (.v 1) (.k (.int .i64 1))) <|
 .goto 0 [(.c (.v 0)),(.c (.v 8)),(.c (.v 2))]))
 (.ret [(.one (.v 2))] [])]⟩
def t38:TFun:=⟨[.agg 11],[],
 .opc (.bin .eql false (.n 0 0) (.k (.int .i64 1))) <|
 .ite (.v 1)
 (.call 119 [(.v (.agg (.lit [(.n 0 1),(.n 0 2)])))] [] [(some 7)] [] <|
 .ret [(.agg (.all 2))] [])
 (.opc (.bin .eql false (.n 0 0) (.k (.int .i64 2))) <|
 .ite (.v 2)
 (.call 120 [] [] [(some 2)] [] <|
 .call 119 [(.v (.agg (.all 3)))] [] [(some 7)] [] <|
 .opc (.lits 7 2 [(.n 4 0),(.n 4 1),(.n 4 2),(.n 4 3),(.n 4 4),(.n 4 5),(.n 4 6),(.n 0 3),(.n 0 4),(.n 0 5),(.n 0 6),(.n 0 7),(.n 0 8),(.n 0 9)]) <|
 .call 39 [(.v (.one (.v 5)))] [] [(some 7)] [] <|
 .ret [(.agg (.all 6))] [])
 (.call 119 [(.v (.agg (.lit [(.n 0 1),(.n 0 2)])))] [] [(some 7)] [] <|
 .opc (.lits 7 1 [(.n 3 0),(.n 3 1),(.n 3 2),(.n 3 3),(.n 3 4),(.n 3 5),(.n 3 6)]) <|
 .opc (.len false (.n 0 10)) <|
 .goto 0 [(.c (.n 0 10)),(.c (.v 5)),(.c (.k (.int .i64 0))),(.c (.k (.int .i64 0))),(.c (.k (.string ⟨#[]⟩))),(.c (.k (.string ⟨#[]⟩))),(.c (.k (.string ⟨#[]⟩))),(.c (.k (.string ⟨#[]⟩))),(.c (.k (.string ⟨#[]⟩))),(.c .z),(.c (.v 4))])),
 [.opc (.bin .lss false (.v 2) (.v 1)) <|
 .ite (.v 11)
 (.row 11 (.v 0) (.v 2) <|
 .call 38 [(.v (.agg (.all 12)))] [] [(some 7)] [] <|
 .opc (.lits 7 1 [(.n 13 0),(.n 13 1),(.n 13 2),(.n 13 3),(.n 13 4),(.n 13 5),(.n 13 6)]) <|
 .opc (.app 7 112 (.v 10) (.v 14)) <|
 .opc (.bin .add false (.v 2) (.k (.int .i64 1))) <|
 .goto 0 [(.c (.v 0)),(.c (.v 1)),(.c (.v 16)),(.c (.v 3)),(.c (.v 4)),(.c (.v 5)),(.c (.v 6)),(.c (.v 7)),(.c (.v 8)),(.c (.v 9)),(.c (.v 15))])
 (.call 39 [(.v (.one (.v 10)))] [] [(some 7)] [] <|
 .ret [(.agg (.all 12))] [])]⟩
def t40:TFun:=⟨[.agg 11],[],
 .opc (.bin .eql false (.n 0 0) (.k (.int .i64 1))) <|
 .ite (.v 1)
 (.call 49 [(.v (.agg (.lit [(.n 0 1),(.n 0 2)])))] [] [(some 7)] [] <|
 .ret [(.agg (.all 2))] [])
 (.opc (.bin .eql false (.n 0 0) (.k (.int .i64 2))) <|
 .ite (.v 2)
 (.call 94 [(.v (.one (.k (.string ⟨#[113,117,111,116,101]⟩))))] [] [(some 2)] [] <|
 .call 49 [(.v (.agg (.all 3)))] [] [(some 7)] [] <|
 .opc (.lits 7 2 [(.n 4 0),(.n 4 1),(.n 4 2),(.n 4 3),(.n 4 4),(.n 4 5),(.n 4 6),(.n 0 3),(.n 0 4),(.n 0 5),(.n 0 6),(.n 0 7),(.n 0 8),(.n 0 9)]) <|
 .call 14 [(.v (.one (.v 5)))] [] [(some 7)] [] <|
 .ret [(.agg (.all 6))] [])
 (.call 49 [(.v (.agg (.lit [(.n 0 1),(.n 0 2)])))] [] [(some 7)] [] <|
 .opc (.lits 7 1 [(.n 3 0),(.n 3 1),(.n 3 2),(.n 3 3),(.n 3 4),(.n 3 5),(.n 3 6)]) <|
 .goto 0 [(.c (.k (.int .i64 0))),(.l (.all 0)),(.c (.k (.int .i64 0))),(.c (.k (.string ⟨#[]⟩))),(.c (.k (.string ⟨#[]⟩))),(.c (.k (.string ⟨#[]⟩))),(.c (.k (.string ⟨#[]⟩))),(.c (.k (.string ⟨#[]⟩))),(.c .z),(.c (.v 4))])),
 [.opc (.len false (.n 1 10)) <|
 .opc (.bin .lss false (.v 0) (.v 10)) <|
 .ite (.v 11)
 (.row 11 (.n 1 10) (.v 0) <|
 .call 40 [(.v (.agg (.all 12)))] [] [(some 7)] [] <|
 .opc (.lits 7 1 [(.n 13 0),(.n 13 1),(.n 13 2),(.n 13 3),(.n 13 4),(.n 13 5),(.n 13 6)]) <|
 .opc (.app 7 112 (.v 9) (.v 14)) <|
 .opc (.bin .add false (.v 0) (.k (.int .i64 1))) <|
 .goto 0 [(.c (.v 16)),(.l (.all 1)),(.c (.v 2)),(.c (.v 3)),(.c (.v 4)),(.c (.v 5)),(.c (.v 6)),(.c (.v 7)),(.c (.v 8)),(.c (.v 15))])
 (.call 14 [(.v (.one (.v 9)))] [] [(some 7)] [] <|
 .ret [(.agg (.all 12))] [])]⟩
def t39:TFun:=⟨[.one],[],
 .call 121 [] [] [(some 7)] [] <|
 .opc (.len false (.v 0)) <|
 .opc (.bin .sub false (.v 2) (.k (.int .i64 1))) <|
 .goto 0 [(.c (.v 0)),(.c (.v 3)),(.c (.k (.int .i64 0))),(.c (.k (.string ⟨#[]⟩))),(.c (.k (.string ⟨#[]⟩))),(.c (.k (.string ⟨#[]⟩))),(.c (.k (.string ⟨#[]⟩))),(.c (.k (.string ⟨#[]⟩))),(.c .z),(.l (.all 1))],
 [.opc (.bin .geq false (.v 1) (.k (.int .i64 0))) <|
 .ite (.v 10)
 (.row 7 (.v 0) (.v 1) <|
 .call 122 [(.v (.agg (.all 11))),(.v (.agg (.all 9)))] [] [(some 7)] [] <|
 .opc (.bin .sub false (.v 1) (.k (.int .i64 1))) <|
 .goto 0 [(.c (.v 0)),(.c (.v 13)),(.c (.v 2)),(.c (.v 3)),(.c (.v 4)),(.c (.v 5)),(.c (.v 6)),(.c (.v 7)),(.c (.v 8)),(.l (.all 12))])
 (.ret [(.agg (.all 9))] [])]⟩
def t10:TFun:=⟨[.one],[],
 .opc (.len false (.v 0)) <|
 .goto 0 [(.c (.v 0)),(.c (.v 1)),(.c (.k (.int .i64 0))),(.c (.k (.int .i64 0))),(.c (.k (.string ⟨#[]⟩))),(.c (.k (.string ⟨#[]⟩))),(.c (.k (.string ⟨#[]⟩))),(.c (.k (.string ⟨#[]⟩))),(.c (.k (.string ⟨#[]⟩))),(.c .z),(.c .z)],
 [.opc (.bin .lss false (.v 2) (.v 1)) <|
 .ite (.v 11)
 (.row 11 (.v 0) (.v 2) <|
 .call 38 [(.v (.agg (.all 12)))] [] [(some 7)] [] <|
 .opc (.lits 7 1 [(.n 13 0),(.n 13 1),(.n 13 2),(.n 13 3),(.n 13 4),(.n 13 5),(.n 13 6)]) <|
 .opc (.app 7 112 (.v 10) (.v 14)) <|
 .opc (.bin .add false (.v 2) (.k (.int .i64 1))) <|
 .goto 0 [(.c (.v 0)),(.c (.v 1)),(.c (.v 16)),(.c (.v 3)),(.c (.v 4)),(.c (.v 5)),(.c (.v 6)),(.c (.v 7)),(.c (.v 8)),(.c (.v 9)),(.c (.v 15))])
 (.call 39 [(.v (.one (.v 10)))] [] [(some 7)] [] <|
 .ret [(.agg (.all 12))] [])]⟩
def t12:TFun:=⟨[.one],[],
 .goto 0 [(.c (.v 0)),(.c (.k (.int .i64 0))),(.c (.k (.int .i64 0))),(.c (.k (.string ⟨#[]⟩))),(.c (.k (.string ⟨#[]⟩))),(.c (.k (.string ⟨#[]⟩))),(.c (.k (.string ⟨#[]⟩))),(.c (.k (.string ⟨#[]⟩))),(.c .z),(.c .z)],
 [.opc (.len false (.v 0)) <|
 .opc (.bin .lss false (.v 1) (.v 10)) <|
 .ite (.v 11)
 (.row 11 (.v 0) (.v 1) <|
 .call 40 [(.v (.agg (.all 12)))] [] [(some 7)] [] <|
 .opc (.lits 7 1 [(.n 13 0),(.n 13 1),(.n 13 2),(.n 13 3),(.n 13 4),(.n 13 5),(.n 13 6)]) <|
 .opc (.app 7 112 (.v 9) (.v 14)) <|
 .opc (.bin .add false (.v 1) (.k (.int .i64 1))) <|
 .goto 0 [(.c (.v 0)),(.c (.v 16)),(.c (.v 2)),(.c (.v 3)),(.c (.v 4)),(.c (.v 5)),(.c (.v 6)),(.c (.v 7)),(.c (.v 8)),(.c (.v 15))])
 (.call 14 [(.v (.one (.v 9)))] [] [(some 7)] [] <|
 .ret [(.agg (.all 12))] [])]⟩
def t9:TFun:=⟨[.ref 0 0,.one,.one,.one],[2],
 .call 8 [(.ref 0 0),(.v (.one (.v 1)))] [(.all 3)] [none] [2] <|
 .opc (.bin .add false (.k (.int .i64 1)) (.v 4)) <|
 .goto 0 [(.c (.v 0)),(.c (.v 2)),(.c .z),(.c (.v 6)),(.c (.k (.int .i64 0))),(.l (.all 5))],
 [.opc (.bin .lss false (.v 4) (.v 3)) <|
 .ite (.v 6)
 (.call 37 [(.ref 0 0),(.v (.one (.v 0))),(.v (.one (.v 1)))] [(.all 5)] [(some 11)] [2] <|
 .opc (.lits 11 1 [(.n 7 0),(.n 7 1),(.n 7 2),(.n 7 3),(.n 7 4),(.n 7 5),(.n 7 6),(.n 7 7),(.n 7 8),(.n 7 9),(.n 7 10)]) <|
 .call 36 [(.v (.one (.v 2))),(.v (.one (.v 9)))] [] [none] [] <|
 .opc (.bin .add false (.v 4) (.k (.int .i64 1))) <|
 .goto 0 [(.c (.v 0)),(.c (.v 1)),(.c (.v 10)),(.c (.v 3)),(.c (.v 11)),(.l (.all 8))])
 (.ret [(.one (.v 2))] [(.all 5)])]⟩
def t3:TFun:=⟨[.one],[],
 .call 6 [] [] [none] [] <|
 .opc (.un .not (.v 1)) <|
 .ite (.v 2)
 (.ret [(.one (.k (.bool false)))] [])
 (.opc (.len false (.v 0)) <|
 .opc (.bin .gtr false (.v 3) (.k (.int .i64 80))) <|
 .ite (.v 4)
 (.ret [(.one (.k (.bool true)))] [])
 (.call 7 [(.v (.one (.k (.int .u32 0))))] [] [none] [] <|
 .call 8 [(.ref 0 0),(.v (.one (.k (.int .i64 4))))] [(.lit [(.v 0),(.k (.int .i64 0))])] [none] [2] <|
 .goto 0 [(.c .z),(.c .z),(.c (.v 6)),(.c (.k (.int .i64 0))),(.c (.v 5)),(.l (.all 7))])),
 [.opc (.bin .lss false (.v 3) (.v 2)) <|
 .ite (.v 6)
 (.call 9 [(.ref 0 0),(.v (.one (.v 4))),(.v (.one (.k (.int .i64 3)))),(.v (.one (.k (.int .i64 2))))] [(.all 5)] [none] [2] <|
 .opc (.lits 1 1 [(.v 7)]) <|
 .opc (.app 1 24 (.v 0) (.v 9)) <|
 .call 10 [(.v (.one (.v 7)))] [] [(some 7)] [] <|
 .opc (.lits 7 1 [(.n 11 0),(.n 11 1),(.n 11 2),(.n 11 3),(.n 11 4),(.n 11 5),(.n 11 6)]) <|
 .opc (.app 7 112 (.v 1) (.v 12)) <|
 .row 7 (.v 13) (.v 3) <|
 .row 7 (.v 13) (.v 3) <|
 .call 12 [(.v (.one (.v 7)))] [] [(some 7)] [] <|
 .call 11 [(.v (.agg (.all 15))),(.v (.agg (.all 16)))] [] [none] [] <|
 .opc (.un .not (.v 17)) <|
 .ite (.v 18)
 (.ret [(.one (.k (.bool false)))] [])
 (.opc (.bin .add false (.v 3) (.k (.int .i64 1))) <|
 .goto 1 [(.c (.v 2)),(.c (.v 19)),(.c (.v 4)),(.l (.all 8)),(.c (.v 10)),(.c (.v 13))]))
 (.call 14 [(.v (.one (.v 1)))] [] [(some 7)] [] <|
 .call 13 [(.v (.agg (.all 7)))] [] [none,none] [] <|
 .ite (.v 9)
 (.call 15 [(.v (.one (.v 8))),(.v (.one (.v 0)))] [] [none] [] <|
 .ret [(.one (.v 10))] [])
 (.ret [(.one (.k (.bool false)))] [])),
 .opc (.bin .lss false (.v 1) (.v 0)) <|
 .ite (.v 6)
 (.call 9 [(.ref 0 0),(.v (.one (.v 2))),(.v (.one (.k (.int .i64 3)))),(.v (.one (.k (.int .i64 2))))] [(.all 3)] [none] [2] <|
 .opc (.lits 1 1 [(.v 7)]) <|
 .opc (.app 1 24 (.v 4) (.v 9)) <|
 .call 10 [(.v (.one (.v 7)))] [] [(some 7)] [] <|
 .opc (.lits 7 1 [(.n 11 0),(.n 11 1),(.n 11 2),(.n 11 3),(.n 11 4),(.n 11 5),(.n 11 6)]) <|
 .opc (.app 7 112 (.v 5) (.v 12)) <|
 .row 7 (.v 13) (.v 1) <|
 .row 7 (.v 13) (.v 1) <|
 .call 12 [(.v (.one (.v 7)))] [] [(some 7)] [] <|
 .call 11 [(.v (.agg (.all 15))),(.v (.agg (.all 16)))] [] [none] [] <|
 .opc (.un .not (.v 17)) <|
 .ite (.v 18)
 (.ret [(.one (.k (.bool false)))] [])
 (.opc (.bin .add false (.v 1) (.k (.int .i64 1))) <|
 .goto 1 [(.c (.v 0)),(.c (.v 19)),(.c (.v 2)),(.l (.all 8)),(.c (.v 10)),(.c (.v 13))]))
 (.call 14 [(.v (.one (.v 5)))] [] [(some 7)] [] <|
 .call 13 [(.v (.agg (.all 7)))] [] [none,none] [] <|
 .ite (.v 9)
 (.call 15 [(.v (.one (.v 8))),(.v (.one (.v 4)))] [] [none] [] <|
 .ret [(.one (.v 10))] [])
 (.ret [(.one (.k (.bool false)))] []))]⟩
section
variable {nat:Nat→List V→Option (List V)}
theorem tree20:(T nat).G.fn 20=some t20:=by kernel_rfl
theorem tree122:(T nat).G.fn 122=some t122:=by kernel_rfl
theorem tree73:(T nat).G.fn 73=some t73:=by kernel_rfl
theorem tree30:(T nat).G.fn 30=some t30:=by kernel_rfl
theorem tree29:(T nat).G.fn 29=some t29:=by kernel_rfl
theorem tree118:(T nat).G.fn 118=some t118:=by kernel_rfl
theorem tree134:(T nat).G.fn 134=some t134:=by kernel_rfl
theorem tree135:(T nat).G.fn 135=some t135:=by kernel_rfl
theorem tree36:(T nat).G.fn 36=some t36:=by kernel_rfl
theorem tree38:(T nat).G.fn 38=some t38:=by kernel_rfl
theorem tree40:(T nat).G.fn 40=some t40:=by kernel_rfl
theorem tree39:(T nat).G.fn 39=some t39:=by kernel_rfl
theorem tree10:(T nat).G.fn 10=some t10:=by kernel_rfl
theorem tree12:(T nat).G.fn 12=some t12:=by kernel_rfl
theorem tree9:(T nat).G.fn 9=some t9:=by kernel_rfl
theorem tree3:(T nat).G.fn 3=some t3:=by kernel_rfl
end
def u117_0:Tree:=.opc (.len false (.v 10)) <|
 .call 8 [(.ref 0 0),(.v (.one (.v 15)))] [(.all 13)] [none] [2] <|
 .row 1 (.v 10) (.v 16) <|
 .call 20 [(.v (.one (.n 18 0)))] [] [(some 2)] [] <|
 .call 78 [(.v (.one (.v 0))),(.v (.agg (.all 19)))] [] [none,none] [] <|
 .goto 0 [(.c (.v 0)),(.c (.v 1)),(.c (.v 20)),(.c (.k (.int .i64 0))),(.l (.all 17)),(.c (.k (.int .i64 0))),(.c (.k (.string ⟨#[]⟩))),(.c (.k (.string ⟨#[]⟩))),(.c (.k (.int .i64 0))),(.c (.k (.string ⟨#[]⟩))),(.c (.k (.string ⟨#[]⟩))),(.c (.k (.string ⟨#[]⟩))),(.c (.k (.string ⟨#[]⟩))),(.c (.k (.string ⟨#[]⟩))),(.c .z),(.c .z),(.l (.all 19)),(.c .z)]
def u117_1:Tree:=.opc (.len false (.v 11)) <|
 .call 8 [(.ref 0 0),(.v (.one (.v 15)))] [(.all 13)] [none] [2] <|
 .row 1 (.v 11) (.v 16) <|
 .call 19 [(.v (.one (.n 18 0)))] [] [(some 2)] [] <|
 .call 78 [(.v (.one (.v 0))),(.v (.agg (.all 19)))] [] [none,none] [] <|
 .goto 0 [(.c (.v 0)),(.c (.v 1)),(.c (.v 20)),(.c (.k (.int .i64 0))),(.l (.all 17)),(.c (.k (.int .i64 0))),(.c (.k (.string ⟨#[]⟩))),(.c (.k (.string ⟨#[]⟩))),(.c (.k (.int .i64 0))),(.c (.k (.string ⟨#[]⟩))),(.c (.k (.string ⟨#[]⟩))),(.c (.k (.string ⟨#[]⟩))),(.c (.k (.string ⟨#[]⟩))),(.c (.k (.string ⟨#[]⟩))),(.c .z),(.c .z),(.l (.all 19)),(.c .z)]
def u117_2:Tree:=.call 16 [(.ref 0 0),(.v (.one (.k (.int .i64 1))))] [(.all 4)] [(some 7)] [2] <|
 .call 83 [(.v (.agg (.all 10)))] [] [(some 11)] [] <|
 .ret [(.agg (.all 12))] [(.all 11)]
def u117_3:Tree:=.call 134 [] [] [none] [] <|
 .call 135 [] [] [none] [] <|
 .call 8 [(.ref 0 0),(.v (.one (.k (.int .i64 4))))] [(.all 4)] [none] [2] <|
 .opc (.bin .lss false (.v 12) (.k (.int .i64 3))) <|
 .ite (.v 14) u117_0 u117_1
def u117_4:Tree:=.opc (.len false (.v 9)) <|
 .call 8 [(.ref 0 0),(.v (.one (.v 14)))] [(.all 12)] [none] [2] <|
 .row 1 (.v 9) (.v 15) <|
 .call 20 [(.v (.one (.n 17 0)))] [] [(some 2)] [] <|
 .call 78 [(.v (.one (.v 0))),(.v (.agg (.all 18)))] [] [none,none] [] <|
 .goto 0 [(.c (.v 0)),(.c (.v 1)),(.c (.v 19)),(.c (.k (.int .i64 0))),(.l (.all 16)),(.c (.k (.int .i64 0))),(.c (.k (.string ⟨#[]⟩))),(.c (.k (.string ⟨#[]⟩))),(.c (.k (.int .i64 0))),(.c (.k (.string ⟨#[]⟩))),(.c (.k (.string ⟨#[]⟩))),(.c (.k (.string ⟨#[]⟩))),(.c (.k (.string ⟨#[]⟩))),(.c (.k (.string ⟨#[]⟩))),(.c .z),(.c .z),(.l (.all 18)),(.c .z)]
def u117_5:Tree:=.opc (.len false (.v 10)) <|
 .call 8 [(.ref 0 0),(.v (.one (.v 14)))] [(.all 12)] [none] [2] <|
 .row 1 (.v 10) (.v 15) <|
 .call 19 [(.v (.one (.n 17 0)))] [] [(some 2)] [] <|
 .call 78 [(.v (.one (.v 0))),(.v (.agg (.all 18)))] [] [none,none] [] <|
 .goto 0 [(.c (.v 0)),(.c (.v 1)),(.c (.v 19)),(.c (.k (.int .i64 0))),(.l (.all 16)),(.c (.k (.int .i64 0))),(.c (.k (.string ⟨#[]⟩))),(.c (.k (.string ⟨#[]⟩))),(.c (.k (.int .i64 0))),(.c (.k (.string ⟨#[]⟩))),(.c (.k (.string ⟨#[]⟩))),(.c (.k (.string ⟨#[]⟩))),(.c (.k (.string ⟨#[]⟩))),(.c (.k (.string ⟨#[]⟩))),(.c .z),(.c .z),(.l (.all 18)),(.c .z)]
def u117_6:Tree:=.call 16 [(.ref 0 0),(.v (.one (.k (.int .i64 1))))] [(.all 4)] [(some 7)] [2] <|
 .call 83 [(.v (.agg (.all 9)))] [] [(some 11)] [] <|
 .ret [(.agg (.all 11))] [(.all 10)]
def u117_7:Tree:=.call 134 [] [] [none] [] <|
 .call 135 [] [] [none] [] <|
 .call 8 [(.ref 0 0),(.v (.one (.k (.int .i64 4))))] [(.all 4)] [none] [2] <|
 .opc (.bin .lss false (.v 11) (.k (.int .i64 3))) <|
 .ite (.v 13) u117_4 u117_5
def u117_8:Tree:=.opc (.bin .rem false (.v 3) (.k (.int .i64 4))) <|
 .opc (.bin .lss false (.v 7) (.k (.int .i64 3))) <|
 .ite (.v 8) (.call 118 [(.ref 0 0)] [(.all 4)] [(some 11)] [2] <|
 .ret [(.agg (.all 9))] [(.all 10)]) (.opc (.bin .eql false (.v 7) (.k (.int .i64 3))) <|
 .ite (.v 9) u117_2 u117_3)
def u117_9:Tree:=.opc (.bin .lss false (.v 3) (.k (.int .i64 3))) <|
 .ite (.v 7) (.call 118 [(.ref 0 0)] [(.all 4)] [(some 11)] [2] <|
 .ret [(.agg (.all 8))] [(.all 9)]) (.opc (.bin .eql false (.v 3) (.k (.int .i64 3))) <|
 .ite (.v 8) u117_6 u117_7)
def u117_10:Tree:=.opc (.len false (.v 8)) <|
 .call 8 [(.ref 0 0),(.v (.one (.v 13)))] [(.all 11)] [none] [2] <|
 .row 1 (.v 8) (.v 14) <|
 .call 20 [(.v (.one (.n 16 0)))] [] [(some 2)] [] <|
 .call 78 [(.v (.one (.v 0))),(.v (.agg (.all 17)))] [] [none,none] [] <|
 .goto 0 [(.c (.v 0)),(.c (.v 1)),(.c (.v 18)),(.c (.k (.int .i64 0))),(.l (.all 15)),(.c (.k (.int .i64 0))),(.c (.k (.string ⟨#[]⟩))),(.c (.k (.string ⟨#[]⟩))),(.c (.k (.int .i64 0))),(.c (.k (.string ⟨#[]⟩))),(.c (.k (.string ⟨#[]⟩))),(.c (.k (.string ⟨#[]⟩))),(.c (.k (.string ⟨#[]⟩))),(.c (.k (.string ⟨#[]⟩))),(.c .z),(.c .z),(.l (.all 17)),(.c .z)]
def u117_11:Tree:=.opc (.len false (.v 9)) <|
 .call 8 [(.ref 0 0),(.v (.one (.v 13)))] [(.all 11)] [none] [2] <|
 .row 1 (.v 9) (.v 14) <|
 .call 19 [(.v (.one (.n 16 0)))] [] [(some 2)] [] <|
 .call 78 [(.v (.one (.v 0))),(.v (.agg (.all 17)))] [] [none,none] [] <|
 .goto 0 [(.c (.v 0)),(.c (.v 1)),(.c (.v 18)),(.c (.k (.int .i64 0))),(.l (.all 15)),(.c (.k (.int .i64 0))),(.c (.k (.string ⟨#[]⟩))),(.c (.k (.string ⟨#[]⟩))),(.c (.k (.int .i64 0))),(.c (.k (.string ⟨#[]⟩))),(.c (.k (.string ⟨#[]⟩))),(.c (.k (.string ⟨#[]⟩))),(.c (.k (.string ⟨#[]⟩))),(.c (.k (.string ⟨#[]⟩))),(.c .z),(.c .z),(.l (.all 17)),(.c .z)]
def u117_12:Tree:=.call 16 [(.ref 0 0),(.v (.one (.k (.int .i64 1))))] [(.all 4)] [(some 7)] [2] <|
 .call 83 [(.v (.agg (.all 8)))] [] [(some 11)] [] <|
 .ret [(.agg (.all 10))] [(.all 9)]
def u117_13:Tree:=.call 134 [] [] [none] [] <|
 .call 135 [] [] [none] [] <|
 .call 8 [(.ref 0 0),(.v (.one (.k (.int .i64 4))))] [(.all 4)] [none] [2] <|
 .opc (.bin .lss false (.v 10) (.k (.int .i64 3))) <|
 .ite (.v 12) u117_10 u117_11
def u117_14:Tree:=.opc (.bin .lss false (.v 3) (.k (.int .i64 3))) <|
 .ite (.v 6) (.call 118 [(.ref 0 0)] [(.all 4)] [(some 11)] [2] <|
 .ret [(.agg (.all 7))] [(.all 8)]) (.opc (.bin .eql false (.v 3) (.k (.int .i64 3))) <|
 .ite (.v 7) u117_12 u117_13)
def hh117:List Tree:=[.opc (.bin .lss false (.v 3) (.v 2)) <|
 .ite (.v 18)
 (.opc (.bin .sub false (.v 1) (.k (.int .i64 1))) <|
 .call 117 [(.ref 0 0),(.v (.one (.v 0))),(.v (.one (.v 19)))] [(.all 4)] [(some 11)] [2] <|
 .opc (.lits 11 1 [(.n 20 0),(.n 20 1),(.n 20 2),(.n 20 3),(.n 20 4),(.n 20 5),(.n 20 6),(.n 20 7),(.n 20 8),(.n 20 9),(.n 20 10)]) <|
 .opc (.app 11 176 (.v 17) (.v 22)) <|
 .opc (.bin .add false (.v 3) (.k (.int .i64 1))) <|
 .goto 0 [(.c (.v 0)),(.c (.v 1)),(.c (.v 2)),(.c (.v 24)),(.l (.all 21)),(.c (.v 5)),(.c (.v 6)),(.c (.v 7)),(.c (.v 8)),(.c (.v 9)),(.c (.v 10)),(.c (.v 11)),(.c (.v 12)),(.c (.v 13)),(.c (.v 14)),(.c (.v 15)),(.l (.all 16)),(.c (.v 23))])
 (.call 72 [(.v (.agg (.all 16))),(.v (.one (.v 17)))] [] [(some 11)] [] <|
 .ret [(.agg (.all 19))] [(.all 4)])]
def u117:TFun:=⟨[.ref 0 0,.one,.one],[2],.call 8 [(.ref 0 0),(.v (.one (.k (.int .i64 12))))] [(.all 2)] [none] [2] <|
 .opc (.bin .lss false (.v 1) (.k (.int .i64 1))) <|
 .ite (.v 5) (.opc (.bin .gtr false (.v 3) (.k (.int .i64 3))) <|
 .ite (.v 6) u117_8 u117_9) u117_14,hh117⟩
theorem utree117 {nat:Nat→List V→Option (List V)}:(T nat).G.fn 117=some u117:=by kernel_rfl
def u37_0:Tree:=.call 118 [(.ref 0 0)] [(.all 6)] [(some 11)] [2] <|
 .opc (.bin .sub false (.v 1) (.k (.int .i64 1))) <|
 .call 117 [(.ref 0 0),(.v (.one (.v 0))),(.v (.one (.v 15)))] [(.all 14)] [(some 11)] [2] <|
 .opc (.lits 11 2 [(.n 13 0),(.n 13 1),(.n 13 2),(.n 13 3),(.n 13 4),(.n 13 5),(.n 13 6),(.n 13 7),(.n 13 8),(.n 13 9),(.n 13 10),(.n 16 0),(.n 16 1),(.n 16 2),(.n 16 3),(.n 16 4),(.n 16 5),(.n 16 6),(.n 16 7),(.n 16 8),(.n 16 9),(.n 16 10)]) <|
 .call 30 [(.v (.one (.k (.string ⟨#[60]⟩)))),(.v (.one (.v 18)))] [] [(some 11)] [] <|
 .opc (.lits 11 1 [(.n 19 0),(.n 19 1),(.n 19 2),(.n 19 3),(.n 19 4),(.n 19 5),(.n 19 6),(.n 19 7),(.n 19 8),(.n 19 9),(.n 19 10)]) <|
 .call 30 [(.v (.one (.k (.string ⟨#[110,111,116]⟩)))),(.v (.one (.v 20)))] [] [(some 11)] [] <|
 .ret [(.agg (.all 21))] [(.all 17)]
def u37_1:Tree:=.opc (.bin .sub false (.v 1) (.k (.int .i64 1))) <|
 .call 117 [(.ref 0 0),(.v (.one (.v 0))),(.v (.one (.v 12)))] [(.all 6)] [(some 11)] [2] <|
 .opc (.lits 11 2 [(.n 3 0),(.n 3 1),(.n 3 2),(.n 3 3),(.n 3 4),(.n 3 5),(.n 3 6),(.n 3 7),(.n 3 8),(.n 3 9),(.n 3 10),(.n 13 0),(.n 13 1),(.n 13 2),(.n 13 3),(.n 13 4),(.n 13 5),(.n 13 6),(.n 13 7),(.n 13 8),(.n 13 9),(.n 13 10)]) <|
 .call 30 [(.v (.one (.k (.string ⟨#[101,113,117,97,108]⟩)))),(.v (.one (.v 15)))] [] [(some 11)] [] <|
 .ret [(.agg (.all 16))] [(.all 14)]
def u37_2:Tree:=.call 118 [(.ref 0 0)] [(.all 6)] [(some 11)] [2] <|
 .opc (.lits 11 1 [(.n 11 0),(.n 11 1),(.n 11 2),(.n 11 3),(.n 11 4),(.n 11 5),(.n 11 6),(.n 11 7),(.n 11 8),(.n 11 9),(.n 11 10)]) <|
 .call 30 [(.v (.one (.k (.string ⟨#[99,111,110,115,112]⟩)))),(.v (.one (.v 13)))] [] [(some 11)] [] <|
 .opc (.lits 11 1 [(.n 14 0),(.n 14 1),(.n 14 2),(.n 14 3),(.n 14 4),(.n 14 5),(.n 14 6),(.n 14 7),(.n 14 8),(.n 14 9),(.n 14 10)]) <|
 .call 30 [(.v (.one (.k (.string ⟨#[110,111,116]⟩)))),(.v (.one (.v 15)))] [] [(some 11)] [] <|
 .ret [(.agg (.all 16))] [(.all 12)]
def u37_3:Tree:=.opc (.bin .eql false (.v 5) (.k (.int .i64 4))) <|
 .ite (.v 11) u37_1 (.opc (.bin .eql false (.v 5) (.k (.int .i64 5))) <|
 .ite (.v 12) u37_0 (.ret [(.agg (.all 3))] [(.all 6)]))
def u37_4:Tree:=.opc (.bin .sub false (.v 1) (.k (.int .i64 1))) <|
 .call 117 [(.ref 0 0),(.v (.one (.v 0))),(.v (.one (.v 10)))] [(.all 6)] [(some 11)] [2] <|
 .opc (.lits 11 2 [(.n 3 0),(.n 3 1),(.n 3 2),(.n 3 3),(.n 3 4),(.n 3 5),(.n 3 6),(.n 3 7),(.n 3 8),(.n 3 9),(.n 3 10),(.n 11 0),(.n 11 1),(.n 11 2),(.n 11 3),(.n 11 4),(.n 11 5),(.n 11 6),(.n 11 7),(.n 11 8),(.n 11 9),(.n 11 10)]) <|
 .call 30 [(.v (.one (.k (.string ⟨#[101,113,117,97,108]⟩)))),(.v (.one (.v 13)))] [] [(some 11)] [] <|
 .opc (.lits 11 1 [(.n 14 0),(.n 14 1),(.n 14 2),(.n 14 3),(.n 14 4),(.n 14 5),(.n 14 6),(.n 14 7),(.n 14 8),(.n 14 9),(.n 14 10)]) <|
 .call 30 [(.v (.one (.k (.string ⟨#[110,111,116]⟩)))),(.v (.one (.v 15)))] [] [(some 11)] [] <|
 .ret [(.agg (.all 16))] [(.all 12)]
def u37_5:Tree:=.opc (.lits 11 1 [(.n 3 0),(.n 3 1),(.n 3 2),(.n 3 3),(.n 3 4),(.n 3 5),(.n 3 6),(.n 3 7),(.n 3 8),(.n 3 9),(.n 3 10)]) <|
 .call 30 [(.v (.one (.k (.string ⟨#[110,111,116]⟩)))),(.v (.one (.v 9)))] [] [(some 11)] [] <|
 .ret [(.agg (.all 10))] [(.all 6)]
def u37_6:Tree:=.opc (.bin .eql false (.v 5) (.k (.int .i64 2))) <|
 .ite (.v 9) u37_4 (.opc (.bin .eql false (.v 5) (.k (.int .i64 3))) <|
 .ite (.v 10) u37_2 u37_3)
def u37_7:Tree:=.opc (.lits 11 1 [(.n 3 0),(.n 3 1),(.n 3 2),(.n 3 3),(.n 3 4),(.n 3 5),(.n 3 6),(.n 3 7),(.n 3 8),(.n 3 9),(.n 3 10)]) <|
 .call 30 [(.v (.one (.k (.string ⟨#[110,111,116]⟩)))),(.v (.one (.v 8)))] [] [(some 11)] [] <|
 .ret [(.agg (.all 9))] [(.all 6)]
def hh37:List Tree:=[]
def u37:TFun:=⟨[.ref 0 0,.one,.one],[2],.call 117 [(.ref 0 0),(.v (.one (.v 0))),(.v (.one (.v 1)))] [(.all 2)] [(some 11)] [2] <|
 .call 8 [(.ref 0 0),(.v (.one (.k (.int .i64 8))))] [(.all 4)] [none] [2] <|
 .opc (.bin .eql false (.v 5) (.k (.int .i64 0))) <|
 .ite (.v 7) u37_7 (.opc (.bin .eql false (.v 5) (.k (.int .i64 1))) <|
 .ite (.v 8) u37_5 u37_6),hh37⟩
theorem utree37 {nat:Nat→List V→Option (List V)}:(T nat).G.fn 37=some u37:=by kernel_rfl
end Go.Ey.Pr

set_option maxHeartbeats 4000000
namespace Go.Ey.Pr
open Go.Ey Go.Ey.Seat
mutual
def quoT:Tm→Ob
 |.var p s=> .sy p s
 |.con o=> .cons (.sy lispB quoB) (.cons o oNil)
 |.app p s ts=> .cons (.sy p s) (quoTs ts)
def quoTs:List Tm→Ob
 |[]=>oNil
 |t::ts=> .cons (quoT t) (quoTs ts)
end
theorem quoTs_list:∀ts:List Tm,quoTs ts=listO (ts.map quoT)
 |[]=>rfl
 |t::ts=>by rw [quoTs,List.map_cons,listO,quoTs_list ts]
mutual
def noQ:Tm→Bool
 |.var _ _=>true
 |.con _=>true
 |.app p s ts=>!(decide (p=lispB) && decide (s=quoB)) && noQs ts
def noQs:List Tm→Bool
 |[]=>true
 |t::ts=>noQ t && noQs ts
end
theorem noQs_of:∀{ts:List Tm},(∀t∈ts,noQ t=true)→noQs ts=true
 |[],_=>rfl
 |t::ts,h=>by rw [noQs,h t (by simp),noQs_of fun x hx=>h x (by simp [hx])];rfl
theorem formedTs_of:∀{ts:List Tm},(∀t∈ts,formedT t=true)→formedTs ts=true
 |[],_=>rfl
 |t::ts,h=>by rw [formedTs,h t (by simp),formedTs_of fun x hx=>h x (by simp [hx])];rfl
theorem items_list:∀l:List Ob,items (listO l)=some l
 |[]=>rfl
 |x::l=>by simp [listO,items,items_list l]
mutual
theorem unq_quo:∀t:Tm,noQ t=true→unq (quoT t)=some t
 |.var p s,_=>rfl
 |.con o,_=>by
  have h:items (.cons o oNil)=some [o]:=rfl
  rw [quoT,unq_cons,h]
  simp [unqC]
 |.app p s ts,h=>by
  simp only [noQ,Bool.and_eq_true,Bool.not_eq_true'] at h
  rw [quoT,unq_cons,quoTs_list,items_list,Option.bind_some]
  simp [unqC,h.1,mapO_quo ts h.2]
theorem mapO_quo:∀ts:List Tm,noQs ts=true→mapO unq (ts.map quoT)=some ts
 |[],_=>rfl
 |t::ts,h=>by
  simp only [noQs,Bool.and_eq_true] at h
  simp [mapO,unq_quo t h.1,mapO_quo ts h.2]
end
structure DT (q d:Nat) (t:Tm):Prop where
 good:Good (quoT t)
 sz:szO (quoT t)≤q
 dp:hO (quoT t)≤d
 nq:noQ t=true
 fm:formedT t=true
theorem DT.mono {q d q' d':Nat} {t:Tm} (h:DT q d t) (hq:q≤q') (hd:d≤d'):DT q' d' t:=⟨h.good,Nat.le_trans h.sz hq,Nat.le_trans h.dp hd,h.nq,h.fm⟩
theorem DT.oko {q d:Nat} {t:Tm} (h:DT q d t) (hq:q≤3000) (hd:d≤200):OKO (quoT t):=⟨h.good,Nat.le_trans h.sz hq,Nat.le_trans h.dp hd⟩
theorem DT.okt {q d:Nat} {t:Tm} (h:DT q d t) (hq:q≤3000) (hd:d≤200):OKT t:=unq_ok (h.oko hq hd) (unq_quo t h.nq)
theorem dt_var {p s:ByteArray} (h: .sy p s∈atoms) (hv:varOK p s=true):DT 1 1 (.var p s):=⟨h,Nat.le_refl _,Nat.le_refl _,rfl,hv⟩
theorem dt_con {o:Ob} {q d:Nat} (h:Good o) (hq:szO o≤q) (hd:hO o≤d) (hd2:1≤d) (hc: .sy lispB quoB∈atoms):DT (q+4) (d+1) (.con o):=by
 refine ⟨⟨hc,h,?_⟩,?_,?_,rfl,rfl⟩
 ·simp [oNil,Good,atoms]
 ·simp only [quoT,szO,oNil];omega
 ·simp only [quoT,hO,oNil];omega
theorem dt_app {p s:ByteArray} {ts:List Tm} {q d:Nat} (hs: .sy p s∈atoms) (hn:(decide (p=lispB) && decide (s=quoB))=false) (hl:ts.length≤3) (h:∀t∈ts,DT q d t) (hd2:1≤d):DT (ts.length * (q+1)+3) (d+1) (.app p s ts):=by
 have h1:∀x∈ts.map quoT,Good x:=fun x hx=>by
  obtain ⟨t,ht,rfl⟩:=List.mem_map.1 hx
  exact (h t ht).good
 have h2:∀x∈ts.map quoT,szO x≤q:=fun x hx=>by
  obtain ⟨t,ht,rfl⟩:=List.mem_map.1 hx
  exact (h t ht).sz
 have h3:∀x∈ts.map quoT,hO x≤d:=fun x hx=>by
  obtain ⟨t,ht,rfl⟩:=List.mem_map.1 hx
  exact (h t ht).dp
 have h4:=listO_sz h2
 have h5:=listO_h h3
 rw [List.length_map] at h4
 refine ⟨⟨hs,?_⟩,?_,?_,?_,?_⟩
 ·rw [quoTs_list];exact listO_good h1
 ·simp only [quoT,szO,quoTs_list];omega
 ·simp only [quoT,hO,quoTs_list];omega
 ·simp only [noQ,hn,Bool.not_false,Bool.true_and];exact noQs_of fun t ht=>(h t ht).nq
 ·simp only [formedT]
  rw [formedTs_of fun t ht=>(h t ht).fm,Bool.and_true]
  simp;omega
def quoC (c:List Tm):Ob:=listO (c.map quoT)
theorem mapO_unqV:∀{ts:List Tm},(∀t∈ts,noQ t=true∧formedT t=true)→mapO unqV (ts.map quoT)=some ts
 |[],_=>rfl
 |t::ts,h=>by
  have h1:=h t (by simp)
  have h2:unqV (quoT t)=some t:=by simp [unqV,unq_quo t h1.1,h1.2]
  simp [mapO,h2,mapO_unqV (ts:=ts) fun x hx=>h x (by simp [hx])]
theorem clsV_quo {c:List Tm} (h:∀t∈c,noQ t=true∧formedT t=true) (hv:validC c=true):clsV (quoC c)=some c:=by
 simp [clsV,quoC,items_list,mapO_unqV h,hv]
theorem mapO_cls:∀{cl:List (List Tm)},(∀c∈cl,(∀t∈c,noQ t=true∧formedT t=true)∧validC c=true)→mapO clsV (cl.map quoC)=some cl
 |[],_=>rfl
 |c::cl,h=>by
  have h1:=h c (by simp)
  simp [mapO,clsV_quo h1.1 h1.2,mapO_cls (cl:=cl) fun x hx=>h x (by simp [hx])]
theorem clsO_quo {cl:List (List Tm)} (h:∀c∈cl,(∀t∈c,noQ t=true∧formedT t=true)∧validC c=true):clsO (listO (cl.map quoC))=some cl:=by
 simp [clsO,items_list,mapO_cls h]
theorem validFrom_snoc:∀(c pre:List Tm) (t:Tm),validFrom pre (c++[t])=(validFrom pre c && (formedT t && !inT (pre++c) t))
 |[],pre,t=>by simp [validFrom]
 |x::c,pre,t=>by
  simp only [List.cons_append,validFrom,validFrom_snoc c (pre++[x]) t,List.append_assoc,List.nil_append]
  simp only [Bool.and_assoc]
structure DC (n q d:Nat) (c:List Tm):Prop where
 len:c.length≤n
 all:∀t∈c,DT q d t
 val:validFrom [] c=true
def addC (c:List Tm) (t:Tm):List Tm:=if inT c t=true then c else c++[t]
theorem DC.add {n q d:Nat} {c:List Tm} {t:Tm} (h:DC n q d c) (ht:DT q d t):DC (n+1) q d (addC c t):=by
 unfold addC
 split
 ·exact ⟨Nat.le_succ_of_le h.len,h.all,h.val⟩
 ·rename_i hi
  refine ⟨by have:=h.len;simp;omega,fun x hx=>?_,?_⟩
  ·rcases List.mem_append.1 hx with hx|hx
   ·exact h.all x hx
   ·simp only [List.mem_singleton] at hx;subst hx;exact ht
  ·rw [validFrom_snoc,h.val,ht.fm]
   simpa using hi
theorem DC.valid {n q d:Nat} {c:List Tm} (h:DC n q d c) (hn:n≤60):validC c=true:=by
 have:=h.len
 simp only [validC,h.val,Bool.and_true,decide_eq_true_eq]
 omega
theorem DC.okc {n q d:Nat} {c:List Tm} (h:DC n q d c) (hq:q≤3000) (hd:d≤200):OKC c:=fun t ht=>(h.all t ht).okt hq hd
theorem DC.sz {n q d:Nat} {c:List Tm} (h:DC n q d c):Good (quoC c)∧szO (quoC c)≤n * (q+1)+1∧hO (quoC c)≤d+1:=by
 have h1:∀x∈c.map quoT,Good x:=fun x hx=>by
  obtain ⟨t,ht,rfl⟩:=List.mem_map.1 hx
  exact (h.all t ht).good
 have h2:∀x∈c.map quoT,szO x≤q:=fun x hx=>by
  obtain ⟨t,ht,rfl⟩:=List.mem_map.1 hx
  exact (h.all t ht).sz
 have h3:∀x∈c.map quoT,hO x≤d:=fun x hx=>by
  obtain ⟨t,ht,rfl⟩:=List.mem_map.1 hx
  exact (h.all t ht).dp
 have h4:=listO_sz h2
 rw [List.length_map] at h4
 have h5:c.length * (q+1)≤n * (q+1):=Nat.mul_le_mul_right _ h.len
 exact ⟨listO_good h1,by unfold quoC;omega,listO_h h3⟩
theorem okl {cl:List (List Tm)} {n q d m:Nat} (h:∀c∈cl,DC n q d c) (hl:cl.length≤m) (hs:m * (n * (q+1)+1+1)+1≤3000) (hd:d+2≤200):OKO (listO (cl.map quoC)):=by
 have h1:∀x∈cl.map quoC,Good x:=fun x hx=>by
  obtain ⟨t,ht,rfl⟩:=List.mem_map.1 hx
  exact (h t ht).sz.1
 have h2:∀x∈cl.map quoC,szO x≤n * (q+1)+1:=fun x hx=>by
  obtain ⟨t,ht,rfl⟩:=List.mem_map.1 hx
  exact (h t ht).sz.2.1
 have h3:∀x∈cl.map quoC,hO x≤d+1:=fun x hx=>by
  obtain ⟨t,ht,rfl⟩:=List.mem_map.1 hx
  exact (h t ht).sz.2.2
 have h4:=listO_sz h2
 have h5:=listO_h h3
 rw [List.length_map] at h4
 have h6:cl.length * (n * (q+1)+1+1)≤m * (n * (q+1)+1+1):=Nat.mul_le_mul_right _ hl
 exact ⟨listO_good h1,by omega,by omega⟩
end Go.Ey.Pr

set_option maxHeartbeats 4000000
namespace Go.Ey.Pr
open Go.Ey Go.Ey.Seat
section
variable {nat:Nat→List V→Option (List V)}
theorem x20 (s:ByteArray):fnT (T nat).G 20 [.v (.one (cs s))] []=some ([.agg [cs lispB,cs s]],[]):=by
 rw [fnT_eq tree20]
 simp [t20,zS]
theorem x122 (a b:Ob):fnT (T nat).G 122 [.v (.agg (enc a)),.v (.agg (enc b))] []=some ([.agg (enc (.cons a b))],[]):=by
 rw [fnT_eq tree122]
 simp only [t122,entryA,enc_len,if_true,bodyT,entryB,denT,opcD,atCs,atC,getW,List.nil_append,List.cons_append,Option.bind_some,nth14]
 rw [two_rows _ (by simp [enc_len])]
 simp [zS,enc,ce]
theorem x73 (s:ByteArray) (ts:List Tm):fnT (T nat).G 73 [.v (.one (cs s)),.v (.one (rows encT ts))] []=some ([.agg (encT (.app lispB s ts))],[]):=by
 rw [fnT_eq tree73]
 simp [t73,zS,x94,x72,encT_len]
theorem x30 (s:ByteArray) (ts:List Tm):fnT (T nat).G 30 [.v (.one (cs s)),.v (.one (rows encT ts))] []=some ([.agg (encT (.app lispB s ts))],[]):=by
 rw [fnT_eq tree30]
 simp [t30,zS,x73,encT_len]
theorem x19u (s:ByteArray):fnT (T nat).G 19 [.v (.one (cs s))] []=some ([.agg [cs usr,cs s]],[]):=x19 s
theorem x29 (s:ByteArray):fnT (T nat).G 29 [.v (.one (cs s))] []=some ([.agg (encT (.var usr s))],[]):=by
 rw [fnT_eq tree29]
 simp [t29,zS,x19u,x87,encT_len]
theorem x39loop (l:List Ob) (hm:l.length < 100000):∀(k:Nat),k≤l.length→
  hdT (T nat).G 39 0 [.c (rows enc l),.c (ci ((k:Int) - 1)),.c (ci 0),.c ce,.c ce,.c ce,.c ce,.c ce,.c cz,.l (enc (listO (l.drop k)))]=some ([.agg (enc (listO l))],[])
 |0,_=>by
  rw [hdT_eq tree39 (t:=t39.heads[0]) rfl]
  simp [t39,zZ,enc_len]
 |k+1,hk=>by
  have hkr:k < l.length:=by omega
  have he:(((k+1:Nat):Int) - 1)=(k:Int):=by omega
  have hs:binC .sub false (ci (k:Int)) (ci 1)=some (ci ((k:Int) - 1)):=sub_ci (by omega) (by omega)
  have hi:=x39loop l hm k (by omega)
  rw [drop_at hkr,listO] at hi
  rw [he,hdT_eq tree39 (t:=t39.heads[0]) rfl]
  simp [-Int.natCast_add,t39,zZ,row7 hkr,x122,hs,hi,enc_len]
theorem x39 (l:List Ob) (hm:l.length < 100000):fnT (T nat).G 39 [.v (.one (rows enc l))] []=some ([.agg (enc (listO l))],[]):=by
 have h3:=x39loop (nat:=nat) l hm l.length (Nat.le_refl _)
 rw [drop_end (by omega),listO] at h3
 have hs:binC .sub false (ci (l.length:Int)) (ci 1)=some (ci ((l.length:Int) - 1)):=sub_ci (by omega) (by omega)
 rw [fnT_eq tree39]
 simp [t39,zZ,x121,len7,hs,h3,enc_len]
theorem lits14r (a b:Ob):litsC 7 2 [nthC (enc a) 0,nthC (enc a) 1,nthC (enc a) 2,nthC (enc a) 3,nthC (enc a) 4,nthC (enc a) 5,nthC (enc a) 6,nthC (enc b) 0,nthC (enc b) 1,nthC (enc b) 2,nthC (enc b) 3,nthC (enc b) 4,nthC (enc b) 5,nthC (enc b) 6]=some (rows enc [a,b]):=by
 rw [nth14,two_rows _ (by simp [enc_len])]
 simp [rows]
theorem x38loop (ts:List Tm) (hm:ts.length < 90000) (ih:∀t∈ts,fnT (T nat).G 38 [.v (.agg (encT t))] []=some ([.agg (enc (quoT t))],[])):∀(m k:Nat) (acc:List Ob),k+m=ts.length→acc.length=k+1→
  hdT (T nat).G 38 0 [.c (rows encT ts),.c (ci ts.length),.c (ci k),.c (ci 0),.c ce,.c ce,.c ce,.c ce,.c ce,.c cz,.c (rows enc acc)]=some ([.agg (enc (listO (acc++(ts.drop k).map quoT)))],[])
 |0,k,acc,hk,hc=>by
  have hlt:¬((k:Int) < (ts.length:Int)):=by omega
  have h3:=x39 (nat:=nat) acc (by omega)
  rw [hdT_eq tree38 (t:=t38.heads[0]) rfl,drop_end (by omega)]
  simp [t38,zZ,hlt,h3,enc_len]
 |m+1,k,acc,hk,hc=>by
  have hkr:k < ts.length:=by omega
  have hlt:((k:Int) < (ts.length:Int)):=by omega
  have h1:=ih ts[k] (List.getElem_mem hkr)
  have hap:=app7 (acc:=acc) (x:=quoT ts[k]) (by omega)
  have hs:=add_nat k (by omega)
  have hi:=x38loop ts hm ih m (k+1) (acc++[quoT ts[k]]) (by omega) (by simp [hc])
  have hd:(ts.drop k).map quoT=quoT ts[k]::(ts.drop (k+1)).map quoT:=by rw [drop_at hkr,List.map_cons]
  rw [hd,hdT_eq tree38 (t:=t38.heads[0]) rfl]
  simp [-Int.natCast_add,-List.map_drop,t38,zZ,hlt,row11 hkr,h1,lits7,hap,hs,hi,encT_len,enc_len]
theorem x40loop (p s:ByteArray) (ts:List Tm) (hm:ts.length < 90000) (ih:∀t∈ts,fnT (T nat).G 40 [.v (.agg (encT t))] []=some ([.agg (enc (quoT t))],[])):∀(m k:Nat) (acc:List Ob),k+m=ts.length→acc.length=k+1→
  hdT (T nat).G 40 0 [.c (ci k),.l (encT (.app p s ts)),.c (ci 0),.c ce,.c ce,.c ce,.c ce,.c ce,.c cz,.c (rows enc acc)]=some ([.agg (enc (listO (acc++(ts.drop k).map quoT)))],[])
 |0,k,acc,hk,hc=>by
  have hlt:¬((k:Int) < (ts.length:Int)):=by omega
  have h3:=x14 (nat:=nat) acc (by omega)
  rw [hdT_eq tree40 (t:=t40.heads[0]) rfl,drop_end (by omega),encT_app]
  simp [t40,zZ,len11,hlt,h3,enc_len]
 |m+1,k,acc,hk,hc=>by
  have hkr:k < ts.length:=by omega
  have hlt:((k:Int) < (ts.length:Int)):=by omega
  have h1:=ih ts[k] (List.getElem_mem hkr)
  have hap:=app7 (acc:=acc) (x:=quoT ts[k]) (by omega)
  have hs:=add_nat k (by omega)
  have hi:=x40loop p s ts hm ih m (k+1) (acc++[quoT ts[k]]) (by omega) (by simp [hc])
  rw [encT_app] at hi
  have hd:(ts.drop k).map quoT=quoT ts[k]::(ts.drop (k+1)).map quoT:=by rw [drop_at hkr,List.map_cons]
  rw [hd,hdT_eq tree40 (t:=t40.heads[0]) rfl,encT_app]
  simp [-Int.natCast_add,-List.map_drop,t40,zZ,len11,hlt,row11 hkr,h1,lits7,hap,hs,hi,encT_len,enc_len]
theorem x38 {t:Tm} (hg:GoodT t) (hn:nodesT t≤3000):fnT (T nat).G 38 [.v (.agg (encT t))] []=some ([.agg (enc (quoT t))],[]):=by
 induction hg with
 |var h=>
  rw [fnT_eq tree38]
  simp [t38,zZ,encT,x119,enc_len,quoT]
 |@con o h ho=>
  have hl:=lits14r (.sy lispB quoB) o
  have h3:=x39 (nat:=nat) [.sy lispB quoB,o] (by simp)
  simp only [listO] at h3
  rw [fnT_eq tree38]
  simp only [encT]
  simp [t38,zZ,x120,x119,enc_len,hl,h3,quoT]
 |@app p s ts h hs ih=>
  simp only [nodesT] at hn
  have hl:=len_nodes ts
  have h3:=x38loop (nat:=nat) ts (by omega) (fun t ht=>ih t ht (by have:=mem_nodes ht;omega)) ts.length 0 [.sy p s] (by omega) rfl
  simp only [List.drop_zero,Int.natCast_zero] at h3
  have h4:listO ([Ob.sy p s]++ts.map quoT)=quoT (.app p s ts):=by rw [quoT,quoTs_list];rfl
  rw [h4] at h3
  rw [fnT_eq tree38,encT_app]
  simp [t38,zZ,x119,enc_len,lits7r,len11,h3]
theorem x40 {t:Tm} (hg:GoodT t) (hn:nodesT t≤3000):fnT (T nat).G 40 [.v (.agg (encT t))] []=some ([.agg (enc (quoT t))],[]):=by
 induction hg with
 |var h=>
  rw [fnT_eq tree40]
  simp [t40,zZ,encT,x49,enc_len,quoT]
 |@con o h ho=>
  have hl:=lits14r (.sy lispB quoB) o
  have h3:=x14 (nat:=nat) [.sy lispB quoB,o] (by simp)
  simp only [listO] at h3
  rw [fnT_eq tree40]
  simp only [encT]
  simp [t40,zZ,x94,x49,enc_len,hl,h3,quoT]
 |@app p s ts h hs ih=>
  simp only [nodesT] at hn
  have hl:=len_nodes ts
  have h3:=x40loop (nat:=nat) p s ts (by omega) (fun t ht=>ih t ht (by have:=mem_nodes ht;omega)) ts.length 0 [.sy p s] (by omega) rfl
  simp only [List.drop_zero,Int.natCast_zero] at h3
  have h4:listO ([Ob.sy p s]++ts.map quoT)=quoT (.app p s ts):=by rw [quoT,quoTs_list];rfl
  rw [h4,encT_app] at h3
  rw [fnT_eq tree40,encT_app]
  simp [t40,zZ,x49,enc_len,lits7r,h3]
theorem x10loop (c:List Tm) (hm:c.length < 90000) (hk:OKC c):∀(m k:Nat) (acc:List Ob),k+m=c.length→acc.length=k→
  hdT (T nat).G 10 0 [.c (rows encT c),.c (ci c.length),.c (ci k),.c (ci 0),.c ce,.c ce,.c ce,.c ce,.c ce,.c cz,.c (rows enc acc)]=some ([.agg (enc (listO (acc++(c.drop k).map quoT)))],[])
 |0,k,acc,hk',hc=>by
  have hlt:¬((k:Int) < (c.length:Int)):=by omega
  have h3:=x39 (nat:=nat) acc (by omega)
  rw [hdT_eq tree10 (t:=t10.heads[0]) rfl,drop_end (by omega)]
  simp [t10,zZ,hlt,h3,enc_len]
 |m+1,k,acc,hk',hc=>by
  have hkr:k < c.length:=by omega
  have hlt:((k:Int) < (c.length:Int)):=by omega
  have ho:=hk c[k] (List.getElem_mem hkr)
  have h1:=x38 (nat:=nat) ho.1 ho.2.1
  have hap:=app7 (acc:=acc) (x:=quoT c[k]) (by omega)
  have hs:=add_nat k (by omega)
  have hi:=x10loop c hm hk m (k+1) (acc++[quoT c[k]]) (by omega) (by simp [hc])
  have hd:(c.drop k).map quoT=quoT c[k]::(c.drop (k+1)).map quoT:=by rw [drop_at hkr,List.map_cons]
  rw [hd,hdT_eq tree10 (t:=t10.heads[0]) rfl]
  simp [-Int.natCast_add,-List.map_drop,t10,zZ,hlt,row11 hkr,h1,lits7,hap,hs,hi,encT_len,enc_len]
theorem x10 (c:List Tm) (hm:c.length < 90000) (hk:OKC c):fnT (T nat).G 10 [.v (.one (rows encT c))] []=some ([.agg (enc (quoC c))],[]):=by
 have h3:=x10loop (nat:=nat) c hm hk c.length 0 [] (by omega) rfl
 simp only [List.drop_zero,List.nil_append,Int.natCast_zero,rows_nil] at h3
 rw [fnT_eq tree10]
 simp [t10,zZ,len11,h3,quoC]
theorem x12loop (c:List Tm) (hm:c.length < 90000) (hk:OKC c):∀(m k:Nat) (acc:List Ob),k+m=c.length→acc.length=k→
  hdT (T nat).G 12 0 [.c (rows encT c),.c (ci k),.c (ci 0),.c ce,.c ce,.c ce,.c ce,.c ce,.c cz,.c (rows enc acc)]=some ([.agg (enc (listO (acc++(c.drop k).map quoT)))],[])
 |0,k,acc,hk',hc=>by
  have hlt:¬((k:Int) < (c.length:Int)):=by omega
  have h3:=x14 (nat:=nat) acc (by omega)
  rw [hdT_eq tree12 (t:=t12.heads[0]) rfl,drop_end (by omega)]
  simp [t12,zZ,len11,hlt,h3,enc_len]
 |m+1,k,acc,hk',hc=>by
  have hkr:k < c.length:=by omega
  have hlt:((k:Int) < (c.length:Int)):=by omega
  have ho:=hk c[k] (List.getElem_mem hkr)
  have h1:=x40 (nat:=nat) ho.1 ho.2.1
  have hap:=app7 (acc:=acc) (x:=quoT c[k]) (by omega)
  have hs:=add_nat k (by omega)
  have hi:=x12loop c hm hk m (k+1) (acc++[quoT c[k]]) (by omega) (by simp [hc])
  have hd:(c.drop k).map quoT=quoT c[k]::(c.drop (k+1)).map quoT:=by rw [drop_at hkr,List.map_cons]
  rw [hd,hdT_eq tree12 (t:=t12.heads[0]) rfl]
  simp [-Int.natCast_add,-List.map_drop,t12,zZ,len11,hlt,row11 hkr,h1,lits7,hap,hs,hi,encT_len,enc_len]
theorem x12 (c:List Tm) (hm:c.length < 90000) (hk:OKC c):fnT (T nat).G 12 [.v (.one (rows encT c))] []=some ([.agg (enc (quoC c))],[]):=by
 have h3:=x12loop (nat:=nat) c hm hk c.length 0 [] (by omega) rfl
 simp only [List.drop_zero,List.nil_append,Int.natCast_zero,rows_nil] at h3
 rw [fnT_eq tree12]
 simp [t12,zZ,h3,quoC]
theorem one11 (t:Tm):litsC 11 1 (encT t)=some (rows encT [t]):=by simp [litsC,encT_len,roomMax,rows]
theorem x36 (c:List Tm) (hm:c.length < 1000) (hk:OKC c) (t:Tm):fnT (T nat).G 36 [.v (.one (rows encT c)),.v (.one (rows encT [t]))] []=some ([.one (rows encT (addC c t))],[]):=by
 have hl1:lenC false (rows encT [t])=some (ci 1):=rfl
 have hs:binC .add false (ci c.length) (ci 1)=some (ci ((c.length+1:Nat):Int)):=add_nat _ (by omega)
 have hmk:mkC 11 176 [.int .i64 0,.string ⟨#[]⟩,.string ⟨#[]⟩,.int .i64 0,.string ⟨#[]⟩,.string ⟨#[]⟩,.string ⟨#[]⟩,.string ⟨#[]⟩,.string ⟨#[]⟩,.slice none 0 0,.slice none 0 0] (ci 0) (ci ((c.length+1:Nat):Int))=some cz:=by
  simp only [mkC,ci]
  rw [if_pos ⟨by omega,by omega,by simp only [Int.toNat_natCast,roomMax];omega,by simp only [Int.toNat_natCast,roomMax];omega,rfl,by decide⟩]
  rfl
 have happ:appC 11 176 (rows encT c) cz=some (rows encT c):=by
  have h1:(c.flatMap encT).length=c.length * 11:=flat_len encT_len c
  simp only [appC,cz,rows,srcC]
  rw [if_pos h1]
  simp only [Option.bind_some]
  rw [if_pos ⟨h1,rfl,by simp only [roomMax];omega,by decide,by simp only [roomMax];omega⟩]
  simp
 have hs0:binC .add false (ci 0) (ci 1)=some (ci 1):=add_ci (by omega) (by omega)
 have hrow:rowC 11 (rows encT [t]) (ci 0)=some (encT t):=row11 (ts:=[t]) (k:=0) (by simp)
 have hap2:=app11 (acc:=c) (x:=t) (by omega)
 have hc:=x116 (nat:=nat) c (by omega) hk t
 have e1:∀c':List Tm,hdT (T nat).G 36 0 [.c (rows encT [t]),.c (ci 1),.c (rows encT c')]=some ([.one (rows encT c')],[]):=fun c'=>by
  rw [hdT_eq tree36 (t:=t36.heads[0]) rfl]
  simp [t36,zZ,hl1]
 have e0:hdT (T nat).G 36 0 [.c (rows encT [t]),.c (ci 0),.c (rows encT c)]=some ([.one (rows encT (addC c t))],[]):=by
  rw [hdT_eq tree36 (t:=t36.heads[0]) rfl]
  cases hb:inT c t<;>rw [hb] at hc<;>simp [t36,zZ,hl1,hrow,hc,hs0,e1,lits11,hap2,addC,hb,encT_len]
 rw [fnT_eq tree36]
 simp only [t36]
 simp [-Int.natCast_add,zZ,len11,hl1,hs,hmk,happ,e0]
end
end Go.Ey.Pr
