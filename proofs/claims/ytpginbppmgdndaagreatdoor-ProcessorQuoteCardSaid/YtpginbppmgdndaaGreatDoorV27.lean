/- A part of the proof. -/
import Derived.Test.YtpginbppmgdndaaGreatDoorV26
set_option linter.all false
namespace Go.Ey.Pr
open Go.Ey Go.Ey.Seat
section
variable {nat:Nat→List V→Option (List V)}
def t4:TFun:=⟨[.one],[],
 .call 6 [] [] [none] [] <|
 .opc (.un .not (.v 1)) <|
 .ite (.v 2)
 (.ret [(.one (.k (.bool false)))] [])
 (.opc (.len false (.v 0)) <|
 .opc (.bin .gtr false (.v 3) (.k (.int .i64 60))) <|
 .ite (.v 4)
 (.ret [(.one (.k (.bool true)))] [])
 (.call 16 [(.ref 0 0),(.v (.one (.k (.int .i64 4))))] [(.lit [(.v 0),(.k (.int .i64 0))])] [(some 7)] [2] <|
 .call 16 [(.ref 0 0),(.v (.one (.k (.int .i64 2))))] [(.all 6)] [(some 7)] [2] <|
 .call 16 [(.ref 0 0),(.v (.one (.k (.int .i64 2))))] [(.all 8)] [(some 7)] [2] <|
 .opc (.lits 7 2 [(.n 7 0),(.n 7 1),(.n 7 2),(.n 7 3),(.n 7 4),(.n 7 5),(.n 7 6),(.n 9 0),(.n 9 1),(.n 9 2),(.n 9 3),(.n 9 4),(.n 9 5),(.n 9 6)]) <|
 .call 14 [(.v (.one (.v 11)))] [] [(some 7)] [] <|
 .opc (.lits 7 1 [(.n 12 0),(.n 12 1),(.n 12 2),(.n 12 3),(.n 12 4),(.n 12 5),(.n 12 6)]) <|
 .call 14 [(.v (.one (.v 13)))] [] [(some 7)] [] <|
 .call 16 [(.ref 0 0),(.v (.one (.k (.int .i64 2))))] [(.all 10)] [(some 7)] [2] <|
 .opc (.lits 7 1 [(.n 15 0),(.n 15 1),(.n 15 2),(.n 15 3),(.n 15 4),(.n 15 5),(.n 15 6)]) <|
 .call 14 [(.v (.one (.v 17)))] [] [(some 7)] [] <|
 .opc (.lits 7 3 [(.n 5 0),(.n 5 1),(.n 5 2),(.n 5 3),(.n 5 4),(.n 5 5),(.n 5 6),(.n 14 0),(.n 14 1),(.n 14 2),(.n 14 3),(.n 14 4),(.n 14 5),(.n 14 6),(.n 18 0),(.n 18 1),(.n 18 2),(.n 18 3),(.n 18 4),(.n 18 5),(.n 18 6)]) <|
 .opc (.len false (.v 19)) <|
 .goto 0 [(.c (.v 20)),(.c (.k (.int .i64 0))),(.c (.v 19))])),
 [.opc (.bin .lss false (.v 1) (.v 0)) <|
 .ite (.v 3)
 (.row 7 (.v 2) (.v 1) <|
 .row 7 (.v 2) (.v 1) <|
 .call 13 [(.v (.agg (.all 5)))] [] [none,none] [] <|
 .call 17 [(.v (.agg (.all 5)))] [] [none,none] [] <|
 .opc (.bin .neq true (.v 7) (.v 9)) <|
 .ite (.v 10)
 (.ret [(.one (.k (.bool false)))] [])
 (.call 15 [(.v (.one (.v 6))),(.v (.one (.v 8)))] [] [none] [] <|
 .opc (.un .not (.v 11)) <|
 .ite (.v 12)
 (.ret [(.one (.k (.bool false)))] [])
 (.opc (.bin .add false (.v 1) (.k (.int .i64 1))) <|
 .goto 0 [(.c (.v 0)),(.c (.v 13)),(.c (.v 2))])))
 (.ret [(.one (.k (.bool true)))] [])]⟩
def t8:TFun:=⟨[.ref 0 0,.one],[2],
 .opc (.len false (.n 1 0)) <|
 .opc (.bin .geq false (.n 1 1) (.v 2)) <|
 .ite (.v 3)
 (.ret [(.one (.k (.int .i64 0)))] [(.all 1)])
 (.opc (.bin .lss false (.v 0) (.k (.int .i64 1))) <|
 .ite (.v 4)
 (.ret [(.one (.k (.int .i64 0)))] [(.all 1)])
 (.opc (.bin .add false (.n 1 1) (.k (.int .i64 1))) <|
 .opc (.bin .sub false (.v 5) (.k (.int .i64 1))) <|
 .row 1 (.n 1 0) (.v 6) <|
 .opc (.conv .i64 (.n 7 0)) <|
 .opc (.bin .rem false (.v 8) (.v 0)) <|
 .ret [(.one (.v 9))] [(.lit [(.n 1 0),(.v 5)])])),
 []⟩
theorem tree8:(T nat).G.fn 8=some t8:=by kernel_rfl
def t11:TFun:=⟨[.agg 7,.agg 7],[],
 .opc (.bin .neq false (.n 0 0) (.n 1 0)) <|
 .ite (.v 2)
 (.ret [(.one (.k (.bool false)))] [])
 (.opc (.bin .neq false (.n 0 1) (.n 1 1)) <|
 .ite (.v 3)
 (.ret [(.one (.k (.bool false)))] [])
 (.opc (.bin .neq false (.n 0 2) (.n 1 2)) <|
 .ite (.v 4)
 (.ret [(.one (.k (.bool false)))] [])
 (.opc (.eqs [1,1] true (.lit [(.n 0 3),(.n 0 4)]) (.lit [(.n 1 3),(.n 1 4)])) <|
 .ite (.v 5)
 (.ret [(.one (.k (.bool false)))] [])
 (.opc (.bin .neq false (.n 0 5) (.n 1 5)) <|
 .ite (.v 6)
 (.ret [(.one (.k (.bool false)))] [])
 (.opc (.len false (.n 0 6)) <|
 .opc (.len false (.n 1 6)) <|
 .opc (.bin .neq false (.v 7) (.v 8)) <|
 .ite (.v 9)
 (.ret [(.one (.k (.bool false)))] [])
 (.goto 0 [(.c (.k (.int .i64 0))),(.l (.all 0)),(.l (.all 1))])))))),
 [.opc (.len false (.n 1 6)) <|
 .opc (.bin .lss false (.v 0) (.v 3)) <|
 .ite (.v 4)
 (.row 7 (.n 1 6) (.v 0) <|
 .row 7 (.n 2 6) (.v 0) <|
 .call 11 [(.v (.agg (.all 5))),(.v (.agg (.all 6)))] [] [none] [] <|
 .opc (.un .not (.v 7)) <|
 .ite (.v 8)
 (.ret [(.one (.k (.bool false)))] [])
 (.opc (.bin .add false (.v 0) (.k (.int .i64 1))) <|
 .goto 0 [(.c (.v 9)),(.l (.all 1)),(.l (.all 2))]))
 (.ret [(.one (.k (.bool true)))] [])]⟩
theorem tree11:(T nat).G.fn 11=some t11:=by kernel_rfl
def t13:TFun:=⟨[.agg 7],[],
 .call 41 [(.v (.agg (.all 0)))] [] [none,none] [] <|
 .opc (.un .not (.v 2)) <|
 .ite (.v 3)
 (.ret [(.one .z),(.one (.k (.bool false)))] [])
 (.opc (.len false (.v 1)) <|
 .goto 0 [(.c (.v 1)),(.c (.v 4)),(.c (.k (.int .i64 0))),(.c .z)]),
 [.opc (.bin .lss false (.v 2) (.v 1)) <|
 .ite (.v 4)
 (.row 7 (.v 0) (.v 2) <|
 .call 41 [(.v (.agg (.all 5)))] [] [none,none] [] <|
 .opc (.un .not (.v 7)) <|
 .ite (.v 8)
 (.ret [(.one .z),(.one (.k (.bool false)))] [])
 (.opc (.len false (.v 6)) <|
 .goto 1 [(.c (.v 0)),(.c (.v 1)),(.c (.v 2)),(.c (.v 6)),(.c (.v 9)),(.c (.k (.int .i64 0))),(.c (.v 3)),(.c .z)]))
 (.ret [(.one (.v 3)),(.one (.k (.bool true)))] []),
 .opc (.bin .lss false (.v 5) (.v 4)) <|
 .ite (.v 8)
 (.row 7 (.v 3) (.v 5) <|
 .call 42 [(.v (.agg (.all 9)))] [] [(some 11),none] [] <|
 .opc (.un .not (.v 11)) <|
 .ite (.v 12)
 (.ret [(.one .z),(.one (.k (.bool false)))] [])
 (.opc (.lits 11 1 [(.n 10 0),(.n 10 1),(.n 10 2),(.n 10 3),(.n 10 4),(.n 10 5),(.n 10 6),(.n 10 7),(.n 10 8),(.n 10 9),(.n 10 10)]) <|
 .opc (.app 11 176 (.v 7) (.v 13)) <|
 .opc (.bin .add false (.v 5) (.k (.int .i64 1))) <|
 .goto 1 [(.c (.v 0)),(.c (.v 1)),(.c (.v 2)),(.c (.v 3)),(.c (.v 4)),(.c (.v 15)),(.c (.v 6)),(.c (.v 14))]))
 (.call 43 [(.v (.one (.v 7)))] [] [none] [] <|
 .opc (.un .not (.v 9)) <|
 .ite (.v 10)
 (.ret [(.one .z),(.one (.k (.bool false)))] [])
 (.opc (.lits 1 1 [(.v 7)]) <|
 .opc (.app 1 24 (.v 6) (.v 11)) <|
 .opc (.bin .add false (.v 2) (.k (.int .i64 1))) <|
 .goto 0 [(.c (.v 0)),(.c (.v 1)),(.c (.v 13)),(.c (.v 12))]))]⟩
theorem tree13:(T nat).G.fn 13=some t13:=by kernel_rfl
def t14:TFun:=⟨[.one],[],
 .call 44 [] [] [(some 7)] [] <|
 .opc (.len false (.v 0)) <|
 .opc (.bin .sub false (.v 2) (.k (.int .i64 1))) <|
 .goto 0 [(.c (.v 0)),(.c (.v 3)),(.c (.k (.int .i64 0))),(.c (.k (.string ⟨#[]⟩))),(.c (.k (.string ⟨#[]⟩))),(.c (.k (.string ⟨#[]⟩))),(.c (.k (.string ⟨#[]⟩))),(.c (.k (.string ⟨#[]⟩))),(.c .z),(.l (.all 1))],
 [.opc (.bin .geq false (.v 1) (.k (.int .i64 0))) <|
 .ite (.v 10)
 (.row 7 (.v 0) (.v 1) <|
 .call 45 [(.v (.agg (.all 11))),(.v (.agg (.all 9)))] [] [(some 7)] [] <|
 .opc (.bin .sub false (.v 1) (.k (.int .i64 1))) <|
 .goto 0 [(.c (.v 0)),(.c (.v 13)),(.c (.v 2)),(.c (.v 3)),(.c (.v 4)),(.c (.v 5)),(.c (.v 6)),(.c (.v 7)),(.c (.v 8)),(.l (.all 12))])
 (.ret [(.agg (.all 9))] [])]⟩
theorem tree14:(T nat).G.fn 14=some t14:=by kernel_rfl
def t15:TFun:=⟨[.one,.one],[],
 .opc (.len false (.v 0)) <|
 .opc (.len false (.v 1)) <|
 .opc (.bin .neq false (.v 2) (.v 3)) <|
 .ite (.v 4)
 (.ret [(.one (.k (.bool false)))] [])
 (.goto 0 [(.c (.v 0)),(.c (.v 1)),(.c (.k (.int .i64 0)))]),
 [.opc (.len false (.v 0)) <|
 .opc (.bin .lss false (.v 2) (.v 3)) <|
 .ite (.v 4)
 (.row 1 (.v 0) (.v 2) <|
 .row 1 (.v 1) (.v 2) <|
 .call 26 [(.v (.one (.n 5 0))),(.v (.one (.n 6 0)))] [] [none] [] <|
 .opc (.un .not (.v 7)) <|
 .ite (.v 8)
 (.ret [(.one (.k (.bool false)))] [])
 (.opc (.bin .add false (.v 2) (.k (.int .i64 1))) <|
 .goto 0 [(.c (.v 0)),(.c (.v 1)),(.c (.v 9))]))
 (.ret [(.one (.k (.bool true)))] [])]⟩
theorem tree15:(T nat).G.fn 15=some t15:=by kernel_rfl
def t16:TFun:=⟨[.ref 0 0,.one],[2],
 .call 8 [(.ref 0 0),(.v (.one (.k (.int .i64 14))))] [(.all 1)] [none] [2] <|
 .opc (.bin .lss false (.v 0) (.k (.int .i64 1))) <|
 .ite (.v 4)
 (.opc (.bin .gtr false (.v 2) (.k (.int .i64 9))) <|
 .ite (.v 5)
 (.opc (.bin .sub false (.v 2) (.k (.int .i64 8))) <|
 .opc (.bin .eql false (.v 6) (.k (.int .i64 0))) <|
 .ite (.v 7)
 (.call 44 [] [] [(some 7)] [] <|
 .ret [(.agg (.all 8))] [(.all 3)])
 (.opc (.bin .eql false (.v 6) (.k (.int .i64 1))) <|
 .ite (.v 8)
 (.call 46 [] [] [(some 7)] [] <|
 .ret [(.agg (.all 9))] [(.all 3)])
 (.opc (.bin .eql false (.v 6) (.k (.int .i64 2))) <|
 .ite (.v 9)
 (.call 8 [(.ref 0 0),(.v (.one (.k (.int .i64 7))))] [(.all 3)] [none] [2] <|
 .opc (.bin .sub false (.v 10) (.k (.int .i64 3))) <|
 .call 47 [(.v (.one (.v 12)))] [] [(some 7)] [] <|
 .ret [(.agg (.all 13))] [(.all 11)])
 (.opc (.bin .eql false (.v 6) (.k (.int .i64 3))) <|
 .ite (.v 10)
 (.call 8 [(.ref 0 0),(.v (.one (.k (.int .i64 7))))] [(.all 3)] [none] [2] <|
 .opc (.bin .sub false (.v 11) (.k (.int .i64 3))) <|
 .call 47 [(.v (.one (.v 13)))] [] [(some 7)] [] <|
 .ret [(.agg (.all 14))] [(.all 12)])
 (.opc (.bin .eql false (.v 6) (.k (.int .i64 4))) <|
 .ite (.v 11)
 (.call 48 [(.v (.one (.k (.string ⟨#[49]⟩)))),(.v (.one (.k (.string ⟨#[50]⟩))))] [] [(some 7)] [] <|
 .ret [(.agg (.all 12))] [(.all 3)])
 (.opc (.bin .eql false (.v 6) (.k (.int .i64 5))) <|
 .ite (.v 12)
 (.call 48 [(.v (.one (.k (.string ⟨#[45,53]⟩)))),(.v (.one (.k (.string ⟨#[51]⟩))))] [] [(some 7)] [] <|
 .ret [(.agg (.all 13))] [(.all 3)])
 (.opc (.bin .eql false (.v 6) (.k (.int .i64 6))) <|
 .ite (.v 13)
 (.call 8 [(.ref 0 0),(.v (.one (.k (.int .i64 3))))] [(.all 3)] [none] [2] <|
 .opc (.sstr (.k (.string ⟨#[97,98,99]⟩)) (some (.v 14)) none) <|
 .opc (.sstr (.v 16) none (some (.k (.int .i64 1)))) <|
 .call 19 [(.v (.one (.v 17)))] [] [(some 2)] [] <|
 .call 49 [(.v (.agg (.all 18)))] [] [(some 7)] [] <|
 .ret [(.agg (.all 19))] [(.all 15)])
 (.opc (.bin .eql false (.v 6) (.k (.int .i64 7))) <|
 .ite (.v 14)
 (.call 8 [(.ref 0 0),(.v (.one (.k (.int .i64 3))))] [(.all 3)] [none] [2] <|
 .opc (.sstr (.k (.string ⟨#[112,113]⟩)) none (some (.v 15))) <|
 .call 50 [(.v (.one (.v 17)))] [] [(some 7)] [] <|
 .ret [(.agg (.all 18))] [(.all 16)])
 (.opc (.bin .eql false (.v 6) (.k (.int .i64 8))) <|
 .ite (.v 15)
 (.call 47 [(.v (.one (.k (.int .i64 0))))] [] [(some 7)] [] <|
 .ret [(.agg (.all 16))] [(.all 3)])
 (.opc (.bin .eql false (.v 6) (.k (.int .i64 9))) <|
 .ite (.v 16)
 (.call 47 [(.v (.one (.k (.int .i64 1))))] [] [(some 7)] [] <|
 .ret [(.agg (.all 17))] [(.all 3)])
 (.opc (.bin .eql false (.v 6) (.k (.int .i64 10))) <|
 .ite (.v 17)
 (.call 8 [(.ref 0 0),(.v (.one (.k (.int .i64 4))))] [(.all 3)] [none] [2] <|
 .goto 0 [(.c (.v 0)),(.c (.v 18)),(.c (.k (.int .i64 0))),(.l (.all 19)),(.c (.k (.int .i64 0))),(.c (.k (.string ⟨#[]⟩))),(.c (.k (.string ⟨#[]⟩))),(.c (.k (.string ⟨#[]⟩))),(.c (.k (.string ⟨#[]⟩))),(.c (.k (.string ⟨#[]⟩))),(.c .z),(.c .z)])
 (.opc (.bin .eql false (.v 6) (.k (.int .i64 11))) <|
 .ite (.v 18)
 (.call 8 [(.ref 0 0),(.v (.one (.k (.int .i64 4))))] [(.all 3)] [none] [2] <|
 .goto 0 [(.c (.v 0)),(.c (.v 19)),(.c (.k (.int .i64 0))),(.l (.all 20)),(.c (.k (.int .i64 0))),(.c (.k (.string ⟨#[]⟩))),(.c (.k (.string ⟨#[]⟩))),(.c (.k (.string ⟨#[]⟩))),(.c (.k (.string ⟨#[]⟩))),(.c (.k (.string ⟨#[]⟩))),(.c .z),(.c .z)])
 (.opc (.bin .eql false (.v 6) (.k (.int .i64 12))) <|
 .ite (.v 19)
 (.call 8 [(.ref 0 0),(.v (.one (.k (.int .i64 4))))] [(.all 3)] [none] [2] <|
 .goto 0 [(.c (.v 0)),(.c (.v 20)),(.c (.k (.int .i64 0))),(.l (.all 21)),(.c (.k (.int .i64 0))),(.c (.k (.string ⟨#[]⟩))),(.c (.k (.string ⟨#[]⟩))),(.c (.k (.string ⟨#[]⟩))),(.c (.k (.string ⟨#[]⟩))),(.c (.k (.string ⟨#[]⟩))),(.c .z),(.c .z)])
 (.opc (.bin .sub false (.v 0) (.k (.int .i64 1))) <|
 .call 16 [(.ref 0 0),(.v (.one (.v 20)))] [(.all 3)] [(some 7)] [2] <|
 .opc (.bin .sub false (.v 0) (.k (.int .i64 1))) <|
 .call 16 [(.ref 0 0),(.v (.one (.v 23)))] [(.all 22)] [(some 7)] [2] <|
 .call 45 [(.v (.agg (.all 21))),(.v (.agg (.all 24)))] [] [(some 7)] [] <|
 .ret [(.agg (.all 26))] [(.all 25)]))))))))))))))
 (.opc (.bin .eql false (.v 2) (.k (.int .i64 0))) <|
 .ite (.v 6)
 (.call 44 [] [] [(some 7)] [] <|
 .ret [(.agg (.all 7))] [(.all 3)])
 (.opc (.bin .eql false (.v 2) (.k (.int .i64 1))) <|
 .ite (.v 7)
 (.call 46 [] [] [(some 7)] [] <|
 .ret [(.agg (.all 8))] [(.all 3)])
 (.opc (.bin .eql false (.v 2) (.k (.int .i64 2))) <|
 .ite (.v 8)
 (.call 8 [(.ref 0 0),(.v (.one (.k (.int .i64 7))))] [(.all 3)] [none] [2] <|
 .opc (.bin .sub false (.v 9) (.k (.int .i64 3))) <|
 .call 47 [(.v (.one (.v 11)))] [] [(some 7)] [] <|
 .ret [(.agg (.all 12))] [(.all 10)])
 (.opc (.bin .eql false (.v 2) (.k (.int .i64 3))) <|
 .ite (.v 9)
 (.call 8 [(.ref 0 0),(.v (.one (.k (.int .i64 7))))] [(.all 3)] [none] [2] <|
 .opc (.bin .sub false (.v 10) (.k (.int .i64 3))) <|
 .call 47 [(.v (.one (.v 12)))] [] [(some 7)] [] <|
 .ret [(.agg (.all 13))] [(.all 11)])
 (.opc (.bin .eql false (.v 2) (.k (.int .i64 4))) <|
 .ite (.v 10)
 (.call 48 [(.v (.one (.k (.string ⟨#[49]⟩)))),(.v (.one (.k (.string ⟨#[50]⟩))))] [] [(some 7)] [] <|
 .ret [(.agg (.all 11))] [(.all 3)])
 (.opc (.bin .eql false (.v 2) (.k (.int .i64 5))) <|
 .ite (.v 11)
 (.call 48 [(.v (.one (.k (.string ⟨#[45,53]⟩)))),(.v (.one (.k (.string ⟨#[51]⟩))))] [] [(some 7)] [] <|
 .ret [(.agg (.all 12))] [(.all 3)])
 (.opc (.bin .eql false (.v 2) (.k (.int .i64 6))) <|
 .ite (.v 12)
 (.call 8 [(.ref 0 0),(.v (.one (.k (.int .i64 3))))] [(.all 3)] [none] [2] <|
 .opc (.sstr (.k (.string ⟨#[97,98,99]⟩)) (some (.v 13)) none) <|
 .opc (.sstr (.v 15) none (some (.k (.int .i64 1)))) <|
 .call 19 [(.v (.one (.v 16)))] [] [(some 2)] [] <|
 .call 49 [(.v (.agg (.all 17)))] [] [(some 7)] [] <|
 .ret [(.agg (.all 18))] [(.all 14)])
 (.opc (.bin .eql false (.v 2) (.k (.int .i64 7))) <|
 .ite (.v 13)
 (.call 8 [(.ref 0 0),(.v (.one (.k (.int .i64 3))))] [(.all 3)] [none] [2] <|
 .opc (.sstr (.k (.string ⟨#[112,113]⟩)) none (some (.v 14))) <|
 .call 50 [(.v (.one (.v 16)))] [] [(some 7)] [] <|
 .ret [(.agg (.all 17))] [(.all 15)])
 (.opc (.bin .eql false (.v 2) (.k (.int .i64 8))) <|
 .ite (.v 14)
 (.call 47 [(.v (.one (.k (.int .i64 0))))] [] [(some 7)] [] <|
 .ret [(.agg (.all 15))] [(.all 3)])
 (.opc (.bin .eql false (.v 2) (.k (.int .i64 9))) <|
 .ite (.v 15)
 (.call 47 [(.v (.one (.k (.int .i64 1))))] [] [(some 7)] [] <|
 .ret [(.agg (.all 16))] [(.all 3)])
 (.opc (.bin .eql false (.v 2) (.k (.int .i64 10))) <|
 .ite (.v 16)
 (.call 8 [(.ref 0 0),(.v (.one (.k (.int .i64 4))))] [(.all 3)] [none] [2] <|
 .goto 0 [(.c (.v 0)),(.c (.v 17)),(.c (.k (.int .i64 0))),(.l (.all 18)),(.c (.k (.int .i64 0))),(.c (.k (.string ⟨#[]⟩))),(.c (.k (.string ⟨#[]⟩))),(.c (.k (.string ⟨#[]⟩))),(.c (.k (.string ⟨#[]⟩))),(.c (.k (.string ⟨#[]⟩))),(.c .z),(.c .z)])
 (.opc (.bin .eql false (.v 2) (.k (.int .i64 11))) <|
 .ite (.v 17)
 (.call 8 [(.ref 0 0),(.v (.one (.k (.int .i64 4))))] [(.all 3)] [none] [2] <|
 .goto 0 [(.c (.v 0)),(.c (.v 18)),(.c (.k (.int .i64 0))),(.l (.all 19)),(.c (.k (.int .i64 0))),(.c (.k (.string ⟨#[]⟩))),(.c (.k (.string ⟨#[]⟩))),(.c (.k (.string ⟨#[]⟩))),(.c (.k (.string ⟨#[]⟩))),(.c (.k (.string ⟨#[]⟩))),(.c .z),(.c .z)])
 (.opc (.bin .eql false (.v 2) (.k (.int .i64 12))) <|
 .ite (.v 18)
 (.call 8 [(.ref 0 0),(.v (.one (.k (.int .i64 4))))] [(.all 3)] [none] [2] <|
 .goto 0 [(.c (.v 0)),(.c (.v 19)),(.c (.k (.int .i64 0))),(.l (.all 20)),(.c (.k (.int .i64 0))),(.c (.k (.string ⟨#[]⟩))),(.c (.k (.string ⟨#[]⟩))),(.c (.k (.string ⟨#[]⟩))),(.c (.k (.string ⟨#[]⟩))),(.c (.k (.string ⟨#[]⟩))),(.c .z),(.c .z)])
 (.opc (.bin .sub false (.v 0) (.k (.int .i64 1))) <|
 .call 16 [(.ref 0 0),(.v (.one (.v 19)))] [(.all 3)] [(some 7)] [2] <|
 .opc (.bin .sub false (.v 0) (.k (.int .i64 1))) <|
 .call 16 [(.ref 0 0),(.v (.one (.v 22)))] [(.all 21)] [(some 7)] [2] <|
 .call 45 [(.v (.agg (.all 20))),(.v (.agg (.all 23)))] [] [(some 7)] [] <|
 .ret [(.agg (.all 25))] [(.all 24)])))))))))))))))
 (.opc (.bin .eql false (.v 2) (.k (.int .i64 0))) <|
 .ite (.v 5)
 (.call 44 [] [] [(some 7)] [] <|
 .ret [(.agg (.all 6))] [(.all 3)])
 (.opc (.bin .eql false (.v 2) (.k (.int .i64 1))) <|
 .ite (.v 6)
 (.call 46 [] [] [(some 7)] [] <|
 .ret [(.agg (.all 7))] [(.all 3)])
 (.opc (.bin .eql false (.v 2) (.k (.int .i64 2))) <|
 .ite (.v 7)
 (.call 8 [(.ref 0 0),(.v (.one (.k (.int .i64 7))))] [(.all 3)] [none] [2] <|
 .opc (.bin .sub false (.v 8) (.k (.int .i64 3))) <|
 .call 47 [(.v (.one (.v 10)))] [] [(some 7)] [] <|
 .ret [(.agg (.all 11))] [(.all 9)])
 (.opc (.bin .eql false (.v 2) (.k (.int .i64 3))) <|
 .ite (.v 8)
 (.call 8 [(.ref 0 0),(.v (.one (.k (.int .i64 7))))] [(.all 3)] [none] [2] <|
 .opc (.bin .sub false (.v 9) (.k (.int .i64 3))) <|
 .call 47 [(.v (.one (.v 11)))] [] [(some 7)] [] <|
 .ret [(.agg (.all 12))] [(.all 10)])
 (.opc (.bin .eql false (.v 2) (.k (.int .i64 4))) <|
 .ite (.v 9)
 (.call 48 [(.v (.one (.k (.string ⟨#[49]⟩)))),(.v (.one (.k (.string ⟨#[50]⟩))))] [] [(some 7)] [] <|
 .ret [(.agg (.all 10))] [(.all 3)])
 (.opc (.bin .eql false (.v 2) (.k (.int .i64 5))) <|
 .ite (.v 10)
 (.call 48 [(.v (.one (.k (.string ⟨#[45,53]⟩)))),(.v (.one (.k (.string ⟨#[51]⟩))))] [] [(some 7)] [] <|
 .ret [(.agg (.all 11))] [(.all 3)])
 (.opc (.bin .eql false (.v 2) (.k (.int .i64 6))) <|
 .ite (.v 11)
 (.call 8 [(.ref 0 0),(.v (.one (.k (.int .i64 3))))] [(.all 3)] [none] [2] <|
 .opc (.sstr (.k (.string ⟨#[97,98,99]⟩)) (some (.v 12)) none) <|
 .opc (.sstr (.v 14) none (some (.k (.int .i64 1)))) <|
 .call 19 [(.v (.one (.v 15)))] [] [(some 2)] [] <|
 .call 49 [(.v (.agg (.all 16)))] [] [(some 7)] [] <|
 .ret [(.agg (.all 17))] [(.all 13)])
 (.opc (.bin .eql false (.v 2) (.k (.int .i64 7))) <|
 .ite (.v 12)
 (.call 8 [(.ref 0 0),(.v (.one (.k (.int .i64 3))))] [(.all 3)] [none] [2] <|
 .opc (.sstr (.k (.string ⟨#[112,113]⟩)) none (some (.v 13))) <|
 .call 50 [(.v (.one (.v 15)))] [] [(some 7)] [] <|
 .ret [(.agg (.all 16))] [(.all 14)])
 (.opc (.bin .eql false (.v 2) (.k (.int .i64 8))) <|
 .ite (.v 13)
 (.call 47 [(.v (.one (.k (.int .i64 0))))] [] [(some 7)] [] <|
 .ret [(.agg (.all 14))] [(.all 3)])
 (.opc (.bin .eql false (.v 2) (.k (.int .i64 9))) <|
 .ite (.v 14)
 (.call 47 [(.v (.one (.k (.int .i64 1))))] [] [(some 7)] [] <|
 .ret [(.agg (.all 15))] [(.all 3)])
 (.opc (.bin .eql false (.v 2) (.k (.int .i64 10))) <|
 .ite (.v 15)
 (.call 8 [(.ref 0 0),(.v (.one (.k (.int .i64 4))))] [(.all 3)] [none] [2] <|
 .goto 0 [(.c (.v 0)),(.c (.v 16)),(.c (.k (.int .i64 0))),(.l (.all 17)),(.c (.k (.int .i64 0))),(.c (.k (.string ⟨#[]⟩))),(.c (.k (.string ⟨#[]⟩))),(.c (.k (.string ⟨#[]⟩))),(.c (.k (.string ⟨#[]⟩))),(.c (.k (.string ⟨#[]⟩))),(.c .z),(.c .z)])
 (.opc (.bin .eql false (.v 2) (.k (.int .i64 11))) <|
 .ite (.v 16)
 (.call 8 [(.ref 0 0),(.v (.one (.k (.int .i64 4))))] [(.all 3)] [none] [2] <|
 .goto 0 [(.c (.v 0)),(.c (.v 17)),(.c (.k (.int .i64 0))),(.l (.all 18)),(.c (.k (.int .i64 0))),(.c (.k (.string ⟨#[]⟩))),(.c (.k (.string ⟨#[]⟩))),(.c (.k (.string ⟨#[]⟩))),(.c (.k (.string ⟨#[]⟩))),(.c (.k (.string ⟨#[]⟩))),(.c .z),(.c .z)])
 (.opc (.bin .eql false (.v 2) (.k (.int .i64 12))) <|
 .ite (.v 17)
 (.call 8 [(.ref 0 0),(.v (.one (.k (.int .i64 4))))] [(.all 3)] [none] [2] <|
 .goto 0 [(.c (.v 0)),(.c (.v 18)),(.c (.k (.int .i64 0))),(.l (.all 19)),(.c (.k (.int .i64 0))),(.c (.k (.string ⟨#[]⟩))),(.c (.k (.string ⟨#[]⟩))),(.c (.k (.string ⟨#[]⟩))),(.c (.k (.string ⟨#[]⟩))),(.c (.k (.string ⟨#[]⟩))),(.c .z),(.c .z)])
 (.opc (.bin .sub false (.v 0) (.k (.int .i64 1))) <|
 .call 16 [(.ref 0 0),(.v (.one (.v 18)))] [(.all 3)] [(some 7)] [2] <|
 .opc (.bin .sub false (.v 0) (.k (.int .i64 1))) <|
 .call 16 [(.ref 0 0),(.v (.one (.v 21)))] [(.all 20)] [(some 7)] [2] <|
 .call 45 [(.v (.agg (.all 19))),(.v (.agg (.all 22)))] [] [(some 7)] [] <|
 .ret [(.agg (.all 24))] [(.all 23)])))))))))))))),
 [.opc (.bin .lss false (.v 2) (.v 1)) <|
 .ite (.v 12)
 (.opc (.bin .sub false (.v 0) (.k (.int .i64 1))) <|
 .call 16 [(.ref 0 0),(.v (.one (.v 13)))] [(.all 3)] [(some 7)] [2] <|
 .opc (.lits 7 1 [(.n 14 0),(.n 14 1),(.n 14 2),(.n 14 3),(.n 14 4),(.n 14 5),(.n 14 6)]) <|
 .opc (.app 7 112 (.v 11) (.v 16)) <|
 .opc (.bin .add false (.v 2) (.k (.int .i64 1))) <|
 .goto 0 [(.c (.v 0)),(.c (.v 1)),(.c (.v 18)),(.l (.all 15)),(.c (.v 4)),(.c (.v 5)),(.c (.v 6)),(.c (.v 7)),(.c (.v 8)),(.c (.v 9)),(.c (.v 10)),(.c (.v 17))])
 (.call 14 [(.v (.one (.v 11)))] [] [(some 7)] [] <|
 .ret [(.agg (.all 13))] [(.all 3)])]⟩
theorem tree16:(T nat).G.fn 16=some t16:=by kernel_rfl
def t19:TFun:=⟨[.one],[],
 .ret [(.agg (.lit [(.k (.string ⟨#[117,115,101,114]⟩)),(.v 0)]))] [],
 []⟩
theorem tree19:(T nat).G.fn 19=some t19:=by kernel_rfl
def t26:TFun:=⟨[.one,.one],[],
 .opc (.len false (.v 0)) <|
 .opc (.len false (.v 1)) <|
 .opc (.bin .neq false (.v 2) (.v 3)) <|
 .ite (.v 4)
 (.ret [(.one (.k (.bool false)))] [])
 (.goto 0 [(.c (.v 0)),(.c (.v 1)),(.c (.k (.int .i64 0)))]),
 [.opc (.len false (.v 0)) <|
 .opc (.bin .lss false (.v 2) (.v 3)) <|
 .ite (.v 4)
 (.row 11 (.v 0) (.v 2) <|
 .row 11 (.v 1) (.v 2) <|
 .call 84 [(.v (.agg (.all 5))),(.v (.agg (.all 6)))] [] [none] [] <|
 .opc (.un .not (.v 7)) <|
 .ite (.v 8)
 (.ret [(.one (.k (.bool false)))] [])
 (.opc (.bin .add false (.v 2) (.k (.int .i64 1))) <|
 .goto 0 [(.c (.v 0)),(.c (.v 1)),(.c (.v 9))]))
 (.ret [(.one (.k (.bool true)))] [])]⟩
theorem tree26:(T nat).G.fn 26=some t26:=by kernel_rfl
def t41:TFun:=⟨[.agg 7],[],
 .goto 0 [(.l (.all 0)),(.c .z)],
 [.call 123 [(.v (.agg (.all 0)))] [] [none] [] <|
 .ite (.v 2)
 (.row 7 (.n 0 6) (.k (.int .i64 0)) <|
 .opc (.lits 7 1 [(.n 3 0),(.n 3 1),(.n 3 2),(.n 3 3),(.n 3 4),(.n 3 5),(.n 3 6)]) <|
 .opc (.app 7 112 (.v 1) (.v 4)) <|
 .row 7 (.n 0 6) (.k (.int .i64 1)) <|
 .goto 0 [(.l (.all 6)),(.c (.v 5))])
 (.call 124 [(.v (.agg (.all 0)))] [] [none] [] <|
 .opc (.un .not (.v 3)) <|
 .ite (.v 4)
 (.ret [(.one .z),(.one (.k (.bool false)))] [])
 (.ret [(.one (.v 1)),(.one (.k (.bool true)))] []))]⟩
theorem tree41:(T nat).G.fn 41=some t41:=by kernel_rfl
def t42:TFun:=⟨[.agg 7],[],
 .call 90 [(.v (.agg (.all 0)))] [] [none] [] <|
 .opc (.un .not (.v 1)) <|
 .ite (.v 2)
 (.ret [(.agg (.lit [(.k (.int .i64 0)),(.k (.string ⟨#[]⟩)),(.k (.string ⟨#[]⟩)),(.k (.int .i64 0)),(.k (.string ⟨#[]⟩)),(.k (.string ⟨#[]⟩)),(.k (.string ⟨#[]⟩)),(.k (.string ⟨#[]⟩)),(.k (.string ⟨#[]⟩)),.z,.z])),(.one (.k (.bool false)))] [])
 (.call 125 [(.v (.agg (.all 0)))] [] [(some 11),none] [] <|
 .opc (.un .not (.v 4)) <|
 .ite (.v 5)
 (.ret [(.agg (.lit [(.k (.int .i64 0)),(.k (.string ⟨#[]⟩)),(.k (.string ⟨#[]⟩)),(.k (.int .i64 0)),(.k (.string ⟨#[]⟩)),(.k (.string ⟨#[]⟩)),(.k (.string ⟨#[]⟩)),(.k (.string ⟨#[]⟩)),(.k (.string ⟨#[]⟩)),.z,.z])),(.one (.k (.bool false)))] [])
 (.call 126 [(.v (.agg (.all 3)))] [] [none] [] <|
 .opc (.un .not (.v 6)) <|
 .ite (.v 7)
 (.ret [(.agg (.lit [(.k (.int .i64 0)),(.k (.string ⟨#[]⟩)),(.k (.string ⟨#[]⟩)),(.k (.int .i64 0)),(.k (.string ⟨#[]⟩)),(.k (.string ⟨#[]⟩)),(.k (.string ⟨#[]⟩)),(.k (.string ⟨#[]⟩)),(.k (.string ⟨#[]⟩)),.z,.z])),(.one (.k (.bool false)))] [])
 (.ret [(.agg (.all 3)),(.one (.k (.bool true)))] []))),
 []⟩
theorem tree42:(T nat).G.fn 42=some t42:=by kernel_rfl
def t43:TFun:=⟨[.one],[],
 .opc (.len false (.v 0)) <|
 .opc (.bin .gtr false (.v 1) (.k (.int .i64 60))) <|
 .ite (.v 2)
 (.ret [(.one (.k (.bool false)))] [])
 (.opc (.len false (.v 0)) <|
 .goto 0 [(.c (.v 0)),(.c (.v 0)),(.c (.v 3)),(.c (.k (.int .i64 0)))]),
 [.opc (.bin .lss false (.v 3) (.v 2)) <|
 .ite (.v 4)
 (.row 11 (.v 1) (.v 3) <|
 .call 126 [(.v (.agg (.all 5)))] [] [none] [] <|
 .opc (.un .not (.v 6)) <|
 .ite (.v 7)
 (.ret [(.one (.k (.bool false)))] [])
 (.opc (.sub 11 (.v 0) none (some (.v 3))) <|
 .call 127 [(.v (.one (.v 8))),(.v (.agg (.all 5)))] [] [none] [] <|
 .ite (.v 9)
 (.ret [(.one (.k (.bool false)))] [])
 (.opc (.bin .add false (.v 3) (.k (.int .i64 1))) <|
 .goto 0 [(.c (.v 0)),(.c (.v 1)),(.c (.v 2)),(.c (.v 10))])))
 (.ret [(.one (.k (.bool true)))] [])]⟩
theorem tree43:(T nat).G.fn 43=some t43:=by kernel_rfl
def t44:TFun:=⟨[],[],
 .call 94 [(.v (.one (.k (.string ⟨#[110,105,108]⟩))))] [] [(some 2)] [] <|
 .call 49 [(.v (.agg (.all 0)))] [] [(some 7)] [] <|
 .ret [(.agg (.all 1))] [],
 []⟩
theorem tree44:(T nat).G.fn 44=some t44:=by kernel_rfl
def t45:TFun:=⟨[.agg 7,.agg 7],[],
 .opc (.lits 7 2 [(.n 0 0),(.n 0 1),(.n 0 2),(.n 0 3),(.n 0 4),(.n 0 5),(.n 0 6),(.n 1 0),(.n 1 1),(.n 1 2),(.n 1 3),(.n 1 4),(.n 1 5),(.n 1 6)]) <|
 .ret [(.agg (.lit [(.k (.int .i64 4)),(.k (.string ⟨#[]⟩)),(.k (.string ⟨#[]⟩)),(.k (.string ⟨#[]⟩)),(.k (.string ⟨#[]⟩)),(.k (.string ⟨#[]⟩)),(.v 2)]))] [],
 []⟩
theorem tree45:(T nat).G.fn 45=some t45:=by kernel_rfl
def t46:TFun:=⟨[],[],
 .call 94 [(.v (.one (.k (.string ⟨#[116]⟩))))] [] [(some 2)] [] <|
 .call 49 [(.v (.agg (.all 0)))] [] [(some 7)] [] <|
 .ret [(.agg (.all 1))] [],
 []⟩
theorem tree46:(T nat).G.fn 46=some t46:=by kernel_rfl
def t47:TFun:=⟨[.one],[],
 .call 128 [(.v (.one (.v 0)))] [] [none] [] <|
 .call 48 [(.v (.one (.v 1))),(.v (.one (.k (.string ⟨#[49]⟩))))] [] [(some 7)] [] <|
 .ret [(.agg (.all 2))] [],
 []⟩
theorem tree47:(T nat).G.fn 47=some t47:=by kernel_rfl
def t48:TFun:=⟨[.one,.one],[],
 .call 129 [(.v (.one (.v 0))),(.v (.one (.v 1)))] [] [none,none] [] <|
 .ret [(.agg (.lit [(.k (.int .i64 1)),(.v 2),(.v 3),(.k (.string ⟨#[]⟩)),(.k (.string ⟨#[]⟩)),(.k (.string ⟨#[]⟩)),.z]))] [],
 []⟩
theorem tree48:(T nat).G.fn 48=some t48:=by kernel_rfl
def t49:TFun:=⟨[.agg 2],[],
 .ret [(.agg (.lit [(.k (.int .i64 2)),(.k (.string ⟨#[]⟩)),(.k (.string ⟨#[]⟩)),(.n 0 0),(.n 0 1),(.k (.string ⟨#[]⟩)),.z]))] [],
 []⟩
theorem tree49:(T nat).G.fn 49=some t49:=by kernel_rfl
def t50:TFun:=⟨[.one],[],
 .ret [(.agg (.lit [(.k (.int .i64 3)),(.k (.string ⟨#[]⟩)),(.k (.string ⟨#[]⟩)),(.k (.string ⟨#[]⟩)),(.k (.string ⟨#[]⟩)),(.v 0),.z]))] [],
 []⟩
theorem tree50:(T nat).G.fn 50=some t50:=by kernel_rfl
def t51:TFun:=⟨[.agg 7],[],
 .goto 0 [(.l (.all 0)),(.c .z)],
 [.call 130 [(.v (.agg (.all 0)))] [] [none] [] <|
 .ite (.v 2)
 (.row 7 (.n 0 6) (.k (.int .i64 0)) <|
 .opc (.lits 7 1 [(.n 3 0),(.n 3 1),(.n 3 2),(.n 3 3),(.n 3 4),(.n 3 5),(.n 3 6)]) <|
 .opc (.app 7 112 (.v 1) (.v 4)) <|
 .row 7 (.n 0 6) (.k (.int .i64 1)) <|
 .goto 0 [(.l (.all 6)),(.c (.v 5))])
 (.call 131 [(.v (.agg (.all 0)))] [] [none] [] <|
 .opc (.un .not (.v 3)) <|
 .ite (.v 4)
 (.ret [(.one .z),(.one (.k (.bool false)))] [])
 (.ret [(.one (.v 1)),(.one (.k (.bool true)))] []))]⟩
def t52:TFun:=⟨[.agg 7],[],
 .call 132 [(.v (.agg (.all 0)))] [] [(some 11),none] [] <|
 .opc (.un .not (.v 2)) <|
 .ite (.v 3)
 (.ret [(.agg (.lit [(.k (.int .i64 0)),(.k (.string ⟨#[]⟩)),(.k (.string ⟨#[]⟩)),(.k (.int .i64 0)),(.k (.string ⟨#[]⟩)),(.k (.string ⟨#[]⟩)),(.k (.string ⟨#[]⟩)),(.k (.string ⟨#[]⟩)),(.k (.string ⟨#[]⟩)),.z,.z])),(.one (.k (.bool false)))] [])
 (.call 133 [(.v (.agg (.all 1)))] [] [none] [] <|
 .opc (.un .not (.v 4)) <|
 .ite (.v 5)
 (.ret [(.agg (.lit [(.k (.int .i64 0)),(.k (.string ⟨#[]⟩)),(.k (.string ⟨#[]⟩)),(.k (.int .i64 0)),(.k (.string ⟨#[]⟩)),(.k (.string ⟨#[]⟩)),(.k (.string ⟨#[]⟩)),(.k (.string ⟨#[]⟩)),(.k (.string ⟨#[]⟩)),.z,.z])),(.one (.k (.bool false)))] [])
 (.ret [(.agg (.all 1)),(.one (.k (.bool true)))] [])),
 []⟩
def t53:TFun:=⟨[.one],[],
 .opc (.len false (.v 0)) <|
 .opc (.bin .gtr false (.v 1) (.k (.int .i64 60))) <|
 .ite (.v 2)
 (.ret [(.one (.k (.bool false)))] [])
 (.goto 0 [(.c (.v 0)),(.c (.k (.int .i64 0)))]),
 [.opc (.len false (.v 0)) <|
 .opc (.bin .lss false (.v 1) (.v 2)) <|
 .ite (.v 3)
 (.row 11 (.v 0) (.v 1) <|
 .call 133 [(.v (.agg (.all 4)))] [] [none] [] <|
 .opc (.un .not (.v 5)) <|
 .ite (.v 6)
 (.ret [(.one (.k (.bool false)))] [])
 (.opc (.sub 11 (.v 0) none (some (.v 1))) <|
 .row 11 (.v 0) (.v 1) <|
 .call 116 [(.v (.one (.v 7))),(.v (.agg (.all 8)))] [] [none] [] <|
 .ite (.v 9)
 (.ret [(.one (.k (.bool false)))] [])
 (.opc (.bin .add false (.v 1) (.k (.int .i64 1))) <|
 .goto 0 [(.c (.v 0)),(.c (.v 10))])))
 (.ret [(.one (.k (.bool true)))] [])]⟩
def t72:TFun:=⟨[.agg 2,.one],[],
 .ret [(.agg (.lit [(.k (.int .i64 3)),(.n 0 0),(.n 0 1),(.k (.int .i64 0)),(.k (.string ⟨#[]⟩)),(.k (.string ⟨#[]⟩)),(.k (.string ⟨#[]⟩)),(.k (.string ⟨#[]⟩)),(.k (.string ⟨#[]⟩)),.z,(.v 1)]))] [],
 []⟩
theorem tree72:(T nat).G.fn 72=some t72:=by kernel_rfl
def t83:TFun:=⟨[.agg 7],[],
 .ret [(.agg (.lit [(.k (.int .i64 2)),(.k (.string ⟨#[]⟩)),(.k (.string ⟨#[]⟩)),(.n 0 0),(.n 0 1),(.n 0 2),(.n 0 3),(.n 0 4),(.n 0 5),(.n 0 6),.z]))] [],
 []⟩
theorem tree83:(T nat).G.fn 83=some t83:=by kernel_rfl
def t84:TFun:=⟨[.agg 11,.agg 11],[],
 .opc (.bin .eql false (.n 0 0) (.n 1 0)) <|
 .ite (.v 2)
 (.opc (.eqs [1,1] false (.lit [(.n 0 1),(.n 0 2)]) (.lit [(.n 1 1),(.n 1 2)])) <|
 .ite (.v 3)
 (.call 11 [(.v (.agg (.lit [(.n 0 3),(.n 0 4),(.n 0 5),(.n 0 6),(.n 0 7),(.n 0 8),(.n 0 9)]))),(.v (.agg (.lit [(.n 1 3),(.n 1 4),(.n 1 5),(.n 1 6),(.n 1 7),(.n 1 8),(.n 1 9)])))] [] [none] [] <|
 .ite (.v 4)
 (.call 146 [(.v (.one (.n 0 10))),(.v (.one (.n 1 10)))] [] [none] [] <|
 .ret [(.one (.v 5))] [])
 (.ret [(.one (.k (.bool false)))] []))
 (.ret [(.one (.k (.bool false)))] []))
 (.ret [(.one (.k (.bool false)))] []),
 []⟩
theorem tree84:(T nat).G.fn 84=some t84:=by kernel_rfl
def t87:TFun:=⟨[.agg 2],[],
 .ret [(.agg (.lit [(.k (.int .i64 1)),(.n 0 0),(.n 0 1),(.k (.int .i64 0)),(.k (.string ⟨#[]⟩)),(.k (.string ⟨#[]⟩)),(.k (.string ⟨#[]⟩)),(.k (.string ⟨#[]⟩)),(.k (.string ⟨#[]⟩)),.z,.z]))] [],
 []⟩
theorem tree87:(T nat).G.fn 87=some t87:=by kernel_rfl
def t90:TFun:=⟨[.agg 7],[],
 .call 149 [(.v (.agg (.all 0)))] [] [none] [] <|
 .opc (.bin .leq false (.v 1) (.k (.int .i64 3000))) <|
 .ite (.v 2)
 (.call 150 [(.v (.agg (.all 0)))] [] [none] [] <|
 .ret [(.one (.v 3))] [])
 (.ret [(.one (.k (.bool false)))] []),
 []⟩
theorem tree90:(T nat).G.fn 90=some t90:=by kernel_rfl
def t94:TFun:=⟨[.one],[],
 .ret [(.agg (.lit [(.k (.string ⟨#[108,105,115,112]⟩)),(.v 0)]))] [],
 []⟩
theorem tree94:(T nat).G.fn 94=some t94:=by kernel_rfl
def t116:TFun:=⟨[.one,.agg 11],[],
 .goto 0 [(.c (.v 0)),(.c (.k (.int .i64 0))),(.l (.all 1))],
 [.opc (.len false (.v 0)) <|
 .opc (.bin .lss false (.v 1) (.v 3)) <|
 .ite (.v 4)
 (.row 11 (.v 0) (.v 1) <|
 .call 84 [(.v (.agg (.all 5))),(.v (.agg (.all 2)))] [] [none] [] <|
 .ite (.v 6)
 (.ret [(.one (.k (.bool true)))] [])
 (.opc (.bin .add false (.v 1) (.k (.int .i64 1))) <|
 .goto 0 [(.c (.v 0)),(.c (.v 7)),(.l (.all 2))]))
 (.ret [(.one (.k (.bool false)))] [])]⟩
theorem tree116:(T nat).G.fn 116=some t116:=by kernel_rfl
def t119:TFun:=⟨[.agg 2],[],
 .ret [(.agg (.lit [(.k (.int .i64 2)),(.k (.string ⟨#[]⟩)),(.k (.string ⟨#[]⟩)),(.n 0 0),(.n 0 1),(.k (.string ⟨#[]⟩)),.z]))] [],
 []⟩
theorem tree119:(T nat).G.fn 119=some t119:=by kernel_rfl
def t120:TFun:=⟨[],[],
 .ret [(.agg (.lit [(.k (.string ⟨#[108,105,115,112]⟩)),(.k (.string ⟨#[113,117,111,116,101]⟩))]))] [],
 []⟩
theorem tree120:(T nat).G.fn 120=some t120:=by kernel_rfl
def t121:TFun:=⟨[],[],
 .call 119 [(.v (.agg (.lit [(.k (.string ⟨#[108,105,115,112]⟩)),(.k (.string ⟨#[110,105,108]⟩))])))] [] [(some 7)] [] <|
 .ret [(.agg (.all 0))] [],
 []⟩
theorem tree121:(T nat).G.fn 121=some t121:=by kernel_rfl
def t123:TFun:=⟨[.agg 7],[],
 .opc (.bin .eql false (.n 0 0) (.k (.int .i64 4))) <|
 .ite (.v 1)
 (.opc (.len false (.n 0 6)) <|
 .opc (.bin .eql false (.v 2) (.k (.int .i64 2))) <|
 .ret [(.one (.v 3))] [])
 (.ret [(.one (.k (.bool false)))] []),
 []⟩
theorem tree123:(T nat).G.fn 123=some t123:=by kernel_rfl
def t124:TFun:=⟨[.agg 7],[],
 .opc (.bin .eql false (.n 0 0) (.k (.int .i64 2))) <|
 .ite (.v 1)
 (.opc (.eqs [1,1] false (.lit [(.n 0 3),(.n 0 4)]) (.lit [(.k (.string ⟨#[108,105,115,112]⟩)),(.k (.string ⟨#[110,105,108]⟩))])) <|
 .ret [(.one (.v 2))] [])
 (.ret [(.one (.k (.bool false)))] []),
 []⟩
theorem tree124:(T nat).G.fn 124=some t124:=by kernel_rfl
def t125:TFun:=⟨[.agg 7],[],
 .opc (.bin .eql false (.n 0 0) (.k (.int .i64 2))) <|
 .ite (.v 1)
 (.call 169 [(.v (.agg (.lit [(.n 0 3),(.n 0 4)])))] [] [(some 11)] [] <|
 .ret [(.agg (.all 2)),(.one (.k (.bool true)))] [])
 (.call 41 [(.v (.agg (.all 0)))] [] [none,none] [] <|
 .opc (.un .not (.v 3)) <|
 .ite (.v 4)
 (.ret [(.agg (.lit [(.k (.int .i64 0)),(.k (.string ⟨#[]⟩)),(.k (.string ⟨#[]⟩)),(.k (.int .i64 0)),(.k (.string ⟨#[]⟩)),(.k (.string ⟨#[]⟩)),(.k (.string ⟨#[]⟩)),(.k (.string ⟨#[]⟩)),(.k (.string ⟨#[]⟩)),.z,.z])),(.one (.k (.bool false)))] [])
 (.opc (.len false (.v 2)) <|
 .opc (.bin .eql false (.v 5) (.k (.int .i64 0))) <|
 .ite (.v 6)
 (.ret [(.agg (.lit [(.k (.int .i64 0)),(.k (.string ⟨#[]⟩)),(.k (.string ⟨#[]⟩)),(.k (.int .i64 0)),(.k (.string ⟨#[]⟩)),(.k (.string ⟨#[]⟩)),(.k (.string ⟨#[]⟩)),(.k (.string ⟨#[]⟩)),(.k (.string ⟨#[]⟩)),.z,.z])),(.one (.k (.bool false)))] [])
 (.row 7 (.v 2) (.k (.int .i64 0)) <|
 .opc (.bin .neq false (.n 7 0) (.k (.int .i64 2))) <|
 .ite (.v 8)
 (.ret [(.agg (.lit [(.k (.int .i64 0)),(.k (.string ⟨#[]⟩)),(.k (.string ⟨#[]⟩)),(.k (.int .i64 0)),(.k (.string ⟨#[]⟩)),(.k (.string ⟨#[]⟩)),(.k (.string ⟨#[]⟩)),(.k (.string ⟨#[]⟩)),(.k (.string ⟨#[]⟩)),.z,.z])),(.one (.k (.bool false)))] [])
 (.row 7 (.v 2) (.k (.int .i64 0)) <|
 .call 120 [] [] [(some 2)] [] <|
 .opc (.eqs [1,1] false (.lit [(.n 9 3),(.n 9 4)]) (.all 10)) <|
 .ite (.v 11)
 (.opc (.len false (.v 2)) <|
 .opc (.bin .neq false (.v 12) (.k (.int .i64 2))) <|
 .ite (.v 13)
 (.ret [(.agg (.lit [(.k (.int .i64 0)),(.k (.string ⟨#[]⟩)),(.k (.string ⟨#[]⟩)),(.k (.int .i64 0)),(.k (.string ⟨#[]⟩)),(.k (.string ⟨#[]⟩)),(.k (.string ⟨#[]⟩)),(.k (.string ⟨#[]⟩)),(.k (.string ⟨#[]⟩)),.z,.z])),(.one (.k (.bool false)))] [])
 (.row 7 (.v 2) (.k (.int .i64 1)) <|
 .call 151 [(.v (.agg (.all 14)))] [] [(some 11)] [] <|
 .ret [(.agg (.all 15)),(.one (.k (.bool true)))] []))
 (.opc (.sub 7 (.v 2) (some (.k (.int .i64 1))) none) <|
 .opc (.len false (.v 12)) <|
 .goto 0 [(.c (.v 2)),(.c (.v 12)),(.c (.v 13)),(.c (.k (.int .i64 0))),(.c (.k (.int .i64 0))),(.c (.k (.string ⟨#[]⟩))),(.c (.k (.string ⟨#[]⟩))),(.c (.k (.int .i64 0))),(.c (.k (.string ⟨#[]⟩))),(.c (.k (.string ⟨#[]⟩))),(.c (.k (.string ⟨#[]⟩))),(.c (.k (.string ⟨#[]⟩))),(.c (.k (.string ⟨#[]⟩))),(.c .z),(.c .z),(.c .z)]))))),
 [.opc (.bin .lss false (.v 3) (.v 2)) <|
 .ite (.v 16)
 (.row 7 (.v 1) (.v 3) <|
 .call 125 [(.v (.agg (.all 17)))] [] [(some 11),none] [] <|
 .opc (.un .not (.v 19)) <|
 .ite (.v 20)
 (.ret [(.agg (.lit [(.k (.int .i64 0)),(.k (.string ⟨#[]⟩)),(.k (.string ⟨#[]⟩)),(.k (.int .i64 0)),(.k (.string ⟨#[]⟩)),(.k (.string ⟨#[]⟩)),(.k (.string ⟨#[]⟩)),(.k (.string ⟨#[]⟩)),(.k (.string ⟨#[]⟩)),.z,.z])),(.one (.k (.bool false)))] [])
 (.opc (.lits 11 1 [(.n 18 0),(.n 18 1),(.n 18 2),(.n 18 3),(.n 18 4),(.n 18 5),(.n 18 6),(.n 18 7),(.n 18 8),(.n 18 9),(.n 18 10)]) <|
 .opc (.app 11 176 (.v 15) (.v 21)) <|
 .opc (.bin .add false (.v 3) (.k (.int .i64 1))) <|
 .goto 0 [(.c (.v 0)),(.c (.v 1)),(.c (.v 2)),(.c (.v 23)),(.c (.v 4)),(.c (.v 5)),(.c (.v 6)),(.c (.v 7)),(.c (.v 8)),(.c (.v 9)),(.c (.v 10)),(.c (.v 11)),(.c (.v 12)),(.c (.v 13)),(.c (.v 14)),(.c (.v 22))]))
 (.row 7 (.v 0) (.k (.int .i64 0)) <|
 .call 136 [(.v (.agg (.lit [(.n 17 3),(.n 17 4)]))),(.v (.one (.v 15)))] [] [(some 11)] [] <|
 .ret [(.agg (.all 18)),(.one (.k (.bool true)))] [])]⟩
theorem tree125:(T nat).G.fn 125=some t125:=by kernel_rfl
def t126:TFun:=⟨[.agg 11],[],
 .call 170 [(.v (.agg (.all 0)))] [] [none] [] <|
 .opc (.bin .leq false (.v 1) (.k (.int .i64 3000))) <|
 .ite (.v 2)
 (.call 171 [(.v (.agg (.all 0)))] [] [none] [] <|
 .opc (.bin .leq false (.v 3) (.k (.int .i64 200))) <|
 .ite (.v 4)
 (.call 172 [(.v (.agg (.all 0)))] [] [none] [] <|
 .ret [(.one (.v 5))] [])
 (.ret [(.one (.k (.bool false)))] []))
 (.ret [(.one (.k (.bool false)))] []),
 []⟩
theorem tree126:(T nat).G.fn 126=some t126:=by kernel_rfl
def t127:TFun:=⟨[.one,.agg 11],[],
 .call 396 [(.v (.one (.v 0))),(.ref 0 0)] [(.all 1)] [none] [11] <|
 .ret [(.one (.v 2))] [],
 []⟩
theorem tree127:(T nat).G.fn 127=some t127:=by kernel_rfl
def t136:TFun:=⟨[.agg 2,.one],[],
 .ret [(.agg (.lit [(.k (.int .i64 3)),(.n 0 0),(.n 0 1),(.k (.int .i64 0)),(.k (.string ⟨#[]⟩)),(.k (.string ⟨#[]⟩)),(.k (.string ⟨#[]⟩)),(.k (.string ⟨#[]⟩)),(.k (.string ⟨#[]⟩)),.z,(.v 1)]))] [],
 []⟩
theorem tree136:(T nat).G.fn 136=some t136:=by kernel_rfl
def t145:TFun:=⟨[],[],
 .call 119 [(.v (.agg (.lit [(.k (.string ⟨#[108,105,115,112]⟩)),(.k (.string ⟨#[116]⟩))])))] [] [(some 7)] [] <|
 .ret [(.agg (.all 0))] [],
 []⟩
theorem tree145:(T nat).G.fn 145=some t145:=by kernel_rfl
def t146:TFun:=⟨[.one,.one],[],
 .opc (.len false (.v 0)) <|
 .opc (.len false (.v 1)) <|
 .opc (.bin .neq false (.v 2) (.v 3)) <|
 .ite (.v 4)
 (.ret [(.one (.k (.bool false)))] [])
 (.goto 0 [(.c (.v 0)),(.c (.v 1)),(.c (.k (.int .i64 0)))]),
 [.opc (.len false (.v 0)) <|
 .opc (.bin .lss false (.v 2) (.v 3)) <|
 .ite (.v 4)
 (.row 11 (.v 0) (.v 2) <|
 .row 11 (.v 1) (.v 2) <|
 .call 84 [(.v (.agg (.all 5))),(.v (.agg (.all 6)))] [] [none] [] <|
 .opc (.un .not (.v 7)) <|
 .ite (.v 8)
 (.ret [(.one (.k (.bool false)))] [])
 (.opc (.bin .add false (.v 2) (.k (.int .i64 1))) <|
 .goto 0 [(.c (.v 0)),(.c (.v 1)),(.c (.v 9))]))
 (.ret [(.one (.k (.bool true)))] [])]⟩
theorem tree146:(T nat).G.fn 146=some t146:=by kernel_rfl
def t149:TFun:=⟨[.agg 7],[],
 .call 187 [(.v (.agg (.all 0))),(.v (.one (.k (.int .i64 3001))))] [] [none] [] <|
 .opc (.mm true (.k (.int .i64 0)) (.v 1)) <|
 .opc (.bin .sub false (.k (.int .i64 3001)) (.v 2)) <|
 .ret [(.one (.v 3))] [],
 []⟩
theorem tree149:(T nat).G.fn 149=some t149:=by kernel_rfl
def t150:TFun:=⟨[.agg 7],[],
 .goto 0 [(.l (.all 0))],
 [.opc (.bin .eql false (.n 0 0) (.k (.int .i64 4))) <|
 .ite (.v 1)
 (.opc (.len false (.n 0 6)) <|
 .opc (.bin .neq false (.v 2) (.k (.int .i64 2))) <|
 .ite (.v 3)
 (.ret [(.one (.k (.bool false)))] [])
 (.call 188 [(.v (.agg (.all 0))),(.v (.one (.k (.bool false)))),(.v (.one (.k (.bool false)))),(.v (.one (.k (.bool false))))] [] [none] [] <|
 .opc (.un .not (.v 4)) <|
 .ite (.v 5)
 (.ret [(.one (.k (.bool false)))] [])
 (.row 7 (.n 0 6) (.k (.int .i64 0)) <|
 .call 150 [(.v (.agg (.all 6)))] [] [none] [] <|
 .opc (.un .not (.v 7)) <|
 .ite (.v 8)
 (.ret [(.one (.k (.bool false)))] [])
 (.row 7 (.n 0 6) (.k (.int .i64 1)) <|
 .goto 0 [(.l (.all 9))]))))
 (.opc (.bin .eql false (.n 0 0) (.k (.int .i64 1))) <|
 .ite (.v 2)
 (.call 188 [(.v (.agg (.all 0))),(.v (.one (.k (.bool true)))),(.v (.one (.k (.bool false)))),(.v (.one (.k (.bool false))))] [] [none] [] <|
 .ite (.v 3)
 (.opc (.len false (.n 0 6)) <|
 .opc (.bin .eql false (.v 4) (.k (.int .i64 0))) <|
 .ite (.v 5)
 (.call 189 [(.v (.one (.n 0 1))),(.v (.one (.n 0 2)))] [] [none] [] <|
 .ret [(.one (.v 6))] [])
 (.ret [(.one (.k (.bool false)))] []))
 (.ret [(.one (.k (.bool false)))] []))
 (.opc (.bin .eql false (.n 0 0) (.k (.int .i64 2))) <|
 .ite (.v 3)
 (.call 188 [(.v (.agg (.all 0))),(.v (.one (.k (.bool false)))),(.v (.one (.k (.bool true)))),(.v (.one (.k (.bool false))))] [] [none] [] <|
 .ite (.v 4)
 (.opc (.len false (.n 0 6)) <|
 .opc (.bin .eql false (.v 5) (.k (.int .i64 0))) <|
 .ite (.v 6)
 (.call 190 [(.v (.agg (.lit [(.n 0 3),(.n 0 4)])))] [] [none] [] <|
 .ret [(.one (.v 7))] [])
 (.ret [(.one (.k (.bool false)))] []))
 (.ret [(.one (.k (.bool false)))] []))
 (.opc (.bin .eql false (.n 0 0) (.k (.int .i64 3))) <|
 .ite (.v 4)
 (.call 188 [(.v (.agg (.all 0))),(.v (.one (.k (.bool false)))),(.v (.one (.k (.bool false)))),(.v (.one (.k (.bool true))))] [] [none] [] <|
 .ite (.v 5)
 (.opc (.len false (.n 0 6)) <|
 .opc (.bin .eql false (.v 6) (.k (.int .i64 0))) <|
 .ite (.v 7)
 (.opc (.len true (.n 0 5)) <|
 .opc (.bin .leq false (.v 8) (.k (.int .i64 200))) <|
 .ret [(.one (.v 9))] [])
 (.ret [(.one (.k (.bool false)))] []))
 (.ret [(.one (.k (.bool false)))] []))
 (.ret [(.one (.k (.bool false)))] []))))]⟩
theorem tree150:(T nat).G.fn 150=some t150:=by kernel_rfl
def t151:TFun:=⟨[.agg 7],[],
 .ret [(.agg (.lit [(.k (.int .i64 2)),(.k (.string ⟨#[]⟩)),(.k (.string ⟨#[]⟩)),(.n 0 0),(.n 0 1),(.n 0 2),(.n 0 3),(.n 0 4),(.n 0 5),(.n 0 6),.z]))] [],
 []⟩
theorem tree151:(T nat).G.fn 151=some t151:=by kernel_rfl
def t169:TFun:=⟨[.agg 2],[],
 .ret [(.agg (.lit [(.k (.int .i64 1)),(.n 0 0),(.n 0 1),(.k (.int .i64 0)),(.k (.string ⟨#[]⟩)),(.k (.string ⟨#[]⟩)),(.k (.string ⟨#[]⟩)),(.k (.string ⟨#[]⟩)),(.k (.string ⟨#[]⟩)),.z,.z]))] [],
 []⟩
theorem tree169:(T nat).G.fn 169=some t169:=by kernel_rfl
def t170:TFun:=⟨[.agg 11],[],
 .call 200 [(.v (.agg (.all 0))),(.v (.one (.k (.int .i64 3001))))] [] [none] [] <|
 .opc (.mm true (.k (.int .i64 0)) (.v 1)) <|
 .opc (.bin .sub false (.k (.int .i64 3001)) (.v 2)) <|
 .ret [(.one (.v 3))] [],
 []⟩
theorem tree170:(T nat).G.fn 170=some t170:=by kernel_rfl
def t171:TFun:=⟨[.agg 11],[],
 .call 201 [(.v (.agg (.all 0))),(.v (.one (.k (.int .i64 201))))] [] [none] [] <|
 .ret [(.one (.v 1))] [],
 []⟩
theorem tree171:(T nat).G.fn 171=some t171:=by kernel_rfl
def t172:TFun:=⟨[.agg 11],[],
 .opc (.bin .eql false (.n 0 0) (.k (.int .i64 1))) <|
 .ite (.v 1)
 (.call 202 [(.v (.agg (.lit [(.n 0 1),(.n 0 2)])))] [] [none] [] <|
 .ite (.v 2)
 (.call 203 [(.v (.agg (.lit [(.n 0 3),(.n 0 4),(.n 0 5),(.n 0 6),(.n 0 7),(.n 0 8),(.n 0 9)]))),(.v (.agg (.lit [(.k (.int .i64 0)),(.k (.string ⟨#[]⟩)),(.k (.string ⟨#[]⟩)),(.k (.string ⟨#[]⟩)),(.k (.string ⟨#[]⟩)),(.k (.string ⟨#[]⟩)),.z])))] [] [none] [] <|
 .ite (.v 3)
 (.opc (.len false (.n 0 10)) <|
 .opc (.bin .eql false (.v 4) (.k (.int .i64 0))) <|
 .ret [(.one (.v 5))] [])
 (.ret [(.one (.k (.bool false)))] []))
 (.ret [(.one (.k (.bool false)))] []))
 (.opc (.bin .eql false (.n 0 0) (.k (.int .i64 2))) <|
 .ite (.v 2)
 (.opc (.eqs [1,1] false (.lit [(.n 0 1),(.n 0 2)]) (.lit [(.k (.string ⟨#[]⟩)),(.k (.string ⟨#[]⟩))])) <|
 .ite (.v 3)
 (.call 90 [(.v (.agg (.lit [(.n 0 3),(.n 0 4),(.n 0 5),(.n 0 6),(.n 0 7),(.n 0 8),(.n 0 9)])))] [] [none] [] <|
 .ite (.v 4)
 (.opc (.len false (.n 0 10)) <|
 .opc (.bin .eql false (.v 5) (.k (.int .i64 0))) <|
 .ret [(.one (.v 6))] [])
 (.ret [(.one (.k (.bool false)))] []))
 (.ret [(.one (.k (.bool false)))] []))
 (.opc (.bin .eql false (.n 0 0) (.k (.int .i64 3))) <|
 .ite (.v 3)
 (.call 204 [(.v (.agg (.lit [(.n 0 1),(.n 0 2)])))] [] [none] [] <|
 .opc (.un .not (.v 4)) <|
 .ite (.v 5)
 (.ret [(.one (.k (.bool false)))] [])
 (.call 203 [(.v (.agg (.lit [(.n 0 3),(.n 0 4),(.n 0 5),(.n 0 6),(.n 0 7),(.n 0 8),(.n 0 9)]))),(.v (.agg (.lit [(.k (.int .i64 0)),(.k (.string ⟨#[]⟩)),(.k (.string ⟨#[]⟩)),(.k (.string ⟨#[]⟩)),(.k (.string ⟨#[]⟩)),(.k (.string ⟨#[]⟩)),.z])))] [] [none] [] <|
 .opc (.un .not (.v 6)) <|
 .ite (.v 7)
 (.ret [(.one (.k (.bool false)))] [])
 (.opc (.len false (.n 0 10)) <|
 .opc (.bin .gtr false (.v 8) (.k (.int .i64 8))) <|
 .ite (.v 9)
 (.ret [(.one (.k (.bool false)))] [])
 (.call 397 [(.v (.one (.n 0 10))),(.ref 0 0)] [] [none] [] <|
 .opc (.un .not (.v 10)) <|
 .ret [(.one (.v 11))] []))))
 (.ret [(.one (.k (.bool false)))] []))),
 []⟩
theorem tree172:(T nat).G.fn 172=some t172:=by kernel_rfl
def t174:TFun:=⟨[.agg 11,.ref 0 0],[11],
 .call 175 [(.v (.agg (.all 0))),(.v (.agg (.all 1)))] [] [none] [] <|
 .ret [(.one (.v 2))] [(.all 1)],
 []⟩
theorem tree174:(T nat).G.fn 174=some t174:=by kernel_rfl
def t175:TFun:=⟨[.agg 11,.agg 11],[],
 .opc (.bin .eql false (.n 0 0) (.n 1 0)) <|
 .ite (.v 2)
 (.opc (.eqs [1,1] false (.lit [(.n 0 1),(.n 0 2)]) (.lit [(.n 1 1),(.n 1 2)])) <|
 .ite (.v 3)
 (.call 203 [(.v (.agg (.lit [(.n 0 3),(.n 0 4),(.n 0 5),(.n 0 6),(.n 0 7),(.n 0 8),(.n 0 9)]))),(.v (.agg (.lit [(.n 1 3),(.n 1 4),(.n 1 5),(.n 1 6),(.n 1 7),(.n 1 8),(.n 1 9)])))] [] [none] [] <|
 .ite (.v 4)
 (.call 398 [(.v (.one (.n 0 10))),(.v (.one (.n 1 10))),(.ref 0 0)] [] [none] [] <|
 .ret [(.one (.v 5))] [])
 (.ret [(.one (.k (.bool false)))] []))
 (.ret [(.one (.k (.bool false)))] []))
 (.ret [(.one (.k (.bool false)))] []),
 []⟩
theorem tree175:(T nat).G.fn 175=some t175:=by kernel_rfl
def t187:TFun:=⟨[.agg 7,.one],[],
 .goto 0 [(.c (.v 1)),(.l (.all 0))],
 [.opc (.bin .gtr false (.v 0) (.k (.int .i64 0))) <|
 .ite (.v 2)
 (.opc (.len false (.n 1 6)) <|
 .opc (.bin .eql false (.v 3) (.k (.int .i64 2))) <|
 .ite (.v 4)
 (.row 7 (.n 1 6) (.k (.int .i64 0)) <|
 .opc (.bin .sub false (.v 0) (.k (.int .i64 1))) <|
 .call 187 [(.v (.agg (.all 5))),(.v (.one (.v 6)))] [] [none] [] <|
 .row 7 (.n 1 6) (.k (.int .i64 1)) <|
 .goto 0 [(.c (.v 7)),(.l (.all 8))])
 (.opc (.bin .sub false (.v 0) (.k (.int .i64 1))) <|
 .ret [(.one (.v 5))] []))
 (.opc (.bin .sub false (.v 0) (.k (.int .i64 1))) <|
 .ret [(.one (.v 3))] [])]⟩
theorem tree187:(T nat).G.fn 187=some t187:=by kernel_rfl
def t188:TFun:=⟨[.agg 7,.one,.one,.one],[],
 .ite (.v 1)
 (.ite (.v 2)
 (.ite (.v 3)
 (.ret [(.one (.k (.bool true)))] [])
 (.opc (.bin .eql false (.n 0 5) (.k (.string ⟨#[]⟩))) <|
 .ret [(.one (.v 4))] []))
 (.opc (.eqs [1,1] false (.lit [(.n 0 3),(.n 0 4)]) (.lit [(.k (.string ⟨#[]⟩)),(.k (.string ⟨#[]⟩))])) <|
 .ite (.v 4)
 (.ite (.v 3)
 (.ret [(.one (.k (.bool true)))] [])
 (.opc (.bin .eql false (.n 0 5) (.k (.string ⟨#[]⟩))) <|
 .ret [(.one (.v 5))] []))
 (.ret [(.one (.k (.bool false)))] [])))
 (.opc (.bin .eql false (.n 0 1) (.k (.string ⟨#[]⟩))) <|
 .ite (.v 4)
 (.opc (.bin .eql false (.n 0 2) (.k (.string ⟨#[]⟩))) <|
 .ite (.v 5)
 (.ite (.v 2)
 (.ite (.v 3)
 (.ret [(.one (.k (.bool true)))] [])
 (.opc (.bin .eql false (.n 0 5) (.k (.string ⟨#[]⟩))) <|
 .ret [(.one (.v 6))] []))
 (.opc (.eqs [1,1] false (.lit [(.n 0 3),(.n 0 4)]) (.lit [(.k (.string ⟨#[]⟩)),(.k (.string ⟨#[]⟩))])) <|
 .ite (.v 6)
 (.ite (.v 3)
 (.ret [(.one (.k (.bool true)))] [])
 (.opc (.bin .eql false (.n 0 5) (.k (.string ⟨#[]⟩))) <|
 .ret [(.one (.v 7))] []))
 (.ret [(.one (.k (.bool false)))] [])))
 (.ret [(.one (.k (.bool false)))] []))
 (.ret [(.one (.k (.bool false)))] [])),
 []⟩
theorem tree188:(T nat).G.fn 188=some t188:=by kernel_rfl
def t200:TFun:=⟨[.agg 11,.one],[],
 .opc (.bin .eql false (.n 0 0) (.k (.int .i64 2))) <|
 .ite (.v 2)
 (.call 149 [(.v (.agg (.lit [(.n 0 3),(.n 0 4),(.n 0 5),(.n 0 6),(.n 0 7),(.n 0 8),(.n 0 9)])))] [] [none] [] <|
 .opc (.bin .sub false (.v 1) (.v 3)) <|
 .ret [(.one (.v 4))] [])
 (.opc (.bin .eql false (.n 0 0) (.k (.int .i64 3))) <|
 .ite (.v 3)
 (.opc (.bin .sub false (.v 1) (.k (.int .i64 1))) <|
 .opc (.len false (.n 0 10)) <|
 .goto 0 [(.c (.v 4)),(.c (.n 0 10)),(.c (.v 5)),(.c (.k (.int .i64 0)))])
 (.opc (.bin .sub false (.v 1) (.k (.int .i64 1))) <|
 .ret [(.one (.v 4))] [])),
 [.opc (.bin .lss false (.v 3) (.v 2)) <|
 .ite (.v 4)
 (.row 11 (.v 1) (.v 3) <|
 .opc (.bin .leq false (.v 0) (.k (.int .i64 0))) <|
 .ite (.v 6)
 (.opc (.mm false (.v 0) (.k (.int .i64 0))) <|
 .ret [(.one (.v 7))] [])
 (.call 200 [(.v (.agg (.all 5))),(.v (.one (.v 0)))] [] [none] [] <|
 .opc (.bin .add false (.v 3) (.k (.int .i64 1))) <|
 .goto 0 [(.c (.v 7)),(.c (.v 1)),(.c (.v 2)),(.c (.v 8))]))
 (.ret [(.one (.v 0))] [])]⟩
theorem tree200:(T nat).G.fn 200=some t200:=by kernel_rfl
def t201:TFun:=⟨[.agg 11,.one],[],
 .opc (.bin .neq false (.n 0 0) (.k (.int .i64 3))) <|
 .ite (.v 2)
 (.ret [(.one (.k (.int .i64 1)))] [])
 (.opc (.bin .leq false (.v 1) (.k (.int .i64 1))) <|
 .ite (.v 3)
 (.ret [(.one (.k (.int .i64 1)))] [])
 (.opc (.len false (.n 0 10)) <|
 .goto 0 [(.c (.v 1)),(.c (.k (.int .i64 1))),(.c (.n 0 10)),(.c (.v 4)),(.c (.k (.int .i64 0)))])),
 [.opc (.bin .lss false (.v 4) (.v 3)) <|
 .ite (.v 5)
 (.row 11 (.v 2) (.v 4) <|
 .opc (.bin .sub false (.v 0) (.k (.int .i64 1))) <|
 .call 201 [(.v (.agg (.all 6))),(.v (.one (.v 7)))] [] [none] [] <|
 .opc (.bin .add false (.k (.int .i64 1)) (.v 8)) <|
 .opc (.mm true (.v 1) (.v 9)) <|
 .opc (.bin .geq false (.v 10) (.v 0)) <|
 .ite (.v 11)
 (.ret [(.one (.v 0))] [])
 (.opc (.bin .add false (.v 4) (.k (.int .i64 1))) <|
 .goto 0 [(.c (.v 0)),(.c (.v 10)),(.c (.v 2)),(.c (.v 3)),(.c (.v 12))]))
 (.ret [(.one (.v 1))] [])]⟩
theorem tree201:(T nat).G.fn 201=some t201:=by kernel_rfl
def t202:TFun:=⟨[.agg 2],[],
 .call 204 [(.v (.agg (.all 0)))] [] [none] [] <|
 .ite (.v 1)
 (.call 121 [] [] [(some 7)] [] <|
 .opc (.eqs [1,1] true (.all 0) (.lit [(.n 2 3),(.n 2 4)])) <|
 .ite (.v 3)
 (.call 145 [] [] [(some 7)] [] <|
 .opc (.eqs [1,1] true (.all 0) (.lit [(.n 4 3),(.n 4 4)])) <|
 .ret [(.one (.v 5))] [])
 (.ret [(.one (.k (.bool false)))] []))
 (.ret [(.one (.k (.bool false)))] []),
 []⟩
theorem tree202:(T nat).G.fn 202=some t202:=by kernel_rfl
def t203:TFun:=⟨[.agg 7,.agg 7],[],
 .goto 0 [(.l (.all 0)),(.l (.all 1))],
 [.opc (.bin .neq false (.n 0 0) (.n 1 0)) <|
 .ite (.v 2)
 (.ret [(.one (.k (.bool false)))] [])
 (.opc (.bin .neq false (.n 0 1) (.n 1 1)) <|
 .ite (.v 3)
 (.ret [(.one (.k (.bool false)))] [])
 (.opc (.bin .neq false (.n 0 2) (.n 1 2)) <|
 .ite (.v 4)
 (.ret [(.one (.k (.bool false)))] [])
 (.opc (.eqs [1,1] true (.lit [(.n 0 3),(.n 0 4)]) (.lit [(.n 1 3),(.n 1 4)])) <|
 .ite (.v 5)
 (.ret [(.one (.k (.bool false)))] [])
 (.opc (.bin .neq false (.n 0 5) (.n 1 5)) <|
 .ite (.v 6)
 (.ret [(.one (.k (.bool false)))] [])
 (.opc (.len false (.n 0 6)) <|
 .opc (.len false (.n 1 6)) <|
 .opc (.bin .neq false (.v 7) (.v 8)) <|
 .ite (.v 9)
 (.ret [(.one (.k (.bool false)))] [])
 (.opc (.len false (.n 0 6)) <|
 .opc (.bin .eql false (.v 10) (.k (.int .i64 0))) <|
 .ite (.v 11)
 (.ret [(.one (.k (.bool true)))] [])
 (.opc (.bin .sub false (.v 10) (.k (.int .i64 1))) <|
 .goto 1 [(.c (.v 10)),(.c (.v 12)),(.c (.k (.int .i64 0))),(.l (.all 0)),(.l (.all 1))]))))))),
 .opc (.bin .lss false (.v 2) (.v 1)) <|
 .ite (.v 5)
 (.row 7 (.n 3 6) (.v 2) <|
 .row 7 (.n 4 6) (.v 2) <|
 .call 203 [(.v (.agg (.all 6))),(.v (.agg (.all 7)))] [] [none] [] <|
 .opc (.un .not (.v 8)) <|
 .ite (.v 9)
 (.ret [(.one (.k (.bool false)))] [])
 (.opc (.bin .add false (.v 2) (.k (.int .i64 1))) <|
 .goto 1 [(.c (.v 0)),(.c (.v 1)),(.c (.v 10)),(.l (.all 3)),(.l (.all 4))]))
 (.opc (.bin .sub false (.v 0) (.k (.int .i64 1))) <|
 .row 7 (.n 3 6) (.v 6) <|
 .opc (.bin .sub false (.v 0) (.k (.int .i64 1))) <|
 .row 7 (.n 4 6) (.v 8) <|
 .goto 0 [(.l (.all 7)),(.l (.all 9))])]⟩
theorem tree203:(T nat).G.fn 203=some t203:=by kernel_rfl
def t204:TFun:=⟨[.agg 2],[],
 .call 119 [(.v (.agg (.all 0)))] [] [(some 7)] [] <|
 .call 90 [(.v (.agg (.all 1)))] [] [none] [] <|
 .ret [(.one (.v 2))] [],
 []⟩
theorem tree204:(T nat).G.fn 204=some t204:=by kernel_rfl
def t206:TFun:=⟨[.agg 11],[],
 .call 172 [(.v (.agg (.all 0)))] [] [none] [] <|
 .opc (.un .not (.v 1)) <|
 .ret [(.one (.v 2))] [],
 []⟩
theorem tree206:(T nat).G.fn 206=some t206:=by kernel_rfl
def t396:TFun:=⟨[.one,.clo 174 [(0,0)]],[11],
 .call 401 [(.v (.one (.v 0))),(.ref 0 0)] [(.all 1)] [none] [11] <|
 .opc (.bin .geq false (.v 2) (.k (.int .i64 0))) <|
 .ret [(.one (.v 4))] [(.all 3)],
 []⟩
theorem tree396:(T nat).G.fn 396=some t396:=by kernel_rfl
def t397:TFun:=⟨[.one,.clo 206 []],[],
 .call 402 [(.v (.one (.v 0))),(.ref 0 0)] [] [none] [] <|
 .opc (.bin .geq false (.v 1) (.k (.int .i64 0))) <|
 .ret [(.one (.v 2))] [],
 []⟩
theorem tree397:(T nat).G.fn 397=some t397:=by kernel_rfl
def t398:TFun:=⟨[.one,.one,.clo 175 []],[],
 .opc (.len false (.v 0)) <|
 .opc (.len false (.v 1)) <|
 .opc (.bin .neq false (.v 2) (.v 3)) <|
 .ite (.v 4)
 (.ret [(.one (.k (.bool false)))] [])
 (.opc (.len false (.v 0)) <|
 .goto 0 [(.c (.v 1)),(.c (.v 0)),(.c (.v 5)),(.c (.k (.int .i64 0)))]),
 [.opc (.bin .lss false (.v 3) (.v 2)) <|
 .ite (.v 4)
 (.row 11 (.v 1) (.v 3) <|
 .row 11 (.v 0) (.v 3) <|
 .call 175 [(.v (.agg (.all 5))),(.v (.agg (.all 6)))] [] [none] [] <|
 .opc (.un .not (.v 7)) <|
 .ite (.v 8)
 (.ret [(.one (.k (.bool false)))] [])
 (.opc (.bin .add false (.v 3) (.k (.int .i64 1))) <|
 .goto 0 [(.c (.v 0)),(.c (.v 1)),(.c (.v 2)),(.c (.v 9))]))
 (.ret [(.one (.k (.bool true)))] [])]⟩
theorem tree398:(T nat).G.fn 398=some t398:=by kernel_rfl
def t401:TFun:=⟨[.one,.clo 174 [(0,0)]],[11],
 .opc (.len false (.v 0)) <|
 .goto 0 [(.c (.v 0)),(.c (.v 2)),(.c (.k (.int .i64 0))),(.l (.all 1))],
 [.opc (.bin .lss false (.v 2) (.v 1)) <|
 .ite (.v 4)
 (.row 11 (.v 0) (.v 2) <|
 .call 174 [(.v (.agg (.all 5))),(.ref 0 0)] [(.all 3)] [none] [11] <|
 .ite (.v 6)
 (.ret [(.one (.v 2))] [(.all 7)])
 (.opc (.bin .add false (.v 2) (.k (.int .i64 1))) <|
 .goto 0 [(.c (.v 0)),(.c (.v 1)),(.c (.v 8)),(.l (.all 7))]))
 (.ret [(.one (.k (.int .i64 (-1))))] [(.all 3)])]⟩
theorem tree401:(T nat).G.fn 401=some t401:=by kernel_rfl
def t402:TFun:=⟨[.one,.clo 206 []],[],
 .opc (.len false (.v 0)) <|
 .goto 0 [(.c (.v 0)),(.c (.v 1)),(.c (.k (.int .i64 0)))],
 [.opc (.bin .lss false (.v 2) (.v 1)) <|
 .ite (.v 3)
 (.row 11 (.v 0) (.v 2) <|
 .call 206 [(.v (.agg (.all 4)))] [] [none] [] <|
 .ite (.v 5)
 (.ret [(.one (.v 2))] [])
 (.opc (.bin .add false (.v 2) (.k (.int .i64 1))) <|
 .goto 0 [(.c (.v 0)),(.c (.v 1)),(.c (.v 6))]))
 (.ret [(.one (.k (.int .i64 (-1))))] [])]⟩
theorem tree402:(T nat).G.fn 402=some t402:=by kernel_rfl
end
end Go.Ey.Pr
