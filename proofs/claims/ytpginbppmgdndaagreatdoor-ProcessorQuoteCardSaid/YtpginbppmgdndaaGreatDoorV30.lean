/- A part of the proof. -/
import Derived.Test.YtpginbppmgdndaaGreatDoorV29
set_option linter.all false
set_option maxHeartbeats 4000000
namespace Go.Ey.Pr
open Go.Ey Go.Ey.Seat
def numO (n:Int):Ob:=
 if n=0 then .num ⟨#[48]⟩ ⟨#[49]⟩ else if n=1 then .num ⟨#[49]⟩ ⟨#[49]⟩ else if n=2 then .num ⟨#[50]⟩ ⟨#[49]⟩ else if n=3 then .num ⟨#[51]⟩ ⟨#[49]⟩
 else if n=-1 then .num ⟨#[45,49]⟩ ⟨#[49]⟩ else if n=-2 then .num ⟨#[45,50]⟩ ⟨#[49]⟩ else .num ⟨#[45,51]⟩ ⟨#[49]⟩
def half:Ob:=.num ⟨#[49]⟩ ⟨#[50]⟩
def less:Ob:=.num ⟨#[45,53]⟩ ⟨#[51]⟩
structure NumsOK (nat:Nat→List V→Option (List V)):Prop where
 v47:∀n:Int,-3≤n→n≤3→fnT (T nat).G 47 [.v (.one (ci n))] []=some ([.agg (enc (numO n))],[])
 v48a:fnT (T nat).G 48 [.v (.one (cs ⟨#[49]⟩)),.v (.one (cs ⟨#[50]⟩))] []=some ([.agg (enc half)],[])
 v48b:fnT (T nat).G 48 [.v (.one (cs ⟨#[45,53]⟩)),.v (.one (cs ⟨#[51]⟩))] []=some ([.agg (enc less)],[])
def user:ByteArray:=⟨#[117,115,101,114]⟩
theorem userK:(⟨#[117,115,101,114]⟩:ByteArray)=user:=rfl
def letter (r:Int):ByteArray:=if r=0 then ⟨#[97]⟩ else if r=1 then ⟨#[98]⟩ else ⟨#[99]⟩
def word (r:Int):ByteArray:=if r=0 then ⟨#[]⟩ else if r=1 then ⟨#[112]⟩ else ⟨#[112,113]⟩
theorem letter_ok {r:Int} (h1:0≤r) (h2:r < 3):((sstrC (some (ci r)) none (cs ⟨#[97,98,99]⟩)).bind fun c=>sstrC none (some (ci 1)) c)=some (cs (letter r)):=by
 have h:r=0∨r=1∨r=2:=by omega
 rcases h with rfl|rfl|rfl<;>rfl
theorem word_ok {r:Int} (h1:0≤r) (h2:r < 3):sstrC none (some (ci r)) (cs ⟨#[112,113]⟩)=some (cs (word r)):=by
 have h:r=0∨r=1∨r=2:=by omega
 rcases h with rfl|rfl|rfl<;>rfl
section
variable {nat:Nat→List V→Option (List V)} {B B' B2:List C} {d:Int}
def pp16:Tree:=.opc (.bin .gtr false (.v 2) (.k (.int .i64 9))) <|
 .ite (.v 5)
 (.opc (.bin .sub false (.v 2) (.k (.int .i64 8))) <|
 .opc (.bin .eql false (.v 6) (.k (.int .i64 0))) <|
 .ite (.v 7)
 (.call 44 [] [] [(some 7)] [] <|
 .ret [(.agg (.all 8))] [(.all 3)])
 (.opc (.bin .eql false (.v 6) (.k (.int .i64 1))) <|
 .ite (.v 8)
 (.call 46 [] [] [(some 7)] [] <|
 .ret [(.agg (.all 9))] [(.all 3)])
 (.opc (.bin .eql false (.v 6) (.k (.int .i64 2))) <|
 .ite (.v 9)
 (.call 8 [(.ref 0 0),(.v (.one (.k (.int .i64 7))))] [(.all 3)] [none] [2] <|
 .opc (.bin .sub false (.v 10) (.k (.int .i64 3))) <|
 .call 47 [(.v (.one (.v 12)))] [] [(some 7)] [] <|
 .ret [(.agg (.all 13))] [(.all 11)])
 (.opc (.bin .eql false (.v 6) (.k (.int .i64 3))) <|
 .ite (.v 10)
 (.call 8 [(.ref 0 0),(.v (.one (.k (.int .i64 7))))] [(.all 3)] [none] [2] <|
 .opc (.bin .sub false (.v 11) (.k (.int .i64 3))) <|
 .call 47 [(.v (.one (.v 13)))] [] [(some 7)] [] <|
 .ret [(.agg (.all 14))] [(.all 12)])
 (.opc (.bin .eql false (.v 6) (.k (.int .i64 4))) <|
 .ite (.v 11)
 (.call 48 [(.v (.one (.k (.string ⟨#[49]⟩)))),(.v (.one (.k (.string ⟨#[50]⟩))))] [] [(some 7)] [] <|
 .ret [(.agg (.all 12))] [(.all 3)])
 (.opc (.bin .eql false (.v 6) (.k (.int .i64 5))) <|
 .ite (.v 12)
 (.call 48 [(.v (.one (.k (.string ⟨#[45,53]⟩)))),(.v (.one (.k (.string ⟨#[51]⟩))))] [] [(some 7)] [] <|
 .ret [(.agg (.all 13))] [(.all 3)])
 (.opc (.bin .eql false (.v 6) (.k (.int .i64 6))) <|
 .ite (.v 13)
 (.call 8 [(.ref 0 0),(.v (.one (.k (.int .i64 3))))] [(.all 3)] [none] [2] <|
 .opc (.sstr (.k (.string ⟨#[97,98,99]⟩)) (some (.v 14)) none) <|
 .opc (.sstr (.v 16) none (some (.k (.int .i64 1)))) <|
 .call 19 [(.v (.one (.v 17)))] [] [(some 2)] [] <|
 .call 49 [(.v (.agg (.all 18)))] [] [(some 7)] [] <|
 .ret [(.agg (.all 19))] [(.all 15)])
 (.opc (.bin .eql false (.v 6) (.k (.int .i64 7))) <|
 .ite (.v 14)
 (.call 8 [(.ref 0 0),(.v (.one (.k (.int .i64 3))))] [(.all 3)] [none] [2] <|
 .opc (.sstr (.k (.string ⟨#[112,113]⟩)) none (some (.v 15))) <|
 .call 50 [(.v (.one (.v 17)))] [] [(some 7)] [] <|
 .ret [(.agg (.all 18))] [(.all 16)])
 (.opc (.bin .eql false (.v 6) (.k (.int .i64 8))) <|
 .ite (.v 15)
 (.call 47 [(.v (.one (.k (.int .i64 0))))] [] [(some 7)] [] <|
 .ret [(.agg (.all 16))] [(.all 3)])
 (.opc (.bin .eql false (.v 6) (.k (.int .i64 9))) <|
 .ite (.v 16)
 (.call 47 [(.v (.one (.k (.int .i64 1))))] [] [(some 7)] [] <|
 .ret [(.agg (.all 17))] [(.all 3)])
 (.opc (.bin .eql false (.v 6) (.k (.int .i64 10))) <|
 .ite (.v 17)
 (.call 8 [(.ref 0 0),(.v (.one (.k (.int .i64 4))))] [(.all 3)] [none] [2] <|
 .goto 0 [(.c (.v 0)),(.c (.v 18)),(.c (.k (.int .i64 0))),(.l (.all 19)),(.c (.k (.int .i64 0))),(.c (.k (.string ⟨#[]⟩))),(.c (.k (.string ⟨#[]⟩))),(.c (.k (.string ⟨#[]⟩))),(.c (.k (.string ⟨#[]⟩))),(.c (.k (.string ⟨#[]⟩))),(.c .z),(.c .z)])
 (.opc (.bin .eql false (.v 6) (.k (.int .i64 11))) <|
 .ite (.v 18)
 (.call 8 [(.ref 0 0),(.v (.one (.k (.int .i64 4))))] [(.all 3)] [none] [2] <|
 .goto 0 [(.c (.v 0)),(.c (.v 19)),(.c (.k (.int .i64 0))),(.l (.all 20)),(.c (.k (.int .i64 0))),(.c (.k (.string ⟨#[]⟩))),(.c (.k (.string ⟨#[]⟩))),(.c (.k (.string ⟨#[]⟩))),(.c (.k (.string ⟨#[]⟩))),(.c (.k (.string ⟨#[]⟩))),(.c .z),(.c .z)])
 (.opc (.bin .eql false (.v 6) (.k (.int .i64 12))) <|
 .ite (.v 19)
 (.call 8 [(.ref 0 0),(.v (.one (.k (.int .i64 4))))] [(.all 3)] [none] [2] <|
 .goto 0 [(.c (.v 0)),(.c (.v 20)),(.c (.k (.int .i64 0))),(.l (.all 21)),(.c (.k (.int .i64 0))),(.c (.k (.string ⟨#[]⟩))),(.c (.k (.string ⟨#[]⟩))),(.c (.k (.string ⟨#[]⟩))),(.c (.k (.string ⟨#[]⟩))),(.c (.k (.string ⟨#[]⟩))),(.c .z),(.c .z)])
 (.opc (.bin .sub false (.v 0) (.k (.int .i64 1))) <|
 .call 16 [(.ref 0 0),(.v (.one (.v 20)))] [(.all 3)] [(some 7)] [2] <|
 .opc (.bin .sub false (.v 0) (.k (.int .i64 1))) <|
 .call 16 [(.ref 0 0),(.v (.one (.v 23)))] [(.all 22)] [(some 7)] [2] <|
 .call 45 [(.v (.agg (.all 21))),(.v (.agg (.all 24)))] [] [(some 7)] [] <|
 .ret [(.agg (.all 26))] [(.all 25)]))))))))))))))
 (.opc (.bin .eql false (.v 2) (.k (.int .i64 0))) <|
 .ite (.v 6)
 (.call 44 [] [] [(some 7)] [] <|
 .ret [(.agg (.all 7))] [(.all 3)])
 (.opc (.bin .eql false (.v 2) (.k (.int .i64 1))) <|
 .ite (.v 7)
 (.call 46 [] [] [(some 7)] [] <|
 .ret [(.agg (.all 8))] [(.all 3)])
 (.opc (.bin .eql false (.v 2) (.k (.int .i64 2))) <|
 .ite (.v 8)
 (.call 8 [(.ref 0 0),(.v (.one (.k (.int .i64 7))))] [(.all 3)] [none] [2] <|
 .opc (.bin .sub false (.v 9) (.k (.int .i64 3))) <|
 .call 47 [(.v (.one (.v 11)))] [] [(some 7)] [] <|
 .ret [(.agg (.all 12))] [(.all 10)])
 (.opc (.bin .eql false (.v 2) (.k (.int .i64 3))) <|
 .ite (.v 9)
 (.call 8 [(.ref 0 0),(.v (.one (.k (.int .i64 7))))] [(.all 3)] [none] [2] <|
 .opc (.bin .sub false (.v 10) (.k (.int .i64 3))) <|
 .call 47 [(.v (.one (.v 12)))] [] [(some 7)] [] <|
 .ret [(.agg (.all 13))] [(.all 11)])
 (.opc (.bin .eql false (.v 2) (.k (.int .i64 4))) <|
 .ite (.v 10)
 (.call 48 [(.v (.one (.k (.string ⟨#[49]⟩)))),(.v (.one (.k (.string ⟨#[50]⟩))))] [] [(some 7)] [] <|
 .ret [(.agg (.all 11))] [(.all 3)])
 (.opc (.bin .eql false (.v 2) (.k (.int .i64 5))) <|
 .ite (.v 11)
 (.call 48 [(.v (.one (.k (.string ⟨#[45,53]⟩)))),(.v (.one (.k (.string ⟨#[51]⟩))))] [] [(some 7)] [] <|
 .ret [(.agg (.all 12))] [(.all 3)])
 (.opc (.bin .eql false (.v 2) (.k (.int .i64 6))) <|
 .ite (.v 12)
 (.call 8 [(.ref 0 0),(.v (.one (.k (.int .i64 3))))] [(.all 3)] [none] [2] <|
 .opc (.sstr (.k (.string ⟨#[97,98,99]⟩)) (some (.v 13)) none) <|
 .opc (.sstr (.v 15) none (some (.k (.int .i64 1)))) <|
 .call 19 [(.v (.one (.v 16)))] [] [(some 2)] [] <|
 .call 49 [(.v (.agg (.all 17)))] [] [(some 7)] [] <|
 .ret [(.agg (.all 18))] [(.all 14)])
 (.opc (.bin .eql false (.v 2) (.k (.int .i64 7))) <|
 .ite (.v 13)
 (.call 8 [(.ref 0 0),(.v (.one (.k (.int .i64 3))))] [(.all 3)] [none] [2] <|
 .opc (.sstr (.k (.string ⟨#[112,113]⟩)) none (some (.v 14))) <|
 .call 50 [(.v (.one (.v 16)))] [] [(some 7)] [] <|
 .ret [(.agg (.all 17))] [(.all 15)])
 (.opc (.bin .eql false (.v 2) (.k (.int .i64 8))) <|
 .ite (.v 14)
 (.call 47 [(.v (.one (.k (.int .i64 0))))] [] [(some 7)] [] <|
 .ret [(.agg (.all 15))] [(.all 3)])
 (.opc (.bin .eql false (.v 2) (.k (.int .i64 9))) <|
 .ite (.v 15)
 (.call 47 [(.v (.one (.k (.int .i64 1))))] [] [(some 7)] [] <|
 .ret [(.agg (.all 16))] [(.all 3)])
 (.opc (.bin .eql false (.v 2) (.k (.int .i64 10))) <|
 .ite (.v 16)
 (.call 8 [(.ref 0 0),(.v (.one (.k (.int .i64 4))))] [(.all 3)] [none] [2] <|
 .goto 0 [(.c (.v 0)),(.c (.v 17)),(.c (.k (.int .i64 0))),(.l (.all 18)),(.c (.k (.int .i64 0))),(.c (.k (.string ⟨#[]⟩))),(.c (.k (.string ⟨#[]⟩))),(.c (.k (.string ⟨#[]⟩))),(.c (.k (.string ⟨#[]⟩))),(.c (.k (.string ⟨#[]⟩))),(.c .z),(.c .z)])
 (.opc (.bin .eql false (.v 2) (.k (.int .i64 11))) <|
 .ite (.v 17)
 (.call 8 [(.ref 0 0),(.v (.one (.k (.int .i64 4))))] [(.all 3)] [none] [2] <|
 .goto 0 [(.c (.v 0)),(.c (.v 18)),(.c (.k (.int .i64 0))),(.l (.all 19)),(.c (.k (.int .i64 0))),(.c (.k (.string ⟨#[]⟩))),(.c (.k (.string ⟨#[]⟩))),(.c (.k (.string ⟨#[]⟩))),(.c (.k (.string ⟨#[]⟩))),(.c (.k (.string ⟨#[]⟩))),(.c .z),(.c .z)])
 (.opc (.bin .eql false (.v 2) (.k (.int .i64 12))) <|
 .ite (.v 18)
 (.call 8 [(.ref 0 0),(.v (.one (.k (.int .i64 4))))] [(.all 3)] [none] [2] <|
 .goto 0 [(.c (.v 0)),(.c (.v 19)),(.c (.k (.int .i64 0))),(.l (.all 20)),(.c (.k (.int .i64 0))),(.c (.k (.string ⟨#[]⟩))),(.c (.k (.string ⟨#[]⟩))),(.c (.k (.string ⟨#[]⟩))),(.c (.k (.string ⟨#[]⟩))),(.c (.k (.string ⟨#[]⟩))),(.c .z),(.c .z)])
 (.opc (.bin .sub false (.v 0) (.k (.int .i64 1))) <|
 .call 16 [(.ref 0 0),(.v (.one (.v 19)))] [(.all 3)] [(some 7)] [2] <|
 .opc (.bin .sub false (.v 0) (.k (.int .i64 1))) <|
 .call 16 [(.ref 0 0),(.v (.one (.v 22)))] [(.all 21)] [(some 7)] [2] <|
 .call 45 [(.v (.agg (.all 20))),(.v (.agg (.all 23)))] [] [(some 7)] [] <|
 .ret [(.agg (.all 25))] [(.all 24)]))))))))))))))
def qq16:Tree:=.opc (.bin .eql false (.v 2) (.k (.int .i64 0))) <|
 .ite (.v 5)
 (.call 44 [] [] [(some 7)] [] <|
 .ret [(.agg (.all 6))] [(.all 3)])
 (.opc (.bin .eql false (.v 2) (.k (.int .i64 1))) <|
 .ite (.v 6)
 (.call 46 [] [] [(some 7)] [] <|
 .ret [(.agg (.all 7))] [(.all 3)])
 (.opc (.bin .eql false (.v 2) (.k (.int .i64 2))) <|
 .ite (.v 7)
 (.call 8 [(.ref 0 0),(.v (.one (.k (.int .i64 7))))] [(.all 3)] [none] [2] <|
 .opc (.bin .sub false (.v 8) (.k (.int .i64 3))) <|
 .call 47 [(.v (.one (.v 10)))] [] [(some 7)] [] <|
 .ret [(.agg (.all 11))] [(.all 9)])
 (.opc (.bin .eql false (.v 2) (.k (.int .i64 3))) <|
 .ite (.v 8)
 (.call 8 [(.ref 0 0),(.v (.one (.k (.int .i64 7))))] [(.all 3)] [none] [2] <|
 .opc (.bin .sub false (.v 9) (.k (.int .i64 3))) <|
 .call 47 [(.v (.one (.v 11)))] [] [(some 7)] [] <|
 .ret [(.agg (.all 12))] [(.all 10)])
 (.opc (.bin .eql false (.v 2) (.k (.int .i64 4))) <|
 .ite (.v 9)
 (.call 48 [(.v (.one (.k (.string ⟨#[49]⟩)))),(.v (.one (.k (.string ⟨#[50]⟩))))] [] [(some 7)] [] <|
 .ret [(.agg (.all 10))] [(.all 3)])
 (.opc (.bin .eql false (.v 2) (.k (.int .i64 5))) <|
 .ite (.v 10)
 (.call 48 [(.v (.one (.k (.string ⟨#[45,53]⟩)))),(.v (.one (.k (.string ⟨#[51]⟩))))] [] [(some 7)] [] <|
 .ret [(.agg (.all 11))] [(.all 3)])
 (.opc (.bin .eql false (.v 2) (.k (.int .i64 6))) <|
 .ite (.v 11)
 (.call 8 [(.ref 0 0),(.v (.one (.k (.int .i64 3))))] [(.all 3)] [none] [2] <|
 .opc (.sstr (.k (.string ⟨#[97,98,99]⟩)) (some (.v 12)) none) <|
 .opc (.sstr (.v 14) none (some (.k (.int .i64 1)))) <|
 .call 19 [(.v (.one (.v 15)))] [] [(some 2)] [] <|
 .call 49 [(.v (.agg (.all 16)))] [] [(some 7)] [] <|
 .ret [(.agg (.all 17))] [(.all 13)])
 (.opc (.bin .eql false (.v 2) (.k (.int .i64 7))) <|
 .ite (.v 12)
 (.call 8 [(.ref 0 0),(.v (.one (.k (.int .i64 3))))] [(.all 3)] [none] [2] <|
 .opc (.sstr (.k (.string ⟨#[112,113]⟩)) none (some (.v 13))) <|
 .call 50 [(.v (.one (.v 15)))] [] [(some 7)] [] <|
 .ret [(.agg (.all 16))] [(.all 14)])
 (.opc (.bin .eql false (.v 2) (.k (.int .i64 8))) <|
 .ite (.v 13)
 (.call 47 [(.v (.one (.k (.int .i64 0))))] [] [(some 7)] [] <|
 .ret [(.agg (.all 14))] [(.all 3)])
 (.opc (.bin .eql false (.v 2) (.k (.int .i64 9))) <|
 .ite (.v 14)
 (.call 47 [(.v (.one (.k (.int .i64 1))))] [] [(some 7)] [] <|
 .ret [(.agg (.all 15))] [(.all 3)])
 (.opc (.bin .eql false (.v 2) (.k (.int .i64 10))) <|
 .ite (.v 15)
 (.call 8 [(.ref 0 0),(.v (.one (.k (.int .i64 4))))] [(.all 3)] [none] [2] <|
 .goto 0 [(.c (.v 0)),(.c (.v 16)),(.c (.k (.int .i64 0))),(.l (.all 17)),(.c (.k (.int .i64 0))),(.c (.k (.string ⟨#[]⟩))),(.c (.k (.string ⟨#[]⟩))),(.c (.k (.string ⟨#[]⟩))),(.c (.k (.string ⟨#[]⟩))),(.c (.k (.string ⟨#[]⟩))),(.c .z),(.c .z)])
 (.opc (.bin .eql false (.v 2) (.k (.int .i64 11))) <|
 .ite (.v 16)
 (.call 8 [(.ref 0 0),(.v (.one (.k (.int .i64 4))))] [(.all 3)] [none] [2] <|
 .goto 0 [(.c (.v 0)),(.c (.v 17)),(.c (.k (.int .i64 0))),(.l (.all 18)),(.c (.k (.int .i64 0))),(.c (.k (.string ⟨#[]⟩))),(.c (.k (.string ⟨#[]⟩))),(.c (.k (.string ⟨#[]⟩))),(.c (.k (.string ⟨#[]⟩))),(.c (.k (.string ⟨#[]⟩))),(.c .z),(.c .z)])
 (.opc (.bin .eql false (.v 2) (.k (.int .i64 12))) <|
 .ite (.v 17)
 (.call 8 [(.ref 0 0),(.v (.one (.k (.int .i64 4))))] [(.all 3)] [none] [2] <|
 .goto 0 [(.c (.v 0)),(.c (.v 18)),(.c (.k (.int .i64 0))),(.l (.all 19)),(.c (.k (.int .i64 0))),(.c (.k (.string ⟨#[]⟩))),(.c (.k (.string ⟨#[]⟩))),(.c (.k (.string ⟨#[]⟩))),(.c (.k (.string ⟨#[]⟩))),(.c (.k (.string ⟨#[]⟩))),(.c .z),(.c .z)])
 (.opc (.bin .sub false (.v 0) (.k (.int .i64 1))) <|
 .call 16 [(.ref 0 0),(.v (.one (.v 18)))] [(.all 3)] [(some 7)] [2] <|
 .opc (.bin .sub false (.v 0) (.k (.int .i64 1))) <|
 .call 16 [(.ref 0 0),(.v (.one (.v 21)))] [(.all 20)] [(some 7)] [2] <|
 .call 45 [(.v (.agg (.all 19))),(.v (.agg (.all 22)))] [] [(some 7)] [] <|
 .ret [(.agg (.all 24))] [(.all 23)])))))))))))))
def hh16:List Tree:=[.opc (.bin .lss false (.v 2) (.v 1)) <|
 .ite (.v 12)
 (.opc (.bin .sub false (.v 0) (.k (.int .i64 1))) <|
 .call 16 [(.ref 0 0),(.v (.one (.v 13)))] [(.all 3)] [(some 7)] [2] <|
 .opc (.lits 7 1 [(.n 14 0),(.n 14 1),(.n 14 2),(.n 14 3),(.n 14 4),(.n 14 5),(.n 14 6)]) <|
 .opc (.app 7 112 (.v 11) (.v 16)) <|
 .opc (.bin .add false (.v 2) (.k (.int .i64 1))) <|
 .goto 0 [(.c (.v 0)),(.c (.v 1)),(.c (.v 18)),(.l (.all 15)),(.c (.v 4)),(.c (.v 5)),(.c (.v 6)),(.c (.v 7)),(.c (.v 8)),(.c (.v 9)),(.c (.v 10)),(.c (.v 17))])
 (.call 14 [(.v (.one (.v 11)))] [] [(some 7)] [] <|
 .ret [(.agg (.all 13))] [(.all 3)])]
def u16:TFun:=⟨[.ref 0 0,.one],[2],.call 8 [(.ref 0 0),(.v (.one (.k (.int .i64 14))))] [(.all 1)] [none] [2] <|
 .opc (.bin .lss false (.v 0) (.k (.int .i64 1))) <|
 .ite (.v 4) pp16 qq16,hh16⟩
theorem u16_eq:t16=u16:=rfl
theorem utree16:(T nat).G.fn 16=some u16:=tree16.trans (congrArg some u16_eq)
theorem pre_gen {call:FnT} {head:HdT} (P Q:Tree) (hs:List Tree) (hl:B.length=2) (hl':B'.length=2) {k:Int} (h8:call 8 [.ref 0 0,.v (.one (ci 14))] [B]=some ([.one (ci k)],[B'])):
  bodyT call head ⟨[.ref 0 0,.one],[2],.call 8 [(.ref 0 0),(.v (.one (.k (.int .i64 14))))] [(.all 1)] [none] [2] <|
 .opc (.bin .lss false (.v 0) (.k (.int .i64 1))) <|
 .ite (.v 4) P Q,hs⟩ [.ref 0 0,.v (.one (ci d))] [B]=if d < 1 then denT call head P [.c (ci d),.l B,.c (ci k),.l B',.c (cb true)] else denT call head Q [.c (ci d),.l B,.c (ci k),.l B',.c (cb false)]:=by
 by_cases hd:d < 1<;>simp [zS,h8,hd,hl,hl']
theorem x16pre (hl:B.length=2) (hl':B'.length=2) {k:Int} (h8:fnT (T nat).G 8 [.ref 0 0,.v (.one (ci 14))] [B]=some ([.one (ci k)],[B'])):
  fnT (T nat).G 16 [.ref 0 0,.v (.one (ci d))] [B]=if d < 1 then denT (fnT (T nat).G) (hdT (T nat).G 16) pp16 [.c (ci d),.l B,.c (ci k),.l B',.c (cb true)] else denT (fnT (T nat).G) (hdT (T nat).G 16) qq16 [.c (ci d),.l B,.c (ci k),.l B',.c (cb false)]:=
 (fnT_eq utree16 _ _).trans (pre_gen pp16 qq16 hh16 hl hl' h8)
def l16k0s:Tree:=.call 44 [] [] [(some 7)] [] <|
 .ret [(.agg (.all 7))] [(.all 3)]
theorem e16k0s (c:FnT) (h:HdT):denT c h pp16 [.c (ci d),.l B,.c (ci 0),.l B',.c (cb true)]=denT c h l16k0s [.c (ci d),.l B,.c (ci 0),.l B',.c (cb true),.c (cb false),.c (cb true)]:=by kernel_rfl
def l16k0d:Tree:=.call 44 [] [] [(some 7)] [] <|
 .ret [(.agg (.all 6))] [(.all 3)]
theorem e16k0d (c:FnT) (h:HdT):denT c h qq16 [.c (ci d),.l B,.c (ci 0),.l B',.c (cb false)]=denT c h l16k0d [.c (ci d),.l B,.c (ci 0),.l B',.c (cb false),.c (cb true)]:=by kernel_rfl
def l16k1s:Tree:=.call 46 [] [] [(some 7)] [] <|
 .ret [(.agg (.all 8))] [(.all 3)]
theorem e16k1s (c:FnT) (h:HdT):denT c h pp16 [.c (ci d),.l B,.c (ci 1),.l B',.c (cb true)]=denT c h l16k1s [.c (ci d),.l B,.c (ci 1),.l B',.c (cb true),.c (cb false),.c (cb false),.c (cb true)]:=by kernel_rfl
def l16k1d:Tree:=.call 46 [] [] [(some 7)] [] <|
 .ret [(.agg (.all 7))] [(.all 3)]
theorem e16k1d (c:FnT) (h:HdT):denT c h qq16 [.c (ci d),.l B,.c (ci 1),.l B',.c (cb false)]=denT c h l16k1d [.c (ci d),.l B,.c (ci 1),.l B',.c (cb false),.c (cb false),.c (cb true)]:=by kernel_rfl
def l16k2s:Tree:=.call 8 [(.ref 0 0),(.v (.one (.k (.int .i64 7))))] [(.all 3)] [none] [2] <|
 .opc (.bin .sub false (.v 9) (.k (.int .i64 3))) <|
 .call 47 [(.v (.one (.v 11)))] [] [(some 7)] [] <|
 .ret [(.agg (.all 12))] [(.all 10)]
theorem e16k2s (c:FnT) (h:HdT):denT c h pp16 [.c (ci d),.l B,.c (ci 2),.l B',.c (cb true)]=denT c h l16k2s [.c (ci d),.l B,.c (ci 2),.l B',.c (cb true),.c (cb false),.c (cb false),.c (cb false),.c (cb true)]:=by kernel_rfl
def l16k2d:Tree:=.call 8 [(.ref 0 0),(.v (.one (.k (.int .i64 7))))] [(.all 3)] [none] [2] <|
 .opc (.bin .sub false (.v 8) (.k (.int .i64 3))) <|
 .call 47 [(.v (.one (.v 10)))] [] [(some 7)] [] <|
 .ret [(.agg (.all 11))] [(.all 9)]
theorem e16k2d (c:FnT) (h:HdT):denT c h qq16 [.c (ci d),.l B,.c (ci 2),.l B',.c (cb false)]=denT c h l16k2d [.c (ci d),.l B,.c (ci 2),.l B',.c (cb false),.c (cb false),.c (cb false),.c (cb true)]:=by kernel_rfl
def l16k3s:Tree:=.call 8 [(.ref 0 0),(.v (.one (.k (.int .i64 7))))] [(.all 3)] [none] [2] <|
 .opc (.bin .sub false (.v 10) (.k (.int .i64 3))) <|
 .call 47 [(.v (.one (.v 12)))] [] [(some 7)] [] <|
 .ret [(.agg (.all 13))] [(.all 11)]
theorem e16k3s (c:FnT) (h:HdT):denT c h pp16 [.c (ci d),.l B,.c (ci 3),.l B',.c (cb true)]=denT c h l16k3s [.c (ci d),.l B,.c (ci 3),.l B',.c (cb true),.c (cb false),.c (cb false),.c (cb false),.c (cb false),.c (cb true)]:=by kernel_rfl
def l16k3d:Tree:=.call 8 [(.ref 0 0),(.v (.one (.k (.int .i64 7))))] [(.all 3)] [none] [2] <|
 .opc (.bin .sub false (.v 9) (.k (.int .i64 3))) <|
 .call 47 [(.v (.one (.v 11)))] [] [(some 7)] [] <|
 .ret [(.agg (.all 12))] [(.all 10)]
theorem e16k3d (c:FnT) (h:HdT):denT c h qq16 [.c (ci d),.l B,.c (ci 3),.l B',.c (cb false)]=denT c h l16k3d [.c (ci d),.l B,.c (ci 3),.l B',.c (cb false),.c (cb false),.c (cb false),.c (cb false),.c (cb true)]:=by kernel_rfl
def l16k4s:Tree:=.call 48 [(.v (.one (.k (.string ⟨#[49]⟩)))),(.v (.one (.k (.string ⟨#[50]⟩))))] [] [(some 7)] [] <|
 .ret [(.agg (.all 11))] [(.all 3)]
theorem e16k4s (c:FnT) (h:HdT):denT c h pp16 [.c (ci d),.l B,.c (ci 4),.l B',.c (cb true)]=denT c h l16k4s [.c (ci d),.l B,.c (ci 4),.l B',.c (cb true),.c (cb false),.c (cb false),.c (cb false),.c (cb false),.c (cb false),.c (cb true)]:=by kernel_rfl
def l16k4d:Tree:=.call 48 [(.v (.one (.k (.string ⟨#[49]⟩)))),(.v (.one (.k (.string ⟨#[50]⟩))))] [] [(some 7)] [] <|
 .ret [(.agg (.all 10))] [(.all 3)]
theorem e16k4d (c:FnT) (h:HdT):denT c h qq16 [.c (ci d),.l B,.c (ci 4),.l B',.c (cb false)]=denT c h l16k4d [.c (ci d),.l B,.c (ci 4),.l B',.c (cb false),.c (cb false),.c (cb false),.c (cb false),.c (cb false),.c (cb true)]:=by kernel_rfl
def l16k5s:Tree:=.call 48 [(.v (.one (.k (.string ⟨#[45,53]⟩)))),(.v (.one (.k (.string ⟨#[51]⟩))))] [] [(some 7)] [] <|
 .ret [(.agg (.all 12))] [(.all 3)]
theorem e16k5s (c:FnT) (h:HdT):denT c h pp16 [.c (ci d),.l B,.c (ci 5),.l B',.c (cb true)]=denT c h l16k5s [.c (ci d),.l B,.c (ci 5),.l B',.c (cb true),.c (cb false),.c (cb false),.c (cb false),.c (cb false),.c (cb false),.c (cb false),.c (cb true)]:=by kernel_rfl
def l16k5d:Tree:=.call 48 [(.v (.one (.k (.string ⟨#[45,53]⟩)))),(.v (.one (.k (.string ⟨#[51]⟩))))] [] [(some 7)] [] <|
 .ret [(.agg (.all 11))] [(.all 3)]
theorem e16k5d (c:FnT) (h:HdT):denT c h qq16 [.c (ci d),.l B,.c (ci 5),.l B',.c (cb false)]=denT c h l16k5d [.c (ci d),.l B,.c (ci 5),.l B',.c (cb false),.c (cb false),.c (cb false),.c (cb false),.c (cb false),.c (cb false),.c (cb true)]:=by kernel_rfl
def l16k6s:Tree:=.call 8 [(.ref 0 0),(.v (.one (.k (.int .i64 3))))] [(.all 3)] [none] [2] <|
 .opc (.sstr (.k (.string ⟨#[97,98,99]⟩)) (some (.v 13)) none) <|
 .opc (.sstr (.v 15) none (some (.k (.int .i64 1)))) <|
 .call 19 [(.v (.one (.v 16)))] [] [(some 2)] [] <|
 .call 49 [(.v (.agg (.all 17)))] [] [(some 7)] [] <|
 .ret [(.agg (.all 18))] [(.all 14)]
theorem e16k6s (c:FnT) (h:HdT):denT c h pp16 [.c (ci d),.l B,.c (ci 6),.l B',.c (cb true)]=denT c h l16k6s [.c (ci d),.l B,.c (ci 6),.l B',.c (cb true),.c (cb false),.c (cb false),.c (cb false),.c (cb false),.c (cb false),.c (cb false),.c (cb false),.c (cb true)]:=by kernel_rfl
def l16k6d:Tree:=.call 8 [(.ref 0 0),(.v (.one (.k (.int .i64 3))))] [(.all 3)] [none] [2] <|
 .opc (.sstr (.k (.string ⟨#[97,98,99]⟩)) (some (.v 12)) none) <|
 .opc (.sstr (.v 14) none (some (.k (.int .i64 1)))) <|
 .call 19 [(.v (.one (.v 15)))] [] [(some 2)] [] <|
 .call 49 [(.v (.agg (.all 16)))] [] [(some 7)] [] <|
 .ret [(.agg (.all 17))] [(.all 13)]
theorem e16k6d (c:FnT) (h:HdT):denT c h qq16 [.c (ci d),.l B,.c (ci 6),.l B',.c (cb false)]=denT c h l16k6d [.c (ci d),.l B,.c (ci 6),.l B',.c (cb false),.c (cb false),.c (cb false),.c (cb false),.c (cb false),.c (cb false),.c (cb false),.c (cb true)]:=by kernel_rfl
def l16k7s:Tree:=.call 8 [(.ref 0 0),(.v (.one (.k (.int .i64 3))))] [(.all 3)] [none] [2] <|
 .opc (.sstr (.k (.string ⟨#[112,113]⟩)) none (some (.v 14))) <|
 .call 50 [(.v (.one (.v 16)))] [] [(some 7)] [] <|
 .ret [(.agg (.all 17))] [(.all 15)]
theorem e16k7s (c:FnT) (h:HdT):denT c h pp16 [.c (ci d),.l B,.c (ci 7),.l B',.c (cb true)]=denT c h l16k7s [.c (ci d),.l B,.c (ci 7),.l B',.c (cb true),.c (cb false),.c (cb false),.c (cb false),.c (cb false),.c (cb false),.c (cb false),.c (cb false),.c (cb false),.c (cb true)]:=by kernel_rfl
def l16k7d:Tree:=.call 8 [(.ref 0 0),(.v (.one (.k (.int .i64 3))))] [(.all 3)] [none] [2] <|
 .opc (.sstr (.k (.string ⟨#[112,113]⟩)) none (some (.v 13))) <|
 .call 50 [(.v (.one (.v 15)))] [] [(some 7)] [] <|
 .ret [(.agg (.all 16))] [(.all 14)]
theorem e16k7d (c:FnT) (h:HdT):denT c h qq16 [.c (ci d),.l B,.c (ci 7),.l B',.c (cb false)]=denT c h l16k7d [.c (ci d),.l B,.c (ci 7),.l B',.c (cb false),.c (cb false),.c (cb false),.c (cb false),.c (cb false),.c (cb false),.c (cb false),.c (cb false),.c (cb true)]:=by kernel_rfl
def l16k8s:Tree:=.call 47 [(.v (.one (.k (.int .i64 0))))] [] [(some 7)] [] <|
 .ret [(.agg (.all 15))] [(.all 3)]
theorem e16k8s (c:FnT) (h:HdT):denT c h pp16 [.c (ci d),.l B,.c (ci 8),.l B',.c (cb true)]=denT c h l16k8s [.c (ci d),.l B,.c (ci 8),.l B',.c (cb true),.c (cb false),.c (cb false),.c (cb false),.c (cb false),.c (cb false),.c (cb false),.c (cb false),.c (cb false),.c (cb false),.c (cb true)]:=by kernel_rfl
def l16k8d:Tree:=.call 47 [(.v (.one (.k (.int .i64 0))))] [] [(some 7)] [] <|
 .ret [(.agg (.all 14))] [(.all 3)]
theorem e16k8d (c:FnT) (h:HdT):denT c h qq16 [.c (ci d),.l B,.c (ci 8),.l B',.c (cb false)]=denT c h l16k8d [.c (ci d),.l B,.c (ci 8),.l B',.c (cb false),.c (cb false),.c (cb false),.c (cb false),.c (cb false),.c (cb false),.c (cb false),.c (cb false),.c (cb false),.c (cb true)]:=by kernel_rfl
def l16k9s:Tree:=.call 47 [(.v (.one (.k (.int .i64 1))))] [] [(some 7)] [] <|
 .ret [(.agg (.all 16))] [(.all 3)]
theorem e16k9s (c:FnT) (h:HdT):denT c h pp16 [.c (ci d),.l B,.c (ci 9),.l B',.c (cb true)]=denT c h l16k9s [.c (ci d),.l B,.c (ci 9),.l B',.c (cb true),.c (cb false),.c (cb false),.c (cb false),.c (cb false),.c (cb false),.c (cb false),.c (cb false),.c (cb false),.c (cb false),.c (cb false),.c (cb true)]:=by kernel_rfl
def l16k9d:Tree:=.call 47 [(.v (.one (.k (.int .i64 1))))] [] [(some 7)] [] <|
 .ret [(.agg (.all 15))] [(.all 3)]
theorem e16k9d (c:FnT) (h:HdT):denT c h qq16 [.c (ci d),.l B,.c (ci 9),.l B',.c (cb false)]=denT c h l16k9d [.c (ci d),.l B,.c (ci 9),.l B',.c (cb false),.c (cb false),.c (cb false),.c (cb false),.c (cb false),.c (cb false),.c (cb false),.c (cb false),.c (cb false),.c (cb false),.c (cb true)]:=by kernel_rfl
def l16s10:Tree:=.call 8 [(.ref 0 0),(.v (.one (.k (.int .i64 7))))] [(.all 3)] [none] [2] <|
 .opc (.bin .sub false (.v 10) (.k (.int .i64 3))) <|
 .call 47 [(.v (.one (.v 12)))] [] [(some 7)] [] <|
 .ret [(.agg (.all 13))] [(.all 11)]
theorem e16s10 (c:FnT) (h:HdT):denT c h pp16 [.c (ci d),.l B,.c (ci 10),.l B',.c (cb true)]=denT c h l16s10 [.c (ci d),.l B,.c (ci 10),.l B',.c (cb true),.c (cb true),.c (ci 2),.c (cb false),.c (cb false),.c (cb true)]:=by kernel_rfl
def l16d10:Tree:=.call 8 [(.ref 0 0),(.v (.one (.k (.int .i64 4))))] [(.all 3)] [none] [2] <|
 .goto 0 [(.c (.v 0)),(.c (.v 16)),(.c (.k (.int .i64 0))),(.l (.all 17)),(.c (.k (.int .i64 0))),(.c (.k (.string ⟨#[]⟩))),(.c (.k (.string ⟨#[]⟩))),(.c (.k (.string ⟨#[]⟩))),(.c (.k (.string ⟨#[]⟩))),(.c (.k (.string ⟨#[]⟩))),(.c .z),(.c .z)]
theorem e16d10 (c:FnT) (h:HdT):denT c h qq16 [.c (ci d),.l B,.c (ci 10),.l B',.c (cb false)]=denT c h l16d10 [.c (ci d),.l B,.c (ci 10),.l B',.c (cb false),.c (cb false),.c (cb false),.c (cb false),.c (cb false),.c (cb false),.c (cb false),.c (cb false),.c (cb false),.c (cb false),.c (cb false),.c (cb true)]:=by kernel_rfl
def l16s11:Tree:=.call 8 [(.ref 0 0),(.v (.one (.k (.int .i64 7))))] [(.all 3)] [none] [2] <|
 .opc (.bin .sub false (.v 11) (.k (.int .i64 3))) <|
 .call 47 [(.v (.one (.v 13)))] [] [(some 7)] [] <|
 .ret [(.agg (.all 14))] [(.all 12)]
theorem e16s11 (c:FnT) (h:HdT):denT c h pp16 [.c (ci d),.l B,.c (ci 11),.l B',.c (cb true)]=denT c h l16s11 [.c (ci d),.l B,.c (ci 11),.l B',.c (cb true),.c (cb true),.c (ci 3),.c (cb false),.c (cb false),.c (cb false),.c (cb true)]:=by kernel_rfl
def l16d11:Tree:=.call 8 [(.ref 0 0),(.v (.one (.k (.int .i64 4))))] [(.all 3)] [none] [2] <|
 .goto 0 [(.c (.v 0)),(.c (.v 17)),(.c (.k (.int .i64 0))),(.l (.all 18)),(.c (.k (.int .i64 0))),(.c (.k (.string ⟨#[]⟩))),(.c (.k (.string ⟨#[]⟩))),(.c (.k (.string ⟨#[]⟩))),(.c (.k (.string ⟨#[]⟩))),(.c (.k (.string ⟨#[]⟩))),(.c .z),(.c .z)]
theorem e16d11 (c:FnT) (h:HdT):denT c h qq16 [.c (ci d),.l B,.c (ci 11),.l B',.c (cb false)]=denT c h l16d11 [.c (ci d),.l B,.c (ci 11),.l B',.c (cb false),.c (cb false),.c (cb false),.c (cb false),.c (cb false),.c (cb false),.c (cb false),.c (cb false),.c (cb false),.c (cb false),.c (cb false),.c (cb false),.c (cb true)]:=by kernel_rfl
def l16s12:Tree:=.call 48 [(.v (.one (.k (.string ⟨#[49]⟩)))),(.v (.one (.k (.string ⟨#[50]⟩))))] [] [(some 7)] [] <|
 .ret [(.agg (.all 12))] [(.all 3)]
theorem e16s12 (c:FnT) (h:HdT):denT c h pp16 [.c (ci d),.l B,.c (ci 12),.l B',.c (cb true)]=denT c h l16s12 [.c (ci d),.l B,.c (ci 12),.l B',.c (cb true),.c (cb true),.c (ci 4),.c (cb false),.c (cb false),.c (cb false),.c (cb false),.c (cb true)]:=by kernel_rfl
def l16d12:Tree:=.call 8 [(.ref 0 0),(.v (.one (.k (.int .i64 4))))] [(.all 3)] [none] [2] <|
 .goto 0 [(.c (.v 0)),(.c (.v 18)),(.c (.k (.int .i64 0))),(.l (.all 19)),(.c (.k (.int .i64 0))),(.c (.k (.string ⟨#[]⟩))),(.c (.k (.string ⟨#[]⟩))),(.c (.k (.string ⟨#[]⟩))),(.c (.k (.string ⟨#[]⟩))),(.c (.k (.string ⟨#[]⟩))),(.c .z),(.c .z)]
theorem e16d12 (c:FnT) (h:HdT):denT c h qq16 [.c (ci d),.l B,.c (ci 12),.l B',.c (cb false)]=denT c h l16d12 [.c (ci d),.l B,.c (ci 12),.l B',.c (cb false),.c (cb false),.c (cb false),.c (cb false),.c (cb false),.c (cb false),.c (cb false),.c (cb false),.c (cb false),.c (cb false),.c (cb false),.c (cb false),.c (cb false),.c (cb true)]:=by kernel_rfl
def l16s13:Tree:=.call 48 [(.v (.one (.k (.string ⟨#[45,53]⟩)))),(.v (.one (.k (.string ⟨#[51]⟩))))] [] [(some 7)] [] <|
 .ret [(.agg (.all 13))] [(.all 3)]
theorem e16s13 (c:FnT) (h:HdT):denT c h pp16 [.c (ci d),.l B,.c (ci 13),.l B',.c (cb true)]=denT c h l16s13 [.c (ci d),.l B,.c (ci 13),.l B',.c (cb true),.c (cb true),.c (ci 5),.c (cb false),.c (cb false),.c (cb false),.c (cb false),.c (cb false),.c (cb true)]:=by kernel_rfl
def l16d13:Tree:=.opc (.bin .sub false (.v 0) (.k (.int .i64 1))) <|
 .call 16 [(.ref 0 0),(.v (.one (.v 18)))] [(.all 3)] [(some 7)] [2] <|
 .opc (.bin .sub false (.v 0) (.k (.int .i64 1))) <|
 .call 16 [(.ref 0 0),(.v (.one (.v 21)))] [(.all 20)] [(some 7)] [2] <|
 .call 45 [(.v (.agg (.all 19))),(.v (.agg (.all 22)))] [] [(some 7)] [] <|
 .ret [(.agg (.all 24))] [(.all 23)]
theorem e16d13 (c:FnT) (h:HdT):denT c h qq16 [.c (ci d),.l B,.c (ci 13),.l B',.c (cb false)]=denT c h l16d13 [.c (ci d),.l B,.c (ci 13),.l B',.c (cb false),.c (cb false),.c (cb false),.c (cb false),.c (cb false),.c (cb false),.c (cb false),.c (cb false),.c (cb false),.c (cb false),.c (cb false),.c (cb false),.c (cb false),.c (cb false)]:=by kernel_rfl
theorem x16k0 (hl:B.length=2) (hl':B'.length=2) (h8:fnT (T nat).G 8 [.ref 0 0,.v (.one (ci 14))] [B]=some ([.one (ci 0)],[B'])):fnT (T nat).G 16 [.ref 0 0,.v (.one (ci d))] [B]=some ([.agg (enc oNil)],[B']):=by
 rw [x16pre hl hl' h8]
 by_cases hd:d < 1
 ·rw [if_pos hd,e16k0s]
  simp [l16k0s,zS,h8,hd,x44,hl,hl',enc_len]
 ·rw [if_neg hd,e16k0d]
  simp [l16k0d,zS,h8,hd,x44,hl,hl',enc_len]
theorem x16k1 (hl:B.length=2) (hl':B'.length=2) (h8:fnT (T nat).G 8 [.ref 0 0,.v (.one (ci 14))] [B]=some ([.one (ci 1)],[B'])):fnT (T nat).G 16 [.ref 0 0,.v (.one (ci d))] [B]=some ([.agg (enc oT)],[B']):=by
 rw [x16pre hl hl' h8]
 by_cases hd:d < 1
 ·rw [if_pos hd,e16k1s]
  simp [l16k1s,zS,h8,hd,x46,hl,hl',enc_len]
 ·rw [if_neg hd,e16k1d]
  simp [l16k1d,zS,h8,hd,x46,hl,hl',enc_len]
theorem x16k4 (hl:B.length=2) (hl':B'.length=2) (na:NumsOK nat) (h8:fnT (T nat).G 8 [.ref 0 0,.v (.one (ci 14))] [B]=some ([.one (ci 4)],[B'])):fnT (T nat).G 16 [.ref 0 0,.v (.one (ci d))] [B]=some ([.agg (enc half)],[B']):=by
 rw [x16pre hl hl' h8]
 by_cases hd:d < 1
 ·rw [if_pos hd,e16k4s]
  simp [l16k4s,zS,h8,hd,na.v48a,hl,hl',enc_len]
 ·rw [if_neg hd,e16k4d]
  simp [l16k4d,zS,h8,hd,na.v48a,hl,hl',enc_len]
theorem x16k5 (hl:B.length=2) (hl':B'.length=2) (na:NumsOK nat) (h8:fnT (T nat).G 8 [.ref 0 0,.v (.one (ci 14))] [B]=some ([.one (ci 5)],[B'])):fnT (T nat).G 16 [.ref 0 0,.v (.one (ci d))] [B]=some ([.agg (enc less)],[B']):=by
 rw [x16pre hl hl' h8]
 by_cases hd:d < 1
 ·rw [if_pos hd,e16k5s]
  simp [l16k5s,zS,h8,hd,na.v48b,hl,hl',enc_len]
 ·rw [if_neg hd,e16k5d]
  simp [l16k5d,zS,h8,hd,na.v48b,hl,hl',enc_len]
theorem x16k8 (hl:B.length=2) (hl':B'.length=2) (na:NumsOK nat) (h8:fnT (T nat).G 8 [.ref 0 0,.v (.one (ci 14))] [B]=some ([.one (ci 8)],[B'])):fnT (T nat).G 16 [.ref 0 0,.v (.one (ci d))] [B]=some ([.agg (enc (numO 0))],[B']):=by
 have hn:=na.v47 0 (by omega) (by omega)
 rw [x16pre hl hl' h8]
 by_cases hd:d < 1
 ·rw [if_pos hd,e16k8s]
  simp [l16k8s,zS,h8,hd,hn,hl,hl',enc_len]
 ·rw [if_neg hd,e16k8d]
  simp [l16k8d,zS,h8,hd,hn,hl,hl',enc_len]
theorem x16k9 (hl:B.length=2) (hl':B'.length=2) (na:NumsOK nat) (h8:fnT (T nat).G 8 [.ref 0 0,.v (.one (ci 14))] [B]=some ([.one (ci 9)],[B'])):fnT (T nat).G 16 [.ref 0 0,.v (.one (ci d))] [B]=some ([.agg (enc (numO 1))],[B']):=by
 have hn:=na.v47 1 (by omega) (by omega)
 rw [x16pre hl hl' h8]
 by_cases hd:d < 1
 ·rw [if_pos hd,e16k9s]
  simp [l16k9s,zS,h8,hd,hn,hl,hl',enc_len]
 ·rw [if_neg hd,e16k9d]
  simp [l16k9d,zS,h8,hd,hn,hl,hl',enc_len]
theorem x16k2 (hl:B.length=2) (hl':B'.length=2) (hl2:B2.length=2) {r:Int} (h1:0≤r) (h2:r < 7) (na:NumsOK nat) (h8:fnT (T nat).G 8 [.ref 0 0,.v (.one (ci 14))] [B]=some ([.one (ci 2)],[B'])) (h8a:fnT (T nat).G 8 [.ref 0 0,.v (.one (ci 7))] [B']=some ([.one (ci r)],[B2])):fnT (T nat).G 16 [.ref 0 0,.v (.one (ci d))] [B]=some ([.agg (enc (numO (r - 3)))],[B2]):=by
 have hn:=na.v47 (r - 3) (by omega) (by omega)
 have hs:binC .sub false (ci r) (ci 3)=some (ci (r - 3)):=sub_ci (by omega) (by omega)
 rw [x16pre hl hl' h8]
 by_cases hd:d < 1
 ·rw [if_pos hd,e16k2s]
  simp [l16k2s,zS,h8,h8a,hd,hn,hs,hl,hl',hl2,enc_len]
 ·rw [if_neg hd,e16k2d]
  simp [l16k2d,zS,h8,h8a,hd,hn,hs,hl,hl',hl2,enc_len]
theorem x16k3 (hl:B.length=2) (hl':B'.length=2) (hl2:B2.length=2) {r:Int} (h1:0≤r) (h2:r < 7) (na:NumsOK nat) (h8:fnT (T nat).G 8 [.ref 0 0,.v (.one (ci 14))] [B]=some ([.one (ci 3)],[B'])) (h8a:fnT (T nat).G 8 [.ref 0 0,.v (.one (ci 7))] [B']=some ([.one (ci r)],[B2])):fnT (T nat).G 16 [.ref 0 0,.v (.one (ci d))] [B]=some ([.agg (enc (numO (r - 3)))],[B2]):=by
 have hn:=na.v47 (r - 3) (by omega) (by omega)
 have hs:binC .sub false (ci r) (ci 3)=some (ci (r - 3)):=sub_ci (by omega) (by omega)
 rw [x16pre hl hl' h8]
 by_cases hd:d < 1
 ·rw [if_pos hd,e16k3s]
  simp [l16k3s,zS,h8,h8a,hd,hn,hs,hl,hl',hl2,enc_len]
 ·rw [if_neg hd,e16k3d]
  simp [l16k3d,zS,h8,h8a,hd,hn,hs,hl,hl',hl2,enc_len]
theorem x16k6 (hl:B.length=2) (hl':B'.length=2) (hl2:B2.length=2) {r:Int} (h1:0≤r) (h2:r < 3) (h8:fnT (T nat).G 8 [.ref 0 0,.v (.one (ci 14))] [B]=some ([.one (ci 6)],[B'])) (h8a:fnT (T nat).G 8 [.ref 0 0,.v (.one (ci 3))] [B']=some ([.one (ci r)],[B2])):fnT (T nat).G 16 [.ref 0 0,.v (.one (ci d))] [B]=some ([.agg (enc (.sy user (letter r)))],[B2]):=by
 obtain ⟨c,hc,hw⟩:=Option.bind_eq_some_iff.1 (letter_ok h1 h2)
 rw [x16pre hl hl' h8]
 by_cases hd:d < 1
 ·rw [if_pos hd,e16k6s]
  simp [l16k6s,zS,h8,h8a,hd,hc,hw,x19,x49,userK,hl,hl',hl2,enc_len]
 ·rw [if_neg hd,e16k6d]
  simp [l16k6d,zS,h8,h8a,hd,hc,hw,x19,x49,userK,hl,hl',hl2,enc_len]
theorem x16k7 (hl:B.length=2) (hl':B'.length=2) (hl2:B2.length=2) {r:Int} (h1:0≤r) (h2:r < 3) (h8:fnT (T nat).G 8 [.ref 0 0,.v (.one (ci 14))] [B]=some ([.one (ci 7)],[B'])) (h8a:fnT (T nat).G 8 [.ref 0 0,.v (.one (ci 3))] [B']=some ([.one (ci r)],[B2])):fnT (T nat).G 16 [.ref 0 0,.v (.one (ci d))] [B]=some ([.agg (enc (.st (word r)))],[B2]):=by
 have hw:=word_ok h1 h2
 rw [x16pre hl hl' h8]
 by_cases hd:d < 1
 ·rw [if_pos hd,e16k7s]
  simp [l16k7s,zS,h8,h8a,hd,hw,x50,hl,hl',hl2,enc_len]
 ·rw [if_neg hd,e16k7d]
  simp [l16k7d,zS,h8,h8a,hd,hw,x50,hl,hl',hl2,enc_len]
theorem x16s10 (hl:B.length=2) (hl':B'.length=2) (hd:d < 1) (hl2:B2.length=2) {r:Int} (h1:0≤r) (h2:r < 7) (na:NumsOK nat) (h8:fnT (T nat).G 8 [.ref 0 0,.v (.one (ci 14))] [B]=some ([.one (ci 10)],[B'])) (h8a:fnT (T nat).G 8 [.ref 0 0,.v (.one (ci 7))] [B']=some ([.one (ci r)],[B2])):fnT (T nat).G 16 [.ref 0 0,.v (.one (ci d))] [B]=some ([.agg (enc (numO (r - 3)))],[B2]):=by
 have hj:binC .sub false (ci 10) (ci 8)=some (ci 2):=sub_ci (by omega) (by omega)
 have hn:=na.v47 (r - 3) (by omega) (by omega)
 have hs:binC .sub false (ci r) (ci 3)=some (ci (r - 3)):=sub_ci (by omega) (by omega)
 rw [x16pre hl hl' h8,if_pos hd,e16s10]
 simp [l16s10,zS,h8,h8a,hd,hn,hs,hj,hl,hl',hl2,enc_len]
theorem x16s11 (hl:B.length=2) (hl':B'.length=2) (hd:d < 1) (hl2:B2.length=2) {r:Int} (h1:0≤r) (h2:r < 7) (na:NumsOK nat) (h8:fnT (T nat).G 8 [.ref 0 0,.v (.one (ci 14))] [B]=some ([.one (ci 11)],[B'])) (h8a:fnT (T nat).G 8 [.ref 0 0,.v (.one (ci 7))] [B']=some ([.one (ci r)],[B2])):fnT (T nat).G 16 [.ref 0 0,.v (.one (ci d))] [B]=some ([.agg (enc (numO (r - 3)))],[B2]):=by
 have hj:binC .sub false (ci 11) (ci 8)=some (ci 3):=sub_ci (by omega) (by omega)
 have hn:=na.v47 (r - 3) (by omega) (by omega)
 have hs:binC .sub false (ci r) (ci 3)=some (ci (r - 3)):=sub_ci (by omega) (by omega)
 rw [x16pre hl hl' h8,if_pos hd,e16s11]
 simp [l16s11,zS,h8,h8a,hd,hn,hs,hj,hl,hl',hl2,enc_len]
theorem x16s12 (hl:B.length=2) (hl':B'.length=2) (hd:d < 1) (na:NumsOK nat) (h8:fnT (T nat).G 8 [.ref 0 0,.v (.one (ci 14))] [B]=some ([.one (ci 12)],[B'])):fnT (T nat).G 16 [.ref 0 0,.v (.one (ci d))] [B]=some ([.agg (enc half)],[B']):=by
 have hj:binC .sub false (ci 12) (ci 8)=some (ci 4):=sub_ci (by omega) (by omega)
 rw [x16pre hl hl' h8,if_pos hd,e16s12]
 simp [l16s12,zS,h8,hd,hj,na.v48a,hl,hl',enc_len]
theorem x16s13 (hl:B.length=2) (hl':B'.length=2) (hd:d < 1) (na:NumsOK nat) (h8:fnT (T nat).G 8 [.ref 0 0,.v (.one (ci 14))] [B]=some ([.one (ci 13)],[B'])):fnT (T nat).G 16 [.ref 0 0,.v (.one (ci d))] [B]=some ([.agg (enc less)],[B']):=by
 have hj:binC .sub false (ci 13) (ci 8)=some (ci 5):=sub_ci (by omega) (by omega)
 rw [x16pre hl hl' h8,if_pos hd,e16s13]
 simp [l16s13,zS,h8,hd,hj,na.v48b,hl,hl',enc_len]
theorem x16d10 (hl:B.length=2) (hl':B'.length=2) (hd:¬d < 1) (hl2:B2.length=2) {r:Int} (h8:fnT (T nat).G 8 [.ref 0 0,.v (.one (ci 14))] [B]=some ([.one (ci 10)],[B'])) (h8a:fnT (T nat).G 8 [.ref 0 0,.v (.one (ci 4))] [B']=some ([.one (ci r)],[B2])):fnT (T nat).G 16 [.ref 0 0,.v (.one (ci d))] [B]=hdT (T nat).G 16 0 [.c (ci d),.c (ci r),.c (ci 0),.l B2,.c (ci 0),.c ce,.c ce,.c ce,.c ce,.c ce,.c cz,.c cz]:=by
 rw [x16pre hl hl' h8,if_neg hd,e16d10]
 simp [l16d10,zZ,h8,h8a,hd,hl,hl',hl2]
theorem x16d11 (hl:B.length=2) (hl':B'.length=2) (hd:¬d < 1) (hl2:B2.length=2) {r:Int} (h8:fnT (T nat).G 8 [.ref 0 0,.v (.one (ci 14))] [B]=some ([.one (ci 11)],[B'])) (h8a:fnT (T nat).G 8 [.ref 0 0,.v (.one (ci 4))] [B']=some ([.one (ci r)],[B2])):fnT (T nat).G 16 [.ref 0 0,.v (.one (ci d))] [B]=hdT (T nat).G 16 0 [.c (ci d),.c (ci r),.c (ci 0),.l B2,.c (ci 0),.c ce,.c ce,.c ce,.c ce,.c ce,.c cz,.c cz]:=by
 rw [x16pre hl hl' h8,if_neg hd,e16d11]
 simp [l16d11,zZ,h8,h8a,hd,hl,hl',hl2]
theorem x16d12 (hl:B.length=2) (hl':B'.length=2) (hd:¬d < 1) (hl2:B2.length=2) {r:Int} (h8:fnT (T nat).G 8 [.ref 0 0,.v (.one (ci 14))] [B]=some ([.one (ci 12)],[B'])) (h8a:fnT (T nat).G 8 [.ref 0 0,.v (.one (ci 4))] [B']=some ([.one (ci r)],[B2])):fnT (T nat).G 16 [.ref 0 0,.v (.one (ci d))] [B]=hdT (T nat).G 16 0 [.c (ci d),.c (ci r),.c (ci 0),.l B2,.c (ci 0),.c ce,.c ce,.c ce,.c ce,.c ce,.c cz,.c cz]:=by
 rw [x16pre hl hl' h8,if_neg hd,e16d12]
 simp [l16d12,zZ,h8,h8a,hd,hl,hl',hl2]
theorem x16d13 (hl:B.length=2) (hl':B'.length=2) (hd:¬d < 1) (hd2:d < 100) (hl2:B2.length=2) {B3:List C} (hl3:B3.length=2) {a b:Ob} (h8:fnT (T nat).G 8 [.ref 0 0,.v (.one (ci 14))] [B]=some ([.one (ci 13)],[B'])) (e1:fnT (T nat).G 16 [.ref 0 0,.v (.one (ci (d - 1)))] [B']=some ([.agg (enc a)],[B2])) (e2:fnT (T nat).G 16 [.ref 0 0,.v (.one (ci (d - 1)))] [B2]=some ([.agg (enc b)],[B3])):fnT (T nat).G 16 [.ref 0 0,.v (.one (ci d))] [B]=some ([.agg (enc (.cons a b))],[B3]):=by
 have hs:binC .sub false (ci d) (ci 1)=some (ci (d - 1)):=sub_ci (by omega) (by omega)
 rw [x16pre hl hl' h8,if_neg hd,e16d13]
 simp [l16d13,zZ,h8,e1,e2,hs,x45,hd,hl,hl',hl2,hl3,enc_len]
end
end Go.Ey.Pr

set_option maxHeartbeats 4000000
namespace Go.Ey.Pr
open Go.Ey Go.Ey.Seat
def SZ:Nat→Nat
 |0=>1
 |d+1=>3 * (SZ d+1)+1
def Dr (d:Nat) (o:Ob):Prop:=Good o∧szO o≤SZ d∧hO o≤d+1
theorem SZ_pos:∀d,1≤SZ d
 |0=>Nat.le_refl _
 |d+1=>by simp only [SZ];omega
theorem dr_leaf {o:Ob} (d:Nat) (h:o∈atoms) (hc:isCons o=false):Dr d o:=by
 have:=SZ_pos d
 cases o with
 |cons a b=>cases hc
 |num u v=>exact ⟨h,by simpa [szO] using this,by simp [hO]⟩
 |sy u v=>exact ⟨h,by simpa [szO] using this,by simp [hO]⟩
 |st u=>exact ⟨h,by simpa [szO] using this,by simp [hO]⟩
theorem listO_good:∀{l:List Ob},(∀x∈l,Good x)→Good (listO l)
 |[],_=>by simp [listO,oNil,Good,atoms]
 |x::l,h=>⟨h x (by simp),listO_good fun y hy=>h y (by simp [hy])⟩
theorem listO_sz {k:Nat}:∀{l:List Ob},(∀x∈l,szO x≤k)→szO (listO l)≤l.length * (k+1)+1
 |[],_=>by simp [listO,oNil,szO]
 |x::l,h=>by
  have h1:=h x (by simp)
  have h2:=listO_sz (l:=l) fun y hy=>h y (by simp [hy])
  simp only [listO,szO,List.length_cons,Nat.succ_mul]
  omega
theorem listO_h {k:Nat}:∀{l:List Ob},(∀x∈l,hO x≤k)→hO (listO l)≤k+1
 |[],_=>by simp [listO,oNil,hO]
 |x::l,h=>by
  have h1:=h x (by simp)
  have h2:=listO_h (l:=l) fun y hy=>h y (by simp [hy])
  simp only [listO,hO]
  omega
theorem numO_mem {n:Int} (h1:-3≤n) (h2:n≤3):numO n∈atoms∧isCons (numO n)=false:=by
 have h:n=-3∨n=-2∨n=-1∨n=0∨n=1∨n=2∨n=3:=by omega
 rcases h with rfl|rfl|rfl|rfl|rfl|rfl|rfl<;>simp [numO,atoms,isCons]
theorem letter_mem {r:Int} (h1:0≤r) (h2:r < 3):Ob.sy user (letter r)∈atoms:=by
 have h:r=0∨r=1∨r=2:=by omega
 rcases h with rfl|rfl|rfl<;>simp [letter,atoms,user]
theorem word_mem {r:Int} (h1:0≤r) (h2:r < 3):Ob.st (word r)∈atoms:=by
 have h:r=0∨r=1∨r=2:=by omega
 rcases h with rfl|rfl|rfl<;>simp [word,atoms]
section
variable {nat:Nat→List V→Option (List V)}
def Draws (nat:Nat→List V→Option (List V)) (bs:List UInt8) (d:Nat):Prop:=
 ∀pos,pos≤bs.length→∃(o:Ob) (pos':Nat),fnT (T nat).G 16 [.ref 0 0,.v (.one (ci d))] [bx bs pos]=some ([.agg (enc o)],[bx bs pos'])∧Dr d o∧pos'≤bs.length
theorem x16loop (bs:List UInt8) (d:Nat) (hd:d < 100) (ih:Draws nat bs d) (n:Nat) (hn:n≤3):∀(m i:Nat) (acc:List Ob) (pos:Nat),i+m=n→acc.length=i→(∀x∈acc,Dr d x)→pos≤bs.length→
  ∃(l:List Ob) (pos':Nat),hdT (T nat).G 16 0 [.c (ci ((d+1:Nat):Int)),.c (ci n),.c (ci i),.l (bx bs pos),.c (ci 0),.c ce,.c ce,.c ce,.c ce,.c ce,.c cz,.c (rows enc acc)]=some ([.agg (enc (listO l))],[bx bs pos'])∧l.length=n∧(∀x∈l,Dr d x)∧pos'≤bs.length
 |0,i,acc,pos,hi,hc,ha,hp=>by
  have hlt:¬((i:Int) < (n:Int)):=by omega
  refine ⟨acc,pos,?_,by omega,ha,hp⟩
  rw [hdT_eq utree16 (t:=hh16[0]) rfl]
  simp [hh16,zZ,hlt,x14 acc (by omega),bx_len,enc_len]
 |m+1,i,acc,pos,hi,hc,ha,hp=>by
  have hlt:((i:Int) < (n:Int)):=by omega
  obtain ⟨o,pos1,h1,h2,h3⟩:=ih pos hp
  obtain ⟨l,pos2,g1,g2,g3,g4⟩:=x16loop bs d hd ih n hn m (i+1) (acc++[o]) pos1 (by omega) (by simp [hc]) (fun x hx=>by
   rcases List.mem_append.1 hx with h|h
   ·exact ha x h
   ·simp only [List.mem_singleton] at h;subst h;exact h2) h3
  refine ⟨l,pos2,?_,g2,g3,g4⟩
  have hs:binC .sub false (ci ((d+1:Nat):Int)) (ci 1)=some (ci (d:Int)):=by
   rw [sub_ci (by omega) (by omega)]
   exact congrArg (fun x=>some (ci x)) (by omega)
  have hap:=app7 (acc:=acc) (x:=o) (by omega)
  have hs2:=add_nat i (by omega)
  rw [hdT_eq utree16 (t:=hh16[0]) rfl]
  simp [-Int.natCast_add,hh16,zZ,hlt,hs,h1,lits7,hap,hs2,g1,bx_len,enc_len]
theorem x16 (na:NumsOK nat) (bs:List UInt8) (hb:bs.length≤80):∀d:Nat,d < 100→Draws nat bs d:=by
 intro d
 induction d with
 |zero=>
  intro _ pos hp
  obtain ⟨k,p1,h8,k0,k1,hp1⟩:=x8 (nat:=nat) bs pos hb hp 14 (by omega)
  have hk:k=0∨k=1∨k=2∨k=3∨k=4∨k=5∨k=6∨k=7∨k=8∨k=9∨k=10∨k=11∨k=12∨k=13:=by omega
  obtain ⟨r7,p7,h7,a7,b7,c7⟩:=x8 (nat:=nat) bs p1 hb hp1 7 (by omega)
  obtain ⟨r3,p3,h3,a3,b3,c3⟩:=x8 (nat:=nat) bs p1 hb hp1 3 (by omega)
  have hd:((0:Nat):Int) < 1:=by omega
  have hn:=numO_mem (n:=r7 - 3) (by omega) (by omega)
  rcases hk with rfl|rfl|rfl|rfl|rfl|rfl|rfl|rfl|rfl|rfl|rfl|rfl|rfl|rfl
  ·exact ⟨_,_,x16k0 rfl rfl h8,dr_leaf _ (by simp [atoms]) rfl,hp1⟩
  ·exact ⟨_,_,x16k1 rfl rfl h8,dr_leaf _ (by simp [atoms]) rfl,hp1⟩
  ·exact ⟨_,_,x16k2 rfl rfl rfl a7 b7 na h8 h7,dr_leaf _ hn.1 hn.2,c7⟩
  ·exact ⟨_,_,x16k3 rfl rfl rfl a7 b7 na h8 h7,dr_leaf _ hn.1 hn.2,c7⟩
  ·exact ⟨_,_,x16k4 rfl rfl na h8,dr_leaf _ (by simp [atoms,half]) rfl,hp1⟩
  ·exact ⟨_,_,x16k5 rfl rfl na h8,dr_leaf _ (by simp [atoms,less]) rfl,hp1⟩
  ·exact ⟨_,_,x16k6 rfl rfl rfl a3 b3 h8 h3,dr_leaf _ (letter_mem a3 b3) rfl,c3⟩
  ·exact ⟨_,_,x16k7 rfl rfl rfl a3 b3 h8 h3,dr_leaf _ (word_mem a3 b3) rfl,c3⟩
  ·exact ⟨_,_,x16k8 rfl rfl na h8,dr_leaf _ (numO_mem (by omega) (by omega)).1 rfl,hp1⟩
  ·exact ⟨_,_,x16k9 rfl rfl na h8,dr_leaf _ (numO_mem (by omega) (by omega)).1 rfl,hp1⟩
  ·exact ⟨_,_,x16s10 rfl rfl hd rfl a7 b7 na h8 h7,dr_leaf _ hn.1 hn.2,c7⟩
  ·exact ⟨_,_,x16s11 rfl rfl hd rfl a7 b7 na h8 h7,dr_leaf _ hn.1 hn.2,c7⟩
  ·exact ⟨_,_,x16s12 rfl rfl hd na h8,dr_leaf _ (by simp [atoms,half]) rfl,hp1⟩
  ·exact ⟨_,_,x16s13 rfl rfl hd na h8,dr_leaf _ (by simp [atoms,less]) rfl,hp1⟩
 |succ d ih=>
  intro hd100 pos hp
  have ih:=ih (by omega)
  obtain ⟨k,p1,h8,k0,k1,hp1⟩:=x8 (nat:=nat) bs pos hb hp 14 (by omega)
  have hk:k=0∨k=1∨k=2∨k=3∨k=4∨k=5∨k=6∨k=7∨k=8∨k=9∨k=10∨k=11∨k=12∨k=13:=by omega
  obtain ⟨r7,p7,h7,a7,b7,c7⟩:=x8 (nat:=nat) bs p1 hb hp1 7 (by omega)
  obtain ⟨r3,p3,h3,a3,b3,c3⟩:=x8 (nat:=nat) bs p1 hb hp1 3 (by omega)
  obtain ⟨r4,p4,h4,a4,b4,c4⟩:=x8 (nat:=nat) bs p1 hb hp1 4 (by omega)
  have hd:¬((d+1:Nat):Int) < 1:=by omega
  have hn:=numO_mem (n:=r7 - 3) (by omega) (by omega)
  have hlist:∃(o:Ob) (pos':Nat),hdT (T nat).G 16 0 [.c (ci ((d+1:Nat):Int)),.c (ci r4),.c (ci 0),.l (bx bs p4),.c (ci 0),.c ce,.c ce,.c ce,.c ce,.c ce,.c cz,.c cz]=some ([.agg (enc o)],[bx bs pos'])∧Dr (d+1) o∧pos'≤bs.length:=by
   obtain ⟨l,p',g1,g2,g3,g4⟩:=x16loop bs d (by omega) ih r4.toNat (by omega) r4.toNat 0 [] p4 (by omega) rfl (fun x h=>by cases h) c4
   rw [rows_nil,Int.toNat_of_nonneg a4] at g1
   refine ⟨listO l,p',g1,⟨listO_good fun x hx=>(g3 x hx).1,?_,listO_h fun x hx=>(g3 x hx).2.2⟩,g4⟩
   have h1:=listO_sz (l:=l) fun x hx=>(g3 x hx).2.1
   have h2:l.length * (SZ d+1)≤3 * (SZ d+1):=Nat.mul_le_mul_right _ (by omega)
   simp only [SZ]
   omega
  rcases hk with rfl|rfl|rfl|rfl|rfl|rfl|rfl|rfl|rfl|rfl|rfl|rfl|rfl|rfl
  ·exact ⟨_,_,x16k0 rfl rfl h8,dr_leaf _ (by simp [atoms]) rfl,hp1⟩
  ·exact ⟨_,_,x16k1 rfl rfl h8,dr_leaf _ (by simp [atoms]) rfl,hp1⟩
  ·exact ⟨_,_,x16k2 rfl rfl rfl a7 b7 na h8 h7,dr_leaf _ hn.1 hn.2,c7⟩
  ·exact ⟨_,_,x16k3 rfl rfl rfl a7 b7 na h8 h7,dr_leaf _ hn.1 hn.2,c7⟩
  ·exact ⟨_,_,x16k4 rfl rfl na h8,dr_leaf _ (by simp [atoms,half]) rfl,hp1⟩
  ·exact ⟨_,_,x16k5 rfl rfl na h8,dr_leaf _ (by simp [atoms,less]) rfl,hp1⟩
  ·exact ⟨_,_,x16k6 rfl rfl rfl a3 b3 h8 h3,dr_leaf _ (letter_mem a3 b3) rfl,c3⟩
  ·exact ⟨_,_,x16k7 rfl rfl rfl a3 b3 h8 h3,dr_leaf _ (word_mem a3 b3) rfl,c3⟩
  ·exact ⟨_,_,x16k8 rfl rfl na h8,dr_leaf _ (numO_mem (by omega) (by omega)).1 rfl,hp1⟩
  ·exact ⟨_,_,x16k9 rfl rfl na h8,dr_leaf _ (numO_mem (by omega) (by omega)).1 rfl,hp1⟩
  ·obtain ⟨o,p',g1,g2,g3⟩:=hlist
   exact ⟨o,p',(x16d10 rfl rfl hd rfl h8 h4).trans g1,g2,g3⟩
  ·obtain ⟨o,p',g1,g2,g3⟩:=hlist
   exact ⟨o,p',(x16d11 rfl rfl hd rfl h8 h4).trans g1,g2,g3⟩
  ·obtain ⟨o,p',g1,g2,g3⟩:=hlist
   exact ⟨o,p',(x16d12 rfl rfl hd rfl h8 h4).trans g1,g2,g3⟩
  ·have he:(((d+1:Nat):Int) - 1)=(d:Int):=by omega
   obtain ⟨a,p2,e1,q1,q2⟩:=ih p1 hp1
   obtain ⟨b,p3',e2,q3,q4⟩:=ih p2 q2
   rw [←he] at e1 e2
   refine ⟨.cons a b,p3',x16d13 rfl rfl hd (by omega) rfl rfl h8 e1 e2,⟨⟨q1.1,q3.1⟩,?_,?_⟩,q4⟩
   ·have h1:=q1.2.1;have h2:=q3.2.1
    simp only [szO,SZ];omega
   ·have h1:=q1.2.2;have h2:=q3.2.2
    simp only [hO];omega
end
end Go.Ey.Pr

set_option maxHeartbeats 4000000
namespace Go.Ey.Pr
open Go.Ey Go.Ey.Seat
section
variable {nat:Nat→List V→Option (List V)}
theorem lits7r (a:Ob):litsC 7 1 [nthC (enc a) 0,nthC (enc a) 1,nthC (enc a) 2,nthC (enc a) 3,nthC (enc a) 4,nthC (enc a) 5,nthC (enc a) 6]=some (rows enc [a]):=by
 rw [lits7];simp [rows]
end
end Go.Ey.Pr

set_option maxHeartbeats 4000000
namespace Go.Ey.Pr
open Go.Ey Go.Ey.Seat
def kS (b:ByteArray):K:=.s b.data.toList.length (packL b.data.toList)
theorem rkS (b:ByteArray):RK (kS b) (cs b):=RK.s _ _ b (strOf_pack _).symm (pack_lt _)
def kI (n:Int):K:=.i .i64 n
def kE:K:=.s 0 0
theorem rkE:RK kE ce:=RK.s 0 0 ⟨#[]⟩ rfl (by decide)
theorem rkZ:RK kz cz:=RK.sl 0 [] 0 [] RKr.nil rfl
def kO:Ob→List K
 |.num n d=>[kI 1,kS n,kS d,kE,kE,kE,kz]
 |.sy p s=>[kI 2,kE,kE,kS p,kS s,kE,kz]
 |.st t=>[kI 3,kE,kE,kE,kE,kS t,kz]
 |.cons _ _=>[]
theorem rkO {o:Ob} (h:isCons o=false):RKs (kO o) (enc o):=by
 cases o with
 |num n d=>exact .cons (RK.i _ _) (.cons (rkS n) (.cons (rkS d) (.cons rkE (.cons rkE (.cons rkE (.cons rkZ .nil))))))
 |sy n d=>exact .cons (RK.i _ _) (.cons rkE (.cons rkE (.cons (rkS n) (.cons (rkS d) (.cons rkE (.cons rkZ .nil))))))
 |st t=>exact .cons (RK.i _ _) (.cons rkE (.cons rkE (.cons rkE (.cons rkE (.cons (rkS t) (.cons rkZ .nil))))))
 |cons _ _=>cases h
def isYes:Ans→Bool
 |.ret [.c (.b true)] []=>true
 |_=>false
theorem isYes_eq {a:Ans} (h:isYes a=true):a=.ret [.c (.b true)] []:=by
 unfold isYes at h
 split at h
 ·rfl
 ·cases h
def atomsN:List Ob:=atoms.filter fun o=>match o with|.num _ _=>false|_=>true
def syms:List Ob:=atoms.filter fun o=>match o with|.sy _ _=>true|_=>false
noncomputable section
def run150:Bool:=atomsN.all fun o=>isYes ((krun kgD 3000).fn 150 [.l 7 (kO o)] [])
theorem run150_ok:run150=true:=by kernel_rfl
def run239:Bool:=atoms.all fun o=>isYes ((krun kgD 3000).fn 239 [.l 7 (kO o)] [])
theorem run239_ok:run239=true:=by kernel_rfl
def kSy:Ob→List K
 |.sy p s=>[kS p,kS s]
 |_=>[]
def run240:Bool:=syms.all fun o=>isYes ((krun kgD 3000).fn 240 [.l 2 (kSy o)] [])
theorem run240_ok:run240=true:=by kernel_rfl
end
section
variable {nat:Nat→List V→Option (List V)}
theorem psig150:(T nat).psig 150=some [.agg 7]:=by kernel_rfl
theorem psig239:(T nat).psig 239=some [.agg 7]:=by kernel_rfl
theorem psig240:(T nat).psig 240=some [.agg 2]:=by kernel_rfl
theorem psig129:(T nat).psig 129=some [.one,.one]:=by kernel_rfl
theorem atoms_leaf:∀o∈atoms,isCons o=false:=fun o h=>by
 have:=List.all_eq_true.1 (show (atoms.all fun o=>!isCons o)=true from by kernel_rfl) o h
 simpa using this
theorem at_fn (hn:NatI nat) {f m:Nat} (hp:(T nat).psig f=some [.agg 7]) {o:Ob} (ho:isCons o=false) (h:isYes ((krun kgD m).fn f [.l 7 (kO o)] [])=true):fnT (T nat).G f [.v (.agg (enc o))] []=some yes:=by
 have hl:(kO o).length=7:=by cases o<;>first|rfl|cases ho
 obtain ⟨c,b,e⟩:=kc1 hn hp (ts:=[.v (.agg (.all 0))]) rfl (ys:=[.l 7 (kO o)]) (us:=[.v (.agg (enc o))]) ⟨⟨rkO ho,hl⟩,trivial⟩ (isYes_eq h)
 rw [b.bool] at e
 exact e
theorem at239 (hn:NatI nat):∀o∈atoms,fnT (T nat).G 239 [.v (.agg (enc o))] []=some yes:=by
 intro o ho
 exact at_fn hn psig239 (atoms_leaf o ho) (List.all_eq_true.1 (show (atoms.all fun o=>isYes ((krun kgD 3000).fn 239 [.l 7 (kO o)] []))=true from run239_ok) o ho)
theorem at150 (hn:NatI nat):∀o∈atomsN,fnT (T nat).G 150 [.v (.agg (enc o))] []=some yes:=by
 intro o ho
 exact at_fn hn psig150 (atoms_leaf o (List.mem_filter.1 ho).1) (List.all_eq_true.1 run150_ok o ho)
theorem sy_fn (hn:NatI nat) {f m:Nat} (hp:(T nat).psig f=some [.agg 2]) {p s:ByteArray} (h:isYes ((krun kgD m).fn f [.l 2 (kSy (.sy p s))] [])=true):fnT (T nat).G f [.v (.agg [cs p,cs s])] []=some yes:=by
 obtain ⟨c,b,e⟩:=kc1 hn hp (ts:=[.v (.agg (.all 0))]) rfl (ys:=[.l 2 (kSy (.sy p s))]) (us:=[.v (.agg [cs p,cs s])]) ⟨⟨RKs.cons (rkS p) (RKs.cons (rkS s) RKs.nil),rfl⟩,trivial⟩ (isYes_eq h)
 rw [b.bool] at e
 exact e
theorem at240 (hn:NatI nat):∀p s,.sy p s∈atoms→fnT (T nat).G 240 [.v (.agg [cs p,cs s])] []=some yes:=by
 intro p s ho
 have hm: .sy p s∈syms:=List.mem_filter.2 ⟨ho,rfl⟩
 exact sy_fn hn psig240 (List.all_eq_true.1 run240_ok _ hm)
def isTwo (n d:ByteArray):Ans→Bool
 |.ret [.c (.s a v),.c (.s b w)] []=>(a==n.data.toList.length) && (v==packL n.data.toList) && (b==d.data.toList.length) && (w==packL d.data.toList)
 |_=>false
theorem isTwo_eq {n d:ByteArray} {a:Ans} (h:isTwo n d a=true):a=.ret [.c (kS n),.c (kS d)] []:=by
 unfold isTwo at h
 split at h
 ·simp only [Bool.and_eq_true,beq_iff_eq] at h
  obtain ⟨⟨⟨rfl,rfl⟩,rfl⟩,rfl⟩:=h
  rfl
 ·cases h
theorem rkS_inv {b:ByteArray} {c:C} (h:RK (kS b) c):c=cs b:=by
 obtain ⟨b',h1,h2,h3⟩:=h.str
 rw [strOf_pack] at h2
 have:b'=b:=by
  obtain ⟨b'⟩:=b'
  obtain ⟨b⟩:=b
  congr 1
  exact Array.toList_inj.1 h2
 rw [h1,this]
 rfl
def small:List (ByteArray×ByteArray):=[(⟨#[48]⟩,⟨#[49]⟩),(⟨#[49]⟩,⟨#[49]⟩),(⟨#[50]⟩,⟨#[49]⟩),(⟨#[51]⟩,⟨#[49]⟩),(⟨#[45,49]⟩,⟨#[49]⟩),(⟨#[45,50]⟩,⟨#[49]⟩),(⟨#[45,51]⟩,⟨#[49]⟩),(⟨#[49]⟩,⟨#[50]⟩),(⟨#[45,53]⟩,⟨#[51]⟩)]
noncomputable def run129:Bool:=small.all fun p=>isTwo p.1 p.2 ((krun kgD 3000).fn 129 [.c (kS p.1),.c (kS p.2)] [])
theorem run129_ok:run129=true:=by kernel_rfl
theorem tw_fn (hn:NatI nat) {m:Nat} {p s:ByteArray} (h:isTwo p s ((krun kgD m).fn 129 [.c (kS p),.c (kS s)] [])=true):fnT (T nat).G 129 [.v (.one (cs p)),.v (.one (cs s))] []=some ([.one (cs p),.one (cs s)],[]):=by
 obtain ⟨c,d,b1,b2,e⟩:=kc2 hn psig129 (ts:=[.v (.one (.v 0)),.v (.one (.v 0))]) rfl (ys:=[.c (kS p),.c (kS s)]) (us:=[.v (.one (cs p)),.v (.one (cs s))]) ⟨rkS p,rkS s,trivial⟩ (isTwo_eq h)
 rw [rkS_inv b1,rkS_inv b2] at e
 exact e
theorem x129 (hn:NatI nat) (p:ByteArray×ByteArray) (h:p∈small):fnT (T nat).G 129 [.v (.one (cs p.1)),.v (.one (cs p.2))] []=some ([.one (cs p.1),.one (cs p.2)],[]):=
 tw_fn hn (List.all_eq_true.1 run129_ok p h)
theorem x48 (hn:NatI nat) (p:ByteArray×ByteArray) (h:p∈small):fnT (T nat).G 48 [.v (.one (cs p.1)),.v (.one (cs p.2))] []=some ([.agg (enc (.num p.1 p.2))],[]):=by
 rw [fnT_eq tree48]
 simp [t48,zS,x129 hn p h,enc,ce]
end
end Go.Ey.Pr
