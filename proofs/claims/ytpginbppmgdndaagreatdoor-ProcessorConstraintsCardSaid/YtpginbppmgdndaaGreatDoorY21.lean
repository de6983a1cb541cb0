/- A part of the proof. -/
import Derived.Test.YtpginbppmgdndaaGreatDoorY20
set_option linter.all false
namespace Go.Ey.Kq
open Go.Ey
def v0:KA:=.v 0
def v1:KA:=.v 1
def v2:KA:=.v 2
def v3:KA:=.v 3
def v4:KA:=.v 4
def v5:KA:=.v 5
def v6:KA:=.v 6
def v7:KA:=.v 7
def v8:KA:=.v 8
def v9:KA:=.v 9
def v10:KA:=.v 10
def v11:KA:=.v 11
def v12:KA:=.v 12
def v13:KA:=.v 13
def v14:KA:=.v 14
def v15:KA:=.v 15
def v16:KA:=.v 16
def v17:KA:=.v 17
def v18:KA:=.v 18
def v19:KA:=.v 19
def v20:KA:=.v 20
def v21:KA:=.v 21
def v22:KA:=.v 22
def v23:KA:=.v 23
def v24:KA:=.v 24
def v25:KA:=.v 25
def v26:KA:=.v 26
def v27:KA:=.v 27
def v28:KA:=.v 28
def v29:KA:=.v 29
def v30:KA:=.v 30
def v31:KA:=.v 31
def v32:KA:=.v 32
def v33:KA:=.v 33
def v34:KA:=.v 34
def v35:KA:=.v 35
def v36:KA:=.v 36
def v37:KA:=.v 37
def v38:KA:=.v 38
def v39:KA:=.v 39
def o0:KV:=.one (.v 0)
def o1:KV:=.one (.v 1)
def o2:KV:=.one (.v 2)
def o3:KV:=.one (.v 3)
def o4:KV:=.one (.v 4)
def o5:KV:=.one (.v 5)
def o6:KV:=.one (.v 6)
def o7:KV:=.one (.v 7)
def o8:KV:=.one (.v 8)
def o9:KV:=.one (.v 9)
def o10:KV:=.one (.v 10)
def o11:KV:=.one (.v 11)
def o12:KV:=.one (.v 12)
def o13:KV:=.one (.v 13)
def o14:KV:=.one (.v 14)
def o15:KV:=.one (.v 15)
def o16:KV:=.one (.v 16)
def o17:KV:=.one (.v 17)
def o18:KV:=.one (.v 18)
def o19:KV:=.one (.v 19)
def o20:KV:=.one (.v 20)
def o21:KV:=.one (.v 21)
def o22:KV:=.one (.v 22)
def o23:KV:=.one (.v 23)
def o24:KV:=.one (.v 24)
def o25:KV:=.one (.v 25)
def o26:KV:=.one (.v 26)
def o27:KV:=.one (.v 27)
def o28:KV:=.one (.v 28)
def o29:KV:=.one (.v 29)
def g0:KV:=.agg (.all 0)
def g1:KV:=.agg (.all 1)
def g2:KV:=.agg (.all 2)
def g3:KV:=.agg (.all 3)
def g4:KV:=.agg (.all 4)
def g5:KV:=.agg (.all 5)
def g6:KV:=.agg (.all 6)
def g7:KV:=.agg (.all 7)
def g8:KV:=.agg (.all 8)
def g9:KV:=.agg (.all 9)
def g10:KV:=.agg (.all 10)
def g11:KV:=.agg (.all 11)
def g12:KV:=.agg (.all 12)
def g13:KV:=.agg (.all 13)
def g14:KV:=.agg (.all 14)
def g15:KV:=.agg (.all 15)
def g16:KV:=.agg (.all 16)
def g17:KV:=.agg (.all 17)
def g18:KV:=.agg (.all 18)
def g19:KV:=.agg (.all 19)
def g20:KV:=.agg (.all 20)
def g21:KV:=.agg (.all 21)
def g22:KV:=.agg (.all 22)
def g23:KV:=.agg (.all 23)
def q0:KA:=.k (.i .i64 (.ofNat 0))
def q1:KA:=.k (.i .i64 (.ofNat 1))
def q2:KA:=.k (.i .i64 (.ofNat 2))
def q3:KA:=.k (.i .i64 (.ofNat 3))
def q4:KA:=.k (.i .i64 (.ofNat 4))
def q5:KA:=.k (.i .i64 (.ofNat 5))
def q6:KA:=.k (.i .i64 (.ofNat 6))
def q7:KA:=.k (.i .i64 (.ofNat 7))
def q8:KA:=.k (.i .i64 (.ofNat 8))
def q9:KA:=.k (.i .i64 (.ofNat 9))
def q10:KA:=.k (.i .i64 (.ofNat 10))
def q11:KA:=.k (.i .i64 (.ofNat 11))
def oq0:KV:=.one (.k (.i .i64 (.ofNat 0)))
def oq1:KV:=.one (.k (.i .i64 (.ofNat 1)))
def oq2:KV:=.one (.k (.i .i64 (.ofNat 2)))
def es:KA:=.k (.s 0 0)
def ez:KA:=.k (.sl 0 [] 0)
def bF:KA:=.k (.b false)
def bT:KA:=.k (.b true)
def oes:KV:=.one (.k (.s 0 0))
def oez:KV:=.one (.k (.sl 0 [] 0))
def oF:KV:=.one (.k (.b false))
def oT:KV:=.one (.k (.b true))
def rF:KTree:=.ret [.one (.k (.b false))] []
def rT:KTree:=.ret [.one (.k (.b true))] []
def s2':Option Nat:=some 2
def s7':Option Nat:=some 7
def s11':Option Nat:=some 11
def n2 (a:Nat):List KA:=[.n a 0,.n a 1]
def n7 (a:Nat):List KA:=[.n a 0,.n a 1,.n a 2,.n a 3,.n a 4,.n a 5,.n a 6]
def n11 (a:Nat):List KA:=[.n a 0,.n a 1,.n a 2,.n a 3,.n a 4,.n a 5,.n a 6,.n a 7,.n a 8,.n a 9,.n a 10]
end Go.Ey.Kq
namespace Go.Ey.Pr
open Go.Ey Go.Ey.Kq
def k18:KFun:=⟨[none],[],(.call 20 [(.one (.k (.s 2 26217)))] [] [s2'] [] (.call 20 [(.one (.k (.s 3 7630702)))] [] [s2'] [] (.opc (.lits 2 2 (n2 1++n2 0)) (.call 54 [] [] [none] [] (.goto 0 4 [o4,o0,oq0,o1]))))),[(4,(.opc (.len false v3) (.opc (.lss v2 v0) (.ite v0 (.row 1 v5 v3 (.opc (.conv .i64 (.n 0 0)) (.opc (.len false v6) (.opc (.rem v1 v0) (.row 2 v8 v0 (.goto 1 7 [o10,o9,o8,oF,oq0,o7,g0])))))) (.ret [o2] []))))),
 (7,(.opc (.len false v1) (.opc (.lss v3 v0) (.ite v0 (.ite v5 (.opc (.add v4 q1) (.goto 1 7 [o9,o8,o7,oT,o0,o4,g3])) (.row 2 v3 v4 (.row 2 v4 v5 (.opc (.eqs [1,1] false (.all 0) (.all 4)) (.opc (.add v7 q1) (.goto 1 7 [o12,o11,o10,o1,o0,o7,g6])))))) (.opc (.not v5) (.ite v0 (.opc (.lits 2 1 (n2 3)) (.opc (.app 2 32 v5 v0) (.opc (.add v9 q1) (.goto 0 4 [o12,o11,o0,o1])))) (.opc (.add v7 q1) (.goto 0 4 [o10,o9,o0,o5]))))))))]⟩
theorem r18 (nat:_):(T nat).krow 18=some k18:=by kernel_rfl
def k26:KFun:=⟨[none,none],[],(.opc (.len false v1) (.opc (.len false v1) (.opc (.neq v1 v0) (.ite v0 rF (.goto 0 3 [o4,o3,oq0]))))),[(3,(.opc (.len false v2) (.opc (.lss v1 v0) (.ite v0 (.row 11 v4 v2 (.row 11 v4 v3 (.call 84 [g1,g0] [] [none] [] (.opc (.not v0) (.ite v0 rF (.opc (.add v6 q1) (.goto 0 3 [o9,o8,o0]))))))) rT))))]⟩
theorem r26 (nat:_):(T nat).krow 26=some k26:=by kernel_rfl
def k31:KFun:=⟨[none,s2',none,none],[],(.call 43 [o1] [] [none] [] (.opc (.not v0) (.ite v0 (.ret [oez,oq1] []) (.call 10 [o3] [] [s7'] [] (.call 90 [g0] [] [none] [] (.opc (.not v0) (.ite v0 (.ret [oez,oq1] []) (.opc (.lits 7 1 (n7 2)) (.call 91 [o9,g8,o0,o6] [] [s7',none,none] [] (.opc (.neq v0 q0) (.ite v0 (.ret [oez,o1] []) (.call 13 [g3] [] [none,none] [] (.opc (.not v0) (.ite v0 (.ret [oez,(.one (.k (.i .i64 (.ofNat 46))))] []) (.ret [o2,oq0] []))))))))))))))),[]⟩
theorem r31 (nat:_):(T nat).krow 31=some k31:=by kernel_rfl
def k34:KFun:=⟨[],[],(.call 29 [(.one (.k (.s 1 120)))] [] [s11'] [] (.call 29 [(.one (.k (.s 1 121)))] [] [s11'] [] (.call 29 [(.one (.k (.s 1 122)))] [] [s11'] [] (.call 29 [(.one (.k (.s 1 110)))] [] [s11'] [] (.call 101 [g3,g2] [] [s11'] [] (.call 19 [(.one (.k (.s 8 7954883259050844531)))] [] [s2'] [] (.opc (.lits 11 2 (n11 5++n11 4)) (.call 30 [(.one (.k (.s 4 1936617315))),o0] [] [s11'] [] (.opc (.lits 11 1 (n11 0)) (.call 30 [(.one (.k (.s 3 7496035))),o0] [] [s11'] [] (.opc (.lits 11 2 (n11 0++n11 9)) (.call 30 [(.one (.k (.s 5 465491554661))),o0] [] [s11'] [] (.opc (.lits 11 2 (n11 11++n11 10)) (.call 30 [(.one (.k (.s 4 1936617315))),o0] [] [s11'] [] (.opc (.lits 11 1 (n11 0)) (.call 30 [(.one (.k (.s 3 7496803))),o0] [] [s11'] [] (.opc (.lits 11 2 (n11 0++n11 14)) (.call 30 [(.one (.k (.s 5 465491554661))),o0] [] [s11'] [] (.opc (.lits 11 1 (n11 17)) (.call 30 [(.one (.k (.s 10 531053184691079719776884))),o0] [] [s11'] [] (.call 88 [] [] [s11'] [] (.opc (.lits 11 2 (n11 20++n11 0)) (.call 30 [(.one (.k (.s 13 7956982234992646598644298836322))),o0] [] [s11'] [] (.opc (.lits 11 2 (n11 0++n11 22)) (.call 30 [(.one (.k (.s 5 465491554661))),o0] [] [s11'] [] (.opc (.lits 11 2 (n11 5++n11 0)) (.call 30 [(.one (.k (.s 7 32481125787004265))),o0] [] [s11'] [] (.opc (.lits 11 2 (n11 22++n11 24)) (.call 30 [(.one (.k (.s 13 7956982234992646598644298836322))),o0] [] [s11'] [] (.opc (.lits 11 2 (n11 27++n11 26)) (.call 30 [(.one (.k (.s 13 7956982234992646598644298836322))),o0] [] [s11'] [] (.opc (.lits 11 2 (n11 30++n11 0)) (.call 30 [(.one (.k (.s 13 7956982234992646598644298836322))),o0] [] [s11'] [] (.opc (.lits 11 2 (n11 4++n11 0)) (.call 30 [(.one (.k (.s 5 465491554661))),o0] [] [s11'] [] (.opc (.lits 11 2 (n11 34++n11 33)) (.call 30 [(.one (.k (.s 8 3111276449750739298))),o0] [] [s11'] [] (.opc (.lits 11 2 (n11 35++n11 36)) (.call 30 [(.one (.k (.s 8 3111276449750739298))),o0] [] [s11'] [] (.opc (.lits 11 2 (n11 2++n11 0)) (.call 30 [(.one (.k (.s 5 465491554661))),o0] [] [s11'] [] (.opc (.lits 11 2 (n11 39++n11 38)) (.call 30 [(.one (.k (.s 8 3111276449750739298))),o0] [] [s11'] [] (.opc (.lits 11 2 (n11 42++n11 0)) (.call 30 [(.one (.k (.s 8 3111276449750739298))),o0] [] [s11'] [] (.opc (.lits 11 2 (n11 44++n11 42)) (.call 30 [(.one (.k (.s 8 3111276449750739298))),o0] [] [s11'] [] (.opc (.lits 11 2 (n11 45++n11 0)) (.call 30 [(.one (.k (.s 8 3111276449750739298))),o0] [] [s11'] [] (.opc (.lits 11 2 (n11 4++n11 0)) (.call 30 [(.one (.k (.s 5 465491554661))),o0] [] [s11'] [] (.opc (.lits 11 1 (n11 46)) (.call 30 [(.one (.k (.s 3 7234924))),o0] [] [s11'] [] (.opc (.lits 11 1 (n11 52)) (.call 30 [(.one (.k (.s 3 7234924))),o0] [] [s11'] [] (.opc (.lits 11 1 (n11 53)) (.call 30 [(.one (.k (.s 3 7234924))),o0] [] [s11'] [] (.opc (.lits 11 2 (n11 2++n11 0)) (.call 30 [(.one (.k (.s 8 3111276449750739298))),o0] [] [s11'] [] (.opc (.lits 11 2 (n11 6++n11 0)) (.call 30 [(.one (.k (.s 5 465491554661))),o0] [] [s11'] [] (.opc (.lits 11 1 (n11 60)) (.call 30 [(.one (.k (.s 3 7234924))),o0] [] [s11'] [] (.opc (.lits 11 1 (n11 0)) (.call 30 [(.one (.k (.s 8 8102650174351109737))),o0] [] [s11'] [] (.opc (.lits 11 1 (n11 64)) (.call 30 [(.one (.k (.s 3 7234924))),o0] [] [s11'] [] (.call 99 [oq0] [] [s11'] [] (.opc (.lits 11 2 (n11 1++n11 0)) (.call 30 [(.one (.k (.s 1 60))),o0] [] [s11'] [] (.opc (.lits 11 1 (n11 0)) (.call 30 [(.one (.k (.s 3 7630702))),o0] [] [s11'] [] (.opc (.lits 11 1 (n11 68)) (.call 30 [(.one (.k (.s 4 1886613360))),o0] [] [s11'] [] (.opc (.lits 11 1 (n11 70)) (.call 30 [(.one (.k (.s 4 1886675310))),o0] [] [s11'] [] (.opc (.lits 11 2 (n11 2++n11 0)) (.call 30 [(.one (.k (.s 7 32481125787004265))),o0] [] [s11'] [] (.opc (.lits 11 1 (n11 74)) (.call 30 [(.one (.k (.s 4 1886675310))),o0] [] [s11'] [] (.opc (.lits 11 1 (n11 76)) (.call 30 [(.one (.k (.s 8 8102650174351109737))),o0] [] [s11'] [] (.opc (.lits 11 2 (n11 2++n11 0)) (.call 30 [(.one (.k (.s 7 32481125787004265))),o0] [] [s11'] [] (.opc (.lits 11 1 (n11 83)) (.call 30 [(.one (.k (.s 5 482972954467))),o0] [] [s11'] [] (.opc (.lits 11 1 (n11 85)) (.call 30 [(.one (.k (.s 3 7496035))),o0] [] [s11'] [] (.opc (.lits 11 1 (n11 87)) (.call 30 [(.one (.k (.s 3 7496803))),o0] [] [s11'] [] (.opc (.lits 11 2 (n11 2++n11 0)) (.call 30 [(.one (.k (.s 4 1936617315))),o0] [] [s11'] [] (.opc (.lits 11 2 (n11 0++n11 91)) (.call 30 [(.one (.k (.s 5 465491554661))),o0] [] [s11'] [] (.opc (.lits 11 2 (n11 8++n11 0)) (.call 30 [(.one (.k (.s 7 32481125787004265))),o0] [] [s11'] [] (.opc (.lits 11 1 (n11 95)) (.call 30 [(.one (.k (.s 3 7759218))),o0] [] [s11'] [] (.opc (.lits 11 1 (n11 0)) (.call 30 [(.one (.k (.s 10 531053184691079719776884))),o0] [] [s11'] [] (.call 102 [(.agg (.all 94))] [] [s11'] [] (.opc (.lits 11 2 (n11 100++n11 99)) (.call 72 [(.agg (.all 96)),o0] [] [s11'] [] (.opc (.lits 11 1 (n11 102)) (.call 30 [(.one (.k (.s 3 7234924))),o0] [] [s11'] [] (.opc (.lits 11 1 (n11 103)) (.call 30 [(.one (.k (.s 3 7234924))),o0] [] [s11'] [] (.opc (.lits 11 2 (n11 2++n11 0)) (.call 30 [(.one (.k (.s 5 465491554661))),o0] [] [s11'] [] (.opc (.lits 11 2 (n11 6++n11 0)) (.call 30 [(.one (.k (.s 7 32481125787004265))),o0] [] [s11'] [] (.opc (.lits 11 1 (n11 110)) (.call 30 [(.one (.k (.s 3 7759218))),o0] [] [s11'] [] (.opc (.lits 11 2 (n11 0++n11 112)) (.call 72 [(.agg (.all 108)),o0] [] [s11'] [] (.opc (.lits 11 1 (n11 111)) (.call 30 [(.one (.k (.s 4 1886675310))),o0] [] [s11'] [] (.opc (.lits 11 1 (n11 113)) (.call 30 [(.one (.k (.s 4 2020173422))),o0] [] [s11'] [] (.opc (.lits 11 2 (n11 0++n11 115)) (.call 30 [(.one (.k (.s 5 465491554661))),o0] [] [s11'] [] (.opc (.lits 11 2 (n11 4++n11 0)) (.call 30 [(.one (.k (.s 7 32481125787004265))),o0] [] [s11'] [] (.opc (.lits 11 1 (n11 122)) (.call 30 [(.one (.k (.s 7 31644423040104819))),o0] [] [s11'] [] (.opc (.lits 11 1 (n11 0)) (.call 30 [(.one (.k (.s 7 31657557352151411))),o0] [] [s11'] [] (.opc (.lits 11 1 (n11 126)) (.call 30 [(.one (.k (.s 3 7891302))),o0] [] [s11'] [] (.opc (.lits 11 1 (n11 0)) (.call 30 [(.one (.k (.s 3 7891302))),o0] [] [s11'] [] (.opc (.lits 11 1 (n11 130)) (.call 30 [(.one (.k (.s 3 7891302))),o0] [] [s11'] [] (.opc (.lits 11 2 (n11 2++n11 0)) (.call 30 [(.one (.k (.s 5 465491554661))),o0] [] [s11'] [] (.opc (.lits 11 2 (n11 8++n11 0)) (.call 30 [(.one (.k (.s 7 32481125787004265))),o0] [] [s11'] [] (.opc (.lits 11 2 (n11 136++n11 135)) (.call 30 [(.one (.k (.s 1 60))),o0] [] [s11'] [] (.opc (.lits 11 2 (n11 137++n11 136)) (.call 30 [(.one (.k (.s 1 60))),o0] [] [s11'] [] (.call 100 [g2,g0] [] [s11'] [] (.opc (.lits 11 2 (n11 141++n11 139)) (.call 30 [(.one (.k (.s 1 60))),o0] [] [s11'] [] (.opc (.lits 11 2 (n11 2++n11 0)) (.call 30 [(.one (.k (.s 7 32481125787004265))),o0] [] [s11'] [] (.call 99 [oq0] [] [s11'] [] (.opc (.lits 11 1 (n11 146)) (.call 98 [(.one (.k (.s 4 1701147252))),o0] [] [s11'] [] (.opc (.lits 11 2 (n11 2++n11 0)) (.call 30 [(.one (.k (.s 1 60))),o0] [] [s11'] [] (.opc (.lits 13 20 [(.k (.s 8 8317708033554800995)),(.n 139 0),(.n 139 1),(.n 139 2),(.n 139 3),(.n 139 4),(.n 139 5),(.n 139 6),(.n 139 7),(.n 139 8),(.n 139 9),(.n 139 10),q1,(.k (.s 8 8317708033554801763)),(.n 133 0),(.n 133 1),(.n 133 2),(.n 133 3),(.n 133 4),(.n 133 5),(.n 133 6),(.n 133 7),(.n 133 8),(.n 133 9),(.n 133 10),q1,(.k (.s 10 511960427389804621099105)),(.n 124 0),(.n 124 1),(.n 124 2),(.n 124 3),(.n 124 4),(.n 124 5),(.n 124 6),(.n 124 7),(.n 124 8),(.n 124 9),(.n 124 10),q1,(.k (.s 13 7956982234992646575537442025569)),(.n 116 0),(.n 116 1),(.n 116 2),(.n 116 3),(.n 116 4),(.n 116 5),(.n 116 6),(.n 116 7),(.n 116 8),(.n 116 9),(.n 116 10),q1,(.k (.s 13 9142637465062889202485265001584)),(.n 110 0),(.n 110 1),(.n 110 2),(.n 110 3),(.n 110 4),(.n 110 5),(.n 110 6),(.n 110 7),(.n 110 8),(.n 110 9),(.n 110 10),q1,(.k (.s 15 260536693996370769484804928033877104)),(.n 100 0),(.n 100 1),(.n 100 2),(.n 100 3),(.n 100 4),(.n 100 5),(.n 100 6),(.n 100 7),(.n 100 8),(.n 100 9),(.n 100 10),q1,(.k (.s 10 474273099600830470710636)),(.n 90 0),(.n 90 1),(.n 90 2),(.n 90 3),(.n 90 4),(.n 90 5),(.n 90 6),(.n 90 7),(.n 90 8),(.n 90 9),(.n 90 10),q1,(.k (.s 11 138296409776066645308892524)),(.n 86 0),(.n 86 1),(.n 86 2),(.n 86 3),(.n 86 4),(.n 86 5),(.n 86 6),(.n 86 7),(.n 86 8),(.n 86 9),(.n 86 10),q2,(.k (.s 16 134866857477203892207031548729166292332)),(.n 79 0),(.n 79 1),(.n 79 2),(.n 79 3),(.n 79 4),(.n 79 5),(.n 79 6),(.n 79 7),(.n 79 8),(.n 79 9),(.n 79 10),q4,(.k (.s 9 2074421441378049552240)),(.n 73 0),(.n 73 1),(.n 73 2),(.n 73 3),(.n 73 4),(.n 73 5),(.n 73 6),(.n 73 7),(.n 73 8),(.n 73 9),(.n 73 10),q3,(.k (.s 13 8908958082500278871676033458542)),(.n 67 0),(.n 67 1),(.n 67 2),(.n 67 3),(.n 67 4),(.n 67 5),(.n 67 6),(.n 67 7),(.n 67 8),(.n 67 9),(.n 67 10),q3,(.k (.s 12 33861315163562240176871858531)),(.n 55 0),(.n 55 1),(.n 55 2),(.n 55 3),(.n 55 4),(.n 55 5),(.n 55 6),(.n 55 7),(.n 55 8),(.n 55 9),(.n 55 10),q5,(.k (.s 8 8391166444061484402)),(.n 51 0),(.n 51 1),(.n 51 2),(.n 51 3),(.n 51 4),(.n 51 5),(.n 51 6),(.n 51 7),(.n 51 8),(.n 51 9),(.n 51 10),q8,(.k (.s 20 578825458491896554300161426208599908388812185971)),(.n 50 0),(.n 50 1),(.n 50 2),(.n 50 3),(.n 50 4),(.n 50 5),(.n 50 6),(.n 50 7),(.n 50 8),(.n 50 9),(.n 50 10),q6,(.k (.s 12 34165963441767551604034986355)),(.n 40 0),(.n 40 1),(.n 40 2),(.n 40 3),(.n 40 4),(.n 40 5),(.n 40 6),(.n 40 7),(.n 40 8),(.n 40 9),(.n 40 10),q7,(.k (.s 12 36641871854537209371704516979)),(.n 36 0),(.n 36 1),(.n 36 2),(.n 36 3),(.n 36 4),(.n 36 5),(.n 36 6),(.n 36 7),(.n 36 8),(.n 36 9),(.n 36 10),q1,(.k (.s 9 2074421441378183112302)),(.n 28 0),(.n 28 1),(.n 28 2),(.n 28 3),(.n 28 4),(.n 28 5),(.n 28 6),(.n 28 7),(.n 28 8),(.n 28 9),(.n 28 10),q1,(.k (.s 10 512070261200627212773734)),(.n 14 0),(.n 14 1),(.n 14 2),(.n 14 3),(.n 14 4),(.n 14 5),(.n 14 6),(.n 14 7),(.n 14 8),(.n 14 9),(.n 14 10),q1,(.k (.s 11 138296318114583548378965356)),(.n 5 0),(.n 5 1),(.n 5 2),(.n 5 3),(.n 5 4),(.n 5 5),(.n 5 6),(.n 5 7),(.n 5 8),(.n 5 9),(.n 5 10),q1,(.k (.s 13 8038691132050414482116208587380)),(.n 0 0),(.n 0 1),(.n 0 2),(.n 0 3),(.n 0 4),(.n 0 5),(.n 0 6),(.n 0 7),(.n 0 8),(.n 0 9),(.n 0 10),q4]) (.ret [o0] []))))))))))))))))))))))))))))))))))))))))))))))))))))))))))))))))))))))))))))))))))))))))))))))))))))))))))))))))))))))))))))))))))))))))))))))))))))))))),[]⟩
theorem r34 (nat:_):(T nat).krow 34=some k34:=by kernel_rfl
def k38:KFun:=⟨[s11'],[],(.opc (.eql (.n 0 0) q1) (.ite v0 (.call 119 [(.agg (.lit 2 [(.n 1 1),(.n 1 2)]))] [] [s7'] [] (.ret [g0] [])) (.opc (.eql (.n 1 0) q2) (.ite v0 (.call 120 [] [] [s2'] [] (.call 119 [g0] [] [s7'] [] (.opc (.lits 7 2 [(.n 0 0),(.n 0 1),(.n 0 2),(.n 0 3),(.n 0 4),(.n 0 5),(.n 0 6),(.n 4 3),(.n 4 4),(.n 4 5),(.n 4 6),(.n 4 7),(.n 4 8),(.n 4 9)]) (.call 39 [o0] [] [s7'] [] (.ret [g0] []))))) (.call 119 [(.agg (.lit 2 [(.n 2 1),(.n 2 2)]))] [] [s7'] [] (.opc (.lits 7 1 (n7 0)) (.opc (.len false (.n 4 10)) (.goto 0 11 [(.one (.n 5 10)),o0,oq0,oq0,oes,oes,oes,oes,oes,oez,o1])))))))),[(11,(.opc (.lss v8 v9) (.ite v0 (.row 11 v11 v9 (.call 38 [g0] [] [s7'] [] (.opc (.lits 7 1 (n7 0)) (.opc (.app 7 112 v4 v0) (.opc (.add v13 q1) (.goto 0 11 [o16,o15,o0,o13,o12,o11,o10,o9,o8,o7,o1])))))) (.call 39 [o1] [] [s7'] [] (.ret [g0] [])))))]⟩
theorem r38 (nat:_):(T nat).krow 38=some k38:=by kernel_rfl
def k39:KFun:=⟨[none],[],(.call 121 [] [] [s7'] [] (.opc (.len false v1) (.opc (.sub v0 q1) (.goto 0 10 [o3,o0,oq0,oes,oes,oes,oes,oes,oez,g2])))),[(10,(.opc (.geq v8 q0) (.ite v0 (.row 7 v10 v9 (.call 122 [g0,g2] [] [s7'] [] (.opc (.sub v11 q1) (.goto 0 10 [o13,o0,o11,o10,o9,o8,o7,o6,o5,g1])))) (.ret [g1] []))))]⟩
theorem r39 (nat:_):(T nat).krow 39=some k39:=by kernel_rfl
def k42:KFun:=⟨[s7'],[],(.call 90 [g0] [] [none] [] (.opc (.not v0) (.ite v0 (.ret [(.agg (.lit 11 [q0,es,es,q0,es,es,es,es,es,ez,ez])),oF] []) (.call 125 [g2] [] [s11',none] [] (.opc (.not v0) (.ite v0 (.ret [(.agg (.lit 11 [q0,es,es,q0,es,es,es,es,es,ez,ez])),oF] []) (.call 126 [g2] [] [none] [] (.opc (.not v0) (.ite v0 (.ret [(.agg (.lit 11 [q0,es,es,q0,es,es,es,es,es,ez,ez])),oF] []) (.ret [g4,oT] [])))))))))),[]⟩
theorem r42 (nat:_):(T nat).krow 42=some k42:=by kernel_rfl
def k74:KFun:=⟨[],[],(.call 71 [(.one (.k (.s 1 120)))] [] [s11'] [] (.call 71 [(.one (.k (.s 1 97)))] [] [s11'] [] (.opc (.lits 11 2 (n11 1++n11 0)) (.call 73 [(.one (.k (.s 11 131024224507261934500016993))),o0] [] [s11'] [] (.opc (.lits 11 1 (n11 0)) (.call 73 [(.one (.k (.s 3 7496803))),o0] [] [s11'] [] (.call 81 [] [] [s11'] [] (.opc (.lits 11 3 (n11 6++n11 1++n11 0)) (.call 73 [(.one (.k (.s 2 26217))),o0] [] [s11'] [] (.ret [g0] [])))))))))),[]⟩
theorem r74 (nat:_):(T nat).krow 74=some k74:=by kernel_rfl
def k85:KFun:=⟨[],[],(.call 46 [] [] [s7'] [] (.call 83 [g0] [] [s11'] [] (.call 71 [(.one (.k (.s 1 99)))] [] [s11'] [] (.call 71 [(.one (.k (.s 1 108)))] [] [s11'] [] (.opc (.lits 11 1 (n11 1)) (.call 73 [(.one (.k (.s 5 482972954467))),o0] [] [s11'] [] (.call 76 [(.one (.k (.s 2 26217)))] [] [s2'] [] (.call 82 [g0] [] [s11'] [] (.opc (.lits 11 1 (n11 5)) (.call 73 [(.one (.k (.s 3 7496035))),o0] [] [s11'] [] (.call 46 [] [] [s7'] [] (.call 148 [g0] [] [s11'] [] (.opc (.lits 11 1 (n11 9)) (.call 73 [(.one (.k (.s 3 7496803))),o0] [] [s11'] [] (.opc (.lits 11 1 (n11 0)) (.call 73 [(.one (.k (.s 7 31078174686407012))),o0] [] [s11'] [] (.opc (.lits 11 4 (n11 8++n11 6++n11 4++n11 0)) (.call 147 [o0] [] [s11'] [] (.call 44 [] [] [s7'] [] (.call 148 [g0] [] [s11'] [] (.opc (.lits 11 3 (n11 14++n11 2++n11 0)) (.call 73 [(.one (.k (.s 2 26217))),o0] [] [s11'] [] (.opc (.lits 11 1 (n11 18)) (.call 73 [(.one (.k (.s 5 482972954467))),o0] [] [s11'] [] (.call 76 [(.one (.k (.s 2 26217)))] [] [s2'] [] (.call 82 [g0] [] [s11'] [] (.opc (.lits 11 1 (n11 22)) (.call 73 [(.one (.k (.s 3 7496035))),o0] [] [s11'] [] (.opc (.lits 11 1 (n11 0)) (.call 73 [(.one (.k (.s 7 31078174686407012))),o0] [] [s11'] [] (.opc (.lits 11 1 (n11 26)) (.call 73 [(.one (.k (.s 3 7496803))),o0] [] [s11'] [] (.opc (.lits 11 1 (n11 0)) (.call 73 [(.one (.k (.s 7 31078174686080867))),o0] [] [s11'] [] (.call 44 [] [] [s7'] [] (.call 148 [g0] [] [s11'] [] (.opc (.lits 11 4 (n11 10++n11 6++n11 2++n11 0)) (.call 147 [o0] [] [s11'] [] (.call 46 [] [] [s7'] [] (.call 148 [g0] [] [s11'] [] (.opc (.lits 11 3 (n11 16++n11 2++n11 0)) (.call 73 [(.one (.k (.s 2 26217))),o0] [] [s11'] [] (.call 76 [(.one (.k (.s 7 31078174686407012)))] [] [s2'] [] (.call 76 [(.one (.k (.s 1 99)))] [] [s2'] [] (.opc (.lits 2 1 (n2 0)) (.opc (.lits 11 1 (n11 42)) (.call 73 [(.one (.k (.s 5 500069396323))),o0] [] [s11'] [] (.call 76 [(.one (.k (.s 7 31078174686080867)))] [] [s2'] [] (.call 76 [(.one (.k (.s 1 108)))] [] [s2'] [] (.opc (.lits 2 1 (n2 0)) (.opc (.lits 11 1 (n11 46)) (.call 73 [(.one (.k (.s 5 500069396323))),o0] [] [s11'] [] (.opc (.lits 37 2 [(.n 9 0),(.n 9 1),v7,q1,(.n 50 0),(.n 50 1),(.n 50 2),(.n 50 3),(.n 50 4),(.n 50 5),(.n 50 6),(.n 50 7),(.n 50 8),(.n 50 9),(.n 50 10),(.n 30 0),(.n 30 1),(.n 30 2),(.n 30 3),(.n 30 4),(.n 30 5),(.n 30 6),(.n 30 7),(.n 30 8),(.n 30 9),(.n 30 10),(.n 5 0),(.n 5 1),(.n 5 2),(.n 5 3),(.n 5 4),(.n 5 5),(.n 5 6),(.n 5 7),(.n 5 8),(.n 5 9),(.n 5 10),(.n 4 0),(.n 4 1),v2,q1,(.n 50 0),(.n 50 1),(.n 50 2),(.n 50 3),(.n 50 4),(.n 50 5),(.n 50 6),(.n 50 7),(.n 50 8),(.n 50 9),(.n 50 10),(.n 10 0),(.n 10 1),(.n 10 2),(.n 10 3),(.n 10 4),(.n 10 5),(.n 10 6),(.n 10 7),(.n 10 8),(.n 10 9),(.n 10 10),(.n 0 0),(.n 0 1),(.n 0 2),(.n 0 3),(.n 0 4),(.n 0 5),(.n 0 6),(.n 0 7),(.n 0 8),(.n 0 9),(.n 0 10)]) (.ret [o0] [])))))))))))))))))))))))))))))))))))))))))))))))))))))),[]⟩
theorem r85 (nat:_):(T nat).krow 85=some k85:=by kernel_rfl
def k88:KFun:=⟨[],[],(.call 44 [] [] [s7'] [] (.call 83 [g0] [] [s11'] [] (.ret [g0] []))),[]⟩
theorem r88 (nat:_):(T nat).krow 88=some k88:=by kernel_rfl
def k89:KFun:=⟨[s2',s2'],[],(.call 71 [(.one (.k (.s 1 99)))] [] [s11'] [] (.call 71 [(.one (.k (.s 1 97)))] [] [s11'] [] (.opc (.lits 11 1 (n11 1)) (.call 72 [g3,o0] [] [s11'] [] (.opc (.lits 11 1 (n11 0)) (.call 73 [(.one (.k (.s 7 31078174686080867))),o0] [] [s11'] [] (.opc (.lits 11 2 (n11 0++n11 4)) (.call 72 [g8,o0] [] [s11'] [] (.opc (.lits 11 1 (n11 7)) (.call 73 [(.one (.k (.s 7 31078174686407012))),o0] [] [s11'] [] (.opc (.lits 11 2 (n11 0++n11 8)) (.call 72 [g12,o0] [] [s11'] [] (.opc (.lits 11 2 (n11 4++n11 0)) (.call 73 [(.one (.k (.s 7 32481125787004265))),o0] [] [s11'] [] (.ret [g0] []))))))))))))))),[]⟩
theorem r89 (nat:_):(T nat).krow 89=some k89:=by kernel_rfl
def k90:KFun:=⟨[s7'],[],(.call 149 [g0] [] [none] [] (.opc (.leq v0 (.k (.i .i64 (.ofNat 3000)))) (.ite v0 (.call 150 [g2] [] [none] [] (.ret [o0] [])) rF))),[]⟩
theorem r90 (nat:_):(T nat).krow 90=some k90:=by kernel_rfl
def k96:KFun:=⟨[s11',s11'],[],(.call 88 [] [] [s11'] [] (.call 86 [] [] [s11'] [] (.opc (.lits 11 3 (n11 2++n11 1++n11 0)) (.call 30 [(.one (.k (.s 2 26217))),o0] [] [s11'] [] (.call 86 [] [] [s11'] [] (.call 88 [] [] [s11'] [] (.opc (.lits 11 3 (n11 6++n11 1++n11 0)) (.call 30 [(.one (.k (.s 2 26217))),o0] [] [s11'] [] (.opc (.lits 11 3 (n11 9++n11 4++n11 0)) (.call 30 [(.one (.k (.s 2 26217))),o0] [] [s11'] [] (.ret [g0] []))))))))))),[]⟩
theorem r96 (nat:_):(T nat).krow 96=some k96:=by kernel_rfl
def k98:KFun:=⟨[none,none],[],(.call 19 [o1] [] [s2'] [] (.call 72 [g0,o1] [] [s11'] [] (.ret [g0] []))),[]⟩
theorem r98 (nat:_):(T nat).krow 98=some k98:=by kernel_rfl
def k122:KFun:=⟨[s7',s7'],[],(.opc (.lits 7 2 (n7 1++n7 0)) (.ret [(.agg (.lit 7 [q4,es,es,es,es,es,v0]))] [])),[]⟩
theorem r122 (nat:_):(T nat).krow 122=some k122:=by kernel_rfl
def k128:KFun:=⟨[none],[],(.call 176 [o0] [] [none] [] (.ret [o0] [])),[]⟩
theorem r128 (nat:_):(T nat).krow 128=some k128:=by kernel_rfl
def k131:KFun:=⟨[s7'],[],(.call 44 [] [] [s7'] [] (.call 11 [g1,g0] [] [none] [] (.ret [o0] []))),[]⟩
theorem r131 (nat:_):(T nat).krow 131=some k131:=by kernel_rfl
def k145:KFun:=⟨[],[],(.call 119 [(.agg (.lit 2 [(.k (.s 4 1886611820)),(.k (.s 1 116))]))] [] [s7'] [] (.ret [g0] [])),[]⟩
theorem r145 (nat:_):(T nat).krow 145=some k145:=by kernel_rfl
def k150:KFun:=⟨[s7'],[],(.goto 0 1 [g0]),[(1,(.opc (.eql (.n 0 0) q4) (.ite v0 (.opc (.len false (.n 1 6)) (.opc (.neq v0 q2) (.ite v0 rF (.call 188 [g3,oF,oF,oF] [] [none] [] (.opc (.not v0) (.ite v0 rF (.row 7 (.n 5 6) q0 (.call 150 [g0] [] [none] [] (.opc (.not v0) (.ite v0 rF (.row 7 (.n 8 6) q1 (.goto 0 1 [g0])))))))))))) (.opc (.eql (.n 1 0) q1) (.ite v0 (.call 188 [g2,oT,oF,oF] [] [none] [] (.ite v0 (.opc (.len false (.n 3 6)) (.opc (.eql v0 q0) (.ite v0 (.call 189 [(.one (.n 5 1)),(.one (.n 5 2))] [] [none] [] (.ret [o0] [])) rF))) rF)) (.opc (.eql (.n 2 0) q2) (.ite v0 (.call 188 [g3,oF,oT,oF] [] [none] [] (.ite v0 (.opc (.len false (.n 4 6)) (.opc (.eql v0 q0) (.ite v0 (.call 190 [(.agg (.lit 2 [(.n 6 3),(.n 6 4)]))] [] [none] [] (.ret [o0] [])) rF))) rF)) (.opc (.eql (.n 3 0) q3) (.ite v0 (.call 188 [g4,oF,oF,oT] [] [none] [] (.ite v0 (.opc (.len false (.n 5 6)) (.opc (.eql v0 q0) (.ite v0 (.opc (.len true (.n 7 5)) (.opc (.leq v0 (.k (.i .i64 (.ofNat 200)))) (.ret [o0] []))) rF))) rF)) rF)))))))))]⟩
theorem r150 (nat:_):(T nat).krow 150=some k150:=by kernel_rfl
def k153:KFun:=⟨[none,none,none],[],(.call 192 [o0] [] [none,s2'] [] (.opc (.neq (.n 0 0) q0) (.ite v0 (.ret [oez,g1] []) (.goto 0 3 [(.agg (.lit 2 [q0,q0])),(.agg (.lit 4 [v5,v4,v2,q0])),oez])))),[(3,(.row 5 (.n 1 2) (.n 1 3) (.opc (.neq (.n 0 0) q0) (.ite v0 (.row 5 (.n 3 2) (.n 3 3) (.row 5 (.n 4 2) (.n 4 3) (.opc (.len false v4) (.opc (.geq v0 (.k (.i .i64 (.ofNat 100)))) (.ite v0 (.opc (.neq (.n 2 0) q2) (.ite v0 (.opc (.neq (.n 3 0) q3) (.ite v0 (.call 193 [oq2,(.one (.n 5 1))] [] [s2'] [] (.ret [oez,g0] [])) (.call 194 [oq0] [(.all 9)] [s7',s2'] [4] (.opc (.neq (.n 1 0) q0) (.ite v0 (.ret [oez,g2] []) (.call 195 [g3] [] [none] [] (.opc (.gtr v0 (.k (.i .i64 (.ofNat 3000)))) (.ite v0 (.call 193 [oq2,(.one (.n 11 1))] [] [s2'] [] (.ret [oez,g0] [])) (.opc (.lits 7 1 (n7 5)) (.opc (.app 7 112 v15 v0) (.goto 0 3 [g18,g5,o0]))))))))))) (.call 194 [oq0] [(.all 8)] [s7',s2'] [4] (.opc (.neq (.n 1 0) q0) (.ite v0 (.ret [oez,g2] []) (.call 195 [g3] [] [none] [] (.opc (.gtr v0 (.k (.i .i64 (.ofNat 3000)))) (.ite v0 (.call 193 [oq2,(.one (.n 10 1))] [] [s2'] [] (.ret [oez,g0] [])) (.opc (.lits 7 1 (n7 5)) (.opc (.app 7 112 v14 v0) (.goto 0 3 [g17,g5,o0]))))))))))) (.call 194 [oq0] [(.all 7)] [s7',s2'] [4] (.opc (.neq (.n 1 0) q0) (.ite v0 (.ret [oez,g2] []) (.call 195 [g3] [] [none] [] (.opc (.gtr v0 (.k (.i .i64 (.ofNat 3000)))) (.ite v0 (.call 193 [oq2,(.one (.n 9 1))] [] [s2'] [] (.ret [oez,g0] [])) (.opc (.lits 7 1 (n7 5)) (.opc (.app 7 112 v13 v0) (.goto 0 3 [g16,g5,o0])))))))))))))) (.ret [o2,(.agg (.lit 2 [q0,q0]))] [])))))]⟩
theorem r153 (nat:_):(T nat).krow 153=some k153:=by kernel_rfl
def k159:KFun:=⟨[s11',s11'],[],(.call 107 [] [] [s11'] [] (.opc (.lits 11 3 (n11 2++n11 1++n11 0)) (.call 73 [(.one (.k (.s 2 26217))),o0] [] [s11'] [] (.ret [g0] [])))),[]⟩
theorem r159 (nat:_):(T nat).krow 159=some k159:=by kernel_rfl
def k166:KFun:=⟨[none,s2'],[],(.goto 0 3 [o1,oq0,g0]),[(3,(.opc (.len false v2) (.opc (.lss v2 v0) (.ite v0 (.row 32 v4 v3 (.call 167 [g0] [] [none] [] (.goto 1 5 [o6,o5,o0,oq0,g4]))) (.ret [oq0,oq0,oF] []))))),
 (5,(.opc (.len false v2) (.opc (.lss v2 v0) (.ite v0 (.row 37 v4 v3 (.opc (.eqs [1,1] false (.lit 2 (n2 0)) (.all 3)) (.ite v0 (.ret [o7,o5,oT] []) (.opc (.add v5 q1) (.goto 1 5 [o9,o8,o7,o0,g5]))))) (.opc (.add v5 q1) (.goto 0 3 [o7,o0,g3]))))))]⟩
theorem r166 (nat:_):(T nat).krow 166=some k166:=by kernel_rfl
def k167:KFun:=⟨[(some 32)],[],(.opc (.eql (.n 0 0) q3) (.ite v0 (.ret [(.one (.n 1 20))] []) (.opc (.eql (.n 1 0) q5) (.ite v0 (.ret [(.one (.n 2 20))] []) (.opc (.eql (.n 2 0) q6) (.ite v0 (.ret [(.one (.n 3 20))] []) (.opc (.eql (.n 3 0) q7) (.ite v0 (.ret [(.one (.n 4 20))] []) (.ret [oez] []))))))))),[]⟩
theorem r167 (nat:_):(T nat).krow 167=some k167:=by kernel_rfl
def k170:KFun:=⟨[s11'],[],(.call 200 [g0,(.one (.k (.i .i64 (.ofNat 3001))))] [] [none] [] (.opc (.mx q0 v0) (.opc (.sub (.k (.i .i64 (.ofNat 3001))) v0) (.ret [o0] [])))),[]⟩
theorem r170 (nat:_):(T nat).krow 170=some k170:=by kernel_rfl
def k195:KFun:=⟨[s7'],[],(.call 229 [g0,(.one (.k (.i .i64 (.ofNat 3001))))] [] [none] [] (.ret [o0] [])),[]⟩
theorem r195 (nat:_):(T nat).krow 195=some k195:=by kernel_rfl
def k209:KFun:=⟨[none],[],(.call 238 [o0,(.one q10)] [] [none] [] (.ret [o0] [])),[]⟩
theorem r209 (nat:_):(T nat).krow 209=some k209:=by kernel_rfl
def k216:KFun:=⟨[s2'],[],(.call 218 [g0] [] [none] [] (.ite v0 (.call 94 [(.one (.k (.s 3 7104878)))] [] [s2'] [] (.opc (.eqs [1,1] true (.all 2) (.all 0)) (.ite v0 (.call 94 [(.one (.k (.s 1 116)))] [] [s2'] [] (.opc (.eqs [1,1] true (.all 4) (.all 0)) (.ret [o0] []))) rF))) rF)),[]⟩
theorem r216 (nat:_):(T nat).krow 216=some k216:=by kernel_rfl
def k217:KFun:=⟨[s7'],[],(.call 195 [g0] [] [none] [] (.opc (.leq v0 (.k (.i .i64 (.ofNat 3000)))) (.ite v0 (.call 239 [g2] [] [none] [] (.ret [o0] [])) rF))),[]⟩
theorem r217 (nat:_):(T nat).krow 217=some k217:=by kernel_rfl
def k218:KFun:=⟨[s2'],[],(.call 240 [g0] [] [none] [] (.ret [o0] [])),[]⟩
theorem r218 (nat:_):(T nat).krow 218=some k218:=by kernel_rfl
def k229:KFun:=⟨[s7',none],[],(.opc (.len false (.n 1 6)) (.opc (.neq v0 q2) (.ite v0 (.ret [oq1] []) (.opc (.leq v2 q1) (.ite v0 (.ret [oq1] []) (.row 7 (.n 4 6) q0 (.opc (.sub v4 q1) (.call 229 [g1,o0] [] [none] [] (.opc (.add q1 v0) (.opc (.geq v0 v7) (.ite v0 (.ret [o8] []) (.row 7 (.n 9 6) q1 (.opc (.sub v9 v2) (.call 229 [g1,o0] [] [none] [] (.opc (.add v4 v0) (.ret [o0] [])))))))))))))))),[]⟩
theorem r229 (nat:_):(T nat).krow 229=some k229:=by kernel_rfl
def k232:KFun:=⟨[],[3],(.opc (.sub (.n 0 2) q1) (.opc (.geq v0 q0) (.ret [o0] [(.lit 3 [(.n 2 0),(.n 2 1),v1])]))),[]⟩
theorem r232 (nat:_):(T nat).krow 232=some k232:=by kernel_rfl
def k234:KFun:=⟨[s2'],[],(.opc (.neq (.n 0 0) (.k (.s 4 1886611820))) (.ite v0 rF (.opc (.eql (.n 1 1) (.k (.s 4 1953720684))) (.ite v0 rT (.opc (.eql (.n 2 1) (.k (.s 5 182342347116))) (.ite v0 rT (.opc (.eql (.n 3 1) (.k (.s 3 6581857))) (.ite v0 rT (.opc (.eql (.n 4 1) (.k (.s 2 29295))) (.ite v0 rT (.opc (.eql (.n 5 1) (.k (.s 4 1684959075))) (.ite v0 rT (.opc (.eql (.n 6 1) (.k (.s 1 43))) (.ite v0 rT (.opc (.eql (.n 7 1) (.k (.s 1 42))) (.ite v0 rT (.opc (.eql (.n 8 1) (.k (.s 1 45))) (.ite v0 rT (.opc (.eql (.n 9 1) (.k (.s 1 47))) (.ite v0 rT (.opc (.eql (.n 10 1) (.k (.s 2 15676))) (.ite v0 rT (.opc (.eql (.n 11 1) (.k (.s 1 62))) (.ite v0 rT (.opc (.eql (.n 12 1) (.k (.s 2 15678))) (.ite v0 rT (.opc (.eql (.n 13 1) (.k (.s 6 110425311047777))) (.ite v0 rT rF)))))))))))))))))))))))))))),[]⟩
theorem r234 (nat:_):(T nat).krow 234=some k234:=by kernel_rfl
def k251:KFun:=⟨[(some 5),none],[],(.opc (.len true (.n 1 3)) (.opc (.gtr v0 (.k (.i .i64 (.ofNat 40)))) (.ite v0 (.call 193 [oq2,(.one (.n 3 1))] [] [s2'] [] (.ret [g0] [])) (.ite v2 (.opc (.eql (.n 3 3) es) (.ite v0 (.call 193 [(.one q3),(.one (.n 4 1))] [] [s2'] [] (.ret [g0] [])) (.opc (.neq (.n 4 2) es) (.ite v0 (.call 284 [(.one (.n 5 2))] [] [none] [] (.opc (.not v0) (.ite v0 (.call 193 [(.one q3),(.one (.n 7 1))] [] [s2'] [] (.ret [g0] [])) (.ret [(.agg (.lit 2 [q0,q0]))] [])))) (.ret [(.agg (.lit 2 [q0,q0]))] []))))) (.opc (.neq (.n 3 2) es) (.ite v0 (.call 284 [(.one (.n 4 2))] [] [none] [] (.opc (.not v0) (.ite v0 (.call 193 [(.one q3),(.one (.n 6 1))] [] [s2'] [] (.ret [g0] [])) (.ret [(.agg (.lit 2 [q0,q0]))] [])))) (.ret [(.agg (.lit 2 [q0,q0]))] []))))))),[]⟩
theorem r251 (nat:_):(T nat).krow 251=some k251:=by kernel_rfl
def k252:KFun:=⟨[none],[],(.opc (.geq v0 (.k (.i .u8 (.ofNat 33)))) (.ite v0 (.opc (.leq v1 (.k (.i .u8 (.ofNat 126)))) (.ite v0 (.opc (.neq v2 (.k (.i .u8 (.ofNat 40)))) (.ite v0 (.opc (.neq v3 (.k (.i .u8 (.ofNat 41)))) (.ite v0 (.opc (.neq v4 (.k (.i .u8 (.ofNat 39)))) (.ite v0 (.opc (.neq v5 (.k (.i .u8 (.ofNat 34)))) (.ite v0 (.opc (.neq v6 (.k (.i .u8 (.ofNat 59)))) (.ite v0 (.opc (.neq v7 (.k (.i .u8 (.ofNat 124)))) (.ite v0 (.opc (.neq v8 (.k (.i .u8 (.ofNat 58)))) (.ret [o0] [])) rF)) rF)) rF)) rF)) rF)) rF)) rF)) rF)),[]⟩
theorem r252 (nat:_):(T nat).krow 252=some k252:=by kernel_rfl
def k253:KFun:=⟨[none,none],[],(.goto 0 2 [o1,o0]),[(2,(.opc (.len true v1) (.opc (.lss v1 v0) (.ite v0 (.opc (.sidx v3 v2) (.call 252 [o0] [] [none] [] (.ite v0 (.opc (.add v4 q1) (.goto 0 2 [o6,o0])) (.ret [o4] [])))) (.ret [o2] [])))))]⟩
theorem r253 (nat:_):(T nat).krow 253=some k253:=by kernel_rfl
def k255:KFun:=⟨[none],[],(.opc (.len true v0) (.opc (.gtr v0 q0) (.ite v0 (.opc (.sidx v2 q0) (.opc (.eql v0 (.k (.i .u8 (.ofNat 45)))) (.ite v0 (.goto 0 3 [o4,oq1,oq1]) (.goto 0 3 [o4,oq0,oq0])))) (.goto 0 3 [o2,oq0,oq0])))),[(3,(.opc (.len true v2) (.opc (.lss v1 v0) (.ite v0 (.opc (.sidx v4 v2) (.opc (.geq v0 (.k (.i .u8 (.ofNat 48)))) (.ite v0 (.opc (.sidx v6 v4) (.opc (.leq v0 (.k (.i .u8 (.ofNat 57)))) (.ite v0 (.opc (.add v6 q1) (.goto 0 3 [o9,o8,o0])) (.opc (.eql v6 v7) (.ite v0 (.ret [oes,oes,oF] []) (.opc (.len true v9) (.opc (.eql v8 v0) (.ite v0 (.ret [o11,(.one (.k (.s 1 49))),oT] []) (.opc (.sidx v11 v9) (.opc (.neq v0 (.k (.i .u8 (.ofNat 47)))) (.ite v0 (.ret [oes,oes,oF] []) (.opc (.add v11 q1) (.opc (.len true v14) (.opc (.eql v1 v0) (.ite v0 (.ret [oes,oes,oF] []) (.opc (.add v14 q1) (.goto 1 3 [o17,o15,o0]))))))))))))))))) (.opc (.eql v4 v5) (.ite v0 (.ret [oes,oes,oF] []) (.opc (.len true v7) (.opc (.eql v6 v0) (.ite v0 (.ret [o9,(.one (.k (.s 1 49))),oT] []) (.opc (.sidx v9 v7) (.opc (.neq v0 (.k (.i .u8 (.ofNat 47)))) (.ite v0 (.ret [oes,oes,oF] []) (.opc (.add v9 q1) (.opc (.len true v12) (.opc (.eql v1 v0) (.ite v0 (.ret [oes,oes,oF] []) (.opc (.add v12 q1) (.goto 1 3 [o15,o13,o0]))))))))))))))))) (.opc (.eql v2 v3) (.ite v0 (.ret [oes,oes,oF] []) (.opc (.len true v5) (.opc (.eql v4 v0) (.ite v0 (.ret [o7,(.one (.k (.s 1 49))),oT] []) (.opc (.sidx v7 v5) (.opc (.neq v0 (.k (.i .u8 (.ofNat 47)))) (.ite v0 (.ret [oes,oes,oF] []) (.opc (.add v7 q1) (.opc (.len true v10) (.opc (.eql v1 v0) (.ite v0 (.ret [oes,oes,oF] []) (.opc (.add v10 q1) (.goto 1 3 [o13,o11,o0])))))))))))))))))),
 (3,(.opc (.len true v2) (.opc (.lss v1 v0) (.ite v0 (.opc (.sidx v4 v2) (.opc (.lss v0 (.k (.i .u8 (.ofNat 48)))) (.ite v0 (.ret [oes,oes,oF] []) (.opc (.sidx v6 v4) (.opc (.gtr v0 (.k (.i .u8 (.ofNat 57)))) (.ite v0 (.ret [oes,oes,oF] []) (.opc (.add v6 q1) (.goto 1 3 [o9,o8,o0])))))))) (.opc (.sstr v4 none (some v3)) (.opc (.add v4 q1) (.opc (.sstr v6 (some v0) none) (.ret [o2,o0,oT] []))))))))]⟩
theorem r255 (nat:_):(T nat).krow 255=some k255:=by kernel_rfl
def k258:KFun:=⟨[none,none],[],(.goto 0 5 [o1,o0,oq0,oes,oez]),[(5,(.opc (.len false v4) (.opc (.lss v3 v0) (.ite v0 (.row 2 v6 v4 (.opc (.eql (.n 0 0) v6) (.ite v0 (.row 2 v8 v6 (.ret [g0,oT] [])) (.opc (.add v6 q1) (.goto 0 5 [o9,o8,o0,o6,o5]))))) (.ret [(.agg (.lit 2 [es,ez])),oF] [])))))]⟩
theorem r258 (nat:_):(T nat).krow 258=some k258:=by kernel_rfl
def k268:KFun:=⟨[none],[],(.opc (.len true v0) (.opc (.lss v0 q1) (.ite v0 rF (.opc (.len true v2) (.opc (.gtr v0 (.k (.i .i64 (.ofNat 40)))) (.ite v0 rF (.opc (.sidx v4 q0) (.opc (.lss v0 (.k (.i .u8 (.ofNat 97)))) (.ite v0 rF (.opc (.sidx v6 q0) (.opc (.gtr v0 (.k (.i .u8 (.ofNat 122)))) (.ite v0 rF (.goto 0 2 [o8,oq0]))))))))))))),[(2,(.opc (.len true v1) (.opc (.lss v1 v0) (.ite v0 (.opc (.sidx v3 v2) (.opc (.lss v0 (.k (.i .u8 (.ofNat 97)))) (.ite v0 (.opc (.lss v1 (.k (.i .u8 (.ofNat 48)))) (.ite v0 (.opc (.neq v2 (.k (.i .u8 (.ofNat 45)))) (.ite v0 rF (.opc (.add v6 q1) (.goto 0 2 [o8,o0])))) (.opc (.gtr v2 (.k (.i .u8 (.ofNat 57)))) (.ite v0 (.opc (.neq v3 (.k (.i .u8 (.ofNat 45)))) (.ite v0 rF (.opc (.add v7 q1) (.goto 0 2 [o9,o0])))) (.opc (.add v6 q1) (.goto 0 2 [o8,o0])))))) (.opc (.gtr v1 (.k (.i .u8 (.ofNat 122)))) (.ite v0 (.opc (.lss v2 (.k (.i .u8 (.ofNat 48)))) (.ite v0 (.opc (.neq v3 (.k (.i .u8 (.ofNat 45)))) (.ite v0 rF (.opc (.add v7 q1) (.goto 0 2 [o9,o0])))) (.opc (.gtr v3 (.k (.i .u8 (.ofNat 57)))) (.ite v0 (.opc (.neq v4 (.k (.i .u8 (.ofNat 45)))) (.ite v0 rF (.opc (.add v8 q1) (.goto 0 2 [o10,o0])))) (.opc (.add v7 q1) (.goto 0 2 [o9,o0])))))) (.opc (.add v5 q1) (.goto 0 2 [o7,o0]))))))) rT))))]⟩
theorem r268 (nat:_):(T nat).krow 268=some k268:=by kernel_rfl
def k285:KFun:=⟨[none],[],(.call 94 [o0] [] [s2'] [] (.call 49 [g0] [] [s7'] [] (.ret [g0] []))),[]⟩
theorem r285 (nat:_):(T nat).krow 285=some k285:=by kernel_rfl
def k397:KFun:=⟨[none],[],(.call 402 [o0] [] [none] [] (.opc (.geq v0 q0) (.ret [o0] []))),[]⟩
theorem r397 (nat:_):(T nat).krow 397=some k397:=by kernel_rfl
def k401:KFun:=⟨[none],[11],(.opc (.len false v1) (.goto 0 4 [o2,o0,oq0,g1])),[(4,(.opc (.lss v1 v2) (.ite v0 (.row 11 v4 v2 (.call 174 [g0] [(.all 2)] [none] [11] (.ite v1 (.ret [o5] [(.all 0)]) (.opc (.add v5 q1) (.goto 0 4 [o8,o7,o0,g1]))))) (.ret [(.one (.k (.i .i64 (.negSucc 0))))] [(.all 1)]))))]⟩
theorem r401 (nat:_):(T nat).krow 401=some k401:=by kernel_rfl
end Go.Ey.Pr
