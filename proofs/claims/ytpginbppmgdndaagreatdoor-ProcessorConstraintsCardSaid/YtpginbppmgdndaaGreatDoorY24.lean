/- A part of the proof. -/
import Derived.Test.YtpginbppmgdndaaGreatDoorY23
set_option linter.all false
namespace Go.Ey.Pr
open Go.Ey Go.Ey.Kq
def k7:KFun:=⟨[none],[],(.call 32 [] [] [none] [] (.call 33 [] [] [none] [] (.goto 0 4 [o2,o0,oq0,o1]))),[(4,(.opc (.len false v2) (.opc (.lss v2 v0) (.ite v0 (.row 1 v4 v3 (.row 37 (.n 0 0) q0 (.row 1 v6 v5 (.opc (.lits 32 1 [q3,(.n 1 0),(.n 1 1),es,ez,es,es,ez,bF,q0,es,es,q0,es,es,es,es,es,ez,ez,(.n 0 0),ez,ez,ez,es,es,ez,ez,ez,ez,es,(.k (.i .u64 (.ofNat 0)))]) (.opc (.app 32 568 v6 v0) (.opc (.add v8 q1) (.goto 0 4 [o11,o10,o0,o1]))))))) (.call 34 [] [] [none] [] (.goto 1 4 [o6,o0,oq0,o3])))))),
 (4,(.opc (.len false v2) (.opc (.lss v2 v0) (.ite v0 (.opc (.shz v5 v3) (.opc (.anz v0 (.k (.i .u32 (.ofNat 1)))) (.opc (.eql v0 (.k (.i .u32 (.ofNat 0)))) (.ite v0 (.opc (.add v6 q1) (.goto 1 4 [o9,o8,o0,o6])) (.row 13 v7 v6 (.call 19 [(.one (.n 0 0))] [] [s2'] [] (.row 13 v9 v8 (.opc (.lits 11 1 [(.n 0 1),(.n 0 2),(.n 0 3),(.n 0 4),(.n 0 5),(.n 0 6),(.n 0 7),(.n 0 8),(.n 0 9),(.n 0 10),(.n 0 11)]) (.row 13 v11 v10 (.row 13 v12 v11 (.call 35 [o11,g4,(.agg (.lit 11 [(.n 1 1),(.n 1 2),(.n 1 3),(.n 1 4),(.n 1 5),(.n 1 6),(.n 1 7),(.n 1 8),(.n 1 9),(.n 1 10),(.n 1 11)])),(.one (.n 0 12))] [] [(some 34),none] [] (.opc (.eql v0 q0) (.ite v0 (.opc (.lits 34 1 [(.n 2 0),(.n 2 1),(.n 2 2),(.n 2 3),(.n 2 4),(.n 2 5),(.n 2 6),(.n 2 7),(.n 2 8),(.n 2 9),(.n 2 10),(.n 2 11),(.n 2 12),(.n 2 13),(.n 2 14),(.n 2 15),(.n 2 16),(.n 2 17),(.n 2 18),(.n 2 19),(.n 2 20),(.n 2 21),(.n 2 22),(.n 2 23),(.n 2 24),(.n 2 25),(.n 2 26),(.n 2 27),(.n 2 28),(.n 2 29),(.n 2 30),(.n 2 31),(.n 2 32),(.n 2 33)]) (.opc (.lits 32 1 [q4,(.n 8 0),(.n 8 1),es,ez,es,es,ez,bF,q0,es,es,q0,es,es,es,es,es,ez,ez,ez,v6,ez,ez,es,es,ez,v0,ez,ez,es,(.k (.i .u64 (.ofNat 0)))]) (.opc (.app 32 568 v16 v0) (.opc (.add v18 q1) (.goto 1 4 [o21,o20,o0,o1]))))) (.opc (.lits 32 1 [q4,(.n 7 0),(.n 7 1),es,ez,es,es,ez,bF,q0,es,es,q0,es,es,es,es,es,ez,ez,ez,v5,ez,ez,es,es,ez,ez,ez,ez,es,(.k (.i .u64 (.ofNat 0)))]) (.opc (.app 32 568 v15 v0) (.opc (.add v17 q1) (.goto 1 4 [o20,o19,o0,o1]))))))))))))))))) (.ret [o2] [])))))]⟩
theorem r7 (nat:_):(T nat).krow 7=some k7:=by kernel_rfl
def k11:KFun:=⟨[s7',s7'],[],(.opc (.neq (.n 1 0) (.n 0 0)) (.ite v0 rF (.opc (.neq (.n 2 1) (.n 1 1)) (.ite v0 rF (.opc (.neq (.n 3 2) (.n 2 2)) (.ite v0 rF (.opc (.eqs [1,1] true (.lit 2 [(.n 4 3),(.n 4 4)]) (.lit 2 [(.n 3 3),(.n 3 4)])) (.ite v0 rF (.opc (.neq (.n 5 5) (.n 4 5)) (.ite v0 rF (.opc (.len false (.n 6 6)) (.opc (.len false (.n 6 6)) (.opc (.neq v1 v0) (.ite v0 rF (.goto 0 3 [oq0,g9,g8]))))))))))))))),[(3,(.opc (.len false (.n 1 6)) (.opc (.lss v3 v0) (.ite v0 (.row 7 (.n 3 6) v4 (.row 7 (.n 3 6) v5 (.call 11 [g1,g0] [] [none] [] (.opc (.not v0) (.ite v0 rF (.opc (.add v8 q1) (.goto 0 3 [o0,g8,g7]))))))) rT))))]⟩
theorem r11 (nat:_):(T nat).krow 11=some k11:=by kernel_rfl
def k15:KFun:=⟨[none,none],[],(.opc (.len false v1) (.opc (.len false v1) (.opc (.neq v1 v0) (.ite v0 rF (.goto 0 3 [o4,o3,oq0]))))),[(3,(.opc (.len false v2) (.opc (.lss v1 v0) (.ite v0 (.row 1 v4 v2 (.row 1 v4 v3 (.call 26 [(.one (.n 1 0)),(.one (.n 0 0))] [] [none] [] (.opc (.not v0) (.ite v0 rF (.opc (.add v6 q1) (.goto 0 3 [o9,o8,o0]))))))) rT))))]⟩
theorem r15 (nat:_):(T nat).krow 15=some k15:=by kernel_rfl
def k19:KFun:=⟨[none],[],(.ret [(.agg (.lit 2 [(.k (.s 4 1919251317)),v0]))] []),[]⟩
theorem r19 (nat:_):(T nat).krow 19=some k19:=by kernel_rfl
def k28:KFun:=⟨[none],[],(.call 7 [(.one (.k (.i .u32 (.ofNat 0))))] [] [none] [] (.call 85 [] [] [none] [] (.goto 0 4 [o2,o0,oq0,o1]))),[(4,(.opc (.len false v2) (.opc (.lss v2 v0) (.ite v0 (.row 37 v4 v3 (.row 37 v5 v4 (.opc (.lits 37 1 [(.n 0 0),(.n 0 1),(.n 0 2),(.n 0 3),(.n 0 4),(.n 0 5),(.n 0 6),(.n 0 7),(.n 0 8),(.n 0 9),(.n 0 10),(.n 0 11),(.n 0 12),(.n 0 13),(.n 0 14),(.n 0 15),(.n 0 16),(.n 0 17),(.n 0 18),(.n 0 19),(.n 0 20),(.n 0 21),(.n 0 22),(.n 0 23),(.n 0 24),(.n 0 25),(.n 0 26),(.n 0 27),(.n 0 28),(.n 0 29),(.n 0 30),(.n 0 31),(.n 0 32),(.n 0 33),(.n 0 34),(.n 0 35),(.n 0 36)]) (.opc (.lits 32 1 [q3,(.n 2 0),(.n 2 1),es,ez,es,es,ez,bF,q0,es,es,q0,es,es,es,es,es,ez,ez,v0,ez,ez,ez,es,es,ez,ez,ez,ez,es,(.k (.i .u64 (.ofNat 0)))]) (.opc (.app 32 568 v6 v0) (.opc (.add v8 q1) (.goto 0 4 [o11,o10,o0,o1]))))))) (.call 22 [] [] [s2'] [] (.call 23 [o3,g0,o6] [] [none,none] [] (.call 22 [] [] [s2'] [] (.call 20 [(.one (.k (.s 1 120)))] [] [s2'] [] (.call 20 [(.one (.k (.s 1 97)))] [] [s2'] [] (.opc (.lits 2 2 (n2 1++n2 0)) (.call 86 [] [] [s11'] [] (.call 19 [(.one (.k (.s 14 2341701742020069038243121946523237)))] [] [s2'] [] (.opc (.lits 37 1 [(.n 5 0),(.n 5 1),v2,q2,(.n 1 0),(.n 1 1),(.n 1 2),(.n 1 3),(.n 1 4),(.n 1 5),(.n 1 6),(.n 1 7),(.n 1 8),(.n 1 9),(.n 1 10),q0,es,es,q0,es,es,es,es,es,ez,ez,q0,es,es,q0,es,es,es,es,es,ez,ez]) (.opc (.lits 32 1 [q5,(.n 1 0),(.n 1 1),es,ez,es,es,ez,bF,q0,es,es,q0,es,es,es,es,es,ez,ez,v0,v8,ez,ez,es,es,ez,ez,ez,ez,es,(.k (.i .u64 (.ofNat 0)))]) (.opc (.app 32 568 v13 v0) (.call 20 [(.one (.k (.s 1 99)))] [] [s2'] [] (.call 87 [g0] [] [s11'] [] (.call 19 [(.one (.k (.s 1 120)))] [] [s2'] [] (.call 49 [g0] [] [s7'] [] (.call 83 [g0] [] [s11'] [] (.call 29 [(.one (.k (.s 1 120)))] [] [s11'] [] (.opc (.lits 11 1 (n11 0)) (.call 30 [(.one (.k (.s 3 7630702))),o0] [] [s11'] [] (.call 40 [g0] [] [s7'] [] (.call 83 [g0] [] [s11'] [] (.call 88 [] [] [s11'] [] (.call 40 [g0] [] [s7'] [] (.call 83 [g0] [] [s11'] [] (.call 88 [] [] [s11'] [] (.opc (.lits 11 2 (n11 12++n11 0)) (.call 30 [(.one (.k (.s 4 1936617315))),o0] [] [s11'] [] (.opc (.lits 11 2 (n11 3++n11 14)) (.call 30 [(.one (.k (.s 4 1936617315))),o0] [] [s11'] [] (.call 88 [] [] [s11'] [] (.opc (.lits 11 2 (n11 1++n11 0)) (.call 30 [(.one (.k (.s 4 1936617315))),o0] [] [s11'] [] (.opc (.lits 11 2 (n11 16++n11 19)) (.call 30 [(.one (.k (.s 4 1936617315))),o0] [] [s11'] [] (.opc (.lits 11 2 (n11 13++n11 21)) (.call 30 [(.one (.k (.s 4 1936617315))),o0] [] [s11'] [] (.call 88 [] [] [s11'] [] (.opc (.lits 11 2 (n11 1++n11 0)) (.call 30 [(.one (.k (.s 4 1936617315))),o0] [] [s11'] [] (.opc (.lits 11 2 (n11 5++n11 0)) (.call 30 [(.one (.k (.s 4 1936617315))),o0] [] [s11'] [] (.opc (.lits 11 3 (n11 14++n11 9++n11 0)) (.opc (.lits 1 3 [(.k (.s 4 1701667187)),(.k (.s 4 2003792487)),(.k (.s 5 495623299427))]) (.goto 1 4 [oq0,(.one v32),o1,o0])))))))))))))))))))))))))))))))))))))))))))))))),
 (4,(.opc (.len false v1) (.opc (.lss v4 v0) (.ite v0 (.row 1 v2 v5 (.row 1 v3 v6 (.call 19 [(.one (.n 0 0))] [] [s2'] [] (.call 20 [(.one (.k (.s 1 99)))] [] [s2'] [] (.opc (.lits 2 1 (n2 0)) (.call 86 [] [] [s11'] [] (.row 11 v9 v11 (.row 11 v10 v12 (.opc (.lits 37 1 [(.n 5 0),(.n 5 1),v3,q1,(.n 2 0),(.n 2 1),(.n 2 2),(.n 2 3),(.n 2 4),(.n 2 5),(.n 2 6),(.n 2 7),(.n 2 8),(.n 2 9),(.n 2 10),(.n 0 0),(.n 0 1),(.n 0 2),(.n 0 3),(.n 0 4),(.n 0 5),(.n 0 6),(.n 0 7),(.n 0 8),(.n 0 9),(.n 0 10),q0,es,es,q0,es,es,es,es,es,ez,ez]) (.opc (.lits 32 1 [q3,(.n 6 0),(.n 6 1),es,ez,es,es,ez,bF,q0,es,es,q0,es,es,es,es,es,ez,ez,v0,ez,ez,ez,es,es,ez,ez,ez,ez,es,(.k (.i .u64 (.ofNat 0)))]) (.opc (.app 32 568 v14 v0) (.opc (.add v16 q1) (.goto 1 4 [o0,o1,o15,o14]))))))))))))) (.goto 2 3 [oq0,o4,o2]))))),
 (3,(.opc (.len false v0) (.opc (.lss v3 v0) (.ite v0 (.call 22 [] [] [s2'] [] (.row 1 v3 v5 (.row 1 v4 v6 (.call 19 [(.one (.n 0 0))] [] [s2'] [] (.call 89 [g3,g0] [] [s11'] [] (.row 1 v7 v9 (.row 1 v8 v10 (.opc (.add (.n 0 0) (.k (.s 8 8386658473314575149))) (.call 19 [o0] [] [s2'] [] (.call 22 [] [] [s2'] [] (.row 1 v12 v14 (.row 1 v13 v15 (.call 19 [(.one (.n 0 0))] [] [s2'] [] (.opc (.lits 11 1 (n11 8)) (.opc (.lits 34 1 [(.n 5 0),(.n 5 1),q9,ez,(.n 4 0),(.n 4 1),q0,es,es,q0,es,es,es,es,es,ez,ez,q0,es,es,q0,es,es,es,es,es,ez,ez,ez,q0,ez,q0,(.n 1 0),(.n 1 1)]) (.opc (.lits 32 1 [q4,(.n 6 0),(.n 6 1),es,ez,es,es,ez,bF,q0,es,es,q0,es,es,es,es,es,ez,ez,ez,v1,ez,ez,es,es,ez,v0,ez,ez,es,(.k (.i .u64 (.ofNat 0)))]) (.opc (.app 32 568 v19 v0) (.opc (.add v21 q1) (.goto 2 3 [o0,o1,o20]))))))))))))))))))) (.ret [o3] [])))))]⟩
theorem r28 (nat:_):(T nat).krow 28=some k28:=by kernel_rfl
def k40:KFun:=⟨[s11'],[],(.opc (.eql (.n 0 0) q1) (.ite v0 (.call 49 [(.agg (.lit 2 [(.n 1 1),(.n 1 2)]))] [] [s7'] [] (.ret [g0] [])) (.opc (.eql (.n 1 0) q2) (.ite v0 (.call 94 [(.one (.k (.s 5 435745158513)))] [] [s2'] [] (.call 49 [g0] [] [s7'] [] (.opc (.lits 7 2 [(.n 0 0),(.n 0 1),(.n 0 2),(.n 0 3),(.n 0 4),(.n 0 5),(.n 0 6),(.n 4 3),(.n 4 4),(.n 4 5),(.n 4 6),(.n 4 7),(.n 4 8),(.n 4 9)]) (.call 14 [o0] [] [s7'] [] (.ret [g0] []))))) (.call 49 [(.agg (.lit 2 [(.n 2 1),(.n 2 2)]))] [] [s7'] [] (.opc (.lits 7 1 (n7 0)) (.goto 0 10 [oq0,g4,oq0,oes,oes,oes,oes,oes,oez,o0]))))))),[(10,(.opc (.len false (.n 8 10)) (.opc (.lss v10 v0) (.ite v0 (.row 11 (.n 10 10) v11 (.call 40 [g0] [] [s7'] [] (.opc (.lits 7 1 (n7 0)) (.opc (.app 7 112 v5 v0) (.opc (.add v15 q1) (.goto 0 10 [o0,g15,o14,o13,o12,o11,o10,o9,o8,o1])))))) (.call 14 [o2] [] [s7'] [] (.ret [g0] []))))))]⟩
theorem r40 (nat:_):(T nat).krow 40=some k40:=by kernel_rfl
def k41:KFun:=⟨[s7'],[],(.goto 0 2 [g0,oez]),[(2,(.call 123 [g1] [] [none] [] (.ite v0 (.row 7 (.n 2 6) q0 (.opc (.lits 7 1 (n7 0)) (.opc (.app 7 112 v3 v0) (.row 7 (.n 5 6) q1 (.goto 0 2 [g0,o1]))))) (.call 124 [g2] [] [none] [] (.opc (.not v0) (.ite v0 (.ret [oez,oF] []) (.ret [o3,oT] [])))))))]⟩
theorem r41 (nat:_):(T nat).krow 41=some k41:=by kernel_rfl
def k44:KFun:=⟨[],[],(.call 94 [(.one (.k (.s 3 7104878)))] [] [s2'] [] (.call 49 [g0] [] [s7'] [] (.ret [g0] []))),[]⟩
theorem r44 (nat:_):(T nat).krow 44=some k44:=by kernel_rfl
def k45:KFun:=⟨[s7',s7'],[],(.opc (.lits 7 2 (n7 1++n7 0)) (.ret [(.agg (.lit 7 [q4,es,es,es,es,es,v0]))] [])),[]⟩
theorem r45 (nat:_):(T nat).krow 45=some k45:=by kernel_rfl
def k47:KFun:=⟨[none],[],(.call 128 [o0] [] [none] [] (.call 48 [o0,(.one (.k (.s 1 49)))] [] [s7'] [] (.ret [g0] []))),[]⟩
theorem r47 (nat:_):(T nat).krow 47=some k47:=by kernel_rfl
def k72:KFun:=⟨[s2',none],[],(.ret [(.agg (.lit 11 [q3,(.n 1 0),(.n 1 1),q0,es,es,es,es,es,ez,v0]))] []),[]⟩
theorem r72 (nat:_):(T nat).krow 72=some k72:=by kernel_rfl
def k73:KFun:=⟨[none,none],[],(.call 94 [o1] [] [s2'] [] (.call 72 [g0,o1] [] [s11'] [] (.ret [g0] []))),[]⟩
theorem r73 (nat:_):(T nat).krow 73=some k73:=by kernel_rfl
def k81:KFun:=⟨[],[],(.call 44 [] [] [s7'] [] (.call 83 [g0] [] [s11'] [] (.ret [g0] []))),[]⟩
theorem r81 (nat:_):(T nat).krow 81=some k81:=by kernel_rfl
def k83:KFun:=⟨[s7'],[],(.ret [(.agg (.lit 11 [q2,es,es,(.n 0 0),(.n 0 1),(.n 0 2),(.n 0 3),(.n 0 4),(.n 0 5),(.n 0 6),ez]))] []),[]⟩
theorem r83 (nat:_):(T nat).krow 83=some k83:=by kernel_rfl
def k84:KFun:=⟨[s11',s11'],[],(.opc (.eql (.n 1 0) (.n 0 0)) (.ite v0 (.opc (.eqs [1,1] false (.lit 2 [(.n 2 1),(.n 2 2)]) (.lit 2 [(.n 1 1),(.n 1 2)])) (.ite v0 (.call 11 [(.agg (.lit 7 [(.n 3 3),(.n 3 4),(.n 3 5),(.n 3 6),(.n 3 7),(.n 3 8),(.n 3 9)])),(.agg (.lit 7 [(.n 2 3),(.n 2 4),(.n 2 5),(.n 2 6),(.n 2 7),(.n 2 8),(.n 2 9)]))] [] [none] [] (.ite v0 (.call 146 [(.one (.n 4 10)),(.one (.n 3 10))] [] [none] [] (.ret [o0] [])) rF)) rF)) rF)),[]⟩
theorem r84 (nat:_):(T nat).krow 84=some k84:=by kernel_rfl
def k99:KFun:=⟨[none],[],(.call 47 [o0] [] [s7'] [] (.call 83 [g0] [] [s11'] [] (.ret [g0] []))),[]⟩
theorem r99 (nat:_):(T nat).krow 99=some k99:=by kernel_rfl
def k102:KFun:=⟨[s2'],[],(.call 94 [(.one (.k (.s 1 120)))] [] [s2'] [] (.call 87 [g0] [] [s11'] [] (.call 94 [(.one (.k (.s 1 121)))] [] [s2'] [] (.call 87 [g0] [] [s11'] [] (.call 94 [(.one (.k (.s 1 122)))] [] [s2'] [] (.call 87 [g0] [] [s11'] [] (.opc (.lits 11 2 (n11 4++n11 2)) (.call 72 [g7,o0] [] [s11'] [] (.opc (.lits 11 2 (n11 4++n11 2)) (.call 72 [g9,o0] [] [s11'] [] (.opc (.lits 11 2 (n11 6++n11 8)) (.call 72 [g11,o0] [] [s11'] [] (.opc (.lits 11 2 (n11 4++n11 0)) (.call 73 [(.one (.k (.s 7 32481125787004265))),o0] [] [s11'] [] (.call 159 [g6,g4] [] [s11'] [] (.opc (.lits 11 2 (n11 13++n11 9)) (.call 72 [g16,o0] [] [s11'] [] (.opc (.lits 11 2 (n11 2++n11 0)) (.call 73 [(.one (.k (.s 7 32481125787004265))),o0] [] [s11'] [] (.opc (.lits 11 1 (n11 11)) (.call 73 [(.one (.k (.s 8 8101519867924934498))),o0] [] [s11'] [] (.opc (.lits 11 2 (n11 19++n11 19)) (.call 72 [g22,o0] [] [s11'] [] (.call 159 [g9,g4] [] [s11'] [] (.call 159 [g1,g0] [] [s11'] [] (.call 159 [g4,g0] [] [s11'] [] (.ret [g0] []))))))))))))))))))))))))))),[]⟩
theorem r102 (nat:_):(T nat).krow 102=some k102:=by kernel_rfl
def k114:KFun:=⟨[none,s2'],[],(.call 166 [o1,g0] [] [none,none,none] [] (.opc (.not v0) (.ite v0 (.ret [(.agg (.lit 37 [es,es,ez,q0,q0,es,es,q0,es,es,es,es,es,ez,ez,q0,es,es,q0,es,es,es,es,es,ez,ez,q0,es,es,q0,es,es,es,es,es,ez,ez])),oF] []) (.row 32 v5 v3 (.call 167 [g0] [] [none] [] (.row 37 v0 v4 (.ret [g0,oT] []))))))),[]⟩
theorem r114 (nat:_):(T nat).krow 114=some k114:=by kernel_rfl
def k123:KFun:=⟨[s7'],[],(.opc (.eql (.n 0 0) q4) (.ite v0 (.opc (.len false (.n 1 6)) (.opc (.eql v0 q2) (.ret [o0] []))) rF)),[]⟩
theorem r123 (nat:_):(T nat).krow 123=some k123:=by kernel_rfl
def k126:KFun:=⟨[s11'],[],(.call 170 [g0] [] [none] [] (.opc (.leq v0 (.k (.i .i64 (.ofNat 3000)))) (.ite v0 (.call 171 [g2] [] [none] [] (.opc (.leq v0 (.k (.i .i64 (.ofNat 200)))) (.ite v0 (.call 172 [g4] [] [none] [] (.ret [o0] [])) rF))) rF))),[]⟩
theorem r126 (nat:_):(T nat).krow 126=some k126:=by kernel_rfl
def k127:KFun:=⟨[none,s11'],[],(.call 396 [o1] [(.all 0)] [none] [11] (.ret [o1] [])),[]⟩
theorem r127 (nat:_):(T nat).krow 127=some k127:=by kernel_rfl
def k130:KFun:=⟨[s7'],[],(.opc (.eql (.n 0 0) q4) (.ite v0 (.opc (.len false (.n 1 6)) (.opc (.eql v0 q2) (.ret [o0] []))) rF)),[]⟩
theorem r130 (nat:_):(T nat).krow 130=some k130:=by kernel_rfl
def k144:KFun:=⟨[s2'],[],(.opc (.neq (.n 0 0) (.k (.s 4 1886611820))) (.ite v0 (.ret [oq0,oF] []) (.call 186 [] [] [none] [] (.goto 0 3 [o0,oq0,g2])))),[(3,(.opc (.len false v2) (.opc (.lss v2 v0) (.ite v0 (.row 2 v4 v3 (.opc (.eql (.n 0 0) (.n 3 1)) (.ite v0 (.row 2 v6 v5 (.ret [(.one (.n 0 1)),oT] [])) (.opc (.add v5 q1) (.goto 0 3 [o7,o0,g5]))))) (.ret [oq0,oF] [])))))]⟩
theorem r144 (nat:_):(T nat).krow 144=some k144:=by kernel_rfl
def k147:KFun:=⟨[none],[],(.call 81 [] [] [s11'] [] (.opc (.len false v1) (.opc (.sub v0 q1) (.goto 0 14 [o3,o0,oq0,oes,oes,oq0,oes,oes,oes,oes,oes,oez,oez,g2])))),[(14,(.opc (.geq v12 q0) (.ite v0 (.row 11 v14 v13 (.opc (.lits 11 2 (n11 0++n11 2)) (.call 73 [(.one (.k (.s 4 1936617315))),o0] [] [s11'] [] (.opc (.sub v16 q1) (.goto 0 14 [o18,o0,o16,o15,o14,o13,o12,o11,o10,o9,o8,o7,o6,g1]))))) (.ret [g1] []))))]⟩
theorem r147 (nat:_):(T nat).krow 147=some k147:=by kernel_rfl
def k157:KFun:=⟨[none,none],[],(.goto 0 10 [o1,o0,(.one q3),oq0,oes,oes,oes,oes,oes,oez]),[(10,(.opc (.add v7 q1) (.opc (.len false v10) (.opc (.lss v1 v0) (.ite v0 (.row 7 v12 v10 (.call 51 [g0] [] [none,none] [] (.ite v0 (.opc (.len false v1) (.opc (.eql v0 q2) (.ite v0 (.row 7 v3 q0 (.call 94 [o17] [] [s2'] [] (.opc (.eqs [1,1] false (.lit 2 [(.n 1 3),(.n 1 4)]) (.all 0)) (.ite v0 (.row 7 v6 q1 (.ret [g0,oT] [])) (.opc (.add v18 q1) (.goto 0 10 [o21,o20,o0,o18,o17,o16,o15,o14,o13,o12])))))) (.opc (.add v15 q1) (.goto 0 10 [o18,o17,o0,o15,o14,o13,o12,o11,o10,o9]))))) (.opc (.add v13 q1) (.goto 0 10 [o16,o15,o0,o13,o12,o11,o10,o9,o8,o7]))))) (.ret [(.agg (.lit 7 [q0,es,es,es,es,es,ez])),oF] []))))))]⟩
theorem r157 (nat:_):(T nat).krow 157=some k157:=by kernel_rfl
def k158:KFun:=⟨[],[],(.call 186 [] [] [none] [] (.goto 0 3 [o0,oq0,oez])),[(3,(.opc (.len false v2) (.opc (.lss v2 v0) (.ite v0 (.row 2 v4 v3 (.call 94 [(.one (.n 0 0))] [] [s2'] [] (.opc (.lits 2 1 (n2 0)) (.opc (.app 2 32 v5 v0) (.opc (.add v7 q1) (.goto 0 3 [o9,o0,o1])))))) (.ret [o2] [])))))]⟩
theorem r158 (nat:_):(T nat).krow 158=some k158:=by kernel_rfl
def k174:KFun:=⟨[s11'],[11],(.call 175 [g1,g0] [] [none] [] (.ret [o0] [(.all 1)])),[]⟩
theorem r174 (nat:_):(T nat).krow 174=some k174:=by kernel_rfl
def k176:KFun:=⟨[none],[],(.call 209 [o0] [] [none] [] (.ret [o0] [])),[]⟩
theorem r176 (nat:_):(T nat).krow 176=some k176:=by kernel_rfl
def k178:KFun:=⟨[none,none],[],(.call 177 [o1] [] [none,none] [] (.call 177 [o2] [] [none,none] [] (.goto 0 2 [o2,o0]))),[(2,(.opc (.len false v0) (.opc (.gtr v0 q0) (.ite v0 (.call 179 [o3,o2] [] [none,none] [] (.goto 0 2 [o4,o0])) (.call 180 [oF,o3] [] [none] [] (.ret [o0] []))))))]⟩
theorem r178 (nat:_):(T nat).krow 178=some k178:=by kernel_rfl
def k180:KFun:=⟨[none,none],[],(.call 211 [o0] [] [none] [] (.opc (.len false v0) (.opc (.eql v0 q0) (.ite v0 (.ret [(.one (.k (.s 1 48)))] []) (.ite v4 (.opc (.lits 1 1 [(.k (.i .u8 (.ofNat 45)))]) (.opc (.app 1 1 ez v0) (.opc (.len false v4) (.opc (.sub v0 q1) (.goto 0 3 [o6,o0,o2]))))) (.opc (.len false v2) (.opc (.sub v0 q1) (.goto 0 3 [o4,o0,oez])))))))),[(3,(.opc (.geq v1 q0) (.ite v0 (.row 1 v3 v2 (.opc (.add (.k (.i .i64 (.ofNat 48))) (.n 0 0)) (.opc (.conv .u8 v0) (.opc (.lits 1 1 [v0]) (.opc (.app 1 1 v5 v0) (.opc (.sub v7 q1) (.goto 0 3 [o9,o0,o1]))))))) (.opc (.toStr v1) (.ret [o0] [])))))]⟩
theorem r180 (nat:_):(T nat).krow 180=some k180:=by kernel_rfl
def k182:KFun:=⟨[s11'],[],(.call 215 [g0,(.one (.k (.i .i64 (.ofNat 201))))] [] [none] [] (.ret [o0] [])),[]⟩
theorem r182 (nat:_):(T nat).krow 182=some k182:=by kernel_rfl
def k183:KFun:=⟨[s11'],[],(.call 11 [(.agg (.lit 7 [(.n 0 3),(.n 0 4),(.n 0 5),(.n 0 6),(.n 0 7),(.n 0 8),(.n 0 9)])),(.agg (.lit 7 [q0,es,es,es,es,es,ez]))] [] [none] [] (.opc (.eql (.n 1 0) q1) (.ite v0 (.ite v1 (.call 216 [(.agg (.lit 2 [(.n 2 1),(.n 2 2)]))] [] [none] [] (.ite v0 (.opc (.len false (.n 3 10)) (.opc (.eql v0 q0) (.ret [o0] []))) rF)) rF) (.opc (.eql (.n 2 0) q2) (.ite v0 (.opc (.eqs [1,1] false (.lit 2 [(.n 3 1),(.n 3 2)]) (.lit 2 [es,es])) (.ite v0 (.call 217 [(.agg (.lit 7 [(.n 4 3),(.n 4 4),(.n 4 5),(.n 4 6),(.n 4 7),(.n 4 8),(.n 4 9)]))] [] [none] [] (.ite v0 (.opc (.len false (.n 5 10)) (.opc (.eql v0 q0) (.ret [o0] []))) rF)) rF)) (.opc (.eql (.n 3 0) q3) (.ite v0 (.opc (.not v3) (.ite v0 rF (.call 218 [(.agg (.lit 2 [(.n 5 1),(.n 5 2)]))] [] [none] [] (.opc (.not v0) (.ite v0 rF (.opc (.len false (.n 7 10)) (.opc (.gtr v0 q8) (.ite v0 rF (.goto 0 2 [oq0,g9]))))))))) rF))))))),[(2,(.opc (.len false (.n 0 10)) (.opc (.lss v2 v0) (.ite v0 (.row 11 (.n 2 10) v3 (.call 183 [g0] [] [none] [] (.opc (.not v0) (.ite v0 rF (.opc (.add v6 q1) (.goto 0 2 [o0,g6])))))) rT))))]⟩
theorem r183 (nat:_):(T nat).krow 183=some k183:=by kernel_rfl
def k194:KFun:=⟨[none],[4],(.row 5 (.n 0 2) (.n 0 3) (.opc (.eql (.n 0 0) q0) (.ite v0 (.call 193 [(.one q11),(.one (.n 1 1))] [] [s2'] [] (.ret [(.agg (.lit 7 [q0,es,es,es,es,es,ez])),g0] [(.all 3)])) (.opc (.eql (.n 1 0) q2) (.ite v0 (.call 193 [(.one (.k (.i .i64 (.ofNat 12)))),(.one (.n 2 1))] [] [s2'] [] (.ret [(.agg (.lit 7 [q0,es,es,es,es,es,ez])),g0] [(.all 4)])) (.opc (.eql (.n 2 0) q3) (.ite v0 (.call 193 [(.one (.k (.i .i64 (.ofNat 12)))),(.one (.n 3 1))] [] [s2'] [] (.ret [(.agg (.lit 7 [q0,es,es,es,es,es,ez])),g0] [(.all 5)])) (.opc (.eql (.n 3 0) q5) (.ite v0 (.opc (.add (.n 5 3) q1) (.ret [(.agg (.lit 7 [q1,(.n 5 3),(.n 5 4),es,es,es,ez])),(.agg (.lit 2 [q0,q0]))] [(.lit 4 [(.n 6 0),(.n 6 1),(.n 6 2),v0])])) (.opc (.eql (.n 4 0) q7) (.ite v0 (.opc (.add (.n 6 3) q1) (.call 50 [(.one (.n 6 3))] [] [s7'] [] (.ret [g0,(.agg (.lit 2 [q0,q0]))] [(.lit 4 [(.n 8 0),(.n 8 1),(.n 8 2),v1])]))) (.opc (.eql (.n 5 0) q6) (.ite v0 (.opc (.add (.n 7 3) q1) (.opc (.eql (.n 7 2) es) (.ite v0 (.call 227 [(.one (.n 9 0)),(.one (.n 9 1)),(.one (.n 8 3))] [] [s2',none] [] (.opc (.neq v0 q0) (.ite v0 (.call 193 [o1,(.one (.n 11 1))] [] [s2'] [] (.ret [(.agg (.lit 7 [q0,es,es,es,es,es,ez])),g0] [(.lit 4 [(.n 13 0),(.n 13 1),(.n 13 2),v5])])) (.call 49 [g2] [] [s7'] [] (.ret [g0,(.agg (.lit 2 [q0,q0]))] [(.lit 4 [(.n 13 0),(.n 13 1),(.n 13 2),v5])]))))) (.call 227 [(.one (.n 9 0)),(.one (.n 8 2)),(.one (.n 8 3))] [] [s2',none] [] (.opc (.neq v0 q0) (.ite v0 (.call 193 [o1,(.one (.n 11 1))] [] [s2'] [] (.ret [(.agg (.lit 7 [q0,es,es,es,es,es,ez])),g0] [(.lit 4 [(.n 13 0),(.n 13 1),(.n 13 2),v5])])) (.call 49 [g2] [] [s7'] [] (.ret [g0,(.agg (.lit 2 [q0,q0]))] [(.lit 4 [(.n 13 0),(.n 13 1),(.n 13 2),v5])])))))))) (.opc (.gtr v8 (.k (.i .i64 (.ofNat 200)))) (.ite v0 (.call 193 [oq2,(.one (.n 7 1))] [] [s2'] [] (.ret [(.agg (.lit 7 [q0,es,es,es,es,es,ez])),g0] [(.all 9)])) (.opc (.add (.n 8 3) q1) (.opc (.eql (.n 8 0) q4) (.ite v0 (.opc (.add v11 q1) (.call 194 [o0] [(.lit 4 [(.n 11 0),(.n 11 1),(.n 11 2),v2])] [s7',s2'] [4] (.opc (.neq (.n 1 0) q0) (.ite v0 (.ret [(.agg (.lit 7 [q0,es,es,es,es,es,ez])),g2] [(.all 1)]) (.call 94 [(.one (.k (.s 5 435745158513)))] [] [s2'] [] (.call 49 [g0] [] [s7'] [] (.opc (.lits 7 2 (n7 0++n7 5)) (.call 14 [o0] [] [s7'] [] (.ret [g0,g6] [(.all 5)]))))))))) (.opc (.add v11 q1) (.call 228 [o0] [(.lit 4 [(.n 11 0),(.n 11 1),(.n 11 2),v2])] [s7',s2'] [4] (.ret [g2,g1] [(.all 0)]))))))))))))))))))))),[]⟩
theorem r194 (nat:_):(T nat).krow 194=some k194:=by kernel_rfl
def k196:KFun:=⟨[s7',none],[3],(.opc (.eql (.n 2 0) q1) (.ite v0 (.call 83 [g3] [] [s11'] [] (.ret [g0,oq0] [(.all 2)])) (.opc (.eql (.n 3 0) q3) (.ite v0 (.call 83 [g4] [] [s11'] [] (.ret [g0,oq0] [(.all 3)])) (.opc (.eql (.n 4 0) q2) (.ite v0 (.call 216 [(.agg (.lit 2 [(.n 5 3),(.n 5 4)]))] [] [none] [] (.opc (.not v0) (.ite v0 (.call 83 [g7] [] [s11'] [] (.ret [g0,oq0] [(.all 6)])) (.call 198 [o6,(.agg (.lit 2 [(.n 7 3),(.n 7 4)]))] [] [s11',none] [] (.ite v0 (.ret [g1,oq0] [(.all 7)]) (.call 87 [(.agg (.lit 2 [(.n 9 3),(.n 9 4)]))] [] [s11'] [] (.ret [g0,oq0] [(.all 8)]))))))) (.call 51 [g5] [] [none,none] [] (.opc (.not v0) (.ite v0 (.ret [(.agg (.lit 11 [q0,es,es,q0,es,es,es,es,es,ez,ez])),oq1] [(.all 6)]) (.opc (.len false v2) (.opc (.eql v0 q0) (.ite v0 (.ret [(.agg (.lit 11 [q0,es,es,q0,es,es,es,es,es,ez,ez])),oq1] [(.all 8)]) (.row 7 v4 q0 (.opc (.neq (.n 0 0) q2) (.ite v0 (.ret [(.agg (.lit 11 [q0,es,es,q0,es,es,es,es,es,ez,ez])),oq1] [(.all 10)]) (.row 7 v6 q0 (.opc (.slc 7 v7 (some q1) none) (.call 94 [(.one (.k (.s 5 435745158513)))] [] [s2'] [] (.opc (.eqs [1,1] false (.lit 2 [(.n 2 3),(.n 2 4)]) (.all 0)) (.ite v0 (.opc (.len false v2) (.opc (.neq v0 q1) (.ite v0 (.ret [(.agg (.lit 11 [q0,es,es,q0,es,es,es,es,es,ez,ez])),oq1] [(.all 16)]) (.row 7 v4 q0 (.call 83 [g0] [] [s11'] [] (.ret [g0,oq0] [(.all 18)])))))) (.call 94 [(.one (.k (.s 3 7628140)))] [] [s2'] [] (.opc (.eqs [1,1] false (.lit 2 [(.n 4 3),(.n 4 4)]) (.all 0)) (.ite v0 (.call 230 [o4,o17] [(.all 16)] [s11',none] [3] (.ret [g2,o1] [(.all 0)])) (.call 94 [(.one (.k (.s 4 712271212)))] [] [s2'] [] (.opc (.eqs [1,1] false (.lit 2 [(.n 6 3),(.n 6 4)]) (.all 0)) (.ite v0 (.call 231 [o6] [] [s7',none] [] (.opc (.not v0) (.ite v0 (.ret [(.agg (.lit 11 [q0,es,es,q0,es,es,es,es,es,ez,ez])),oq1] [(.all 21)]) (.row 7 v9 q0 (.call 51 [g0] [] [none,none] [] (.opc (.len false v1) (.opc (.gtr v0 q0) (.ite v0 (.call 232 [] [(.all 26)] [none] [3] (.opc (.not v1) (.ite v0 (.ret [(.agg (.lit 11 [q0,es,es,q0,es,es,es,es,es,ez,ez])),oq2] [(.all 1)]) (.call 196 [g10,(.one v30)] [(.all 1)] [s11',none] [3] (.ret [g2,o1] [(.all 0)]))))) (.call 196 [g7,o27] [(.all 26)] [s11',none] [3] (.ret [g2,o1] [(.all 0)])))))))))) (.call 233 [(.one (.n 18 0)),(.agg (.lit 2 [(.n 7 3),(.n 7 4)]))] [] [(some 15),none] [] (.ite v0 (.call 232 [] [(.all 20)] [none] [3] (.opc (.not v1) (.ite v0 (.ret [(.agg (.lit 11 [q0,es,es,q0,es,es,es,es,es,ez,ez])),oq2] [(.all 1)]) (.call 235 [(.one (.n 1 0)),(.agg (.all 25))] [] [s7',none,none] [] (.opc (.neq v0 q0) (.ite v0 (.ret [(.agg (.lit 11 [q0,es,es,q0,es,es,es,es,es,ez,ez])),o1] [(.all 5)]) (.call 196 [g3,o28] [(.all 5)] [s11',none] [3] (.ret [g2,o1] [(.all 0)])))))))) (.call 234 [(.agg (.lit 2 [(.n 9 3),(.n 9 4)]))] [] [none] [] (.ite v0 (.call 232 [] [(.all 21)] [none] [3] (.opc (.not v1) (.ite v0 (.ret [(.agg (.lit 11 [q0,es,es,q0,es,es,es,es,es,ez,ez])),oq2] [(.all 1)]) (.call 235 [(.one (.n 1 0)),(.agg (.all 26))] [] [s7',none,none] [] (.opc (.neq v0 q0) (.ite v0 (.ret [(.agg (.lit 11 [q0,es,es,q0,es,es,es,es,es,ez,ez])),o1] [(.all 5)]) (.call 196 [g3,o29] [(.all 5)] [s11',none] [3] (.ret [g2,o1] [(.all 0)])))))))) (.goto 0 17 [o22,o9,oq0,g21,oq0,oes,oes,oq0,oes,oes,oes,oes,oes,oez,oez,(.agg (.lit 2 [(.n 10 3),(.n 10 4)])),oez]))))))))))))))))))))))))))))))),[(17,(.opc (.len false v15) (.opc (.lss v15 v0) (.ite v0 (.row 7 v17 v16 (.call 196 [g0,o19] [(.all 16)] [s11',none] [3] (.opc (.neq v1 q0) (.ite v0 (.ret [(.agg (.lit 11 [q0,es,es,q0,es,es,es,es,es,ez,ez])),o2] [(.all 1)]) (.opc (.lits 11 1 (n11 3)) (.opc (.app 11 176 v8 v0) (.opc (.add v23 q1) (.goto 0 17 [o26,o25,o0,g4,o22,o21,o20,o19,o18,o17,o16,o15,o14,o13,o12,g11,o1])))))))) (.call 236 [g3] [(.all 15)] [none,none] [3] (.opc (.not v1) (.ite v0 (.ret [(.agg (.lit 11 [q0,es,es,q0,es,es,es,es,es,ez,ez])),(.one q7)] [(.all 1)]) (.opc (.len false v6) (.opc (.neq v4 v0) (.ite v0 (.ret [(.agg (.lit 11 [q0,es,es,q0,es,es,es,es,es,ez,ez])),(.one q5)] [(.all 3)]) (.call 72 [g9,o8] [] [s11'] [] (.ret [g0,oq0] [(.all 4)]))))))))))))]⟩
theorem r196 (nat:_):(T nat).krow 196=some k196:=by kernel_rfl
def k198:KFun:=⟨[none,s2'],[],(.goto 0 14 [o1,oq0,g0,oq0,oes,oes,oq0,oes,oes,oes,oes,oes,oez,oez]),[(14,(.opc (.len false v13) (.opc (.lss v13 v0) (.ite v0 (.row 13 v15 v14 (.opc (.eqs [1,1] false (.lit 2 (n2 0)) (.all 14)) (.ite v0 (.row 13 v17 v16 (.ret [(.agg (.lit 11 [(.n 0 2),(.n 0 3),(.n 0 4),(.n 0 5),(.n 0 6),(.n 0 7),(.n 0 8),(.n 0 9),(.n 0 10),(.n 0 11),(.n 0 12)])),oT] [])) (.opc (.add v16 q1) (.goto 0 14 [o18,o0,g16,o15,o14,o13,o12,o11,o10,o9,o8,o7,o6,o5]))))) (.ret [(.agg (.lit 11 [q0,es,es,q0,es,es,es,es,es,ez,ez])),oF] [])))))]⟩
theorem r198 (nat:_):(T nat).krow 198=some k198:=by kernel_rfl
def k201:KFun:=⟨[s11',none],[],(.opc (.neq (.n 1 0) q3) (.ite v0 (.ret [oq1] []) (.opc (.leq v1 q1) (.ite v0 (.ret [oq1] []) (.opc (.len false (.n 3 10)) (.goto 0 5 [o3,oq1,(.one (.n 4 10)),o0,oq0])))))),[(5,(.opc (.lss v0 v1) (.ite v0 (.row 11 v3 v1 (.opc (.sub v6 q1) (.call 201 [g1,o0] [] [none] [] (.opc (.add q1 v0) (.opc (.mx v8 v0) (.opc (.geq v0 v10) (.ite v0 (.ret [o11] []) (.opc (.add v7 q1) (.goto 0 5 [o12,o2,o10,o9,o0]))))))))) (.ret [o4] []))))]⟩
theorem r201 (nat:_):(T nat).krow 201=some k201:=by kernel_rfl
def k202:KFun:=⟨[s2'],[],(.call 204 [g0] [] [none] [] (.ite v0 (.call 121 [] [] [s7'] [] (.opc (.eqs [1,1] true (.all 2) (.lit 2 [(.n 0 3),(.n 0 4)])) (.ite v0 (.call 145 [] [] [s7'] [] (.opc (.eqs [1,1] true (.all 4) (.lit 2 [(.n 0 3),(.n 0 4)])) (.ret [o0] []))) rF))) rF)),[]⟩
theorem r202 (nat:_):(T nat).krow 202=some k202:=by kernel_rfl
def k203:KFun:=⟨[s7',s7'],[],(.goto 0 2 [g1,g0]),[(2,(.opc (.neq (.n 1 0) (.n 0 0)) (.ite v0 rF (.opc (.neq (.n 2 1) (.n 1 1)) (.ite v0 rF (.opc (.neq (.n 3 2) (.n 2 2)) (.ite v0 rF (.opc (.eqs [1,1] true (.lit 2 [(.n 4 3),(.n 4 4)]) (.lit 2 [(.n 3 3),(.n 3 4)])) (.ite v0 rF (.opc (.neq (.n 5 5) (.n 4 5)) (.ite v0 rF (.opc (.len false (.n 6 6)) (.opc (.len false (.n 6 6)) (.opc (.neq v1 v0) (.ite v0 rF (.opc (.len false (.n 9 6)) (.opc (.eql v0 q0) (.ite v0 rT (.opc (.sub v1 q1) (.goto 1 5 [o2,o0,oq0,g12,g11])))))))))))))))))))),
 (5,(.opc (.lss v2 v3) (.ite v0 (.row 7 (.n 2 6) v3 (.row 7 (.n 2 6) v4 (.call 203 [g1,g0] [] [none] [] (.opc (.not v0) (.ite v0 rF (.opc (.add v7 q1) (.goto 1 5 [o10,o9,o0,g7,g6]))))))) (.opc (.sub v5 q1) (.row 7 (.n 3 6) v0 (.opc (.sub v7 q1) (.row 7 (.n 4 6) v0 (.goto 0 2 [g2,g0]))))))))]⟩
theorem r203 (nat:_):(T nat).krow 203=some k203:=by kernel_rfl
def k206:KFun:=⟨[s11'],[],(.call 172 [g0] [] [none] [] (.opc (.not v0) (.ret [o0] []))),[]⟩
theorem r206 (nat:_):(T nat).krow 206=some k206:=by kernel_rfl
def k214:KFun:=⟨[s11',none],[],(.opc (.eql (.n 1 0) q2) (.ite v0 (.call 195 [(.agg (.lit 7 [(.n 2 3),(.n 2 4),(.n 2 5),(.n 2 6),(.n 2 7),(.n 2 8),(.n 2 9)]))] [] [none] [] (.opc (.mn v2 v0) (.ret [o0] []))) (.call 161 [g2] [] [none] [] (.goto 0 4 [o2,oq1,o0,oq0])))),[(4,(.opc (.len false v1) (.opc (.lss v1 v0) (.ite v0 (.opc (.lss v4 v5) (.ite v0 (.row 11 v4 v3 (.opc (.sub v7 v6) (.call 214 [g1,o0] [] [none] [] (.opc (.add v8 v0) (.opc (.add v7 q1) (.goto 0 4 [o11,o1,o9,o0])))))) (.ret [o5] []))) (.ret [o4] [])))))]⟩
theorem r214 (nat:_):(T nat).krow 214=some k214:=by kernel_rfl
def k215:KFun:=⟨[s11',none],[],(.call 161 [g1] [] [none] [] (.goto 0 4 [o1,oq0,o0,oq0])),[(4,(.opc (.len false v1) (.opc (.lss v1 v0) (.ite v0 (.opc (.gtr v5 q1) (.ite v0 (.row 11 v4 v3 (.opc (.sub v7 q1) (.call 215 [g1,o0] [] [none] [] (.opc (.mx v8 v0) (.opc (.add v7 q1) (.goto 0 4 [o11,o1,o9,o0])))))) (.opc (.add v5 q1) (.ret [o0] [])))) (.opc (.add v4 q1) (.ret [o0] []))))))]⟩
theorem r215 (nat:_):(T nat).krow 215=some k215:=by kernel_rfl
def k235:KFun:=⟨[none,s7'],[],(.call 51 [g0] [] [none,none] [] (.opc (.not v0) (.ite v0 (.ret [g3,oF,oq0] []) (.opc (.len false v2) (.opc (.eql v0 q0) (.ite v0 (.ret [g5,oF,oq0] []) (.row 7 v4 q0 (.opc (.neq (.n 0 0) q2) (.ite v0 (.ret [g7,oF,oq0] []) (.row 7 v6 q0 (.opc (.slc 7 v7 (some q1) none) (.call 234 [(.agg (.lit 2 [(.n 1 3),(.n 1 4)]))] [] [none] [] (.ite v0 (.call 261 [(.one (.n 2 4)),o1] [] [s7',none] [] (.opc (.not v0) (.ite v0 (.ret [(.agg (.lit 7 [q0,es,es,es,es,es,ez])),oF,oq1] []) (.ret [g2,oT,oq0] [])))) (.call 233 [o11,(.agg (.lit 2 [(.n 2 3),(.n 2 4)]))] [] [(some 15),none] [] (.opc (.not v0) (.ite v0 (.ret [g13,oF,oq0] []) (.opc (.len false (.n 2 2)) (.ite (.n 3 3) (.opc (.sub v0 q1) (.opc (.len false v6) (.opc (.lss v0 v1) (.ite v0 (.ret [(.agg (.lit 7 [q0,es,es,es,es,es,ez])),oF,(.one q5)] []) (.opc (.not (.n 6 3)) (.ite v0 (.opc (.len false v9) (.opc (.gtr v0 v4) (.ite v0 (.ret [(.agg (.lit 7 [q0,es,es,es,es,es,ez])),oF,(.one q5)] []) (.opc (.add v5 q1) (.opc (.mk 7 112 [(.i .i64 (.ofNat 0)),(.s 0 0),(.s 0 0),(.s 0 0),(.s 0 0),(.s 0 0),(.sl 0 [] 0)] q0 v0) (.opc (.slc 7 v13 none (some v7)) (.opc (.app 7 112 v1 v0) (.opc (.slc 7 v15 (some v9) none) (.call 14 [o0] [] [s7'] [] (.opc (.lits 7 1 (n7 0)) (.opc (.app 7 112 v3 v0) (.call 263 [(.one (.n 17 2)),o0] [] [none] [] (.call 262 [(.one v30),(.agg (.lit 11 [(.n 18 4),(.n 18 5),(.n 18 6),(.n 18 7),(.n 18 8),(.n 18 9),(.n 18 10),(.n 18 11),(.n 18 12),(.n 18 13),(.n 18 14)])),o0,(.one (.k (.i .i64 (.ofNat 20000))))] [] [s7',none,none] [] (.opc (.neq v0 q0) (.ite v0 (.ret [(.agg (.lit 7 [q0,es,es,es,es,es,ez])),oF,o1] []) (.ret [g3,oT,oq0] [])))))))))))))))) (.opc (.add v3 q1) (.opc (.mk 7 112 [(.i .i64 (.ofNat 0)),(.s 0 0),(.s 0 0),(.s 0 0),(.s 0 0),(.s 0 0),(.sl 0 [] 0)] q0 v0) (.opc (.slc 7 v11 none (some v5)) (.opc (.app 7 112 v1 v0) (.opc (.slc 7 v13 (some v7) none) (.call 14 [o0] [] [s7'] [] (.opc (.lits 7 1 (n7 0)) (.opc (.app 7 112 v3 v0) (.call 263 [(.one (.n 15 2)),o0] [] [none] [] (.call 262 [o28,(.agg (.lit 11 [(.n 16 4),(.n 16 5),(.n 16 6),(.n 16 7),(.n 16 8),(.n 16 9),(.n 16 10),(.n 16 11),(.n 16 12),(.n 16 13),(.n 16 14)])),o0,(.one (.k (.i .i64 (.ofNat 20000))))] [] [s7',none,none] [] (.opc (.neq v0 q0) (.ite v0 (.ret [(.agg (.lit 7 [q0,es,es,es,es,es,ez])),oF,o1] []) (.ret [g3,oT,oq0] []))))))))))))))))))) (.opc (.len false v5) (.opc (.lss v0 v1) (.ite v0 (.ret [(.agg (.lit 7 [q0,es,es,es,es,es,ez])),oF,(.one q5)] []) (.opc (.not (.n 5 3)) (.ite v0 (.opc (.len false v8) (.opc (.gtr v0 v4) (.ite v0 (.ret [(.agg (.lit 7 [q0,es,es,es,es,es,ez])),oF,(.one q5)] []) (.opc (.add v5 q1) (.opc (.mk 7 112 [(.i .i64 (.ofNat 0)),(.s 0 0),(.s 0 0),(.s 0 0),(.s 0 0),(.s 0 0),(.sl 0 [] 0)] q0 v0) (.opc (.slc 7 v12 none (some v7)) (.opc (.app 7 112 v1 v0) (.call 263 [(.one (.n 12 2)),o0] [] [none] [] (.call 262 [o25,(.agg (.lit 11 [(.n 13 4),(.n 13 5),(.n 13 6),(.n 13 7),(.n 13 8),(.n 13 9),(.n 13 10),(.n 13 11),(.n 13 12),(.n 13 13),(.n 13 14)])),o0,(.one (.k (.i .i64 (.ofNat 20000))))] [] [s7',none,none] [] (.opc (.neq v0 q0) (.ite v0 (.ret [(.agg (.lit 7 [q0,es,es,es,es,es,ez])),oF,o1] []) (.ret [g3,oT,oq0] [])))))))))))) (.opc (.add v3 q1) (.opc (.mk 7 112 [(.i .i64 (.ofNat 0)),(.s 0 0),(.s 0 0),(.s 0 0),(.s 0 0),(.s 0 0),(.sl 0 [] 0)] q0 v0) (.opc (.slc 7 v10 none (some v5)) (.opc (.app 7 112 v1 v0) (.call 263 [(.one (.n 10 2)),o0] [] [none] [] (.call 262 [o23,(.agg (.lit 11 [(.n 11 4),(.n 11 5),(.n 11 6),(.n 11 7),(.n 11 8),(.n 11 9),(.n 11 10),(.n 11 11),(.n 11 12),(.n 11 13),(.n 11 14)])),o0,(.one (.k (.i .i64 (.ofNat 20000))))] [] [s7',none,none] [] (.opc (.neq v0 q0) (.ite v0 (.ret [(.agg (.lit 7 [q0,es,es,es,es,es,ez])),oF,o1] []) (.ret [g3,oT,oq0] [])))))))))))))))))))))))))))))))),[]⟩
theorem r235 (nat:_):(T nat).krow 235=some k235:=by kernel_rfl
def k239:KFun:=⟨[s7'],[],(.opc (.eqs [1,1] false (.lit 2 [(.n 0 3),(.n 0 4)]) (.lit 2 [es,es])) (.opc (.eql (.n 1 0) q1) (.ite v0 (.call 129 [(.one (.n 2 1)),(.one (.n 2 2))] [] [none,none] [] (.ite v3 (.opc (.eql (.n 4 5) es) (.ite v0 (.opc (.len false (.n 5 6)) (.opc (.eql v0 q0) (.ite v0 (.opc (.eql v4 (.n 7 1)) (.ite v0 (.opc (.eql v4 (.n 8 2)) (.ite v0 (.call 257 [o6] [] [none] [] (.opc (.leq v0 (.k (.i .i64 (.ofNat 100)))) (.ite v0 (.call 257 [o7] [] [none] [] (.opc (.leq v0 (.k (.i .i64 (.ofNat 100)))) (.ret [o0] []))) rF))) rF)) rF)) rF))) rF)) rF)) (.opc (.eql (.n 2 0) q2) (.ite v0 (.call 240 [(.agg (.lit 2 [(.n 3 3),(.n 3 4)]))] [] [none] [] (.ite v0 (.opc (.eql (.n 4 1) es) (.ite v0 (.opc (.eql (.n 5 2) es) (.ite v0 (.opc (.eql (.n 6 5) es) (.ite v0 (.opc (.len false (.n 7 6)) (.opc (.eql v0 q0) (.ret [o0] []))) rF)) rF)) rF)) rF)) (.opc (.eql (.n 3 0) q3) (.ite v0 (.ite v3 (.opc (.eql (.n 4 1) es) (.ite v0 (.opc (.eql (.n 5 2) es) (.ite v0 (.opc (.len true (.n 6 5)) (.opc (.leq v0 (.k (.i .i64 (.ofNat 200)))) (.ite v0 (.opc (.len false (.n 8 6)) (.opc (.eql v0 q0) (.ret [o0] []))) rF))) rF)) rF)) rF) (.opc (.eql (.n 4 0) q4) (.ite v0 (.ite v4 (.opc (.eql (.n 5 1) es) (.ite v0 (.opc (.eql (.n 6 2) es) (.ite v0 (.opc (.eql (.n 7 5) es) (.ite v0 (.opc (.len false (.n 8 6)) (.opc (.eql v0 q2) (.ite v0 (.row 7 (.n 10 6) q0 (.call 239 [g0] [] [none] [] (.ite v0 (.row 7 (.n 12 6) q1 (.call 239 [g0] [] [none] [] (.ret [o0] []))) rF))) rF))) rF)) rF)) rF)) rF) rF))))))))),[]⟩
theorem r239 (nat:_):(T nat).krow 239=some k239:=by kernel_rfl
def k288:KFun:=⟨[none,none,none,none],[],(.opc (.len false v0) (.opc (.eql v0 q0) (.ite v0 (.call 47 [o3] [] [s7'] [] (.ret [g0] [])) (.opc (.eql v1 q1) (.ite v0 (.call 47 [o4] [] [s7'] [] (.row 7 v4 q0 (.opc (.lits 7 2 (n7 1++n7 0)) (.call 260 [o8,o0] [] [s7'] [] (.ret [g0] []))))) (.opc (.eql v2 q2) (.ite v0 (.row 7 v4 q0 (.row 7 v5 q1 (.opc (.lits 7 2 (n7 1++n7 0)) (.call 260 [o9,o0] [] [s7'] [] (.ret [g0] []))))) (.row 7 v4 q0 (.opc (.slc 7 v5 (some q1) none) (.call 286 [o9,o0] [] [s7'] [] (.opc (.lits 7 2 (n7 2++n7 0)) (.call 260 [o10,o0] [] [s7'] [] (.ret [g0] []))))))))))))),[]⟩
theorem r288 (nat:_):(T nat).krow 288=some k288:=by kernel_rfl
end Go.Ey.Pr

namespace Go.Ey
section
variable {G:GT} {sig:Nat→Option (List PS)}
theorem args1 {p:List PS} {ts:List TA} {ys:List KW} {us:List LA} (hp:p=[.one]) (hf:fits p ts=true) (hr:RLs ts ys us):∃y u,ys=[y]∧us=[.v u]∧RVv y u:=by
 subst hp
 cases ts with
 |nil=>cases hf
 |cons t ts=>
  cases t with
  |ref _ _=>cases hf
  |v x=>cases ts with
   |cons t ts=>cases t<;>cases hf
   |nil=>cases ys with
    |nil=>cases us with
     |nil=>exact hr.elim
     |cons u us=>cases u<;>exact hr.elim
    |cons y ys=>cases us with
     |nil=>exact hr.elim
     |cons u us=>cases u with
      |ref _ _=>exact hr.elim
      |v u=>cases ys with
       |cons _ _=>cases us<;>exact hr.2.elim
       |nil=>cases us with
        |cons _ _=>exact hr.2.elim
        |nil=>exact ⟨y,u,rfl,rfl,hr.1⟩
theorem args2 {p:List PS} {ts:List TA} {ys:List KW} {us:List LA} (hp:p=[.one,.one]) (hf:fits p ts=true) (hr:RLs ts ys us):∃y u y2 u2,ys=[y,y2]∧us=[.v u,.v u2]∧RVv y u∧RVv y2 u2:=by
 subst hp
 cases ts with
 |nil=>cases hf
 |cons t ts=>
  cases t with
  |ref _ _=>cases hf
  |v x=>cases ys with
   |nil=>cases us with
    |nil=>exact hr.elim
    |cons u us=>cases u<;>exact hr.elim
   |cons y ys=>cases us with
    |nil=>exact hr.elim
    |cons u us=>cases u with
     |ref _ _=>exact hr.elim
     |v u=>
      obtain ⟨y2,u2,rfl,rfl,h⟩:=args1 (ts:=ts) rfl hf hr.2
      exact ⟨y,u,y2,u2,rfl,rfl,hr.1,h⟩
theorem boxes0 {zs:List KW} {ρ:List KW} {k:List KW→Ans} {a:Ans} (hk:kboxs [] zs ρ k=a) (ha:a≠.fail):zs=[]∧k ρ=a:=by
 cases zs with
 |nil=>exact ⟨rfl,hk⟩
 |cons _ _=>exact absurd hk.symm ha
theorem test_ok {a:Ans} {x y:K} {g:K→Ans} {h:Bool→Ans} (hk:kEqN x y (fun q=>kBn q g)=a) (hg:∀q,g (.b q)=h q) (hf:h false=.fail) (ha:a≠.fail):(∃k n,x=.i k n∧y=.i k n∨∃l w,x=.s l w∧y=.s l w)∧h true=a:=by
 have fin:∀b:Bool,kBn b g=a→b=true∧h true=a:=by
  intro b hb
  cases b with
  |true=>exact ⟨rfl,by rw [←hg];exact hb⟩
  |false=>
   have h1:g (.b false)=a:=hb
   rw [hg,hf] at h1
   exact absurd h1.symm ha
 cases x with
 |i p n=>
  cases y with
  |i q m=>
   have h1:cond (Nat.beq (kk p) (kk q)) (kBn (keq n m) g) .fail=a:=hk
   obtain ⟨h2,h3⟩:=cond_ok h1 ha
   obtain ⟨h4,h5⟩:=fin _ h3
   rw [keq_eq] at h4
   have e1:n=m:=by simpa using h4
   have e2:p=q:=by
    have:=Nat.eq_of_beq_eq_true h2
    cases p<;>cases q<;>first|rfl|(exact absurd this (by decide))
   subst e1 e2
   exact ⟨⟨p,n,.inl ⟨rfl,rfl⟩⟩,h5⟩
  |_=>exact absurd (show Ans.fail=a from hk).symm ha
 |s l v=>
  cases y with
  |s m w=>
   have h1:kBn (and (Nat.beq l m) (Nat.beq v w)) g=a:=hk
   obtain ⟨h4,h5⟩:=fin _ h1
   simp only [Bool.and_eq_true] at h4
   have e1:=Nat.eq_of_beq_eq_true h4.1
   have e2:=Nat.eq_of_beq_eq_true h4.2
   subst e1 e2
   exact ⟨⟨.i64,0,.inr ⟨l,v,rfl,rfl⟩⟩,h5⟩
  |_=>exact absurd (show Ans.fail=a from hk).symm ha
 |b _=>exact absurd (show Ans.fail=a from hk).symm ha
 |sl _ _ _=>exact absurd (show Ans.fail=a from hk).symm ha
 |o _=>exact absurd (show Ans.fail=a from hk).symm ha
theorem known_str {f l w:Nat} {vs:List KV} {ws:List KW} (hsig:sig f=some [.one]) (hk:∀(ρ:List KW) (k:List KW→Ans),kVs ρ vs k=k ws)
  (h:∀c,RK (.s l w) c→∃us,All2 RVv ws us∧fnT G f [.v (.one c)] []=some (us,[])):
  KKnown G sig f ⟨[none],[],.opc (.eql (.v 0) (.k (.s l w))) (.ite (.v 0) (.ret vs []) .fail),[]⟩:=by
 refine ⟨rfl,fun p ts ys us zs css call head a hp hf hr hb hk2 ha=>?_⟩
 rw [hsig] at hp
 injection hp with hp
 obtain ⟨y,u,rfl,rfl,hv⟩:=args1 hp.symm hf hr
 obtain ⟨x,rfl,h1⟩:=onC_ok (show onC y (fun x=>kputs [] [] [.c x] fun ρ=>kboxs [] zs ρ fun ρ=>kden (.opc (.eql (.v 0) (.k (.s l w))) (.ite (.v 0) (.ret vs []) .fail)) call head ρ)=a from hk2) ha
 obtain ⟨rfl,h2⟩:=boxes0 (show kboxs [] zs [.c x] (fun ρ=>kden (.opc (.eql (.v 0) (.k (.s l w))) (.ite (.v 0) (.ret vs []) .fail)) call head ρ)=a from h1) ha
 have h3:kEqN x (.s l w) (fun q=>kBn q fun z=>kden (.ite (.v 0) (.ret vs []) .fail) call head [.c z,.c x])=a:=h2
 obtain ⟨h4,h5⟩:=test_ok (h:=fun q=>kden (.ite (.v 0) (.ret vs []) .fail) call head [.c (.b q),.c x]) h3 (fun _=>rfl) rfl ha
 have hx:x=.s l w:=by
  obtain ⟨_,_,⟨_,h6⟩|⟨_,_,h6,h7⟩⟩:=h4
  ·cases h6
  ·rw [h6,h7]
 subst hx
 cases u with
 |agg _=>exact hv.elim
 |one c=>
  cases css with
  |cons _ _=>exact hb.elim
  |nil=>
   obtain ⟨us,h8,h9⟩:=h c hv
   have h10:kVs [.c (.b true),.c (.s l w)] vs (fun vs=>kSs [.c (.b true),.c (.s l w)] [] fun xs=> .ret vs xs)=a:=h5
   rw [hk] at h10
   exact ⟨ws,[],_,h10.symm,h9,h8,trivial⟩
theorem kgAdd {g:KG} {f:Nat} {kf:KFun} (hg:KGOK G sig g) (hk:KKnown G sig f kf):KGOK G sig (.node f kf g g):=⟨.inr hk,hg,hg⟩
end
end Go.Ey

namespace Go.Ey.Pr
open Go.Ey Go.Ey.Seat
def kn (x:Nat):K:=.i .i64 (.ofNat x)
def ke:K:=.s 0 0
def kz:K:=.sl 0 [] 0
def kl:K:=.s 4 1886611820
def sy (a w:Nat):List K:=[kn 2,ke,ke,kl,.s a w,ke,kz]
def co (a b:List K):List K:=[kn 4,ke,ke,ke,ke,ke,.sl 7 [a,b] 2]
def va (p q:K):List K:=[kn 1,p,q,kn 0,ke,ke,ke,ke,ke,kz,kz]
def ap (p q:K) (r:List (List K)) (m:Nat):List K:=[kn 3,p,q,kn 0,ke,ke,ke,ke,ke,kz,.sl 11 r m]
def tO (p:Nat):List K:=[kn 1,kn p,ke,ke,ke]
def tC (p:Nat):List K:=[kn 2,kn p,ke,ke,ke]
def tS (p a w:Nat):List K:=[kn 6,kn p,ke,.s a w,ke]
structure NatI (nat:Nat→List V→Option (List V)):Prop where
 fmt0:nat 238 [.one (.lit (.int .i64 0)),.one (.lit (.int .i64 10))]=some [.one (.lit (.string ⟨#[48]⟩))]
 fmt1:nat 238 [.one (.lit (.int .i64 1)),.one (.lit (.int .i64 10))]=some [.one (.lit (.string ⟨#[49]⟩))]
section
variable {nat:Nat→List V→Option (List V)}
theorem psig238:(T nat).psig 238=some [.one,.one]:=by kernel_rfl
theorem fn238:(T nat).G.fn 238=none:=by kernel_rfl
theorem sig238:∃s,(T nat).sig 238=some s∧s.nat=true∧s.boxes=[]∧s.params=[.one,.one]:=⟨s238,by kernel_rfl,rfl,rfl,rfl⟩
theorem fmt_fn {c d:C} {r:List V} (h:nat 238 [.one c,.one d]=some r):fnT (T nat).G 238 [.v (.one c),.v (.one d)] []=some (r,[]):=by
 refine fnT_nat fn238 ?_
 obtain ⟨s,h1,h2,h3,h4⟩:=sig238 (nat:=nat)
 show (T nat).natG 238 [.v (.one c),.v (.one d)] []=some (r,[])
 have h5:(T nat).nat 238 [.one c,.one d]=some r:=h
 simp [Seat.natG,h1,h2,h3,h4,shapeB,laVs,h5]
theorem eqN_i {x:K} {p:IntKind} {n:Int} {g:Bool→Ans} {a:Ans} (hk:kEqN x (.i p n) g=a) (ha:a≠.fail):∃m,x=.i p m∧g (m==n)=a:=by
 cases x with
 |i q m=>
  have h1:cond (Nat.beq (kk q) (kk p)) (g (keq m n)) .fail=a:=hk
  obtain ⟨h2,h3⟩:=cond_ok h1 ha
  rw [keq_eq] at h3
  have e2:q=p:=by
   have:=Nat.eq_of_beq_eq_true h2
   cases q<;>cases p<;>first|rfl|(exact absurd this (by decide))
  subst e2
  exact ⟨m,rfl,h3⟩
 |_=>exact absurd (show Ans.fail=a from hk).symm ha
def k238:KFun:=⟨[none,none],[],(.opc (.eql (.v 1) (.k (.i .i64 (.ofNat 1)))) (.ite (.v 0) (.opc (.eql (.v 1) (.k (.i .i64 (.ofNat 10)))) (.ite (.v 0) (.ret [(.one (.k (.s 1 49)))] []) .fail)) (.opc (.eql (.v 2) (.k (.i .i64 (.ofNat 0)))) (.ite (.v 0) (.opc (.eql (.v 2) (.k (.i .i64 (.ofNat 10)))) (.ite (.v 0) (.ret [(.one (.k (.s 1 48)))] []) .fail)) .fail)))),[]⟩
theorem itoa_ok (hn:NatI nat):KKnown (T nat).G (T nat).psig 238 k238:=by
 refine ⟨rfl,fun p ts ys us zs css call head a hp hf hr hb hk2 ha=>?_⟩
 rw [psig238] at hp
 injection hp with hp
 obtain ⟨y,u,y2,u2,rfl,rfl,hv,hv2⟩:=args2 hp.symm hf hr
 obtain ⟨x,rfl,h1⟩:=onC_ok (show onC y (fun x=>kputs [none] [y2] [.c x] fun ρ=>kboxs [] zs ρ fun ρ=>kden k238.body call head ρ)=a from hk2) ha
 obtain ⟨x2,rfl,h1⟩:=onC_ok (show onC y2 (fun x2=>kputs [] [] [.c x2,.c x] fun ρ=>kboxs [] zs ρ fun ρ=>kden k238.body call head ρ)=a from h1) ha
 obtain ⟨rfl,h2⟩:=boxes0 (show kboxs [] zs [.c x2,.c x] (fun ρ=>kden k238.body call head ρ)=a from h1) ha
 have h3:kEqN x (.i .i64 1) (fun q=>kBn q fun z=>kden (.ite (.v 0) (.opc (.eql (.v 1) (.k (.i .i64 10))) (.ite (.v 0) (.ret [.one (.k (.s 1 49))] []) .fail)) (.opc (.eql (.v 2) (.k (.i .i64 0))) (.ite (.v 0) (.opc (.eql (.v 2) (.k (.i .i64 10))) (.ite (.v 0) (.ret [.one (.k (.s 1 48))] []) .fail)) .fail))) call head [.c z,.c x2,.c x])=a:=h2
 obtain ⟨m,rfl,h4⟩:=eqN_i h3 ha
 have hu:u=.one (.lit (.int .i64 m)):=by
  cases u with
  |agg _=>exact hv.elim
  |one c=>have h9:RK (.i .i64 m) c:=hv;rw [h9.int]
 have hu2:∀m2,x2=.i .i64 m2→u2=.one (.lit (.int .i64 m2)):=fun m2 e=>by
  subst e
  cases u2 with
  |agg _=>exact hv2.elim
  |one c=>have h9:RK (.i .i64 m2) c:=hv2;rw [h9.int]
 have hs:∀w:Nat,w < 256→RVv (.c (.s 1 w)) (.one (.lit (.string ⟨#[UInt8.ofNat w]⟩))):=fun w hw=>by
  refine RK.s 1 w _ ?_ (by simpa using hw)
  simp [strOf,Nat.mod_eq_of_lt hw]
 cases css with
 |cons _ _=>exact hb.elim
 |nil=>
  by_cases hm:m=1
  ·subst hm
   have h5:kEqN x2 (.i .i64 10) (fun q=>kBn q fun z=>kden (.ite (.v 0) (.ret [.one (.k (.s 1 49))] []) .fail) call head [.c z,.c (.b true),.c x2,.c (.i .i64 1)])=a:=h4
   obtain ⟨m2,rfl,h6⟩:=eqN_i h5 ha
   by_cases hm2:m2=10
   ·subst hm2
    have h7:Ans.ret [.c (.s 1 49)] []=a:=h6
    exact ⟨_,_,([.one (.lit (.string ⟨#[49]⟩))],[]),h7.symm,by rw [hu,hu2 _ rfl];exact fmt_fn hn.fmt1,⟨hs 49 (by decide),trivial⟩,trivial⟩
   ·rw [show (m2==10)=false by simpa using hm2] at h6
    exact absurd (show Ans.fail=a from h6).symm ha
  ·rw [show (m==1)=false by simpa using hm] at h4
   have h4':kEqN (.i .i64 m) (.i .i64 0) (fun q=>kBn q fun z=>kden (.ite (.v 0) (.opc (.eql (.v 2) (.k (.i .i64 10))) (.ite (.v 0) (.ret [.one (.k (.s 1 48))] []) .fail)) .fail) call head [.c z,.c (.b false),.c x2,.c (.i .i64 m)])=a:=h4
   obtain ⟨m',e,h8⟩:=eqN_i h4' ha
   injection e with _ e
   subst e
   by_cases hm0:m=0
   ·subst hm0
    have h5:kEqN x2 (.i .i64 10) (fun q=>kBn q fun z=>kden (.ite (.v 0) (.ret [.one (.k (.s 1 48))] []) .fail) call head [.c z,.c (.b true),.c (.b false),.c x2,.c (.i .i64 0)])=a:=h8
    obtain ⟨m2,rfl,h6⟩:=eqN_i h5 ha
    by_cases hm2:m2=10
    ·subst hm2
     have h7:Ans.ret [.c (.s 1 48)] []=a:=h6
     exact ⟨_,_,([.one (.lit (.string ⟨#[48]⟩))],[]),h7.symm,by rw [hu,hu2 _ rfl];exact fmt_fn hn.fmt0,⟨hs 48 (by decide),trivial⟩,trivial⟩
    ·rw [show (m2==10)=false by simpa using hm2] at h6
     exact absurd (show Ans.fail=a from h6).symm ha
   ·rw [show (m==0)=false by simpa using hm0] at h8
    exact absurd (show Ans.fail=a from h8).symm ha
end
def kgA:KG:=(.node 146 k146 (.node 79 k79 (.node 39 k39 (.node 22 k22 (.node 14 k14 (.node 10 k10 (.node 7 k7 (.node 6 k6 .leaf .leaf) .leaf) (.node 13 k13 (.node 11 k11 .leaf .leaf) .leaf)) (.node 19 k19 (.node 18 k18 (.node 15 k15 .leaf .leaf) .leaf) (.node 20 k20 .leaf .leaf))) (.node 31 k31 (.node 28 k28 (.node 26 k26 (.node 23 k23 .leaf .leaf) .leaf) (.node 30 k30 (.node 29 k29 .leaf .leaf) .leaf)) (.node 34 k34 (.node 33 k33 (.node 32 k32 .leaf .leaf) .leaf) (.node 38 k38 .leaf .leaf)))) (.node 51 k51 (.node 45 k45 (.node 42 k42 (.node 41 k41 (.node 40 k40 .leaf .leaf) .leaf) (.node 44 k44 (.node 43 k43 .leaf .leaf) .leaf)) (.node 48 k48 (.node 47 k47 (.node 46 k46 .leaf .leaf) .leaf) (.node 49 k49 .leaf .leaf))) (.node 74 k74 (.node 71 k71 (.node 70 k70 (.node 54 k54 .leaf .leaf) .leaf) (.node 73 k73 (.node 72 k72 .leaf .leaf) .leaf)) (.node 77 k77 (.node 76 k76 (.node 75 k75 .leaf .leaf) .leaf) (.node 78 k78 .leaf .leaf))))) (.node 107 k107 (.node 92 k92 (.node 86 k86 (.node 83 k83 (.node 82 k82 (.node 81 k81 .leaf .leaf) .leaf) (.node 85 k85 (.node 84 k84 .leaf .leaf) .leaf)) (.node 89 k89 (.node 88 k88 (.node 87 k87 .leaf .leaf) .leaf) (.node 90 k90 .leaf .leaf))) (.node 98 k98 (.node 95 k95 (.node 94 k94 (.node 93 k93 .leaf .leaf) .leaf) (.node 97 k97 (.node 96 k96 .leaf .leaf) .leaf)) (.node 101 k101 (.node 100 k100 (.node 99 k99 .leaf .leaf) .leaf) (.node 102 k102 .leaf .leaf)))) (.node 128 k128 (.node 123 k123 (.node 120 k120 (.node 119 k119 (.node 114 k114 .leaf .leaf) .leaf) (.node 122 k122 (.node 121 k121 .leaf .leaf) .leaf)) (.node 126 k126 (.node 125 k125 (.node 124 k124 .leaf .leaf) .leaf) (.node 127 k127 .leaf .leaf))) (.node 134 k134 (.node 131 k131 (.node 130 k130 (.node 129 k129 .leaf .leaf) .leaf) (.node 133 k133 .leaf .leaf)) (.node 144 k144 (.node 136 k136 (.node 135 k135 .leaf .leaf) .leaf) (.node 145 k145 .leaf .leaf)))))) (.node 206 k206 (.node 177 k177 (.node 159 k159 (.node 154 k154 (.node 149 k149 (.node 148 k148 (.node 147 k147 .leaf .leaf) .leaf) (.node 153 k153 (.node 150 k150 .leaf .leaf) .leaf)) (.node 157 k157 (.node 156 k156 (.node 155 k155 .leaf .leaf) .leaf) (.node 158 k158 .leaf .leaf))) (.node 171 k171 (.node 167 k167 (.node 166 k166 (.node 161 k161 .leaf .leaf) .leaf) (.node 170 k170 (.node 169 k169 .leaf .leaf) .leaf)) (.node 175 k175 (.node 174 k174 (.node 172 k172 .leaf .leaf) .leaf) (.node 176 k176 .leaf .leaf)))) (.node 192 k192 (.node 183 k183 (.node 180 k180 (.node 179 k179 (.node 178 k178 .leaf .leaf) .leaf) (.node 182 k182 (.node 181 k181 .leaf .leaf) .leaf)) (.node 188 k188 (.node 187 k187 (.node 186 k186 .leaf .leaf) .leaf) (.node 190 k190 .leaf .leaf))) (.node 200 k200 (.node 196 k196 (.node 195 k195 (.node 194 k194 .leaf .leaf) .leaf) (.node 198 k198 .leaf .leaf)) (.node 203 k203 (.node 202 k202 (.node 201 k201 .leaf .leaf) .leaf) (.node 204 k204 .leaf .leaf))))) (.node 239 k239 (.node 225 k225 (.node 214 k214 (.node 211 k211 (.node 210 k210 (.node 209 k209 .leaf .leaf) .leaf) (.node 213 k213 (.node 212 k212 .leaf .leaf) .leaf)) (.node 217 k217 (.node 216 k216 (.node 215 k215 .leaf .leaf) .leaf) (.node 218 k218 .leaf .leaf))) (.node 233 k233 (.node 228 k228 (.node 227 k227 (.node 226 k226 .leaf .leaf) .leaf) (.node 232 k232 (.node 229 k229 .leaf .leaf) .leaf)) (.node 236 k236 (.node 235 k235 (.node 234 k234 .leaf .leaf) .leaf) (.node 238 k238 .leaf .leaf)))) (.node 260 k260 (.node 253 k253 (.node 249 k249 (.node 248 k248 (.node 240 k240 .leaf .leaf) .leaf) (.node 252 k252 (.node 251 k251 .leaf .leaf) .leaf)) (.node 257 k257 (.node 256 k256 (.node 255 k255 .leaf .leaf) .leaf) (.node 258 k258 .leaf .leaf))) (.node 288 k288 (.node 285 k285 (.node 268 k268 (.node 261 k261 .leaf .leaf) .leaf) (.node 286 k286 .leaf .leaf)) (.node 401 k401 (.node 397 k397 (.node 396 k396 .leaf .leaf) .leaf) (.node 402 k402 .leaf .leaf)))))))
theorem kgA_ok {nat:Nat→List V→Option (List V)} (hn:NatI nat):KGOK (T nat).G (T nat).psig kgA:=⟨krow_ok (r146 nat),⟨krow_ok (r79 nat),⟨krow_ok (r39 nat),⟨krow_ok (r22 nat),⟨krow_ok (r14 nat),⟨krow_ok (r10 nat),⟨krow_ok (r7 nat),⟨krow_ok (r6 nat),trivial,trivial⟩,trivial⟩,⟨krow_ok (r13 nat),⟨krow_ok (r11 nat),trivial,trivial⟩,trivial⟩⟩,⟨krow_ok (r19 nat),⟨krow_ok (r18 nat),⟨krow_ok (r15 nat),trivial,trivial⟩,trivial⟩,⟨krow_ok (r20 nat),trivial,trivial⟩⟩⟩,⟨krow_ok (r31 nat),⟨krow_ok (r28 nat),⟨krow_ok (r26 nat),⟨krow_ok (r23 nat),trivial,trivial⟩,trivial⟩,⟨krow_ok (r30 nat),⟨krow_ok (r29 nat),trivial,trivial⟩,trivial⟩⟩,⟨krow_ok (r34 nat),⟨krow_ok (r33 nat),⟨krow_ok (r32 nat),trivial,trivial⟩,trivial⟩,⟨krow_ok (r38 nat),trivial,trivial⟩⟩⟩⟩,⟨krow_ok (r51 nat),⟨krow_ok (r45 nat),⟨krow_ok (r42 nat),⟨krow_ok (r41 nat),⟨krow_ok (r40 nat),trivial,trivial⟩,trivial⟩,⟨krow_ok (r44 nat),⟨krow_ok (r43 nat),trivial,trivial⟩,trivial⟩⟩,⟨krow_ok (r48 nat),⟨krow_ok (r47 nat),⟨krow_ok (r46 nat),trivial,trivial⟩,trivial⟩,⟨krow_ok (r49 nat),trivial,trivial⟩⟩⟩,⟨krow_ok (r74 nat),⟨krow_ok (r71 nat),⟨krow_ok (r70 nat),⟨krow_ok (r54 nat),trivial,trivial⟩,trivial⟩,⟨krow_ok (r73 nat),⟨krow_ok (r72 nat),trivial,trivial⟩,trivial⟩⟩,⟨krow_ok (r77 nat),⟨krow_ok (r76 nat),⟨krow_ok (r75 nat),trivial,trivial⟩,trivial⟩,⟨krow_ok (r78 nat),trivial,trivial⟩⟩⟩⟩⟩,⟨krow_ok (r107 nat),⟨krow_ok (r92 nat),⟨krow_ok (r86 nat),⟨krow_ok (r83 nat),⟨krow_ok (r82 nat),⟨krow_ok (r81 nat),trivial,trivial⟩,trivial⟩,⟨krow_ok (r85 nat),⟨krow_ok (r84 nat),trivial,trivial⟩,trivial⟩⟩,⟨krow_ok (r89 nat),⟨krow_ok (r88 nat),⟨krow_ok (r87 nat),trivial,trivial⟩,trivial⟩,⟨krow_ok (r90 nat),trivial,trivial⟩⟩⟩,⟨krow_ok (r98 nat),⟨krow_ok (r95 nat),⟨krow_ok (r94 nat),⟨krow_ok (r93 nat),trivial,trivial⟩,trivial⟩,⟨krow_ok (r97 nat),⟨krow_ok (r96 nat),trivial,trivial⟩,trivial⟩⟩,⟨krow_ok (r101 nat),⟨krow_ok (r100 nat),⟨krow_ok (r99 nat),trivial,trivial⟩,trivial⟩,⟨krow_ok (r102 nat),trivial,trivial⟩⟩⟩⟩,⟨krow_ok (r128 nat),⟨krow_ok (r123 nat),⟨krow_ok (r120 nat),⟨krow_ok (r119 nat),⟨krow_ok (r114 nat),trivial,trivial⟩,trivial⟩,⟨krow_ok (r122 nat),⟨krow_ok (r121 nat),trivial,trivial⟩,trivial⟩⟩,⟨krow_ok (r126 nat),⟨krow_ok (r125 nat),⟨krow_ok (r124 nat),trivial,trivial⟩,trivial⟩,⟨krow_ok (r127 nat),trivial,trivial⟩⟩⟩,⟨krow_ok (r134 nat),⟨krow_ok (r131 nat),⟨krow_ok (r130 nat),⟨krow_ok (r129 nat),trivial,trivial⟩,trivial⟩,⟨krow_ok (r133 nat),trivial,trivial⟩⟩,⟨krow_ok (r144 nat),⟨krow_ok (r136 nat),⟨krow_ok (r135 nat),trivial,trivial⟩,trivial⟩,⟨krow_ok (r145 nat),trivial,trivial⟩⟩⟩⟩⟩⟩,⟨krow_ok (r206 nat),⟨krow_ok (r177 nat),⟨krow_ok (r159 nat),⟨krow_ok (r154 nat),⟨krow_ok (r149 nat),⟨krow_ok (r148 nat),⟨krow_ok (r147 nat),trivial,trivial⟩,trivial⟩,⟨krow_ok (r153 nat),⟨krow_ok (r150 nat),trivial,trivial⟩,trivial⟩⟩,⟨krow_ok (r157 nat),⟨krow_ok (r156 nat),⟨krow_ok (r155 nat),trivial,trivial⟩,trivial⟩,⟨krow_ok (r158 nat),trivial,trivial⟩⟩⟩,⟨krow_ok (r171 nat),⟨krow_ok (r167 nat),⟨krow_ok (r166 nat),⟨krow_ok (r161 nat),trivial,trivial⟩,trivial⟩,⟨krow_ok (r170 nat),⟨krow_ok (r169 nat),trivial,trivial⟩,trivial⟩⟩,⟨krow_ok (r175 nat),⟨krow_ok (r174 nat),⟨krow_ok (r172 nat),trivial,trivial⟩,trivial⟩,⟨krow_ok (r176 nat),trivial,trivial⟩⟩⟩⟩,⟨krow_ok (r192 nat),⟨krow_ok (r183 nat),⟨krow_ok (r180 nat),⟨krow_ok (r179 nat),⟨krow_ok (r178 nat),trivial,trivial⟩,trivial⟩,⟨krow_ok (r182 nat),⟨krow_ok (r181 nat),trivial,trivial⟩,trivial⟩⟩,⟨krow_ok (r188 nat),⟨krow_ok (r187 nat),⟨krow_ok (r186 nat),trivial,trivial⟩,trivial⟩,⟨krow_ok (r190 nat),trivial,trivial⟩⟩⟩,⟨krow_ok (r200 nat),⟨krow_ok (r196 nat),⟨krow_ok (r195 nat),⟨krow_ok (r194 nat),trivial,trivial⟩,trivial⟩,⟨krow_ok (r198 nat),trivial,trivial⟩⟩,⟨krow_ok (r203 nat),⟨krow_ok (r202 nat),⟨krow_ok (r201 nat),trivial,trivial⟩,trivial⟩,⟨krow_ok (r204 nat),trivial,trivial⟩⟩⟩⟩⟩,⟨krow_ok (r239 nat),⟨krow_ok (r225 nat),⟨krow_ok (r214 nat),⟨krow_ok (r211 nat),⟨krow_ok (r210 nat),⟨krow_ok (r209 nat),trivial,trivial⟩,trivial⟩,⟨krow_ok (r213 nat),⟨krow_ok (r212 nat),trivial,trivial⟩,trivial⟩⟩,⟨krow_ok (r217 nat),⟨krow_ok (r216 nat),⟨krow_ok (r215 nat),trivial,trivial⟩,trivial⟩,⟨krow_ok (r218 nat),trivial,trivial⟩⟩⟩,⟨krow_ok (r233 nat),⟨krow_ok (r228 nat),⟨krow_ok (r227 nat),⟨krow_ok (r226 nat),trivial,trivial⟩,trivial⟩,⟨krow_ok (r232 nat),⟨krow_ok (r229 nat),trivial,trivial⟩,trivial⟩⟩,⟨krow_ok (r236 nat),⟨krow_ok (r235 nat),⟨krow_ok (r234 nat),trivial,trivial⟩,trivial⟩,⟨.inr (itoa_ok hn),trivial,trivial⟩⟩⟩⟩,⟨krow_ok (r260 nat),⟨krow_ok (r253 nat),⟨krow_ok (r249 nat),⟨krow_ok (r248 nat),⟨krow_ok (r240 nat),trivial,trivial⟩,trivial⟩,⟨krow_ok (r252 nat),⟨krow_ok (r251 nat),trivial,trivial⟩,trivial⟩⟩,⟨krow_ok (r257 nat),⟨krow_ok (r256 nat),⟨krow_ok (r255 nat),trivial,trivial⟩,trivial⟩,⟨krow_ok (r258 nat),trivial,trivial⟩⟩⟩,⟨krow_ok (r288 nat),⟨krow_ok (r285 nat),⟨krow_ok (r268 nat),⟨krow_ok (r261 nat),trivial,trivial⟩,trivial⟩,⟨krow_ok (r286 nat),trivial,trivial⟩⟩,⟨krow_ok (r401 nat),⟨krow_ok (r397 nat),⟨krow_ok (r396 nat),trivial,trivial⟩,trivial⟩,⟨krow_ok (r402 nat),trivial,trivial⟩⟩⟩⟩⟩⟩⟩
end Go.Ey.Pr
namespace Go.Ey.Kst
open Go.Ey Go.Ey.Pr
def nl:List K:=Go.Ey.Pr.sy 3 7104878
def us:K:=.s 4 1919251317
def k0:K:=Go.Ey.Pr.kn 0
def k1:K:=Go.Ey.Pr.kn 1
def k2:K:=Go.Ey.Pr.kn 2
def k3:K:=Go.Ey.Pr.kn 3
def k4:K:=Go.Ey.Pr.kn 4
def u0:K:=.i .u64 (.ofNat 0)
def sx:K:=.s 1 120
end Go.Ey.Kst
