/- A part. -/
import Derived.Test.YtpnjgiplhijhpaaGreatDoorRY21
set_option linter.all false
namespace Go.Ey.Pr
open Go.Ey Go.Ey.Seat
def t3:pJ:=⟨[.one],[],
 .call 4 [] [] [none] [] <|
 .aY (.un .not (.v 1)) <|
 .ite (.v 2)
 (.ret [(.one (.k (.bool false)))] [])
 (.aY (.len false (.v 0)) <|
 .aY (.bin .gtr false (.v 3) (.k (.int .i64 6))) <|
 .ite (.v 4)
 (.ret [(.one (.k (.bool true)))] [])
 (.goto 0 [(.c (.v 0)),(.c (.k (.int .i64 0))),(.c .z)])),
 [.aY (.len false (.v 0)) <|
 .aY (.bin .lss false (.v 1) (.v 3)) <|
 .ite (.v 4)
 (.row 1 (.v 0) (.v 1) <|
 .aY (.len false (.n 5 0)) <|
 .aY (.bin .gtr false (.v 6) (.k (.int .i64 4))) <|
 .ite (.v 7)
 (.ret [(.one (.k (.bool true)))] [])
 (.goto 1 [(.c (.v 0)),(.c (.v 1)),(.c (.k (.int .i64 0))),(.c (.v 2)),(.c .z),(.c .z)]))
 (.call 9 [(.v (.one (.v 2)))] [] [none] [] <|
 .call 10 [(.v (.one (.v 2)))] [] [none] [] <|
 .aY (.bin .eql true (.v 5) (.v 6)) <|
 .ret [(.one (.v 7))] []),
 .row 1 (.v 0) (.v 1) <|
 .aY (.len false (.n 6 0)) <|
 .aY (.bin .lss false (.v 2) (.v 7)) <|
 .ite (.v 8)
 (.row 1 (.v 0) (.v 1) <|
 .row 1 (.n 9 0) (.v 2) <|
 .call 5 [(.v (.one (.n 10 0))),(.v (.one (.k (.int .i64 4))))] [] [none] [] <|
 .call 7 [(.v (.one (.k (.int .i64 2))))] [] [none] [] <|
 .aY (.bin .rem false (.v 11) (.k (.int .i64 2))) <|
 .row 2 (.v 12) (.v 13) <|
 .call 6 [(.v (.agg (.all 14)))] [] [(some 11)] [] <|
 .aY (.bin .gtr false (.v 11) (.k (.int .i64 1))) <|
 .ite (.v 16)
 (.aY (.lits 11 1 [(.n 15 0),(.n 15 1),(.n 15 2),(.n 15 3),(.n 15 4),(.n 15 5),(.n 15 6),(.n 15 7),(.n 15 8),(.n 15 9),(.n 15 10)]) <|
 .call 8 [(.v (.one (.k (.string ⟨#[110,111,116]⟩)))),(.v (.one (.v 17)))] [] [(some 11)] [] <|
 .aY (.lits 11 1 [(.n 18 0),(.n 18 1),(.n 18 2),(.n 18 3),(.n 18 4),(.n 18 5),(.n 18 6),(.n 18 7),(.n 18 8),(.n 18 9),(.n 18 10)]) <|
 .aY (.app 11 176 (.v 5) (.v 19)) <|
 .aY (.bin .add false (.v 2) (.k (.int .i64 1))) <|
 .goto 1 [(.c (.v 0)),(.c (.v 1)),(.c (.v 21)),(.c (.v 3)),(.c (.v 4)),(.c (.v 20))])
 (.aY (.lits 11 1 [(.n 15 0),(.n 15 1),(.n 15 2),(.n 15 3),(.n 15 4),(.n 15 5),(.n 15 6),(.n 15 7),(.n 15 8),(.n 15 9),(.n 15 10)]) <|
 .aY (.app 11 176 (.v 5) (.v 17)) <|
 .aY (.bin .add false (.v 2) (.k (.int .i64 1))) <|
 .goto 1 [(.c (.v 0)),(.c (.v 1)),(.c (.v 19)),(.c (.v 3)),(.c (.v 4)),(.c (.v 18))]))
 (.aY (.lits 2 1 [(.v 5),(.v 4)]) <|
 .aY (.app 2 48 (.v 3) (.v 9)) <|
 .aY (.bin .add false (.v 1) (.k (.int .i64 1))) <|
 .goto 0 [(.c (.v 0)),(.c (.v 11)),(.c (.v 10))])]⟩
def t5:pJ:=⟨[.one,.one],[],
 .aY (.bin .rem false (.v 0) (.v 1)) <|
 .aY (.bin .lss false (.v 2) (.k (.int .i64 0))) <|
 .ite (.v 3)
 (.aY (.bin .add false (.v 2) (.v 1)) <|
 .ret [(.one (.v 4))] [])
 (.ret [(.one (.v 2))] []),
 []⟩
def t6:pJ:=⟨[.agg 2],[],
 .ret [(.agg (.lit [(.k (.int .i64 1)),(.n 0 0),(.n 0 1),(.k (.int .i64 0)),(.k (.string ⟨#[]⟩)),(.k (.string ⟨#[]⟩)),(.k (.string ⟨#[]⟩)),(.k (.string ⟨#[]⟩)),(.k (.string ⟨#[]⟩)),.z,.z]))] [],
 []⟩
def t9:pJ:=⟨[.one],[],
 .aY (.len false (.v 0)) <|
 .goto 0 [(.c (.v 0)),(.c (.v 1)),(.c (.k (.int .i64 0))),(.c .z)],
 [.aY (.bin .lss false (.v 2) (.v 1)) <|
 .ite (.v 4)
 (.row 2 (.v 0) (.v 2) <|
 .aY (.lits 1 1 [(.n 5 0)]) <|
 .aY (.app 1 24 (.v 3) (.v 6)) <|
 .aY (.bin .add false (.v 2) (.k (.int .i64 1))) <|
 .goto 0 [(.c (.v 0)),(.c (.v 1)),(.c (.v 8)),(.c (.v 7))])
 (.call 18 [(.v (.one (.v 3)))] [] [none] [] <|
 .ret [(.one (.v 5))] [])]⟩
def t10:pJ:=⟨[.one],[],
 .goto 0 [(.c (.v 0)),(.c (.k (.int .i64 0))),(.c .z)],
 [.aY (.len false (.v 0)) <|
 .aY (.bin .lss false (.v 1) (.v 3)) <|
 .ite (.v 4)
 (.row 2 (.v 0) (.v 1) <|
 .aY (.lits 1 1 [(.n 5 0)]) <|
 .aY (.app 1 24 (.v 2) (.v 6)) <|
 .aY (.bin .add false (.v 1) (.k (.int .i64 1))) <|
 .goto 0 [(.c (.v 0)),(.c (.v 8)),(.c (.v 7))])
 (.call 19 [(.v (.one (.v 2)))] [] [none] [] <|
 .ret [(.one (.v 5))] [])]⟩
def t18:pJ:=⟨[.one],[],
 .aY (.len false (.v 0)) <|
 .aY (.bin .eql false (.v 1) (.k (.int .i64 1))) <|
 .ite (.v 2)
 (.row 1 (.v 0) (.k (.int .i64 0)) <|
 .aY (.len false (.n 3 0)) <|
 .aY (.bin .eql false (.v 4) (.k (.int .i64 0))) <|
 .ite (.v 5)
 (.ret [(.one (.k (.bool true)))] [])
 (.aY (.len false (.v 0)) <|
 .aY (.bin .eql false (.v 6) (.k (.int .i64 0))) <|
 .ite (.v 7)
 (.ret [(.one (.k (.bool false)))] [])
 (.call 554 [(.v (.one (.v 0))),(.ref 0 0)] [] [none] [] <|
 .ite (.v 8)
 (.ret [(.one (.k (.bool false)))] [])
 (.row 1 (.v 0) (.k (.int .i64 0)) <|
 .row 11 (.n 9 0) (.k (.int .i64 0)) <|
 .call 32 [(.v (.agg (.all 10)))] [] [(some 11)] [] <|
 .aY (.len false (.v 0)) <|
 .goto 0 [(.c (.v 0)),(.c (.v 12)),(.c (.k (.int .i64 0))),(.l (.all 10)),(.l (.all 11)),(.c .z),(.c .z)]))))
 (.aY (.len false (.v 0)) <|
 .aY (.bin .eql false (.v 3) (.k (.int .i64 0))) <|
 .ite (.v 4)
 (.ret [(.one (.k (.bool false)))] [])
 (.call 554 [(.v (.one (.v 0))),(.ref 0 0)] [] [none] [] <|
 .ite (.v 5)
 (.ret [(.one (.k (.bool false)))] [])
 (.row 1 (.v 0) (.k (.int .i64 0)) <|
 .row 11 (.n 6 0) (.k (.int .i64 0)) <|
 .call 32 [(.v (.agg (.all 7)))] [] [(some 11)] [] <|
 .aY (.len false (.v 0)) <|
 .goto 0 [(.c (.v 0)),(.c (.v 9)),(.c (.k (.int .i64 0))),(.l (.all 7)),(.l (.all 8)),(.c .z),(.c .z)]))),
 [.aY (.bin .lss false (.v 2) (.v 1)) <|
 .ite (.v 7)
 (.row 1 (.v 0) (.v 2) <|
 .row 11 (.n 8 0) (.k (.int .i64 0)) <|
 .call 33 [(.v (.agg (.all 9))),(.v (.agg (.all 3)))] [] [none] [] <|
 .ite (.v 10)
 (.aY (.len false (.v 6)) <|
 .aY (.bin .eql false (.v 11) (.k (.int .i64 0))) <|
 .ite (.v 12)
 (.aY (.sub 11 (.n 8 0) (some (.k (.int .i64 1))) none) <|
 .aY (.lits 1 1 [(.v 13)]) <|
 .aY (.app 1 24 (.v 5) (.v 14)) <|
 .aY (.bin .add false (.v 2) (.k (.int .i64 1))) <|
 .goto 0 [(.c (.v 0)),(.c (.v 1)),(.c (.v 16)),(.l (.all 3)),(.l (.all 4)),(.c (.v 15)),(.c (.v 6))])
 (.row 11 (.n 8 0) (.k (.int .i64 0)) <|
 .call 33 [(.v (.agg (.all 13))),(.v (.agg (.all 4)))] [] [none] [] <|
 .ite (.v 14)
 (.aY (.sub 11 (.n 8 0) (some (.k (.int .i64 1))) none) <|
 .aY (.lits 1 1 [(.v 15)]) <|
 .aY (.app 1 24 (.v 6) (.v 16)) <|
 .aY (.bin .add false (.v 2) (.k (.int .i64 1))) <|
 .goto 0 [(.c (.v 0)),(.c (.v 1)),(.c (.v 18)),(.l (.all 3)),(.l (.all 4)),(.c (.v 5)),(.c (.v 17))])
 (.ret [(.one (.k (.bool false)))] [])))
 (.row 11 (.n 8 0) (.k (.int .i64 0)) <|
 .call 33 [(.v (.agg (.all 11))),(.v (.agg (.all 4)))] [] [none] [] <|
 .ite (.v 12)
 (.aY (.sub 11 (.n 8 0) (some (.k (.int .i64 1))) none) <|
 .aY (.lits 1 1 [(.v 13)]) <|
 .aY (.app 1 24 (.v 6) (.v 14)) <|
 .aY (.bin .add false (.v 2) (.k (.int .i64 1))) <|
 .goto 0 [(.c (.v 0)),(.c (.v 1)),(.c (.v 16)),(.l (.all 3)),(.l (.all 4)),(.c (.v 5)),(.c (.v 15))])
 (.ret [(.one (.k (.bool false)))] [])))
 (.aY (.len false (.v 6)) <|
 .aY (.bin .gtr false (.v 8) (.k (.int .i64 0))) <|
 .ite (.v 9)
 (.call 18 [(.v (.one (.v 5)))] [] [none] [] <|
 .ite (.v 10)
 (.call 18 [(.v (.one (.v 6)))] [] [none] [] <|
 .ret [(.one (.v 11))] [])
 (.ret [(.one (.k (.bool false)))] []))
 (.ret [(.one (.k (.bool false)))] []))]⟩
def t19:pJ:=⟨[.one],[],
 .aY (.len false (.v 0)) <|
 .aY (.bin .eql false (.v 1) (.k (.int .i64 0))) <|
 .ite (.v 2)
 (.ret [(.one (.k (.bool false)))] [])
 (.aY (.len false (.v 0)) <|
 .aY (.bin .eql false (.v 3) (.k (.int .i64 1))) <|
 .ite (.v 4)
 (.row 1 (.v 0) (.k (.int .i64 0)) <|
 .aY (.len false (.n 5 0)) <|
 .aY (.bin .eql false (.v 6) (.k (.int .i64 0))) <|
 .ret [(.one (.v 7))] [])
 (.row 1 (.v 0) (.k (.int .i64 0)) <|
 .aY (.len false (.n 5 0)) <|
 .aY (.bin .eql false (.v 6) (.k (.int .i64 0))) <|
 .ite (.v 7)
 (.ret [(.one (.k (.bool false)))] [])
 (.row 1 (.v 0) (.k (.int .i64 0)) <|
 .row 11 (.n 8 0) (.k (.int .i64 0)) <|
 .call 34 [(.v (.agg (.all 9)))] [] [(some 11)] [] <|
 .goto 0 [(.c (.v 0)),(.c (.k (.int .i64 0))),(.l (.all 9)),(.l (.all 10)),(.c .z),(.c .z)]))),
 [.aY (.len false (.v 0)) <|
 .aY (.bin .lss false (.v 1) (.v 6)) <|
 .ite (.v 7)
 (.row 1 (.v 0) (.v 1) <|
 .aY (.len false (.n 8 0)) <|
 .aY (.bin .gtr false (.v 9) (.k (.int .i64 0))) <|
 .ite (.v 10)
 (.aY (.len false (.v 5)) <|
 .aY (.bin .eql false (.v 11) (.k (.int .i64 0))) <|
 .ite (.v 12)
 (.row 1 (.v 0) (.v 1) <|
 .row 11 (.n 13 0) (.k (.int .i64 0)) <|
 .call 35 [(.v (.agg (.all 14))),(.v (.agg (.all 2)))] [] [none] [] <|
 .ite (.v 15)
 (.row 1 (.v 0) (.v 1) <|
 .aY (.sub 11 (.n 16 0) (some (.k (.int .i64 1))) none) <|
 .aY (.lits 1 1 [(.v 17)]) <|
 .aY (.app 1 24 (.v 4) (.v 18)) <|
 .aY (.bin .add false (.v 1) (.k (.int .i64 1))) <|
 .goto 0 [(.c (.v 0)),(.c (.v 20)),(.l (.all 2)),(.l (.all 3)),(.c (.v 19)),(.c (.v 5))])
 (.row 1 (.v 0) (.v 1) <|
 .aY (.len false (.n 16 0)) <|
 .aY (.bin .gtr false (.v 17) (.k (.int .i64 0))) <|
 .ite (.v 18)
 (.row 1 (.v 0) (.v 1) <|
 .row 11 (.n 19 0) (.k (.int .i64 0)) <|
 .call 35 [(.v (.agg (.all 20))),(.v (.agg (.all 3)))] [] [none] [] <|
 .ite (.v 21)
 (.row 1 (.v 0) (.v 1) <|
 .aY (.sub 11 (.n 22 0) (some (.k (.int .i64 1))) none) <|
 .aY (.lits 1 1 [(.v 23)]) <|
 .aY (.app 1 24 (.v 5) (.v 24)) <|
 .aY (.bin .add false (.v 1) (.k (.int .i64 1))) <|
 .goto 0 [(.c (.v 0)),(.c (.v 26)),(.l (.all 2)),(.l (.all 3)),(.c (.v 4)),(.c (.v 25))])
 (.ret [(.one (.k (.bool false)))] []))
 (.ret [(.one (.k (.bool false)))] [])))
 (.row 1 (.v 0) (.v 1) <|
 .aY (.len false (.n 13 0)) <|
 .aY (.bin .gtr false (.v 14) (.k (.int .i64 0))) <|
 .ite (.v 15)
 (.row 1 (.v 0) (.v 1) <|
 .row 11 (.n 16 0) (.k (.int .i64 0)) <|
 .call 35 [(.v (.agg (.all 17))),(.v (.agg (.all 3)))] [] [none] [] <|
 .ite (.v 18)
 (.row 1 (.v 0) (.v 1) <|
 .aY (.sub 11 (.n 19 0) (some (.k (.int .i64 1))) none) <|
 .aY (.lits 1 1 [(.v 20)]) <|
 .aY (.app 1 24 (.v 5) (.v 21)) <|
 .aY (.bin .add false (.v 1) (.k (.int .i64 1))) <|
 .goto 0 [(.c (.v 0)),(.c (.v 23)),(.l (.all 2)),(.l (.all 3)),(.c (.v 4)),(.c (.v 22))])
 (.ret [(.one (.k (.bool false)))] []))
 (.ret [(.one (.k (.bool false)))] [])))
 (.row 1 (.v 0) (.v 1) <|
 .aY (.len false (.n 11 0)) <|
 .aY (.bin .gtr false (.v 12) (.k (.int .i64 0))) <|
 .ite (.v 13)
 (.row 1 (.v 0) (.v 1) <|
 .row 11 (.n 14 0) (.k (.int .i64 0)) <|
 .call 35 [(.v (.agg (.all 15))),(.v (.agg (.all 3)))] [] [none] [] <|
 .ite (.v 16)
 (.row 1 (.v 0) (.v 1) <|
 .aY (.sub 11 (.n 17 0) (some (.k (.int .i64 1))) none) <|
 .aY (.lits 1 1 [(.v 18)]) <|
 .aY (.app 1 24 (.v 5) (.v 19)) <|
 .aY (.bin .add false (.v 1) (.k (.int .i64 1))) <|
 .goto 0 [(.c (.v 0)),(.c (.v 21)),(.l (.all 2)),(.l (.all 3)),(.c (.v 4)),(.c (.v 20))])
 (.ret [(.one (.k (.bool false)))] []))
 (.ret [(.one (.k (.bool false)))] [])))
 (.call 19 [(.v (.one (.v 4)))] [] [none] [] <|
 .ite (.v 8)
 (.call 19 [(.v (.one (.v 5)))] [] [none] [] <|
 .ret [(.one (.v 9))] [])
 (.ret [(.one (.k (.bool false)))] []))]⟩
def t31:pJ:=⟨[.one],[],
 .aY (.len false (.v 0)) <|
 .aY (.bin .eql false (.v 1) (.k (.int .i64 0))) <|
 .ret [(.one (.v 2))] [],
 []⟩
def Zg:pJ:=⟨[.one,.bJ 31 []],[],
 .call 582 [(.v (.one (.v 0))),(.ref 0 0)] [] [none] [] <|
 .aY (.bin .geq false (.v 1) (.k (.int .i64 0))) <|
 .ret [(.one (.v 2))] [],
 []⟩
def M0:pJ:=⟨[.one,.bJ 31 []],[],
 .aY (.len false (.v 0)) <|
 .goto 0 [(.c (.v 0)),(.c (.v 1)),(.c (.k (.int .i64 0)))],
 [.aY (.bin .lss false (.v 2) (.v 1)) <|
 .ite (.v 3)
 (.row 1 (.v 0) (.v 2) <|
 .call 31 [(.v (.one (.n 4 0)))] [] [none] [] <|
 .ite (.v 5)
 (.ret [(.one (.v 2))] [])
 (.aY (.bin .add false (.v 2) (.k (.int .i64 1))) <|
 .goto 0 [(.c (.v 0)),(.c (.v 1)),(.c (.v 6))]))
 (.ret [(.one (.k (.int .i64 (-1))))] [])]⟩
section
variable {nat:Nat->List V->Option (List V)}
theorem Im:(T nat).G.fn 3=some t3:=by kernel_rfl
theorem aaJ:(T nat).G.fn 5=some t5:=by kernel_rfl
theorem tree6:(T nat).G.fn 6=some t6:=by kernel_rfl
theorem Q9:(T nat).G.fn 9=some t9:=by kernel_rfl
theorem IC:(T nat).G.fn 10=some t10:=by kernel_rfl
theorem JC:(T nat).G.fn 18=some t18:=by kernel_rfl
theorem JE:(T nat).G.fn 19=some t19:=by kernel_rfl
theorem V7:(T nat).G.fn 31=some t31:=by kernel_rfl
theorem Tp:(T nat).G.fn 554=some Zg:=by kernel_rfl
theorem Ed:(T nat).G.fn 582=some M0:=by kernel_rfl
end
end Go.Ey.Pr
namespace Go.Ey
mutual
theorem RK.one:∀{k:K} {c d:C},RK k c->RK k d->c=d
 |.i _ _,_,_,.i _ _,.i _ _=>rfl
 |.b _,_,_,.b _,.b _=>rfl
 |.o _,_,_,.o _,.o _=>rfl
 |.s _ _,_,_,.s _ _ b hb _,.s _ _ b' hb' _=>by have h:b.data.toList=b'.data.toList:=hb.trans hb'.symm;obtain ⟨b⟩:=b;obtain ⟨b'⟩:=b';have h2:b=b':=Array.toList_inj.1 h;rw [h2]
 |.sl _ _ _,_,_,.sl _ _ _ _ h _,.sl _ _ _ _ h' _=>by rw [kE.one h h']
theorem nC.one:∀{k:List K} {c d:List C},nC k c->nC k d->c=d
 |[],_,_,.nil,.nil=>rfl
 |_::_,_,_,.cons h1 h2,.cons g1 g2=>by rw [RK.one h1 g1,nC.one h2 g2]
theorem kE.one:∀{e:Nat} {k:List (List K)} {c d:List C},kE e k c->kE e k d->c=d
 |_,[],_,_,.nil,.nil=>rfl
 |_,_::_,_,_,.cons h1 _ h3,.cons g1 _ g3=>by rw [nC.one h1 g1,kE.one h3 g3]
end
end Go.Ey
namespace Go.Ey.Pr
open Go.Ey Go.Ey.Seat
def cs (b:ByteArray):C:=.lit (.string b)
def ci (n:Int):C:=.lit (.int .i64 n)
def cb (b:Bool):C:=.lit (.bool b)
def ce:C:=cs ⟨#[]⟩
def cz:C:=.slice [] 0
def rows {α:Type} (f:α->List C) (l:List α):C:=.slice (l.flatMap f) l.length
theorem u7 {α:Type} {f:α->List C} {e:Nat} (hf:∀x,(f x).length=e):∀l:List α,(l.flatMap f).length=l.length * e
 |[]=>by simp
 |x::l=>by rw [List.flatMap_cons,List.length_append,hf,u7 hf l,List.length_cons,Nat.succ_mul];omega
theorem Cj {α:Type} {f:α->List C} {e:Nat} (hf:∀x,(f x).length=e):∀(k:Nat) (l:List α),(l.flatMap f).drop (k * e)=(l.drop k).flatMap f
 |0,l=>by simp
 |k+1,[]=>by simp
 |k+1,x::l=>by rw [List.flatMap_cons,Nat.succ_mul,Nat.add_comm,<-List.drop_drop,List.drop_left' (hf x),Cj hf k l,List.drop_succ_cons]
theorem wY {α:Type} {f:α->List C} {e:Nat} (hf:∀x,(f x).length=e) {l:List α} {k:Nat} {x:α} (h:l[k]?=some x):tO e (rows f l) (ci k)=some (f x):=by
 have hk:k < l.length:=(List.getElem?_eq_some_iff.1 h).1;have h1:(k+1) * e<=(l.flatMap f).length:=by rw [u7 hf];exact Nat.mul_le_mul_right e hk
 simp only [tO,rows,ci];have h2:(0:Int)<=(k:Int)/\(k:Int) < (l.length:Int)/\((k:Int).toNat+1) * e<=(l.flatMap f).length:=by refine ⟨by omega,by omega,by simpa using h1⟩
 rw [if_pos h2];have h3:l.drop k=x::l.drop (k+1):=by rw [List.drop_eq_getElem_cons hk];congr 1;rw [List.getElem?_eq_getElem hk] at h;injection h
 rw [Int.toNat_natCast,Cj hf,h3,List.flatMap_cons,List.take_left' (hf x)]
theorem DR {α:Type} {f:α->List C} {e bytes:Nat} (hf:∀x,(f x).length=e) (he:0 < e) {l:List α} {x:α} (hb:(l.length+1) * bytes<=aD) (hl:l.length+1<=aD):BK e bytes (.slice (f x) 1) (rows f l)=some (rows f (l++[x])):=by
 have h1:(f x).length=1 * e:=by rw [hf];omega
 have h2:(l.flatMap f).length=l.length * e:=u7 hf l;simp only [BK,rows,Bq];rw [if_pos h1];simp only [Option.bind_some];rw [if_pos ⟨h1,h2,hb,he,hl⟩];simp
theorem nJ {α:Type} {f:α->List C}:rows f []=cz:=rfl
theorem aao {n:Int} (h1:-9223372036854775808<=n) (h2:n<=9223372036854775807):IntKind.i64.wrap n=n:=by
 show (if (true && decide (n % 18446744073709551616>=9223372036854775808))=true then n % 18446744073709551616 - 18446744073709551616 else n % 18446744073709551616)=n
 by_cases h:n % 18446744073709551616>=9223372036854775808
 ·rw [if_pos (by simpa using h)];omega
 ·rw [if_neg (by simpa using h)];omega
theorem QE {a b:Int} (h1:-9223372036854775808<=a+b) (h2:a+b<=9223372036854775807):eG .add false (ci a) (ci b)=some (ci (a+b)):=by simp [eG,ci,iL,dn,eT,aao h1 h2]
theorem X6 (a b:Int):eG .lss false (ci a) (ci b)=some (cb (decide (a < b))):=by simp [eG,ci,cb,iL,dn,eT]
theorem X5 (a b:Int):eG .leq false (ci a) (ci b)=some (cb (decide (a<=b))):=by simp [eG,ci,cb,iL,dn,eT]
theorem Xy (a b:Int):eG .gtr false (ci a) (ci b)=some (cb (decide (a > b))):=by simp [eG,ci,cb,iL,dn,eT]
theorem WQ (a b:Int):eG .geq false (ci a) (ci b)=some (cb (decide (a>=b))):=by simp [eG,ci,cb,iL,dn,eT]
theorem V4 (a b:Int):eG .eql false (ci a) (ci b)=some (cb (a==b)):=by simp [eG,ci,cb,iL,dn,eT]
theorem Xa (a b:Int):eG .neq false (ci a) (ci b)=some (cb (!(a==b))):=by simp [eG,ci,cb,iL,dn,eT];rfl
theorem VX (b:Bool):YL .not (cb b)=some (cb (!b)):=rfl
theorem Zx {α:Type} (t e:Option α):tQ (cb true) t e=t:=rfl
theorem aaY {α:Type} (t e:Option α):tQ (cb false) t e=e:=rfl
theorem sV (a b:ByteArray):(a.toList==b.toList)=decide (a=b):=by
 rw [yV,yV];by_cases h:a=b
 ·subst h;simp
 ·have:a.data.toList≠b.data.toList:=fun e=>h (by
   obtain ⟨a⟩:=a;obtain ⟨b⟩:=b;congr 1;exact Array.toList_inj.1 e)
  rw [decide_eq_false h];exact beq_eq_false_iff_ne.2 this
theorem XM (a b:ByteArray):eG .eql false (cs a) (cs b)=some (cb (decide (a=b))):=by simp only [eG,cs,iL,kU,Bool.false_eq_true,if_false,Option.bind_some,cb,sV]
theorem Wh (a b:ByteArray):eG .neq false (cs a) (cs b)=some (cb (!decide (a=b))):=by simp only [eG,cs,iL,kU,Bool.false_eq_true,if_false,Option.bind_some,cb,sV]
theorem Xc (neg:Bool) (a b a' b':ByteArray):Nb [1,1] neg [cs a,cs b] [cs a',cs b']=some (cb (if neg then !(decide (a=a') && decide (b=b')) else decide (a=a') && decide (b=b'))):=by simp only [Nb,yw,Mv,cs,cb,Option.bind_some,sV,Bool.and_true]
theorem Xb (a b:Bool):eG .eql true (cb a) (cb b)=some (cb (a==b)):=rfl
theorem Xg (a b:Bool):eG .neq true (cb a) (cb b)=some (cb (!(a==b))):=rfl
theorem Yo (a:ByteArray):oh true (cs a)=some (ci a.size):=rfl
theorem MU (l:List C) (n:Nat):oh false (.slice l n)=some (ci n):=rfl
theorem adY (n:Int):C.lit (.int .i64 n)=ci n:=rfl
theorem aad (b:Bool):C.lit (.bool b)=cb b:=rfl
theorem aen (b:ByteArray):C.lit (.string b)=cs b:=rfl
theorem kZ:C.slice [] 0=cz:=rfl
theorem WX:oh false cz=some (ci 0):=rfl
theorem oN (k:Nat) (h:k < 1000000):eG .add false (ci k) (ci 1)=some (ci ((k+1:Nat):Int)):=by rw [QE (by omega) (by omega)];simp
theorem drop_at {α:Type} {l:List α} {k:Nat} (h:k < l.length):l.drop k=l[k]::l.drop (k+1):=List.drop_eq_getElem_cons h
theorem uq {α:Type} {l:List α} {k:Nat} (h:¬k < l.length):l.drop k=[]:=List.drop_eq_nil_of_le (by omega)
def zG:=And.intro @rZ.eq_1 (And.intro @aK.eq_1 (And.intro @aK.eq_2 (And.intro @aK.eq_3 (And.intro @aK.eq_4 (And.intro @aK.eq_5 (And.intro @aK.eq_6 (And.intro @di.eq_1 (And.intro @di.eq_2 (And.intro @di.eq_3 (And.intro @az.eq_1 (And.intro @az.eq_2 (And.intro @az.eq_3 (And.intro @az.eq_4 (And.intro @az.eq_5 (And.intro @az.eq_6 (And.intro @az.eq_7 (And.intro @jY.eq_1 (And.intro @jY.eq_2 (And.intro @NG.eq_1 (And.intro @NG.eq_2 (And.intro @tq.eq_1 (And.intro @tq.eq_2 (And.intro @Kl.eq_1 (And.intro @Kl.eq_2 (And.intro @Dn.eq_1 (And.intro @Dn.eq_2 (And.intro @uz.eq_1 (And.intro @uz.eq_2 (And.intro @aV.eq_1 (And.intro @aV.eq_2 (And.intro @aV.eq_3 (And.intro @aV.eq_4 (And.intro @iM.eq_1 (And.intro @iM.eq_2 (And.intro @BJ.eq_1 (And.intro @BJ.eq_2 (And.intro @bB.eq_1 (And.intro @bB.eq_2 (And.intro @bB.eq_3 (And.intro @bB.eq_4 (And.intro @bB.eq_5 (And.intro @bB.eq_6 (And.intro @bB.eq_7 (And.intro @bB.eq_8 (And.intro @bB.eq_9 (And.intro @bB.eq_10 (And.intro @bB.eq_11 (And.intro @bB.eq_12 (And.intro @bB.eq_13 (And.intro @bB.eq_14 (And.intro @bB.eq_15 (And.intro @bB.eq_16 (And.intro @bB.eq_17 (And.intro @eu.eq_1 (And.intro @eu.eq_2 (And.intro @eu.eq_3 (And.intro @gy.eq_1 (And.intro @gy.eq_2 (And.intro @VG.eq_1 (And.intro @VG.eq_2 (And.intro @sized.eq_1 (And.intro @cZ.eq_1 (And.intro @cZ.eq_2 (And.intro @cZ.eq_3 (And.intro @eF.eq_1 (And.intro @eF.eq_2 (And.intro @getOne.eq_1 (And.intro @zx.eq_1 (And.intro @EN.eq_1 (And.intro @bG.eq_1 (And.intro @bG.eq_2 (And.intro @bG.eq_3 (And.intro @adY (And.intro @aad (And.intro @aen (And.intro @kZ (And.intro @V4 (And.intro @Xa (And.intro @X6 (And.intro @X5 (And.intro @Xy (And.intro @WQ (And.intro @XM (And.intro @Wh (And.intro @Xc (And.intro @Xb (And.intro @Xg (And.intro @VX (And.intro @Zx (And.intro @aaY (And.intro @Yo (And.intro @MU (@WX)))))))))))))))))))))))))))))))))))))))))))))))))))))))))))))))))))))))))))))))))))))))))))))
set_option maxHeartbeats 4000000
def xB:ByteArray:=⟨#[120]⟩
def yB:ByteArray:=⟨#[121]⟩
def aaC:ByteArray:=⟨#[117,115,101,114]⟩
def abE:ByteArray:=⟨#[108,105,115,112]⟩
def Ni:ByteArray:=⟨#[110,111,116]⟩
def M8 (i:Nat):List C:=[cs aaC,cs (if i=0 then xB else yB)]
def vr (i:Nat):List C:=[ci 1,cs aaC,cs (if i=0 then xB else yB),ci 0,ce,ce,ce,ce,ce,cz,cz]
def tm (i:Nat):List C:=if i < 2 then vr i else [ci 3,cs abE,cs Ni,ci 0,ce,ce,ce,ce,ce,cz,.slice (vr (i - 2)) 1]
def ng (i:Nat):Nat:=(i+2) % 4
theorem dS (i:Nat):(tm i).length=11:=by unfold tm;split<;>rfl
theorem VM (i:Nat):ng i < 4:=Nat.mod_lt _ (by decide)
structure Ja (nat:Nat->List V->Option (List V)):Prop where
 t4:nat 4 []=some [.one (cb true)]
 e51:∀i j,i < 4->j < 4->nat 33 [.agg (tm i),.agg (tm j)]=some [.one (cb (i==j))]
 e24:∀i j,i < 4->j < 4->nat 35 [.agg (tm i),.agg (tm j)]=some [.one (cb (i==j))]
 n50:∀i,i < 4->nat 32 [.agg (tm i)]=some [.agg (tm (ng i))]
 n52:∀i,i < 4->nat 34 [.agg (tm i)]=some [.agg (tm (ng i))]
 v11:nat 7 [.one (ci 2)]=some [.one (.slice (M8 0++M8 1) 2)]
 l12:∀i,i < 2->nat 8 [.one (cs Ni),.one (.slice (tm i) 1)]=some [.agg (tm (i+2))]
abbrev Ts:=List (List Nat)
def Jp (l:Ts):Prop:=∀x∈l,∀i∈x,i < 4
def kI (ts:List Nat):List C:=[rows tm ts]
theorem dm (ts:List Nat):(kI ts).length=1:=rfl
def yc (p q:Nat) (a b:Ts):Ts->Option (Ts×Ts)
 |[]=>some (a,b)
 |[]::_=>none
 |(y::ys)::r=>if b.isEmpty && y==p then yc p q (a++[ys]) b r else if y==q then yc p q a (b++[ys]) r else none
def tr:Nat->Ts->Bool
 |0,_=>false
 |_+1,[]=>false
 |_+1,[x]=>x.isEmpty
 |_+1,[]::_=>false
 |n+1,(y::ys)::z::r=>match yc y (ng y) [] [] ((y::ys)::z::r) with
  |none=>false
  |some (a,b)=>!b.isEmpty && (tr n a && tr n b)
def sz (l:Ts):Nat:=(l.map List.length).sum
theorem Eb {p q:Nat}:∀{l a b a' b':Ts},yc p q a b l=some (a',b')->sz a'+sz b'+l.length=sz a+sz b+sz l/\a'.length+b'.length=a.length+b.length+l.length
 |[],a,b,a',b',h=>by simp only [yc,Option.some.injEq,Prod.mk.injEq] at h;obtain ⟨rfl,rfl⟩:=h;simp [sz]
 |[]::r,a,b,a',b',h=>by simp [yc] at h
 |(y::ys)::r,a,b,a',b',h=>by
  simp only [yc] at h;split at h
  ·have:=Eb h
   simp [sz] at this |-;omega
  ·split at h
   ·have:=Eb h
    simp [sz] at this |-;omega
   ·cases h
theorem Eo {p q:Nat}:∀{l a b a' b':Ts},yc p q a b l=some (a',b')->Jp l->Jp a->Jp b->Jp a'/\Jp b'
 |[],a,b,a',b',h,_,ha,hb=>by simp only [yc,Option.some.injEq,Prod.mk.injEq] at h;obtain ⟨rfl,rfl⟩:=h;exact ⟨ha,hb⟩
 |[]::r,a,b,a',b',h,_,_,_=>by simp [yc] at h
 |(y::ys)::r,a,b,a',b',h,hl,ha,hb=>by
  have hr:Jp r:=fun x hx=>hl x (List.mem_cons_of_mem _ hx)
  have hy:∀c:Ts,Jp c->Jp (c++[ys]):=fun c hc x hx=>by
   rcases List.mem_append.1 hx with hx|hx
   ·exact hc x hx
   ·rw [List.mem_singleton.1 hx];exact fun i hi=>hl _ List.mem_cons_self i (List.mem_cons_of_mem _ hi)
  simp only [yc] at h;split at h
  ·exact Eo h hr (hy a ha) hb
  ·split at h
   ·exact Eo h hr ha (hy b hb)
   ·cases h
theorem xC {p q:Nat}:∀{l a b:Ts},[]∈l->yc p q a b l=none
 |[]::r,a,b,_=>rfl
 |(y::ys)::r,a,b,h=>by
  have hr:[]∈r:=by simpa using h
  simp only [yc];split
  ·exact xC hr
  ·split
   ·exact xC hr
   ·rfl
section
variable {nat:Nat->List V->Option (List V)}
theorem X3 {f:Nat} {args:List LA} {vs r:List V} (hg:(T nat).G.fn f=none) (hs:∃s,(T nat).sig f=some s/\s.nat=true/\s.boxes=[]/\dV s.params args=true) (hv:Ig args=some vs) (h:nat f vs=some r):kL (T nat).G f args []=some (r,[]):=by
 refine KP hg ?_;obtain ⟨s,h1,h2,h3,h4⟩:=hs;show (T nat).Fw f args []=some (r,[])
 have h5:(T nat).nat f vs=some r:=h;simp [Seat.Fw,h1,h2,h3,h4,hv,h5]
theorem g5:(T nat).G.fn 4=none:=by kernel_rfl
theorem g11:(T nat).G.fn 7=none:=by kernel_rfl
theorem g12:(T nat).G.fn 8=none:=by kernel_rfl
theorem g24:(T nat).G.fn 35=none:=by kernel_rfl
theorem g50:(T nat).G.fn 32=none:=by kernel_rfl
theorem g51:(T nat).G.fn 33=none:=by kernel_rfl
theorem g52:(T nat).G.fn 34=none:=by kernel_rfl
section
variable (hk:Ja nat)
include hk
theorem x5:kL (T nat).G 4 [] []=some ([.one (cb true)],[]):=X3 g5 ⟨s4,by kernel_rfl,rfl,rfl,rfl⟩ rfl hk.t4
theorem x51 {i j:Nat} (hi:i < 4) (hj:j < 4):kL (T nat).G 33 [.v (.agg (tm i)),.v (.agg (tm j))] []=some ([.one (cb (i==j))],[]):=X3 g51 ⟨s33,by kernel_rfl,rfl,rfl,by simp [dV,s33,dS]⟩ rfl (hk.e51 i j hi hj)
theorem x24 {i j:Nat} (hi:i < 4) (hj:j < 4):kL (T nat).G 35 [.v (.agg (tm i)),.v (.agg (tm j))] []=some ([.one (cb (i==j))],[]):=X3 g24 ⟨s35,by kernel_rfl,rfl,rfl,by simp [dV,s35,dS]⟩ rfl (hk.e24 i j hi hj)
theorem x50 {i:Nat} (hi:i < 4):kL (T nat).G 32 [.v (.agg (tm i))] []=some ([.agg (tm (ng i))],[]):=X3 g50 ⟨s32,by kernel_rfl,rfl,rfl,by simp [dV,s32,dS]⟩ rfl (hk.n50 i hi)
theorem x52 {i:Nat} (hi:i < 4):kL (T nat).G 34 [.v (.agg (tm i))] []=some ([.agg (tm (ng i))],[]):=X3 g52 ⟨s34,by kernel_rfl,rfl,rfl,by simp [dV,s34,dS]⟩ rfl (hk.n52 i hi)
theorem x11:kL (T nat).G 7 [.v (.one (ci 2))] []=some ([.one (.slice (M8 0++M8 1) 2)],[]):=X3 g11 ⟨s7,by kernel_rfl,rfl,rfl,rfl⟩ rfl hk.v11
theorem x12 {i:Nat} (hi:i < 2):kL (T nat).G 8 [.v (.one (cs Ni)),.v (.one (.slice (tm i) 1))] []=some ([.agg (tm (i+2))],[]):=X3 g12 ⟨s8,by kernel_rfl,rfl,rfl,rfl⟩ rfl (hk.l12 i hi)
end
end
end Go.Ey.Pr
set_option maxHeartbeats 4000000
namespace Go.Ey.Pr
open Go.Ey Go.Ey.Seat
def fE:Nat->Ts->Int
 |_,[]=>-1
 |k,x::r=>if x.isEmpty then (k:Int) else fE (k+1) r
theorem Qr:∀(l:Ts) (k:Nat),fE k l>=0↔l.any List.isEmpty=true
 |[],k=>by simp [fE]
 |x::r,k=>by
  by_cases hx:x.isEmpty=true
  ·have h:fE k (x::r)=(k:Int):=by rw [fE,if_pos hx]
   rw [h,List.any_cons,hx];simp
  ·have h:fE k (x::r)=fE (k+1) r:=by rw [fE,if_neg hx]
   rw [Bool.not_eq_true] at hx;rw [h,List.any_cons,hx,Bool.false_or];exact Qr r (k+1)
theorem Yd (l:Ts) (k:Nat):decide (fE k l>=0)=l.any List.isEmpty:=by rw [Bool.eq_iff_iff,decide_eq_true_iff];exact Qr l k
theorem pF (l:Ts):oh false (rows kI l)=some (ci l.length):=rfl
theorem wD (x:List Nat):oh false (rows tm x)=some (ci x.length):=rfl
theorem Yu {l:Ts} {k:Nat} (h:k < l.length):tO 1 (rows kI l) (ci k)=some (kI l[k]):=wY dm (List.getElem?_eq_getElem h)
theorem xI (x:List Nat):bG (kI x) 0=rows tm x:=rfl
theorem TC (y:Nat) (ys:List Nat):tO 11 (rows tm (y::ys)) (ci 0)=some (tm y):=wY (k:=0) dS rfl
theorem Ut (x:List Nat):qg 1 1 [rows tm x]=some (.slice (kI x) 1):=by simp [qg,aD,kI]
theorem MN {l:Ts} {x:List Nat} (h:l.length < 1000):BK 1 24 (.slice (kI x) 1) (rows kI l)=some (rows kI (l++[x])):=DR dm (by decide) (by unfold aD;omega) (by unfold aD;omega)
theorem Za (y:Nat) (ys:List Nat):yz 11 (some (ci 1)) none (rows tm (y::ys))=some (rows tm ys):=by have h1:(tm y).length=11:=dS y;have h2:(ys.flatMap tm).length=ys.length * 11:=u7 dS ys;simp [yz,rows,VA,RV,ci,h1,h2];exact List.take_of_length_le (by omega)
section
variable {nat:Nat->List V->Option (List V)}
theorem x49 (x:List Nat):kL (T nat).G 31 [.v (.one (rows tm x))] []=some ([.one (cb x.isEmpty)],[]):=by
 have h:((x.length:Int)==0)=x.isEmpty:=by
  cases x with
  |nil=>rfl
  |cons a b=>
   have:¬((b.length:Int)+1=0):=by omega
   simpa using this
 rw [jD V7];simp [t31,zG,wD,h]
theorem H8 (l:Ts) (hl:l.length < 1000):∀(m k:Nat),k+m=l.length->
  uh (T nat).G 582 0 [.c (rows kI l),.c (ci l.length),.c (ci k)]=some ([.one (ci (fE k (l.drop k)))],[])
 |0,k,hk=>by
  have hlt:¬((k:Int) < (l.length:Int)):=by omega
  rw [gH Ed (t:=M0.heads[0]) rfl,uq (by omega)]
  simp [M0,zG,hlt,fE]
 |m+1,k,hk'=>by
  have hkr:k < l.length:=by omega
  have hlt:((k:Int) < (l.length:Int)):=by omega
  have hs:=oN k (by omega)
  have hi:=H8 l hl m (k+1) (by omega)
  have h49:=x49 (nat:=nat) l[k];rw [gH Ed (t:=M0.heads[0]) rfl,drop_at hkr,fE];cases he:l[k].isEmpty<;>rw [he] at h49<;>simp [-Int.natCast_add,M0,zG,hlt,Yu hkr,xI,h49,hs,hi,dm]
theorem ad5 (l:Ts) (hl:l.length < 1000):kL (T nat).G 554 [.v (.one (rows kI l)),.ref 0 0] []=some ([.one (cb (l.any List.isEmpty))],[]):=by
 have h3:=H8 (nat:=nat) l hl l.length 0 (by omega)
 simp only [List.drop_zero,Int.natCast_zero] at h3;have h5:kL (T nat).G 582 [.v (.one (rows kI l)),.ref 0 0] []=some ([.one (ci (fE 0 l))],[]):=by rw [jD Ed];simp [M0,zG,pF,h3]
 rw [jD Tp];have h6:=Yd l 0;simp [Zg,zG,h5,h6]
end
end Go.Ey.Pr
namespace Go.Ey.Pr
open Go.Ey Go.Ey.Rc
theorem rd1:gq R7 4000 4000 36 0 3 10 Bw=.stop rs1:=by kernel_rfl
theorem rd4:(jk R7 4000).hd 36 0 3 rs3=.ret rvW []:=by kernel_rfl
end Go.Ey.Pr
