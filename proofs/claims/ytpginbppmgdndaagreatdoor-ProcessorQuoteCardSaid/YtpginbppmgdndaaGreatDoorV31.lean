/- A part of the proof. -/
import Derived.Test.YtpginbppmgdndaaGreatDoorV30
import Derived.Lib.LaidTab
import Derived.Shelf.LaysM
import Derived.Shelf.Strconv.Itoa3
import Derived.Shelf.Pu.ParseUintPublic10
import Derived.Lib.AtoiErrMem
import Derived.KernelRfl
import Derived.Shelf.Strings.Builder1
import Derived.WalkKit
import Derived.BigCall
set_option linter.all false
set_option maxHeartbeats 4000000
namespace Go.Ey.Pr
open Go.Ey Go.Ey.Seat
def t128:TFun:=⟨[.one],[],
 .call 176 [(.v (.one (.v 0)))] [] [none] [] <|
 .ret [(.one (.v 1))] [],
 []⟩
def t176:TFun:=⟨[.one],[],
 .call 209 [(.v (.one (.v 0)))] [] [none] [] <|
 .ret [(.one (.v 1))] [],
 []⟩
def t209:TFun:=⟨[.one],[],
 .call 238 [(.v (.one (.v 0))),(.v (.one (.k (.int .i64 10))))] [] [none] [] <|
 .ret [(.one (.v 1))] [],
 []⟩
def strN (n:Int):ByteArray:=
 if n=0 then ⟨#[48]⟩ else if n=1 then ⟨#[49]⟩ else if n=2 then ⟨#[50]⟩ else if n=3 then ⟨#[51]⟩ else if n=-1 then ⟨#[45,49]⟩ else if n=-2 then ⟨#[45,50]⟩ else ⟨#[45,51]⟩
def NatF (nat:Nat→List V→Option (List V)):Prop:=
 ∀n:Int,-3≤n→n≤3→nat 238 [.one (ci n),.one (ci 10)]=some [.one (cs (strN n))]
theorem NatF.i {nat:Nat→List V→Option (List V)} (h:NatF nat):NatI nat:=⟨h 0 (by omega) (by omega),h 1 (by omega) (by omega)⟩
section
variable {nat:Nat→List V→Option (List V)}
theorem tree128:(T nat).G.fn 128=some t128:=by kernel_rfl
theorem tree176:(T nat).G.fn 176=some t176:=by kernel_rfl
theorem tree209:(T nat).G.fn 209=some t209:=by kernel_rfl
theorem x128 (h:NatF nat) {n:Int} (h1:-3≤n) (h2:n≤3):fnT (T nat).G 128 [.v (.one (ci n))] []=some ([.one (cs (strN n))],[]):=by
 have e1:=fmt_fn (h n h1 h2)
 have e2:fnT (T nat).G 209 [.v (.one (ci n))] []=some ([.one (cs (strN n))],[]):=by
  rw [fnT_eq tree209];simp [t209,zS,e1]
 have e3:fnT (T nat).G 176 [.v (.one (ci n))] []=some ([.one (cs (strN n))],[]):=by
  rw [fnT_eq tree176];simp [t176,zS,e2]
 rw [fnT_eq tree128];simp [t128,zS,e3]
theorem strN_mem {n:Int} (h1:-3≤n) (h2:n≤3):(strN n,(⟨#[49]⟩:ByteArray))∈small∧numO n=.num (strN n) ⟨#[49]⟩:=by
 have h:n=-3∨n=-2∨n=-1∨n=0∨n=1∨n=2∨n=3:=by omega
 rcases h with rfl|rfl|rfl|rfl|rfl|rfl|rfl<;>simp [strN,small,numO]
theorem nums_ok (h:NatF nat):NumsOK nat:=by
 refine ⟨fun n h1 h2=>?_,x48 h.i (⟨#[49]⟩,⟨#[50]⟩) (by simp [small]),x48 h.i (⟨#[45,53]⟩,⟨#[51]⟩) (by simp [small])⟩
 obtain ⟨g1,g2⟩:=strN_mem h1 h2
 have e1:=x48 h.i _ g1
 rw [g2,fnT_eq tree47]
 simp only at e1
 simp [t47,zS,x128 h h1 h2,e1,enc_len]
def Lowest (nat:Nat→List V→Option (List V)):Prop:=
 ∀p∈small,fnT (T nat).G 189 [.v (.one (cs p.1)),.v (.one (cs p.2))] []=some yes
theorem x188n (a b:ByteArray):fnT (T nat).G 188 [.v (.agg (enc (.num a b))),.v (.one (cb true)),.v (.one (cb false)),.v (.one (cb false))] []=some ([.one (cb true)],[]):=by
 rw [fnT_eq tree188]
 simp [t188,zZ,enc]
theorem x150n (hl:Lowest nat) (p:ByteArray×ByteArray) (h:p∈small):fnT (T nat).G 150 [.v (.agg (enc (.num p.1 p.2)))] []=some yes:=by
 have q0:nthC (enc (.num p.1 p.2)) 0=ci 1:=rfl
 have q1:nthC (enc (.num p.1 p.2)) 1=cs p.1:=rfl
 have q2:nthC (enc (.num p.1 p.2)) 2=cs p.2:=rfl
 have q6:nthC (enc (.num p.1 p.2)) 6=cz:=rfl
 rw [x150f,hdT_eq tree150 (t:=t150.heads[0]) rfl]
 simp [t150,zS,q0,q1,q2,q6,x188n,hl p h,enc_len,yes]
theorem atoms_ok (h:NatF nat) (hl:Lowest nat):AtomsOK nat:=by
 refine ⟨fun o ho=>?_,at239 h.i,at240 h.i⟩
 cases o with
 |num n d=>
  have hm:(n,d)∈small:=by
   simp only [atoms,more,List.mem_append,List.mem_map,and_false,exists_false,oNil,oT,List.mem_cons,List.mem_nil_iff,or_false,reduceCtorEq,false_or,Ob.num.injEq] at ho
   simp only [small,List.mem_cons,Prod.mk.injEq,List.mem_nil_iff,or_false]
   rcases ho with h|h|h|h|h|h|h|h|h<;>simp [h]
  exact x150n hl (n,d) hm
 |sy p s=>exact at150 h.i _ (List.mem_filter.2 ⟨ho,rfl⟩)
 |st t=>exact at150 h.i _ (List.mem_filter.2 ⟨ho,rfl⟩)
 |cons a b=>exact absurd (atoms_leaf _ ho) (by simp [isCons])
end
end Go.Ey.Pr

namespace Go.Ey
open Go
@[reducible] def tabKeeps (P:Program) (l:List (String×IntKind×List Int)):Keeps where
  Inv B w:=∀t∈l,∃g,P.globalNamed t.1=some g∧g < B∧Lib.TabIs P w t.1 t.2.1 t.2.2
  keep:=fun {B w w'} hb h t ht=>by
   obtain ⟨g,h1,h2,h3⟩:=h t ht
   refine ⟨g,h1,h2,?_⟩
   unfold Lib.TabIs World.var? at h3 ⊢
   rw [h1] at h3 ⊢
   simp only [Option.bind_some] at h3 ⊢
   rw [hb.block g h2]
   exact h3
  mono:=fun hB h t ht=>by
   obtain ⟨g,h1,h2,h3⟩:=h t ht
   exact ⟨g,h1,Nat.lt_of_lt_of_le h2 hB,h3⟩
theorem tabKeeps_at {P:Program} {l:List (String×IntKind×List Int)} {B:Nat} {w:World} (h:(tabKeeps P l).Inv B w) {t:String×IntKind×List Int} (ht:t∈l):Lib.TabIs P w t.1 t.2.1 t.2.2:=by
 obtain ⟨_,_,_,h3⟩:=h t ht
 exact h3
end Go.Ey

namespace Go.Proofs
open Go.Shelf Go.RowKit
def Tryz.laysM246R:Go.Shelf.Ren:=⟨fun|246=>238|283=>264|284=>265|285=>266|286=>267|129=>291|317=>290|318=>292|319=>293|320=>294|337=>322|338=>323|n=>n,fun|171=>264|53=>82|37=>22|173=>267|212=>285|51=>26|213=>286|46=>288|232=>318|233=>319|n=>n,fun|17=>0|18=>1|19=>2|n=>n⟩
theorem Tryz.laysM246:LaysM.n246 Tryz.prog Tryz.laysM246R where
 mixed:=by kernel_rfl
 f129:=Tryz.func291.trans (congrArg some (by kernel_rfl))
 f246:=Tryz.func238.trans (congrArg some (by kernel_rfl))
 f283:=Tryz.func264.trans (congrArg some (by kernel_rfl))
 f284:=Tryz.func265.trans (congrArg some (by kernel_rfl))
 f285:=Tryz.func266.trans (congrArg some (by kernel_rfl))
 f286:=Tryz.func267.trans (congrArg some (by kernel_rfl))
 f317:=Tryz.func290.trans (congrArg some (by kernel_rfl))
 f318:=Tryz.func292.trans (congrArg some (by kernel_rfl))
 f319:=Tryz.func293.trans (congrArg some (by kernel_rfl))
 f320:=Tryz.func294.trans (congrArg some (by kernel_rfl))
 f337:=Tryz.func322.trans (congrArg some (by kernel_rfl))
 f338:=Tryz.func323.trans (congrArg some (by kernel_rfl))
 t0:=Tryz.underlying0
 a0:=Tryz.isAgg0
 z0:=Tryz.sizeOf0
 v0:=Tryz.zeroValue0
 t2:=Tryz.underlying2
 a2:=Tryz.isAgg2
 z2:=Tryz.sizeOf2
 v2:=Tryz.zeroValue2
 t3:=Tryz.underlying3
 a3:=Tryz.isAgg3
 z3:=Tryz.sizeOf3
 v3:=Tryz.zeroValue3
 t4:=Tryz.underlying4
 a4:=Tryz.isAgg4
 z4:=Tryz.sizeOf4
 v4:=Tryz.zeroValue4
 t5:=Tryz.underlying5
 a5:=Tryz.isAgg5
 z5:=Tryz.sizeOf5
 v5:=Tryz.zeroValue5
 t9:=Tryz.underlying9
 a9:=Tryz.isAgg9
 z9:=Tryz.sizeOf9
 v9:=Tryz.zeroValue9
 t20:=Tryz.underlying20
 a20:=Tryz.isAgg20
 z20:=Tryz.sizeOf20
 v20:=Tryz.zeroValue20
 t37:=Tryz.underlying22
 a37:=Tryz.isAgg22
 z37:=Tryz.sizeOf22
 v37:=Tryz.zeroValue22
 t46:=Tryz.underlying288
 a46:=Tryz.isAgg288
 z46:=Tryz.sizeOf288
 v46:=Tryz.zeroValue288
 t51:=Tryz.underlying26
 a51:=Tryz.isAgg26
 z51:=Tryz.sizeOf26
 v51:=Tryz.zeroValue26
 t53:=Tryz.underlying82
 a53:=Tryz.isAgg82
 z53:=Tryz.sizeOf82
 v53:=Tryz.zeroValue82
 t171:=Tryz.underlying264
 a171:=Tryz.isAgg264
 z171:=Tryz.sizeOf264
 v171:=Tryz.zeroValue264
 t173:=Tryz.underlying267
 a173:=Tryz.isAgg267
 z173:=Tryz.sizeOf267
 v173:=Tryz.zeroValue267
 t212:=Tryz.underlying285
 a212:=Tryz.isAgg285
 z212:=Tryz.sizeOf285
 v212:=Tryz.zeroValue285
 t213:=Tryz.underlying286
 a213:=Tryz.isAgg286
 z213:=Tryz.sizeOf286
 t232:=Tryz.underlying318
 a232:=Tryz.isAgg318
 z232:=Tryz.sizeOf318
 v232:=Tryz.zeroValue318
 t233:=Tryz.underlying319
 a233:=Tryz.isAgg319
 z233:=Tryz.sizeOf319
 v233:=Tryz.zeroValue319
 g17:=by kernel_rfl
 g18:=by kernel_rfl
 g19:=by kernel_rfl
 i0:=by kernel_rfl
 i2:=by kernel_rfl
 i3:=by kernel_rfl
 i4:=by kernel_rfl
 i5:=by kernel_rfl
 i9:=by kernel_rfl
 i20:=by kernel_rfl
 i37:=by kernel_rfl
 i46:=by kernel_rfl
 i51:=by kernel_rfl
 i53:=by kernel_rfl
 i171:=by kernel_rfl
 i173:=by kernel_rfl
 i212:=by kernel_rfl
 i232:=by kernel_rfl
 i233:=by kernel_rfl
 m17:=by kernel_rfl
 m18:=by kernel_rfl
 m19:=by kernel_rfl
end Go.Proofs
set_option maxHeartbeats 4000000
namespace Go.Ey.Pr
open Go Go.Ey Go.Ey.Seat
noncomputable abbrev keeps:Keeps:=tabKeeps PP [("internal/strconv.uint64pow10",.u64,Lib.pow10Tab)]
noncomputable instance:Keeps:=keeps
theorem strN_itoa {n:Int} (h1:-3≤n) (h2:n≤3):(⟨(Lib.itoa n).toArray⟩:ByteArray)=strN n:=by
 have h:n=-3∨n=-2∨n=-1∨n=0∨n=1∨n=2∨n=3:=by omega
 rcases h with rfl|rfl|rfl|rfl|rfl|rfl|rfl<;>simp [Lib.itoa,Lib.decDigits,strN]
theorem call_of {P:Program} {f:Nat} (h:(P.funcs[f]?).any (fun fn=>!fn.body.isNone && !(fn.name== "runtime.NumGoroutine"))=true):Callable P f:=by
 cases hf:P.funcs[f]? with
 |none=>rw [hf] at h;cases h
 |some fn=>
  rw [hf] at h
  simp only [Option.any_some,Bool.and_eq_true,Bool.not_eq_true'] at h
  exact ⟨fn,hf,h.1,h.2⟩
theorem call238:Callable PP 238:=call_of (by kernel_rfl)
theorem call296:Callable PP 296:=call_of (by kernel_rfl)
theorem fok238 {n:Int} (h1:-3≤n) (h2:n≤3):FnOK PP 238 [.one (ci n),.one (ci 10)] [.one (cs (strN n))]:=by
 refine ⟨call238,fun S w us hinv hall=>?_⟩
 match us,hall with
 |[u,v],⟨hu,hv,_⟩=>
  have e1:u=.int .i64 n:=hu.1
  have e2:v=.int .i64 10:=hv.1
  subst e1 e2
  have htab:Lib.TabIs PP w "internal/strconv.uint64pow10" .u64 Lib.pow10Tab:=tabKeeps_at hinv (t:=("internal/strconv.uint64pow10",.u64,Lib.pow10Tab)) (by simp)
  have hc:=Go.Proofs.Any.internal_strconv_FormatInt_10 Go.Proofs.Tryz.laysM246 n (by omega) (by omega) w htab
  refine Calls.mono (show Calls PP 238 #[.int .i64 n,.int .i64 10] w _ from hc) ?_
  rintro e w' ⟨rfl,k,os,rfl⟩
  refine ⟨_,rfl,⟨?_,rfl⟩,?_⟩
  ·rw [strN_itoa h1 h2]
  ·exact ⟨rfl,rfl,rfl,by
    show w.heap.size≤(w.heap++os).size
    rw [Array.size_append];omega,fun k' hk=>by
    show (w.heap++os)[k']?=_
    rw [Array.getElem?_append_left hk]⟩
end Go.Ey.Pr

namespace Go.Ey.Pr
open Go.Ey Go.Ey.Seat
def k189:KFun:=⟨[none,none],[],(.call 221 [(.one (.v 1))] [] [none] [] (.opc (.not (.v 0)) (.ite (.v 0) (.ret [(.one (.k (.b false)))] []) (.call 221 [(.one (.v 2))] [] [none] [] (.opc (.not (.v 0)) (.ite (.v 0) (.ret [(.one (.k (.b false)))] []) (.call 222 [(.one (.v 5))] [] [none] [] (.opc (.gtr (.v 0) (.k (.i .i64 (.ofNat 100)))) (.ite (.v 0) (.ret [(.one (.k (.b false)))] []) (.call 222 [(.one (.v 6))] [] [none] [] (.opc (.gtr (.v 0) (.k (.i .i64 (.ofNat 100)))) (.ite (.v 0) (.ret [(.one (.k (.b false)))] []) (.call 223 [(.one (.v 9)),(.one (.v 8))] [] [none,none] [] (.opc (.eql (.v 1) (.v 11)) (.ite (.v 0) (.opc (.eql (.v 1) (.v 11)) (.ret [(.one (.v 0))] [])) (.ret [(.one (.k (.b false)))] [])))))))))))))))),[]⟩
theorem r189 (nat:Nat→List V→Option (List V)):(T nat).krow 189=some k189:=by kernel_rfl
def k221:KFun:=⟨[none],[],(.call 241 [(.one (.v 0)),(.one (.k (.s 1 45)))] [] [none] [] (.opc (.eql (.v 0) (.k (.s 0 0))) (.ite (.v 0) (.opc (.eql (.v 2) (.k (.s 1 48))) (.ret [(.one (.v 0))] [])) (.opc (.sidx (.v 1) (.k (.i .i64 (.ofNat 0)))) (.opc (.eql (.v 0) (.k (.i .u8 (.ofNat 48)))) (.ite (.v 0) (.opc (.eql (.v 4) (.k (.s 1 48))) (.ret [(.one (.v 0))] [])) (.opc (.len true (.v 3)) (.goto 0 3 [(.one (.v 4)),(.one (.v 0)),(.one (.k (.i .i64 (.ofNat 0))))])))))))),[(3,(.opc (.lss (.v 0) (.v 1)) (.ite (.v 0) (.opc (.sidx (.v 3) (.v 1)) (.opc (.lss (.v 0) (.k (.i .u8 (.ofNat 48)))) (.ite (.v 0) (.ret [(.one (.k (.b false)))] []) (.opc (.sidx (.v 5) (.v 3)) (.opc (.gtr (.v 0) (.k (.i .u8 (.ofNat 57)))) (.ite (.v 0) (.ret [(.one (.k (.b false)))] []) (.opc (.add (.v 5) (.k (.i .i64 (.ofNat 1)))) (.goto 0 3 [(.one (.v 8)),(.one (.v 7)),(.one (.v 0))])))))))) (.ret [(.one (.k (.b true)))] []))))]⟩
theorem r221 (nat:Nat→List V→Option (List V)):(T nat).krow 221=some k221:=by kernel_rfl
def k222:KFun:=⟨[none],[],(.call 242 [(.one (.v 0))] [] [none] [] (.call 241 [(.one (.v 0)),(.one (.k (.s 1 45)))] [] [none] [] (.opc (.len true (.v 0)) (.ret [(.one (.v 0))] [])))),[]⟩
theorem r222 (nat:Nat→List V→Option (List V)):(T nat).krow 222=some k222:=by kernel_rfl
def k223:KFun:=⟨[none,none],[],(.call 242 [(.one (.v 1))] [] [none] [] (.call 242 [(.one (.v 1))] [] [none] [] (.opc (.eql (.v 0) (.k (.s 1 48))) (.ite (.v 0) (.ret [(.one (.k (.s 1 48))),(.one (.k (.s 1 49)))] []) (.opc (.eql (.v 1) (.k (.s 1 49))) (.ite (.v 0) (.ret [(.one (.v 3)),(.one (.v 2))] []) (.opc (.sidx (.v 2) (.k (.i .i64 (.ofNat 0)))) (.opc (.eql (.v 0) (.k (.i .u8 (.ofNat 45)))) (.ite (.v 0) (.call 243 [(.one (.v 5))] [] [none] [] (.call 243 [(.one (.v 5))] [] [none] [] (.call 244 [(.one (.v 1)),(.one (.v 0))] [] [none] [] (.opc (.eql (.v 0) (.k (.s 1 49))) (.ite (.v 0) (.ret [(.one (.v 3)),(.one (.v 2))] []) (.call 245 [(.one (.v 3)),(.one (.v 1))] [] [none,none] [] (.call 245 [(.one (.v 4)),(.one (.v 3))] [] [none,none] [] (.ret [(.one (.v 3)),(.one (.v 1))] [])))))))) (.call 244 [(.one (.v 5)),(.one (.v 4))] [] [none] [] (.opc (.eql (.v 0) (.k (.s 1 49))) (.ite (.v 0) (.ret [(.one (.v 7)),(.one (.v 6))] []) (.call 245 [(.one (.v 7)),(.one (.v 1))] [] [none,none] [] (.call 245 [(.one (.v 8)),(.one (.v 3))] [] [none,none] [] (.ret [(.one (.v 3)),(.one (.v 1))] []))))))))))))))),[]⟩
theorem r223 (nat:Nat→List V→Option (List V)):(T nat).krow 223=some k223:=by kernel_rfl
def k241:KFun:=⟨[none,none],[],(.call 269 [(.one (.v 1)),(.one (.v 0))] [] [none] [] (.ret [(.one (.v 0))] [])),[]⟩
theorem r241 (nat:Nat→List V→Option (List V)):(T nat).krow 241=some k241:=by kernel_rfl
def k242:KFun:=⟨[none],[],(.call 221 [(.one (.v 0))] [] [none] [] (.ite (.v 0) (.ret [(.one (.v 1))] []) (.ret [(.one (.k (.s 1 48)))] []))),[]⟩
theorem r242 (nat:Nat→List V→Option (List V)):(T nat).krow 242=some k242:=by kernel_rfl
def k269:KFun:=⟨[none,none],[],(.call 295 [(.one (.v 1)),(.one (.v 0))] [] [none] [] (.ite (.v 0) (.opc (.len true (.v 1)) (.opc (.sstr (.v 3) (some (.v 0)) none) (.ret [(.one (.v 0))] []))) (.ret [(.one (.v 2))] []))),[]⟩
theorem r269 (nat:Nat→List V→Option (List V)):(T nat).krow 269=some k269:=by kernel_rfl
def k270:KFun:=⟨[none],[],(.call 242 [(.one (.v 0))] [] [none] [] (.call 241 [(.one (.v 0)),(.one (.k (.s 1 45)))] [] [none] [] (.opc (.len true (.v 0)) (.opc (.len true (.v 2)) (.opc (.lss (.v 1) (.v 0)) (.goto 0 5 [(.one (.v 3)),(.one (.k (.b false))),(.one (.k (.sl 0 [] 0))),(.one (.v 0)),(.one (.k (.sl 0 [] 0)))])))))),[(5,(.opc (.len true (.v 4)) (.opc (.gtr (.v 0) (.k (.i .i64 (.ofNat 0)))) (.ite (.v 0) (.opc (.len true (.v 6)) (.opc (.sub (.v 0) (.k (.i .i64 (.ofNat 9)))) (.opc (.mx (.k (.i .i64 (.ofNat 0))) (.v 0)) (.opc (.sstr (.v 9) (some (.v 0)) none) (.call 296 [(.one (.v 0)),(.one (.k (.i .i64 (.ofNat 10)))),(.one (.k (.i .i64 (.ofNat 32))))] [] [none,none] [] (.opc (.conv .u32 (.v 1)) (.opc (.lits 1 1 [(.v 0)]) (.opc (.app 1 4 (.v 10) (.v 0)) (.opc (.sstr (.v 15) none (some (.v 6))) (.goto 0 5 [(.one (.v 0)),(.one (.v 15)),(.one (.v 14)),(.one (.v 13)),(.one (.v 1))])))))))))) (.call 297 [(.one (.v 2))] [] [none] [] (.ret [(.agg (.lit 2 [(.v 4),(.v 0)]))] []))))))]⟩
theorem r270 (nat:Nat→List V→Option (List V)):(T nat).krow 270=some k270:=by kernel_rfl
def k271:KFun:=⟨[none,none],[],(.opc (.len false (.v 1)) (.opc (.mk 1 4 [(.i .u32 (.ofNat 0))] (.v 0) (.v 0)) (.opc (.len false (.v 3)) (.opc (.sub (.v 0) (.k (.i .i64 (.ofNat 1)))) (.goto 0 5 [(.one (.v 5)),(.one (.v 0)),(.agg (.lit 1 [(.v 4)])),(.one (.v 2)),(.one (.k (.sl 0 [] 0)))]))))),[(5,(.opc (.geq (.v 3) (.k (.i .i64 (.ofNat 0)))) (.ite (.v 0) (.row 1 (.v 5) (.v 4) (.opc (.lits 1 1 [(.n 0 0)]) (.opc (.app 1 4 (.v 0) (.v 3)) (.call 297 [(.one (.v 0))] [] [none] [] (.call 298 [(.one (.v 0)),(.one (.n 7 0))] [] [none] [] (.opc (.geq (.v 0) (.k (.i .i64 (.ofNat 0)))) (.ite (.v 0) (.call 400 [(.one (.k (.i .i64 (.ofNat 1000000000))))] [(.all 9),(.lit 1 [(.v 2)])] [none] [1,1] (.opc (.sub (.v 2) (.k (.i .i64 (.ofNat 1)))) (.opc (.conv .u32 (.v 0)) (.opc (.lits 1 1 [(.v 0)]) (.call 297 [(.one (.v 0))] [] [none] [] (.call 301 [(.one (.n 5 0)),(.one (.v 0))] [] [none] [] (.call 274 [(.one (.n 5 0)),(.one (.v 0))] [] [none] [] (.row 1 (.v 17) (.v 19) (.opc (.set 1 (.v 18) (.v 20) 0 1 [(.v 5)]) (.opc (.sub (.v 21) (.k (.i .i64 (.ofNat 1)))) (.goto 0 5 [(.one (.v 23)),(.one (.v 0)),(.agg (.all 10)),(.one (.v 1)),(.one (.v 3))]))))))))))) (.row 1 (.v 8) (.v 10) (.opc (.set 1 (.v 9) (.v 11) 0 1 [(.k (.i .u32 (.ofNat 0)))]) (.opc (.sub (.v 12) (.k (.i .i64 (.ofNat 1)))) (.goto 0 5 [(.one (.v 14)),(.one (.v 0)),(.agg (.all 12)),(.one (.v 1)),(.one (.v 5))]))))))))))) (.call 297 [(.one (.v 2))] [] [none] [] (.ret [(.one (.v 0)),(.one (.v 2))] [])))))]⟩
theorem r271 (nat:Nat→List V→Option (List V)):(T nat).krow 271=some k271:=by kernel_rfl
def k274:KFun:=⟨[none,none],[],(.opc (.len false (.v 1)) (.opc (.mk 1 4 [(.i .u32 (.ofNat 0))] (.v 0) (.v 0)) (.opc (.len false (.v 3)) (.goto 0 6 [(.one (.v 4)),(.one (.v 3)),(.one (.k (.i .i64 (.ofNat 0)))),(.one (.v 0)),(.one (.k (.i .i64 (.ofNat 0)))),(.one (.v 1))])))),[(6,(.opc (.lss (.v 1) (.v 2)) (.ite (.v 0) (.row 1 (.v 6) (.v 2) (.opc (.conv .i64 (.n 0 0)) (.opc (.sub (.v 0) (.v 6)) (.opc (.len false (.v 8)) (.opc (.lss (.v 6) (.v 0)) (.ite (.v 0) (.row 1 (.v 10) (.v 7) (.opc (.conv .i64 (.n 0 0)) (.opc (.sub (.v 4) (.v 0)) (.opc (.lss (.v 0) (.k (.i .i64 (.ofNat 0)))) (.ite (.v 0) (.opc (.add (.v 1) (.k (.i .i64 (.ofNat 1000000000)))) (.opc (.conv .u32 (.v 0)) (.row 1 (.v 12) (.v 13) (.opc (.set 1 (.v 13) (.v 14) 0 1 [(.v 1)]) (.opc (.add (.v 15) (.k (.i .i64 (.ofNat 1)))) (.goto 0 6 [(.one (.v 20)),(.one (.v 19)),(.one (.k (.i .i64 (.ofNat 1)))),(.one (.v 17)),(.one (.v 0)),(.one (.v 1))])))))) (.opc (.conv .u32 (.v 1)) (.row 1 (.v 11) (.v 12) (.opc (.set 1 (.v 12) (.v 13) 0 1 [(.v 1)]) (.opc (.add (.v 14) (.k (.i .i64 (.ofNat 1)))) (.goto 0 6 [(.one (.v 19)),(.one (.v 18)),(.one (.k (.i .i64 (.ofNat 0)))),(.one (.v 16)),(.one (.v 0)),(.one (.v 1))])))))))))) (.opc (.lss (.v 2) (.k (.i .i64 (.ofNat 0)))) (.ite (.v 0) (.opc (.add (.v 3) (.k (.i .i64 (.ofNat 1000000000)))) (.opc (.conv .u32 (.v 0)) (.row 1 (.v 9) (.v 10) (.opc (.set 1 (.v 10) (.v 11) 0 1 [(.v 1)]) (.opc (.add (.v 12) (.k (.i .i64 (.ofNat 1)))) (.goto 0 6 [(.one (.v 17)),(.one (.v 16)),(.one (.k (.i .i64 (.ofNat 1)))),(.one (.v 14)),(.one (.v 0)),(.one (.v 1))])))))) (.opc (.conv .u32 (.v 3)) (.row 1 (.v 8) (.v 9) (.opc (.set 1 (.v 9) (.v 10) 0 1 [(.v 1)]) (.opc (.add (.v 11) (.k (.i .i64 (.ofNat 1)))) (.goto 0 6 [(.one (.v 16)),(.one (.v 15)),(.one (.k (.i .i64 (.ofNat 0)))),(.one (.v 13)),(.one (.v 0)),(.one (.v 1))]))))))))))))) (.call 297 [(.one (.v 1))] [] [none] [] (.ret [(.one (.v 0))] [])))))]⟩
theorem r274 (nat:Nat→List V→Option (List V)):(T nat).krow 274=some k274:=by kernel_rfl
def k295:KFun:=⟨[none,none],[],(.opc (.len true (.v 1)) (.opc (.len true (.v 1)) (.opc (.geq (.v 1) (.v 0)) (.ite (.v 0) (.opc (.len true (.v 3)) (.opc (.sstr (.v 5) none (some (.v 0))) (.opc (.eql (.v 0) (.v 5)) (.ret [(.one (.v 0))] [])))) (.ret [(.one (.k (.b false)))] []))))),[]⟩
theorem r295 (nat:Nat→List V→Option (List V)):(T nat).krow 295=some k295:=by kernel_rfl
def k297:KFun:=⟨[none],[],(.goto 0 1 [(.one (.v 0))]),[(1,(.opc (.len false (.v 0)) (.opc (.gtr (.v 0) (.k (.i .i64 (.ofNat 0)))) (.ite (.v 0) (.opc (.len false (.v 2)) (.opc (.sub (.v 0) (.k (.i .i64 (.ofNat 1)))) (.row 1 (.v 4) (.v 0) (.opc (.eql (.n 0 0) (.k (.i .u32 (.ofNat 0)))) (.ite (.v 0) (.opc (.len false (.v 6)) (.opc (.sub (.v 0) (.k (.i .i64 (.ofNat 1)))) (.opc (.slc 1 (.v 8) none (some (.v 0))) (.goto 0 1 [(.one (.v 0))])))) (.ret [(.one (.v 6))] [])))))) (.ret [(.one (.v 2))] [])))))]⟩
theorem r297 (nat:Nat→List V→Option (List V)):(T nat).krow 297=some k297:=by kernel_rfl
def k298:KFun:=⟨[none,none],[],(.opc (.len false (.v 1)) (.opc (.len false (.v 1)) (.opc (.neq (.v 1) (.v 0)) (.ite (.v 0) (.opc (.len false (.v 4)) (.opc (.len false (.v 4)) (.opc (.lss (.v 1) (.v 0)) (.ite (.v 0) (.ret [(.one (.k (.i .i64 (.negSucc 0))))] []) (.ret [(.one (.k (.i .i64 (.ofNat 1))))] []))))) (.opc (.len false (.v 4)) (.opc (.sub (.v 0) (.k (.i .i64 (.ofNat 1)))) (.goto 0 3 [(.one (.v 6)),(.one (.v 5)),(.one (.v 0))]))))))),[(3,(.opc (.geq (.v 0) (.k (.i .i64 (.ofNat 0)))) (.ite (.v 0) (.row 1 (.v 3) (.v 1) (.row 1 (.v 3) (.v 2) (.opc (.neq (.n 1 0) (.n 0 0)) (.ite (.v 0) (.row 1 (.v 6) (.v 4) (.row 1 (.v 6) (.v 5) (.opc (.lss (.n 1 0) (.n 0 0)) (.ite (.v 0) (.ret [(.one (.k (.i .i64 (.negSucc 0))))] []) (.ret [(.one (.k (.i .i64 (.ofNat 1))))] []))))) (.opc (.sub (.v 4) (.k (.i .i64 (.ofNat 1)))) (.goto 0 3 [(.one (.v 7)),(.one (.v 6)),(.one (.v 0))])))))) (.ret [(.one (.k (.i .i64 (.ofNat 0))))] []))))]⟩
theorem r298 (nat:Nat→List V→Option (List V)):(T nat).krow 298=some k298:=by kernel_rfl
def k300:KFun:=⟨[none],[1,1],(.opc (.conv .u32 (.v 2)) (.opc (.lits 1 1 [(.v 0)]) (.call 301 [(.one (.n 3 0)),(.one (.v 0))] [] [none] [] (.call 298 [(.one (.v 0)),(.one (.n 3 0))] [] [none] [] (.opc (.gtr (.v 0) (.k (.i .i64 (.ofNat 0)))) (.ret [(.one (.v 0))] [(.all 6),(.all 5)])))))),[]⟩
theorem r300 (nat:Nat→List V→Option (List V)):(T nat).krow 300=some k300:=by kernel_rfl
def k301:KFun:=⟨[none,none],[],(.opc (.len false (.v 1)) (.opc (.len false (.v 1)) (.opc (.add (.v 1) (.v 0)) (.opc (.mk 1 4 [(.i .u32 (.ofNat 0))] (.v 0) (.v 0)) (.opc (.len false (.v 5)) (.goto 0 5 [(.one (.v 5)),(.one (.v 6)),(.one (.v 0)),(.one (.k (.i .i64 (.ofNat 0)))),(.one (.v 1))])))))),[(5,(.opc (.lss (.v 1) (.v 2)) (.ite (.v 0) (.row 1 (.v 4) (.v 2) (.opc (.len false (.v 6)) (.goto 1 11 [(.one (.v 7)),(.one (.v 4)),(.one (.n 1 0)),(.one (.k (.i .u64 (.ofNat 0)))),(.one (.v 6)),(.one (.v 5)),(.one (.v 4)),(.one (.v 7)),(.one (.v 0)),(.one (.k (.i .i64 (.ofNat 0)))),(.one (.v 3))]))) (.call 297 [(.one (.v 1))] [] [none] [] (.ret [(.one (.v 0))] []))))),
 (11,(.opc (.lss (.v 1) (.v 2)) (.ite (.v 0) (.row 1 (.v 4) (.v 2) (.opc (.add (.v 11) (.v 3)) (.row 1 (.v 3) (.v 0) (.row 1 (.v 4) (.v 1) (.opc (.conv .u64 (.n 0 0)) (.opc (.conv .u64 (.v 14)) (.opc (.conv .u64 (.n 5 0)) (.opc (.mul (.v 1) (.v 0)) (.opc (.add (.v 3) (.v 0)) (.opc (.add (.v 0) (.v 17)) (.opc (.add (.v 20) (.v 12)) (.opc (.rem (.v 1) (.k (.i .u64 (.ofNat 1000000000)))) (.opc (.conv .u32 (.v 0)) (.opc (.quo (.v 3) (.k (.i .u64 (.ofNat 1000000000)))) (.row 1 (.v 15) (.v 3) (.opc (.set 1 (.v 16) (.v 4) 0 1 [(.v 2)]) (.opc (.add (.v 18) (.k (.i .i64 (.ofNat 1)))) (.goto 1 11 [(.one (.v 28)),(.one (.v 27)),(.one (.v 26)),(.one (.v 3)),(.one (.v 24)),(.one (.v 23)),(.one (.v 22)),(.one (.v 21)),(.one (.v 20)),(.one (.v 0)),(.one (.v 1))])))))))))))))))))) (.opc (.len false (.v 11)) (.opc (.add (.v 11) (.v 0)) (.opc (.conv .u32 (.v 10)) (.row 1 (.v 4) (.v 1) (.opc (.set 1 (.v 5) (.v 2) 0 1 [(.v 1)]) (.opc (.add (.v 10) (.k (.i .i64 (.ofNat 1)))) (.goto 0 5 [(.one (.v 17)),(.one (.v 13)),(.one (.v 12)),(.one (.v 0)),(.one (.v 1))]))))))))))]⟩
theorem r301 (nat:Nat→List V→Option (List V)):(T nat).krow 301=some k301:=by kernel_rfl
def k400:KFun:=⟨[none],[1,1],(.goto 0 4 [(.one (.k (.i .i64 (.ofNat 0)))),(.one (.v 2)),(.agg (.all 1)),(.agg (.all 0))]),[(4,(.opc (.lss (.v 3) (.v 2)) (.ite (.v 0) (.opc (.add (.v 4) (.v 3)) (.opc (.conv .u64 (.v 0)) (.opc (.shz (.v 0) (.k (.i .u64 (.ofNat 1)))) (.opc (.conv .i64 (.v 0)) (.call 300 [(.one (.v 0))] [(.all 6),(.all 5)] [none] [1,1] (.opc (.not (.v 2)) (.ite (.v 0) (.opc (.add (.v 4) (.k (.i .i64 (.ofNat 1)))) (.goto 0 4 [(.one (.v 0)),(.one (.v 12)),(.agg (.all 3)),(.agg (.all 2))])) (.goto 0 4 [(.one (.v 12)),(.one (.v 4)),(.agg (.all 2)),(.agg (.all 1))])))))))) (.ret [(.one (.v 4))] [(.all 2),(.all 1)]))))]⟩
theorem r400 (nat:Nat→List V→Option (List V)):(T nat).krow 400=some k400:=by kernel_rfl
theorem rowAdd {nat:Nat→List V→Option (List V)} {g:KG} {f:Nat} {kf:KFun} (hg:KGOK (T nat).G (T nat).psig g) (hr:(T nat).krow f=some kf):KGOK (T nat).G (T nat).psig (.node f kf g g):=⟨krow_ok hr,hg,hg⟩
def kgM0:KG:=.node 189 k189 kgD kgD
theorem kgM0_ok {nat:Nat→List V→Option (List V)} (hn:NatI nat):KGOK (T nat).G (T nat).psig kgM0:=rowAdd (kgD_ok hn) (r189 nat)
def kgM1:KG:=.node 221 k221 kgM0 kgM0
theorem kgM1_ok {nat:Nat→List V→Option (List V)} (hn:NatI nat):KGOK (T nat).G (T nat).psig kgM1:=rowAdd (kgM0_ok hn) (r221 nat)
def kgM2:KG:=.node 222 k222 kgM1 kgM1
theorem kgM2_ok {nat:Nat→List V→Option (List V)} (hn:NatI nat):KGOK (T nat).G (T nat).psig kgM2:=rowAdd (kgM1_ok hn) (r222 nat)
def kgM3:KG:=.node 223 k223 kgM2 kgM2
theorem kgM3_ok {nat:Nat→List V→Option (List V)} (hn:NatI nat):KGOK (T nat).G (T nat).psig kgM3:=rowAdd (kgM2_ok hn) (r223 nat)
def kgM4:KG:=.node 241 k241 kgM3 kgM3
theorem kgM4_ok {nat:Nat→List V→Option (List V)} (hn:NatI nat):KGOK (T nat).G (T nat).psig kgM4:=rowAdd (kgM3_ok hn) (r241 nat)
def kgM5:KG:=.node 242 k242 kgM4 kgM4
theorem kgM5_ok {nat:Nat→List V→Option (List V)} (hn:NatI nat):KGOK (T nat).G (T nat).psig kgM5:=rowAdd (kgM4_ok hn) (r242 nat)
def kgM6:KG:=.node 269 k269 kgM5 kgM5
theorem kgM6_ok {nat:Nat→List V→Option (List V)} (hn:NatI nat):KGOK (T nat).G (T nat).psig kgM6:=rowAdd (kgM5_ok hn) (r269 nat)
def kgM7:KG:=.node 270 k270 kgM6 kgM6
theorem kgM7_ok {nat:Nat→List V→Option (List V)} (hn:NatI nat):KGOK (T nat).G (T nat).psig kgM7:=rowAdd (kgM6_ok hn) (r270 nat)
def kgM8:KG:=.node 271 k271 kgM7 kgM7
theorem kgM8_ok {nat:Nat→List V→Option (List V)} (hn:NatI nat):KGOK (T nat).G (T nat).psig kgM8:=rowAdd (kgM7_ok hn) (r271 nat)
def kgM9:KG:=.node 274 k274 kgM8 kgM8
theorem kgM9_ok {nat:Nat→List V→Option (List V)} (hn:NatI nat):KGOK (T nat).G (T nat).psig kgM9:=rowAdd (kgM8_ok hn) (r274 nat)
def kgM10:KG:=.node 295 k295 kgM9 kgM9
theorem kgM10_ok {nat:Nat→List V→Option (List V)} (hn:NatI nat):KGOK (T nat).G (T nat).psig kgM10:=rowAdd (kgM9_ok hn) (r295 nat)
def kgM11:KG:=.node 297 k297 kgM10 kgM10
theorem kgM11_ok {nat:Nat→List V→Option (List V)} (hn:NatI nat):KGOK (T nat).G (T nat).psig kgM11:=rowAdd (kgM10_ok hn) (r297 nat)
def kgM12:KG:=.node 298 k298 kgM11 kgM11
theorem kgM12_ok {nat:Nat→List V→Option (List V)} (hn:NatI nat):KGOK (T nat).G (T nat).psig kgM12:=rowAdd (kgM11_ok hn) (r298 nat)
def kgM13:KG:=.node 300 k300 kgM12 kgM12
theorem kgM13_ok {nat:Nat→List V→Option (List V)} (hn:NatI nat):KGOK (T nat).G (T nat).psig kgM13:=rowAdd (kgM12_ok hn) (r300 nat)
def kgM14:KG:=.node 301 k301 kgM13 kgM13
theorem kgM14_ok {nat:Nat→List V→Option (List V)} (hn:NatI nat):KGOK (T nat).G (T nat).psig kgM14:=rowAdd (kgM13_ok hn) (r301 nat)
def kgM15:KG:=.node 400 k400 kgM14 kgM14
theorem kgM15_ok {nat:Nat→List V→Option (List V)} (hn:NatI nat):KGOK (T nat).G (T nat).psig kgM15:=rowAdd (kgM14_ok hn) (r400 nat)
def kgM:KG:=kgM15
theorem kgM_ok {nat:Nat→List V→Option (List V)} (hn:NatI nat):KGOK (T nat).G (T nat).psig kgM:=kgM15_ok hn
end Go.Ey.Pr

namespace Go.Ey
theorem args3 {p:List PS} {ts:List TA} {ys:List KW} {us:List LA} (hp:p=[.one,.one,.one]) (hf:fits p ts=true) (hr:RLs ts ys us):∃y u y2 u2 y3 u3,ys=[y,y2,y3]∧us=[.v u,.v u2,.v u3]∧RVv y u∧RVv y2 u2∧RVv y3 u3:=by
 subst hp
 cases ts with
 |nil=>cases hf
 |cons t ts=>
  cases t with
  |ref _ _=>cases hf
  |v x=>cases ys with
   |nil=>cases us with
    |nil=>exact hr.elim
    |cons u us=>cases u<;>exact hr.elim
   |cons y ys=>cases us with
    |nil=>exact hr.elim
    |cons u us=>cases u with
     |ref _ _=>exact hr.elim
     |v u=>
      obtain ⟨y2,u2,y3,u3,rfl,rfl,h,h'⟩:=args2 (ts:=ts) rfl hf hr.2
      exact ⟨y,u,y2,u2,y3,u3,rfl,rfl,hr.1,h,h'⟩
section
variable {G:GT} {sig:Nat→Option (List PS)}
def k3b (vs:List KV):KTree:=.opc (.eql (.v 2) (.k (.i .i64 32))) (.ite (.v 0) (.ret vs []) .fail)
def k3a (vs:List KV):KTree:=.opc (.eql (.v 2) (.k (.i .i64 10))) (.ite (.v 0) (k3b vs) .fail)
def k3 (l w:Nat) (vs:List KV):KFun:=⟨[none,none,none],[],.opc (.eql (.v 2) (.k (.s l w))) (.ite (.v 0) (k3a vs) .fail),[]⟩
theorem known_str3 {f l w:Nat} {vs:List KV} {ws:List KW} (hsig:sig f=some [.one,.one,.one]) (hk:∀(ρ:List KW) (k:List KW→Ans),kVs ρ vs k=k ws)
  (h:∀c,RK (.s l w) c→∃us,All2 RVv ws us∧fnT G f [.v (.one c),.v (.one (.lit (.int .i64 10))),.v (.one (.lit (.int .i64 32)))] []=some (us,[])):
  KKnown G sig f (k3 l w vs):=by
 refine ⟨rfl,fun p ts ys us zs css call head a hp hf hr hb hk2 ha=>?_⟩
 rw [hsig] at hp
 injection hp with hp
 obtain ⟨y1,u1,y2,u2,y3,u3,rfl,rfl,v1,v2,v3⟩:=args3 hp.symm hf hr
 obtain ⟨x1,rfl,h1⟩:=onC_ok (show onC y1 (fun x=>kputs [none,none] [y2,y3] [.c x] fun ρ=>kboxs [] zs ρ fun ρ=>kden (k3 l w vs).body call head ρ)=a from hk2) ha
 obtain ⟨x2,rfl,h1⟩:=onC_ok (show onC y2 (fun x2=>kputs [none] [y3] [.c x2,.c x1] fun ρ=>kboxs [] zs ρ fun ρ=>kden (k3 l w vs).body call head ρ)=a from h1) ha
 obtain ⟨x3,rfl,h1⟩:=onC_ok (show onC y3 (fun x3=>kputs [] [] [.c x3,.c x2,.c x1] fun ρ=>kboxs [] zs ρ fun ρ=>kden (k3 l w vs).body call head ρ)=a from h1) ha
 obtain ⟨rfl,h2⟩:=boxes0 (show kboxs [] zs [.c x3,.c x2,.c x1] (fun ρ=>kden (k3 l w vs).body call head ρ)=a from h1) ha
 have h3:kEqN x1 (.s l w) (fun q=>kBn q fun z=>kden (.ite (.v 0) (k3a vs) .fail) call head [.c z,.c x3,.c x2,.c x1])=a:=h2
 obtain ⟨h4,h5⟩:=test_ok (h:=fun q=>kden (.ite (.v 0) (k3a vs) .fail) call head [.c (.b q),.c x3,.c x2,.c x1]) h3 (fun _=>rfl) rfl ha
 have e1:x1=.s l w:=by
  obtain ⟨_,_,⟨_,h6⟩|⟨_,_,h6,h7⟩⟩:=h4
  ·cases h6
  ·rw [h6,h7]
 have h6:kEqN x2 (.i .i64 10) (fun q=>kBn q fun z=>kden (.ite (.v 0) (k3b vs) .fail) call head [.c z,.c (.b true),.c x3,.c x2,.c x1])=a:=h5
 obtain ⟨h7,h8⟩:=test_ok (h:=fun q=>kden (.ite (.v 0) (k3b vs) .fail) call head [.c (.b q),.c (.b true),.c x3,.c x2,.c x1]) h6 (fun _=>rfl) rfl ha
 have e2:x2=.i .i64 10:=by
  obtain ⟨_,_,⟨h6,h7⟩|⟨_,_,_,h6⟩⟩:=h7
  ·rw [h6,h7]
  ·cases h6
 have h9:kEqN x3 (.i .i64 32) (fun q=>kBn q fun z=>kden (.ite (.v 0) (.ret vs []) .fail) call head [.c z,.c (.b true),.c (.b true),.c x3,.c x2,.c x1])=a:=h8
 obtain ⟨h10,h11⟩:=test_ok (h:=fun q=>kden (.ite (.v 0) (.ret vs []) .fail) call head [.c (.b q),.c (.b true),.c (.b true),.c x3,.c x2,.c x1]) h9 (fun _=>rfl) rfl ha
 have e3:x3=.i .i64 32:=by
  obtain ⟨_,_,⟨h6,h7⟩|⟨_,_,_,h6⟩⟩:=h10
  ·rw [h6,h7]
  ·cases h6
 subst e1 e2 e3
 cases u1 with
 |agg _=>exact v1.elim
 |one c1=>cases u2 with
  |agg _=>exact v2.elim
  |one c2=>cases u3 with
   |agg _=>exact v3.elim
   |one c3=>
    cases css with
    |cons _ _=>exact hb.elim
    |nil=>
     have g2:RK (.i .i64 10) c2:=v2
     have g3:RK (.i .i64 32) c3:=v3
     obtain ⟨us,k8,k9⟩:=h c1 v1
     have k10:kVs [.c (.b true),.c (.b true),.c (.b true),.c (.i .i64 32),.c (.i .i64 10),.c (.s l w)] vs (fun vs=>kSs [.c (.b true),.c (.b true),.c (.b true),.c (.i .i64 32),.c (.i .i64 10),.c (.s l w)] [] fun xs=> .ret vs xs)=a:=h11
     rw [hk] at k10
     rw [g2.int,g3.int]
     exact ⟨ws,[],_,k10.symm,k9,k8,trivial⟩
end
namespace Pr
open Go.Ey Go.Ey.Seat
def dig:List (ByteArray×Nat):=[(⟨#[49]⟩,1),(⟨#[50]⟩,2),(⟨#[51]⟩,3),(⟨#[53]⟩,5)]
def cL (n:Nat):C:=.slice [.lit (.int .u32 (n:Int))] 1
def kL (n:Nat):K:=.sl 1 [[.i .u32 (.ofNat n)]] 1
def NatP (nat:Nat→List V→Option (List V)):Prop:=∀p∈dig,nat 296 [.one (cs p.1),.one (ci 10),.one (ci 32)]=some [.one (.lit (.int .u64 (p.2:Int))),.one (.lit .nilIface)]
def NatS (nat:Nat→List V→Option (List V)):Prop:=nat 272 [.agg [cb false,cL 1]]=some [.one (cs ⟨#[49]⟩)]
theorem rkL (n:Nat):RK (kL n) (cL n):=RK.sl 1 [[.i .u32 (.ofNat n)]] 1 _ (RKr.cons (cs:=[]) (RKs.cons (RK.i _ _) RKs.nil) rfl RKr.nil) rfl
theorem rkL_inv {n:Nat} {c:C} (h:RK (kL n) c):c=cL n:=by
 cases h with
 |sl _ _ _ cs h hn=>
  cases h with
  |cons h1 h2 h3=>
   cases h3
   cases h1 with
   |cons h4 h5=>
    cases h5
    cases h4
    rfl
theorem rk0_inv {e:Nat} {c:C} (h:RK (.sl e [] 0) c):c=cz:=by
 cases h with
 |sl _ _ _ cs h hn=>cases h;rfl
section
variable {nat:Nat→List V→Option (List V)}
theorem psig296:(T nat).psig 296=some [.one,.one,.one]:=by kernel_rfl
theorem psig270:(T nat).psig 270=some [.one]:=by kernel_rfl
theorem psig271:(T nat).psig 271=some [.one,.one]:=by kernel_rfl
theorem fn296:(T nat).G.fn 296=none:=by kernel_rfl
theorem fn272:(T nat).G.fn 272=none:=by kernel_rfl
theorem sig296:∃s,(T nat).sig 296=some s∧s.nat=true∧s.boxes=[]∧s.params=[.one,.one,.one]:=⟨s296,by kernel_rfl,rfl,rfl,rfl⟩
theorem sig272:∃s,(T nat).sig 272=some s∧s.nat=true∧s.boxes=[]∧s.params=[.agg 2]:=⟨s272,by kernel_rfl,rfl,rfl,rfl⟩
theorem x296 {c d e:C} {r:List V} (h:nat 296 [.one c,.one d,.one e]=some r):fnT (T nat).G 296 [.v (.one c),.v (.one d),.v (.one e)] []=some (r,[]):=by
 refine fnT_nat fn296 ?_
 obtain ⟨s,h1,h2,h3,h4⟩:=sig296 (nat:=nat)
 show (T nat).natG 296 [.v (.one c),.v (.one d),.v (.one e)] []=some (r,[])
 have h5:(T nat).nat 296 [.one c,.one d,.one e]=some r:=h
 simp [Seat.natG,h1,h2,h3,h4,shapeB,laVs,h5]
theorem x272 (h:NatS nat):fnT (T nat).G 272 [.v (.agg [cb false,cL 1])] []=some ([.one (cs ⟨#[49]⟩)],[]):=by
 refine fnT_nat fn272 ?_
 obtain ⟨s,h1,h2,h3,h4⟩:=sig272 (nat:=nat)
 show (T nat).natG 272 [.v (.agg [cb false,cL 1])] []=_
 have h5:(T nat).nat 272 [.agg [cb false,cL 1]]=some [.one (cs ⟨#[49]⟩)]:=h
 simp [Seat.natG,h1,h2,h3,h4,shapeB,laVs,h5]
def kgP (p:ByteArray×Nat):KG:=.node 296 (k3 p.1.data.toList.length (packL p.1.data.toList) [.one (.k (.i .u64 (.ofNat p.2))),.one (.k (.o .nilIface))]) kgM kgM
theorem kgP_ok (hn:NatI nat) (hp:NatP nat) {p:ByteArray×Nat} (h:p∈dig):KGOK (T nat).G (T nat).psig (kgP p):=by
 refine kgAdd (kgM_ok hn) (known_str3 (ws:=[.c (.i .u64 (.ofNat p.2)),.c (.o .nilIface)]) psig296 (fun _ _=>rfl) fun c hc=>?_)
 have e:c=cs p.1:=rkS_inv hc
 subst e
 exact ⟨[.one (.lit (.int .u64 (p.2:Int))),.one (.lit .nilIface)],⟨RK.i _ _,RK.o _,trivial⟩,x296 (hp p h)⟩
def isLimb (neg:Bool) (n:Nat):Ans→Bool
 |.ret [.l 2 [.b x,.sl 1 [[.i .u32 (.ofNat m)]] 1]] []=>(x==neg) && (m==n)
 |_=>false
theorem isLimb_eq {neg:Bool} {n:Nat} {a:Ans} (h:isLimb neg n a=true):a=.ret [.l 2 [.b neg,kL n]] []:=by
 unfold isLimb at h
 split at h
 ·simp only [Bool.and_eq_true,beq_iff_eq] at h
  obtain ⟨rfl,rfl⟩:=h
  rfl
 ·cases h
noncomputable def run270:Bool:=dig.all fun p=>isLimb false p.2 ((krun (kgP p) 300).fn 270 [.c (kS p.1)] [])
theorem run270_ok:run270=true:=by kernel_rfl
noncomputable def run270m:Bool:=isLimb true 5 ((krun (kgP (⟨#[53]⟩,5)) 300).fn 270 [.c (kS ⟨#[45,53]⟩)] [])
theorem run270m_ok:run270m=true:=by kernel_rfl
theorem li_fn (hn:NatI nat) (hp:NatP nat) {p:ByteArray×Nat} (hm:p∈dig) {m n:Nat} {s:ByteArray} {neg:Bool} (h:isLimb neg n ((krun (kgP p) m).fn 270 [.c (kS s)] [])=true):fnT (T nat).G 270 [.v (.one (cs s))] []=some ([.agg [cb neg,cL n]],[]):=by
 obtain ⟨r1,g1,g2,g3⟩:=krun_fn (kgP_ok hn hp hm) psig270 (ts:=[.v (.one (.v 0))]) rfl (ys:=[.c (kS s)]) (us:=[.v (.one (cs s))]) ⟨rkS s,trivial⟩ (zs:=[]) (css:=[]) trivial (isLimb_eq h)
 obtain ⟨a1,b1⟩:=r1
 match a1,b1,g2,g3 with
 |[.agg c1],[],g2,_=>
  have h1:RKs [.b neg,kL n] c1:=g2.1.1
  cases h1 with
  |cons h2 h3=>cases h3 with
   |cons h4 h5=>
    cases h5
    rw [h2.bool,rkL_inv h4] at g1
    exact g1
theorem x270 (hn:NatI nat) (hp:NatP nat) {p:ByteArray×Nat} (h:p∈dig):fnT (T nat).G 270 [.v (.one (cs p.1))] []=some ([.agg [cb false,cL p.2]],[]):=
 li_fn hn hp h (List.all_eq_true.1 run270_ok p h)
theorem x270m (hn:NatI nat) (hp:NatP nat):fnT (T nat).G 270 [.v (.one (cs ⟨#[45,53]⟩))] []=some ([.agg [cb true,cL 5]],[]):=
 li_fn hn hp (p:=(⟨#[53]⟩,5)) (by simp [dig]) run270m_ok
def isRem (n:Nat):Ans→Bool
 |.ret [.c _,.c (.sl 1 [[.i .u32 (.ofNat m)]] 1)] []=>m==n && !(m==0)
 |.ret [.c _,.c (.sl _ [] 0)] []=>n==0
 |_=>false
def divs:List (Nat×Nat×Nat):=[(1,2,1),(2,1,0),(5,3,2),(3,2,1)]
noncomputable def run271:Bool:=divs.all fun p=>isRem p.2.2 ((krun kgM 300).fn 271 [.c (kL p.1),.c (kL p.2.1)] [])
theorem run271_ok:run271=true:=by kernel_rfl
def limb (n:Nat):C:=if n=0 then cz else cL n
theorem isRem_eq {n:Nat} {a:Ans} (h:isRem n a=true):∃q x,a=.ret [.c q,.c x] []∧∀c,RK x c→c=limb n:=by
 unfold isRem at h
 split at h
 ·rename_i q k
  simp only [Bool.and_eq_true,Bool.not_eq_true',beq_iff_eq,beq_eq_false_iff_ne] at h
  obtain ⟨rfl,h0⟩:=h
  exact ⟨_,_,rfl,fun c hc=>by rw [limb,if_neg h0];exact rkL_inv hc⟩
 ·simp only [beq_iff_eq] at h
  subst h
  exact ⟨_,_,rfl,fun c hc=>by rw [limb,if_pos rfl];exact rk0_inv hc⟩
 ·cases h
theorem di_fn (hn:NatI nat) {m a b r:Nat} (h:isRem r ((krun kgM m).fn 271 [.c (kL a),.c (kL b)] [])=true):∃q,fnT (T nat).G 271 [.v (.one (cL a)),.v (.one (cL b))] []=some ([.one q,.one (limb r)],[]):=by
 obtain ⟨q,x,e,hx⟩:=isRem_eq h
 obtain ⟨r1,g1,g2,g3⟩:=krun_fn (kgM_ok hn) psig271 (ts:=[.v (.one (.v 0)),.v (.one (.v 0))]) rfl (ys:=[.c (kL a),.c (kL b)]) (us:=[.v (.one (cL a)),.v (.one (cL b))]) ⟨rkL a,rkL b,trivial⟩ (zs:=[]) (css:=[]) trivial e
 obtain ⟨a1,b1⟩:=r1
 match a1,b1,g2,g3 with
 |[.one c1,.one c2],[],g2,_=>
  have h2:RK x c2:=g2.2.1
  rw [hx c2 h2] at g1
  exact ⟨c1,g1⟩
theorem x271 (hn:NatI nat) (p:Nat×Nat×Nat) (h:p∈divs):∃q,fnT (T nat).G 271 [.v (.one (cL p.1)),.v (.one (cL p.2.1))] []=some ([.one q,.one (limb p.2.2)],[]):=
 di_fn hn (List.all_eq_true.1 run271_ok p h)
end
end Pr
end Go.Ey

namespace Go.Proofs
open Go.Shelf Go.RowKit
def Tryz.laysPu14R:Go.Shelf.Ren:=⟨fun|14=>296|16=>324|17=>325|19=>334|20=>335|21=>336|22=>337|23=>338|24=>339|25=>354|27=>176|26=>355|28=>209|29=>238|30=>264|31=>265|32=>266|33=>267|35=>291|34=>290|36=>292|37=>293|38=>294|39=>322|40=>323|n=>n,fun|22=>82|24=>291|25=>292|34=>320|36=>288|37=>22|39=>322|44=>331|47=>312|50=>335|48=>333|52=>264|55=>267|59=>285|60=>26|61=>286|65=>318|66=>319|67=>162|n=>n,fun|0=>3|1=>4|2=>0|3=>1|4=>2|n=>n⟩
theorem Tryz.laysPu14:LaysPu.n14 Tryz.prog Tryz.laysPu14R where
 mixed:=by kernel_rfl
 f14:=Tryz.func296.trans (congrArg some (by kernel_rfl))
 f16:=Tryz.func324.trans (congrArg some (by kernel_rfl))
 f17:=Tryz.func325.trans (congrArg some (by kernel_rfl))
 f19:=Tryz.func334.trans (congrArg some (by kernel_rfl))
 f20:=Tryz.func335.trans (congrArg some (by kernel_rfl))
 f21:=Tryz.func336.trans (congrArg some (by kernel_rfl))
 f22:=Tryz.func337.trans (congrArg some (by kernel_rfl))
 f23:=Tryz.func338.trans (congrArg some (by kernel_rfl))
 f24:=Tryz.func339.trans (congrArg some (by kernel_rfl))
 f25:=Tryz.func354.trans (congrArg some (by kernel_rfl))
 f26:=Tryz.func355.trans (congrArg some (by kernel_rfl))
 f27:=Tryz.func176.trans (congrArg some (by kernel_rfl))
 f28:=Tryz.func209.trans (congrArg some (by kernel_rfl))
 f29:=Tryz.func238.trans (congrArg some (by kernel_rfl))
 f30:=Tryz.func264.trans (congrArg some (by kernel_rfl))
 f31:=Tryz.func265.trans (congrArg some (by kernel_rfl))
 f32:=Tryz.func266.trans (congrArg some (by kernel_rfl))
 f33:=Tryz.func267.trans (congrArg some (by kernel_rfl))
 f34:=Tryz.func290.trans (congrArg some (by kernel_rfl))
 f35:=Tryz.func291.trans (congrArg some (by kernel_rfl))
 f36:=Tryz.func292.trans (congrArg some (by kernel_rfl))
 f37:=Tryz.func293.trans (congrArg some (by kernel_rfl))
 f38:=Tryz.func294.trans (congrArg some (by kernel_rfl))
 f39:=Tryz.func322.trans (congrArg some (by kernel_rfl))
 f40:=Tryz.func323.trans (congrArg some (by kernel_rfl))
 t0:=Tryz.underlying0
 a0:=Tryz.isAgg0
 z0:=Tryz.sizeOf0
 v0:=Tryz.zeroValue0
 i0:=by kernel_rfl
 t2:=Tryz.underlying2
 a2:=Tryz.isAgg2
 z2:=Tryz.sizeOf2
 v2:=Tryz.zeroValue2
 i2:=by kernel_rfl
 t3:=Tryz.underlying3
 a3:=Tryz.isAgg3
 z3:=Tryz.sizeOf3
 v3:=Tryz.zeroValue3
 i3:=by kernel_rfl
 t4:=Tryz.underlying4
 a4:=Tryz.isAgg4
 z4:=Tryz.sizeOf4
 v4:=Tryz.zeroValue4
 i4:=by kernel_rfl
 t5:=Tryz.underlying5
 a5:=Tryz.isAgg5
 z5:=Tryz.sizeOf5
 v5:=Tryz.zeroValue5
 i5:=by kernel_rfl
 t9:=Tryz.underlying9
 a9:=Tryz.isAgg9
 z9:=Tryz.sizeOf9
 v9:=Tryz.zeroValue9
 i9:=by kernel_rfl
 t20:=Tryz.underlying20
 a20:=Tryz.isAgg20
 z20:=Tryz.sizeOf20
 v20:=Tryz.zeroValue20
 i20:=by kernel_rfl
 t21:=Tryz.underlying21
 a21:=Tryz.isAgg21
 z21:=Tryz.sizeOf21
 v21:=Tryz.zeroValue21
 i21:=by kernel_rfl
 t22:=Tryz.underlying82
 a22:=Tryz.isAgg82
 z22:=Tryz.sizeOf82
 v22:=Tryz.zeroValue82
 i22:=by kernel_rfl
 t24:=Tryz.underlying291
 a24:=Tryz.isAgg291
 z24:=Tryz.sizeOf291
 v24:=Tryz.zeroValue291
 i24:=by kernel_rfl
 t25:=Tryz.underlying292
 a25:=Tryz.isAgg292
 z25:=Tryz.sizeOf292
 v25:=Tryz.zeroValue292
 i25:=by kernel_rfl
 t34:=Tryz.underlying320
 a34:=Tryz.isAgg320
 z34:=Tryz.sizeOf320
 v34:=Tryz.zeroValue320
 i34:=by kernel_rfl
 c34:=by kernel_rfl
 t36:=Tryz.underlying288
 a36:=Tryz.isAgg288
 z36:=Tryz.sizeOf288
 v36:=Tryz.zeroValue288
 i36:=by kernel_rfl
 t37:=Tryz.underlying22
 a37:=Tryz.isAgg22
 z37:=Tryz.sizeOf22
 v37:=Tryz.zeroValue22
 i37:=by kernel_rfl
 t39:=Tryz.underlying322
 a39:=Tryz.isAgg322
 z39:=Tryz.sizeOf322
 v39:=Tryz.zeroValue322
 i39:=by kernel_rfl
 t44:=Tryz.underlying331
 a44:=Tryz.isAgg331
 z44:=Tryz.sizeOf331
 v44:=Tryz.zeroValue331
 i44:=by kernel_rfl
 t47:=Tryz.underlying312
 a47:=Tryz.isAgg312
 z47:=Tryz.sizeOf312
 v47:=Tryz.zeroValue312
 i47:=by kernel_rfl
 t48:=Tryz.underlying333
 a48:=Tryz.isAgg333
 z48:=Tryz.sizeOf333
 v48:=Tryz.zeroValue333
 i48:=by kernel_rfl
 t50:=Tryz.underlying335
 a50:=Tryz.isAgg335
 z50:=Tryz.sizeOf335
 v50:=Tryz.zeroValue335
 i50:=by kernel_rfl
 t52:=Tryz.underlying264
 a52:=Tryz.isAgg264
 z52:=Tryz.sizeOf264
 v52:=Tryz.zeroValue264
 i52:=by kernel_rfl
 t55:=Tryz.underlying267
 a55:=Tryz.isAgg267
 z55:=Tryz.sizeOf267
 v55:=Tryz.zeroValue267
 i55:=by kernel_rfl
 t59:=Tryz.underlying285
 a59:=Tryz.isAgg285
 z59:=Tryz.sizeOf285
 v59:=Tryz.zeroValue285
 i59:=by kernel_rfl
 t60:=Tryz.underlying26
 a60:=Tryz.isAgg26
 z60:=Tryz.sizeOf26
 v60:=Tryz.zeroValue26
 i60:=by kernel_rfl
 t61:=Tryz.underlying286
 a61:=Tryz.isAgg286
 z61:=Tryz.sizeOf286
 t65:=Tryz.underlying318
 a65:=Tryz.isAgg318
 z65:=Tryz.sizeOf318
 v65:=Tryz.zeroValue318
 i65:=by kernel_rfl
 t66:=Tryz.underlying319
 a66:=Tryz.isAgg319
 z66:=Tryz.sizeOf319
 v66:=Tryz.zeroValue319
 i66:=by kernel_rfl
 t67:=Tryz.underlying162
 a67:=Tryz.isAgg162
 z67:=Tryz.sizeOf162
 v67:=Tryz.zeroValue162
 i67:=by kernel_rfl
 g0:=by kernel_rfl
 m0:=by kernel_rfl
 g1:=by kernel_rfl
 m1:=by kernel_rfl
 g2:=by kernel_rfl
 m2:=by kernel_rfl
 g3:=by kernel_rfl
 m3:=by kernel_rfl
 g4:=by kernel_rfl
 m4:=by kernel_rfl
end Go.Proofs
set_option maxHeartbeats 4000000
namespace Go.Ey.Pr
open Go Go.Ey Go.Ey.Seat Go.RowKit
theorem parse_dig {p:ByteArray×Nat} (h:p∈dig):Lib.parseUintB 32 p.1.data.toList=.ok p.2∧p.1.size≤10:=by
 simp only [dig,List.mem_cons,List.mem_nil_iff,or_false] at h
 rcases h with rfl|rfl|rfl|rfl<;>exact ⟨rfl,by decide⟩
theorem fok296 {p:ByteArray×Nat} (h:p∈dig):FnOK PP 296 [.one (cs p.1),.one (ci 10),.one (ci 32)] [.one (.lit (.int .u64 (p.2:Int))),.one (.lit .nilIface)]:=by
 refine ⟨call296,fun S w us hinv hall=>?_⟩
 match us,hall with
 |[u,v,x],⟨hu,hv,hx,_⟩=>
  have e1:u=.string p.1:=hu.1
  have e2:v=.int .i64 10:=hv.1
  have e3:x=.int .i64 32:=hx.1
  subst e1 e2 e3
  obtain ⟨h1,h2⟩:=parse_dig h
  have hc:=Go.Proofs.Any.strconv_ParseUint_10_at32_ok Go.Proofs.Tryz.laysPu14 p.1 (by omega) p.2 h1 w
  refine Calls.mono (show Calls PP 296 #[.string p.1,.int .i64 10,.int .i64 32] w _ from hc) ?_
  rintro e w' ⟨rfl,hw⟩
  refine ⟨_,rfl,⟨_,rfl,⟨rfl,rfl⟩,⟨rfl,rfl⟩,trivial⟩,?_⟩
  rcases hw with rfl|rfl
  ·exact Below.refl _ _
  ·exact Lib.bytesWorld_below _ _ _
end Go.Ey.Pr

namespace Go.Proofs
open Go.Shelf Go.RowKit
def Tryz.lays171R:Go.Shelf.Ren:=⟨fun|171=>176|243=>209|246=>238|283=>264|284=>265|285=>266|286=>267|129=>291|317=>290|318=>292|319=>293|320=>294|337=>322|338=>323|n=>n,fun|171=>264|53=>82|37=>22|173=>267|212=>285|51=>26|213=>286|46=>288|232=>318|233=>319|n=>n,fun|17=>0|18=>1|19=>2|n=>n⟩
theorem Tryz.lays171:Lays.n171 Tryz.prog Tryz.lays171R where
 mixed:=by kernel_rfl
 f129:=Tryz.func291.trans (congrArg some (by kernel_rfl))
 f171:=Tryz.func176.trans (congrArg some (by kernel_rfl))
 f243:=Tryz.func209.trans (congrArg some (by kernel_rfl))
 f246:=Tryz.func238.trans (congrArg some (by kernel_rfl))
 f283:=Tryz.func264.trans (congrArg some (by kernel_rfl))
 f284:=Tryz.func265.trans (congrArg some (by kernel_rfl))
 f285:=Tryz.func266.trans (congrArg some (by kernel_rfl))
 f286:=Tryz.func267.trans (congrArg some (by kernel_rfl))
 f317:=Tryz.func290.trans (congrArg some (by kernel_rfl))
 f318:=Tryz.func292.trans (congrArg some (by kernel_rfl))
 f319:=Tryz.func293.trans (congrArg some (by kernel_rfl))
 f320:=Tryz.func294.trans (congrArg some (by kernel_rfl))
 f337:=Tryz.func322.trans (congrArg some (by kernel_rfl))
 f338:=Tryz.func323.trans (congrArg some (by kernel_rfl))
 t0:=Tryz.underlying0
 a0:=Tryz.isAgg0
 z0:=Tryz.sizeOf0
 v0:=Tryz.zeroValue0
 t2:=Tryz.underlying2
 a2:=Tryz.isAgg2
 z2:=Tryz.sizeOf2
 v2:=Tryz.zeroValue2
 t3:=Tryz.underlying3
 a3:=Tryz.isAgg3
 z3:=Tryz.sizeOf3
 v3:=Tryz.zeroValue3
 t4:=Tryz.underlying4
 a4:=Tryz.isAgg4
 z4:=Tryz.sizeOf4
 v4:=Tryz.zeroValue4
 t5:=Tryz.underlying5
 a5:=Tryz.isAgg5
 z5:=Tryz.sizeOf5
 v5:=Tryz.zeroValue5
 t9:=Tryz.underlying9
 a9:=Tryz.isAgg9
 z9:=Tryz.sizeOf9
 v9:=Tryz.zeroValue9
 t20:=Tryz.underlying20
 a20:=Tryz.isAgg20
 z20:=Tryz.sizeOf20
 v20:=Tryz.zeroValue20
 t37:=Tryz.underlying22
 a37:=Tryz.isAgg22
 z37:=Tryz.sizeOf22
 v37:=Tryz.zeroValue22
 t46:=Tryz.underlying288
 a46:=Tryz.isAgg288
 z46:=Tryz.sizeOf288
 v46:=Tryz.zeroValue288
 t51:=Tryz.underlying26
 a51:=Tryz.isAgg26
 z51:=Tryz.sizeOf26
 v51:=Tryz.zeroValue26
 t53:=Tryz.underlying82
 a53:=Tryz.isAgg82
 z53:=Tryz.sizeOf82
 v53:=Tryz.zeroValue82
 t171:=Tryz.underlying264
 a171:=Tryz.isAgg264
 z171:=Tryz.sizeOf264
 v171:=Tryz.zeroValue264
 t173:=Tryz.underlying267
 a173:=Tryz.isAgg267
 z173:=Tryz.sizeOf267
 v173:=Tryz.zeroValue267
 t212:=Tryz.underlying285
 a212:=Tryz.isAgg285
 z212:=Tryz.sizeOf285
 v212:=Tryz.zeroValue285
 t213:=Tryz.underlying286
 a213:=Tryz.isAgg286
 z213:=Tryz.sizeOf286
 t232:=Tryz.underlying318
 a232:=Tryz.isAgg318
 z232:=Tryz.sizeOf318
 v232:=Tryz.zeroValue318
 t233:=Tryz.underlying319
 a233:=Tryz.isAgg319
 z233:=Tryz.sizeOf319
 v233:=Tryz.zeroValue319
 g17:=by kernel_rfl
 g18:=by kernel_rfl
 g19:=by kernel_rfl
def Tryz.renB:Go.Shelf.Ren:=⟨fun|166=>303|240=>326|276=>340|169=>304|n=>n,fun|70=>297|72=>299|37=>22|75=>291|80=>162|164=>325|127=>312|n=>n,fun n=>n⟩
theorem Tryz.lays166:Lays.n166 Tryz.prog Tryz.renB where
 mixed:=by kernel_rfl
 f166:=Tryz.func303.trans (congrArg some (by kernel_rfl))
 f240:=Tryz.func326.trans (congrArg some (by kernel_rfl))
 f276:=Tryz.func340.trans (congrArg some (by kernel_rfl))
 t0:=Tryz.underlying0
 a0:=Tryz.isAgg0
 z0:=Tryz.sizeOf0
 v0:=Tryz.zeroValue0
 t3:=Tryz.underlying3
 a3:=Tryz.isAgg3
 z3:=Tryz.sizeOf3
 v3:=Tryz.zeroValue3
 t4:=Tryz.underlying4
 a4:=Tryz.isAgg4
 z4:=Tryz.sizeOf4
 v4:=Tryz.zeroValue4
 t9:=Tryz.underlying9
 a9:=Tryz.isAgg9
 z9:=Tryz.sizeOf9
 v9:=Tryz.zeroValue9
 t20:=Tryz.underlying20
 a20:=Tryz.isAgg20
 z20:=Tryz.sizeOf20
 v20:=Tryz.zeroValue20
 t37:=Tryz.underlying22
 a37:=Tryz.isAgg22
 z37:=Tryz.sizeOf22
 v37:=Tryz.zeroValue22
 t70:=Tryz.underlying297
 a70:=Tryz.isAgg297
 z70:=Tryz.sizeOf297
 v70:=Tryz.zeroValue297
 t72:=Tryz.underlying299
 a72:=Tryz.isAgg299
 z72:=Tryz.sizeOf299
 v72:=Tryz.zeroValue299
 t75:=Tryz.underlying291
 a75:=Tryz.isAgg291
 z75:=Tryz.sizeOf291
 v75:=Tryz.zeroValue291
 t164:=Tryz.underlying325
 a164:=Tryz.isAgg325
 z164:=Tryz.sizeOf325
 v164:=Tryz.zeroValue325
theorem Tryz.lays169:Lays.n169 Tryz.prog Tryz.renB where
 mixed:=by kernel_rfl
 f169:=Tryz.func304.trans (congrArg some (by kernel_rfl))
 t0:=Tryz.underlying0
 a0:=Tryz.isAgg0
 z0:=Tryz.sizeOf0
 v0:=Tryz.zeroValue0
 t3:=Tryz.underlying3
 a3:=Tryz.isAgg3
 z3:=Tryz.sizeOf3
 v3:=Tryz.zeroValue3
 t9:=Tryz.underlying9
 a9:=Tryz.isAgg9
 z9:=Tryz.sizeOf9
 v9:=Tryz.zeroValue9
 t37:=Tryz.underlying22
 a37:=Tryz.isAgg22
 z37:=Tryz.sizeOf22
 v37:=Tryz.zeroValue22
 t70:=Tryz.underlying297
 a70:=Tryz.isAgg297
 z70:=Tryz.sizeOf297
 v70:=Tryz.zeroValue297
 t72:=Tryz.underlying299
 a72:=Tryz.isAgg299
 z72:=Tryz.sizeOf299
 v72:=Tryz.zeroValue299
 t127:=Tryz.underlying312
 a127:=Tryz.isAgg312
 z127:=Tryz.sizeOf312
 v127:=Tryz.zeroValue312
theorem Tryz.builderX:Builder.Extra Tryz.prog Tryz.renB where
 sizeBuilder:=by kernel_rfl
 liesBuilder:=by kernel_rfl
 t5:=Tryz.underlying5
 a5:=Tryz.isAgg5
 z5:=Tryz.sizeOf5
 v5:=Tryz.zeroValue5
 infoByte:=by kernel_rfl
 cellsByte:=by kernel_rfl
 sizeByte:=by kernel_rfl
 neB5:=by decide
theorem Tryz.wWrite (B b:Nat) (bs:List Value) (s:ByteArray) (w:World) (h:Lib.IsBuilder 299 5 B b bs w) (hlen:bs.length+s.size≤140737488355328) (hBw:B≤w.heap.size):
  Calls Tryz.prog 303 #[.pointer (some ⟨b,0,none⟩),.string s] w fun e w'=>e=.returned (.tuple #[.int .i64 s.size,.nilIface])∧(Lib.BuilderAt 299 5 B b (.pointer (some ⟨b,0,none⟩)) (bs++Lib.strCells s) w'∧Below B w w'):=Any.Builder_WriteString Tryz.lays166 Tryz.builderX B b bs s w h hlen hBw
theorem Tryz.wString (B b:Nat) (l:List UInt8) (w:World) (h:Lib.IsBuilder 299 5 B b (Lib.byteCells l) w) (h0:l≠[]):
  Calls Tryz.prog 304 #[.pointer (some ⟨b,0,none⟩)] w fun e w'=>e=.returned (.string ⟨l.toArray⟩)∧Below B w w':=Any.Builder_String Tryz.lays169 Tryz.builderX B b l w h h0
theorem Tryz.wItoa (i:Nat) (hi:i < 100) (w:World):
  Calls Tryz.prog 176 #[.int .i64 i] w fun e w'=>e=.returned (.string ⟨(Lib.decDigits i).toArray⟩)∧w'=w:=Any.strconv_Itoa_small Tryz.lays171 i hi w
theorem Tryz.walk272 (bk o cap:Nat) (w:World) (hc:w.cell? ⟨bk,o,none⟩=some (.int .u32 1)):
  Calls Tryz.prog 272 #[.agg #[.bool false,.slice (some ⟨bk,o,none⟩) 1 cap]] w fun e w'=>e=.returned (.string ⟨#[49]⟩)∧Below w.heap.size w w':=by
 have b1:Below w.heap.size w (w.alloc (.cells #[.bool false,.slice (some ⟨bk,o,none⟩) 1 cap] 271)):=(Below.refl _ w).alloc (Nat.le_refl _) _
 have b2:Below w.heap.size w ((w.alloc (.cells #[.bool false,.slice (some ⟨bk,o,none⟩) 1 cap] 271)).alloc (.cells #[.pointer none,.slice none 0 0] 299)):=b1.alloc b1.size _
 have hc2:=(b2.cell (World.block_lt_of_cell? _ _ hc)).trans hc
 have hB:=Lib.fresh_isBuilder 299 5 (w.alloc (.cells #[.bool false,.slice (some ⟨bk,o,none⟩) 1 cap] 271))
 have hz:(w.alloc (.cells #[.bool false,.slice (some ⟨bk,o,none⟩) 1 cap] 271)).heap.size=w.heap.size+1:=by simp
 rw [hz] at hB
 obtain ⟨W2,hW2⟩:∃W2,W2=(w.alloc (.cells #[.bool false,.slice (some ⟨bk,o,none⟩) 1 cap] 271)).alloc (.cells #[.pointer none,.slice none 0 0] 299):=⟨_,rfl⟩
 go_enter Tryz.func272,Tryz.ntmps272
 go_wp2_with (go_at_call 176;refine (Tryz.wItoa 1 (by omega) _).mono ?_)
 rintro e W3 ⟨rfl,rfl⟩
 go_wp2_with (go_at_call 303;refine (Tryz.wWrite (w.heap.size+1) (w.heap.size+1) [] _ _ hB ?h1 ?h2).mono ?h3)
 case h1=>
  simp [Lib.decDigits]
  exact Nat.le_of_ble_eq_true rfl
 case h2=>simp
 case h3=>
  rintro e W4 ⟨rfl,h4,b4⟩
  have e4:(([]:List Value)++Lib.strCells ⟨(Lib.decDigits 1).toArray⟩)=Lib.byteCells [49]:=by
   rw [List.nil_append,Lib.strCells_eq]
   simp [Lib.decDigits]
  rw [e4] at h4
  have hc4:W4.cell? ⟨w.heap.size,1,none⟩=some (.slice (some ⟨bk,o,none⟩) 1 cap):=by
   refine (b4.cell (by show w.heap.size < w.heap.size+1;omega)).trans ?_
   have b3:Below (w.heap.size+1) (w.alloc (.cells #[.bool false,.slice (some ⟨bk,o,none⟩) 1 cap] 271)) ((w.alloc (.cells #[.bool false,.slice (some ⟨bk,o,none⟩) 1 cap] 271)).alloc (.cells #[.pointer none,.slice none 0 0] 299)):=(Below.refl _ _).alloc (by rw [hz];exact Nat.le_refl _) _
   refine (b3.cell (by show w.heap.size < w.heap.size+1;omega)).trans ?_
   have hn:(w.alloc (.cells #[.bool false,.slice (some ⟨bk,o,none⟩) 1 cap] 271)).heap[w.heap.size]?=some (.cells #[.bool false,.slice (some ⟨bk,o,none⟩) 1 cap] 271):=by
    show (w.heap.push _)[w.heap.size]?=_
    simp
   simp only [World.cell?,hn]
   rfl
  go_wp2
  refine wp_loop_rounds 1 ?_
  rw [rounds_succ]
  go_wp2_with (go_at_call 304;refine (Tryz.wString (w.heap.size+1) (w.heap.size+1) [49] _ (Or.inr h4) ?h5).mono ?h6)
  case h5=>simp
  case h6=>
   rintro e W5 ⟨rfl,b5⟩
   go_wp2
   go_ret
   exact ⟨rfl,b2.trans ((b4.trans b5).mono (by omega))⟩
end Go.Proofs
set_option maxHeartbeats 4000000
namespace Go.Ey.Pr
open Go Go.Ey Go.Ey.Seat Go.RowKit
theorem fok272:FnOK PP 272 [.agg [cb false,cL 1]] [.one (cs ⟨#[49]⟩)]:=by
 refine ⟨call_of (by kernel_rfl),fun S w us hinv hall=>?_⟩
 match us,hall with
 |[u],⟨hu,_⟩=>
  obtain ⟨vs,rfl,hall2⟩:=hu
  match vs,hall2 with
  |[a,b],⟨ha,hb,_⟩=>
   have e1:a=.bool false:=ha.1
   subst e1
   rcases hb with ⟨_,h0,_⟩|⟨ad,cap,rfl,hcap,hsp,hcells⟩
   ·cases h0
   ·obtain ⟨bk,o,sp⟩:=ad
    have hs:sp=none:=hsp (by simp)
    subst hs
    obtain ⟨⟨x,hx,_,hx2⟩,_⟩:=hcells
    have e2:x=.int .u32 1:=hx2.1
    subst e2
    refine Calls.mono (Go.Proofs.Tryz.walk272 bk o cap w hx) ?_
    rintro e w' ⟨rfl,hw⟩
    exact ⟨_,rfl,⟨rfl,rfl⟩,hw⟩
end Go.Ey.Pr

namespace Go.Ey
mutual
theorem RK.one:∀{k:K} {c d:C},RK k c→RK k d→c=d
 |.i _ _,_,_,.i _ _,.i _ _=>rfl
 |.b _,_,_,.b _,.b _=>rfl
 |.o _,_,_,.o _,.o _=>rfl
 |.s _ _,_,_,.s _ _ b hb _,.s _ _ b' hb' _=>by
  have h:b.data.toList=b'.data.toList:=hb.trans hb'.symm
  obtain ⟨b⟩:=b
  obtain ⟨b'⟩:=b'
  have h2:b=b':=Array.toList_inj.1 h
  rw [h2]
 |.sl _ _ _,_,_,.sl _ _ _ _ h _,.sl _ _ _ _ h' _=>by rw [RKr.one h h']
theorem RKs.one:∀{k:List K} {c d:List C},RKs k c→RKs k d→c=d
 |[],_,_,.nil,.nil=>rfl
 |_::_,_,_,.cons h1 h2,.cons g1 g2=>by rw [RK.one h1 g1,RKs.one h2 g2]
theorem RKr.one:∀{e:Nat} {k:List (List K)} {c d:List C},RKr e k c→RKr e k d→c=d
 |_,[],_,_,.nil,.nil=>rfl
 |_,_::_,_,_,.cons h1 _ h3,.cons g1 _ g3=>by rw [RKs.one h1 g1,RKr.one h3 g3]
end
end Go.Ey
