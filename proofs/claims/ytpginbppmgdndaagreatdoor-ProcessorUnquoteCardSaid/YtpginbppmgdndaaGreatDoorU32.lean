/- A part of the proof. -/
import Derived.Test.YtpginbppmgdndaaGreatDoorU31
import Derived.Shelf.Pu.ParseUintPublic10
import Derived.Lib.AtoiErrMem
import Derived.Shelf.Strconv.Itoa3
import Derived.KernelRfl
import Derived.Shelf.Strings.Builder1
import Derived.WalkKit
import Derived.BigCall
set_option linter.unusedVariables false
set_option linter.unusedSimpArgs false
namespace Go.Proofs
open Go.Shelf Go.RowKit
def Tryz.laysPu14R:Go.Shelf.Ren:=⟨fun|14=>296|16=>324|17=>325|19=>334|20=>335|21=>336|22=>337|23=>338|24=>339|25=>354|27=>176|26=>355|28=>209|29=>238|30=>264|31=>265|32=>266|33=>267|35=>291|34=>290|36=>292|37=>293|38=>294|39=>322|40=>323|n=>n,fun|22=>82|24=>291|25=>292|34=>320|36=>288|37=>22|39=>322|44=>331|47=>312|50=>335|48=>333|52=>264|55=>267|59=>285|60=>26|61=>286|65=>318|66=>319|67=>162|n=>n,fun|0=>3|1=>4|2=>0|3=>1|4=>2|n=>n⟩
theorem Tryz.laysPu14:LaysPu.n14 Tryz.prog Tryz.laysPu14R where
 mixed:=by kernel_rfl
 f14:=Tryz.func296.trans (congrArg some (by kernel_rfl))
 f16:=Tryz.func324.trans (congrArg some (by kernel_rfl))
 f17:=Tryz.func325.trans (congrArg some (by kernel_rfl))
 f19:=Tryz.func334.trans (congrArg some (by kernel_rfl))
 f20:=Tryz.func335.trans (congrArg some (by kernel_rfl))
 f21:=Tryz.func336.trans (congrArg some (by kernel_rfl))
 f22:=Tryz.func337.trans (congrArg some (by kernel_rfl))
 f23:=Tryz.func338.trans (congrArg some (by kernel_rfl))
 f24:=Tryz.func339.trans (congrArg some (by kernel_rfl))
 f25:=Tryz.func354.trans (congrArg some (by kernel_rfl))
 f26:=Tryz.func355.trans (congrArg some (by kernel_rfl))
 f27:=Tryz.func176.trans (congrArg some (by kernel_rfl))
 f28:=Tryz.func209.trans (congrArg some (by kernel_rfl))
 f29:=Tryz.func238.trans (congrArg some (by kernel_rfl))
 f30:=Tryz.func264.trans (congrArg some (by kernel_rfl))
 f31:=Tryz.func265.trans (congrArg some (by kernel_rfl))
 f32:=Tryz.func266.trans (congrArg some (by kernel_rfl))
 f33:=Tryz.func267.trans (congrArg some (by kernel_rfl))
 f34:=Tryz.func290.trans (congrArg some (by kernel_rfl))
 f35:=Tryz.func291.trans (congrArg some (by kernel_rfl))
 f36:=Tryz.func292.trans (congrArg some (by kernel_rfl))
 f37:=Tryz.func293.trans (congrArg some (by kernel_rfl))
 f38:=Tryz.func294.trans (congrArg some (by kernel_rfl))
 f39:=Tryz.func322.trans (congrArg some (by kernel_rfl))
 f40:=Tryz.func323.trans (congrArg some (by kernel_rfl))
 t0:=Tryz.underlying0
 a0:=Tryz.isAgg0
 z0:=Tryz.sizeOf0
 v0:=Tryz.zeroValue0
 i0:=by kernel_rfl
 t2:=Tryz.underlying2
 a2:=Tryz.isAgg2
 z2:=Tryz.sizeOf2
 v2:=Tryz.zeroValue2
 i2:=by kernel_rfl
 t3:=Tryz.underlying3
 a3:=Tryz.isAgg3
 z3:=Tryz.sizeOf3
 v3:=Tryz.zeroValue3
 i3:=by kernel_rfl
 t4:=Tryz.underlying4
 a4:=Tryz.isAgg4
 z4:=Tryz.sizeOf4
 v4:=Tryz.zeroValue4
 i4:=by kernel_rfl
 t5:=Tryz.underlying5
 a5:=Tryz.isAgg5
 z5:=Tryz.sizeOf5
 v5:=Tryz.zeroValue5
 i5:=by kernel_rfl
 t9:=Tryz.underlying9
 a9:=Tryz.isAgg9
 z9:=Tryz.sizeOf9
 v9:=Tryz.zeroValue9
 i9:=by kernel_rfl
 t20:=Tryz.underlying20
 a20:=Tryz.isAgg20
 z20:=Tryz.sizeOf20
 v20:=Tryz.zeroValue20
 i20:=by kernel_rfl
 t21:=Tryz.underlying21
 a21:=Tryz.isAgg21
 z21:=Tryz.sizeOf21
 v21:=Tryz.zeroValue21
 i21:=by kernel_rfl
 t22:=Tryz.underlying82
 a22:=Tryz.isAgg82
 z22:=Tryz.sizeOf82
 v22:=Tryz.zeroValue82
 i22:=by kernel_rfl
 t24:=Tryz.underlying291
 a24:=Tryz.isAgg291
 z24:=Tryz.sizeOf291
 v24:=Tryz.zeroValue291
 i24:=by kernel_rfl
 t25:=Tryz.underlying292
 a25:=Tryz.isAgg292
 z25:=Tryz.sizeOf292
 v25:=Tryz.zeroValue292
 i25:=by kernel_rfl
 t34:=Tryz.underlying320
 a34:=Tryz.isAgg320
 z34:=Tryz.sizeOf320
 v34:=Tryz.zeroValue320
 i34:=by kernel_rfl
 c34:=by kernel_rfl
 t36:=Tryz.underlying288
 a36:=Tryz.isAgg288
 z36:=Tryz.sizeOf288
 v36:=Tryz.zeroValue288
 i36:=by kernel_rfl
 t37:=Tryz.underlying22
 a37:=Tryz.isAgg22
 z37:=Tryz.sizeOf22
 v37:=Tryz.zeroValue22
 i37:=by kernel_rfl
 t39:=Tryz.underlying322
 a39:=Tryz.isAgg322
 z39:=Tryz.sizeOf322
 v39:=Tryz.zeroValue322
 i39:=by kernel_rfl
 t44:=Tryz.underlying331
 a44:=Tryz.isAgg331
 z44:=Tryz.sizeOf331
 v44:=Tryz.zeroValue331
 i44:=by kernel_rfl
 t47:=Tryz.underlying312
 a47:=Tryz.isAgg312
 z47:=Tryz.sizeOf312
 v47:=Tryz.zeroValue312
 i47:=by kernel_rfl
 t48:=Tryz.underlying333
 a48:=Tryz.isAgg333
 z48:=Tryz.sizeOf333
 v48:=Tryz.zeroValue333
 i48:=by kernel_rfl
 t50:=Tryz.underlying335
 a50:=Tryz.isAgg335
 z50:=Tryz.sizeOf335
 v50:=Tryz.zeroValue335
 i50:=by kernel_rfl
 t52:=Tryz.underlying264
 a52:=Tryz.isAgg264
 z52:=Tryz.sizeOf264
 v52:=Tryz.zeroValue264
 i52:=by kernel_rfl
 t55:=Tryz.underlying267
 a55:=Tryz.isAgg267
 z55:=Tryz.sizeOf267
 v55:=Tryz.zeroValue267
 i55:=by kernel_rfl
 t59:=Tryz.underlying285
 a59:=Tryz.isAgg285
 z59:=Tryz.sizeOf285
 v59:=Tryz.zeroValue285
 i59:=by kernel_rfl
 t60:=Tryz.underlying26
 a60:=Tryz.isAgg26
 z60:=Tryz.sizeOf26
 v60:=Tryz.zeroValue26
 i60:=by kernel_rfl
 t61:=Tryz.underlying286
 a61:=Tryz.isAgg286
 z61:=Tryz.sizeOf286
 t65:=Tryz.underlying318
 a65:=Tryz.isAgg318
 z65:=Tryz.sizeOf318
 v65:=Tryz.zeroValue318
 i65:=by kernel_rfl
 t66:=Tryz.underlying319
 a66:=Tryz.isAgg319
 z66:=Tryz.sizeOf319
 v66:=Tryz.zeroValue319
 i66:=by kernel_rfl
 t67:=Tryz.underlying162
 a67:=Tryz.isAgg162
 z67:=Tryz.sizeOf162
 v67:=Tryz.zeroValue162
 i67:=by kernel_rfl
 g0:=by kernel_rfl
 m0:=by kernel_rfl
 g1:=by kernel_rfl
 m1:=by kernel_rfl
 g2:=by kernel_rfl
 m2:=by kernel_rfl
 g3:=by kernel_rfl
 m3:=by kernel_rfl
 g4:=by kernel_rfl
 m4:=by kernel_rfl
end Go.Proofs
set_option maxHeartbeats 4000000
namespace Go.Ey.Pr
open Go Go.Ey Go.Ey.Seat Go.RowKit
theorem parse_dig {p:ByteArray×Nat} (h:p∈dig):Lib.parseUintB 32 p.1.data.toList=.ok p.2∧p.1.size≤10:=by
 simp only [dig,List.mem_cons,List.mem_nil_iff,or_false] at h
 rcases h with rfl|rfl|rfl|rfl<;>exact ⟨rfl,by decide⟩
theorem fok296 {p:ByteArray×Nat} (h:p∈dig):FnOK PP 296 [.one (cs p.1),.one (ci 10),.one (ci 32)] [.one (.lit (.int .u64 (p.2:Int))),.one (.lit .nilIface)]:=by
 refine ⟨call296,fun S w us hinv hall=>?_⟩
 match us,hall with
 |[u,v,x],⟨hu,hv,hx,_⟩=>
  have e1:u=.string p.1:=hu.1
  have e2:v=.int .i64 10:=hv.1
  have e3:x=.int .i64 32:=hx.1
  subst e1 e2 e3
  obtain ⟨h1,h2⟩:=parse_dig h
  have hc:=Go.Proofs.Any.strconv_ParseUint_10_at32_ok Go.Proofs.Tryz.laysPu14 p.1 (by omega) p.2 h1 w
  refine Calls.mono (show Calls PP 296 #[.string p.1,.int .i64 10,.int .i64 32] w _ from hc) ?_
  rintro e w' ⟨rfl,hw⟩
  refine ⟨_,rfl,⟨_,rfl,⟨rfl,rfl⟩,⟨rfl,rfl⟩,trivial⟩,?_⟩
  rcases hw with rfl|rfl
  ·exact Below.refl _ _
  ·exact Lib.bytesWorld_below _ _ _
end Go.Ey.Pr

namespace Go.Proofs
open Go.Shelf Go.RowKit
def Tryz.lays171R:Go.Shelf.Ren:=⟨fun|171=>176|243=>209|246=>238|283=>264|284=>265|285=>266|286=>267|129=>291|317=>290|318=>292|319=>293|320=>294|337=>322|338=>323|n=>n,fun|171=>264|53=>82|37=>22|173=>267|212=>285|51=>26|213=>286|46=>288|232=>318|233=>319|n=>n,fun|17=>0|18=>1|19=>2|n=>n⟩
theorem Tryz.lays171:Lays.n171 Tryz.prog Tryz.lays171R where
 mixed:=by kernel_rfl
 f129:=Tryz.func291.trans (congrArg some (by kernel_rfl))
 f171:=Tryz.func176.trans (congrArg some (by kernel_rfl))
 f243:=Tryz.func209.trans (congrArg some (by kernel_rfl))
 f246:=Tryz.func238.trans (congrArg some (by kernel_rfl))
 f283:=Tryz.func264.trans (congrArg some (by kernel_rfl))
 f284:=Tryz.func265.trans (congrArg some (by kernel_rfl))
 f285:=Tryz.func266.trans (congrArg some (by kernel_rfl))
 f286:=Tryz.func267.trans (congrArg some (by kernel_rfl))
 f317:=Tryz.func290.trans (congrArg some (by kernel_rfl))
 f318:=Tryz.func292.trans (congrArg some (by kernel_rfl))
 f319:=Tryz.func293.trans (congrArg some (by kernel_rfl))
 f320:=Tryz.func294.trans (congrArg some (by kernel_rfl))
 f337:=Tryz.func322.trans (congrArg some (by kernel_rfl))
 f338:=Tryz.func323.trans (congrArg some (by kernel_rfl))
 t0:=Tryz.underlying0
 a0:=Tryz.isAgg0
 z0:=Tryz.sizeOf0
 v0:=Tryz.zeroValue0
 t2:=Tryz.underlying2
 a2:=Tryz.isAgg2
 z2:=Tryz.sizeOf2
 v2:=Tryz.zeroValue2
 t3:=Tryz.underlying3
 a3:=Tryz.isAgg3
 z3:=Tryz.sizeOf3
 v3:=Tryz.zeroValue3
 t4:=Tryz.underlying4
 a4:=Tryz.isAgg4
 z4:=Tryz.sizeOf4
 v4:=Tryz.zeroValue4
 t5:=Tryz.underlying5
 a5:=Tryz.isAgg5
 z5:=Tryz.sizeOf5
 v5:=Tryz.zeroValue5
 t9:=Tryz.underlying9
 a9:=Tryz.isAgg9
 z9:=Tryz.sizeOf9
 v9:=Tryz.zeroValue9
 t20:=Tryz.underlying20
 a20:=Tryz.isAgg20
 z20:=Tryz.sizeOf20
 v20:=Tryz.zeroValue20
 t37:=Tryz.underlying22
 a37:=Tryz.isAgg22
 z37:=Tryz.sizeOf22
 v37:=Tryz.zeroValue22
 t46:=Tryz.underlying288
 a46:=Tryz.isAgg288
 z46:=Tryz.sizeOf288
 v46:=Tryz.zeroValue288
 t51:=Tryz.underlying26
 a51:=Tryz.isAgg26
 z51:=Tryz.sizeOf26
 v51:=Tryz.zeroValue26
 t53:=Tryz.underlying82
 a53:=Tryz.isAgg82
 z53:=Tryz.sizeOf82
 v53:=Tryz.zeroValue82
 t171:=Tryz.underlying264
 a171:=Tryz.isAgg264
 z171:=Tryz.sizeOf264
 v171:=Tryz.zeroValue264
 t173:=Tryz.underlying267
 a173:=Tryz.isAgg267
 z173:=Tryz.sizeOf267
 v173:=Tryz.zeroValue267
 t212:=Tryz.underlying285
 a212:=Tryz.isAgg285
 z212:=Tryz.sizeOf285
 v212:=Tryz.zeroValue285
 t213:=Tryz.underlying286
 a213:=Tryz.isAgg286
 z213:=Tryz.sizeOf286
 t232:=Tryz.underlying318
 a232:=Tryz.isAgg318
 z232:=Tryz.sizeOf318
 v232:=Tryz.zeroValue318
 t233:=Tryz.underlying319
 a233:=Tryz.isAgg319
 z233:=Tryz.sizeOf319
 v233:=Tryz.zeroValue319
 g17:=by kernel_rfl
 g18:=by kernel_rfl
 g19:=by kernel_rfl
def Tryz.renB:Go.Shelf.Ren:=⟨fun|166=>303|240=>326|276=>340|169=>304|n=>n,fun|70=>297|72=>299|37=>22|75=>291|80=>162|164=>325|127=>312|n=>n,fun n=>n⟩
theorem Tryz.lays166:Lays.n166 Tryz.prog Tryz.renB where
 mixed:=by kernel_rfl
 f166:=Tryz.func303.trans (congrArg some (by kernel_rfl))
 f240:=Tryz.func326.trans (congrArg some (by kernel_rfl))
 f276:=Tryz.func340.trans (congrArg some (by kernel_rfl))
 t0:=Tryz.underlying0
 a0:=Tryz.isAgg0
 z0:=Tryz.sizeOf0
 v0:=Tryz.zeroValue0
 t3:=Tryz.underlying3
 a3:=Tryz.isAgg3
 z3:=Tryz.sizeOf3
 v3:=Tryz.zeroValue3
 t4:=Tryz.underlying4
 a4:=Tryz.isAgg4
 z4:=Tryz.sizeOf4
 v4:=Tryz.zeroValue4
 t9:=Tryz.underlying9
 a9:=Tryz.isAgg9
 z9:=Tryz.sizeOf9
 v9:=Tryz.zeroValue9
 t20:=Tryz.underlying20
 a20:=Tryz.isAgg20
 z20:=Tryz.sizeOf20
 v20:=Tryz.zeroValue20
 t37:=Tryz.underlying22
 a37:=Tryz.isAgg22
 z37:=Tryz.sizeOf22
 v37:=Tryz.zeroValue22
 t70:=Tryz.underlying297
 a70:=Tryz.isAgg297
 z70:=Tryz.sizeOf297
 v70:=Tryz.zeroValue297
 t72:=Tryz.underlying299
 a72:=Tryz.isAgg299
 z72:=Tryz.sizeOf299
 v72:=Tryz.zeroValue299
 t75:=Tryz.underlying291
 a75:=Tryz.isAgg291
 z75:=Tryz.sizeOf291
 v75:=Tryz.zeroValue291
 t164:=Tryz.underlying325
 a164:=Tryz.isAgg325
 z164:=Tryz.sizeOf325
 v164:=Tryz.zeroValue325
theorem Tryz.lays169:Lays.n169 Tryz.prog Tryz.renB where
 mixed:=by kernel_rfl
 f169:=Tryz.func304.trans (congrArg some (by kernel_rfl))
 t0:=Tryz.underlying0
 a0:=Tryz.isAgg0
 z0:=Tryz.sizeOf0
 v0:=Tryz.zeroValue0
 t3:=Tryz.underlying3
 a3:=Tryz.isAgg3
 z3:=Tryz.sizeOf3
 v3:=Tryz.zeroValue3
 t9:=Tryz.underlying9
 a9:=Tryz.isAgg9
 z9:=Tryz.sizeOf9
 v9:=Tryz.zeroValue9
 t37:=Tryz.underlying22
 a37:=Tryz.isAgg22
 z37:=Tryz.sizeOf22
 v37:=Tryz.zeroValue22
 t70:=Tryz.underlying297
 a70:=Tryz.isAgg297
 z70:=Tryz.sizeOf297
 v70:=Tryz.zeroValue297
 t72:=Tryz.underlying299
 a72:=Tryz.isAgg299
 z72:=Tryz.sizeOf299
 v72:=Tryz.zeroValue299
 t127:=Tryz.underlying312
 a127:=Tryz.isAgg312
 z127:=Tryz.sizeOf312
 v127:=Tryz.zeroValue312
theorem Tryz.builderX:Builder.Extra Tryz.prog Tryz.renB where
 sizeBuilder:=by kernel_rfl
 liesBuilder:=by kernel_rfl
 t5:=Tryz.underlying5
 a5:=Tryz.isAgg5
 z5:=Tryz.sizeOf5
 v5:=Tryz.zeroValue5
 infoByte:=by kernel_rfl
 cellsByte:=by kernel_rfl
 sizeByte:=by kernel_rfl
 neB5:=by decide
theorem Tryz.wWrite (B b:Nat) (bs:List Value) (s:ByteArray) (w:World) (h:Lib.IsBuilder 299 5 B b bs w) (hlen:bs.length+s.size≤140737488355328) (hBw:B≤w.heap.size):
  Calls Tryz.prog 303 #[.pointer (some ⟨b,0,none⟩),.string s] w fun e w'=>e=.returned (.tuple #[.int .i64 s.size,.nilIface])∧(Lib.BuilderAt 299 5 B b (.pointer (some ⟨b,0,none⟩)) (bs++Lib.strCells s) w'∧Below B w w'):=Any.Builder_WriteString Tryz.lays166 Tryz.builderX B b bs s w h hlen hBw
theorem Tryz.wString (B b:Nat) (l:List UInt8) (w:World) (h:Lib.IsBuilder 299 5 B b (Lib.byteCells l) w) (h0:l≠[]):
  Calls Tryz.prog 304 #[.pointer (some ⟨b,0,none⟩)] w fun e w'=>e=.returned (.string ⟨l.toArray⟩)∧Below B w w':=Any.Builder_String Tryz.lays169 Tryz.builderX B b l w h h0
theorem Tryz.wItoa (i:Nat) (hi:i < 100) (w:World):
  Calls Tryz.prog 176 #[.int .i64 i] w fun e w'=>e=.returned (.string ⟨(Lib.decDigits i).toArray⟩)∧w'=w:=Any.strconv_Itoa_small Tryz.lays171 i hi w
theorem Tryz.walk272 (bk o cap:Nat) (w:World) (hc:w.cell? ⟨bk,o,none⟩=some (.int .u32 1)):
  Calls Tryz.prog 272 #[.agg #[.bool false,.slice (some ⟨bk,o,none⟩) 1 cap]] w fun e w'=>e=.returned (.string ⟨#[49]⟩)∧Below w.heap.size w w':=by
 have b1:Below w.heap.size w (w.alloc (.cells #[.bool false,.slice (some ⟨bk,o,none⟩) 1 cap] 271)):=(Below.refl _ w).alloc (Nat.le_refl _) _
 have b2:Below w.heap.size w ((w.alloc (.cells #[.bool false,.slice (some ⟨bk,o,none⟩) 1 cap] 271)).alloc (.cells #[.pointer none,.slice none 0 0] 299)):=b1.alloc b1.size _
 have hc2:=(b2.cell (World.block_lt_of_cell? _ _ hc)).trans hc
 have hB:=Lib.fresh_isBuilder 299 5 (w.alloc (.cells #[.bool false,.slice (some ⟨bk,o,none⟩) 1 cap] 271))
 have hz:(w.alloc (.cells #[.bool false,.slice (some ⟨bk,o,none⟩) 1 cap] 271)).heap.size=w.heap.size+1:=by simp
 rw [hz] at hB
 obtain ⟨W2,hW2⟩:∃W2,W2=(w.alloc (.cells #[.bool false,.slice (some ⟨bk,o,none⟩) 1 cap] 271)).alloc (.cells #[.pointer none,.slice none 0 0] 299):=⟨_,rfl⟩
 go_enter Tryz.func272,Tryz.ntmps272
 go_wp2_with (go_at_call 176;refine (Tryz.wItoa 1 (by omega) _).mono ?_)
 rintro e W3 ⟨rfl,rfl⟩
 go_wp2_with (go_at_call 303;refine (Tryz.wWrite (w.heap.size+1) (w.heap.size+1) [] _ _ hB ?h1 ?h2).mono ?h3)
 case h1=>
  simp [Lib.decDigits]
  exact Nat.le_of_ble_eq_true rfl
 case h2=>simp
 case h3=>
  rintro e W4 ⟨rfl,h4,b4⟩
  have e4:(([]:List Value)++Lib.strCells ⟨(Lib.decDigits 1).toArray⟩)=Lib.byteCells [49]:=by
   rw [List.nil_append,Lib.strCells_eq]
   simp [Lib.decDigits]
  rw [e4] at h4
  have hc4:W4.cell? ⟨w.heap.size,1,none⟩=some (.slice (some ⟨bk,o,none⟩) 1 cap):=by
   refine (b4.cell (by show w.heap.size < w.heap.size+1;omega)).trans ?_
   have b3:Below (w.heap.size+1) (w.alloc (.cells #[.bool false,.slice (some ⟨bk,o,none⟩) 1 cap] 271)) ((w.alloc (.cells #[.bool false,.slice (some ⟨bk,o,none⟩) 1 cap] 271)).alloc (.cells #[.pointer none,.slice none 0 0] 299)):=(Below.refl _ _).alloc (by rw [hz];exact Nat.le_refl _) _
   refine (b3.cell (by show w.heap.size < w.heap.size+1;omega)).trans ?_
   have hn:(w.alloc (.cells #[.bool false,.slice (some ⟨bk,o,none⟩) 1 cap] 271)).heap[w.heap.size]?=some (.cells #[.bool false,.slice (some ⟨bk,o,none⟩) 1 cap] 271):=by
    show (w.heap.push _)[w.heap.size]?=_
    simp
   simp only [World.cell?,hn]
   rfl
  go_wp2
  refine wp_loop_rounds 1 ?_
  rw [rounds_succ]
  go_wp2_with (go_at_call 304;refine (Tryz.wString (w.heap.size+1) (w.heap.size+1) [49] _ (Or.inr h4) ?h5).mono ?h6)
  case h5=>simp
  case h6=>
   rintro e W5 ⟨rfl,b5⟩
   go_wp2
   go_ret
   exact ⟨rfl,b2.trans ((b4.trans b5).mono (by omega))⟩
end Go.Proofs
set_option maxHeartbeats 4000000
namespace Go.Ey.Pr
open Go Go.Ey Go.Ey.Seat Go.RowKit
theorem fok272:FnOK PP 272 [.agg [cb false,cL 1]] [.one (cs ⟨#[49]⟩)]:=by
 refine ⟨call_of (by kernel_rfl),fun S w us hinv hall=>?_⟩
 match us,hall with
 |[u],⟨hu,_⟩=>
  obtain ⟨vs,rfl,hall2⟩:=hu
  match vs,hall2 with
  |[a,b],⟨ha,hb,_⟩=>
   have e1:a=.bool false:=ha.1
   subst e1
   rcases hb with ⟨_,h0,_⟩|⟨ad,cap,rfl,hcap,hsp,hcells⟩
   ·cases h0
   ·obtain ⟨bk,o,sp⟩:=ad
    have hs:sp=none:=hsp (by simp)
    subst hs
    obtain ⟨⟨x,hx,_,hx2⟩,_⟩:=hcells
    have e2:x=.int .u32 1:=hx2.1
    subst e2
    refine Calls.mono (Go.Proofs.Tryz.walk272 bk o cap w hx) ?_
    rintro e w' ⟨rfl,hw⟩
    exact ⟨_,rfl,⟨rfl,rfl⟩,hw⟩
end Go.Ey.Pr

namespace Go.Ey
mutual
theorem RK.one:∀{k:K} {c d:C},RK k c→RK k d→c=d
 |.i _ _,_,_,.i _ _,.i _ _=>rfl
 |.b _,_,_,.b _,.b _=>rfl
 |.o _,_,_,.o _,.o _=>rfl
 |.s _ _,_,_,.s _ _ b hb _,.s _ _ b' hb' _=>by
  have h:b.data.toList=b'.data.toList:=hb.trans hb'.symm
  obtain ⟨b⟩:=b
  obtain ⟨b'⟩:=b'
  have h2:b=b':=Array.toList_inj.1 h
  rw [h2]
 |.sl _ _ _,_,_,.sl _ _ _ _ h _,.sl _ _ _ _ h' _=>by rw [RKr.one h h']
theorem RKs.one:∀{k:List K} {c d:List C},RKs k c→RKs k d→c=d
 |[],_,_,.nil,.nil=>rfl
 |_::_,_,_,.cons h1 h2,.cons g1 g2=>by rw [RK.one h1 g1,RKs.one h2 g2]
theorem RKr.one:∀{e:Nat} {k:List (List K)} {c d:List C},RKr e k c→RKr e k d→c=d
 |_,[],_,_,.nil,.nil=>rfl
 |_,_::_,_,_,.cons h1 _ h3,.cons g1 _ g3=>by rw [RKs.one h1 g1,RKr.one h3 g3]
end
end Go.Ey

namespace Go.Ey.Pr
open Go Go.Ey Go.Ey.Seat
def kOb:Ob→List K
 |.cons a b=>[kI 4,kE,kE,kE,kE,kE,.sl 7 [kOb b,kOb a] 2]
 |.num n d=>kO (.num n d)
 |.sy p s=>kO (.sy p s)
 |.st t=>kO (.st t)
theorem kOb_len (o:Ob):(kOb o).length=7:=by cases o<;>rfl
theorem rkOb:∀o:Ob,RKs (kOb o) (enc o)
 |.cons a b=>by
  have h1:=RKr.cons (rkOb a) (kOb_len a) (RKr.nil (esz:=7))
  have h2:=RKr.cons (rkOb b) (kOb_len b) h1
  exact .cons (RK.i _ _) (.cons rkE (.cons rkE (.cons rkE (.cons rkE (.cons rkE (.cons (RK.sl 7 [kOb b,kOb a] 2 _ h2 rfl) .nil))))))
 |.num n d=>rkO (o:=.num n d) rfl
 |.sy p s=>rkO (o:=.sy p s) rfl
 |.st t=>rkO (o:=.st t) rfl
theorem RKs.app:∀{a b:List K} {c d:List C},RKs a c→RKs b d→RKs (a++b) (c++d)
 |[],_,_,_,.nil,h=>h
 |_::_,_,_,_,.cons h1 h2,h=> .cons h1 (RKs.app h2 h)
theorem RKr.snoc {e:Nat}:∀{rev:List (List K)} {cs:List C} {row:List K} {r:List C},RKr e rev cs→RKs row r→row.length=e→RKr e (rev++[row]) (r++cs)
 |[],_,row,r,.nil,h,hl=>by
  have:=RKr.cons h hl (RKr.nil (esz:=e))
  simpa using this
 |x::rev,_,row,r,.cons h1 h2 h3,h,hl=>by
  rw [List.cons_append,←List.append_assoc]
  exact RKr.cons h1 h2 (RKr.snoc h3 h hl)
mutual
def kT:Tm→List K
 |.var p s=>[kI 1,kS p,kS s,kI 0,kE,kE,kE,kE,kE,kz,kz]
 |.con o=>[kI 2,kE,kE]++kOb o++[kz]
 |.app p s ts=>[kI 3,kS p,kS s,kI 0,kE,kE,kE,kE,kE,kz,.sl 11 (kTr ts) ts.length]
def kTr:List Tm→List (List K)
 |[]=>[]
 |t::ts=>kTr ts++[kT t]
end
theorem kT_len (t:Tm):(kT t).length=11:=by
 cases t with
 |con o=>simp [kT,kOb_len]
 |_=>rfl
theorem kTr_len:∀ts:List Tm,(kTr ts).length=ts.length
 |[]=>rfl
 |t::ts=>by simp [kTr,kTr_len ts]
theorem enc7 (o:Ob):[nthC (enc o) 0,nthC (enc o) 1,nthC (enc o) 2,nthC (enc o) 3,nthC (enc o) 4,nthC (enc o) 5,nthC (enc o) 6,cz]=enc o++[cz]:=by cases o<;>rfl
mutual
theorem rkT:∀t:Tm,RKs (kT t) (encT t)
 |.var p s=> .cons (RK.i _ _) (.cons (rkS p) (.cons (rkS s) (.cons (RK.i _ _) (.cons rkE (.cons rkE (.cons rkE (.cons rkE (.cons rkE (.cons rkZ (.cons rkZ .nil))))))))))
 |.con o=>by
  rw [encT,enc7]
  exact .cons (RK.i _ _) (.cons rkE (.cons rkE (RKs.app (rkOb o) (.cons rkZ .nil))))
 |.app p s ts=> .cons (RK.i _ _) (.cons (rkS p) (.cons (rkS s) (.cons (RK.i _ _) (.cons rkE (.cons rkE (.cons rkE (.cons rkE (.cons rkE (.cons rkZ (.cons (RK.sl 11 (kTr ts) _ _ (rkTr ts) (kTr_len ts)) .nil))))))))))
theorem rkTr:∀ts:List Tm,RKr 11 (kTr ts) (encTs ts)
 |[]=>RKr.nil
 |t::ts=>RKr.snoc (rkTr ts) (rkT t) (kT_len t)
end
noncomputable def natOf:List (Nat×List V×List V)→Nat→List V→Option (List V)
 |[],_,_=>none
 |e::l,f,vs=>cond (Nat.beq e.1 f) (haveI:=Classical.propDecidable (e.2.1=vs);if e.2.1=vs then some e.2.2 else natOf l f vs) (natOf l f vs)
theorem natOf_mem:∀{l:List (Nat×List V×List V)} {f:Nat} {vs rs:List V},natOf l f vs=some rs→(f,vs,rs)∈l
 |[],_,_,_,h=>by simp [natOf] at h
 |e::l,f,vs,rs,h=>by
  simp only [natOf] at h
  cases hb:Nat.beq e.1 f with
  |false=>rw [hb] at h;exact List.mem_cons_of_mem _ (natOf_mem h)
  |true=>
   rw [hb,cond_true] at h
   split at h
   ·rename_i he
    simp only [Option.some.injEq] at h
    have h1:e.1=f:=Nat.eq_of_beq_eq_true hb
    have:e=(f,vs,rs):=by rw [←h1,←he,←h]
    rw [this];simp
   ·exact List.mem_cons_of_mem _ (natOf_mem h)
theorem natOf_out {l:List (Nat×List V×List V)} {f:Nat} {vs:List V} (h:∀e∈l,e.1≠f):natOf l f vs=none:=by
 cases hn:natOf l f vs with
 |none=>rfl
 |some rs=>exact absurd rfl (h _ (natOf_mem hn))
theorem natOf_at:∀{l:List (Nat×List V×List V)} {f:Nat} {vs rs:List V},(f,vs,rs)∈l→(∀e∈l,e.1=f→e.2.1=vs→e.2.2=rs)→natOf l f vs=some rs
 |e::l,f,vs,rs,hm,hu=>by
  simp only [natOf]
  cases hb:Nat.beq e.1 f with
  |false=>
   rw [cond_false]
   rcases List.mem_cons.1 hm with h|h
   ·rw [←h] at hb;simp at hb
   ·exact natOf_at h fun x hx=>hu x (by simp [hx])
  |true=>
   rw [cond_true]
   have h1:e.1=f:=Nat.eq_of_beq_eq_true hb
   split
   ·rename_i he
    rw [hu e (by simp) h1 he]
   ·rename_i he
    rcases List.mem_cons.1 hm with h|h
    ·rw [←h] at he;exact absurd rfl he
    ·exact natOf_at h fun x hx=>hu x (by simp [hx])
def l238:List (Nat×List V×List V):=([-3,-2,-1,0,1,2,3]:List Int).map fun n=>(238,[.one (ci n),.one (ci 10)],[.one (cs (strN n))])
def l296:List (Nat×List V×List V):=dig.map fun p=>(296,[.one (cs p.1),.one (ci 10),.one (ci 32)],[.one (.lit (.int .u64 (p.2:Int))),.one (.lit .nilIface)])
def l272:List (Nat×List V×List V):=[(272,[.agg [cb false,cL 1]],[.one (cs ⟨#[49]⟩)])]
def lB (m:List (Nat×List V×List V)):List (Nat×List V×List V):=l238++l296++l272++m
theorem mem238 {e:Nat×List V×List V} (h:e∈l238):∃n:Int,-3≤n∧n≤3∧e=(238,[.one (ci n),.one (ci 10)],[.one (cs (strN n))]):=by
 obtain ⟨n,hn,rfl⟩:=List.mem_map.1 h
 simp only [List.mem_cons,List.mem_nil_iff,or_false] at hn
 exact ⟨n,by omega,by omega,rfl⟩
theorem lB_mem {m:List (Nat×List V×List V)} {e:Nat×List V×List V} (h:e∈lB m):e∈l238∨e∈l296∨e∈l272∨e∈m:=by
 simp only [lB,List.mem_append] at h
 rcases h with ((h|h)|h)|h
 ·exact .inl h
 ·exact .inr (.inl h)
 ·exact .inr (.inr (.inl h))
 ·exact .inr (.inr (.inr h))
theorem lB_ok {m:List (Nat×List V×List V)} (hm:∀e∈m,FnOK PP e.1 e.2.1 e.2.2):∀e∈lB m,FnOK PP e.1 e.2.1 e.2.2:=by
 intro e he
 rcases lB_mem he with h|h|h|h
 ·obtain ⟨n,h1,h2,rfl⟩:=mem238 h
  exact fok238 h1 h2
 ·obtain ⟨p,hp,rfl⟩:=List.mem_map.1 h
  exact fok296 hp
 ·simp only [l272,List.mem_singleton] at h
  subst h
  exact fok272
 ·exact hm e h
def Only91 (m:List (Nat×List V×List V)):Prop:=∀e∈m,e.1=91
theorem lB_f {m:List (Nat×List V×List V)} (h9:Only91 m) {e:Nat×List V×List V} (he:e∈lB m):e.1=238∨e.1=296∨e.1=272∨e.1=91:=by
 rcases lB_mem he with h|h|h|h
 ·obtain ⟨n,_,_,rfl⟩:=mem238 h;exact .inl rfl
 ·obtain ⟨p,_,rfl⟩:=List.mem_map.1 h;exact .inr (.inl rfl)
 ·simp only [l272,List.mem_singleton] at h;subst h;exact .inr (.inr (.inl rfl))
 ·exact .inr (.inr (.inr (h9 e h)))
theorem isN238:isN 238=true:=by kernel_rfl
theorem isN296:isN 296=true:=by kernel_rfl
theorem isN272:isN 272=true:=by kernel_rfl
theorem isN91:isN 91=true:=by kernel_rfl
theorem names_ok (nat:Nat→List V→Option (List V)):(T nat).P.funcs.all (fun fn=>!(fn.name== "runtime.NumGoroutine"))=true:=by kernel_rfl
theorem mixed_ok (nat:Nat→List V→Option (List V)):(T nat).P.follows .mixedOrders=true:=by kernel_rfl
theorem isN_ok {m:List (Nat×List V×List V)} (h9:Only91 m) (f:Nat) (vs:List V) (hf:isN f=false):natOf (lB m) f vs=none:=natOf_out fun e he hef=>by
 rw [←hef] at hf
 rcases lB_f h9 he with h|h|h|h<;>rw [h] at hf
 ·rw [isN238] at hf;cases hf
 ·rw [isN296] at hf;cases hf
 ·rw [isN272] at hf;cases hf
 ·rw [isN91] at hf;cases hf
theorem nat_ok {m:List (Nat×List V×List V)} (hm:∀e∈m,FnOK PP e.1 e.2.1 e.2.2) (f:Nat) (vs rs:List V) (h:natOf (lB m) f vs=some rs):FnOK PP f vs rs:=lB_ok hm (f,vs,rs) (natOf_mem h)
theorem seat_ok {m:List (Nat×List V×List V)} (h9:Only91 m) (hm:∀e∈m,FnOK PP e.1 e.2.1 e.2.2):(T (natOf (lB m))).OK:=
 ⟨isN_ok h9,nat_ok hm,names_ok _,mixed_ok _⟩
theorem natF {m:List (Nat×List V×List V)} (h9:Only91 m):NatF (natOf (lB m)):=by
 intro n h1 h2
 refine natOf_at ?_ fun e he h3 h4=>?_
 ·refine List.mem_append_left _ (List.mem_append_left _ (List.mem_append_left _ (List.mem_map.2 ⟨n,?_,rfl⟩)))
  have:n=-3∨n=-2∨n=-1∨n=0∨n=1∨n=2∨n=3:=by omega
  simpa using this
 ·rcases lB_mem he with h|h|h|h
  ·obtain ⟨k,_,_,rfl⟩:=mem238 h
   simp only [ci,List.cons.injEq,V.one.injEq,C.lit.injEq,Value.int.injEq,true_and,and_true] at h4
   rw [h4]
  ·obtain ⟨p,_,rfl⟩:=List.mem_map.1 h;cases h3
  ·simp only [l272,List.mem_singleton] at h;subst h;cases h3
  ·have:=h9 e h;rw [this] at h3;cases h3
theorem natP {m:List (Nat×List V×List V)} (h9:Only91 m):NatP (natOf (lB m)):=by
 intro p hp
 refine natOf_at ?_ fun e he h3 h4=>?_
 ·exact List.mem_append_left _ (List.mem_append_left _ (List.mem_append_right _ (List.mem_map.2 ⟨p,hp,rfl⟩)))
 ·rcases lB_mem he with h|h|h|h
  ·obtain ⟨k,_,_,rfl⟩:=mem238 h;cases h3
  ·obtain ⟨q,hq,rfl⟩:=List.mem_map.1 h
   simp only [cs,List.cons.injEq,V.one.injEq,C.lit.injEq,Value.string.injEq,and_true] at h4
   have:q=p:=by
    simp only [dig,List.mem_cons,List.mem_nil_iff,or_false] at hp hq
    rcases hp with rfl|rfl|rfl|rfl<;>rcases hq with rfl|rfl|rfl|rfl<;>first|rfl|(exact absurd h4 (by decide))
   rw [this]
  ·simp only [l272,List.mem_singleton] at h;subst h;cases h3
  ·have:=h9 e h;rw [this] at h3;cases h3
theorem natS {m:List (Nat×List V×List V)} (h9:Only91 m):NatS (natOf (lB m)):=by
 refine natOf_at ?_ fun e he h3 h4=>?_
 ·exact List.mem_append_left _ (List.mem_append_right _ (by simp [l272]))
 ·rcases lB_mem he with h|h|h|h
  ·obtain ⟨k,_,_,rfl⟩:=mem238 h;cases h3
  ·obtain ⟨q,hq,rfl⟩:=List.mem_map.1 h;cases h3
  ·simp only [l272,List.mem_singleton] at h;subst h;rfl
  ·have:=h9 e h;rw [this] at h3;cases h3
end Go.Ey.Pr

set_option maxHeartbeats 4000000
namespace Go.Ey.Pr
open Go.Ey Go.Ey.Seat
def t244:TFun:=⟨[.one,.one],[],
 .call 270 [(.v (.one (.v 0)))] [] [(some 2)] [] <|
 .call 270 [(.v (.one (.v 1)))] [] [(some 2)] [] <|
 .goto 0 [(.c (.n 2 1)),(.c (.n 3 1))],
 [.opc (.len false (.v 1)) <|
 .opc (.bin .gtr false (.v 2) (.k (.int .i64 0))) <|
 .ite (.v 3)
 (.call 271 [(.v (.one (.v 0))),(.v (.one (.v 1)))] [] [none,none] [] <|
 .goto 0 [(.c (.v 1)),(.c (.v 5))])
 (.call 272 [(.v (.agg (.lit [(.k (.bool false)),(.v 0)])))] [] [none] [] <|
 .ret [(.one (.v 4))] [])]⟩
def t223:TFun:=⟨[.one,.one],[],
 .call 242 [(.v (.one (.v 0)))] [] [none] [] <|
 .call 242 [(.v (.one (.v 1)))] [] [none] [] <|
 .opc (.bin .eql false (.v 3) (.k (.string ⟨#[48]⟩))) <|
 .ite (.v 4)
 (.ret [(.one (.k (.string ⟨#[48]⟩))),(.one (.k (.string ⟨#[49]⟩)))] [])
 (.opc (.bin .eql false (.v 3) (.k (.string ⟨#[49]⟩))) <|
 .ite (.v 5)
 (.ret [(.one (.v 2)),(.one (.v 3))] [])
 (.opc (.sidx (.v 3) (.k (.int .i64 0))) <|
 .opc (.bin .eql false (.v 6) (.k (.int .u8 45))) <|
 .ite (.v 7)
 (.call 243 [(.v (.one (.v 2)))] [] [none] [] <|
 .call 243 [(.v (.one (.v 3)))] [] [none] [] <|
 .call 244 [(.v (.one (.v 8))),(.v (.one (.v 9)))] [] [none] [] <|
 .opc (.bin .eql false (.v 10) (.k (.string ⟨#[49]⟩))) <|
 .ite (.v 11)
 (.ret [(.one (.v 8)),(.one (.v 9))] [])
 (.call 245 [(.v (.one (.v 8))),(.v (.one (.v 10)))] [] [none,none] [] <|
 .call 245 [(.v (.one (.v 9))),(.v (.one (.v 10)))] [] [none,none] [] <|
 .ret [(.one (.v 12)),(.one (.v 14))] []))
 (.call 244 [(.v (.one (.v 2))),(.v (.one (.v 3)))] [] [none] [] <|
 .opc (.bin .eql false (.v 8) (.k (.string ⟨#[49]⟩))) <|
 .ite (.v 9)
 (.ret [(.one (.v 2)),(.one (.v 3))] [])
 (.call 245 [(.v (.one (.v 2))),(.v (.one (.v 8)))] [] [none,none] [] <|
 .call 245 [(.v (.one (.v 3))),(.v (.one (.v 8)))] [] [none,none] [] <|
 .ret [(.one (.v 10)),(.one (.v 12))] [])))),
 []⟩
def t189:TFun:=⟨[.one,.one],[],
 .call 221 [(.v (.one (.v 0)))] [] [none] [] <|
 .opc (.un .not (.v 2)) <|
 .ite (.v 3)
 (.ret [(.one (.k (.bool false)))] [])
 (.call 221 [(.v (.one (.v 1)))] [] [none] [] <|
 .opc (.un .not (.v 4)) <|
 .ite (.v 5)
 (.ret [(.one (.k (.bool false)))] [])
 (.call 222 [(.v (.one (.v 0)))] [] [none] [] <|
 .opc (.bin .gtr false (.v 6) (.k (.int .i64 100))) <|
 .ite (.v 7)
 (.ret [(.one (.k (.bool false)))] [])
 (.call 222 [(.v (.one (.v 1)))] [] [none] [] <|
 .opc (.bin .gtr false (.v 8) (.k (.int .i64 100))) <|
 .ite (.v 9)
 (.ret [(.one (.k (.bool false)))] [])
 (.call 223 [(.v (.one (.v 0))),(.v (.one (.v 1)))] [] [none,none] [] <|
 .opc (.bin .eql false (.v 10) (.v 0)) <|
 .ite (.v 12)
 (.opc (.bin .eql false (.v 11) (.v 1)) <|
 .ret [(.one (.v 13))] [])
 (.ret [(.one (.k (.bool false)))] []))))),
 []⟩
section
variable {nat:Nat→List V→Option (List V)}
theorem tree244:(T nat).G.fn 244=some t244:=by kernel_rfl
theorem tree223:(T nat).G.fn 223=some t223:=by kernel_rfl
theorem tree189:(T nat).G.fn 189=some t189:=by kernel_rfl
theorem psig221:(T nat).psig 221=some [.one]:=by kernel_rfl
theorem psig222:(T nat).psig 222=some [.one]:=by kernel_rfl
theorem psig242:(T nat).psig 242=some [.one]:=by kernel_rfl
theorem psig189:(T nat).psig 189=some [.one,.one]:=by kernel_rfl
theorem m1 (hn:NatI nat) {f n:Nat} (hp:(T nat).psig f=some [.one]) {s:ByteArray} {x:K} (hk:(krun kgM n).fn f [.c (kS s)] []=.ret [.c x] []):∃c,RK x c∧fnT (T nat).G f [.v (.one (cs s))] []=some ([.one c],[]):=by
 obtain ⟨r1,g1,g2,g3⟩:=krun_fn (kgM_ok hn) hp (ts:=[.v (.one (.v 0))]) rfl (ys:=[.c (kS s)]) (us:=[.v (.one (cs s))]) ⟨rkS s,trivial⟩ (zs:=[]) (css:=[]) trivial hk
 obtain ⟨a1,b1⟩:=r1
 match a1,b1,g2,g3 with
 |[.one c1],[],g2,_=>exact ⟨c1,g2.1,g1⟩
theorem m2 (hn:NatI nat) {f n:Nat} (hp:(T nat).psig f=some [.one,.one]) {s t:ByteArray} {x:K} (hk:(krun kgM n).fn f [.c (kS s),.c (kS t)] []=.ret [.c x] []):∃c,RK x c∧fnT (T nat).G f [.v (.one (cs s)),.v (.one (cs t))] []=some ([.one c],[]):=by
 obtain ⟨r1,g1,g2,g3⟩:=krun_fn (kgM_ok hn) hp (ts:=[.v (.one (.v 0)),.v (.one (.v 0))]) rfl (ys:=[.c (kS s),.c (kS t)]) (us:=[.v (.one (cs s)),.v (.one (cs t))]) ⟨rkS s,rkS t,trivial⟩ (zs:=[]) (css:=[]) trivial hk
 obtain ⟨a1,b1⟩:=r1
 match a1,b1,g2,g3 with
 |[.one c1],[],g2,_=>exact ⟨c1,g2.1,g1⟩
def easy:List (ByteArray×ByteArray):=[(⟨#[48]⟩,⟨#[49]⟩),(⟨#[49]⟩,⟨#[49]⟩),(⟨#[50]⟩,⟨#[49]⟩),(⟨#[51]⟩,⟨#[49]⟩),(⟨#[45,49]⟩,⟨#[49]⟩),(⟨#[45,50]⟩,⟨#[49]⟩),(⟨#[45,51]⟩,⟨#[49]⟩)]
noncomputable def run189:Bool:=easy.all fun p=>isYes ((krun kgM 300).fn 189 [.c (kS p.1),.c (kS p.2)] [])
theorem run189_ok:run189=true:=by kernel_rfl
theorem ea_fn (hn:NatI nat) {m:Nat} {s t:ByteArray} (h:isYes ((krun kgM m).fn 189 [.c (kS s),.c (kS t)] [])=true):fnT (T nat).G 189 [.v (.one (cs s)),.v (.one (cs t))] []=some yes:=by
 obtain ⟨c,b,e⟩:=m2 hn psig189 (isYes_eq h)
 rw [b.bool] at e
 exact e
def txts:List ByteArray:=[⟨#[49]⟩,⟨#[50]⟩,⟨#[51]⟩,⟨#[45,53]⟩]
noncomputable def run221:Bool:=txts.all fun s=>isYes ((krun kgM 300).fn 221 [.c (kS s)] [])
theorem run221_ok:run221=true:=by kernel_rfl
def isOne:Ans→Bool
 |.ret [.c (.i .i64 (.ofNat 1))] []=>true
 |_=>false
theorem isOne_eq {a:Ans} (h:isOne a=true):a=.ret [.c (.i .i64 (.ofNat 1))] []:=by
 unfold isOne at h
 split at h
 ·rfl
 ·cases h
noncomputable def run222:Bool:=txts.all fun s=>isOne ((krun kgM 300).fn 222 [.c (kS s)] [])
theorem run222_ok:run222=true:=by kernel_rfl
def isStr (s:ByteArray):Ans→Bool
 |.ret [.c (.s a v)] []=>(a==s.data.toList.length) && (v==packL s.data.toList)
 |_=>false
theorem isStr_eq {s:ByteArray} {a:Ans} (h:isStr s a=true):a=.ret [.c (kS s)] []:=by
 unfold isStr at h
 split at h
 ·simp only [Bool.and_eq_true,beq_iff_eq] at h
  obtain ⟨rfl,rfl⟩:=h
  rfl
 ·cases h
noncomputable def run242:Bool:=txts.all fun s=>isStr s ((krun kgM 300).fn 242 [.c (kS s)] [])
theorem run242_ok:run242=true:=by kernel_rfl
theorem f221 (hn:NatI nat) {m:Nat} {s:ByteArray} (h:isYes ((krun kgM m).fn 221 [.c (kS s)] [])=true):fnT (T nat).G 221 [.v (.one (cs s))] []=some yes:=by
 obtain ⟨c,b,e⟩:=m1 hn psig221 (isYes_eq h)
 rw [b.bool] at e
 exact e
theorem f222 (hn:NatI nat) {m:Nat} {s:ByteArray} (h:isOne ((krun kgM m).fn 222 [.c (kS s)] [])=true):fnT (T nat).G 222 [.v (.one (cs s))] []=some ([.one (ci 1)],[]):=by
 obtain ⟨c,b,e⟩:=m1 hn psig222 (isOne_eq h)
 rw [b.int] at e
 exact e
theorem f242 (hn:NatI nat) {m:Nat} {s:ByteArray} (h:isStr s ((krun kgM m).fn 242 [.c (kS s)] [])=true):fnT (T nat).G 242 [.v (.one (cs s))] []=some ([.one (cs s)],[]):=by
 obtain ⟨c,b,e⟩:=m1 hn psig242 (isStr_eq h)
 rw [rkS_inv b] at e
 exact e
theorem x221 (hn:NatI nat) {s:ByteArray} (h:s∈txts):fnT (T nat).G 221 [.v (.one (cs s))] []=some ([.one (cb true)],[]):=f221 hn (List.all_eq_true.1 run221_ok s h)
theorem x222 (hn:NatI nat) {s:ByteArray} (h:s∈txts):fnT (T nat).G 222 [.v (.one (cs s))] []=some ([.one (ci 1)],[]):=f222 hn (List.all_eq_true.1 run222_ok s h)
theorem x242 (hn:NatI nat) {s:ByteArray} (h:s∈txts):fnT (T nat).G 242 [.v (.one (cs s))] []=some ([.one (cs s)],[]):=f242 hn (List.all_eq_true.1 run242_ok s h)
theorem lenL (n:Nat):lenC false (cL n)=some (ci 1):=rfl
theorem g0 (hs:NatS nat):hdT (T nat).G 244 0 [.c (cL 1),.c cz]=some ([.one (cs ⟨#[49]⟩)],[]):=by
 rw [hdT_eq tree244 (t:=t244.heads[0]) rfl]
 simp [t244,zS,x272 hs]
theorem gs (hn:NatI nat) {a b r:Nat} (h:(a,b,r)∈divs):hdT (T nat).G 244 0 [.c (cL a),.c (cL b)]=hdT (T nat).G 244 0 [.c (cL b),.c (limb r)]:=by
 obtain ⟨q,hq⟩:=x271 (nat:=nat) hn (a,b,r) h
 simp only at hq
 rw [hdT_eq tree244 (t:=t244.heads[0]) rfl]
 simp [t244,zS,lenL,hq]
theorem limb0:limb 0=cz:=rfl
theorem limb1:limb 1=cL 1:=rfl
theorem limb2:limb 2=cL 2:=rfl
theorem x244a (hn:NatI nat) (hp:NatP nat) (hs:NatS nat):fnT (T nat).G 244 [.v (.one (cs ⟨#[49]⟩)),.v (.one (cs ⟨#[50]⟩))] []=some ([.one (cs ⟨#[49]⟩)],[]):=by
 have e1:=x270 hn hp (p:=(⟨#[49]⟩,1)) (by simp [dig])
 have e2:=x270 hn hp (p:=(⟨#[50]⟩,2)) (by simp [dig])
 simp only at e1 e2
 have h1:hdT (T nat).G 244 0 [.c (cL 1),.c (cL 2)]=some ([.one (cs ⟨#[49]⟩)],[]):=by
  rw [gs hn (r:=1) (by simp [divs]),limb1,gs hn (r:=0) (by simp [divs]),limb0,g0 hs]
 rw [fnT_eq tree244]
 simp [t244,zS,e1,e2,h1]
theorem x244b (hn:NatI nat) (hp:NatP nat) (hs:NatS nat):fnT (T nat).G 244 [.v (.one (cs ⟨#[45,53]⟩)),.v (.one (cs ⟨#[51]⟩))] []=some ([.one (cs ⟨#[49]⟩)],[]):=by
 have e1:=x270m hn hp
 have e2:=x270 hn hp (p:=(⟨#[51]⟩,3)) (by simp [dig])
 simp only at e1 e2
 have h1:hdT (T nat).G 244 0 [.c (cL 5),.c (cL 3)]=some ([.one (cs ⟨#[49]⟩)],[]):=by
  rw [gs hn (r:=2) (by simp [divs]),limb2,gs hn (r:=1) (by simp [divs]),limb1,gs hn (r:=0) (by simp [divs]),limb0,g0 hs]
 rw [fnT_eq tree244]
 simp [t244,zS,e1,e2,h1]
theorem x189a (hn:NatI nat) (hp:NatP nat) (hs:NatS nat):fnT (T nat).G 189 [.v (.one (cs ⟨#[49]⟩)),.v (.one (cs ⟨#[50]⟩))] []=some yes:=by
 have a1:=x221 hn (s:=⟨#[49]⟩) (by simp [txts]);have a2:=x221 hn (s:=⟨#[50]⟩) (by simp [txts])
 have b1:=x222 hn (s:=⟨#[49]⟩) (by simp [txts]);have b2:=x222 hn (s:=⟨#[50]⟩) (by simp [txts])
 have c1:=x242 hn (s:=⟨#[49]⟩) (by simp [txts]);have c2:=x242 hn (s:=⟨#[50]⟩) (by simp [txts])
 have d:=x244a hn hp hs
 have s1:sidxC (cs ⟨#[50]⟩) (ci 0)=some (.lit (.int .u8 50)):=rfl
 have q1:binC .eql false (.lit (.int .u8 50)) (.lit (.int .u8 45))=some (cb false):=rfl
 have e:fnT (T nat).G 223 [.v (.one (cs ⟨#[49]⟩)),.v (.one (cs ⟨#[50]⟩))] []=some ([.one (cs ⟨#[49]⟩),.one (cs ⟨#[50]⟩)],[]):=by
  rw [fnT_eq tree223]
  simp [t223,zS,c1,c2,d,s1,q1]
 rw [fnT_eq tree189]
 simp [t189,zS,a1,a2,b1,b2,e,yes]
theorem x189b (hn:NatI nat) (hp:NatP nat) (hs:NatS nat):fnT (T nat).G 189 [.v (.one (cs ⟨#[45,53]⟩)),.v (.one (cs ⟨#[51]⟩))] []=some yes:=by
 have a1:=x221 hn (s:=⟨#[45,53]⟩) (by simp [txts]);have a2:=x221 hn (s:=⟨#[51]⟩) (by simp [txts])
 have b1:=x222 hn (s:=⟨#[45,53]⟩) (by simp [txts]);have b2:=x222 hn (s:=⟨#[51]⟩) (by simp [txts])
 have c1:=x242 hn (s:=⟨#[45,53]⟩) (by simp [txts]);have c2:=x242 hn (s:=⟨#[51]⟩) (by simp [txts])
 have d:=x244b hn hp hs
 have s1:sidxC (cs ⟨#[51]⟩) (ci 0)=some (.lit (.int .u8 51)):=rfl
 have q1:binC .eql false (.lit (.int .u8 51)) (.lit (.int .u8 45))=some (cb false):=rfl
 have e:fnT (T nat).G 223 [.v (.one (cs ⟨#[45,53]⟩)),.v (.one (cs ⟨#[51]⟩))] []=some ([.one (cs ⟨#[45,53]⟩),.one (cs ⟨#[51]⟩)],[]):=by
  rw [fnT_eq tree223]
  simp [t223,zS,c1,c2,d,s1,q1]
 rw [fnT_eq tree189]
 simp [t189,zS,a1,a2,b1,b2,e,yes]
theorem lowest (hn:NatI nat) (hp:NatP nat) (hs:NatS nat):Lowest nat:=by
 intro p h
 have hm:p∈easy∨p=(⟨#[49]⟩,⟨#[50]⟩)∨p=(⟨#[45,53]⟩,⟨#[51]⟩):=by
  simp only [small,List.mem_cons,List.mem_nil_iff,or_false] at h
  simp only [easy,List.mem_cons,List.mem_nil_iff,or_false]
  rcases h with h|h|h|h|h|h|h|h|h<;>simp [h]
 rcases hm with hm|rfl|rfl
 ·exact ea_fn hn (List.all_eq_true.1 run189_ok p hm)
 ·exact x189a hn hp hs
 ·exact x189b hn hp hs
theorem x4nat' (ha:NatA nat) (hf:NatF nat) (hp:NatP nat) (hs:NatS nat) (bs:List UInt8):fnT (T nat).G 4 [.v (.one (rows encB bs))] []=some yes:=
 x4nat ha hf (lowest hf.i hp hs) bs
end
end Go.Ey.Pr

namespace Go.Ey
inductive HP where
 |all
 |seq (p q:HP)
 |sub (p:HP)
 |at (k:Nat) (rs:List V)
 |into (k:Nat) (p:HP)
abbrev Asks:=List (Nat×List V×List V)
def Answers (F:Tab) (q:Nat×List V×List V):Prop:=∃n,evFn F n q.1 q.2.1=some q.2.2
abbrev RunH:=ICode→St→Option (Asks×Ex×St)
def bodyH (F:Tab) (ev:RunH) (f:Nat) (ds:List D) (h:Heap) (k:Nat):Option (Asks×List D×Heap×Nat):=
 (F.code f).bind fun I=>if ds.length=I.nparams then
  (ev I.body ⟨bindArgs 0 ds,h,k⟩).bind fun r=>match r.2.1 with
   |.exit _=>none
   |_=>(resD r.2.2.env r.2.2.heap I.res).bind fun rs=>some (r.1,rs,r.2.2.heap,r.2.2.nx)
 else none
def fnH (F:Tab) (ev:RunH) (f:Nat) (vs:List V):Option (Asks×List V):=
 match F.nat f vs with
 |some _=>none
 |none=>(bodyH F ev f (vs.map V.toD) [] 0).bind fun r=>(frzVs r.2.2.1 r.2.1).bind fun q=>some (r.1,q.1)
def insH (F:Tab) (g:Nat→List V→Option (Asks×List V)) (ev:RunH) (ρ:X→D) (h:Heap) (nx:Nat):Ins→Option (Asks×D×Heap×Nat)
 |.call f xs=>(frzVs h (xs.map ρ)).bind fun p=>(g f p.1).bind fun r=>some (r.1,retD r.2,updH h p.2,nx+1)
 |.callS f own xs=>(frzDs h (xs.map ρ)).bind fun p=>(bodyH F ev f p.1 (updH h p.2) nx).bind fun r=>
   if own then some (r.1,tupD r.2.1,r.2.2.1,r.2.2.2) else (frzDs r.2.2.1 r.2.1).bind fun q=>some (r.1,tupD q.1,updH r.2.2.1 q.2,r.2.2.2)
 |_=>none
def evHS (F:Tab) (n k:Nat) (g:Nat→List V→Option (Asks×List V)) (ev:RunH) (is:List Inst) (s:St):Option (Asks×St):=
 (evSeq (evFn F n) (evBody F n) (is.take k) s).bind fun s1=>match is.drop k with
  |i::r=>(match i.guard with
   |none=>(insH F g ev (evX s1.env) s1.heap s1.nx i.ins).bind fun p=>(evSeq (evFn F n) (evBody F n) r ⟨putE s1.env i.dst p.2.1,p.2.2.1,p.2.2.2⟩).bind fun s2=>some (p.1,s2)
   |some _=>none)
  |[]=>none
def evHD (F:Tab) (n k:Nat) (g:Nat→List V→Option (Asks×List V)) (is:List Inst) (ws:List Nat) (s:St):Option (Asks×St):=
 (evDraw (evFn F n) (evLent F n) s.nx 0 (is.take k) s.env s.heap).bind fun p=>match is.drop k with
  |i::r=>(match i.guard,i.ins with
   |none,.call f xs=>(frzVs p.2.1 (xs.map (evX p.1))).bind fun q=>(g f q.1).bind fun v=>
    (evDraw (evFn F n) (evLent F n) s.nx (k+1) r (putE p.1 i.dst (retD v.2)) (updH p.2.1 q.2)).bind fun t=>
     if drawOk (p.2.2++(⟨tmpsX xs,i.dst.toList,touches (evX p.1) i.ins,q.2.map (·.1)⟩:Trace)::t.2.2) ws then some (v.1,⟨t.1,t.2.1,s.nx+is.length⟩) else none
   |_,_=>none)
  |[]=>none
def ansG (rs:List V) (f:Nat) (vs:List V):Option (Asks×List V):=some ([(f,vs,rs)],rs)
def noRun:RunH:=fun _ _=>none
def evH (F:Tab) (n:Nat):HP→RunH
 |.all,c,s=>(evCode F n c s).bind fun r=>some ([],r)
 |.seq p q,.seq a b,s=>(evH F n p a s).bind fun r=>match r.2.1 with
  |.normal=>(evH F n q b r.2.2).bind fun t=>some (r.1++t.1,t.2)
  |x=>some (r.1,x,r.2.2)
 |.sub p,.cond c a b,s=>(asBool (evX s.env c)).bind fun t=>if t then evH F n p a s else evH F n p b s
 |.sub p,.block id c,s=>(evH F n p c s).bind fun r=>match r.2.1 with
  |.exit id'=>if id'=id then some (r.1,.normal,r.2.2) else some (r.1,.exit id',r.2.2)
  |x=>some (r.1,x,r.2.2)
 |.at k rs,.region is,s=>(evHS F n k (ansG rs) noRun is s).bind fun r=>some (r.1,.normal,r.2)
 |.at k rs,.draw is ws,s=>(evHD F n k (ansG rs) is ws s).bind fun r=>some (r.1,.normal,r.2)
 |.into k p,.region is,s=>(evHS F n k (fnH F (evH F n p)) (evH F n p) is s).bind fun r=>some (r.1,.normal,r.2)
 |_,_,_=>none
theorem evSeq_app (call:Callee) (lend:Lender):∀(a b:List Inst) (s:St),evSeq call lend (a++b) s=(evSeq call lend a s).bind (evSeq call lend b)
 |[],b,s=>rfl
 |i::a,b,s=>by
  simp only [List.cons_append,evSeq,Option.bind_eq_bind]
  cases wanted s.env i.guard with
  |none=>rfl
  |some w=>
   simp only [Option.bind_some]
   cases w with
   |false=>simp only [Bool.false_eq_true,if_false];exact evSeq_app call lend a b _
   |true=>
    simp only [if_true]
    split
    ·simp only [Option.bind_assoc]
     congr 1;funext p;exact evSeq_app call lend a b _
    ·split
     ·simp only [Option.bind_assoc]
      congr 1;funext p;exact evSeq_app call lend a b _
     ·rfl
    ·simp only [Option.bind_assoc]
     congr 1;funext p;exact evSeq_app call lend a b _
theorem evDraw_app (call:Callee) (lent:Lent) (nx:Nat):∀(a b:List Inst) (k:Nat) (e:Env) (h:Heap),evDraw call lent nx k (a++b) e h=(evDraw call lent nx k a e h).bind fun p=>(evDraw call lent nx (k+a.length) b p.1 p.2.1).bind fun q=>some (q.1,q.2.1,p.2.2++q.2.2)
 |[],b,k,e,h=>by
  simp only [List.nil_append,evDraw,Option.bind_some,List.length_nil,Nat.add_zero]
  cases evDraw call lent nx k b e h<;>rfl
 |i::a,b,k,e,h=>by
  simp only [List.cons_append,evDraw,Option.bind_eq_bind,List.length_cons]
  cases wanted e i.guard with
  |none=>rfl
  |some w=>
   simp only [Option.bind_some]
   have hk:k+1+a.length=k+(a.length+1):=by omega
   cases w with
   |false=>
    simp only [Bool.false_eq_true,if_false,evDraw_app call lent nx a b (k+1),Option.bind_assoc,Option.bind_some,hk]
    rfl
   |true=>
    simp only [if_true,evDraw_app call lent nx a b (k+1),Option.bind_assoc,Option.bind_some,hk]
    rfl
theorem some_of {α β:Type} {x:Option α} {f:α→Option β} {y:β} (h:x.bind f=some y):∃a,x=some a∧f a=some y:=Option.bind_eq_some_iff.1 h
section
variable {F:Tab}
theorem fn_up {n m f:Nat} {vs rs:List V} (h:evFn F n f vs=some rs) (hm:n≤m):evFn F m f vs=some rs:=evFn_le hm f vs _ h
theorem seq_up {n m:Nat} {is:List Inst} {s s':St} (h:evSeq (evFn F n) (evBody F n) is s=some s') (hm:n≤m):evSeq (evFn F m) (evBody F m) is s=some s':=
 evSeq_mono (fun f vs=>evFn_le hm f vs) (fun f ds hp k=>evBody_le hm f ds hp k) is s _ h
theorem draw_up {n m nx k:Nat} {is:List Inst} {e:Env} {h:Heap} {r:Env×Heap×List Trace} (hd:evDraw (evFn F n) (evLent F n) nx k is e h=some r) (hm:n≤m):evDraw (evFn F m) (evLent F m) nx k is e h=some r:=
 evDraw_mono (fun f vs=>evFn_le hm f vs) (fun f aq bs=>evLent_le hm f aq bs) nx is k e h _ hd
theorem code_up {n m:Nat} {c:ICode} {s:St} {r:Ex×St} (h:evCode F n c s=some r) (hm:n≤m):evCode F m c s=some r:=evCode_le hm c s _ h
def Right (F:Tab) (ev:RunH):Prop:=∀{c:ICode} {s s':St} {x:Ex} {aq:Asks},ev c s=some (aq,x,s')→(∀q∈aq,Answers F q)→∃m,evCode F m c s=some (x,s')
def RightG (F:Tab) (g:Nat→List V→Option (Asks×List V)):Prop:=∀{f:Nat} {vs rs:List V} {aq:Asks},g f vs=some (aq,rs)→(∀q∈aq,Answers F q)→∃m,evFn F m f vs=some rs
theorem bodyH_ok {ev:RunH} (hr:Right F ev) {f:Nat} {ds rs:List D} {h h':Heap} {k k':Nat} {aq:Asks} (hb:bodyH F ev f ds h k=some (aq,rs,h',k')) (ha:∀q∈aq,Answers F q):∃m,evBody F m f ds h k=some (rs,h',k'):=by
 unfold bodyH at hb
 obtain ⟨I,h1,h2⟩:=some_of hb
 split at h2
 case isFalse=>cases h2
 rename_i hlen
 obtain ⟨⟨as1,x1,s1⟩,h3,h4⟩:=some_of h2
 simp only at h4
 have key:(∀id,x1≠.exit id)∧(resD s1.env s1.heap I.res).bind (fun rs=>some (as1,rs,s1.heap,s1.nx))=some (aq,rs,h',k'):=by
  split at h4
  ·cases h4
  ·rename_i hne;exact ⟨fun id e=>hne id e,h4⟩
 obtain ⟨hne,h5⟩:=key
 obtain ⟨rs1,h6,h7⟩:=some_of h5
 simp only [Option.some.injEq,Prod.mk.injEq] at h7
 obtain ⟨rfl,rfl,rfl,rfl⟩:=h7
 obtain ⟨m,e⟩:=hr h3 ha
 refine ⟨m+1,?_⟩
 rw [evBody]
 simp only [Option.bind_eq_bind,h1,Option.bind_some,if_pos hlen,e]
 cases x1 with
 |exit id=>exact absurd rfl (hne id)
 |normal=>simp only [h6,Option.bind_some]
 |ret=>simp only [h6,Option.bind_some]
theorem fnH_ok {ev:RunH} (hr:Right F ev):RightG F (fnH F ev):=by
 intro f vs rs aq hf ha
 unfold fnH at hf
 split at hf
 ·cases hf
 rename_i hn
 obtain ⟨⟨as1,ds,h,k⟩,h1,h2⟩:=some_of hf
 obtain ⟨⟨rs1,us⟩,h3,h4⟩:=some_of h2
 simp only [Option.some.injEq,Prod.mk.injEq] at h4
 obtain ⟨rfl,rfl⟩:=h4
 obtain ⟨m,e⟩:=bodyH_ok hr h1 ha
 have h3':frzVs h ds=some (rs1,us):=h3
 refine ⟨m+1,?_⟩
 rw [evFn]
 simp only [hn,Option.bind_eq_bind,e,Option.bind_some,h3']
theorem ansG_ok {rs:List V}:RightG F (ansG rs):=by
 intro f vs rs' aq h ha
 simp only [ansG,Option.some.injEq,Prod.mk.injEq] at h
 obtain ⟨rfl,rfl⟩:=h
 exact ha (f,vs,rs) (by simp)
theorem noRun_ok:Right F noRun:=fun h _=>by simp [noRun] at h
theorem insH_ok {g:Nat→List V→Option (Asks×List V)} {ev:RunH} (hg:RightG F g) (hr:Right F ev) {aq:Asks} {s:St} {i:Inst} {d:D} {h:Heap} {k:Nat} (hgd:i.guard=none) (hi:insH F g ev (evX s.env) s.heap s.nx i.ins=some (aq,d,h,k)) (ha:∀q∈aq,Answers F q):∃n,evSeq (evFn F n) (evBody F n) [i] s=some ⟨putE s.env i.dst d,h,k⟩:=by
 obtain ⟨dst,ins,guard⟩:=i
 simp only at hgd
 subst hgd
 cases ins with
 |call f xs=>
  simp only [insH] at hi
  obtain ⟨p,h1,h2⟩:=some_of hi
  obtain ⟨⟨as1,rs⟩,h3,h4⟩:=some_of h2
  simp only [Option.some.injEq,Prod.mk.injEq] at h4
  obtain ⟨rfl,rfl,rfl,rfl⟩:=h4
  obtain ⟨n,hn⟩:=hg h3 ha
  refine ⟨n,?_⟩
  have h1':frzVs s.heap (xs.map (evX s.env))=some (p.1,p.2):=h1
  simp [evSeq,wanted,stepS,isMapI,stepC,h1',hn]
 |callS f own xs=>
  simp only [insH] at hi
  obtain ⟨p,h1,h2⟩:=some_of hi
  have h1':frzDs s.heap (xs.map (evX s.env))=some (p.1,p.2):=h1
  obtain ⟨⟨as1,rs,h',k'⟩,h3,h4⟩:=some_of h2
  simp only at h4
  cases own with
  |true=>
   simp only [if_true,Option.some.injEq,Prod.mk.injEq] at h4
   obtain ⟨rfl,rfl,rfl,rfl⟩:=h4
   obtain ⟨n,hn⟩:=bodyH_ok hr h3 ha
   refine ⟨n,?_⟩
   simp [evSeq,wanted,lendC,h1',hn]
  |false=>
   simp only [Bool.false_eq_true,if_false] at h4
   obtain ⟨u,h5,h6⟩:=some_of h4
   simp only [Option.some.injEq,Prod.mk.injEq] at h6
   obtain ⟨rfl,rfl,rfl,rfl⟩:=h6
   obtain ⟨n,hn⟩:=bodyH_ok hr h3 ha
   refine ⟨n,?_⟩
   simp [evSeq,wanted,lendC,h1',hn,h5]
 |_=>simp [insH] at hi
theorem evHS_ok {g:Nat→List V→Option (Asks×List V)} {ev:RunH} (hg:RightG F g) (hr:Right F ev) {n k:Nat} {is:List Inst} {s s':St} {aq:Asks} (h:evHS F n k g ev is s=some (aq,s')) (ha:∀q∈aq,Answers F q):∃m,evSeq (evFn F m) (evBody F m) is s=some s':=by
 unfold evHS at h
 obtain ⟨s1,h1,h2⟩:=some_of h
 split at h2
 case h_2=>cases h2
 rename_i i r hd
 split at h2
 case h_2=>cases h2
 rename_i hgd
 obtain ⟨⟨as1,d,hp,k'⟩,h3,h4⟩:=some_of h2
 obtain ⟨s2,h5,h6⟩:=some_of h4
 simp only [Option.some.injEq,Prod.mk.injEq] at h6
 obtain ⟨rfl,rfl⟩:=h6
 obtain ⟨m,hm⟩:=insH_ok hg hr hgd h3 ha
 refine ⟨max n m,?_⟩
 have e1:is=is.take k++([i]++r):=by rw [←List.singleton_append] at hd;rw [←hd,List.take_append_drop]
 rw [e1,evSeq_app,seq_up h1 (by omega),Option.bind_some,evSeq_app,seq_up hm (by omega),Option.bind_some]
 exact seq_up h5 (by omega)
theorem evHD_ok {g:Nat→List V→Option (Asks×List V)} (hg:RightG F g) {n k:Nat} {is:List Inst} {ws:List Nat} {s s':St} {aq:Asks} (h:evHD F n k g is ws s=some (aq,s')) (ha:∀q∈aq,Answers F q):∃m,evCode F (m+1) (.draw is ws) s=some (.normal,s'):=by
 unfold evHD at h
 obtain ⟨⟨e1,h1,ts1⟩,hd1,h2⟩:=some_of h
 split at h2
 case h_2=>cases h2
 rename_i i r hd
 split at h2
 case h_2=>cases h2
 rename_i f xs hgd hi
 obtain ⟨⟨vs,us⟩,h3,h4⟩:=some_of h2
 obtain ⟨⟨as1,rs⟩,h8,h9⟩:=some_of h4
 obtain ⟨⟨e2,hp2,ts2⟩,h5,h6⟩:=some_of h9
 split at h6
 case isFalse=>cases h6
 rename_i hok
 simp only [Option.some.injEq,Prod.mk.injEq] at h6
 obtain ⟨rfl,rfl⟩:=h6
 obtain ⟨m,hm⟩:=hg h8 ha
 refine ⟨max n m,?_⟩
 have hk:k < is.length:=by
  rcases Nat.lt_or_ge k is.length with h7|h7
  ·exact h7
  ·rw [List.drop_eq_nil_of_le h7] at hd;cases hd
 have e0:is=is.take k++([i]++r):=by rw [←List.singleton_append] at hd;rw [←hd,List.take_append_drop]
 have hl:(is.take k).length=k:=by rw [List.length_take];omega
 have hm':=fn_up hm (Nat.le_max_right n m)
 have h3':frzVs h1 (xs.map (evX e1))=some (vs,us):=h3
 have e2':evDraw (evFn F (max n m)) (evLent F (max n m)) s.nx k [i] e1 h1=some (putE e1 i.dst (retD rs),updH h1 us,[⟨tmpsX xs,i.dst.toList,touches (evX e1) i.ins,us.map (·.1)⟩]):=by
  obtain ⟨dst,ins,guard⟩:=i
  simp only at hgd hi
  subst hgd hi
  simp [evDraw,wanted,stepD,stepS,isMapI,stepC,h3',hm',opX]
 have key:evDraw (evFn F (max n m)) (evLent F (max n m)) s.nx 0 is s.env s.heap=some (e2,hp2,ts1++(⟨tmpsX xs,i.dst.toList,touches (evX e1) i.ins,us.map (·.1)⟩:Trace)::ts2):=by
  have h5':=draw_up h5 (Nat.le_max_left n m)
  rw [e0,evDraw_app,draw_up hd1 (Nat.le_max_left n m),Option.bind_some]
  simp only [hl,Nat.zero_add]
  rw [evDraw_app,e2']
  simp only [Option.bind_some,List.length_singleton]
  rw [h5']
  rfl
 rw [evCode]
 simp only [Option.bind_eq_bind,key,Option.bind_some]
 rw [if_pos hok]
theorem evH_ok {n:Nat}:∀{p:HP} {c:ICode} {s s':St} {x:Ex} {aq:Asks},evH F n p c s=some (aq,x,s')→(∀q∈aq,Answers F q)→∃m,evCode F m c s=some (x,s')
 |.all,c,s,s',x,aq,h,_=>by
  simp only [evH] at h
  obtain ⟨r,h1,h2⟩:=some_of h
  simp only [Option.some.injEq,Prod.mk.injEq] at h2
  obtain ⟨_,rfl⟩:=h2
  exact ⟨n,h1⟩
 |.seq p q,.seq a b,s,s',x,aq,h,ha=>by
  simp only [evH] at h
  obtain ⟨⟨as1,x1,s1⟩,h1,h2⟩:=some_of h
  simp only at h2
  split at h2
  ·obtain ⟨⟨as2,x2,s2⟩,h3,h4⟩:=some_of h2
   simp only [Option.some.injEq,Prod.mk.injEq] at h4
   obtain ⟨rfl,rfl,rfl⟩:=h4
   obtain ⟨m1,e1⟩:=evH_ok h1 fun q hq=>ha q (by simp [hq])
   obtain ⟨m2,e2⟩:=evH_ok h3 fun q hq=>ha q (by simp [hq])
   refine ⟨max m1 m2+1,?_⟩
   rw [evCode]
   simp only [Option.bind_eq_bind,code_up e1 (Nat.le_max_left m1 m2),Option.bind_some]
   exact code_up e2 (Nat.le_max_right m1 m2)
  ·rename_i hne
   simp only [Option.some.injEq,Prod.mk.injEq] at h2
   obtain ⟨rfl,rfl,rfl⟩:=h2
   obtain ⟨m1,e1⟩:=evH_ok h1 ha
   refine ⟨m1+1,?_⟩
   rw [evCode]
   simp only [Option.bind_eq_bind,e1,Option.bind_some]
 |.sub p,.cond c a b,s,s',x,aq,h,ha=>by
  simp only [evH] at h
  obtain ⟨t,h1,h2⟩:=some_of h
  cases t with
  |true=>
   simp only [if_true] at h2
   obtain ⟨m,e⟩:=evH_ok h2 ha
   refine ⟨m+1,?_⟩
   rw [evCode]
   simp only [Option.bind_eq_bind,h1,Option.bind_some,if_true,e]
  |false=>
   simp only [Bool.false_eq_true,if_false] at h2
   obtain ⟨m,e⟩:=evH_ok h2 ha
   refine ⟨m+1,?_⟩
   rw [evCode]
   simp only [Option.bind_eq_bind,h1,Option.bind_some,Bool.false_eq_true,if_false,e]
 |.sub p,.block id c,s,s',x,aq,h,ha=>by
  simp only [evH] at h
  obtain ⟨⟨as1,x1,s1⟩,h1,h2⟩:=some_of h
  cases x1 with
  |normal=>
   simp only [Option.some.injEq,Prod.mk.injEq] at h2
   obtain ⟨rfl,rfl,rfl⟩:=h2
   obtain ⟨m,e⟩:=evH_ok h1 ha
   refine ⟨m+1,?_⟩
   rw [evCode]
   simp only [Option.bind_eq_bind,e,Option.bind_some]
  |ret=>
   simp only [Option.some.injEq,Prod.mk.injEq] at h2
   obtain ⟨rfl,rfl,rfl⟩:=h2
   obtain ⟨m,e⟩:=evH_ok h1 ha
   refine ⟨m+1,?_⟩
   rw [evCode]
   simp only [Option.bind_eq_bind,e,Option.bind_some]
  |exit id'=>
   by_cases hid:id'=id
   ·simp only [if_pos hid,Option.some.injEq,Prod.mk.injEq] at h2
    obtain ⟨rfl,rfl,rfl⟩:=h2
    obtain ⟨m,e⟩:=evH_ok h1 ha
    refine ⟨m+1,?_⟩
    rw [evCode]
    simp only [Option.bind_eq_bind,e,Option.bind_some,if_pos hid]
   ·simp only [if_neg hid,Option.some.injEq,Prod.mk.injEq] at h2
    obtain ⟨rfl,rfl,rfl⟩:=h2
    obtain ⟨m,e⟩:=evH_ok h1 ha
    refine ⟨m+1,?_⟩
    rw [evCode]
    simp only [Option.bind_eq_bind,e,Option.bind_some,if_neg hid]
 |.at k a,.region is,s,s',x,aq,h,ha=>by
  simp only [evH] at h
  obtain ⟨⟨as1,s1⟩,h1,h2⟩:=some_of h
  simp only [Option.some.injEq,Prod.mk.injEq] at h2
  obtain ⟨rfl,rfl,rfl⟩:=h2
  obtain ⟨m,e⟩:=evHS_ok ansG_ok noRun_ok h1 ha
  refine ⟨m+1,?_⟩
  rw [evCode]
  simp only [Option.bind_eq_bind,e,Option.bind_some]
 |.at k a,.draw is ws,s,s',x,aq,h,ha=>by
  simp only [evH] at h
  obtain ⟨⟨as1,s1⟩,h1,h2⟩:=some_of h
  simp only [Option.some.injEq,Prod.mk.injEq] at h2
  obtain ⟨rfl,rfl,rfl⟩:=h2
  obtain ⟨m,e⟩:=evHD_ok ansG_ok h1 ha
  exact ⟨m+1,e⟩
 |.into k p,.region is,s,s',x,aq,h,ha=>by
  simp only [evH] at h
  obtain ⟨⟨as1,s1⟩,h1,h2⟩:=some_of h
  simp only [Option.some.injEq,Prod.mk.injEq] at h2
  obtain ⟨rfl,rfl,rfl⟩:=h2
  have hr:Right F (evH F n p):=fun h ha=>evH_ok h ha
  obtain ⟨m,e⟩:=evHS_ok (fnH_ok hr) hr h1 ha
  refine ⟨m+1,?_⟩
  rw [evCode]
  simp only [Option.bind_eq_bind,e,Option.bind_some]
 |.into _ _,.skip,_,_,_,_,h,_=>by simp [evH] at h
 |.into _ _,.draw _ _,_,_,_,_,h,_=>by simp [evH] at h
 |.into _ _,.seq _ _,_,_,_,_,h,_=>by simp [evH] at h
 |.into _ _,.cond _ _ _,_,_,_,_,h,_=>by simp [evH] at h
 |.into _ _,.block _ _,_,_,_,_,h,_=>by simp [evH] at h
 |.into _ _,.loop _,_,_,_,_,h,_=>by simp [evH] at h
 |.into _ _,.exit _,_,_,_,_,h,_=>by simp [evH] at h
 |.into _ _,.ret,_,_,_,_,h,_=>by simp [evH] at h
 |.seq _ _,.skip,_,_,_,_,h,_=>by simp [evH] at h
 |.seq _ _,.region _,_,_,_,_,h,_=>by simp [evH] at h
 |.seq _ _,.draw _ _,_,_,_,_,h,_=>by simp [evH] at h
 |.seq _ _,.cond _ _ _,_,_,_,_,h,_=>by simp [evH] at h
 |.seq _ _,.block _ _,_,_,_,_,h,_=>by simp [evH] at h
 |.seq _ _,.loop _,_,_,_,_,h,_=>by simp [evH] at h
 |.seq _ _,.exit _,_,_,_,_,h,_=>by simp [evH] at h
 |.seq _ _,.ret,_,_,_,_,h,_=>by simp [evH] at h
 |.sub _,.skip,_,_,_,_,h,_=>by simp [evH] at h
 |.sub _,.region _,_,_,_,_,h,_=>by simp [evH] at h
 |.sub _,.draw _ _,_,_,_,_,h,_=>by simp [evH] at h
 |.sub _,.seq _ _,_,_,_,_,h,_=>by simp [evH] at h
 |.sub _,.loop _,_,_,_,_,h,_=>by simp [evH] at h
 |.sub _,.exit _,_,_,_,_,h,_=>by simp [evH] at h
 |.sub _,.ret,_,_,_,_,h,_=>by simp [evH] at h
 |.at _ _,.skip,_,_,_,_,h,_=>by simp [evH] at h
 |.at _ _,.seq _ _,_,_,_,_,h,_=>by simp [evH] at h
 |.at _ _,.cond _ _ _,_,_,_,_,h,_=>by simp [evH] at h
 |.at _ _,.block _ _,_,_,_,_,h,_=>by simp [evH] at h
 |.at _ _,.loop _,_,_,_,_,h,_=>by simp [evH] at h
 |.at _ _,.exit _,_,_,_,_,h,_=>by simp [evH] at h
 |.at _ _,.ret,_,_,_,_,h,_=>by simp [evH] at h
theorem evHF_ok {n:Nat} {p:HP} {f:Nat} {vs rs:List V} {aq:Asks} (hf:fnH F (evH F n p) f vs=some (aq,rs)) (ha:∀q∈aq,Answers F q):∃m,evFn F m f vs=some rs:=
 fnH_ok (fun h ha=>evH_ok h ha) hf ha
end
end Go.Ey
