/- A part of the proof. -/
import Derived.Test.YtpginbppmgdndaaGreatDoorY27
import Derived.Shelf.Strconv.Itoa3
import Derived.KernelRfl
import Derived.Shelf.Strings.Builder1
import Derived.WalkKit
import Derived.BigCall
import Derived.Deep.Slices
set_option linter.all false
namespace Go.Proofs
open Go.Shelf Go.RowKit
def Tryz.lays171R:Go.Shelf.Ren:=⟨fun|171=>176|243=>209|246=>238|283=>264|284=>265|285=>266|286=>267|129=>291|317=>290|318=>292|319=>293|320=>294|337=>322|338=>323|n=>n,fun|171=>264|53=>82|37=>22|173=>267|212=>285|51=>26|213=>286|46=>288|232=>318|233=>319|n=>n,fun|17=>0|18=>1|19=>2|n=>n⟩
theorem Tryz.lays171:Lays.n171 Tryz.prog Tryz.lays171R where
 mixed:=by kernel_rfl
 f129:=Tryz.func291.trans (congrArg some (by kernel_rfl))
 f171:=Tryz.func176.trans (congrArg some (by kernel_rfl))
 f243:=Tryz.func209.trans (congrArg some (by kernel_rfl))
 f246:=Tryz.func238.trans (congrArg some (by kernel_rfl))
 f283:=Tryz.func264.trans (congrArg some (by kernel_rfl))
 f284:=Tryz.func265.trans (congrArg some (by kernel_rfl))
 f285:=Tryz.func266.trans (congrArg some (by kernel_rfl))
 f286:=Tryz.func267.trans (congrArg some (by kernel_rfl))
 f317:=Tryz.func290.trans (congrArg some (by kernel_rfl))
 f318:=Tryz.func292.trans (congrArg some (by kernel_rfl))
 f319:=Tryz.func293.trans (congrArg some (by kernel_rfl))
 f320:=Tryz.func294.trans (congrArg some (by kernel_rfl))
 f337:=Tryz.func322.trans (congrArg some (by kernel_rfl))
 f338:=Tryz.func323.trans (congrArg some (by kernel_rfl))
 t0:=Tryz.underlying0
 a0:=Tryz.isAgg0
 z0:=Tryz.sizeOf0
 v0:=Tryz.zeroValue0
 t2:=Tryz.underlying2
 a2:=Tryz.isAgg2
 z2:=Tryz.sizeOf2
 v2:=Tryz.zeroValue2
 t3:=Tryz.underlying3
 a3:=Tryz.isAgg3
 z3:=Tryz.sizeOf3
 v3:=Tryz.zeroValue3
 t4:=Tryz.underlying4
 a4:=Tryz.isAgg4
 z4:=Tryz.sizeOf4
 v4:=Tryz.zeroValue4
 t5:=Tryz.underlying5
 a5:=Tryz.isAgg5
 z5:=Tryz.sizeOf5
 v5:=Tryz.zeroValue5
 t9:=Tryz.underlying9
 a9:=Tryz.isAgg9
 z9:=Tryz.sizeOf9
 v9:=Tryz.zeroValue9
 t20:=Tryz.underlying20
 a20:=Tryz.isAgg20
 z20:=Tryz.sizeOf20
 v20:=Tryz.zeroValue20
 t37:=Tryz.underlying22
 a37:=Tryz.isAgg22
 z37:=Tryz.sizeOf22
 v37:=Tryz.zeroValue22
 t46:=Tryz.underlying288
 a46:=Tryz.isAgg288
 z46:=Tryz.sizeOf288
 v46:=Tryz.zeroValue288
 t51:=Tryz.underlying26
 a51:=Tryz.isAgg26
 z51:=Tryz.sizeOf26
 v51:=Tryz.zeroValue26
 t53:=Tryz.underlying82
 a53:=Tryz.isAgg82
 z53:=Tryz.sizeOf82
 v53:=Tryz.zeroValue82
 t171:=Tryz.underlying264
 a171:=Tryz.isAgg264
 z171:=Tryz.sizeOf264
 v171:=Tryz.zeroValue264
 t173:=Tryz.underlying267
 a173:=Tryz.isAgg267
 z173:=Tryz.sizeOf267
 v173:=Tryz.zeroValue267
 t212:=Tryz.underlying285
 a212:=Tryz.isAgg285
 z212:=Tryz.sizeOf285
 v212:=Tryz.zeroValue285
 t213:=Tryz.underlying286
 a213:=Tryz.isAgg286
 z213:=Tryz.sizeOf286
 t232:=Tryz.underlying318
 a232:=Tryz.isAgg318
 z232:=Tryz.sizeOf318
 v232:=Tryz.zeroValue318
 t233:=Tryz.underlying319
 a233:=Tryz.isAgg319
 z233:=Tryz.sizeOf319
 v233:=Tryz.zeroValue319
 g17:=by kernel_rfl
 g18:=by kernel_rfl
 g19:=by kernel_rfl
def Tryz.renB:Go.Shelf.Ren:=⟨fun|166=>303|240=>326|276=>340|169=>304|n=>n,fun|70=>297|72=>299|37=>22|75=>291|80=>162|164=>325|127=>312|n=>n,fun n=>n⟩
theorem Tryz.lays166:Lays.n166 Tryz.prog Tryz.renB where
 mixed:=by kernel_rfl
 f166:=Tryz.func303.trans (congrArg some (by kernel_rfl))
 f240:=Tryz.func326.trans (congrArg some (by kernel_rfl))
 f276:=Tryz.func340.trans (congrArg some (by kernel_rfl))
 t0:=Tryz.underlying0
 a0:=Tryz.isAgg0
 z0:=Tryz.sizeOf0
 v0:=Tryz.zeroValue0
 t3:=Tryz.underlying3
 a3:=Tryz.isAgg3
 z3:=Tryz.sizeOf3
 v3:=Tryz.zeroValue3
 t4:=Tryz.underlying4
 a4:=Tryz.isAgg4
 z4:=Tryz.sizeOf4
 v4:=Tryz.zeroValue4
 t9:=Tryz.underlying9
 a9:=Tryz.isAgg9
 z9:=Tryz.sizeOf9
 v9:=Tryz.zeroValue9
 t20:=Tryz.underlying20
 a20:=Tryz.isAgg20
 z20:=Tryz.sizeOf20
 v20:=Tryz.zeroValue20
 t37:=Tryz.underlying22
 a37:=Tryz.isAgg22
 z37:=Tryz.sizeOf22
 v37:=Tryz.zeroValue22
 t70:=Tryz.underlying297
 a70:=Tryz.isAgg297
 z70:=Tryz.sizeOf297
 v70:=Tryz.zeroValue297
 t72:=Tryz.underlying299
 a72:=Tryz.isAgg299
 z72:=Tryz.sizeOf299
 v72:=Tryz.zeroValue299
 t75:=Tryz.underlying291
 a75:=Tryz.isAgg291
 z75:=Tryz.sizeOf291
 v75:=Tryz.zeroValue291
 t164:=Tryz.underlying325
 a164:=Tryz.isAgg325
 z164:=Tryz.sizeOf325
 v164:=Tryz.zeroValue325
theorem Tryz.lays169:Lays.n169 Tryz.prog Tryz.renB where
 mixed:=by kernel_rfl
 f169:=Tryz.func304.trans (congrArg some (by kernel_rfl))
 t0:=Tryz.underlying0
 a0:=Tryz.isAgg0
 z0:=Tryz.sizeOf0
 v0:=Tryz.zeroValue0
 t3:=Tryz.underlying3
 a3:=Tryz.isAgg3
 z3:=Tryz.sizeOf3
 v3:=Tryz.zeroValue3
 t9:=Tryz.underlying9
 a9:=Tryz.isAgg9
 z9:=Tryz.sizeOf9
 v9:=Tryz.zeroValue9
 t37:=Tryz.underlying22
 a37:=Tryz.isAgg22
 z37:=Tryz.sizeOf22
 v37:=Tryz.zeroValue22
 t70:=Tryz.underlying297
 a70:=Tryz.isAgg297
 z70:=Tryz.sizeOf297
 v70:=Tryz.zeroValue297
 t72:=Tryz.underlying299
 a72:=Tryz.isAgg299
 z72:=Tryz.sizeOf299
 v72:=Tryz.zeroValue299
 t127:=Tryz.underlying312
 a127:=Tryz.isAgg312
 z127:=Tryz.sizeOf312
 v127:=Tryz.zeroValue312
theorem Tryz.builderX:Builder.Extra Tryz.prog Tryz.renB where
 sizeBuilder:=by kernel_rfl
 liesBuilder:=by kernel_rfl
 t5:=Tryz.underlying5
 a5:=Tryz.isAgg5
 z5:=Tryz.sizeOf5
 v5:=Tryz.zeroValue5
 infoByte:=by kernel_rfl
 cellsByte:=by kernel_rfl
 sizeByte:=by kernel_rfl
 neB5:=by decide
theorem Tryz.wWrite (B b:Nat) (bs:List Value) (s:ByteArray) (w:World) (h:Lib.IsBuilder 299 5 B b bs w) (hlen:bs.length+s.size≤140737488355328) (hBw:B≤w.heap.size):
  Calls Tryz.prog 303 #[.pointer (some ⟨b,0,none⟩),.string s] w fun e w'=>e=.returned (.tuple #[.int .i64 s.size,.nilIface])∧(Lib.BuilderAt 299 5 B b (.pointer (some ⟨b,0,none⟩)) (bs++Lib.strCells s) w'∧Below B w w'):=Any.Builder_WriteString Tryz.lays166 Tryz.builderX B b bs s w h hlen hBw
theorem Tryz.wString (B b:Nat) (l:List UInt8) (w:World) (h:Lib.IsBuilder 299 5 B b (Lib.byteCells l) w) (h0:l≠[]):
  Calls Tryz.prog 304 #[.pointer (some ⟨b,0,none⟩)] w fun e w'=>e=.returned (.string ⟨l.toArray⟩)∧Below B w w':=Any.Builder_String Tryz.lays169 Tryz.builderX B b l w h h0
theorem Tryz.wItoa (i:Nat) (hi:i < 100) (w:World):
  Calls Tryz.prog 176 #[.int .i64 i] w fun e w'=>e=.returned (.string ⟨(Lib.decDigits i).toArray⟩)∧w'=w:=Any.strconv_Itoa_small Tryz.lays171 i hi w
theorem Tryz.walk272 (bk o cap:Nat) (w:World) (hc:w.cell? ⟨bk,o,none⟩=some (.int .u32 1)):
  Calls Tryz.prog 272 #[.agg #[.bool false,.slice (some ⟨bk,o,none⟩) 1 cap]] w fun e w'=>e=.returned (.string ⟨#[49]⟩)∧Below w.heap.size w w':=by
 have b1:Below w.heap.size w (w.alloc (.cells #[.bool false,.slice (some ⟨bk,o,none⟩) 1 cap] 271)):=(Below.refl _ w).alloc (Nat.le_refl _) _
 have b2:Below w.heap.size w ((w.alloc (.cells #[.bool false,.slice (some ⟨bk,o,none⟩) 1 cap] 271)).alloc (.cells #[.pointer none,.slice none 0 0] 299)):=b1.alloc b1.size _
 have hc2:=(b2.cell (World.block_lt_of_cell? _ _ hc)).trans hc
 have hB:=Lib.fresh_isBuilder 299 5 (w.alloc (.cells #[.bool false,.slice (some ⟨bk,o,none⟩) 1 cap] 271))
 have hz:(w.alloc (.cells #[.bool false,.slice (some ⟨bk,o,none⟩) 1 cap] 271)).heap.size=w.heap.size+1:=by simp
 rw [hz] at hB
 obtain ⟨W2,hW2⟩:∃W2,W2=(w.alloc (.cells #[.bool false,.slice (some ⟨bk,o,none⟩) 1 cap] 271)).alloc (.cells #[.pointer none,.slice none 0 0] 299):=⟨_,rfl⟩
 go_enter Tryz.func272,Tryz.ntmps272
 go_wp2_with (go_at_call 176;refine (Tryz.wItoa 1 (by omega) _).mono ?_)
 rintro e W3 ⟨rfl,rfl⟩
 go_wp2_with (go_at_call 303;refine (Tryz.wWrite (w.heap.size+1) (w.heap.size+1) [] _ _ hB ?h1 ?h2).mono ?h3)
 case h1=>
  simp [Lib.decDigits]
  exact Nat.le_of_ble_eq_true rfl
 case h2=>simp
 case h3=>
  rintro e W4 ⟨rfl,h4,b4⟩
  have e4:(([]:List Value)++Lib.strCells ⟨(Lib.decDigits 1).toArray⟩)=Lib.byteCells [49]:=by
   rw [List.nil_append,Lib.strCells_eq]
   simp [Lib.decDigits]
  rw [e4] at h4
  have hc4:W4.cell? ⟨w.heap.size,1,none⟩=some (.slice (some ⟨bk,o,none⟩) 1 cap):=by
   refine (b4.cell (by show w.heap.size < w.heap.size+1;omega)).trans ?_
   have b3:Below (w.heap.size+1) (w.alloc (.cells #[.bool false,.slice (some ⟨bk,o,none⟩) 1 cap] 271)) ((w.alloc (.cells #[.bool false,.slice (some ⟨bk,o,none⟩) 1 cap] 271)).alloc (.cells #[.pointer none,.slice none 0 0] 299)):=(Below.refl _ _).alloc (by rw [hz];exact Nat.le_refl _) _
   refine (b3.cell (by show w.heap.size < w.heap.size+1;omega)).trans ?_
   have hn:(w.alloc (.cells #[.bool false,.slice (some ⟨bk,o,none⟩) 1 cap] 271)).heap[w.heap.size]?=some (.cells #[.bool false,.slice (some ⟨bk,o,none⟩) 1 cap] 271):=by
    show (w.heap.push _)[w.heap.size]?=_
    simp
   simp only [World.cell?,hn]
   rfl
  go_wp2
  refine wp_loop_rounds 1 ?_
  rw [rounds_succ]
  go_wp2_with (go_at_call 304;refine (Tryz.wString (w.heap.size+1) (w.heap.size+1) [49] _ (Or.inr h4) ?h5).mono ?h6)
  case h5=>simp
  case h6=>
   rintro e W5 ⟨rfl,b5⟩
   go_wp2
   go_ret
   exact ⟨rfl,b2.trans ((b4.trans b5).mono (by omega))⟩
end Go.Proofs
set_option maxHeartbeats 4000000
namespace Go.Ey.Pr
open Go Go.Ey Go.Ey.Seat Go.RowKit
theorem fok272:FnOK PP 272 [.agg [cb false,cL 1]] [.one (cs ⟨#[49]⟩)]:=by
 refine ⟨call_of (by kernel_rfl),fun S w us hinv hall=>?_⟩
 match us,hall with
 |[u],⟨hu,_⟩=>
  obtain ⟨vs,rfl,hall2⟩:=hu
  match vs,hall2 with
  |[a,b],⟨ha,hb,_⟩=>
   have e1:a=.bool false:=ha.1
   subst e1
   rcases hb with ⟨_,h0,_⟩|⟨ad,cap,rfl,hcap,hsp,hcells⟩
   ·cases h0
   ·obtain ⟨bk,o,sp⟩:=ad
    have hs:sp=none:=hsp (by simp)
    subst hs
    obtain ⟨⟨x,hx,_,hx2⟩,_⟩:=hcells
    have e2:x=.int .u32 1:=hx2.1
    subst e2
    refine Calls.mono (Go.Proofs.Tryz.walk272 bk o cap w hx) ?_
    rintro e w' ⟨rfl,hw⟩
    exact ⟨_,rfl,⟨rfl,rfl⟩,hw⟩
end Go.Ey.Pr

namespace Go.Ey
mutual
theorem RK.one:∀{k:K} {c d:C},RK k c→RK k d→c=d
 |.i _ _,_,_,.i _ _,.i _ _=>rfl
 |.b _,_,_,.b _,.b _=>rfl
 |.o _,_,_,.o _,.o _=>rfl
 |.s _ _,_,_,.s _ _ b hb _,.s _ _ b' hb' _=>by
  have h:b.data.toList=b'.data.toList:=hb.trans hb'.symm
  obtain ⟨b⟩:=b
  obtain ⟨b'⟩:=b'
  have h2:b=b':=Array.toList_inj.1 h
  rw [h2]
 |.sl _ _ _,_,_,.sl _ _ _ _ h _,.sl _ _ _ _ h' _=>by rw [RKr.one h h']
theorem RKs.one:∀{k:List K} {c d:List C},RKs k c→RKs k d→c=d
 |[],_,_,.nil,.nil=>rfl
 |_::_,_,_,.cons h1 h2,.cons g1 g2=>by rw [RK.one h1 g1,RKs.one h2 g2]
theorem RKr.one:∀{e:Nat} {k:List (List K)} {c d:List C},RKr e k c→RKr e k d→c=d
 |_,[],_,_,.nil,.nil=>rfl
 |_,_::_,_,_,.cons h1 _ h3,.cons g1 _ g3=>by rw [RKs.one h1 g1,RKr.one h3 g3]
end
end Go.Ey

set_option maxHeartbeats 4000000
namespace Go.Ey.Pr
open Go Go.Ey Go.Ey.Seat
def kOb:Ob→List K
 |.cons a b=>[kI 4,kE,kE,kE,kE,kE,.sl 7 [kOb b,kOb a] 2]
 |.num n d=>kO (.num n d)
 |.sy p s=>kO (.sy p s)
 |.st t=>kO (.st t)
theorem kOb_len (o:Ob):(kOb o).length=7:=by cases o<;>rfl
theorem rkOb:∀o:Ob,RKs (kOb o) (enc o)
 |.cons a b=>by
  have h1:=RKr.cons (rkOb a) (kOb_len a) (RKr.nil (esz:=7))
  have h2:=RKr.cons (rkOb b) (kOb_len b) h1
  exact .cons (RK.i _ _) (.cons rkE (.cons rkE (.cons rkE (.cons rkE (.cons rkE (.cons (RK.sl 7 [kOb b,kOb a] 2 _ h2 rfl) .nil))))))
 |.num n d=>rkO (o:=.num n d) rfl
 |.sy p s=>rkO (o:=.sy p s) rfl
 |.st t=>rkO (o:=.st t) rfl
theorem RKs.app:∀{a b:List K} {c d:List C},RKs a c→RKs b d→RKs (a++b) (c++d)
 |[],_,_,_,.nil,h=>h
 |_::_,_,_,_,.cons h1 h2,h=> .cons h1 (RKs.app h2 h)
theorem RKr.snoc {e:Nat}:∀{rev:List (List K)} {cs:List C} {row:List K} {r:List C},RKr e rev cs→RKs row r→row.length=e→RKr e (rev++[row]) (r++cs)
 |[],_,row,r,.nil,h,hl=>by
  have:=RKr.cons h hl (RKr.nil (esz:=e))
  simpa using this
 |x::rev,_,row,r,.cons h1 h2 h3,h,hl=>by
  rw [List.cons_append,←List.append_assoc]
  exact RKr.cons h1 h2 (RKr.snoc h3 h hl)
mutual
def kT:Tm→List K
 |.var p s=>[kI 1,kS p,kS s,kI 0,kE,kE,kE,kE,kE,kz,kz]
 |.con o=>[kI 2,kE,kE]++kOb o++[kz]
 |.app p s ts=>[kI 3,kS p,kS s,kI 0,kE,kE,kE,kE,kE,kz,.sl 11 (kTr ts) ts.length]
def kTr:List Tm→List (List K)
 |[]=>[]
 |t::ts=>kTr ts++[kT t]
end
theorem kT_len (t:Tm):(kT t).length=11:=by
 cases t with
 |con o=>simp [kT,kOb_len]
 |_=>rfl
theorem kTr_len:∀ts:List Tm,(kTr ts).length=ts.length
 |[]=>rfl
 |t::ts=>by simp [kTr,kTr_len ts]
theorem enc7 (o:Ob):[nthC (enc o) 0,nthC (enc o) 1,nthC (enc o) 2,nthC (enc o) 3,nthC (enc o) 4,nthC (enc o) 5,nthC (enc o) 6,cz]=enc o++[cz]:=by cases o<;>rfl
mutual
theorem rkT:∀t:Tm,RKs (kT t) (encT t)
 |.var p s=> .cons (RK.i _ _) (.cons (rkS p) (.cons (rkS s) (.cons (RK.i _ _) (.cons rkE (.cons rkE (.cons rkE (.cons rkE (.cons rkE (.cons rkZ (.cons rkZ .nil))))))))))
 |.con o=>by
  rw [encT,enc7]
  exact .cons (RK.i _ _) (.cons rkE (.cons rkE (RKs.app (rkOb o) (.cons rkZ .nil))))
 |.app p s ts=> .cons (RK.i _ _) (.cons (rkS p) (.cons (rkS s) (.cons (RK.i _ _) (.cons rkE (.cons rkE (.cons rkE (.cons rkE (.cons rkE (.cons rkZ (.cons (RK.sl 11 (kTr ts) _ _ (rkTr ts) (kTr_len ts)) .nil))))))))))
theorem rkTr:∀ts:List Tm,RKr 11 (kTr ts) (encTs ts)
 |[]=>RKr.nil
 |t::ts=>RKr.snoc (rkTr ts) (rkT t) (kT_len t)
end
noncomputable def natOf:List (Nat×List V×List V)→Nat→List V→Option (List V)
 |[],_,_=>none
 |e::l,f,vs=>cond (Nat.beq e.1 f) (haveI:=Classical.propDecidable (e.2.1=vs);if e.2.1=vs then some e.2.2 else natOf l f vs) (natOf l f vs)
theorem natOf_mem:∀{l:List (Nat×List V×List V)} {f:Nat} {vs rs:List V},natOf l f vs=some rs→(f,vs,rs)∈l
 |[],_,_,_,h=>by simp [natOf] at h
 |e::l,f,vs,rs,h=>by
  simp only [natOf] at h
  cases hb:Nat.beq e.1 f with
  |false=>rw [hb] at h;exact List.mem_cons_of_mem _ (natOf_mem h)
  |true=>
   rw [hb,cond_true] at h
   split at h
   ·rename_i he
    simp only [Option.some.injEq] at h
    have h1:e.1=f:=Nat.eq_of_beq_eq_true hb
    have:e=(f,vs,rs):=by rw [←h1,←he,←h]
    rw [this];simp
   ·exact List.mem_cons_of_mem _ (natOf_mem h)
theorem natOf_out {l:List (Nat×List V×List V)} {f:Nat} {vs:List V} (h:∀e∈l,e.1≠f):natOf l f vs=none:=by
 cases hn:natOf l f vs with
 |none=>rfl
 |some rs=>exact absurd rfl (h _ (natOf_mem hn))
theorem natOf_at:∀{l:List (Nat×List V×List V)} {f:Nat} {vs rs:List V},(f,vs,rs)∈l→(∀e∈l,e.1=f→e.2.1=vs→e.2.2=rs)→natOf l f vs=some rs
 |e::l,f,vs,rs,hm,hu=>by
  simp only [natOf]
  cases hb:Nat.beq e.1 f with
  |false=>
   rw [cond_false]
   rcases List.mem_cons.1 hm with h|h
   ·rw [←h] at hb;simp at hb
   ·exact natOf_at h fun x hx=>hu x (by simp [hx])
  |true=>
   rw [cond_true]
   have h1:e.1=f:=Nat.eq_of_beq_eq_true hb
   split
   ·rename_i he
    rw [hu e (by simp) h1 he]
   ·rename_i he
    rcases List.mem_cons.1 hm with h|h
    ·rw [←h] at he;exact absurd rfl he
    ·exact natOf_at h fun x hx=>hu x (by simp [hx])
def l238:List (Nat×List V×List V):=([-3,-2,-1,0,1,2,3]:List Int).map fun n=>(238,[.one (ci n),.one (ci 10)],[.one (cs (strN n))])
def l296:List (Nat×List V×List V):=dig.map fun p=>(296,[.one (cs p.1),.one (ci 10),.one (ci 32)],[.one (.lit (.int .u64 (p.2:Int))),.one (.lit .nilIface)])
def l272:List (Nat×List V×List V):=[(272,[.agg [cb false,cL 1]],[.one (cs ⟨#[49]⟩)])]
def lB (m:List (Nat×List V×List V)):List (Nat×List V×List V):=l238++l296++l272++m
theorem mem238 {e:Nat×List V×List V} (h:e∈l238):∃n:Int,-3≤n∧n≤3∧e=(238,[.one (ci n),.one (ci 10)],[.one (cs (strN n))]):=by
 obtain ⟨n,hn,rfl⟩:=List.mem_map.1 h
 simp only [List.mem_cons,List.mem_nil_iff,or_false] at hn
 exact ⟨n,by omega,by omega,rfl⟩
theorem lB_mem {m:List (Nat×List V×List V)} {e:Nat×List V×List V} (h:e∈lB m):e∈l238∨e∈l296∨e∈l272∨e∈m:=by
 simp only [lB,List.mem_append] at h
 rcases h with ((h|h)|h)|h
 ·exact .inl h
 ·exact .inr (.inl h)
 ·exact .inr (.inr (.inl h))
 ·exact .inr (.inr (.inr h))
theorem lB_ok {m:List (Nat×List V×List V)} (hm:∀e∈m,FnOK PP e.1 e.2.1 e.2.2):∀e∈lB m,FnOK PP e.1 e.2.1 e.2.2:=by
 intro e he
 rcases lB_mem he with h|h|h|h
 ·obtain ⟨n,h1,h2,rfl⟩:=mem238 h
  exact fok238 h1 h2
 ·obtain ⟨p,hp,rfl⟩:=List.mem_map.1 h
  exact fok296 hp
 ·simp only [l272,List.mem_singleton] at h
  subst h
  exact fok272
 ·exact hm e h
def Only91 (m:List (Nat×List V×List V)):Prop:=∀e∈m,e.1=91
theorem lB_f {m:List (Nat×List V×List V)} (h9:Only91 m) {e:Nat×List V×List V} (he:e∈lB m):e.1=238∨e.1=296∨e.1=272∨e.1=91:=by
 rcases lB_mem he with h|h|h|h
 ·obtain ⟨n,_,_,rfl⟩:=mem238 h;exact .inl rfl
 ·obtain ⟨p,_,rfl⟩:=List.mem_map.1 h;exact .inr (.inl rfl)
 ·simp only [l272,List.mem_singleton] at h;subst h;exact .inr (.inr (.inl rfl))
 ·exact .inr (.inr (.inr (h9 e h)))
theorem isN238:isN 238=true:=by kernel_rfl
theorem isN296:isN 296=true:=by kernel_rfl
theorem isN272:isN 272=true:=by kernel_rfl
theorem isN91:isN 91=true:=by kernel_rfl
theorem names_ok (nat:Nat→List V→Option (List V)):(T nat).P.funcs.all (fun fn=>!(fn.name== "runtime.NumGoroutine"))=true:=by kernel_rfl
theorem mixed_ok (nat:Nat→List V→Option (List V)):(T nat).P.follows .mixedOrders=true:=by kernel_rfl
theorem isN_ok {m:List (Nat×List V×List V)} (h9:Only91 m) (f:Nat) (vs:List V) (hf:isN f=false):natOf (lB m) f vs=none:=natOf_out fun e he hef=>by
 rw [←hef] at hf
 rcases lB_f h9 he with h|h|h|h<;>rw [h] at hf
 ·rw [isN238] at hf;cases hf
 ·rw [isN296] at hf;cases hf
 ·rw [isN272] at hf;cases hf
 ·rw [isN91] at hf;cases hf
theorem nat_ok {m:List (Nat×List V×List V)} (hm:∀e∈m,FnOK PP e.1 e.2.1 e.2.2) (f:Nat) (vs rs:List V) (h:natOf (lB m) f vs=some rs):FnOK PP f vs rs:=lB_ok hm (f,vs,rs) (natOf_mem h)
theorem seat_ok {m:List (Nat×List V×List V)} (h9:Only91 m) (hm:∀e∈m,FnOK PP e.1 e.2.1 e.2.2):(T (natOf (lB m))).OK:=
 ⟨isN_ok h9,nat_ok hm,names_ok _,mixed_ok _⟩
theorem natF {m:List (Nat×List V×List V)} (h9:Only91 m):NatF (natOf (lB m)):=by
 intro n h1 h2
 refine natOf_at ?_ fun e he h3 h4=>?_
 ·refine List.mem_append_left _ (List.mem_append_left _ (List.mem_append_left _ (List.mem_map.2 ⟨n,?_,rfl⟩)))
  have:n=-3∨n=-2∨n=-1∨n=0∨n=1∨n=2∨n=3:=by omega
  simpa using this
 ·rcases lB_mem he with h|h|h|h
  ·obtain ⟨k,_,_,rfl⟩:=mem238 h
   simp only [ci,List.cons.injEq,V.one.injEq,C.lit.injEq,Value.int.injEq,true_and,and_true] at h4
   rw [h4]
  ·obtain ⟨p,_,rfl⟩:=List.mem_map.1 h;cases h3
  ·simp only [l272,List.mem_singleton] at h;subst h;cases h3
  ·have:=h9 e h;rw [this] at h3;cases h3
end Go.Ey.Pr

set_option maxHeartbeats 4000000
namespace Go.Ey.Pr
open Go.Ey Go.Ey.Seat
def t244:TFun:=⟨[.one,.one],[],
 .call 270 [(.v (.one (.v 0)))] [] [(some 2)] [] <|
 .call 270 [(.v (.one (.v 1)))] [] [(some 2)] [] <|
 .goto 0 [(.c (.n 2 1)),(.c (.n 3 1))],
 [.opc (.len false (.v 1)) <|
 .opc (.bin .gtr false (.v 2) (.k (.int .i64 0))) <|
 .ite (.v 3)
 (.call 271 [(.v (.one (.v 0))),(.v (.one (.v 1)))] [] [none,none] [] <|
 .goto 0 [(.c (.v 1)),(.c (.v 5))])
 (.call 272 [(.v (.agg (.lit [(.k (.bool false)),(.v 0)])))] [] [none] [] <|
 .ret [(.one (.v 4))] [])]⟩
section
variable {nat:Nat→List V→Option (List V)}
theorem tree244:(T nat).G.fn 244=some t244:=by kernel_rfl
theorem m1 (hn:NatI nat) {f n:Nat} (hp:(T nat).psig f=some [.one]) {s:ByteArray} {x:K} (hk:(krun kgM n).fn f [.c (kS s)] []=.ret [.c x] []):∃c,RK x c∧fnT (T nat).G f [.v (.one (cs s))] []=some ([.one c],[]):=by
 obtain ⟨r1,g1,g2,g3⟩:=krun_fn (kgM_ok hn) hp (ts:=[.v (.one (.v 0))]) rfl (ys:=[.c (kS s)]) (us:=[.v (.one (cs s))]) ⟨rkS s,trivial⟩ (zs:=[]) (css:=[]) trivial hk
 obtain ⟨a1,b1⟩:=r1
 match a1,b1,g2,g3 with
 |[.one c1],[],g2,_=>exact ⟨c1,g2.1,g1⟩
theorem m2 (hn:NatI nat) {f n:Nat} (hp:(T nat).psig f=some [.one,.one]) {s t:ByteArray} {x:K} (hk:(krun kgM n).fn f [.c (kS s),.c (kS t)] []=.ret [.c x] []):∃c,RK x c∧fnT (T nat).G f [.v (.one (cs s)),.v (.one (cs t))] []=some ([.one c],[]):=by
 obtain ⟨r1,g1,g2,g3⟩:=krun_fn (kgM_ok hn) hp (ts:=[.v (.one (.v 0)),.v (.one (.v 0))]) rfl (ys:=[.c (kS s),.c (kS t)]) (us:=[.v (.one (cs s)),.v (.one (cs t))]) ⟨rkS s,rkS t,trivial⟩ (zs:=[]) (css:=[]) trivial hk
 obtain ⟨a1,b1⟩:=r1
 match a1,b1,g2,g3 with
 |[.one c1],[],g2,_=>exact ⟨c1,g2.1,g1⟩
theorem lenL (n:Nat):lenC false (cL n)=some (ci 1):=rfl
theorem g0 (hs:NatS nat):hdT (T nat).G 244 0 [.c (cL 1),.c cz]=some ([.one (cs ⟨#[49]⟩)],[]):=by
 rw [hdT_eq tree244 (t:=t244.heads[0]) rfl]
 simp [t244,zS,x272 hs]
theorem gs (hn:NatI nat) {a b r:Nat} (h:(a,b,r)∈divs):hdT (T nat).G 244 0 [.c (cL a),.c (cL b)]=hdT (T nat).G 244 0 [.c (cL b),.c (limb r)]:=by
 obtain ⟨q,hq⟩:=x271 (nat:=nat) hn (a,b,r) h
 simp only at hq
 rw [hdT_eq tree244 (t:=t244.heads[0]) rfl]
 simp [t244,zS,lenL,hq]
end
end Go.Ey.Pr

namespace Go.Ey
inductive HP where
 |all
 |seq (p q:HP)
 |sub (p:HP)
 |at (k:Nat) (rs:List V)
 |into (k:Nat) (p:HP)
abbrev Asks:=List (Nat×List V×List V)
def Answers (F:Tab) (q:Nat×List V×List V):Prop:=∃n,evFn F n q.1 q.2.1=some q.2.2
abbrev RunH:=ICode→St→Option (Asks×Ex×St)
def bodyH (F:Tab) (ev:RunH) (f:Nat) (ds:List D) (h:Heap) (k:Nat):Option (Asks×List D×Heap×Nat):=
 (F.code f).bind fun I=>if ds.length=I.nparams then
  (ev I.body ⟨bindArgs 0 ds,h,k⟩).bind fun r=>match r.2.1 with
   |.exit _=>none
   |_=>(resD r.2.2.env r.2.2.heap I.res).bind fun rs=>some (r.1,rs,r.2.2.heap,r.2.2.nx)
 else none
def fnH (F:Tab) (ev:RunH) (f:Nat) (vs:List V):Option (Asks×List V):=
 match F.nat f vs with
 |some _=>none
 |none=>(bodyH F ev f (vs.map V.toD) [] 0).bind fun r=>(frzVs r.2.2.1 r.2.1).bind fun q=>some (r.1,q.1)
def insH (F:Tab) (g:Nat→List V→Option (Asks×List V)) (ev:RunH) (ρ:X→D) (h:Heap) (nx:Nat):Ins→Option (Asks×D×Heap×Nat)
 |.call f xs=>(frzVs h (xs.map ρ)).bind fun p=>(g f p.1).bind fun r=>some (r.1,retD r.2,updH h p.2,nx+1)
 |.callS f own xs=>(frzDs h (xs.map ρ)).bind fun p=>(bodyH F ev f p.1 (updH h p.2) nx).bind fun r=>
   if own then some (r.1,tupD r.2.1,r.2.2.1,r.2.2.2) else (frzDs r.2.2.1 r.2.1).bind fun q=>some (r.1,tupD q.1,updH r.2.2.1 q.2,r.2.2.2)
 |_=>none
def evHS (F:Tab) (n k:Nat) (g:Nat→List V→Option (Asks×List V)) (ev:RunH) (is:List Inst) (s:St):Option (Asks×St):=
 (evSeq (evFn F n) (evBody F n) (is.take k) s).bind fun s1=>match is.drop k with
  |i::r=>(match i.guard with
   |none=>(insH F g ev (evX s1.env) s1.heap s1.nx i.ins).bind fun p=>(evSeq (evFn F n) (evBody F n) r ⟨putE s1.env i.dst p.2.1,p.2.2.1,p.2.2.2⟩).bind fun s2=>some (p.1,s2)
   |some _=>none)
  |[]=>none
def evHD (F:Tab) (n k:Nat) (g:Nat→List V→Option (Asks×List V)) (is:List Inst) (ws:List Nat) (s:St):Option (Asks×St):=
 (evDraw (evFn F n) (evLent F n) s.nx 0 (is.take k) s.env s.heap).bind fun p=>match is.drop k with
  |i::r=>(match i.guard,i.ins with
   |none,.call f xs=>(frzVs p.2.1 (xs.map (evX p.1))).bind fun q=>(g f q.1).bind fun v=>
    (evDraw (evFn F n) (evLent F n) s.nx (k+1) r (putE p.1 i.dst (retD v.2)) (updH p.2.1 q.2)).bind fun t=>
     if drawOk (p.2.2++(⟨tmpsX xs,i.dst.toList,touches (evX p.1) i.ins,q.2.map (·.1)⟩:Trace)::t.2.2) ws then some (v.1,⟨t.1,t.2.1,s.nx+is.length⟩) else none
   |_,_=>none)
  |[]=>none
def ansG (rs:List V) (f:Nat) (vs:List V):Option (Asks×List V):=some ([(f,vs,rs)],rs)
def noRun:RunH:=fun _ _=>none
def evH (F:Tab) (n:Nat):HP→RunH
 |.all,c,s=>(evCode F n c s).bind fun r=>some ([],r)
 |.seq p q,.seq a b,s=>(evH F n p a s).bind fun r=>match r.2.1 with
  |.normal=>(evH F n q b r.2.2).bind fun t=>some (r.1++t.1,t.2)
  |x=>some (r.1,x,r.2.2)
 |.sub p,.cond c a b,s=>(asBool (evX s.env c)).bind fun t=>if t then evH F n p a s else evH F n p b s
 |.sub p,.block id c,s=>(evH F n p c s).bind fun r=>match r.2.1 with
  |.exit id'=>if id'=id then some (r.1,.normal,r.2.2) else some (r.1,.exit id',r.2.2)
  |x=>some (r.1,x,r.2.2)
 |.at k rs,.region is,s=>(evHS F n k (ansG rs) noRun is s).bind fun r=>some (r.1,.normal,r.2)
 |.at k rs,.draw is ws,s=>(evHD F n k (ansG rs) is ws s).bind fun r=>some (r.1,.normal,r.2)
 |.into k p,.region is,s=>(evHS F n k (fnH F (evH F n p)) (evH F n p) is s).bind fun r=>some (r.1,.normal,r.2)
 |_,_,_=>none
theorem evSeq_app (call:Callee) (lend:Lender):∀(a b:List Inst) (s:St),evSeq call lend (a++b) s=(evSeq call lend a s).bind (evSeq call lend b)
 |[],b,s=>rfl
 |i::a,b,s=>by
  simp only [List.cons_append,evSeq,Option.bind_eq_bind]
  cases wanted s.env i.guard with
  |none=>rfl
  |some w=>
   simp only [Option.bind_some]
   cases w with
   |false=>simp only [Bool.false_eq_true,if_false];exact evSeq_app call lend a b _
   |true=>
    simp only [if_true]
    split
    ·simp only [Option.bind_assoc]
     congr 1;funext p;exact evSeq_app call lend a b _
    ·split
     ·simp only [Option.bind_assoc]
      congr 1;funext p;exact evSeq_app call lend a b _
     ·rfl
    ·simp only [Option.bind_assoc]
     congr 1;funext p;exact evSeq_app call lend a b _
theorem evDraw_app (call:Callee) (lent:Lent) (nx:Nat):∀(a b:List Inst) (k:Nat) (e:Env) (h:Heap),evDraw call lent nx k (a++b) e h=(evDraw call lent nx k a e h).bind fun p=>(evDraw call lent nx (k+a.length) b p.1 p.2.1).bind fun q=>some (q.1,q.2.1,p.2.2++q.2.2)
 |[],b,k,e,h=>by
  simp only [List.nil_append,evDraw,Option.bind_some,List.length_nil,Nat.add_zero]
  cases evDraw call lent nx k b e h<;>rfl
 |i::a,b,k,e,h=>by
  simp only [List.cons_append,evDraw,Option.bind_eq_bind,List.length_cons]
  cases wanted e i.guard with
  |none=>rfl
  |some w=>
   simp only [Option.bind_some]
   have hk:k+1+a.length=k+(a.length+1):=by omega
   cases w with
   |false=>
    simp only [Bool.false_eq_true,if_false,evDraw_app call lent nx a b (k+1),Option.bind_assoc,Option.bind_some,hk]
    rfl
   |true=>
    simp only [if_true,evDraw_app call lent nx a b (k+1),Option.bind_assoc,Option.bind_some,hk]
    rfl
theorem some_of {α β:Type} {x:Option α} {f:α→Option β} {y:β} (h:x.bind f=some y):∃a,x=some a∧f a=some y:=Option.bind_eq_some_iff.1 h
section
variable {F:Tab}
theorem fn_up {n m f:Nat} {vs rs:List V} (h:evFn F n f vs=some rs) (hm:n≤m):evFn F m f vs=some rs:=evFn_le hm f vs _ h
theorem seq_up {n m:Nat} {is:List Inst} {s s':St} (h:evSeq (evFn F n) (evBody F n) is s=some s') (hm:n≤m):evSeq (evFn F m) (evBody F m) is s=some s':=
 evSeq_mono (fun f vs=>evFn_le hm f vs) (fun f ds hp k=>evBody_le hm f ds hp k) is s _ h
theorem draw_up {n m nx k:Nat} {is:List Inst} {e:Env} {h:Heap} {r:Env×Heap×List Trace} (hd:evDraw (evFn F n) (evLent F n) nx k is e h=some r) (hm:n≤m):evDraw (evFn F m) (evLent F m) nx k is e h=some r:=
 evDraw_mono (fun f vs=>evFn_le hm f vs) (fun f aq bs=>evLent_le hm f aq bs) nx is k e h _ hd
theorem code_up {n m:Nat} {c:ICode} {s:St} {r:Ex×St} (h:evCode F n c s=some r) (hm:n≤m):evCode F m c s=some r:=evCode_le hm c s _ h
def Right (F:Tab) (ev:RunH):Prop:=∀{c:ICode} {s s':St} {x:Ex} {aq:Asks},ev c s=some (aq,x,s')→(∀q∈aq,Answers F q)→∃m,evCode F m c s=some (x,s')
def RightG (F:Tab) (g:Nat→List V→Option (Asks×List V)):Prop:=∀{f:Nat} {vs rs:List V} {aq:Asks},g f vs=some (aq,rs)→(∀q∈aq,Answers F q)→∃m,evFn F m f vs=some rs
theorem bodyH_ok {ev:RunH} (hr:Right F ev) {f:Nat} {ds rs:List D} {h h':Heap} {k k':Nat} {aq:Asks} (hb:bodyH F ev f ds h k=some (aq,rs,h',k')) (ha:∀q∈aq,Answers F q):∃m,evBody F m f ds h k=some (rs,h',k'):=by
 unfold bodyH at hb
 obtain ⟨I,h1,h2⟩:=some_of hb
 split at h2
 case isFalse=>cases h2
 rename_i hlen
 obtain ⟨⟨as1,x1,s1⟩,h3,h4⟩:=some_of h2
 simp only at h4
 have key:(∀id,x1≠.exit id)∧(resD s1.env s1.heap I.res).bind (fun rs=>some (as1,rs,s1.heap,s1.nx))=some (aq,rs,h',k'):=by
  split at h4
  ·cases h4
  ·rename_i hne;exact ⟨fun id e=>hne id e,h4⟩
 obtain ⟨hne,h5⟩:=key
 obtain ⟨rs1,h6,h7⟩:=some_of h5
 simp only [Option.some.injEq,Prod.mk.injEq] at h7
 obtain ⟨rfl,rfl,rfl,rfl⟩:=h7
 obtain ⟨m,e⟩:=hr h3 ha
 refine ⟨m+1,?_⟩
 rw [evBody]
 simp only [Option.bind_eq_bind,h1,Option.bind_some,if_pos hlen,e]
 cases x1 with
 |exit id=>exact absurd rfl (hne id)
 |normal=>simp only [h6,Option.bind_some]
 |ret=>simp only [h6,Option.bind_some]
theorem fnH_ok {ev:RunH} (hr:Right F ev):RightG F (fnH F ev):=by
 intro f vs rs aq hf ha
 unfold fnH at hf
 split at hf
 ·cases hf
 rename_i hn
 obtain ⟨⟨as1,ds,h,k⟩,h1,h2⟩:=some_of hf
 obtain ⟨⟨rs1,us⟩,h3,h4⟩:=some_of h2
 simp only [Option.some.injEq,Prod.mk.injEq] at h4
 obtain ⟨rfl,rfl⟩:=h4
 obtain ⟨m,e⟩:=bodyH_ok hr h1 ha
 have h3':frzVs h ds=some (rs1,us):=h3
 refine ⟨m+1,?_⟩
 rw [evFn]
 simp only [hn,Option.bind_eq_bind,e,Option.bind_some,h3']
theorem ansG_ok {rs:List V}:RightG F (ansG rs):=by
 intro f vs rs' aq h ha
 simp only [ansG,Option.some.injEq,Prod.mk.injEq] at h
 obtain ⟨rfl,rfl⟩:=h
 exact ha (f,vs,rs) (by simp)
theorem noRun_ok:Right F noRun:=fun h _=>by simp [noRun] at h
theorem insH_ok {g:Nat→List V→Option (Asks×List V)} {ev:RunH} (hg:RightG F g) (hr:Right F ev) {aq:Asks} {s:St} {i:Inst} {d:D} {h:Heap} {k:Nat} (hgd:i.guard=none) (hi:insH F g ev (evX s.env) s.heap s.nx i.ins=some (aq,d,h,k)) (ha:∀q∈aq,Answers F q):∃n,evSeq (evFn F n) (evBody F n) [i] s=some ⟨putE s.env i.dst d,h,k⟩:=by
 obtain ⟨dst,ins,guard⟩:=i
 simp only at hgd
 subst hgd
 cases ins with
 |call f xs=>
  simp only [insH] at hi
  obtain ⟨p,h1,h2⟩:=some_of hi
  obtain ⟨⟨as1,rs⟩,h3,h4⟩:=some_of h2
  simp only [Option.some.injEq,Prod.mk.injEq] at h4
  obtain ⟨rfl,rfl,rfl,rfl⟩:=h4
  obtain ⟨n,hn⟩:=hg h3 ha
  refine ⟨n,?_⟩
  have h1':frzVs s.heap (xs.map (evX s.env))=some (p.1,p.2):=h1
  simp [evSeq,wanted,stepS,isMapI,stepC,h1',hn]
 |callS f own xs=>
  simp only [insH] at hi
  obtain ⟨p,h1,h2⟩:=some_of hi
  have h1':frzDs s.heap (xs.map (evX s.env))=some (p.1,p.2):=h1
  obtain ⟨⟨as1,rs,h',k'⟩,h3,h4⟩:=some_of h2
  simp only at h4
  cases own with
  |true=>
   simp only [if_true,Option.some.injEq,Prod.mk.injEq] at h4
   obtain ⟨rfl,rfl,rfl,rfl⟩:=h4
   obtain ⟨n,hn⟩:=bodyH_ok hr h3 ha
   refine ⟨n,?_⟩
   simp [evSeq,wanted,lendC,h1',hn]
  |false=>
   simp only [Bool.false_eq_true,if_false] at h4
   obtain ⟨u,h5,h6⟩:=some_of h4
   simp only [Option.some.injEq,Prod.mk.injEq] at h6
   obtain ⟨rfl,rfl,rfl,rfl⟩:=h6
   obtain ⟨n,hn⟩:=bodyH_ok hr h3 ha
   refine ⟨n,?_⟩
   simp [evSeq,wanted,lendC,h1',hn,h5]
 |_=>simp [insH] at hi
theorem evHS_ok {g:Nat→List V→Option (Asks×List V)} {ev:RunH} (hg:RightG F g) (hr:Right F ev) {n k:Nat} {is:List Inst} {s s':St} {aq:Asks} (h:evHS F n k g ev is s=some (aq,s')) (ha:∀q∈aq,Answers F q):∃m,evSeq (evFn F m) (evBody F m) is s=some s':=by
 unfold evHS at h
 obtain ⟨s1,h1,h2⟩:=some_of h
 split at h2
 case h_2=>cases h2
 rename_i i r hd
 split at h2
 case h_2=>cases h2
 rename_i hgd
 obtain ⟨⟨as1,d,hp,k'⟩,h3,h4⟩:=some_of h2
 obtain ⟨s2,h5,h6⟩:=some_of h4
 simp only [Option.some.injEq,Prod.mk.injEq] at h6
 obtain ⟨rfl,rfl⟩:=h6
 obtain ⟨m,hm⟩:=insH_ok hg hr hgd h3 ha
 refine ⟨max n m,?_⟩
 have e1:is=is.take k++([i]++r):=by rw [←List.singleton_append] at hd;rw [←hd,List.take_append_drop]
 rw [e1,evSeq_app,seq_up h1 (by omega),Option.bind_some,evSeq_app,seq_up hm (by omega),Option.bind_some]
 exact seq_up h5 (by omega)
theorem evHD_ok {g:Nat→List V→Option (Asks×List V)} (hg:RightG F g) {n k:Nat} {is:List Inst} {ws:List Nat} {s s':St} {aq:Asks} (h:evHD F n k g is ws s=some (aq,s')) (ha:∀q∈aq,Answers F q):∃m,evCode F (m+1) (.draw is ws) s=some (.normal,s'):=by
 unfold evHD at h
 obtain ⟨⟨e1,h1,ts1⟩,hd1,h2⟩:=some_of h
 split at h2
 case h_2=>cases h2
 rename_i i r hd
 split at h2
 case h_2=>cases h2
 rename_i f xs hgd hi
 obtain ⟨⟨vs,us⟩,h3,h4⟩:=some_of h2
 obtain ⟨⟨as1,rs⟩,h8,h9⟩:=some_of h4
 obtain ⟨⟨e2,hp2,ts2⟩,h5,h6⟩:=some_of h9
 split at h6
 case isFalse=>cases h6
 rename_i hok
 simp only [Option.some.injEq,Prod.mk.injEq] at h6
 obtain ⟨rfl,rfl⟩:=h6
 obtain ⟨m,hm⟩:=hg h8 ha
 refine ⟨max n m,?_⟩
 have hk:k < is.length:=by
  rcases Nat.lt_or_ge k is.length with h7|h7
  ·exact h7
  ·rw [List.drop_eq_nil_of_le h7] at hd;cases hd
 have e0:is=is.take k++([i]++r):=by rw [←List.singleton_append] at hd;rw [←hd,List.take_append_drop]
 have hl:(is.take k).length=k:=by rw [List.length_take];omega
 have hm':=fn_up hm (Nat.le_max_right n m)
 have h3':frzVs h1 (xs.map (evX e1))=some (vs,us):=h3
 have e2':evDraw (evFn F (max n m)) (evLent F (max n m)) s.nx k [i] e1 h1=some (putE e1 i.dst (retD rs),updH h1 us,[⟨tmpsX xs,i.dst.toList,touches (evX e1) i.ins,us.map (·.1)⟩]):=by
  obtain ⟨dst,ins,guard⟩:=i
  simp only at hgd hi
  subst hgd hi
  simp [evDraw,wanted,stepD,stepS,isMapI,stepC,h3',hm',opX]
 have key:evDraw (evFn F (max n m)) (evLent F (max n m)) s.nx 0 is s.env s.heap=some (e2,hp2,ts1++(⟨tmpsX xs,i.dst.toList,touches (evX e1) i.ins,us.map (·.1)⟩:Trace)::ts2):=by
  have h5':=draw_up h5 (Nat.le_max_left n m)
  rw [e0,evDraw_app,draw_up hd1 (Nat.le_max_left n m),Option.bind_some]
  simp only [hl,Nat.zero_add]
  rw [evDraw_app,e2']
  simp only [Option.bind_some,List.length_singleton]
  rw [h5']
  rfl
 rw [evCode]
 simp only [Option.bind_eq_bind,key,Option.bind_some]
 rw [if_pos hok]
theorem evH_ok {n:Nat}:∀{p:HP} {c:ICode} {s s':St} {x:Ex} {aq:Asks},evH F n p c s=some (aq,x,s')→(∀q∈aq,Answers F q)→∃m,evCode F m c s=some (x,s')
 |.all,c,s,s',x,aq,h,_=>by
  simp only [evH] at h
  obtain ⟨r,h1,h2⟩:=some_of h
  simp only [Option.some.injEq,Prod.mk.injEq] at h2
  obtain ⟨_,rfl⟩:=h2
  exact ⟨n,h1⟩
 |.seq p q,.seq a b,s,s',x,aq,h,ha=>by
  simp only [evH] at h
  obtain ⟨⟨as1,x1,s1⟩,h1,h2⟩:=some_of h
  simp only at h2
  split at h2
  ·obtain ⟨⟨as2,x2,s2⟩,h3,h4⟩:=some_of h2
   simp only [Option.some.injEq,Prod.mk.injEq] at h4
   obtain ⟨rfl,rfl,rfl⟩:=h4
   obtain ⟨m1,e1⟩:=evH_ok h1 fun q hq=>ha q (by simp [hq])
   obtain ⟨m2,e2⟩:=evH_ok h3 fun q hq=>ha q (by simp [hq])
   refine ⟨max m1 m2+1,?_⟩
   rw [evCode]
   simp only [Option.bind_eq_bind,code_up e1 (Nat.le_max_left m1 m2),Option.bind_some]
   exact code_up e2 (Nat.le_max_right m1 m2)
  ·rename_i hne
   simp only [Option.some.injEq,Prod.mk.injEq] at h2
   obtain ⟨rfl,rfl,rfl⟩:=h2
   obtain ⟨m1,e1⟩:=evH_ok h1 ha
   refine ⟨m1+1,?_⟩
   rw [evCode]
   simp only [Option.bind_eq_bind,e1,Option.bind_some]
 |.sub p,.cond c a b,s,s',x,aq,h,ha=>by
  simp only [evH] at h
  obtain ⟨t,h1,h2⟩:=some_of h
  cases t with
  |true=>
   simp only [if_true] at h2
   obtain ⟨m,e⟩:=evH_ok h2 ha
   refine ⟨m+1,?_⟩
   rw [evCode]
   simp only [Option.bind_eq_bind,h1,Option.bind_some,if_true,e]
  |false=>
   simp only [Bool.false_eq_true,if_false] at h2
   obtain ⟨m,e⟩:=evH_ok h2 ha
   refine ⟨m+1,?_⟩
   rw [evCode]
   simp only [Option.bind_eq_bind,h1,Option.bind_some,Bool.false_eq_true,if_false,e]
 |.sub p,.block id c,s,s',x,aq,h,ha=>by
  simp only [evH] at h
  obtain ⟨⟨as1,x1,s1⟩,h1,h2⟩:=some_of h
  cases x1 with
  |normal=>
   simp only [Option.some.injEq,Prod.mk.injEq] at h2
   obtain ⟨rfl,rfl,rfl⟩:=h2
   obtain ⟨m,e⟩:=evH_ok h1 ha
   refine ⟨m+1,?_⟩
   rw [evCode]
   simp only [Option.bind_eq_bind,e,Option.bind_some]
  |ret=>
   simp only [Option.some.injEq,Prod.mk.injEq] at h2
   obtain ⟨rfl,rfl,rfl⟩:=h2
   obtain ⟨m,e⟩:=evH_ok h1 ha
   refine ⟨m+1,?_⟩
   rw [evCode]
   simp only [Option.bind_eq_bind,e,Option.bind_some]
  |exit id'=>
   by_cases hid:id'=id
   ·simp only [if_pos hid,Option.some.injEq,Prod.mk.injEq] at h2
    obtain ⟨rfl,rfl,rfl⟩:=h2
    obtain ⟨m,e⟩:=evH_ok h1 ha
    refine ⟨m+1,?_⟩
    rw [evCode]
    simp only [Option.bind_eq_bind,e,Option.bind_some,if_pos hid]
   ·simp only [if_neg hid,Option.some.injEq,Prod.mk.injEq] at h2
    obtain ⟨rfl,rfl,rfl⟩:=h2
    obtain ⟨m,e⟩:=evH_ok h1 ha
    refine ⟨m+1,?_⟩
    rw [evCode]
    simp only [Option.bind_eq_bind,e,Option.bind_some,if_neg hid]
 |.at k a,.region is,s,s',x,aq,h,ha=>by
  simp only [evH] at h
  obtain ⟨⟨as1,s1⟩,h1,h2⟩:=some_of h
  simp only [Option.some.injEq,Prod.mk.injEq] at h2
  obtain ⟨rfl,rfl,rfl⟩:=h2
  obtain ⟨m,e⟩:=evHS_ok ansG_ok noRun_ok h1 ha
  refine ⟨m+1,?_⟩
  rw [evCode]
  simp only [Option.bind_eq_bind,e,Option.bind_some]
 |.at k a,.draw is ws,s,s',x,aq,h,ha=>by
  simp only [evH] at h
  obtain ⟨⟨as1,s1⟩,h1,h2⟩:=some_of h
  simp only [Option.some.injEq,Prod.mk.injEq] at h2
  obtain ⟨rfl,rfl,rfl⟩:=h2
  obtain ⟨m,e⟩:=evHD_ok ansG_ok h1 ha
  exact ⟨m+1,e⟩
 |.into k p,.region is,s,s',x,aq,h,ha=>by
  simp only [evH] at h
  obtain ⟨⟨as1,s1⟩,h1,h2⟩:=some_of h
  simp only [Option.some.injEq,Prod.mk.injEq] at h2
  obtain ⟨rfl,rfl,rfl⟩:=h2
  have hr:Right F (evH F n p):=fun h ha=>evH_ok h ha
  obtain ⟨m,e⟩:=evHS_ok (fnH_ok hr) hr h1 ha
  refine ⟨m+1,?_⟩
  rw [evCode]
  simp only [Option.bind_eq_bind,e,Option.bind_some]
 |.into _ _,.skip,_,_,_,_,h,_=>by simp [evH] at h
 |.into _ _,.draw _ _,_,_,_,_,h,_=>by simp [evH] at h
 |.into _ _,.seq _ _,_,_,_,_,h,_=>by simp [evH] at h
 |.into _ _,.cond _ _ _,_,_,_,_,h,_=>by simp [evH] at h
 |.into _ _,.block _ _,_,_,_,_,h,_=>by simp [evH] at h
 |.into _ _,.loop _,_,_,_,_,h,_=>by simp [evH] at h
 |.into _ _,.exit _,_,_,_,_,h,_=>by simp [evH] at h
 |.into _ _,.ret,_,_,_,_,h,_=>by simp [evH] at h
 |.seq _ _,.skip,_,_,_,_,h,_=>by simp [evH] at h
 |.seq _ _,.region _,_,_,_,_,h,_=>by simp [evH] at h
 |.seq _ _,.draw _ _,_,_,_,_,h,_=>by simp [evH] at h
 |.seq _ _,.cond _ _ _,_,_,_,_,h,_=>by simp [evH] at h
 |.seq _ _,.block _ _,_,_,_,_,h,_=>by simp [evH] at h
 |.seq _ _,.loop _,_,_,_,_,h,_=>by simp [evH] at h
 |.seq _ _,.exit _,_,_,_,_,h,_=>by simp [evH] at h
 |.seq _ _,.ret,_,_,_,_,h,_=>by simp [evH] at h
 |.sub _,.skip,_,_,_,_,h,_=>by simp [evH] at h
 |.sub _,.region _,_,_,_,_,h,_=>by simp [evH] at h
 |.sub _,.draw _ _,_,_,_,_,h,_=>by simp [evH] at h
 |.sub _,.seq _ _,_,_,_,_,h,_=>by simp [evH] at h
 |.sub _,.loop _,_,_,_,_,h,_=>by simp [evH] at h
 |.sub _,.exit _,_,_,_,_,h,_=>by simp [evH] at h
 |.sub _,.ret,_,_,_,_,h,_=>by simp [evH] at h
 |.at _ _,.skip,_,_,_,_,h,_=>by simp [evH] at h
 |.at _ _,.seq _ _,_,_,_,_,h,_=>by simp [evH] at h
 |.at _ _,.cond _ _ _,_,_,_,_,h,_=>by simp [evH] at h
 |.at _ _,.block _ _,_,_,_,_,h,_=>by simp [evH] at h
 |.at _ _,.loop _,_,_,_,_,h,_=>by simp [evH] at h
 |.at _ _,.exit _,_,_,_,_,h,_=>by simp [evH] at h
 |.at _ _,.ret,_,_,_,_,h,_=>by simp [evH] at h
theorem evHF_ok {n:Nat} {p:HP} {f:Nat} {vs rs:List V} {aq:Asks} (hf:fnH F (evH F n p) f vs=some (aq,rs)) (ha:∀q∈aq,Answers F q):∃m,evFn F m f vs=some rs:=
 fnH_ok (fun h ha=>evH_ok h ha) hf ha
end
end Go.Ey

set_option maxHeartbeats 4000000
namespace Go.Ey.Pr
open Go Go.Ey Go.Ey.Seat
def k143:KFun:=⟨[none,(some 2)],[],(.call 184 [(.one (.v 1)),(.agg (.all 0))] [] [none,none,none] [] (.opc (.not (.v 0)) (.ite (.v 0) (.ret [(.agg (.lit 37 [(.k (.s 0 0)),(.k (.s 0 0)),(.k (.sl 0 [] 0)),(.k (.i .i64 (.ofNat 0))),(.k (.i .i64 (.ofNat 0))),(.k (.s 0 0)),(.k (.s 0 0)),(.k (.i .i64 (.ofNat 0))),(.k (.s 0 0)),(.k (.s 0 0)),(.k (.s 0 0)),(.k (.s 0 0)),(.k (.s 0 0)),(.k (.sl 0 [] 0)),(.k (.sl 0 [] 0)),(.k (.i .i64 (.ofNat 0))),(.k (.s 0 0)),(.k (.s 0 0)),(.k (.i .i64 (.ofNat 0))),(.k (.s 0 0)),(.k (.s 0 0)),(.k (.s 0 0)),(.k (.s 0 0)),(.k (.s 0 0)),(.k (.sl 0 [] 0)),(.k (.sl 0 [] 0)),(.k (.i .i64 (.ofNat 0))),(.k (.s 0 0)),(.k (.s 0 0)),(.k (.i .i64 (.ofNat 0))),(.k (.s 0 0)),(.k (.s 0 0)),(.k (.s 0 0)),(.k (.s 0 0)),(.k (.s 0 0)),(.k (.sl 0 [] 0)),(.k (.sl 0 [] 0))])),(.one (.k (.b false)))] []) (.row 32 (.v 5) (.v 3) (.call 185 [(.agg (.all 0))] [] [none] [] (.row 37 (.v 0) (.v 4) (.ret [(.agg (.all 0)),(.one (.k (.b true)))] []))))))),[]⟩
theorem r143 (nat:Nat→List V→Option (List V)):(T nat).krow 143=some k143:=by kernel_rfl
def k184:KFun:=⟨[none,(some 2)],[],(.opc (.len false (.v 1)) (.goto 0 4 [(.one (.v 2)),(.one (.v 0)),(.one (.k (.i .i64 (.ofNat 0)))),(.agg (.all 1))])),[(4,(.opc (.lss (.v 1) (.v 2)) (.ite (.v 0) (.row 32 (.v 4) (.v 2) (.call 185 [(.agg (.all 0))] [] [none] [] (.call 399 [(.one (.v 0))] [(.all 3)] [none,none] [2] (.ite (.v 1) (.ret [(.one (.v 7)),(.one (.v 2)),(.one (.k (.b true)))] []) (.opc (.add (.v 7) (.k (.i .i64 (.ofNat 1)))) (.goto 0 4 [(.one (.v 10)),(.one (.v 9)),(.one (.v 0)),(.agg (.all 1))])))))) (.ret [(.one (.k (.i .i64 (.ofNat 0)))),(.one (.k (.i .i64 (.ofNat 0)))),(.one (.k (.b false)))] []))))]⟩
theorem r184 (nat:Nat→List V→Option (List V)):(T nat).krow 184=some k184:=by kernel_rfl
def k185:KFun:=⟨[(some 32)],[],(.opc (.eql (.n 0 0) (.k (.i .i64 (.ofNat 3)))) (.ite (.v 0) (.ret [(.one (.n 1 20))] []) (.opc (.eql (.n 1 0) (.k (.i .i64 (.ofNat 5)))) (.ite (.v 0) (.ret [(.one (.n 2 20))] []) (.opc (.eql (.n 2 0) (.k (.i .i64 (.ofNat 6)))) (.ite (.v 0) (.ret [(.one (.n 3 20))] []) (.opc (.eql (.n 3 0) (.k (.i .i64 (.ofNat 7)))) (.ite (.v 0) (.ret [(.one (.n 4 20))] []) (.ret [(.one (.k (.sl 0 [] 0)))] []))))))))),[]⟩
theorem r185 (nat:Nat→List V→Option (List V)):(T nat).krow 185=some k185:=by kernel_rfl
def k399:KFun:=⟨[none],[2],(.opc (.len false (.v 1)) (.goto 0 4 [(.one (.v 2)),(.one (.v 0)),(.one (.k (.i .i64 (.ofNat 0)))),(.agg (.all 1))])),[(4,(.opc (.lss (.v 1) (.v 2)) (.ite (.v 0) (.row 37 (.v 4) (.v 2) (.call 220 [(.agg (.all 0))] [(.all 2)] [none] [2] (.ite (.v 1) (.ret [(.one (.v 5)),(.one (.k (.b true)))] [(.all 0)]) (.opc (.add (.v 5) (.k (.i .i64 (.ofNat 1)))) (.goto 0 4 [(.one (.v 8)),(.one (.v 7)),(.one (.v 0)),(.agg (.all 1))]))))) (.ret [(.one (.k (.i .i64 (.ofNat 0)))),(.one (.k (.b false)))] [(.all 1)]))))]⟩
theorem r399 (nat:Nat→List V→Option (List V)):(T nat).krow 399=some k399:=by kernel_rfl
def k220:KFun:=⟨[(some 37)],[2],(.opc (.eqs [1,1] false (.lit 2 [(.n 1 0),(.n 1 1)]) (.all 0)) (.ret [(.one (.v 0))] [(.all 1)])),[]⟩
theorem r220 (nat:Nat→List V→Option (List V)):(T nat).krow 220=some k220:=by kernel_rfl
def consB:ByteArray:=⟨#[99,111,110,115]⟩
def sameB:ByteArray:=⟨#[115,97,109,101]⟩
def cB:ByteArray:=⟨#[99]⟩
def qdO:Ob:=.cons (.sy user ⟨#[120]⟩) (.cons (.cons (.sy lispB ⟨#[110,111,116]⟩) (.cons (.sy user ⟨#[121]⟩) oNil)) oNil)
def obO:Ob:=.cons qdO oNil
def sameT:Tm:=.app lispB consB [.var lispB cB,.con oNil]
def smC:List C:=[cs user,cs sameB]
def fnC:List C:=[cs user,cs sameB,.slice [cs lispB,cs cB] 1,ci 1]++encT (.con oT)++encT sameT++zT
def fnK:List K:=[kS user,kS sameB,.sl 2 [[kS lispB,kS cB]] 1,kI 1]++kT (.con oT)++kT sameT++[kI 0,kE,kE,kI 0,kE,kE,kE,kE,kE,kz,kz]
theorem rk_fn:RKs fnK fnC:=by
 refine RKs.app (RKs.app (RKs.app ?_ (rkT _)) (rkT _)) ?_
 ·have h:=RKr.cons (RKs.cons (rkS lispB) (RKs.cons (rkS cB) RKs.nil)) rfl (RKr.nil (esz:=2))
  exact .cons (rkS _) (.cons (rkS _) (.cons (RK.sl 2 [[kS lispB,kS cB]] 1 _ h rfl) (.cons (RK.i _ _) .nil)))
 ·exact .cons (RK.i _ _) (.cons rkE (.cons rkE (.cons (RK.i _ _) (.cons rkE (.cons rkE (.cons rkE (.cons rkE (.cons rkE (.cons rkZ (.cons rkZ .nil))))))))))
theorem sm_eq:smL=[kS user,kS sameB]:=by kernel_rfl
theorem qd_eq:qdL=kOb qdO:=by kernel_rfl
theorem ob_eq:obL=kOb obO:=by kernel_rfl
theorem sm_one {cf:List C} (h:RKs smL cf):cf=smC:=by
 rw [sm_eq] at h
 exact RKs.one h (.cons (rkS _) (.cons (rkS _) .nil))
theorem qd_one {cq:C} (h:RK (.sl 7 [qdL] 1) cq):cq=.slice (enc qdO) 1:=by
 rw [qd_eq] at h
 have h2:=RKr.cons (rkOb qdO) (kOb_len qdO) (RKr.nil (esz:=7))
 exact RK.one h (RK.sl 7 [kOb qdO] 1 _ h2 rfl)
theorem kgF_ok {nat:Nat→List V→Option (List V)}:KGOK (T nat).G (T nat).psig (.node 143 k143 .leaf (.node 184 k184 .leaf (.node 220 k220 (.node 185 k185 .leaf .leaf) (.node 399 k399 .leaf .leaf)))):=
 ⟨krow_ok (r143 nat),trivial,krow_ok (r184 nat),trivial,krow_ok (r220 nat),⟨krow_ok (r185 nat),trivial,trivial⟩,⟨krow_ok (r399 nat),trivial,trivial⟩⟩
noncomputable def kgW:KG:=(.node 143 k143 .leaf (.node 184 k184 .leaf (.node 220 k220 (.node 185 k185 .leaf .leaf) (.node 399 k399 .leaf .leaf))))
theorem kgW_ok {nat:Nat→List V→Option (List V)}:KGOK (T nat).G (T nat).psig kgW:=kgF_ok
theorem a143:(krun kgW 3000).fn 143 [.c waK,.l 2 smL] []=.ret [.l 37 fnK,.c (.b true)] []:=by kernel_rfl
theorem a90ob:(krun kgD 3000).fn 90 [.l 7 obL] []=.ret [.c (.b true)] []:=by kernel_rfl
section
variable {nat:Nat→List V→Option (List V)}
theorem psig143:(T nat).psig 143=some [.one,.agg 2]:=by kernel_rfl
theorem x143 {cw:C} (hw:RK waK cw):fnT (T nat).G 143 [.v (.one cw),.v (.agg smC)] []=some ([.agg fnC,.one (cb true)],[]):=by
 have hs:RKs smL smC:=by rw [sm_eq];exact .cons (rkS _) (.cons (rkS _) .nil)
 obtain ⟨r1,g1,g2,g3⟩:=krun_fn (kgW_ok (nat:=nat)) psig143 (ts:=[.v (.one (.v 0)),.v (.agg (.all 0))]) rfl (ys:=[.c waK,.l 2 smL]) (us:=[.v (.one cw),.v (.agg smC)]) ⟨hw,⟨hs,rfl⟩,trivial⟩ (zs:=[]) (css:=[]) trivial a143
 obtain ⟨a1,b1⟩:=r1
 match a1,b1,g2,g3 with
 |[.agg c1,.one d1],[],g2,_=>
  have h1:c1=fnC:=RKs.one g2.1.1 rk_fn
  have h2:RK (.b true) d1:=g2.2.1
  rw [h1,h2.bool] at g1
  exact g1
theorem x90ob (hn:NatI nat):fnT (T nat).G 90 [.v (.agg (enc obO))] []=some ([.one (cb true)],[]):=by
 have hs:RKs obL (enc obO):=by rw [ob_eq];exact rkOb _
 obtain ⟨c,b,e⟩:=kc1 hn psig90 (ts:=[.v (.agg (.all 0))]) rfl (ys:=[.l 7 obL]) (us:=[.v (.agg (enc obO))]) ⟨⟨hs,rfl⟩,trivial⟩ a90ob
 rw [b.bool] at e
 exact e
end
def p246:HP:=.seq .all (.seq .all (.seq (.at 5 [.agg fnC,.one (cb true)]) .all))
def p247:HP:=(.seq .all (.seq .all (.seq .all (.seq .all (.seq .all (.seq .all (.seq .all (.seq .all (.seq .all (.seq (.seq (.at 1 [.one (cb true)]) .all) .all))))))))))
def p224c:HP:=(.seq .all (.seq .all (.seq .all (.seq .all (.seq .all (.seq .all (.seq .all (.seq .all (.seq .all (.seq (.seq .all (.sub (.seq (.into 3 p247) .all))) .all))))))))))
def p191 (p:HP):HP:=.seq .all (.seq (.seq .all (.sub (.seq .all (.sub (.seq .all (.sub (.seq (.into 3 p) .all))))))) .all)
def p224s:HP:=(.seq .all (.seq .all (.seq .all (.seq .all (.seq .all (.seq (.seq .all (.sub (.seq .all (.seq (.seq (.into 3 p246) .all) .all)))) (.seq .all (.seq .all (.seq .all (.seq .all (.seq .all (.seq .all (.seq (.into 4 (p191 p224c)) .all)))))))))))))
def p152:HP:=.seq .all (.seq .all (.seq (.into 3 (p191 p224s)) .all))
def p91:HP:=.seq .all (.seq .all (.seq .all (.seq (.into 5 p152) .all)))
noncomputable def F1:Tab:=(T (natOf (lB []))).F
theorem run91 (cw:C):fnH F1 (evH F1 60 p91) 91 [.one cw,.agg smC,.one (.slice (enc qdO) 1),.one (intC 100)]=some ([(143,[.one cw,.agg smC],[.agg fnC,.one (cb true)]),(90,[.agg (enc obO)],[.one (cb true)])],[.agg (enc obO),.one (ci 2),.one (ci 0)]):=by kernel_rfl
theorem evn_fn {nat:Nat→List V→Option (List V)} (h:(T nat).OK) {f:Nat} {vs rs:List V} {bs:List (List C)} (hc:((T nat).sig f).all (fun s=>s.code.isNone)=true) (hr:fnT (T nat).G f (vs.map .v) []=some (rs,bs)):∃n,evFn (T nat).F n f vs=some rs:=
 fnT_sim h.tab (fun s hs=>by rw [hs] at hc;simpa using hc) hr
theorem fok91 {cw:C} (hw:RK waK cw):FnOK PP 91 [.one cw,.agg smC,.one (.slice (enc qdO) 1),.one (intC 100)] [.agg (enc obO),.one (ci 2),.one (ci 0)]:=by
 have h9:Only91 []:=fun e h=>by cases h
 have hok:=seat_ok h9 (fun e h=>by cases h)
 have hn:=NatF.i (natF h9)
 obtain ⟨n,hr⟩:=evHF_ok (F:=F1) (run91 cw) fun q hq=>by
  simp only [List.mem_cons,List.mem_nil_iff,or_false] at hq
  rcases hq with rfl|rfl
  ·exact evn_fn hok (by kernel_rfl) (x143 hw)
  ·exact evn_fn hok (by kernel_rfl) (x90ob hn)
 exact hok.ev hr
theorem whole:∃m,Only91 m∧(∀e∈m,FnOK PP e.1 e.2.1 e.2.2)∧NatA (natOf (lB m)):=by
 by_cases hw:∃cw,RK waK cw
 ·obtain ⟨cw,hw⟩:=hw
  refine ⟨[(91,[.one cw,.agg smC,.one (.slice (enc qdO) 1),.one (intC 100)],[.agg (enc obO),.one (ci 2),.one (ci 0)])],fun e he=>?_,fun e he=>?_,?_⟩
  ·simp only [List.mem_singleton] at he;subst he;rfl
  ·simp only [List.mem_singleton] at he;subst he;exact fok91 hw
  ·have h9:Only91 [(91,[.one cw,.agg smC,.one (.slice (enc qdO) 1),.one (intC 100)],[.agg (enc obO),.one (ci 2),.one (ci 0)])]:=fun e he=>by simp only [List.mem_singleton] at he;subst he;rfl
   refine ⟨NatF.i (natF h9),fun cw' cf cq h1 h2 h3=>?_⟩
   rw [RK.one h1 hw,sm_one h2,qd_one h3]
   refine ⟨enc obO,ci 2,by rw [ob_eq];exact rkOb _,natOf_at ?_ fun e he h3 h4=>?_⟩
   ·exact List.mem_append_right _ (by simp [intC,ci])
   ·rcases lB_mem he with h|h|h|h
    ·obtain ⟨k,_,_,rfl⟩:=mem238 h;cases h3
    ·obtain ⟨q,hq,rfl⟩:=List.mem_map.1 h;cases h3
    ·simp only [l272,List.mem_singleton] at h;subst h;cases h3
    ·simp only [List.mem_singleton] at h;subst h;rfl
 ·have h9:Only91 []:=fun e h=>by cases h
  exact ⟨[],h9,(fun e h=>by cases h),⟨NatF.i (natF h9),fun cw cf cq h1=>absurd ⟨cw,h1⟩ hw⟩⟩
end Go.Ey.Pr

namespace Go.Ey
open Go.RowKit
def Typed (P:Program):Nat→TypeId→List C→Prop
 |0,_,_=>False
 |n+1,t,cs=>
  match P.underlying t with
  |some .bool=>∃b,cs=[.lit (.bool b)]
  |some (.int k)=>∃z,cs=[.lit (.int k z)]∧(Lit.int k z).wf=true
  |some .string=>∃s:ByteArray,cs=[.lit (.string s)]∧s.size≤maxLen
  |some (.slice e)=>∃rows:List (List C),cs=[.slice rows.flatten rows.length]∧rows.length≤maxLen∧∀r∈rows,r.length=P.cellsOf e∧Typed P n e r
  |some (.struct fs)=>cs.length=P.cellsOf t∧∀f∈fs.toList,Typed P n f.type ((cs.drop f.offset).take (P.cellsOf f.type))
  |_=>False
def tile (P:Program) (total:Nat):Nat→List Field→Bool
 |off,[]=>decide (off=total)
 |off,f::fs=>decide (f.offset=off) && decide (off+P.cellsOf f.type≤total) && tile P total (off+P.cellsOf f.type) fs
def openB (P:Program):Nat→TypeId→Bool
 |0,_=>false
 |n+1,t=>
  match P.underlying t with
  |some .bool|some (.int _)|some .string=>true
  |some (.slice e)=>decide (0 < P.cellsOf e) && openB P n e
  |some (.struct fs)=>tile P (P.cellsOf t) 0 fs.toList && fs.toList.all fun f=>openB P n f.type
  |_=>false
def Any:Nat→Nat→Prop:=fun _ _=>True
section
variable {H:Type} {enc:TypeId×Value→H} {P:Program} {w:World} {base:Nat} {spare:Nat→Bool} {held:Bool}
theorem tile_open {n total:Nat} {vs:List Value} (hv:vs.length=total):∀(fs:List Field) (off:Nat),off≤total→tile P total off fs=true→
  (∀f∈fs,∃cs,All2 (RepC w Any) cs ((vs.drop f.offset).take (P.cellsOf f.type))∧Typed P n f.type cs)→
  ∃cs,All2 (RepC w Any) cs (vs.drop off)∧∀f∈fs,off≤f.offset∧Typed P n f.type ((cs.drop (f.offset - off)).take (P.cellsOf f.type))
 |[],off,_,ht,_=>by
  simp only [tile,decide_eq_true_eq] at ht
  subst ht
  exact ⟨[],by rw [List.drop_eq_nil_of_le (by omega)];trivial,by simp⟩
 |f::fs,off,ho,ht,hf=>by
  simp only [tile,Bool.and_eq_true,decide_eq_true_eq] at ht
  obtain ⟨⟨h1,h2⟩,h3⟩:=ht
  obtain ⟨c0,k1,k2⟩:=hf f (by simp)
  obtain ⟨cs,k3,k4⟩:=tile_open hv fs (off+P.cellsOf f.type) h2 h3 fun g hg=>hf g (by simp [hg])
  have hlen:c0.length=P.cellsOf f.type:=by rw [k1.len,List.length_take,List.length_drop];omega
  refine ⟨c0++cs,?_,fun g hg=>?_⟩
  ·have:=k1.append k3
   rw [h1,←List.drop_drop,List.take_append_drop] at this
   exact this
  ·simp only [List.mem_cons] at hg
   rcases hg with rfl|hg
   ·refine ⟨by omega,?_⟩
    rw [h1,Nat.sub_self,List.drop_zero,List.take_append_of_le_length (by omega),List.take_of_length_le (by omega)]
    exact k2
   ·obtain ⟨k5,k6⟩:=k4 g hg
    refine ⟨by omega,?_⟩
    rw [show g.offset - off=c0.length+(g.offset - (off+P.cellsOf f.type)) by omega,←List.drop_drop,List.drop_left]
    exact k6
theorem rows_open {n c:Nat} {e:TypeId} {a:Addr} (hc:c=P.cellsOf e):∀k,(∀i,i < k→∃us cs,w.cells? base (a.add (i * c)) c=some us∧All2 (RepC w Any) cs us∧Typed P n e cs)→
  ∃(rows:List (List C)) (us:List Value),rows.length=k∧us.length=k * c∧All2 (RepC w Any) rows.flatten us∧(∀j u,us[j]?=some u→w.cell? (a.add j)=some u)∧∀r∈rows,r.length=c∧Typed P n e r
 |0,_=>⟨[],[],rfl,by simp,trivial,by simp,by simp⟩
 |k+1,h=>by
  obtain ⟨rows,us,h1,h2,h3,h4,h5⟩:=rows_open hc k fun i hi=>h i (by omega)
  obtain ⟨vs,cs,k1,k2,k3⟩:=h k (by omega)
  obtain ⟨_,k4,k5⟩:=World.cells?_some k1
  refine ⟨rows++[cs],us++vs,by simp [h1],by rw [List.length_append,h2,k4,Nat.succ_mul],?_,?_,?_⟩
  ·simp only [List.flatten_append,List.flatten_cons,List.flatten_nil,List.append_nil]
   exact h3.append k2
  ·intro j u hu
   by_cases hj:j < us.length
   ·rw [List.getElem?_append_left hj] at hu;exact h4 j u hu
   ·rw [List.getElem?_append_right (by omega)] at hu
    have hlt:=(List.getElem?_eq_some_iff.1 hu).1
    have:=k5 (j - us.length) (by omega)
    rw [Go.Deep.add_add,hu,h2] at this
    rw [show k * c+(j - k * c)=j by omega] at this
    exact this
  ·intro r hr
   simp only [List.mem_append,List.mem_singleton] at hr
   rcases hr with hr|rfl
   ·exact h5 r hr
   ·exact ⟨by rw [k2.len,k4],k3⟩
theorem rep_slice {a:Addr} {rows:List C} {us:List Value} {len cap:Nat} (hl:len≤cap) (h3:All2 (RepC w Any) rows us) (h4:∀j u,us[j]?=some u→w.cell? (a.add j)=some u):RepC w Any (.slice rows len) (.slice (some a) len cap):=by
 simp only [RepC]
 have hs:rows≠[]→a.spot=none:=by
  intro hne
  cases us with
  |nil=>cases rows with|nil=>exact absurd rfl hne|cons _ _=>exact h3.elim
  |cons u us=>
   have:=World.cell?_spot (h4 0 u rfl)
   simpa [Addr.add] using this
 refine .inr ⟨a,cap,rfl,hl,hs,RepCs_of h3 fun i u hi=>⟨?_,trivial⟩⟩
 have hne:rows≠[]:=by
  intro e
  subst e
  cases us with
  |nil=>simp at hi
  |cons _ _=>exact h3.elim
 obtain ⟨b,o,sp⟩:=a
 have:sp=none:=hs hne
 subst this
 have:=h4 i u hi
 unfold Addr.add at this
 split at this
 ·rename_i h0;subst h0;exact this
 ·exact this
theorem open_typed:∀(n:Nat) (t:TypeId),openB P n t=true→∀(fuel:Nat) (vs:List Value) (x:DataW H×List MemPlace),DataW.trod enc P w base spare held fuel t vs=some x→∃cs,All2 (RepC w Any) cs vs∧Typed P n t cs
 |0,_,h,_,_,_,_=>by cases h
 |n+1,t,h,fuel,vs,x,hx=>by
  unfold openB at h
  cases ht:P.underlying t with
  |none=>rw [ht] at h;cases h
  |some d=>
   rw [ht] at h
   cases d with
   |bool=>
    obtain ⟨b,rfl,_⟩:=DataW.trod_bool ht hx
    exact ⟨[.lit (.bool b)],⟨⟨rfl,rfl⟩,trivial⟩,by unfold Typed;rw [ht];exact ⟨b,rfl⟩⟩
   |int k=>
    obtain ⟨z,rfl,_,hw⟩:=DataW.trod_int ht hx
    exact ⟨[.lit (.int k z)],⟨⟨rfl,rfl⟩,trivial⟩,by unfold Typed;rw [ht];exact ⟨z,rfl,hw⟩⟩
   |string=>
    obtain ⟨s,rfl,_,hs⟩:=DataW.trod_string ht hx
    exact ⟨[.lit (.string s)],⟨⟨rfl,rfl⟩,trivial⟩,by unfold Typed;rw [ht];exact ⟨s,rfl,hs⟩⟩
   |slice e=>
    simp only [Bool.and_eq_true,decide_eq_true_eq] at h
    rcases Go.Deep.open_slice ht hx with ⟨rfl,_⟩|⟨a,len,cap,m,n',D,Pl,rfl,hb,hl,hm,hmm,_,hel⟩
    ·refine ⟨[.slice [] 0],⟨by unfold RepC;exact .inl ⟨rfl,rfl,rfl⟩,trivial⟩,?_⟩
     unfold Typed;rw [ht]
     exact ⟨[],rfl,by simp,by simp⟩
    ·have hlm:len≤m:=by rw [hmm];split<;>omega
     obtain ⟨rows,us,h1,h2,h3,h4,h5⟩:=rows_open (w:=w) (base:=base) (n:=n) (a:=a) (rfl:P.cellsOf e=P.cellsOf e) len fun i hi=>by
      obtain ⟨us,k1,k2⟩:=hel i (by omega)
      obtain ⟨cs,k3,k4⟩:=open_typed n e h.2 n' us _ k2
      exact ⟨us,cs,k1,k3,k4⟩
     refine ⟨[.slice rows.flatten rows.length],⟨?_,trivial⟩,?_⟩
     ·rw [h1];exact rep_slice hl h3 h4
     ·unfold Typed;rw [ht]
      exact ⟨rows,rfl,by omega,h5⟩
   |struct fs=>
    simp only [Bool.and_eq_true,List.all_eq_true] at h
    obtain ⟨xs,m,rfl,_,hl,hxl,hf⟩:=DataW.trod_struct ht hx
    obtain ⟨cs,k1,k2⟩:=tile_open (w:=w) (n:=n) hl fs.toList 0 (by omega) h.1 fun f hfm=>by
     obtain ⟨i,hi,hif⟩:=List.getElem_of_mem hfm
     have hi':i < fs.size:=by simpa using hi
     have h1:=hf i f (by rw [Array.getElem?_eq_getElem hi'];simpa using hif)
     rw [List.getElem?_eq_getElem (by omega)] at h1
     exact open_typed n f.type (h.2 f hfm) m _ _ h1
    rw [List.drop_zero] at k1
    refine ⟨cs,k1,?_⟩
    unfold Typed;rw [ht]
    refine ⟨by rw [k1.len];exact hl,fun f hfm=>?_⟩
    have:=(k2 f hfm).2
    rw [Nat.sub_zero] at this
    exact this
   |_=>cases h
end
end Go.Ey
