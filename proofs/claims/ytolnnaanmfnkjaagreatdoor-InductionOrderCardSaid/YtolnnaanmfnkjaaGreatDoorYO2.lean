/- InductionOrder: for every input the law returns true, and its argument reads as before. No condition beyond the tables of the card. -/
import Derived.Test.YtolnnaanmfnkjaaGreatDoorY48
import Derived.Test.YtolnnaanmfnkjaaGreatDoorYO1
import Derived.Test.YtolnnaanmfnkjaaGreatDoorTie
import Derived.Test.YtolnnaanmfnkjaaGreatDoorCards
import Derived.SevenTiedAt
import Derived.Lay
import Derived.JoinedOf
import Derived.KernelRfl
import Derived.Test.YtolnnaanmfnkjaaGreatDoorRows
import Derived.LaidMore
import Derived.Lib.LaidPrint
import Derived.ProofKit
import Derived.OpenShut
import Derived.Stop.Joined
import Derived.ChangeOld
import Derived.Deep.Slices
import Derived.Laws.Append
import Derived.Laws.OwnMore
import Derived.Below
import GoSem.Core.Region
import GoSem.Core.Layout
import GoSem.Op.Equal
import GoSem.Core.View
import GoSem.Op.String
import Derived.Orders
import Derived.MapKept
import Derived.Carry
import Derived.Laws.StructEq
import Derived.WalkKit
import Derived.Laws.EntriesVeiled
import Derived.Deep.DeepCutAuto
import Derived.Deep.DrawnRows
import Derived.Maps.Own
import Derived.Maps.OwnSet
import Derived.Test.YtolnnaanmfnkjaaGreatDoorChecked
import Derived.StillTailTactics
import Derived.Deep.AppendLies
import Derived.Deep.RegionHeld3
import Derived.Lib.LaidTab
import Derived.Shelf.LaysM
import Derived.Shelf.Strconv.Itoa3
import Derived.Shelf.Strconv.Quote
import Derived.Shelf.Strings.Builder1
import Derived.BigCall
import Derived.Shelf.Strings.BuilderF
import Derived.Shelf.Strings.BuilderK
import Derived.Lib.BufferKept
set_option linter.all false
namespace Go.Proofs.YtolnnaanmfnkjaaGreatDoor.inductionOrder
open Go.Proofs.YtolnnaanmfnkjaaGreatDoor
open Go Go.Ey Go.Ey.Pr Go.ChangeShapes Go.WideShapes Go.ChangeAt Go.RowKit
set_option linter.unusedVariables false
theorem own:ownKnob Tryz.prog.godebug=none:=by kernel_rfl
theorem laidOut:laidOutB Tryz.prog=true:=by kernel_rfl
theorem looks:false=Tryz.prog.looks []:=by kernel_rfl
theorem mainIs:Tryz.prog.mainIs=some (true,("553e0069a973972142efee23b9f5ec7bad0651dc19b133852792b5bb8afd5c39":String).toList):=by kernel_rfl
theorem Jn:Rows.inductionOrderRow.laid=[("math/bits.deBruijn32tab",Rows.laid_math_bits_deBruijn32tab),("math/bits.deBruijn64tab",Rows.laid_math_bits_deBruijn64tab),("internal/strconv.uint64pow10",Lib.tabData .u64 Lib.pow10Tab),("unicode/utf8.acceptRanges",Lib.acceptData),("strconv.isGraphic",Rows.laid_strconv_isGraphic),("strconv.isNotPrint16",Lib.sliceData .u16 Lib.goPrintTabs.n16),("strconv.isNotPrint32",Lib.sliceData .u16 Lib.goPrintTabs.n32),("strconv.isPrint16",Lib.sliceData .u16 Lib.goPrintTabs.p16),("strconv.isPrint32",Lib.sliceData .u32 Lib.goPrintTabs.p32),("unicode/utf8.first",Lib.firstData)]:=by kernel_rfl
theorem inv (W:World) (h:laidMetH Tryz.prog Rows.inductionOrderRow.laid W):lV.Inv W.heap.size W:=by
 rw [MakeChecks.laidMetH_plain _ _ _ (by kernel_rfl),Jn] at h
 exact inv_of h
set_option maxRecDepth 100000 in
theorem lifted (os:Os) (started:os.Started) (H:Type) (enc:TypeId×Value->H):
  ReturnsInHanded {} Tryz.checked os 6 .any (fun w args=>(Rows.inductionOrderSpec.pre enc Tryz.prog Tryz.f6 [] false w args/\laidMetH Tryz.prog Rows.inductionOrderRow.laid w)/\sizedMet enc Tryz.prog Tryz.f6 (OpenSpec.ofChange Rows.inductionOrderSpec) false w args)
   (Rows.inductionOrderSpec.post enc Tryz.prog Tryz.f6 false true false false):=by
 refine returnsInHanded_of_change_and (C:=Tryz.checked) (X:=fun w _=>laidMetH Tryz.prog Rows.inductionOrderRow.laid w) (fun _ _ _ hh h=>h.of_heap hh) own started (by kernel_rfl) Tryz.func6
  (ChangeSpec.witness_shaped (enc:=enc) (C:=Tryz.checked) (os:=os) (X:=fun w _=>laidMetH Tryz.prog Rows.inductionOrderRow.laid w) false (World.laidAll Tryz.prog os Rows.inductionOrderRow.laid) #[.slice none 0 0] 8 (World.laidAll_os _ _ _) (World.shaped_of_ZipB (by kernel_rfl) (by kernel_rfl)) (by kernel_rfl) (by kernel_rfl) (by kernel_rfl)
   (by rw [MakeChecks.laidMetH_plain _ _ _ (by kernel_rfl)];exact laidMet_laidAll _ (by kernel_rfl) (by kernel_rfl))) ?_
 intro W base args ds gs before hval0 hW _ _ hL _;have hval:∀(j:Nat) t v,Tryz.f6.params[j]?=some t->args[j]?=some v->Value.okWide Tryz.prog W .any base t v:=hval0;have hW':=hW;obtain ⟨p,q,hA0,hV,rfl,hfz,hnd⟩:=hW;have hA:DataW.TrodAll enc Tryz.prog W 0 (fun _=>true) true Tryz.f6.params.toList args.toList ds p:=hA0
 rw [Tryz.params6] at hA hval;obtain ⟨v0,d0,hargs,rfl,h0⟩:=trodAll_one hA;obtain rfl:args=#[v0]:=by cases args;simp_all
 obtain ⟨rfl,rfl⟩:=trodVars_none hV;obtain ⟨a0,V3,cap0,rfl⟩:=okWide_slice Tryz.underlying22 (hval 0 22 v0 rfl rfl);have k0:=h0;have lt0:∀x∈p,x.block < W.heap.size:=by obtain ⟨m,hm⟩:=k0;exact DataW.trod_lt m _ _ _ hm
 obtain ⟨bs,hrep⟩:∃bs,gQ W (fun _ _=>True) (.one (rows wQ bs)) (.slice a0 V3 cap0):=by obtain ⟨fuel,hf⟩:=h0;obtain ⟨ccs,ha,ht⟩:=Aq 3 22 Zb fuel _ _ hf;obtain ⟨bs,rfl,_⟩:=FN ht;exact ⟨bs,ha.1⟩
 clear hA0 hval0;refine ((aqE bs).2 (fun _ _=>True) W [.slice a0 V3 cap0] (inv W hL) ⟨hrep,trivial⟩).mono fun e W' ⟨v,he,hv,Cr⟩=>?_
 subst he;have hb:v=.bool true:=hv.1;subst hb;exact ⟨_,rfl,_,_,_,[],_,[],hW',trodAll_mk1 (shut_bool Tryz.underlying4 _),(trodAll_mk1 (Below.trod laidOut (by kernel_rfl) (J1 (by kernel_rfl)) k0 Cr lt0)),rfl,Cr.frame _,fun h=>by cases h⟩
theorem over:Rows.InductionOrderSaid:=
 OpenClaim.holds_of_wide (p:=Tryz.pinned) 6 Tryz.f6 rfl rfl rfl rfl rfl rfl rfl ⟨rfl,rfl,rfl,rfl,rfl⟩ rfl rfl rfl rfl rfl OV.named Tryz.func6 OV.closed
  (J1 (by kernel_rfl)) (by unfold Func.isWrapper;first|(rw [C4 (by decide+kernel)];kernel_rfl)|(rw [Dd (by decide+kernel)];exact ⟨rfl,rfl⟩))
  (fun os started H enc _=>lifted os started H enc)
theorem params (f:FuncId) (fn:Func) (hf:Tryz.prog.funcNamed "lispprover/lispproverlaw37.InductionOrder"=some f) (hfn:Tryz.prog.funcs[f]?=some fn):false=Tryz.prog.looks []/\∀(j:Nat) t,fn.params[j]?=some t->Tryz.prog.wantsStandIn t=false:=by
 obtain rfl:f=6:=(Jx (OV.named.symm.trans hf)).symm;obtain rfl:fn=Tryz.f6:=(Jx (Tryz.func6.symm.trans hfn)).symm;refine ⟨looks,fun j t ht=>?_⟩
 rw [Tryz.params6] at ht;have h3:t=22:=by
  rcases j with _|j
  ·simpa using ht.symm
  ·simp at ht
 subst h3;exact (show Tryz.prog.wantsStandIn 22=false by kernel_rfl)
theorem proved:Rows.InductionOrderCardSaid:=
 Claim7.holds_tied_plain_at (p:=Tryz.pinned) (c:=Rows.inductionOrderRow) .later [] [.data,.data,.data,.data,.pinned,.pinned,.pinned,.pinned,.pinned,.pinned] true (true, "553e0069a973972142efee23b9f5ec7bad0651dc19b133852792b5bb8afd5c39") false
  over (fun _ h=>by cases h) (by kernel_rfl) (fun _ h=>by cases h) inductionOrder_row_tie rfl ⟨rfl,rfl⟩ mainIs rfl
  params OV.goesBy.symm
end Go.Proofs.YtolnnaanmfnkjaaGreatDoor.inductionOrder
