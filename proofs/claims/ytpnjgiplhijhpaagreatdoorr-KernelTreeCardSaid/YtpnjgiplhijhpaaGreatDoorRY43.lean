/- KernelTree: for every input the law returns true, and its argument reads as before. No condition beyond the tables of the card. -/
import Derived.Test.YtpnjgiplhijhpaaGreatDoorRY42
import Derived.Test.YtpnjgiplhijhpaaGreatDoorRTe
import Derived.Lay
set_option linter.all false
set_option maxHeartbeats 4000000
namespace Go.Proofs.YtpnjgiplhijhpaaGreatDoorR.kernelTree
open Go.Proofs.YtpnjgiplhijhpaaGreatDoorR
open Go Go.Ey Go.Ey.Pr Go.ChangeShapes Go.WideShapes Go.ChangeAt Go.RowKit
set_option linter.unusedVariables false
theorem own:ownKnob Tryz.prog.godebug=none:=by kernel_rfl
theorem laidOut:laidOutB Tryz.prog=true:=by kernel_rfl
theorem looks:true=Tryz.prog.looks []:=by kernel_rfl
theorem mainIs:Tryz.prog.mainIs=some (true,("bec974e291038a82f5e54cc4acb466b023d06ad7817e1d87de3e04d76b17b88f":String).toList):=by kernel_rfl
theorem Su:Rows.kernelTreeRow.laid=[("internal/strconv.uint64pow10",Rows.laid_internal_strconv_uint64pow10),("math/bits.deBruijn32tab",Rows.laid_math_bits_deBruijn32tab),("math/bits.deBruijn64tab",Rows.laid_math_bits_deBruijn64tab),("strings.asciiSpace",Rows.laid_strings_asciiSpace),("unicode/utf8.first",Rows.laid_unicode_utf8_first),("unicode/utf8.acceptRanges",Rows.laid_unicode_utf8_acceptRanges),("unicode.White_Space",Rows.laid_unicode_White_Space),("strconv.ErrSyntax",Rows.laid_strconv_ErrSyntax),("strconv.ErrRange",Rows.laid_strconv_ErrRange)]:=by kernel_rfl
theorem inv (W:World) (h:laidMetH Tryz.prog Rows.kernelTreeRow.laid W):bz.Inv W.heap.size W:=by
 rw [MakeChecks.laidMetH_plain _ _ _ (by kernel_rfl),Su] at h
 exact inv_of h (List.mem_of_getElem? (i:=3) (by kernel_rfl))
set_option maxRecDepth 100000 in
theorem lifted (os:Os) (started:os.Started) (H:Type) (enc:TypeId×Value->H):
  ReturnsInHanded {} Tryz.checked os 3 .any (fun w args=>(Rows.kernelTreeSpec.pre enc Tryz.prog Tryz.f3 [] false w args/\laidMetH Tryz.prog Rows.kernelTreeRow.laid w)/\sizedMet enc Tryz.prog Tryz.f3 (OpenSpec.ofChange Rows.kernelTreeSpec) false w args)
   (Rows.kernelTreeSpec.post enc Tryz.prog Tryz.f3 false true false false):=by
 refine returnsInHanded_of_change_and (C:=Tryz.checked) (X:=fun w _=>laidMetH Tryz.prog Rows.kernelTreeRow.laid w) (fun _ _ _ hh h=>h.of_heap hh) own started (by kernel_rfl) Tryz.func3
  (ChangeSpec.witness_shaped (enc:=enc) (C:=Tryz.checked) (os:=os) (X:=fun w _=>laidMetH Tryz.prog Rows.kernelTreeRow.laid w) false (World.laidAll Tryz.prog os Rows.kernelTreeRow.laid) #[.slice none 0 0] 8 (World.laidAll_os _ _ _) (World.shaped_of_ZipB (by kernel_rfl) (by kernel_rfl)) (by kernel_rfl) (by kernel_rfl) (by kernel_rfl)
   (by rw [MakeChecks.laidMetH_plain _ _ _ (by kernel_rfl)];exact laidMet_laidAll _ (by kernel_rfl) (by kernel_rfl))) ?_
 intro W base args ds gs before hval0 hW _ _ hL _;have hval:∀(j:Nat) t v,Tryz.f3.params[j]?=some t->args[j]?=some v->Value.okWide Tryz.prog W .any base t v:=hval0;have hW':=hW;obtain ⟨p,q,hA0,hV,rfl,hfz,hnd⟩:=hW;have hA:DataW.TrodAll enc Tryz.prog W 0 (fun _=>true) true Tryz.f3.params.toList args.toList ds p:=hA0
 rw [Tryz.params3] at hA hval;obtain ⟨v0,d0,hargs,rfl,h0⟩:=trodAll_one hA;obtain rfl:args=#[v0]:=by cases args;simp_all
 obtain ⟨rfl,rfl⟩:=trodVars_none hV;obtain ⟨a0,ED,cap0,rfl⟩:=okWide_slice Tryz.underlying22 (hval 0 22 v0 rfl rfl);have k0:=h0;have lt0:∀x∈p,x.block < W.heap.size:=by obtain ⟨m,hm⟩:=k0;exact DataW.trod_lt m _ _ _ hm
 obtain ⟨bs,hrep⟩:∃bs,bA W (fun _ _=>True) (.one (rows yF bs)) (.slice a0 ED cap0):=by obtain ⟨fuel,hf⟩:=h0;obtain ⟨ccs,ha,ht⟩:=sH 4 22 VW fuel _ _ hf;obtain ⟨bs,rfl⟩:=IP ht;exact ⟨bs,ha.1⟩
 clear hA0 hval0;refine ((ach bs).2 (fun _ _=>True) W [.slice a0 ED cap0] (inv W hL) ⟨hrep,trivial⟩).mono fun e W' ⟨v,he,hv,bel⟩=>?_
 subst he;have hb:v=.bool true:=hv.1;subst hb;exact ⟨_,rfl,_,_,_,[],_,[],hW',trodAll_mk1 (shut_bool Tryz.underlying4 _),(trodAll_mk1 (Below.trod laidOut (by kernel_rfl) (of_decide_eq_true (by kernel_rfl)) k0 bel lt0)),rfl,bel.frame _,fun h=>by cases h⟩
theorem over:Rows.KernelTreeSaid:=
 OpenClaim.holds_of_wide (p:=Tryz.pinned) 3 Tryz.f3 rfl rfl rfl rfl rfl rfl rfl ⟨rfl,rfl,rfl,rfl,rfl⟩ rfl rfl rfl rfl rfl Aj.named Tryz.func3 Aj.closed
  (of_decide_eq_true (by kernel_rfl)) (by unfold Func.isWrapper;first|(rw [if_pos (by decide+kernel)];kernel_rfl)|(rw [if_neg (by decide+kernel)];exact ⟨rfl,rfl⟩))
  (fun os started H enc _=>lifted os started H enc)
theorem params (f:FuncId) (fn:Func) (hf:Tryz.prog.funcNamed "lispprover/lispproverlaw22.KernelTree"=some f) (hfn:Tryz.prog.funcs[f]?=some fn):true=Tryz.prog.looks []/\∀(j:Nat) t,fn.params[j]?=some t->Tryz.prog.wantsStandIn t=false:=by
 obtain rfl:f=3:=(Option.some.inj (Aj.named.symm.trans hf)).symm;obtain rfl:fn=Tryz.f3:=(Option.some.inj (Tryz.func3.symm.trans hfn)).symm;refine ⟨looks,fun j t ht=>?_⟩
 rw [Tryz.params3] at ht;have h3:t=22:=by
  rcases j with _|j
  ·simpa using ht.symm
  ·simp at ht
 subst h3;exact (show Tryz.prog.wantsStandIn 22=false by kernel_rfl)
theorem proved:Rows.KernelTreeCardSaid:=
 Claim7.holds_tied_plain_at (p:=Tryz.pinned) (c:=Rows.kernelTreeRow) .later [] [.data,.data,.data,.data,.pinned,.data,.listed,.sentinel,.sentinel] true (true, "bec974e291038a82f5e54cc4acb466b023d06ad7817e1d87de3e04d76b17b88f") true
  over (fun _ h=>by cases h) (by kernel_rfl) (fun _ h=>by cases h) _root_.Go.Proofs.YtpnjgiplhijhpaaGreatDoorR.own.kernelTree_row_tie rfl ⟨rfl,rfl⟩ mainIs rfl
  params Aj.goesBy.symm
end Go.Proofs.YtpnjgiplhijhpaaGreatDoorR.kernelTree
