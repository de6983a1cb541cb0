/- ProcessorConstraints: for every input the law returns true, and its arguments read as before. No condition beyond the card's own tables. -/
import Derived.Test.YtpginbppmgdndaaGreatDoorY30
import Derived.Test.YtpginbppmgdndaaGreatDoorTie
import Derived.Test.YtpginbppmgdndaaGreatDoorCards
import Derived.SevenTiedAt
set_option linter.all false
namespace Go.Proofs.YtpginbppmgdndaaGreatDoor.processorConstraints
open Go.Proofs.YtpginbppmgdndaaGreatDoor
open Go Go.Ey Go.Ey.Pr Go.ChangeShapes Go.WideShapes Go.ChangeAt Go.RowKit
set_option linter.unusedVariables false
theorem own:ownKnob Tryz.prog.godebug=none:=by kernel_rfl
theorem laidOut:laidOutB Tryz.prog=true:=by kernel_rfl
theorem looks:true=Tryz.prog.looks []:=by kernel_rfl
theorem mainIs:Tryz.prog.mainIs=some (true,("25d70e701cfe16b64d4998cb0d1a585cfe32958a8e3816e2529fbcd3264aed28":String).toList):=by kernel_rfl
theorem open5:openB PP 3 5=true:=by kernel_rfl
theorem door_met (os:Os) (args:Array Value):laidMetH Tryz.prog Rows.processorConstraintsRow.laid ((World.doorLaid Tryz.prog 62 os).forCall (fun _ _=>0) ⟨#[],args,[]⟩).memory:=
 laidMetH_of_parts3 (fuel:=8) (laidMet_of_run' 8 (by kernel_rfl) (by kernel_rfl)) (by kernel_rfl) (by kernel_rfl)
theorem inv (W:World) (h:laidMetH Tryz.prog Rows.processorConstraintsRow.laid W):Keeps.Inv W.heap.size W:=by
 rw [MakeChecks.laidMetH_plain _ _ _ (by kernel_rfl)] at h
 exact inv_of h
set_option maxRecDepth 100000 in
theorem lifted (os:Os) (started:os.Started) (H:Type) (enc:TypeId×Value→H):
  ReturnsInHanded {} Tryz.checked os 5 .any (fun w args=>(Rows.processorConstraintsSpec.pre enc Tryz.prog Tryz.f5 [] false w args∧laidMetH Tryz.prog Rows.processorConstraintsRow.laid w)∧sizedMet enc Tryz.prog Tryz.f5 (OpenSpec.ofChange Rows.processorConstraintsSpec) false w args)
   (Rows.processorConstraintsSpec.post enc Tryz.prog Tryz.f5 false true false false):=by
 refine returnsInHanded_of_change_and (C:=Tryz.checked) (X:=fun w _=>laidMetH Tryz.prog Rows.processorConstraintsRow.laid w) (fun _ _ _ hh h=>h.of_heap hh) own started (by kernel_rfl) Tryz.func5
  (ChangeSpec.witness_shaped (enc:=enc) (C:=Tryz.checked) (os:=os) (X:=fun w _=>laidMetH Tryz.prog Rows.processorConstraintsRow.laid w) false (World.doorLaid Tryz.prog 62 os) #[.slice none 0 0,.int .u8 0] 8 rfl (World.shaped_of_RefB (by kernel_rfl) (by kernel_rfl)) (by kernel_rfl) (by kernel_rfl) (by kernel_rfl) (door_met os _)) ?_
 intro W base args ds gs before hval0 hW _ _ hL _
 have hval:∀(j:Nat) t v,Tryz.f5.params[j]?=some t→args[j]?=some v→Value.okWide Tryz.prog W .any base t v:=hval0
 have hW':=hW
 obtain ⟨p,q,hA0,hV,rfl,hfz,hnd⟩:=hW
 have hA:DataW.TrodAll enc Tryz.prog W 0 (fun _=>true) true Tryz.f5.params.toList args.toList ds p:=hA0
 rw [Tryz.params5] at hA hval
 obtain ⟨v0,vs0,d0,ds0,p0,q0,hargs,rfl,rfl,h0,r0⟩:=trodAll_cons hA
 obtain ⟨v1,vs1,d1,ds1,p1,q1,rfl,rfl,rfl,h1,r1⟩:=trodAll_cons r0
 obtain ⟨rfl,rfl,rfl⟩:=trodAll_nil r1
 obtain rfl:args=#[v0,v1]:=by cases args;simp_all
 obtain ⟨rfl,rfl⟩:=trodVars_none hV
 obtain ⟨a0,len0,cap0,rfl⟩:=okWide_slice Tryz.underlying22 (hval 0 22 v0 rfl rfl)
 have k0:=h0
 have lt0:∀x∈p0,x.block < W.heap.size:=by obtain ⟨m,hm⟩:=k0;exact DataW.trod_lt m _ _ _ hm
 obtain ⟨n1,rfl⟩:=okWide_int Tryz.underlying5 (hval 1 5 v1 rfl rfl)
 have k1:=h1
 have lt1:∀x∈p1,x.block < W.heap.size:=by obtain ⟨m,hm⟩:=k1;exact DataW.trod_lt m _ _ _ hm
 obtain ⟨bs,hrep⟩:∃bs,RepV W (fun _ _=>True) (.one (rows encB bs)) (.slice a0 len0 cap0):=by
  obtain ⟨fuel,hf⟩:=h0
  obtain ⟨ccs,ha,ht⟩:=open_typed 3 22 open22 fuel _ _ hf
  obtain ⟨bs,rfl,_⟩:=typed_bytes ht
  exact ⟨bs,ha.1⟩
 obtain ⟨k,hrep1⟩:∃k:UInt8,RepV W (fun _ _=>True) (.one (cu k.toNat)) (.int .u8 n1):=by
  obtain ⟨fuel,hf⟩:=h1
  obtain ⟨ccs,ha,ht⟩:=open_typed 3 5 open5 fuel _ _ hf
  obtain ⟨k,rfl⟩:=typed_u8 ht
  exact ⟨k,ha.1⟩
 clear hA0 hval0
 refine ((fok5 bs k).2 (fun _ _=>True) W [.slice a0 len0 cap0,.int .u8 n1] (inv W hL) ⟨hrep,hrep1,trivial⟩).mono fun e W' ⟨v,he,hv,bel⟩=>?_
 subst he
 have hb:v=.bool true:=hv.1
 subst hb
 exact ⟨_,rfl,_,_,_,[],_,[],hW',trodAll_mk1 (shut_bool Tryz.underlying4 _),(trodAll_cons_mk (Below.trod laidOut (by kernel_rfl) (of_decide_eq_true (by kernel_rfl)) k0 bel lt0) (trodAll_cons_mk (Below.trod laidOut (by kernel_rfl) (of_decide_eq_true (by kernel_rfl)) k1 bel lt1) trodAll_mk0)),rfl,bel.frame _,fun h=>by cases h⟩
theorem over:Rows.ProcessorConstraintsSaid:=
 OpenClaim.holds_of_wide (p:=Tryz.pinned) 5 Tryz.f5 rfl rfl rfl rfl rfl rfl rfl ⟨rfl,rfl,rfl,rfl,rfl⟩ rfl rfl rfl rfl rfl facts5.named Tryz.func5 facts5.closed
  (of_decide_eq_true (by kernel_rfl)) (by unfold Func.isWrapper;first|(rw [if_pos (by decide+kernel)];kernel_rfl)|(rw [if_neg (by decide+kernel)];exact ⟨rfl,rfl⟩))
  (fun os started H enc _=>lifted os started H enc)
theorem params (f:FuncId) (fn:Func) (hf:Tryz.prog.funcNamed "lispprover/lispproverlaw41.ProcessorConstraints"=some f) (hfn:Tryz.prog.funcs[f]?=some fn):true=Tryz.prog.looks []∧∀(j:Nat) t,fn.params[j]?=some t→Tryz.prog.wantsStandIn t=false:=by
 obtain rfl:f=5:=(Option.some.inj (facts5.named.symm.trans hf)).symm
 obtain rfl:fn=Tryz.f5:=(Option.some.inj (Tryz.func5.symm.trans hfn)).symm
 refine ⟨looks,fun j t ht=>?_⟩
 rw [Tryz.params5] at ht
 rcases j with _|_|j
 ·obtain rfl:t=22:=by simpa using ht.symm
  exact (show Tryz.prog.wantsStandIn 22=false by kernel_rfl)
 ·obtain rfl:t=5:=by simpa using ht.symm
  exact (show Tryz.prog.wantsStandIn 5=false by kernel_rfl)
 ·simp at ht
theorem proved:Rows.ProcessorConstraintsCardSaid:=
 Claim7.holds_tied_plain_at (p:=Tryz.pinned) (c:=Rows.processorConstraintsRow) .later [] [.data,.data,.data,.sentinel,.sentinel] true (true, "25d70e701cfe16b64d4998cb0d1a585cfe32958a8e3816e2529fbcd3264aed28") true
  over (fun _ h=>by cases h) (by kernel_rfl) (fun _ h=>by cases h) processorConstraints_row_tie rfl ⟨rfl,rfl⟩ mainIs rfl
  params facts5.goesBy.symm
end Go.Proofs.YtpginbppmgdndaaGreatDoor.processorConstraints
