/-
  How many sectors a disk has.
-/
import Derived.Test.YtfphnpelampoeaaGen3
import Derived.Test.YtfphnpelampoeaaValid
import Derived.Test.YtfphnpelampoeaaAwake
namespace Go.Proofs.Ytfphnpelampoeaa
open Go Go.Ev

theorem clamp_int (m : Int) : (clamp m : Int) = (if (256 : Int) < if (1 : Int) > m then (1 : Int) else m then (256 : Int) else if (1 : Int) > m then (1 : Int) else m) := by
  unfold clamp
  split <;> split <;> omega

theorem valid_new (m : Int) : RunF F 12 [dskV (secsC (newSecs (clamp m))) (clamp m) false false 0] [.one (boolC true)] := by
  have hc : 1 ≤ clamp m ∧ clamp m ≤ 256 := by unfold clamp; omega
  have hl : (newSecs (clamp m)).length = clamp m := by simp [newSecs]
  have h := valid_spec (newSecs (clamp m)) (by omega) (by omega) (fun s hs => by
    rw [newSecs, List.mem_replicate] at hs
    rw [hs.2]
    exact zeroSec_ok) false false 0 (by omega) (fun _ => rfl)
  rw [hl] at h
  exact h

theorem sizes_spec (m : Int) : RunF F 3 [.one (intC m)] [.one (boolC true)] := by
  refine fn_gives (f := 3) rfl rfl (sizes_fn m awake_spec ?_)
  refine LoopF.round (sizes_r0 m (clamp m) _ (clamp_int m) (new_spec m) (valid_new m)) ?_
  refine LoopF.round (sizes_r1 m (clamp 0) _ (clamp_int 0) (new_spec 0) (valid_new 0)) ?_
  refine LoopF.round (sizes_r2 m (clamp 1) _ (clamp_int 1) (new_spec 1) (valid_new 1)) ?_
  refine LoopF.round (sizes_r3 m (clamp 256) _ (clamp_int 256) (new_spec 256) (valid_new 256)) ?_
  refine LoopF.round (sizes_r4 m (clamp 257) _ (clamp_int 257) (new_spec 257) (valid_new 257)) ?_
  exact LoopF.out (sizes_out m) (by simp)

end Go.Proofs.Ytfphnpelampoeaa
