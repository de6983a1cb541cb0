/-
  StoreErrors returns true.
-/
import Derived.Test.YtfphnpelampoeaaK1
namespace Go.Proofs.Ytfphnpelampoeaa
open Go Go.Ev

theorem errors_spec (n k : Int) (hn : 0 ≤ n ∧ n < 256) : RunF F 8 [.one (.lit (.int .u8 n)), .one (intC k)] [.one (boolC true)] := by
  obtain ⟨q, h4, hm, hnew⟩ := new_more n hn
  obtain ⟨l', hbig⟩ := big_new (zs 4000) (zs_len 4000)
  exact fn_gives (f := 8) rfl rfl (errs_0 n k hn q h4 hm hnew l' hbig)

end Go.Proofs.Ytfphnpelampoeaa
