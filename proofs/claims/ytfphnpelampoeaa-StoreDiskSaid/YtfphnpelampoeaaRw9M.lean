/-
  StoreValid: the part behind the new disk.
-/
import Derived.Test.YtfphnpelampoeaaRw8M
set_option linter.unusedVariables false
set_option linter.unusedSimpArgs false
namespace Go.Proofs.Ytfphnpelampoeaa.Rw
open Go Go.Ez

theorem bytesC_set (l : List UInt8) (j : Nat) (h : j < l.length) (b : UInt8) : (bytesC l).take j ++ byteC b :: (bytesC l).drop (j + 1) = bytesC (l.set j b) := by
  rw [List.set_eq_take_append_cons_drop, if_pos h]
  simp [bytesC]

theorem rows_mid {h : Heap} {i1 i2 : List (Nat × Nat)} {l1 l2 : List Sec} {d1 d2 d3 : D} {s : Sec} (h1 : Held h i1 l1) (h2 : Held h i2 l2) (o1 : Okay l1) (o2 : Okay l2) (c1 : Cont h d1 s.sure) (c2 : Cont h d2 s.data) (c3 : d3 = .c (boolC s.fresh)) :
    RowsC h (rowD i1 l1 ++ d1 :: d2 :: d3 :: rowD i2 l2) (l1 ++ s :: l2) := (held_rows h1 o1).app (show RowsC h (d1 :: d2 :: d3 :: rowD i2 l2) (s :: l2) from ⟨c1, c2, c3, held_rows h2 o2⟩)

theorem cont_all {h : Heap} {id fz ety : Nat} {b : List UInt8} (hg : getH h id = .arr (bytesC b) 1 fz ety) (hl : b.length = 128) : Cont h (.arr id 0 128) b :=
  ⟨id, 0, _, _, _, by rw [hl], hg, by rw [bytesC_len]; omega, by rw [List.drop_zero, List.take_of_length_le (by rw [bytesC_len]; omega)]⟩

end Go.Proofs.Ytfphnpelampoeaa.Rw

