/-
  The words in which disks and records are written, and how their cells lie.
-/
import Derived.Test.YtfphnpelampoeaaEvCodeM
import Derived.Test.YtfphnpelampoeaaEvRulesM
set_option linter.unusedVariables false
set_option linter.unusedSimpArgs false
namespace Go.Proofs.Ytfphnpelampoeaa
open Go Go.Ev

def nilC : C := .lit (.slice none 0 0)
def boolC (b : Bool) : C := .lit (.bool b)
def intC (n : Int) : C := .lit (.int .i64 n)
def byteC (b : UInt8) : C := .lit (.int .u8 (b.toNat : Int))
def strC (s : ByteArray) : C := .lit (.string s)
/-- bytes -/
def bytesC (l : List UInt8) : List C := l.map byteC
def bytesS (l : List UInt8) : C := .slice (bytesC l) l.length
def strsC (l : List ByteArray) : List C := l.map strC
/-- a slice of strings, nil if empty -/
def strsS (l : List ByteArray) : C := if l = [] then nilC else .slice (strsC l) l.length

/-- a sector: what is sure, its data, whether it is fresh -/
structure Sec where
  sure : List UInt8
  data : List UInt8
  fresh : Bool

def noSec : Sec := ⟨[], [], false⟩
def secAt (l : List Sec) (k : Nat) : Sec := l.getD k noSec
def byteAt (l : List UInt8) (k : Nat) : UInt8 := l.getD k 0

def secC (s : Sec) : List C := [bytesS s.sure, bytesS s.data, boolC s.fresh]
def secsC (l : List Sec) : List C := l.flatMap secC
def secsS (l : List Sec) : C := .slice (secsC l) l.length

structure Dsk where
  secs : List Sec
  dead : Bool
  armed : Bool
  left : Int

def dskV (l : List Sec) (dead armed : Bool) (left : Int) : V := .agg [secsS l, boolC dead, boolC armed, intC left]
def diskV (d : Dsk) : V := dskV d.secs d.dead d.armed d.left

def iD (n : Int) : D := .c (intC n)
def bD (b : Bool) : D := .c (boolC b)

theorem secsC_nil : secsC [] = [] := rfl
theorem secsC_cons (s : Sec) (l : List Sec) : secsC (s :: l) = secC s ++ secsC l := rfl
theorem secsC_append (a b : List Sec) : secsC (a ++ b) = secsC a ++ secsC b := by simp [secsC]
theorem secC_len (s : Sec) : (secC s).length = 3 := rfl
theorem secsC_len : ∀ l : List Sec, (secsC l).length = l.length * 3
  | [] => rfl
  | s :: l => by rw [secsC_cons, List.length_append, secsC_len l, secC_len, List.length_cons]; omega

theorem secsC_drop : ∀ (k : Nat) (l : List Sec), (secsC l).drop (k * 3) = secsC (l.drop k)
  | 0, l => by simp
  | k + 1, [] => by simp [secsC]
  | k + 1, s :: l => by
    rw [secsC_cons, List.drop_succ_cons, ← secsC_drop k l, List.drop_append, secC_len, List.drop_eq_nil_of_le (by rw [secC_len]; omega)]
    simp only [List.nil_append]
    congr 1
    omega

theorem secsC_take : ∀ (k : Nat) (l : List Sec), (secsC l).take (k * 3) = secsC (l.take k)
  | 0, l => by simp [secsC]
  | k + 1, [] => by simp [secsC]
  | k + 1, s :: l => by
    rw [secsC_cons, List.take_succ_cons, secsC_cons, ← secsC_take k l, List.take_append, secC_len, List.take_of_length_le (by rw [secC_len]; omega)]
    congr 2
    omega

theorem drop_getD {α : Type} (d : α) : ∀ (k : Nat) (l : List α), k < l.length → l.drop k = l.getD k d :: l.drop (k + 1)
  | 0, a :: l, _ => by simp
  | k + 1, a :: l, h => by
    rw [List.drop_succ_cons, drop_getD d k l (by simpa using h)]
    simp
  | _, [], h => by simp at h

theorem secsC_at (k : Nat) (l : List Sec) (h : k < l.length) : (secsC l).drop (k * 3) = secC (l.getD k noSec) ++ secsC (l.drop (k + 1)) := by
  rw [secsC_drop, drop_getD noSec k l h, secsC_cons]

theorem secsC_sec (k : Nat) (l : List Sec) (h : k < l.length) : ((secsC l).drop (k * 3)).take 3 = [bytesS (secAt l k).sure, bytesS (secAt l k).data, C.lit (.bool (secAt l k).fresh)] := by
  rw [secsC_at k l h, List.take_append, secC_len]
  simp [secC, secAt, boolC]

theorem secsC_get (k j : Nat) (l : List Sec) (h : k < l.length) (hj : j < 3) : (secsC l)[k * 3 + j]? = (secC (secAt l k))[j]? := by
  rw [← List.getElem?_drop, secsC_at k l h, List.getElem?_append_left (by rw [secC_len]; exact hj)]
  rfl

theorem secsC_get0 (k : Nat) (l : List Sec) (h : k < l.length) : (secsC l)[k * 3]? = some (bytesS (secAt l k).sure) := secsC_get k 0 l h (by omega)
theorem secsC_get1 (k : Nat) (l : List Sec) (h : k < l.length) : (secsC l)[k * 3 + 1]? = some (bytesS (secAt l k).data) := secsC_get k 1 l h (by omega)
theorem secsC_get2 (k : Nat) (l : List Sec) (h : k < l.length) : (secsC l)[k * 3 + 2]? = some (C.lit (.bool (secAt l k).fresh)) := secsC_get k 2 l h (by omega)

theorem set_getD {α : Type} (d x : α) : ∀ (k : Nat) (l : List α), k < l.length → l.set k x = l.take k ++ x :: l.drop (k + 1)
  | 0, a :: l, _ => by simp
  | k + 1, a :: l, h => by
    rw [List.set_cons_succ, set_getD d x k l (by simpa using h)]
    simp
  | _, [], h => by simp at h

theorem secsC_put (k j : Nat) (l : List Sec) (h : k < l.length) (hj : j < 3) (x : C) (s : Sec) (hs : secC s = (secC (secAt l k)).take j ++ [x] ++ (secC (secAt l k)).drop (j + 1)) :
    (secsC l).take (k * 3 + j) ++ [x] ++ (secsC l).drop (k * 3 + j + 1) = secsC (l.set k s) := by
  rw [set_getD noSec s k l h, secsC_append, secsC_cons, hs, ← secsC_take]
  have e1 : (secsC l).take (k * 3 + j) = (secsC l).take (k * 3) ++ (secC (secAt l k)).take j := by
    rw [List.take_add, secsC_at k l h, List.take_append_of_le_length (by rw [secC_len]; omega)]
    rfl
  have e2 : (secsC l).drop (k * 3 + j + 1) = (secC (secAt l k)).drop (j + 1) ++ secsC (l.drop (k + 1)) := by
    rw [Nat.add_assoc, ← List.drop_drop, secsC_at k l h, List.drop_append_of_le_length (by rw [secC_len]; omega)]
    rfl
  rw [e1, e2]
  simp

theorem secsC_put0 (k : Nat) (l : List Sec) (h : k < l.length) (b : List UInt8) :
    (secsC l).take (k * 3) ++ bytesS b :: (secsC l).drop (k * 3 + 1) = secsC (l.set k { secAt l k with sure := b }) := by
  have := secsC_put k 0 l h (by omega) (bytesS b) { secAt l k with sure := b } rfl
  simpa using this
theorem secsC_put1 (k : Nat) (l : List Sec) (h : k < l.length) (b : List UInt8) :
    (secsC l).take (k * 3 + 1) ++ bytesS b :: (secsC l).drop (k * 3 + 2) = secsC (l.set k { secAt l k with data := b }) := by
  have := secsC_put k 1 l h (by omega) (bytesS b) { secAt l k with data := b } rfl
  simpa using this
theorem secsC_put2 (k : Nat) (l : List Sec) (h : k < l.length) (b : Bool) :
    (secsC l).take (k * 3 + 2) ++ C.lit (.bool b) :: (secsC l).drop (k * 3 + 3) = secsC (l.set k { secAt l k with fresh := b }) := by
  have := secsC_put k 2 l h (by omega) (C.lit (.bool b)) { secAt l k with fresh := b } rfl
  simpa using this

theorem bytesC_len (l : List UInt8) : (bytesC l).length = l.length := by simp [bytesC]
theorem bytesC_append (a b : List UInt8) : bytesC (a ++ b) = bytesC a ++ bytesC b := by simp [bytesC]
theorem bytesC_take (k : Nat) (l : List UInt8) : (bytesC l).take k = bytesC (l.take k) := by simp [bytesC]
theorem bytesC_drop (k : Nat) (l : List UInt8) : (bytesC l).drop k = bytesC (l.drop k) := by simp [bytesC]
theorem bytesC_get (k : Nat) (l : List UInt8) (h : k < l.length) : (bytesC l)[k]? = some (byteC (byteAt l k)) := by
  simp [byteAt, bytesC, List.getD, List.getElem?_eq_getElem h]
theorem bytesC_set (k : Nat) (l : List UInt8) (h : k < l.length) (b : UInt8) : (bytesC l).take k ++ byteC b :: (bytesC l).drop (k + 1) = bytesC (l.set k b) := by
  rw [set_getD 0 b k l h, bytesC_append, ← bytesC_take, bytesC_drop]
  rfl
theorem slice_bytes (l : List UInt8) (n : Nat) (h : l.length = n) : C.slice (bytesC l) n = bytesS l := by subst h; rfl
theorem slice_secs (l : List Sec) (n : Nat) (h : l.length = n) : C.slice (secsC l) n = secsS l := by subst h; rfl
theorem bytesOf_bytesC : ∀ l : List UInt8, bytesOf (bytesC l) = some l
  | [] => rfl
  | b :: l => by
    show bytesOf (byteC b :: bytesC l) = _
    simp [byteC, bytesOf, bytesOf_bytesC l]
theorem zeros_bytes : ∀ n : Nat, zeros [.int .u8 0] n = bytesC (List.replicate n 0)
  | 0 => rfl
  | n + 1 => by
    rw [zeros, zeros_bytes n, List.replicate_succ]
    rfl
/-- a string's bytes, as append and copy take them -/
theorem str_bytes (s : ByteArray) : (s.data.toList.map fun b => C.lit (.int .u8 (b.toNat : Int))) = bytesC s.data.toList := rfl

theorem strsC_len (l : List ByteArray) : (strsC l).length = l.length := by simp [strsC]
theorem strsC_append (a b : List ByteArray) : strsC (a ++ b) = strsC a ++ strsC b := by simp [strsC]

theorem secAt_set (l : List Sec) (k : Nat) (s : Sec) (h : k < l.length) : secAt (l.set k s) k = s := by
  simp [secAt, List.getD_eq_getElem?_getD, h]
theorem wrap_i64 (n : Int) (h : -9223372036854775808 ≤ n ∧ n < 9223372036854775808) : IntKind.wrap .i64 n = n := by
  unfold IntKind.wrap
  simp [IntKind.signed, IntKind.bits]
  omega
theorem cast_succ (k : Nat) : ((k : Int) + 1) = ((k + 1 : Nat) : Int) := rfl

end Go.Proofs.Ytfphnpelampoeaa

