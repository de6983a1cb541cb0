/-
  What scan, Open, Room and putNumber compute.
-/
import Derived.Test.YtfphnpelampoeaaH10
namespace Go.Proofs.Ytfphnpelampoeaa
open Go Go.Ev

/-- The disk holds records, up to a sector. -/
structure Holds (l : List Sec) (rs : List (List UInt8)) (e : Nat) : Prop where
  four : 4 ≤ l.length
  most : l.length ≤ 256
  secs : ∀ s ∈ l, SecOK s
  recs : Recs l 0 0 rs e
  stop : EndAt l e

theorem Holds.few {l : List Sec} {rs : List (List UInt8)} {e : Nat} (h : Holds l rs e) : rs.length ≤ 256 := by
  have h1 := h.recs.count
  have h2 := h.recs.end_le (Nat.zero_le _)
  have := h.most
  omega

theorem Holds.le {l : List Sec} {rs : List (List UInt8)} {e : Nat} (h : Holds l rs e) : e ≤ l.length := h.recs.end_le (Nat.zero_le _)

theorem strs_len (rs : List (List UInt8)) : (strs rs).length = rs.length := by simp [strs]

theorem scan_spec (l : List Sec) (p : Option Nat) {rs : List (List UInt8)} {e : Nat} (h : Holds l rs e) :
    RunF F 33 [dskV l false (pArm p) (pLeft p)] [.one (strsS (strs rs)), .one (intC e), .one (intC 0)] := by
  have hv := valid_spec l false p (by have := h.four; omega) h.most h.secs
  have hd : ∀ s ∈ l, s.data.length = 128 := fun s hs => (h.secs s hs).data
  cases rs with
  | nil =>
    have he := h.recs
    cases he
    rcases h.stop with h0 | ⟨h0, hL⟩
    · have := h.four; omega
    · exact fn_gives (f := 33) rfl rfl (scann_0 l p h.four h.most hv (scan_loop_nil l p h.most h0 hd hL))
  | cons r rs =>
    have hb := h.few
    have hL := scan_loop_cons l p h.most hd h.stop h.recs (by omega)
    have hl := strs_len (r :: rs)
    rw [strsS_pos _ (by rw [hl]; simp), hl]
    by_cases he : e = l.length
    · subst he
      simp only [S33e, if_true] at hL
      have := scanx_1 l p (strs (r :: rs)) (r :: rs).length hl.symm h.four h.most hv hL (by simp)
      rw [List.take_of_length_le (by rw [strsC_len, hl]; exact Nat.le_refl _)] at this
      exact fn_gives (f := 33) rfl rfl this
    · simp only [S33e, if_neg he] at hL
      have := scanr_1 l p (strs (r :: rs)) (r :: rs).length e hl.symm h.four h.most hv hL (by simp)
      rw [List.take_of_length_le (by rw [strsC_len, hl]; exact Nat.le_refl _)] at this
      exact fn_gives (f := 33) rfl rfl this

theorem scan_dead (l : List Sec) (ar : Bool) (le : Int) : RunF F 33 [dskV l true ar le] [.one nilC, .one (intC 0), .one (intC 51)] := fn_gives (f := 33) rfl rfl (scand_0 l ar le)
theorem scan_small (l : List Sec) (ar : Bool) (le : Int) (h : l.length < 4) : RunF F 33 [dskV l false ar le] [.one nilC, .one (intC 0), .one (intC 54)] := fn_gives (f := 33) rfl rfl (scans_0 l ar le h)

theorem open_spec (l : List Sec) (p : Option Nat) {rs : List (List UInt8)} {e : Nat} (h : Holds l rs e) : RunF F 18 [dskV l false (pArm p) (pLeft p)] [.one (strsS (strs rs)), .one (intC 0)] :=
  fn_gives (f := 18) rfl rfl (openF_0 l false (pArm p) (pLeft p) _ e 0 (scan_spec l p h))
theorem open_dead (l : List Sec) (ar : Bool) (le : Int) : RunF F 18 [dskV l true ar le] [.one nilC, .one (intC 51)] :=
  fn_gives (f := 18) rfl rfl (openF_0 l true ar le _ 0 51 (scan_dead l ar le))
theorem open_small (l : List Sec) (ar : Bool) (le : Int) (h : l.length < 4) : RunF F 18 [dskV l false ar le] [.one nilC, .one (intC 54)] :=
  fn_gives (f := 18) rfl rfl (openF_0 l false ar le _ 0 54 (scan_small l ar le h))

theorem room_spec (l : List Sec) (p : Option Nat) {rs : List (List UInt8)} {e : Nat} (h : Holds l rs e) : RunF F 21 [dskV l false (pArm p) (pLeft p)] [.one (intC (((l.length : Int) - (e : Int)) * 112))] :=
  fn_gives (f := 21) rfl rfl (roomO_0 l false (pArm p) (pLeft p) _ e h.most h.le (scan_spec l p h))
theorem room_small (l : List Sec) (ar : Bool) (le : Int) (h : l.length < 4) : RunF F 21 [dskV l false ar le] [.one (intC 0)] :=
  fn_gives (f := 21) rfl rfl (roomE_0 l false ar le _ 0 54 (by omega) (scan_small l ar le h))

def put4 (b : List UInt8) (off n : Nat) : List UInt8 := (((b.set off (UInt8.ofNat n)).set (off + 1) (UInt8.ofNat (n / 256))).set (off + 2) (UInt8.ofNat (n / 65536))).set (off + 3) (UInt8.ofNat (n / 16777216))
def sh4 (h0 : Heap) (b : List UInt8) (off n : Nat) : Heap :=
  (28, .arr (bytesC (((b.set off (UInt8.ofNat n)).set (off + 1) (UInt8.ofNat (n / 256))).set (off + 2) (UInt8.ofNat (n / 65536)))) 1 0 5) ::
  (28, .arr (bytesC ((b.set off (UInt8.ofNat n)).set (off + 1) (UInt8.ofNat (n / 256)))) 1 0 5) ::
  (28, .arr (bytesC (b.set off (UInt8.ofNat n))) 1 0 5) :: (28, .arr (bytesC b) 1 0 5) :: h0

theorem put4_len (b : List UInt8) (off n : Nat) : (put4 b off n).length = b.length := by simp [put4]

def S35x (b : List UInt8) (off len n : Nat) (h0 : Heap) (nx : Nat) : St := ⟨[(0, .arr 28 off len), (1, .c (.lit (.int .u32 n))), (5, iD 4), (6, bD (decide ((4 : Int) < 4)))], (28, .arr (bytesC (put4 b off n)) 1 0 5) :: sh4 h0 b off n, nx + 1 + 14 + 14 + 14 + 14 + 1, true⟩

theorem put_spec (b : List UInt8) (off len n : Nat) (h0 : Heap) (nx : Nat) (hl : 4 ≤ len) (ho : off + len ≤ b.length) :
    RunS F 35 [.arr 28 off len, .c (.lit (.int .u32 n))] ((28, .arr (bytesC b) 1 0 5) :: h0) nx [] ((28, .arr (bytesC (put4 b off n)) 1 0 5) :: sh4 h0 b off n) (nx + 1 + 14 + 14 + 14 + 14 + 1) := by
  have hL : LoopF F [0, 1, 5] B35_0 (S35 b off len n h0 (nx + 1) 0) (.exit 0) (S35x b off len n h0 nx) := by
    refine LoopF.round (put0_0 b off len n h0 (nx + 1) hl ho) ?_
    refine LoopF.round (put1_0 (b.set off (UInt8.ofNat n)) off len n _ (nx + 1 + 14) hl (by simpa using ho)) ?_
    refine LoopF.round (put2_0 ((b.set off (UInt8.ofNat n)).set (off + 1) (UInt8.ofNat (n / 256))) off len n _ (nx + 1 + 14 + 14) hl (by simpa using ho)) ?_
    refine LoopF.round (put3_0 (((b.set off (UInt8.ofNat n)).set (off + 1) (UInt8.ofNat (n / 256))).set (off + 2) (UInt8.ofNat (n / 65536))) off len n _ (nx + 1 + 14 + 14 + 14) hl (by simpa using ho)) ?_
    exact LoopF.out (put4x_0 (put4 b off n) off len n (sh4 h0 b off n) (nx + 1 + 14 + 14 + 14 + 14)) (by simp)
  have hc : RunC F I35.body ⟨bindArgs 0 [.arr 28 off len, .c (.lit (.int .u32 n))], (28, .arr (bytesC b) 1 0 5) :: h0, nx, true⟩ .normal (S35x b off len n h0 nx) :=
    code_gives (bs := [.ext (.exit 0) (S35x b off len n h0 nx)]) (Gives.of (bs := []) [LoopF F [0, 1, 5] B35_0 (S35 b off len n h0 (nx + 1) 0) (.exit 0) (S35x b off len n h0 nx)] (by rfl) ⟨hL, trivial⟩)
  exact RunS.fn (F := F) (f := 35) (I := I35) rfl rfl hc (by simp) rfl

theorem str_size (r : List UInt8) : ByteArray.size (str r) = r.length := by simp [str, ByteArray.size]
theorem str_data (r : List UInt8) : Array.toList (ByteArray.data (str r)) = r := by simp [str]
theorem str_ext (r : List UInt8) (a : Nat) : ByteArray.extract (str r) a r.length = str (r.drop a) := by
  have h : (ByteArray.extract (str r) a r.length).data = (str (r.drop a)).data := by
    rw [ByteArray.data_extract]
    simp only [str, List.extract_toArray, List.extract_eq_take_drop]
    rw [List.take_of_length_le (by rw [List.length_drop]; omega)]
  cases hx : ByteArray.extract (str r) a r.length
  cases hy : str (r.drop a)
  rw [hx, hy] at h
  simp only at h
  rw [h]
theorem map_bytes (l : List UInt8) : List.map (fun b => C.lit (Value.int IntKind.u8 (↑(UInt8.toNat b) : Int))) l = bytesC l := rfl
theorem bytesC_app (a b : List UInt8) : bytesC a ++ bytesC b = bytesC (a ++ b) := (bytesC_append a b).symm
theorem cons72 (l : List UInt8) : C.lit (Value.int IntKind.u8 72) :: bytesC l = bytesC (72 :: l) := rfl
theorem cons68 (l : List UInt8) : C.lit (Value.int IntKind.u8 68) :: bytesC l = bytesC (68 :: l) := rfl

end Go.Proofs.Ytfphnpelampoeaa
