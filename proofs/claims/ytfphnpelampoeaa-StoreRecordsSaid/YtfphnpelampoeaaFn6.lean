/-
  What Valid computes; the inner loop of scan.
-/
import Derived.Test.YtfphnpelampoeaaH7
namespace Go.Proofs.Ytfphnpelampoeaa
open Go Go.Ev

theorem valid_spec (l : List Sec) (de : Bool) (p : Option Nat) (h1 : 1 ≤ l.length) (hn : l.length ≤ 256) (hs : ∀ s, s ∈ l → SecOK s) : RunF F 12 [dskV l de (pArm p) (pLeft p)] [.one (boolC true)] := by
  have h0 : 0 ≤ pLeft p := by unfold pLeft; omega
  have h4 : pArm p = false → pLeft p = 0 := by cases p <;> simp [pArm, pLeft]
  cases har : pArm p with
  | true => have := valid_1 l de p h1 hn hs h0 h4 har; rw [har] at this; exact fn_gives (f := 12) rfl rfl this
  | false => have := valid_0 l de p h1 hn hs h0 h4 har; rw [har] at this; exact fn_gives (f := 12) rfl rfl this

/-- the bytes of data sectors -/
def tailsB (l : List Sec) : Nat → Nat → List UInt8
  | _, 0 => []
  | q, j + 1 => (secAt l q).data.drop 1 ++ tailsB l (q + 1) j

/-- data sectors lie there -/
def DataAt (l : List Sec) (q j : Nat) : Prop := ∀ i, i < j → q + i < l.length ∧ (secAt l (q + i)).data.length = 128 ∧ byteAt (secAt l (q + i)).data 0 = 68

theorem DataAt.next {l : List Sec} {q j : Nat} (h : DataAt l q (j + 1)) : DataAt l (q + 1) j := fun i hi => by
  have := h (i + 1) (by omega)
  rw [Nat.add_assoc, Nat.add_comm 1 i]
  exact this

theorem tailsB_len {l : List Sec} : ∀ {j q : Nat}, DataAt l q j → (tailsB l q j).length = 127 * j
  | 0, _, _ => rfl
  | j + 1, q, h => by
    have h0 := (h 0 (by omega)).2.1
    rw [Nat.add_zero] at h0
    rw [tailsB, List.length_append, tailsB_len h.next, List.length_drop, h0]
    omega

def S33iax (l : List Sec) (p : Option Nat) (at_ n k : Nat) (b : List UInt8) (N : Nat) : St := ⟨[(1, .loc 0 0), (5, .c nilC), (6, iD at_), (7, iD n), (9, iD k), (10, .arr 1 0 N), (11, iD k), (68, bD (decide ((k : Int) < k)))], [(0, bxD l p), (1, .arr (bytesC b) 1 0 5)], 5, false⟩
def S33ibx (l : List Sec) (p : Option Nat) (rs : List ByteArray) (NN : Nat) (at_ n k : Nat) (b : List UInt8) (N : Nat) : St := ⟨[(1, .loc 0 0), (5, .arr 1 0 NN), (6, iD at_), (7, iD n), (9, iD k), (10, .arr 2 0 N), (11, iD k), (68, bD (decide ((k : Int) < k)))], [(0, bxD l p), (1, .arr (strsC rs) 1 0 9), (2, .arr (bytesC b) 1 0 5)], 6, false⟩

theorem scan_ia (l : List Sec) (p : Option Nat) (at_ n k : Nat) (hn : l.length ≤ 256) : ∀ (j i : Nat) (b : List UInt8) (N : Nat), i + j = k → N = b.length → b.length + 127 * j ≤ 100000 → DataAt l (at_ + i) j →
    LoopF F [1, 5, 6, 7, 9, 10, 11] B33_0 (S33ia l p at_ n k b N i) (.exit 2) (S33iax l p at_ n k (b ++ tailsB l (at_ + i) j) (N + 127 * j))
  | 0, i, b, N, hk, hN, hb, hd => by
    have e : i = k := by omega
    subst e
    rw [tailsB, List.append_nil]
    exact LoopF.out (scaniao_0 l p at_ n i b N) (by simp)
  | j + 1, i, b, N, hk, hN, hb, hd => by
    have h0 := hd 0 (by omega)
    rw [Nat.add_zero] at h0
    have h := scania_0 l p at_ n k b N i hN hn (by omega) h0.1 (by omega) h0.2.1 h0.2.2
    have ih := scan_ia l p at_ n k hn j (i + 1) (b ++ (secAt l (at_ + i)).data.drop 1) (N + 127) (by omega) (by rw [List.length_append, List.length_drop]; omega) (by rw [List.length_append, List.length_drop]; omega) hd.next
    rw [List.append_assoc] at ih
    have e : (secAt l (at_ + i)).data.drop 1 ++ tailsB l (at_ + (i + 1)) j = tailsB l (at_ + i) (j + 1) := rfl
    have e2 : N + 127 + 127 * j = N + 127 * (j + 1) := by omega
    rw [e, e2] at ih
    refine LoopF.round h ?_
    rw [← bytesC_append, h0.2.1]
    exact ih

theorem scan_ib (l : List Sec) (p : Option Nat) (rs : List ByteArray) (NN : Nat) (at_ n k : Nat) (hn : l.length ≤ 256) : ∀ (j i : Nat) (b : List UInt8) (N : Nat), i + j = k → N = b.length → b.length + 127 * j ≤ 100000 → DataAt l (at_ + i) j →
    LoopF F [1, 5, 6, 7, 9, 10, 11] B33_0 (S33ib l p rs NN at_ n k b N i) (.exit 2) (S33ibx l p rs NN at_ n k (b ++ tailsB l (at_ + i) j) (N + 127 * j))
  | 0, i, b, N, hk, hN, hb, hd => by
    have e : i = k := by omega
    subst e
    rw [tailsB, List.append_nil]
    exact LoopF.out (scanibo_0 l p rs NN at_ n i b N) (by simp)
  | j + 1, i, b, N, hk, hN, hb, hd => by
    have h0 := hd 0 (by omega)
    rw [Nat.add_zero] at h0
    have h := scanib_0 l p rs NN at_ n k b N i hN hn (by omega) h0.1 (by omega) h0.2.1 h0.2.2
    have ih := scan_ib l p rs NN at_ n k hn j (i + 1) (b ++ (secAt l (at_ + i)).data.drop 1) (N + 127) (by omega) (by rw [List.length_append, List.length_drop]; omega) (by rw [List.length_append, List.length_drop]; omega) hd.next
    rw [List.append_assoc] at ih
    have e : (secAt l (at_ + i)).data.drop 1 ++ tailsB l (at_ + (i + 1)) j = tailsB l (at_ + i) (j + 1) := rfl
    have e2 : N + 127 + 127 * j = N + 127 * (j + 1) := by omega
    rw [e, e2] at ih
    refine LoopF.round h ?_
    rw [← bytesC_append, h0.2.1]
    exact ih

/-- from the head, as the outer round meets it -/
theorem scan_ia0 (l : List Sec) (p : Option Nat) (at_ n m : Nat) (b : List UInt8) (N : Nat) (hn : l.length ≤ 256) (hm : m ≤ 256) (hN : N = b.length) (hb : b.length ≤ 128) (hd : DataAt l (at_ + 1) m) :
    LoopF F [1, 5, 6, 7, 9, 10, 11] B33_0 (S33ia l p at_ n (1 + m) b N 1) (.exit 2) (S33iax l p at_ n (1 + m) (b ++ tailsB l (at_ + 1) m) (N + 127 * m)) :=
  scan_ia l p at_ n (1 + m) hn m 1 b N rfl hN (by omega) hd
theorem scan_ib0 (l : List Sec) (p : Option Nat) (rs : List ByteArray) (NN : Nat) (at_ n m : Nat) (b : List UInt8) (N : Nat) (hn : l.length ≤ 256) (hm : m ≤ 256) (hN : N = b.length) (hb : b.length ≤ 128) (hd : DataAt l (at_ + 1) m) :
    LoopF F [1, 5, 6, 7, 9, 10, 11] B33_0 (S33ib l p rs NN at_ n (1 + m) b N 1) (.exit 2) (S33ibx l p rs NN at_ n (1 + m) (b ++ tailsB l (at_ + 1) m) (N + 127 * m)) :=
  scan_ib l p rs NN at_ n (1 + m) hn m 1 b N rfl hN (by omega) hd

end Go.Proofs.Ytfphnpelampoeaa
