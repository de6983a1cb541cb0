/-
  Valid disks.
-/
import Derived.Test.YtfphnpelampoeaaNew
namespace Go.Proofs.Ytfphnpelampoeaa
open Go Go.Ev

def u8s (a : List Int) : List UInt8 := a.map fun b => UInt8.ofNat b.toNat

theorem bytesOf_bytesC : ∀ a : List Int, bytesOf (bytesC a) = some (u8s a)
  | [] => rfl
  | b :: a => by
    have h := bytesOf_bytesC a
    simp only [bytesC] at h
    simp only [bytesC, List.map_cons, byteC, bytesOf]
    rw [h]
    rfl

theorem toList_loop (b : ByteArray) : ∀ (n i : Nat) (r : List UInt8), b.size - i = n → ByteArray.toList.loop b i r = r.reverse ++ b.data.toList.drop i
  | 0, i, r, h => by
    rw [ByteArray.toList.loop, if_neg (by omega), List.drop_of_length_le (by simp only [Array.length_toList]; simp only [ByteArray.size] at h; omega), List.append_nil]
  | n + 1, i, r, h => by
    have hi : i < b.size := by omega
    rw [ByteArray.toList.loop, if_pos hi, toList_loop b n (i + 1) _ (by omega)]
    have hi' : i < b.data.toList.length := by simp only [Array.length_toList]; exact hi
    rw [List.drop_eq_getElem_cons hi', List.reverse_cons, List.append_assoc]
    congr 2
    simp only [ByteArray.get!, Array.getElem_toList]
    rw [getElem!_pos b.data i hi]
    rfl

theorem toList_mk (l : List UInt8) : (ByteArray.mk l.toArray).toList = l := by
  unfold ByteArray.toList
  rw [toList_loop (ByteArray.mk l.toArray) l.length 0 [] (by simp [ByteArray.size])]
  simp

theorem same_spec (a b : List Int) : RunF F 31 [.one (bytesS a), .one (bytesS b)] [.one (boolC (u8s a == u8s b))] := by
  have h := fn_gives (f := 31) rfl rfl (same_fn a b (u8s a) (u8s b) (by simp [bytesC]) (bytesOf_bytesC a) (by simp [bytesC]) (by simp [bytesC]) (bytesOf_bytesC b) (by simp [bytesC]))
  rw [toList_mk, toList_mk] at h
  exact h

structure SecOK (s : Sec) : Prop where
  sure : s.sure.length = 128
  data : s.data.length = 128
  same : s.fresh = false → s.data = s.sure

theorem valid_loop (l : List Sec) (hn : l.length ≤ 256) (hs : ∀ s, s ∈ l → SecOK s) : ∀ (j k : Nat), l.length = k + j →
    LoopF F [31, 32, 33] B12_0 (S12 (secsC l) l.length k) (.exit 0) ⟨(S12 (secsC l) l.length l.length).env ++ [(34, bD (decide ((l.length : Int) < l.length)))], [], 1, false⟩
  | 0, k, hk => by
    obtain rfl : l.length = k := by omega
    exact LoopF.out (valid_out _ _) (by simp)
  | j + 1, k, hk => by
    have hk' : k < l.length := by omega
    have ok := hs l[k] (List.getElem_mem hk')
    have at0 := secsC_at l k l[k] (List.getElem?_eq_getElem hk')
    have ih := valid_loop l hn hs j (k + 1) (by omega)
    cases hf : l[k].fresh with
    | false =>
      have h := valid_round (secsC l) l.length k l[k].sure l[k].data false true hk' (secsC_length l) rfl ok.data ok.sure rfl (by rw [at0, secC, hf]; rfl) (by
        have := same_spec l[k].data l[k].sure
        rw [ok.same hf] at this ⊢
        rw [beq_self_eq_true] at this
        exact this)
      refine LoopF.round h ?_
      rw [i64w _ (by omega) (by omega)]
      exact ih
    | true =>
      have h := valid_fresh (secsC l) l.length k l[k].sure l[k].data true hk' (secsC_length l) ok.data ok.sure rfl (by rw [at0, secC, hf]; rfl)
      refine LoopF.round h ?_
      rw [i64w _ (by omega) (by omega)]
      exact ih

theorem valid_spec (l : List Sec) (h1 : 1 ≤ l.length) (hn : l.length ≤ 256) (hs : ∀ s, s ∈ l → SecOK s) (de ar : Bool) (left : Int) (h3 : 0 ≤ left) (h4 : ar = false → left = 0) :
    RunF F 12 [dskV (secsC l) l.length de ar left] [.one (boolC true)] := by
  have hloop := valid_loop l hn hs l.length 0 (by omega)
  cases har : ar with
  | true => exact fn_gives (f := 12) rfl rfl (valid_in (secsC l) l.length de true left h1 hn h3 rfl hloop)
  | false => exact fn_gives (f := 12) rfl rfl (valid_in' (secsC l) l.length de false left h1 hn (h4 har) rfl hloop)

theorem zeroSec_ok : SecOK zeroSec := ⟨by simp [zeroSec], by simp [zeroSec], fun _ => rfl⟩

end Go.Proofs.Ytfphnpelampoeaa
