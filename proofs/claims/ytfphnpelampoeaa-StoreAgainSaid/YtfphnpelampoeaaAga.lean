/-
  StoreAgain returns true.
-/
import Derived.Test.YtfphnpelampoeaaK5
namespace Go.Proofs.Ytfphnpelampoeaa
open Go Go.Ev

def Fit8 (z : List Int) : Prop := ∀ n ∈ z, 0 ≤ n ∧ n < 256

theorem wrap_u16_fit (x : Int) : 0 ≤ IntKind.wrap .u16 x ∧ IntKind.wrap .u16 x < 65536 := by
  have h : IntKind.wrap .u16 x = x % 65536 := by
    unfold IntKind.wrap
    simp [IntKind.signed, IntKind.bits]
  omega

theorem aga_loop (z : List Int) (hz : z.length ≤ 10) (hf : Fit8 z) (kp tn : Int) : ∀ (m i : Nat) (L rs tail : List (List UInt8)), i + m = z.length → rs.length ≤ i → Laid L rs tail → L.length = 150 → 150 ≤ tail.length + 8 * i →
    ∃ l' hv', LoopF F [0, 1, 2, 7, 8, 9] B6_0 (S6 (.slice (u8sC z) z.length) kp tn (L.map clean) (strsS (strs rs)) i) (.exit 0) (S6x (.slice (u8sC z) z.length) kp tn l' hv' (z.length : Nat))
  | 0, i, L, rs, tail, hi, hr, hL, hl, ht => by
    have e : i = z.length := by omega
    subst e
    exact ⟨_, _, LoopF.out (ag_o_0 kp tn (L.map clean) (u8sC z) (strsS (strs rs)) z.length) (by simp)⟩
  | m + 1, i, L, rs, tail, hi, hr, hL, hl, ht => by
    have hfi := hf _ (numAt_mem z i (by omega))
    obtain ⟨r, hr9, hrec⟩ := record_spec i _ (wrap_u16_fit (40 * (i : Int) + numAt z i))
    have hn := nData_900 r.length hr9
    have hmod : Int.tmod (numAt z i) 9 = numAt z i % 9 := Int.tmod_eq_emod_of_nonneg hfi.1
    have hcut := cut_at (L.map clean) (IntKind.wrap .i64 (Int.tmod (numAt z i) 9)) (numAt z i % 9).toNat (by rw [hmod, wrap_i64 _ (by omega)]; omega)
    obtain ⟨l1, p1, dead, L2, rs2, tail2, h1, h2, h3, h4, h5⟩ := append_cut hL (by omega) (by omega) (numAt z i % 9).toNat (by omega) (kpS kp i) (tnS tn i) r (by omega) (by omega)
    have hrs2 : rs2.length ≤ i + 1 := by
      rcases h5 with ⟨_, h, _⟩ | ⟨h, _⟩
      · rw [h]; omega
      · rw [h, List.length_append, List.length_singleton]; omega
    obtain ⟨l', hv', ih⟩ := aga_loop z hz hf kp tn m (i + 1) L2 rs2 tail2 (by omega) hrs2 h3 (by omega) (by rcases h5 with ⟨_, _, h⟩ | ⟨_, h⟩ <;> omega)
    refine ⟨l', hv', ?_⟩
    rcases Nat.eq_zero_or_pos rs.length with h0 | h0
    · have hrs : rs = [] := List.eq_nil_of_length_eq_zero h0
      subst hrs
      rcases h5 with ⟨rfl, rfl, _⟩ | ⟨rfl, _⟩
      · have hO := open_laid0 h3 (by omega) (by omega)
        have hS := same_nf [str r] (by simp)
        exact LoopF.round (ag_nh_0 z hz i (by omega) hfi kp tn _ l1 _ true p1 r _ hrec hcut h1 h2 hO hS same_nn) ih
      · have hO := open_laid h3 (by omega) (by omega) (by simp)
        have hS := same_t (strs [r]) [str r] rfl (by simp [strs]) (by simp [strs])
        have h := ag_nm_0 z hz i (by omega) hfi kp tn _ l1 _ dead p1 r _ hrec hcut _ h1 h2 (strs [r]) 1 rfl (by omega) (by omega) hO hS
        exact LoopF.round h ih
    · have hlenr := strs_len rs
      rw [strsS_pos (strs rs) (by omega)]
      rcases h5 with ⟨rfl, rfl, _⟩ | ⟨rfl, _⟩
      · have hO := open_laid h3 (by omega) (by omega) h0
        have hS := same_f (strs rs2) (strs rs2 ++ [str r]) (by simp) (by omega) (by simp)
        have e : (strs rs2 ++ [str r]).length = (strs rs2).length + 1 := by simp
        rw [e] at hS
        have hS2 := same_t (strs rs2) (strs rs2) rfl (by omega) (by omega)
        have h := ag_sh_0 z hz i (by omega) hfi kp tn _ l1 _ true p1 r _ hrec hcut (strs rs2) (strs rs2).length rfl (by omega) (by omega) h1 h2 (strs rs2) (strs rs2).length rfl (by omega) (by omega) hO hS hS2
        rw [strsS_pos (strs rs2) (by omega)] at ih
        exact LoopF.round h ih
      · have hlen2 := strs_len (rs ++ [r])
        have hO := open_laid h3 (by omega) (by omega) (by simp)
        have hS := same_t (strs (rs ++ [r])) (strs rs ++ [str r]) (strs_app rs r) (by rw [hlen2]; simp) (by rw [hlen2]; simp; omega)
        have e : (strs rs ++ [str r]).length = (strs rs).length + 1 := by simp
        rw [e] at hS
        have hl2 : (rs ++ [r]).length = rs.length + 1 := by simp
        have h := ag_sm_0 z hz i (by omega) hfi kp tn _ l1 _ dead p1 r _ hrec hcut (strs rs) (strs rs).length rfl (by omega) (by omega) _ h1 h2 (strs (rs ++ [r])) (strs (rs ++ [r])).length rfl (by omega) (by omega) hO hS
        rw [strsS_pos (strs (rs ++ [r])) (by omega)] at ih
        exact LoopF.round h ih

theorem again_spec (lc : C) (z : List Int) (hlc : (lc = nilC ∧ z = []) ∨ lc = .slice (u8sC z) z.length) (hf : Fit8 z) (kp tn : Int) :
    RunF F 6 [.one lc, .one (.lit (.int .u64 kp)), .one (.lit (.int .u64 tn))] [.one (boolC true)] := by
  rcases hlc with ⟨rfl, rfl⟩ | rfl
  · exact fn_gives (f := 6) rfl rfl (ag_fz_0 kp tn _ _ 0 (LoopF.out (ag_oz_0 kp tn (newSecs 150)) (by simp)))
  · by_cases hlong : 10 < z.length
    · exact fn_gives (f := 6) rfl rfl (ag_l_0 z hlong kp tn)
    · obtain ⟨l', hv', h⟩ := aga_loop z (by omega) hf kp tn z.length 0 _ [] _ (by omega) (by simp) (laid_new 150) List.length_replicate (by rw [List.length_replicate]; omega)
      rw [← newSecs_clean] at h
      exact fn_gives (f := 6) rfl rfl (ag_f_0 z (by omega) kp tn l' hv' (z.length : Nat) h)

end Go.Proofs.Ytfphnpelampoeaa
