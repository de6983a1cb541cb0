/-
  StoreRecords returns true.
-/
import Derived.Test.YtfphnpelampoeaaK7
namespace Go.Proofs.Ytfphnpelampoeaa
open Go Go.Ev

def FitU16 (z : List Int) : Prop := ∀ n ∈ z, 0 ≤ n ∧ n < 65536

theorem room_laid {L rs tail : List (List UInt8)} (h : Laid L rs tail) (h4 : 4 ≤ L.length) (hm : L.length ≤ 256) : RunF F 21 [dskV (L.map clean) false false 0] [.one (intC ((tail.length : Int) * 112))] := by
  have := room_spec (L.map clean) none (h.holds h4 hm)
  have e : (((L.map clean).length : Int) - ((encFrom 0 rs).length : Int)) = (tail.length : Int) := by
    rw [List.length_map, h.eq, List.length_append]
    omega
  rw [e] at this
  exact this

theorem full_laid {L rs tail : List (List UInt8)} (h : Laid L rs tail) (h4 : 4 ≤ L.length) (hm : L.length ≤ 256) (r : List UInt8) (hr : r.length ≤ 4000) (hk : tail.length < 1 + nData r.length) : RunF F 16 [dskV (L.map clean) false false 0, .one (strC (str r))] [dskV (L.map clean) false false 0, .one (intC 53)] := by
  refine append_full (L.map clean) none (h.holds h4 hm) r hr ?_
  rw [List.length_map, h.eq, List.length_append]
  omega

/-- one round: the disk and the records behind it, whichever way it goes -/
theorem rcd_step {L rs tail : List (List UInt8)} (hL : Laid L rs tail) (h4 : 4 ≤ L.length) (hm : L.length ≤ 256) (r : List UInt8) (hr9 : r.length < 900) :
    (1 + nData r.length ≤ tail.length ∧ ∃ L2 tail2, RunF F 16 [dskV (L.map clean) false false 0, .one (strC (str r))] [dskV (L2.map clean) false false 0, .one (intC 0)] ∧ Laid L2 (rs ++ [r]) tail2 ∧ L2.length = L.length ∧
      ((tail.length : Int) * 112 - (r.length : Int) - 128 ≤ (tail2.length : Int) * 112) ∧ tail2.length ≤ 256) ∨
    (RunF F 16 [dskV (L.map clean) false false 0, .one (strC (str r))] [dskV (L.map clean) false false 0, .one (intC 53)] ∧ (tail.length : Int) * 112 < (r.length : Int) + 16) := by
  have hlen : L.length = (encFrom 0 rs).length + tail.length := by rw [hL.eq, List.length_append]
  by_cases hk : 1 + nData r.length ≤ tail.length
  · left
    obtain ⟨L2, tail2, ha, hL2, hl2, ht2⟩ := append_plain hL h4 hm r (by omega) hk
    refine ⟨hk, L2, tail2, ha, hL2, hl2, ?_, by omega⟩
    unfold nData at ht2
    omega
  · right
    refine ⟨full_laid hL h4 hm r (by omega) (by omega), ?_⟩
    unfold nData at hk
    omega

theorem rcd_loop_s (z : List Int) (hz : z.length ≤ 12) (hf : FitU16 z) (kp tn : Int) (n : Nat) (h4 : 4 ≤ n) (hm : n ≤ 256) : ∀ (m i : Nat) (L rs tail : List (List UInt8)), i + m = z.length → rs.length ≤ i → 0 < rs.length → Laid L rs tail → L.length = n →
    ∃ L' rs' tail', LoopF F [1, 2, 3, 10, 11, 12] B7_0 (S7t (.slice (u16sC z) z.length) kp tn (L.map clean) (strs rs) rs.length i) (.exit 0) (S7sx (.slice (u16sC z) z.length) kp tn (L'.map clean) (strs rs') rs'.length (z.length : Nat)) ∧ Laid L' rs' tail' ∧ L'.length = n ∧ 0 < rs'.length ∧ rs'.length ≤ z.length
  | 0, i, L, rs, tail, hi, hr, h0, hL, hl => by
    have e : i = z.length := by omega
    subst e
    exact ⟨L, rs, tail, LoopF.out (rc_os_0 kp tn (L.map clean) (u16sC z) (strs rs) rs.length z.length) (by simp), hL, hl, h0, hr⟩
  | m + 1, i, L, rs, tail, hi, hr, h0, hL, hl => by
    obtain ⟨r, hr9, hrec⟩ := record_spec i (numAt z i) (hf _ (numAt_mem z i (by omega)))
    have hlen : L.length = (encFrom 0 rs).length + tail.length := by rw [hL.eq, List.length_append]
    have hR := room_laid hL (by omega) (by omega)
    have hsl := strs_len rs
    rcases rcd_step hL (by omega) (by omega) r hr9 with ⟨hk, L2, tail2, ha, hL2, hl2, hro, ht2⟩ | ⟨ha, hfull⟩
    · obtain ⟨L', rs', tail', ih, i2⟩ := rcd_loop_s z hz hf kp tn n h4 hm m (i + 1) L2 (rs ++ [r]) tail2 (by omega) (by simp; omega) (by simp) hL2 (by omega)
      refine ⟨L', rs', tail', ?_, i2⟩
      have hR2 := room_laid hL2 (by omega) (by omega)
      have hO := open_laid hL2 (by omega) (by omega) (by simp)
      have hl3 : (strs (rs ++ [r])).length = rs.length + 1 := by rw [strs_len]; simp
      have hS := same_t (strs (rs ++ [r])) (strs rs ++ [str r]) (strs_app rs r) (by omega) (by omega)
      have e : (strs rs ++ [str r]).length = rs.length + 1 := by simp [strs]
      rw [e, hl3] at hS
      rw [hl3] at hO
      have e2 : (rs ++ [r]).length = rs.length + 1 := by simp
      rw [e2, strs_app] at ih
      by_cases h3 : Int.tmod (i : Int) 3 = 2
      · exact LoopF.round (rc_soc_0 z hz i (by omega) kp tn _ r _ hr9 (by omega) hrec hR (strs rs) rs.length hsl h0 (by omega) _ _ hro (by omega) ha hR2 (strs (rs ++ [r])) (rs.length + 1) hl3 (by omega) (by omega) hO hS h3 (crash_rest hL2 (by omega) (by omega) kp tn)) ih
      · exact LoopF.round (rc_son_0 z hz i (by omega) kp tn _ r _ hr9 (by omega) hrec hR (strs rs) rs.length hsl h0 (by omega) _ _ hro (by omega) ha hR2 (strs (rs ++ [r])) (rs.length + 1) hl3 (by omega) (by omega) hO hS h3) ih
    · obtain ⟨L', rs', tail', ih, i2⟩ := rcd_loop_s z hz hf kp tn n h4 hm m (i + 1) L rs tail (by omega) (by omega) h0 hL hl
      refine ⟨L', rs', tail', ?_, i2⟩
      have hO := open_laid hL (by omega) (by omega) h0
      have hS := same_t (strs rs) (strs rs) rfl (by omega) (by omega)
      rw [hsl] at hO hS
      by_cases h3 : Int.tmod (i : Int) 3 = 2
      · exact LoopF.round (rc_sfc_0 z hz i (by omega) kp tn _ r _ hr9 (by omega) hrec hR (strs rs) rs.length hsl h0 (by omega) ha hfull (strs rs) rs.length hsl (by omega) h0 hO hS h3 (crash_rest hL (by omega) (by omega) kp tn)) ih
      · exact LoopF.round (rc_sfn_0 z hz i (by omega) kp tn _ r _ hr9 (by omega) hrec hR (strs rs) rs.length hsl h0 (by omega) ha hfull (strs rs) rs.length hsl (by omega) h0 hO hS h3) ih

theorem rcd_loop_n (z : List Int) (hz : z.length ≤ 12) (hf : FitU16 z) (kp tn : Int) (n : Nat) (h4 : 4 ≤ n) (hm : n ≤ 256) : ∀ (m i : Nat) (L tail : List (List UInt8)), i + m = z.length → Laid L [] tail → L.length = n →
    (∃ L' tail', LoopF F [1, 2, 3, 10, 11, 12] B7_0 (S7n (.slice (u16sC z) z.length) kp tn (L.map clean) i) (.exit 0) (S7nx (.slice (u16sC z) z.length) kp tn (L'.map clean) (z.length : Nat)) ∧ Laid L' [] tail' ∧ L'.length = n) ∨
    (∃ L' rs' tail', LoopF F [1, 2, 3, 10, 11, 12] B7_0 (S7n (.slice (u16sC z) z.length) kp tn (L.map clean) i) (.exit 0) (S7sx (.slice (u16sC z) z.length) kp tn (L'.map clean) (strs rs') rs'.length (z.length : Nat)) ∧ Laid L' rs' tail' ∧ L'.length = n ∧ 0 < rs'.length ∧ rs'.length ≤ z.length)
  | 0, i, L, tail, hi, hL, hl => by
    have e : i = z.length := by omega
    subst e
    exact .inl ⟨L, tail, LoopF.out (rc_on_0 kp tn (L.map clean) (u16sC z) z.length) (by simp), hL, hl⟩
  | m + 1, i, L, tail, hi, hL, hl => by
    obtain ⟨r, hr9, hrec⟩ := record_spec i (numAt z i) (hf _ (numAt_mem z i (by omega)))
    have hlen : L.length = (encFrom 0 []).length + tail.length := by rw [hL.eq, List.length_append]
    have hR := room_laid hL (by omega) (by omega)
    rcases rcd_step hL (by omega) (by omega) r hr9 with ⟨hk, L2, tail2, ha, hL2, hl2, hro, ht2⟩ | ⟨ha, hfull⟩
    · right
      obtain ⟨L', rs', tail', ih, i2⟩ := rcd_loop_s z hz hf kp tn n h4 hm m (i + 1) L2 [r] tail2 (by omega) (by simp) (by simp) hL2 (by omega)
      refine ⟨L', rs', tail', ?_, i2⟩
      have hR2 := room_laid hL2 (by omega) (by omega)
      have hO := open_laid hL2 (by omega) (by omega) (by simp)
      have hS := same_t (strs [r]) [str r] rfl (by simp [strs]) (by simp [strs])
      by_cases h3 : Int.tmod (i : Int) 3 = 2
      · exact LoopF.round (rc_noc_0 z hz i (by omega) kp tn _ r _ hr9 (by omega) hrec hR _ _ hro (by omega) ha hR2 (strs [r]) 1 rfl (by omega) (by omega) hO hS h3 (crash_rest hL2 (by omega) (by omega) kp tn)) ih
      · exact LoopF.round (rc_non_0 z hz i (by omega) kp tn _ r _ hr9 (by omega) hrec hR _ _ hro (by omega) ha hR2 (strs [r]) 1 rfl (by omega) (by omega) hO hS h3) ih
    · have hO := open_laid0 hL (by omega) (by omega)
      have step : ∀ x s', LoopF F [1, 2, 3, 10, 11, 12] B7_0 (S7n (.slice (u16sC z) z.length) kp tn (L.map clean) (i + 1)) x s' → LoopF F [1, 2, 3, 10, 11, 12] B7_0 (S7n (.slice (u16sC z) z.length) kp tn (L.map clean) i) x s' := by
        intro x s' h
        by_cases h3 : Int.tmod (i : Int) 3 = 2
        · exact LoopF.round (rc_nfc_0 z hz i (by omega) kp tn _ r _ hr9 (by omega) hrec hR ha hfull hO same_nn h3 (crash_rest hL (by omega) (by omega) kp tn)) h
        · exact LoopF.round (rc_nfn_0 z hz i (by omega) kp tn _ r _ hr9 (by omega) hrec hR ha hfull hO same_nn h3) h
      rcases rcd_loop_n z hz hf kp tn n h4 hm m (i + 1) L tail (by omega) hL hl with ⟨L', tail', ih, i2⟩ | ⟨L', rs', tail', ih, i2⟩
      · exact .inl ⟨L', tail', step _ _ ih, i2⟩
      · exact .inr ⟨L', rs', tail', step _ _ ih, i2⟩

theorem records_spec (lc : C) (z : List Int) (hlc : (lc = nilC ∧ z = []) ∨ lc = .slice (u16sC z) z.length) (hf : FitU16 z) (se kp tn : Int) (hse : 0 ≤ se ∧ se < 256) :
    RunF F 7 [.one (u8C se), .one lc, .one (.lit (.int .u64 kp)), .one (.lit (.int .u64 tn))] [.one (boolC true)] := by
  have hmod : Int.tmod se 100 = se % 100 := Int.tmod_eq_emod_of_nonneg hse.1
  have hw : IntKind.wrap IntKind.i64 ((4 : Int) + IntKind.wrap IntKind.i64 (Int.tmod se 100)) = ((4 + (se % 100).toNat : Nat) : Int) := by
    rw [hmod, wrap_i64 (se % 100) (by omega), wrap_i64 _ (by omega)]
    omega
  generalize hn : 4 + (se % 100).toNat = n at hw
  have h4 : 4 ≤ n := by omega
  have hm : n ≤ 256 := by omega
  have hnew : RunF F 11 [.one (intC (IntKind.wrap IntKind.i64 ((4 : Int) + IntKind.wrap IntKind.i64 (Int.tmod se 100))))] [dskV (newSecs n) false false 0] := new_at _ n hw (by omega) hm
  have hR := room_laid (laid_new n) (by simpa using h4) (by simpa using hm)
  rw [← newSecs_clean, List.length_replicate] at hR
  have h3 : IntKind.wrap IntKind.i64 (Int.tdiv (IntKind.wrap IntKind.i64 (IntKind.wrap IntKind.i64 (IntKind.wrap IntKind.i64 ((4 : Int) + IntKind.wrap IntKind.i64 (Int.tmod se 100)) - 4) * 128)) 2) ≤ (n : Int) * 112 := by
    rw [hw, wrap_i64 ((n : Int) - 4) (by omega), wrap_i64 (((n : Int) - 4) * 128) (by omega), Int.tdiv_eq_ediv_of_nonneg (by omega), wrap_i64 _ (by omega)]
    omega
  rcases hlc with ⟨rfl, rfl⟩ | rfl
  · have hC := crash_rest (laid_new n) (by simpa using h4) (by simpa using hm) kp tn
    rw [← newSecs_clean] at hC
    have hO := open_new n h4 hm
    exact fn_gives (f := 7) rfl rfl (rf_nz_0 se kp tn (newSecs n) (newSecs n) _ 0 hnew hR h3 hC (LoopF.out (rc_oz_0 kp tn (newSecs n)) (by simp)) hO same_nn)
  · by_cases hlong : 12 < z.length
    · exact fn_gives (f := 7) rfl rfl (rf_l_0 se kp tn (u16sC z) z.length hlong)
    · rcases rcd_loop_n z (by omega) hf kp tn n h4 hm z.length 0 _ _ (by omega) (laid_new n) List.length_replicate with ⟨L', tail', h, hL, hl⟩ | ⟨L', rs', tail', h, hL, hl, h0, hle⟩
      · rw [← newSecs_clean] at h
        exact fn_gives (f := 7) rfl rfl (rf_nc_0 (u16sC z) z.length (by omega) se kp tn (newSecs n) (L'.map clean) _ _ hnew hR h3 (crash_rest hL (by omega) (by omega) kp tn) h (open_laid0 hL (by omega) (by omega)) same_nn)
      · rw [← newSecs_clean] at h
        have hsl := strs_len rs'
        have hO := open_laid hL (by omega) (by omega) h0
        have hS := same_t (strs rs') (strs rs') rfl (by omega) (by omega)
        rw [hsl] at hO hS
        exact fn_gives (f := 7) rfl rfl (rf_sc_0 (u16sC z) z.length (by omega) se kp tn (newSecs n) (L'.map clean) _ _ hnew hR h3 (crash_rest hL (by omega) (by omega) kp tn) (strs rs') rs'.length hsl h0 h hO hS)

end Go.Proofs.Ytfphnpelampoeaa
