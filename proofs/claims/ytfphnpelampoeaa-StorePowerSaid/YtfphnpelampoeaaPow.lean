/-
  StorePower returns true.
-/
import Derived.Test.YtfphnpelampoeaaK4
namespace Go.Proofs.Ytfphnpelampoeaa
open Go Go.Ev

/-- the numbers fit -/
def Fit16 (z : List Int) : Prop := ∀ n ∈ z, 0 ≤ n ∧ n < 65536

theorem pow_loop (z : List Int) (hz : z.length ≤ 6) (hf : Fit16 z) (ct kp tn la : Int) : ∀ (m i : Nat) (L rs tail : List (List UInt8)), i + m = z.length → rs.length = i → 0 < i → Laid L rs tail → L.length = 200 → 200 ≤ tail.length + 8 * i →
    ∃ L' rs' tail', LoopF F [0, 1, 2, 3, 4, 11, 12, 13] B5_0 (S5s (.slice (u16sC z) z.length) ct kp tn la (L.map clean) (strs rs) i i) (.exit 0) (S5sx (.slice (u16sC z) z.length) ct kp tn la (L'.map clean) (strs rs') z.length z.length) ∧
      Laid L' rs' tail' ∧ L'.length = 200 ∧ rs'.length = z.length ∧ 200 ≤ tail'.length + 8 * z.length
  | 0, i, L, rs, tail, hi, hr, h0, hL, hl, ht => by
    have e : i = z.length := by omega
    subst e
    exact ⟨L, rs, tail, LoopF.out (pow_os_0 z ct kp tn la (L.map clean) (u16sC z) (strs rs) z.length z.length) (by simp), hL, hl, hr, ht⟩
  | m + 1, i, L, rs, tail, hi, hr, h0, hL, hl, ht => by
    obtain ⟨r, hr9, hrec⟩ := record_spec i (numAt z i) (hf _ (numAt_mem z i (by omega)))
    have hn := nData_900 r.length hr9
    obtain ⟨L2, tail2, ha, hL2, hl2, ht2⟩ := append_plain hL (by omega) (by omega) r (by omega) (by omega)
    have h := pow_rs_0 z ct kp tn la (L.map clean) (strs rs) i i (by rw [strs_len]; exact hr) (by omega) (by omega) hz r (L2.map clean) hrec ha
    obtain ⟨L', rs', tail', h1, h2⟩ := pow_loop z hz hf ct kp tn la m (i + 1) L2 (rs ++ [r]) tail2 (by omega) (by simp; omega) (by omega) hL2 (by omega) (by omega)
    refine ⟨L', rs', tail', LoopF.round h ?_, h2⟩
    rw [← strsC_append, ← strs_app]
    exact h1

theorem pow_loop0 (z : List Int) (hz : z.length ≤ 6) (h0 : 0 < z.length) (hf : Fit16 z) (ct kp tn la : Int) :
    ∃ L' rs' tail', LoopF F [0, 1, 2, 3, 4, 11, 12, 13] B5_0 (S5n (.slice (u16sC z) z.length) ct kp tn la (newSecs 200) 0) (.exit 0) (S5sx (.slice (u16sC z) z.length) ct kp tn la (L'.map clean) (strs rs') z.length z.length) ∧
      Laid L' rs' tail' ∧ L'.length = 200 ∧ rs'.length = z.length ∧ 200 ≤ tail'.length + 8 * z.length := by
  obtain ⟨r, hr9, hrec⟩ := record_spec (0 : Nat) (numAt z 0) (hf _ (numAt_mem z 0 h0))
  have hn := nData_900 r.length hr9
  obtain ⟨L2, tail2, ha, hL2, hl2, ht2⟩ := append_plain (laid_new 200) (by rw [List.length_replicate]; omega) (by rw [List.length_replicate]; omega) r (by omega) (by rw [List.length_replicate]; omega)
  rw [← newSecs_clean] at ha
  have h := pow_rn_0 z ct kp tn la (newSecs 200) 0 h0 hz r (L2.map clean) hrec ha
  obtain ⟨L', rs', tail', h1, h2⟩ := pow_loop z hz hf ct kp tn la (z.length - 1) 1 L2 [r] tail2 (by omega) rfl (by omega) hL2 (by rw [List.length_replicate] at hl2; exact hl2) (by rw [List.length_replicate] at ht2; omega)
  exact ⟨L', rs', tail', LoopF.round h h1, h2⟩

theorem strC_str (r : List UInt8) : strC (str r) = C.lit (.string (str r)) := rfl

def nextL : List UInt8 := [110, 101, 120, 116]
theorem nextL_str : str nextL = nextB := rfl

/-- what follows the loop -/
theorem pow_tail {L rs tail : List (List UInt8)} (hL : Laid L rs tail) (hl : L.length = 200) (ht : 150 ≤ tail.length) (ct kp tn la : Int) (hct : 0 ≤ ct ∧ ct < 256) (hla : 0 ≤ la ∧ la < 65536) :
    ∃ (l1 : List Sec) (L2 L3 : List (List UInt8)) (c : Nat) (p1 : Option Nat) (r : List UInt8) (dead : Bool) (rs2 tail2 tail3 : List (List UInt8)),
      RunF F 15 [.one (intC 90), .one (.lit (.int .u16 la))] [.one (strC (str r))] ∧
      RunF F 17 [dskV (L.map clean) false false 0, .one (intC (IntKind.wrap .i64 (Int.tmod ct 20)))] [dskV (L.map clean) false (pArm (some c)) (pLeft (some c))] ∧
      RunF F 16 [dskV (L.map clean) false (pArm (some c)) (pLeft (some c)), .one (strC (str r))] [dskV l1 dead (pArm p1) (pLeft p1), .one (intC (if dead then 51 else 0))] ∧
      RunF F 19 [dskV l1 dead (pArm p1) (pLeft p1), .one (.lit (.int .u64 kp)), .one (.lit (.int .u64 tn))] [dskV (L2.map clean) false false 0] ∧
      Laid L2 rs2 tail2 ∧ L2.length = 200 ∧ ((dead = true ∧ rs2 = rs) ∨ rs2 = rs ++ [r]) ∧
      RunF F 16 [dskV (L2.map clean) false false 0, .one (strC nextB)] [dskV (L3.map clean) false false 0, .one (intC 0)] ∧ Laid L3 (rs2 ++ [nextL]) tail3 ∧ L3.length = 200 := by
  obtain ⟨r, hr9, hrec⟩ := record_spec 90 la hla
  have hn := nData_900 r.length hr9
  have hmod : Int.tmod ct 20 = ct % 20 := Int.tmod_eq_emod_of_nonneg hct.1
  obtain ⟨l1, p1, dead, L2, rs2, tail2, h1, h2, h3, h4, h5⟩ := append_cut hL (by omega) (by omega) (ct % 20).toNat (by omega) kp tn r (by omega) (by omega)
  have hnx : nData nextL.length = 0 := rfl
  have ht2 : 100 ≤ tail2.length := by
    rcases h5 with ⟨_, _, h⟩ | ⟨_, h⟩ <;> omega
  obtain ⟨L3, tail3, h6, h7, h8, _⟩ := append_plain h3 (by omega) (by omega) nextL (by decide) (by rw [hnx]; omega)
  rw [nextL_str] at h6
  refine ⟨l1, L2, L3, (ct % 20).toNat, p1, r, dead, rs2, tail2, tail3, hrec, cut_at _ _ _ (by rw [hmod, wrap_i64 _ (by omega)]; omega), h1, h2, h3, by omega, ?_, h6, h7, by omega⟩
  rcases h5 with ⟨a, b, _⟩ | ⟨b, _⟩
  · exact .inl ⟨a, b⟩
  · exact .inr b

theorem strs_next (rs : List (List UInt8)) : strs (rs ++ [nextL]) = strs rs ++ [nextB] := strs_app rs nextL

theorem power_spec (lc : C) (z : List Int) (hlc : (lc = nilC ∧ z = []) ∨ lc = .slice (u16sC z) z.length) (hf : Fit16 z) (ct kp tn la : Int) (hct : 0 ≤ ct ∧ ct < 256) (hla : 0 ≤ la ∧ la < 65536) :
    RunF F 5 [.one lc, .one (u8C ct), .one (.lit (.int .u64 kp)), .one (.lit (.int .u64 tn)), .one (u16C la)] [.one (boolC true)] := by
  by_cases hlong : 6 < z.length
  · rcases hlc with ⟨_, rfl⟩ | rfl
    · simp at hlong
    · exact fn_gives (f := 5) rfl rfl (pow_l_0 z hlong ct kp tn la)
  have hz : z.length ≤ 6 := by omega
  rcases Nat.eq_zero_or_pos z.length with h0 | h0
  · have hz0 : z = [] := List.eq_nil_of_length_eq_zero h0
    subst hz0
    obtain ⟨l1, L2, L3, c, p1, r, dead, rs2, tail2, tail3, t1, t2, t3, t4, t5, t6, t7, t8, t9, t10⟩ := pow_tail (laid_new 200) List.length_replicate (by rw [List.length_replicate]; omega) ct kp tn la hct hla
    rw [← newSecs_clean] at t2 t3
    have hO3 := open_laid t9 (by omega) (by omega) (by simp)
    rw [strs_next] at hO3
    have hS3 := same_t (strs rs2 ++ [nextB]) (strs rs2 ++ [nextB]) rfl (by simp) (by
      rcases t7 with ⟨_, h⟩ | h <;> rw [h] <;> simp [strs])
    rcases t7 with ⟨rfl, rfl⟩ | rfl
    · have hO := open_laid0 t5 (by omega) (by omega)
      rcases hlc with ⟨rfl, _⟩ | rfl
      · exact fn_gives (f := 5) rfl rfl (pw2z_0 ct kp tn la _ l1 _ _ c p1 r (LoopF.out (pow_oz_0 [] ct kp tn la (newSecs 200)) (by simp)) t1 t2 t3 t4 hO same_nn t8 _ _ hO3 hS3)
      · exact fn_gives (f := 5) rfl rfl (pw2e_0 ct kp tn la _ l1 _ _ c p1 r (LoopF.out (pow_on_0 [] ct kp tn la (newSecs 200) [] 0) (by simp)) t1 t2 t3 t4 hO same_nn t8 _ _ hO3 hS3)
    · have hO := open_laid t5 (by omega) (by omega) (by simp)
      have hS := same_t (strs [r]) [str r] rfl (by simp [strs]) (by simp [strs])
      have hSf := same_fn (strs [r]) (by simp [strs])
      cases dead with
      | false =>
        rcases hlc with ⟨rfl, _⟩ | rfl
        · exact fn_gives (f := 5) rfl rfl (pw1z_0 ct kp tn la _ l1 _ _ c p1 r (LoopF.out (pow_oz_0 [] ct kp tn la (newSecs 200)) (by simp)) t1 t2 t3 t4 (strs [r]) 1 rfl (by omega) (by omega) hO hS t8 _ _ hO3 hS3)
        · exact fn_gives (f := 5) rfl rfl (pw1e_0 ct kp tn la _ l1 _ _ c p1 r (LoopF.out (pow_on_0 [] ct kp tn la (newSecs 200) [] 0) (by simp)) t1 t2 t3 t4 (strs [r]) 1 rfl (by omega) (by omega) hO hS t8 _ _ hO3 hS3)
      | true =>
        rcases hlc with ⟨rfl, _⟩ | rfl
        · exact fn_gives (f := 5) rfl rfl (pw3z_0 ct kp tn la _ l1 _ _ c p1 r (LoopF.out (pow_oz_0 [] ct kp tn la (newSecs 200)) (by simp)) t1 t2 t3 t4 (strs [r]) 1 rfl (by omega) (by omega) hO hSf hS t8 _ _ hO3 hS3)
        · exact fn_gives (f := 5) rfl rfl (pw3e_0 ct kp tn la _ l1 _ _ c p1 r (LoopF.out (pow_on_0 [] ct kp tn la (newSecs 200) [] 0) (by simp)) t1 t2 t3 t4 (strs [r]) 1 rfl (by omega) (by omega) hO hSf hS t8 _ _ hO3 hS3)
  · have hlc' : lc = .slice (u16sC z) z.length := by
      rcases hlc with ⟨_, rfl⟩ | h
      · simp at h0
      · exact h
    subst hlc'
    obtain ⟨L, rs, tail, hloop, hL, hl, hrs, ht⟩ := pow_loop0 z hz h0 hf ct kp tn la
    obtain ⟨l1, L2, L3, c, p1, r, dead, rs2, tail2, tail3, t1, t2, t3, t4, t5, t6, t7, t8, t9, t10⟩ := pow_tail hL hl (by omega) ct kp tn la hct hla
    have hO3 := open_laid t9 (by omega) (by omega) (by simp)
    have hlen2 : (strs rs2).length = rs2.length := strs_len rs2
    have hlenr : (strs rs).length = z.length := by rw [strs_len]; exact hrs
    have hb : rs2.length = z.length ∨ rs2.length = z.length + 1 := by
      rcases t7 with ⟨_, h⟩ | h <;> rw [h]
      · exact .inl hrs
      · right; simp [hrs]
    rw [strs_next] at hO3
    have hS3 := same_t (strs rs2 ++ [nextB]) (strs rs2 ++ [nextB]) rfl (by simp) (by rw [List.length_append, hlen2]; simp; omega)
    have hS3' : RunF F 20 [.one (.slice (strsC (strs rs2 ++ [nextB])) (strs rs2 ++ [nextB]).length), .one (.slice (strsC (strs rs2 ++ [nextB])) ((strs rs2).length + 1))] [.one (boolC true)] := by
      have e : (strs rs2 ++ [nextB]).length = (strs rs2).length + 1 := by simp
      rw [e] at hS3 ⊢
      exact hS3
    have hO := open_laid t5 (by omega) (by omega) (by omega)
    have hwr : RunF F 20 [.one (.slice (strsC (strs (rs ++ [r]))) (strs (rs ++ [r])).length), .one (.slice (strsC (strs rs ++ [str r])) (z.length + 1))] [.one (boolC true)] := by
      have := same_t (strs (rs ++ [r])) (strs rs ++ [str r]) (strs_app rs r) (by rw [strs_len]; simp) (by rw [strs_len]; simp; omega)
      have e : (strs rs ++ [str r]).length = z.length + 1 := by rw [List.length_append, hlenr]; rfl
      rw [e] at this
      exact this
    rcases t7 with ⟨rfl, rfl⟩ | rfl
    · have hS := same_t (strs rs2) (strs rs2) rfl (by omega) (by omega)
      rw [hlenr] at hS hO hS3'
      exact fn_gives (f := 5) rfl rfl (pw2s_0 z hz ct kp tn la _ l1 _ _ c p1 r (strs rs2) z.length hlenr h0 (by omega) hloop t1 t2 t3 t4 (strs rs2) z.length hlenr (by omega) h0 hO hS t8 _ _ hO3 hS3')
    · cases dead with
      | false => exact fn_gives (f := 5) rfl rfl (pw1s_0 z hz ct kp tn la _ l1 _ _ c p1 r (strs rs) z.length hlenr h0 (by omega) hloop t1 t2 t3 t4 (strs (rs ++ [r])) _ rfl (by omega) (by omega) hO hwr t8 _ _ hO3 hS3')
      | true =>
        have hS := same_f (strs (rs ++ [r])) (strs rs) (by rw [hlen2, hlenr]; simp [hrs]) (by omega) (by omega)
        rw [hlenr] at hS
        exact fn_gives (f := 5) rfl rfl (pw3s_0 z hz ct kp tn la _ l1 _ _ c p1 r (strs rs) z.length hlenr h0 (by omega) hloop t1 t2 t3 t4 (strs (rs ++ [r])) _ rfl (by omega) (by omega) hO hS hwr t8 _ _ hO3 hS3')

end Go.Proofs.Ytfphnpelampoeaa
