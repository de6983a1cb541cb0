/-
  What Append computes.
-/
import Derived.Test.YtfphnpelampoeaaH13
namespace Go.Proofs.Ytfphnpelampoeaa
open Go Go.Ev

theorem firstB_eq (idx : Nat) (r : List UInt8) : firstB idx r = firstSec idx r := by
  have e : put4 (put4 (put4 ((72 : UInt8) :: List.replicate 127 (0 : UInt8)) 1 idx) 5 r.length) 9 (4294967295 - r.length) = (0x48 :: num4 idx ++ num4 r.length ++ num4 (4294967295 - r.length) ++ [0, 0, 0]) ++ List.replicate 112 0 := rfl
  have hl : (0x48 :: num4 idx ++ num4 r.length ++ num4 (4294967295 - r.length) ++ [0, 0, 0] : List UInt8).length = 16 := rfl
  unfold firstB firstSec padTo
  rw [e, List.take_append_of_le_length (by rw [hl]; omega), List.take_of_length_le (by rw [hl]; omega), List.drop_append, hl, List.drop_of_length_le (by rw [hl]; omega), List.nil_append, List.drop_replicate]
  have e1 : List.take (min r.length 112) r = r.take 112 := by rw [Nat.min_comm, ← List.take_take, List.take_length]
  have e3 : 112 - (16 + min (min r.length 112) r.length - 16) = 112 - r.length := by omega
  rw [e1, e3]

theorem Okay.settle {l : List Sec} (h : Okay l) : Okay (settleP l) := by
  intro s hs
  obtain ⟨s', h1, rfl⟩ := List.mem_map.1 hs
  exact ⟨(h s' h1).1, (h s' h1).1⟩

theorem Okay.write {l : List Sec} (h : Okay l) (i : Nat) (hi : i < l.length) (b : List UInt8) (hb : b.length = 128) : Okay (l.set i ⟨(secAt l i).sure, b, true⟩) :=
  h.set i _ ⟨hb, (h _ (secAt_mem l i hi)).2⟩

theorem okay_writes : ∀ (bs : List (List UInt8)) (i : Nat) (l : List Sec) (p : Option Nat) (l' : List Sec) (p' : Option Nat) (d : Bool), Okay l → (∀ b ∈ bs, b.length = 128) → i + bs.length ≤ l.length → runOps (writesFrom i bs) l p = (l', p', d) → Okay l' ∧ l'.length = l.length
  | [], i, l, p, l', p', d, h, _, _, hr => by
    simp only [writesFrom, runOps, Prod.mk.injEq] at hr
    obtain ⟨rfl, _⟩ := hr
    exact ⟨h, rfl⟩
  | b :: bs, i, l, p, l', p', d, h, hb, hi, hr => by
    simp only [writesFrom, runOps] at hr
    cases hs : spend p with
    | none =>
      rw [hs] at hr
      simp only [Prod.mk.injEq] at hr
      obtain ⟨rfl, _⟩ := hr
      exact ⟨h, rfl⟩
    | some q =>
      rw [hs] at hr
      simp only [List.length_cons] at hi hr
      have := okay_writes bs (i + 1) _ q l' p' d (h.write i (by omega) b (hb b (List.mem_cons_self ..))) (fun x hx => hb x (List.mem_cons_of_mem _ hx)) (by simp; omega) hr
      exact ⟨this.1, by rw [this.2]; simp⟩

theorem dataSec_len (r : List UInt8) : (dataSec r).length = 128 := (dataSec_left r).1
theorem recData_len (r : List UInt8) : ∀ b ∈ recData r, b.length = 128 := by
  intro b hb
  obtain ⟨x, rfl⟩ := dataSecs_mem _ _ b hb
  exact dataSec_len x

theorem Holds.okay {l : List Sec} {rs : List (List UInt8)} {e : Nat} (h : Holds l rs e) : Okay l := fun s hs => ⟨(h.secs s hs).data, (h.secs s hs).sure⟩

theorem recData_nil {r : List UInt8} : recData r = [] ↔ nData r.length = 0 := by
  constructor
  · intro h; have := dataSecs_len (nData r.length) (r.drop 112); unfold recData at h; rw [h] at this; simpa using this.symm
  · intro h; unfold recData; rw [h]; rfl

/-- what an append leaves: the sectors, the power, and whether it failed -/
theorem append_spec (l : List Sec) (p : Option Nat) {rs : List (List UInt8)} {e : Nat} (h : Holds l rs e) (hp : okP p) (r : List UInt8) (hr : r.length ≤ 4000) (hk : e + 1 + nData r.length ≤ l.length) :
    ∃ l' p' dead, runOps (appendOps e rs.length r) l p = (l', p', dead) ∧ okP p' ∧ Okay l' ∧ l'.length = l.length ∧
      RunF F 16 [dskV l false (pArm p) (pLeft p), .one (strC (str r))] [dskV l' dead (pArm p') (pLeft p'), .one (intC (if dead then 51 else 0))] := by
  have hm : nData r.length ≤ 100 := by unfold nData; omega
  have hn := h.most
  have hok := h.okay
  have hsec := sectors_spec r.length hr
  have hscan := scan_spec l p h
  -- the two shapes of the list that scan returns
  have shape : (rs.length = 0 ∧ RunF F 33 [dskV l false (pArm p) (pLeft p)] [.one nilC, .one (intC e), .one (intC 0)]) ∨ (∃ outs, RunF F 33 [dskV l false (pArm p) (pLeft p)] [.one (.slice outs rs.length), .one (intC e), .one (intC 0)]) := by
    rcases Nat.eq_zero_or_pos rs.length with h0 | h0
    · left
      have : rs = [] := List.eq_nil_of_length_eq_zero h0
      subst this
      exact ⟨rfl, hscan⟩
    · right
      rw [strsS_pos _ (by rw [strs_len]; exact h0), strs_len] at hscan
      exact ⟨_, hscan⟩
  obtain ⟨l1, p1, d1, e1, hp1, hl1, hx, hy⟩ := app_loop e (1 + nData r.length) (firstB rs.length r) (nData r.length) 1 l p (r.drop 112) rfl hn (by omega) hp (by simp; omega)
  have e1' : runOps (writesFrom (e + 1) (recData r)) l p = (l1, p1, d1) := e1
  have ok1 := okay_writes (recData r) (e + 1) l p l1 p1 d1 hok (recData_len r) (by rw [recData, dataSecs_len]; omega) e1'
  have hd1 : ∀ s ∈ l1, s.data.length = 128 := fun s hs => (ok1.1 s hs).1
  have hrest : r.drop (min r.length 112) = r.drop 112 := drop_min r 112
  unfold appendOps
  rw [List.append_assoc, runOps_append, e1']
  cases d1 with
  | true =>
    simp only
    refine ⟨l1, p1, true, rfl, hp1, ok1.1, hl1, ?_⟩
    obtain ⟨hh, nx, hL⟩ := hy rfl
    rw [← hrest] at hL
    rcases shape with ⟨h0, hsc⟩ | ⟨outs, hsc⟩
    · rw [h0] at hL
      exact fn_gives (f := 16) rfl rfl (appA1n_0 l p e (nData r.length) r hr hn hm hk hsc hsec l1 p1 hh nx hl1 hL)
    · exact fn_gives (f := 16) rfl rfl (appA1s_0 l p outs rs.length (by have := h.few; omega) e (nData r.length) r hr hn hm hk hsc hsec l1 p1 hh nx hl1 hL)
  | false =>
    simp only
    obtain ⟨r1, hL⟩ := hx rfl
    rw [← hrest] at hL
    have hN : rs.length < 100000 := by have := h.few; omega
    have hL0 : rs.length = 0 → LoopF F [2, 4, 7, 9, 10, 11, 12] B16_0 (S16 l p e (1 + nData r.length) (firstB 0 r) (r.drop (min r.length 112)) 1) (.exit 0) (S16x l1 p1 e (1 + nData r.length) (firstB 0 r) r1) := by intro h0; have hL' := hL; rw [h0] at hL'; exact hL'
    have hset : ∀ (x : List Sec), (DOp.write e (firstSec rs.length r)).apply x = x.set e ⟨(secAt x e).sure, firstB rs.length r, true⟩ := by intro x; rw [firstB_eq]; rfl
    by_cases hz : nData r.length = 0
    · -- one sector
      rw [if_pos (recData_nil.2 hz), List.nil_append]
      simp only [runOps]
      cases s1 : spend p1 with
      | none =>
        refine ⟨l1, p1, true, rfl, hp1, ok1.1, hl1, ?_⟩
        rcases shape with ⟨h0, hsc⟩ | ⟨outs, hsc⟩
        · exact fn_gives (f := 16) rfl rfl (appB3n_0 l p e (nData r.length) r hr hn hm hk hsc hsec l1 p1 r1 hp1 hl1 (hL0 h0) hz s1)
        · exact fn_gives (f := 16) rfl rfl (appB3s_0 l p outs rs.length hN e (nData r.length) r hr hn hm hk hsc hsec l1 p1 r1 hp1 hl1 hL hz s1)
      | some p2 =>
        have hp2 := spend_ok hp1 s1
        have ok2 := ok1.1.write e (by omega) (firstB rs.length r) (firstB_len _ _)
        simp only [hset]
        cases s2 : spend p2 with
        | none =>
          refine ⟨_, p2, true, rfl, hp2, ok2, by simpa using hl1, ?_⟩
          rcases shape with ⟨h0, hsc⟩ | ⟨outs, hsc⟩
          · have := appB4n_0 l p e (nData r.length) r hr hn hm hk hsc hsec l1 p1 r1 hp1 hl1 (hL0 h0) hz p2 s1 s2
            rw [← h0] at this
            exact fn_gives (f := 16) rfl rfl this
          · exact fn_gives (f := 16) rfl rfl (appB4s_0 l p outs rs.length hN e (nData r.length) r hr hn hm hk hsc hsec l1 p1 r1 hp1 hl1 hL hz p2 s1 s2)
        | some p3 =>
          refine ⟨_, p3, false, rfl, spend_ok hp2 s2, ok2.settle, by simpa [DOp.apply, settleP_len] using hl1, ?_⟩
          rcases shape with ⟨h0, hsc⟩ | ⟨outs, hsc⟩
          · have := appB5n_0 l p e (nData r.length) r hr hn hm hk hsc hsec l1 p1 r1 hp1 hl1 (hL0 h0) (by rw [← h0]; exact fun s hs => (ok2 s hs).1) hz p2 p3 hp2 s1 s2
            rw [← h0] at this
            exact fn_gives (f := 16) rfl rfl this
          · exact fn_gives (f := 16) rfl rfl (appB5s_0 l p outs rs.length hN e (nData r.length) r hr hn hm hk hsc hsec l1 p1 r1 hp1 hl1 hL (fun s hs => (ok2 s hs).1) hz p2 p3 hp2 s1 s2)
    · -- data sectors come first
      have hpos : 0 < nData r.length := by omega
      rw [if_neg (fun h => hz (recData_nil.1 h))]
      simp only [List.cons_append, List.nil_append, runOps]
      cases s1 : spend p1 with
      | none =>
        refine ⟨l1, p1, true, rfl, hp1, ok1.1, hl1, ?_⟩
        rcases shape with ⟨h0, hsc⟩ | ⟨outs, hsc⟩
        · exact fn_gives (f := 16) rfl rfl (appA2n_0 l p e (nData r.length) r hr hn hm hk hsc hsec l1 p1 r1 hp1 hl1 (hL0 h0) hpos s1)
        · exact fn_gives (f := 16) rfl rfl (appA2s_0 l p outs rs.length hN e (nData r.length) r hr hn hm hk hsc hsec l1 p1 r1 hp1 hl1 hL hpos s1)
      | some p2 =>
        have hp2 := spend_ok hp1 s1
        have hl2 : (settleP l1).length = l.length := by rw [settleP_len]; exact hl1
        have ok2 := ok1.1.settle
        have ok3 := ok2.write e (by omega) (firstB rs.length r) (firstB_len _ _)
        have hfl : DOp.flush.apply l1 = settleP l1 := rfl
        simp only [hset, hfl]
        cases s2 : spend p2 with
        | none =>
          refine ⟨_, p2, true, rfl, hp2, ok2, hl2, ?_⟩
          rcases shape with ⟨h0, hsc⟩ | ⟨outs, hsc⟩
          · exact fn_gives (f := 16) rfl rfl (appA3n_0 l p e (nData r.length) r hr hn hm hk hsc hsec l1 p1 r1 hp1 hl1 (hL0 h0) hd1 hpos p2 hp2 s1 s2 hl2)
          · exact fn_gives (f := 16) rfl rfl (appA3s_0 l p outs rs.length hN e (nData r.length) r hr hn hm hk hsc hsec l1 p1 r1 hp1 hl1 hL hd1 hpos p2 hp2 s1 s2 hl2)
        | some p3 =>
          have hp3 := spend_ok hp2 s2
          simp only
          cases s3 : spend p3 with
          | none =>
            refine ⟨_, p3, true, rfl, hp3, ok3, by simpa using hl2, ?_⟩
            rcases shape with ⟨h0, hsc⟩ | ⟨outs, hsc⟩
            · have := appA4n_0 l p e (nData r.length) r hr hn hm hk hsc hsec l1 p1 r1 hp1 hl1 (hL0 h0) hd1 hpos p2 p3 hp2 s1 s2 s3 hl2
              rw [← h0] at this
              exact fn_gives (f := 16) rfl rfl this
            · exact fn_gives (f := 16) rfl rfl (appA4s_0 l p outs rs.length hN e (nData r.length) r hr hn hm hk hsc hsec l1 p1 r1 hp1 hl1 hL hd1 hpos p2 p3 hp2 s1 s2 s3 hl2)
          | some p4 =>
            refine ⟨_, p4, false, rfl, spend_ok hp3 s3, ok3.settle, by simpa [DOp.apply, settleP_len] using hl2, ?_⟩
            rcases shape with ⟨h0, hsc⟩ | ⟨outs, hsc⟩
            · have := appA5n_0 l p e (nData r.length) r hr hn hm hk hsc hsec l1 p1 r1 hp1 hl1 (hL0 h0) hd1 (by rw [← h0]; exact fun s hs => (ok3 s hs).1) hpos p2 p3 p4 hp2 hp3 s1 s2 s3 hl2
              rw [← h0] at this
              exact fn_gives (f := 16) rfl rfl this
            · exact fn_gives (f := 16) rfl rfl (appA5s_0 l p outs rs.length hN e (nData r.length) r hr hn hm hk hsc hsec l1 p1 r1 hp1 hl1 hL hd1 (fun s hs => (ok3 s hs).1) hpos p2 p3 p4 hp2 hp3 s1 s2 s3 hl2)

theorem append_full (l : List Sec) (p : Option Nat) {rs : List (List UInt8)} {e : Nat} (h : Holds l rs e) (r : List UInt8) (hr : r.length ≤ 4000) (hk : l.length < e + 1 + nData r.length) :
    RunF F 16 [dskV l false (pArm p) (pLeft p), .one (strC (str r))] [dskV l false (pArm p) (pLeft p), .one (intC 53)] := by
  have hm : nData r.length ≤ 100 := by unfold nData; omega
  have hsec := sectors_spec r.length hr
  rw [← str_size r] at hsec
  exact fn_gives (f := 16) rfl rfl (appF_0 l false (pArm p) (pLeft p) _ e (nData r.length) (str r) (by rw [str_size]; exact hr) h.most hm h.le hk (scan_spec l p h) (by rw [str_size] at hsec ⊢; exact hsec))

theorem append_limit (l : List Sec) (p : Option Nat) {rs : List (List UInt8)} {e : Nat} (h : Holds l rs e) (r : List UInt8) (hr : 4000 < r.length) :
    RunF F 16 [dskV l false (pArm p) (pLeft p), .one (strC (str r))] [dskV l false (pArm p) (pLeft p), .one (intC 2)] :=
  fn_gives (f := 16) rfl rfl (appL_0 l false (pArm p) (pLeft p) _ e (str r) (by rw [str_size]; exact hr) (scan_spec l p h))

theorem append_small (l : List Sec) (ar : Bool) (le : Int) (h : l.length < 4) (s : ByteArray) : RunF F 16 [dskV l false ar le, .one (strC s)] [dskV l false ar le, .one (intC 54)] :=
  fn_gives (f := 16) rfl rfl (appE_0 l false ar le _ 0 54 s (by omega) (scan_small l ar le h))
theorem append_dead (l : List Sec) (ar : Bool) (le : Int) (s : ByteArray) : RunF F 16 [dskV l true ar le, .one (strC s)] [dskV l true ar le, .one (intC 51)] :=
  fn_gives (f := 16) rfl rfl (appE_0 l true ar le _ 0 51 s (by omega) (scan_dead l ar le))

end Go.Proofs.Ytfphnpelampoeaa
