/-
  A crash, by the program: the loop, the function.
-/
import Derived.Test.YtfphnpelampoeaaRw21M
set_option linter.unusedVariables false
set_option linter.unusedSimpArgs false
namespace Go.Proofs.Ytfphnpelampoeaa.Rw
open Go Go.Ez

theorem and_bit (T s : Nat) : T &&& 2 ^ s = if T.testBit s then 2 ^ s else 0 := by
  apply Nat.eq_of_testBit_eq
  intro i
  rw [Nat.testBit_and, Nat.testBit_two_pow]
  by_cases h : s = i
  · subst h
    cases hT : T.testBit s <;> simp [Nat.testBit_two_pow]
  · cases T.testBit s <;> simp [h, Nat.testBit_two_pow]

theorem neq_bit (T s : Nat) : intBin .neq .u64 ((T &&& 2 ^ s : Nat) : Int) 0 = some (.bool (T.testBit s)) := by
  show some (Value.bool (((T &&& 2 ^ s : Nat) : Int) != 0)) = _
  congr 2
  rw [and_bit]
  have h0 : ((2 ^ s : Nat) : Int) ≠ 0 := by have := Nat.two_pow_pos s; omega
  cases T.testBit s
  · rfl
  · simp only [if_true]; simpa using h0

theorem eql_bit (T s : Nat) : intBin .eql .u64 ((T &&& 2 ^ s : Nat) : Int) 0 = some (.bool (!T.testBit s)) := by
  show some (Value.bool (((T &&& 2 ^ s : Nat) : Int) == 0)) = _
  congr 2
  rw [and_bit]
  have h0 : ((2 ^ s : Nat) : Int) ≠ 0 := by have := Nat.two_pow_pos s; omega
  cases T.testBit s
  · rfl
  · simp only [if_true]; simpa using h0

theorem s19_round (F : Tab) {Q : Ex → St → Prop} {l : List Sec} (hO : Okay l) (hn : l.length ≤ 256) {N aid k j T K : Nat} {h : Heap} {D3 D6 : D} {e : Env} (hT : T < 18446744073709551616) (hK : K < 18446744073709551616) (hj : j < 100000) (hk : k < l.length) (haN : aid < N) (ha : getH h aid = .arr (secsC l) 3 0 32)
    (e1 : getE e 1 = .c (.lit (.int .u64 (K : Int)))) (e2 : getE e 2 = .c (.lit (.int .u64 (T : Int)))) (e3 : getE e 3 = D3) (e6 : getE e 6 = D6) (e7 : getE e 7 = .arr aid 0 l.length) (e8 : getE e 8 = .c (.lit (.int .i64 (j : Int)))) (e18 : getE e 18 = .c (.lit (.int .i64 (l.length : Int)))) (e19 : getE e 19 = .c (.lit (.int .i64 (k : Int))))
    (hQ : ∀ s : St, N ≤ s.nx → getE s.env 1 = .c (.lit (.int .u64 (K : Int))) → getE s.env 2 = .c (.lit (.int .u64 (T : Int))) → getE s.env 3 = D3 → getE s.env 6 = D6 → getE s.env 7 = .arr aid 0 l.length → getE s.env 8 = .c (.lit (.int .i64 ((if (secAt l k).fresh then j + 1 else j : Nat) : Int))) → getE s.env 18 = .c (.lit (.int .i64 (l.length : Int))) → getE s.env 19 = .c (.lit (.int .i64 ((k + 1 : Nat) : Int))) → getH s.heap aid = .arr (secsC (l.set k (newD T K j (secAt l k)))) 3 0 32 → (∀ x, x < N → x ≠ aid → getH s.heap x = getH h x) → Q .normal s) : WP F B19_1 ⟨e, h, N⟩ Q := by
  have hs := hO _ (secAt_mem l k hk)
  have hrem : intBin .rem .i64 (j : Int) 64 = some (.int .i64 ((j % 64 : Nat) : Int)) := rfl
  have hjs : j % 64 < 64 := Nat.mod_lt _ (by omega)
  have h2s : 2 ^ (j % 64) < 18446744073709551616 := Nat.pow_lt_pow_right (a := 2) (by omega) hjs
  have hshl := shl_u64 (j % 64) hjs
  have handT := and_u64 T (2 ^ (j % 64)) hT h2s
  have handK := and_u64 K (2 ^ (j % 64)) hK h2s
  have hneT := neq_bit T (j % 64)
  have heqK := eql_bit K (j % 64)
  have haddj : intBin .add .i64 (j : Int) 1 = some (.int .i64 ((j + 1 : Nat) : Int)) := by
    show some (Value.int .i64 (IntKind.wrap .i64 ((j : Int) + 1))) = _
    rw [Go.Proofs.Ytfphnpelampoeaa.wrap_i64 _ (by omega)]; rfl
  have haddk : intBin .add .i64 (k : Int) 1 = some (.int .i64 ((k + 1 : Nat) : Int)) := by
    show some (Value.int .i64 (IntKind.wrap .i64 ((k : Int) + 1))) = _
    rw [Go.Proofs.Ytfphnpelampoeaa.wrap_i64 _ (by omega)]; rfl
  have hlss : intBin .lss .i64 (k : Int) (l.length : Int) = some (.bool true) := by
    show some (Value.bool (decide ((k : Int) < (l.length : Int)))) = _
    congr 2; simpa using hk
  have f1 : ((k : Int) < (l.length : Int)) = True := by simpa using hk
  have c0 : (secsC l)[k * 3]? = some (.slice (bytesC (secAt l k).sure) 128) := by rw [secsC_get0 k l hk, bytesS, hs.2]
  have c1 : (secsC l)[k * 3 + 1]? = some (.slice (bytesC (secAt l k).data) 128) := by rw [secsC_get1 k l hk, bytesS, hs.1]
  have c2 : (secsC l)[k * 3 + 2]? = some (.lit (.bool (secAt l k).fresh)) := secsC_get2 k l hk
  have hcl := secsC_len l
  have f2 : (k * 3 + 2 ≤ l.length * 3) = True := by simp; omega
  have p1 : ((0 : Nat) < 1) = True := by simp
  have r3 : (128 ≤ roomMax) = True := by simp [roomMax]
  have hls : (bytesC (secAt l k).sure).length = 128 := by rw [bytesC_len]; exact hs.2
  have hld : (bytesC (secAt l k).data).length = 128 := by rw [bytesC_len]; exact hs.1
  have tbs : List.take 128 (bytesC (secAt l k).sure) = bytesC (secAt l k).sure := List.take_of_length_le (by omega)
  have hput : ∀ b : List UInt8, b.length = 128 → (secsC l).take (k * 3 + 1) ++ [.slice (bytesC b) 128] ++ (secsC l).drop (k * 3 + 2) = secsC (l.set k ⟨(secAt l k).sure, b, (secAt l k).fresh⟩) := fun b hb => by
    rw [List.append_assoc, ← secsC_put1 k l hk b, bytesS, hb]; rfl
  have x1 : ∀ c, (N + c = aid) = False := fun c => by simp; omega
  have x2 : ∀ c, (aid = N + c) = False := fun c => by simp; omega
  -- the end of the round
  have fin : ∀ (e' : Env) (h' : Heap) (N' j' : Nat), N ≤ N' → getE e' 1 = .c (.lit (.int .u64 (K : Int))) → getE e' 2 = .c (.lit (.int .u64 (T : Int))) → getE e' 3 = D3 → getE e' 6 = D6 → getE e' 7 = .arr aid 0 l.length → getE e' 8 = .c (.lit (.int .i64 ((if (secAt l k).fresh then j + 1 else j : Nat) : Int))) → getE e' 18 = .c (.lit (.int .i64 (l.length : Int))) → getE e' 19 = .c (.lit (.int .i64 (k : Int))) → getH h' aid = .arr (secsC (l.set k (newD T K j (secAt l k)))) 3 0 32 → (∀ x, x < N → x ≠ aid → getH h' x = getH h x) →
      WP F (.region [⟨(some 82), .bin .add false (.t 19) (.k (.int .i64 1)), none⟩, ⟨(some 19), .mov (.t 82), none⟩]) ⟨e', h', N'⟩ Q := by
    intro e' h' N' _ y0 y1 y2 y3 y6 y7 y8 y18 y19 ya yf
    refine wp_sq ?_
    iterate 2 (refine sq_cons rfl ?_; simp only [ZS, Ez.lenD, Ez.appR, Ez.appD, Ez.srcOf, Ez.cpyD, Ez.frzV, Ez.frz, Ez.frz1, Ez.splice, if_true, if_false, Nat.reduceEqDiff, reduceIte, Nat.reduceAdd, Nat.reduceMul, Nat.reduceLeDiff, reduceCtorEq, Int.reduceLE, Int.reduceToNat, Nat.reduceSub, Bool.not_true, Bool.not_false, y19, haddk])
    refine sq_nil (hQ _ ?_ ?_ ?_ ?_ ?_ ?_ ?_ ?_ ?_ ya yf)
    · simp only; omega
    · simp only [getE_cons, Nat.reduceEqDiff, if_false, if_true, y1]
    · simp only [getE_cons, Nat.reduceEqDiff, if_false, if_true, y2]
    · simp only [getE_cons, Nat.reduceEqDiff, if_false, if_true, y3]
    · simp only [getE_cons, Nat.reduceEqDiff, if_false, if_true, y6]
    · simp only [getE_cons, Nat.reduceEqDiff, if_false, if_true, y7]
    · simp only [getE_cons, Nat.reduceEqDiff, if_false, if_true, y8]
    · simp only [getE_cons, Nat.reduceEqDiff, if_false, if_true, y18]
    · simp only [getE_cons, Nat.reduceEqDiff, if_false, if_true]
  have inc : ∀ (e' : Env) (h' : Heap) (N' : Nat), (secAt l k).fresh = true → N ≤ N' → getE e' 1 = .c (.lit (.int .u64 (K : Int))) → getE e' 2 = .c (.lit (.int .u64 (T : Int))) → getE e' 3 = D3 → getE e' 6 = D6 → getE e' 7 = .arr aid 0 l.length → getE e' 8 = .c (.lit (.int .i64 (j : Int))) → getE e' 18 = .c (.lit (.int .i64 (l.length : Int))) → getE e' 19 = .c (.lit (.int .i64 (k : Int))) → getH h' aid = .arr (secsC (l.set k (newD T K j (secAt l k)))) 3 0 32 → (∀ x, x < N → x ≠ aid → getH h' x = getH h x) →
      WP F (.region [⟨(some 80), .mov (.t 8), none⟩, ⟨(some 81), .bin .add false (.t 80) (.k (.int .i64 1)), none⟩, ⟨(some 8), .mov (.t 81), none⟩]) ⟨e', h', N'⟩ (fun x s => match x with | .normal => WP F (.region [⟨(some 82), .bin .add false (.t 19) (.k (.int .i64 1)), none⟩, ⟨(some 19), .mov (.t 82), none⟩]) s Q | _ => False) := by
    intro e' h' N' hfr y0 y1 y2 y3 y6 y7 y8 y18 y19 ya yf
    refine wp_sq ?_
    iterate 3 (refine sq_cons rfl ?_; simp only [ZS, Ez.lenD, Ez.appR, Ez.appD, Ez.srcOf, Ez.cpyD, Ez.frzV, Ez.frz, Ez.frz1, Ez.splice, if_true, if_false, Nat.reduceEqDiff, reduceIte, Nat.reduceAdd, Nat.reduceMul, Nat.reduceLeDiff, reduceCtorEq, Int.reduceLE, Int.reduceToNat, Nat.reduceSub, Bool.not_true, Bool.not_false, y8, haddj])
    refine sq_nil (fin _ _ _ 0 ?_ ?_ ?_ ?_ ?_ ?_ ?_ ?_ ?_ ya yf)
    · omega
    · simp only [getE_cons, Nat.reduceEqDiff, if_false, if_true, y1]
    · simp only [getE_cons, Nat.reduceEqDiff, if_false, if_true, y2]
    · simp only [getE_cons, Nat.reduceEqDiff, if_false, if_true, y3]
    · simp only [getE_cons, Nat.reduceEqDiff, if_false, if_true, y6]
    · simp only [getE_cons, Nat.reduceEqDiff, if_false, if_true, y7]
    · simp only [getE_cons, Nat.reduceEqDiff, if_false, if_true, hfr]
    · simp only [getE_cons, Nat.reduceEqDiff, if_false, if_true, y18]
    · simp only [getE_cons, Nat.reduceEqDiff, if_false, if_true, y19]
  have lift : ∀ {c : ICode} {s : St}, WP F c s (fun x s => match x with | .normal => WP F (.region [⟨(some 82), .bin .add false (.t 19) (.k (.int .i64 1)), none⟩, ⟨(some 19), .mov (.t 82), none⟩]) s Q | _ => False) →
      WP F c s (fun x s1 => match x with | .normal => WP F (.region [⟨(some 82), .bin .add false (.t 19) (.k (.int .i64 1)), none⟩, ⟨(some 19), .mov (.t 82), none⟩]) s1 Q | .exit id' => (if id' = 1 then WP F (.region [⟨(some 82), .bin .add false (.t 19) (.k (.int .i64 1)), none⟩, ⟨(some 19), .mov (.t 82), none⟩]) s1 Q else Q (.exit id') s1) | .ret => Q .ret s1) := by
    intro c s hw
    refine hw.mono fun x s' hx => ?_
    cases x with
    | normal => exact hx
    | exit id => exact hx.elim
    | ret => exact hx.elim
  unfold B19_1
  refine wp_seq (wp_sq ?_)
  iterate 1 (refine sq_cons rfl ?_; simp only [ZS, Ez.lenD, Ez.appR, Ez.appD, Ez.srcOf, Ez.cpyD, Ez.frzV, Ez.frz, Ez.frz1, Ez.splice, if_true, if_false, Nat.reduceEqDiff, reduceIte, Nat.reduceAdd, Nat.reduceMul, Nat.reduceLeDiff, reduceCtorEq, Int.reduceLE, Int.reduceToNat, Nat.reduceSub, Bool.not_true, Bool.not_false, e18, e19, hlss])
  refine sq_nil (wp_seq (wp_condT rfl (wp_skip ?_)))
  refine wp_seq (wp_block (wp_seq (wp_sq ?_)))
  iterate 2 (refine sq_cons rfl ?_; simp only [ZS, Ez.lenD, Ez.appR, Ez.appD, Ez.srcOf, Ez.cpyD, Ez.frzV, Ez.frz, Ez.frz1, Ez.splice, if_true, if_false, Nat.reduceEqDiff, reduceIte, Nat.reduceAdd, Nat.reduceMul, Nat.reduceLeDiff, reduceCtorEq, Int.reduceLE, Int.reduceToNat, Nat.reduceSub, Bool.not_true, Bool.not_false, e19])
  refine sq_nil (wp_seq (wp_seq (wp_sq ?_)))
  iterate 6 (refine sq_cons rfl ?_; simp only [ZS, Ez.lenD, Ez.appR, Ez.appD, Ez.srcOf, Ez.cpyD, Ez.frzV, Ez.frz, Ez.frz1, Ez.splice, if_true, if_false, Nat.reduceEqDiff, reduceIte, Nat.reduceAdd, Nat.reduceMul, Nat.reduceLeDiff, reduceCtorEq, Int.reduceLE, Int.reduceToNat, Nat.reduceSub, Bool.not_true, Bool.not_false, e7, ha, f1, c2])
  cases hfr : (secAt l k).fresh with
  | false =>
    refine sq_nil (wp_condT (by simp only [Ez.evX, getE_cons, Nat.reduceEqDiff, if_false, if_true, hfr, Bool.not_false]) (wp_exit ?_))
    simp only [if_true]
    refine fin _ _ _ 0 ?_ ?_ ?_ ?_ ?_ ?_ ?_ ?_ ?_ ?_ ?_
    · omega
    · simp only [getE_cons, Nat.reduceEqDiff, if_false, if_true, e1]
    · simp only [getE_cons, Nat.reduceEqDiff, if_false, if_true, e2]
    · simp only [getE_cons, Nat.reduceEqDiff, if_false, if_true, e3]
    · simp only [getE_cons, Nat.reduceEqDiff, if_false, if_true, e6]
    · simp only [getE_cons, Nat.reduceEqDiff, if_false, if_true, e7]
    · simp only [getE_cons, Nat.reduceEqDiff, if_false, if_true, e8, hfr]; rfl
    · simp only [getE_cons, Nat.reduceEqDiff, if_false, if_true, e18]
    · simp only [getE_cons, Nat.reduceEqDiff, if_false, if_true, e19]
    · have : l.set k (newD T K j (secAt l k)) = l := by
        have e0 : newD T K j (secAt l k) = secAt l k := by
          have e1 : crashD T K j (secAt l k) = (secAt l k).data := by simp [crashD, hfr]
          unfold newD; rw [e1]
        rw [e0]
        unfold secAt
        rw [List.getD_eq_getElem?_getD, List.getElem?_eq_getElem hk]
        simp
      rw [this]; exact ha
    · intro x _ _; rfl
  | true =>
    refine sq_nil (wp_condF (by simp only [Ez.evX, getE_cons, Nat.reduceEqDiff, if_false, if_true, hfr, Bool.not_true]) (wp_skip ?_))
    refine wp_seq (wp_seq (wp_sq ?_))
    iterate 4 (refine sq_cons rfl ?_; simp only [ZS, Ez.lenD, Ez.appR, Ez.appD, Ez.srcOf, Ez.cpyD, Ez.frzV, Ez.frz, Ez.frz1, Ez.splice, if_true, if_false, Nat.reduceEqDiff, reduceIte, Nat.reduceAdd, Nat.reduceMul, Nat.reduceLeDiff, reduceCtorEq, Int.reduceLE, Int.reduceToNat, Nat.reduceSub, Bool.not_true, Bool.not_false, e8, hrem, hshl])
    refine sq_nil (wp_block (wp_seq (wp_sq ?_)))
    iterate 5 (refine sq_cons rfl ?_; simp only [ZS, Ez.lenD, Ez.appR, Ez.appD, Ez.srcOf, Ez.cpyD, Ez.frzV, Ez.frz, Ez.frz1, Ez.splice, if_true, if_false, Nat.reduceEqDiff, reduceIte, Nat.reduceAdd, Nat.reduceMul, Nat.reduceLeDiff, reduceCtorEq, Int.reduceLE, Int.reduceToNat, Nat.reduceSub, Bool.not_true, Bool.not_false, e2, handT, hneT])
    cases hbt : T.testBit (j % 64) with
    | true =>
      have hnd : newD T K j (secAt l k) = ⟨(secAt l k).sure, complB (secAt l k).data, (secAt l k).fresh⟩ := by simp [newD, crashD, hfr, hbt]
      have hcl128 : (complB (secAt l k).data).length = 128 := by simp [complB, hs.1]
      have hclb : (bytesC (complB (secAt l k).data)).length = 128 := by rw [bytesC_len]; exact hcl128
      have tbc : List.take 128 (bytesC (complB (secAt l k).data)) = bytesC (complB (secAt l k).data) := List.take_of_length_le (by omega)
      have hp := hput _ hcl128
      refine sq_nil (wp_condT (by simp only [Ez.evX, getE_cons, Nat.reduceEqDiff, if_false, if_true, hbt]) (wp_seq (wp_sq ?_)))
      iterate 8 (refine sq_cons rfl ?_; simp only [ZS, Ez.lenD, Ez.appR, Ez.appD, Ez.srcOf, Ez.cpyD, Ez.frzV, Ez.frz, Ez.frz1, Ez.splice, if_true, if_false, Nat.reduceEqDiff, reduceIte, Nat.reduceAdd, Nat.reduceMul, Nat.reduceLeDiff, reduceCtorEq, Int.reduceLE, Int.reduceToNat, Nat.reduceSub, Bool.not_true, Bool.not_false, e7, ha, f1, c1, p1, r3, x1, x2])
      refine sq_nil (wp_seq (wp_seq (wp_sq ?_)))
      iterate 7 (refine sq_cons rfl ?_; simp only [ZS, Ez.lenD, Ez.appR, Ez.appD, Ez.srcOf, Ez.cpyD, Ez.frzV, Ez.frz, Ez.frz1, Ez.splice, if_true, if_false, Nat.reduceEqDiff, reduceIte, Nat.reduceAdd, Nat.reduceMul, Nat.reduceLeDiff, reduceCtorEq, Int.reduceLE, Int.reduceToNat, Nat.reduceSub, Bool.not_true, Bool.not_false, e7, ha, f1, c1, x1, x2])
      refine sq_nil (wp_block (s19i_loop F (D1 := .c (.lit (.int .u64 (K : Int)))) (D2 := .c (.lit (.int .u64 (T : Int)))) (D3 := D3) (D6 := D6) (D7 := .arr aid 0 l.length) (D8 := .c (.lit (.int .i64 (j : Int)))) (D9 := .c (.lit (.int .i64 (k : Int)))) (D18 := .c (.lit (.int .i64 (l.length : Int)))) (D19 := .c (.lit (.int .i64 (k : Int)))) (bid := N + 24) (da := (secAt l k).data) (z := zeroB) hs.1 (by simp [zeroB]) ((N + 24, .arr (zeros [.int .u8 0] 128) 1 0 5) :: h) N ?_ 128 0 _ _ _ (by omega) (by omega) (by simp only [getE_cons, Nat.reduceEqDiff, if_false, if_true, e1]) (by simp only [getE_cons, Nat.reduceEqDiff, if_false, if_true, e2]) (by simp only [getE_cons, Nat.reduceEqDiff, if_false, if_true, e3]) (by simp only [getE_cons, Nat.reduceEqDiff, if_false, if_true, e6]) (by simp only [getE_cons, Nat.reduceEqDiff, if_false, if_true, e7]) (by simp only [getE_cons, Nat.reduceEqDiff, if_false, if_true, e8]) (by simp only [getE_cons, Nat.reduceEqDiff, if_false, if_true, e19]) (by simp only [getE_cons, Nat.reduceEqDiff, if_false, if_true, e18]) (by simp only [getE_cons, Nat.reduceEqDiff, if_false, if_true, e19]) (by simp only [getE_cons, Nat.reduceEqDiff, if_false, if_true]) (by simp only [getE_cons, Nat.reduceEqDiff, if_false, if_true]) (by simp only [getE_cons, Nat.reduceEqDiff, if_false, if_true]) (by simp only [getE_cons, Nat.reduceEqDiff, if_false, if_true]; rfl) (by simp only [getH_cons, if_true]; rw [zeros_bytes]; simp only [cmpZ, List.take_zero, List.drop_zero]; rfl) (fun _ _ => rfl)))
      intro s g0 g1 g2 g3 g6 g7 g8 g9 g18 g19 g11 gb gf
      obtain ⟨se, sh, sn⟩ := s
      simp only at g0 g1 g2 g3 g6 g7 g8 g9 g18 g19 g11 gb gf
      simp only [if_true]
      have gA : getH sh aid = .arr (secsC l) 3 0 32 := by rw [gf aid (by omega)]; simp only [getH_cons, x1, if_false]; exact ha
      refine wp_sq ?_
      iterate 6 (refine sq_cons rfl ?_; simp only [ZS, Ez.lenD, Ez.appR, Ez.appD, Ez.srcOf, Ez.cpyD, Ez.frzV, Ez.frz, Ez.frz1, Ez.splice, if_true, if_false, Nat.reduceEqDiff, reduceIte, Nat.reduceAdd, Nat.reduceMul, Nat.reduceLeDiff, reduceCtorEq, Int.reduceLE, Int.reduceToNat, Nat.reduceSub, Bool.not_true, Bool.not_false, g7, g9, g11, gA, gb, f1, f2, hcl, hclb, tbc, hp, x1, x2])
      refine sq_nil (lift (inc _ _ _ hfr ?_ ?_ ?_ ?_ ?_ ?_ ?_ ?_ ?_ ?_ ?_))
      · omega
      · simp only [getE_cons, Nat.reduceEqDiff, if_false, if_true, g1]
      · simp only [getE_cons, Nat.reduceEqDiff, if_false, if_true, g2]
      · simp only [getE_cons, Nat.reduceEqDiff, if_false, if_true, g3]
      · simp only [getE_cons, Nat.reduceEqDiff, if_false, if_true, g6]
      · simp only [getE_cons, Nat.reduceEqDiff, if_false, if_true, g7]
      · simp only [getE_cons, Nat.reduceEqDiff, if_false, if_true, g8]
      · simp only [getE_cons, Nat.reduceEqDiff, if_false, if_true, g18]
      · simp only [getE_cons, Nat.reduceEqDiff, if_false, if_true, g19]
      · simp only [getH_cons, if_true, hnd]
      · intro x y1 y2
        simp only [getH_cons, show (aid = x) = False by simp; omega, show (N + 24 = x) = False by simp; omega, if_false]
        rw [gf x (by omega)]
        simp only [getH_cons, show (N + 24 = x) = False by simp; omega, if_false]
    | false =>
      refine sq_nil (wp_condF (by simp only [Ez.evX, getE_cons, Nat.reduceEqDiff, if_false, if_true, hbt]) (wp_seq (wp_sq ?_)))
      iterate 5 (refine sq_cons rfl ?_; simp only [ZS, Ez.lenD, Ez.appR, Ez.appD, Ez.srcOf, Ez.cpyD, Ez.frzV, Ez.frz, Ez.frz1, Ez.splice, if_true, if_false, Nat.reduceEqDiff, reduceIte, Nat.reduceAdd, Nat.reduceMul, Nat.reduceLeDiff, reduceCtorEq, Int.reduceLE, Int.reduceToNat, Nat.reduceSub, Bool.not_true, Bool.not_false, e1, handK, heqK])
      cases hbk : K.testBit (j % 64) with
      | true =>
        have hnd : l.set k (newD T K j (secAt l k)) = l := by
          have e0 : newD T K j (secAt l k) = secAt l k := by
            have e1 : crashD T K j (secAt l k) = (secAt l k).data := by simp [crashD, hfr, hbt, hbk]
            unfold newD; rw [e1]
          rw [e0]
          unfold secAt
          rw [List.getD_eq_getElem?_getD, List.getElem?_eq_getElem hk]
          simp
        refine sq_nil (wp_condF (by simp only [Ez.evX, getE_cons, Nat.reduceEqDiff, if_false, if_true, hbk, Bool.not_true]) (wp_skip ?_))
        refine lift (inc _ _ _ hfr ?_ ?_ ?_ ?_ ?_ ?_ ?_ ?_ ?_ ?_ ?_)
        · omega
        · simp only [getE_cons, Nat.reduceEqDiff, if_false, if_true, e1]
        · simp only [getE_cons, Nat.reduceEqDiff, if_false, if_true, e2]
        · simp only [getE_cons, Nat.reduceEqDiff, if_false, if_true, e3]
        · simp only [getE_cons, Nat.reduceEqDiff, if_false, if_true, e6]
        · simp only [getE_cons, Nat.reduceEqDiff, if_false, if_true, e7]
        · simp only [getE_cons, Nat.reduceEqDiff, if_false, if_true, e8]
        · simp only [getE_cons, Nat.reduceEqDiff, if_false, if_true, e18]
        · simp only [getE_cons, Nat.reduceEqDiff, if_false, if_true, e19]
        · rw [hnd]; exact ha
        · intro x _ _; rfl
      | false =>
        have hnd : newD T K j (secAt l k) = ⟨(secAt l k).sure, (secAt l k).sure, (secAt l k).fresh⟩ := by simp [newD, crashD, hfr, hbt, hbk]
        have hp := hput _ hs.2
        refine sq_nil (wp_condT (by simp only [Ez.evX, getE_cons, Nat.reduceEqDiff, if_false, if_true, hbk, Bool.not_false]) (wp_sq ?_))
        iterate 11 (refine sq_cons rfl ?_; simp only [ZS, Ez.lenD, Ez.appR, Ez.appD, Ez.srcOf, Ez.cpyD, Ez.frzV, Ez.frz, Ez.frz1, Ez.splice, if_true, if_false, Nat.reduceEqDiff, reduceIte, Nat.reduceAdd, Nat.reduceMul, Nat.reduceLeDiff, reduceCtorEq, Int.reduceLE, Int.reduceToNat, Nat.reduceSub, Bool.not_true, Bool.not_false, e7, ha, f1, f2, c0, hcl, hls, tbs, p1, r3, hp, x1, x2])
        refine sq_nil (lift (inc _ _ _ hfr ?_ ?_ ?_ ?_ ?_ ?_ ?_ ?_ ?_ ?_ ?_))
        · omega
        · simp only [getE_cons, Nat.reduceEqDiff, if_false, if_true, e1]
        · simp only [getE_cons, Nat.reduceEqDiff, if_false, if_true, e2]
        · simp only [getE_cons, Nat.reduceEqDiff, if_false, if_true, e3]
        · simp only [getE_cons, Nat.reduceEqDiff, if_false, if_true, e6]
        · simp only [getE_cons, Nat.reduceEqDiff, if_false, if_true, e7]
        · simp only [getE_cons, Nat.reduceEqDiff, if_false, if_true, e8]
        · simp only [getE_cons, Nat.reduceEqDiff, if_false, if_true, e18]
        · simp only [getE_cons, Nat.reduceEqDiff, if_false, if_true, e19]
        · simp only [getH_cons, if_true, hnd]
        · intro x y1 y2
          have qx : ∀ c, (N + c = x) = False := fun c => by simp; omega
          simp only [getH_cons, show (aid = x) = False by simp; omega, qx, if_false]

end Go.Proofs.Ytfphnpelampoeaa.Rw

