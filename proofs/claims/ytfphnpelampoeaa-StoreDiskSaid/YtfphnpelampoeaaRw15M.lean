/-
  Writes, by the reference: the good ones; settling, by the program.
-/
import Derived.Test.YtfphnpelampoeaaRw14M
set_option linter.unusedVariables false
set_option linter.unusedSimpArgs false
namespace Go.Proofs.Ytfphnpelampoeaa.Rw
open Go Go.Ez

theorem wr_ok0 {F : Tab} (hF : F.code = code) (hN : ∀ f vs, f ≠ 10 → F.nat f vs = none) (l : List Sec) (hO : Okay l) (h1 : 1 ≤ l.length) (hn : l.length ≤ 256) (le : Int) (k : Nat) (b : List UInt8) (hk : k < l.length) (hb128 : b.length = 128) : RunF F 28 [dskV l false false le, .one (intC k), .one (bytesS b)] [dskV (l.set k ⟨(secAt l k).sure, b, true⟩) false false le, .one (intC 0)] := by
  have hb : (decide ((k : Int) < 0) || decide ((k : Int) ≥ (l.length : Int)) || ((b.length : Int) != 128)) = false := by simp; omega
  refine RunF.diskE (I := I28) (t := 6) (t2 := 7) (by rw [hF]; rfl) (hN 28 _ (by omega)) rfl rfl rfl ?_
  unfold I28
  simp only [bindArgs, boolC, intC, secsS, bytesS, V.toD, dskV, List.map_cons, List.map_nil]
  refine wp_seq (wp_sq ?_)
  iterate 3 (refine sq_cons rfl ?_; simp only [ZS, Ez.lenD, Ez.appR, Ez.appD, Ez.srcOf, Ez.cpyD, Ez.frzV, Ez.frz, Ez.frz1, Ez.splice, if_true, if_false, Ez.intBin, Nat.reduceEqDiff, reduceIte, Nat.reduceAdd, Nat.reduceMul, Nat.reduceLeDiff, reduceCtorEq, Int.reduceLE, Int.reduceToNat, Nat.reduceSub, Bool.not_true, Bool.not_false])
  refine sq_nil (wp_seq (wp_sq ?_))
  iterate 1 (refine sq_cons rfl ?_; simp only [ZS, Ez.lenD, Ez.appR, Ez.appD, Ez.srcOf, Ez.cpyD, Ez.frzV, Ez.frz, Ez.frz1, Ez.splice, if_true, if_false, Ez.intBin, Nat.reduceEqDiff, reduceIte, Nat.reduceAdd, Nat.reduceMul, Nat.reduceLeDiff, reduceCtorEq, Int.reduceLE, Int.reduceToNat, Nat.reduceSub, Bool.not_true, Bool.not_false])
  obtain ⟨rid, ids, h', N', hrun, ho, hNN, hfr⟩ := copied_run hF l hO h1 hn false false le [(1, .box [.full [] 0, .c (.lit (.bool false)), .c (.lit (.bool false)), .c (.lit (.int .i64 0))]), (0, .box [.c (.slice (secsC l) l.length), .c (.lit (.bool false)), .c (.lit (.bool false)), .c (.lit (.int .i64 le))])] 4
  refine sq_lend (ds := [.agg [.c (secsS l), .c (boolC false), .c (boolC false), .c (intC le)]]) (us := []) (by rfl) hrun ?_
  simp only [tupD, Ez.putE, boolC, intC]
  iterate 2 (refine sq_cons rfl ?_; simp only [ZS, Ez.lenD, Ez.appR, Ez.appD, Ez.srcOf, Ez.cpyD, Ez.frzV, Ez.frz, Ez.frz1, Ez.splice, if_true, if_false, Ez.intBin, Nat.reduceEqDiff, reduceIte, Nat.reduceAdd, Nat.reduceMul, Nat.reduceLeDiff, reduceCtorEq, Int.reduceLE, Int.reduceToNat, Nat.reduceSub, Bool.not_true, Bool.not_false])
  have b0 : getH h' 0 = .box [.c (.slice (secsC l) l.length), .c (.lit (.bool false)), .c (.lit (.bool false)), .c (.lit (.int .i64 le))] := by rw [hfr 0 (by omega)]; rfl
  have b1 : getH h' 1 = .box [.full [] 0, .c (.lit (.bool false)), .c (.lit (.bool false)), .c (.lit (.int .i64 0))] := by rw [hfr 1 (by omega)]; rfl
  have z0 : (N' = 0) = False := by simp; omega
  have z1 : (N' = 1) = False := by simp; omega
  have z0' : (0 = N') = False := by simp; omega
  have z1' : (1 = N') = False := by simp; omega
  refine sq_nil (wp_seq (wp_seq (wp_sq ?_)))
  iterate 2 (refine sq_cons rfl ?_; simp only [ZS, Ez.lenD, Ez.appR, Ez.appD, Ez.srcOf, Ez.cpyD, Ez.frzV, Ez.frz, Ez.frz1, Ez.splice, if_true, if_false, Ez.intBin, Nat.reduceEqDiff, reduceIte, Nat.reduceAdd, Nat.reduceMul, Nat.reduceLeDiff, reduceCtorEq, Int.reduceLE, Int.reduceToNat, Nat.reduceSub, Bool.not_true, Bool.not_false, b0, b1, z0, z1])
  refine sq_nil (wp_condF rfl (wp_skip ?_))
  refine wp_seq (wp_seq (wp_sq ?_))
  refine wtest28 F (p := 0) (n := l.length) (m := b.length) (i := (k : Int)) (cells := secsC l) (cb := bytesC b) (d1 := .c (.lit (.bool false))) (d2 := .c (.lit (.bool false))) (d3 := .c (.lit (.int .i64 le))) (D6 := .loc 1 0) (D8 := .loc N' 0) rfl rfl rfl rfl rfl (by simp only [getH_cons, z0, if_false, b0]) ?_
  intro s g1 g0 g2 g3 g4 g5 g6 g7
  obtain ⟨se, sh, sn⟩ := s
  simp only at g1 g0 g2 g3 g4 g5 g6 g7
  subst g1
  rw [hb] at g7
  refine wp_condF g7 (wp_skip ?_)
  refine wp_seq (wp_seq (wp_sq ?_))
  obtain ⟨N2, hN2, hp⟩ := power_off hF (N := sn) (q := N') (X := .arr rid 0 l.length) (d := .c (.lit (.bool false))) (le := le) (h := ((N', .box [.arr rid 0 l.length, .c (.lit (.bool false)), .c (.lit (.bool false)), .c (.lit (.int .i64 le))]) :: (N', .box [.full [] 0, .c (.lit (.bool false)), .c (.lit (.bool false)), .c (.lit (.int .i64 0))]) :: h')) (by simp only [getH_cons, if_true])
  refine sq_lendF (ds := [.loc N' 0]) (us := []) (rs' := [.c (.lit (.bool true))]) (us' := []) (by simp only [List.map_cons, List.map_nil, Ez.evX, g6]; rfl) hp rfl ?_
  simp only [tupD, Ez.putE, Ez.updH]
  iterate 1 (refine sq_cons rfl ?_; simp only [ZS, Ez.lenD, Ez.appR, Ez.appD, Ez.srcOf, Ez.cpyD, Ez.frzV, Ez.frz, Ez.frz1, Ez.splice, if_true, if_false, Ez.intBin, Nat.reduceEqDiff, reduceIte, Nat.reduceAdd, Nat.reduceMul, Nat.reduceLeDiff, reduceCtorEq, Int.reduceLE, Int.reduceToNat, Nat.reduceSub, Bool.not_true, Bool.not_false])
  refine sq_nil (wp_condF rfl (wp_skip ?_))
  refine wr_end hO hn (B := 4) (N1 := N') (q := N') (p := 1) (k := k) ho hk hb128 (fun x xa xb => ?_) (Nat.le_refl _) (by omega) (by omega) (by simp only [getH_cons, z1, if_false, b1]) (by simp only [getE_cons, Nat.reduceEqDiff, if_false, if_true, g2]) (by simp only [getE_cons, Nat.reduceEqDiff, if_false, if_true, g3]) (by simp only [getE_cons, Nat.reduceEqDiff, if_false, if_true, g5]) (by simp only [getE_cons, Nat.reduceEqDiff, if_false, if_true, g6]) (by simp only [getH_cons, if_true])
  simp only [getH_cons, show (N' = x) = False by simp; omega, if_false]

theorem wr_ok1 {F : Tab} (hF : F.code = code) (hN : ∀ f vs, f ≠ 10 → F.nat f vs = none) (l : List Sec) (hO : Okay l) (h1 : 1 ≤ l.length) (hn : l.length ≤ 256) (le : Int) (h0 : 0 < le) (h10 : le < 1000000) (k : Nat) (b : List UInt8) (hk : k < l.length) (hb128 : b.length = 128) : RunF F 28 [dskV l false true le, .one (intC k), .one (bytesS b)] [dskV (l.set k ⟨(secAt l k).sure, b, true⟩) false true (le - 1), .one (intC 0)] := by
  have hb : (decide ((k : Int) < 0) || decide ((k : Int) ≥ (l.length : Int)) || ((b.length : Int) != 128)) = false := by simp; omega
  refine RunF.diskE (I := I28) (t := 6) (t2 := 7) (by rw [hF]; rfl) (hN 28 _ (by omega)) rfl rfl rfl ?_
  unfold I28
  simp only [bindArgs, boolC, intC, secsS, bytesS, V.toD, dskV, List.map_cons, List.map_nil]
  refine wp_seq (wp_sq ?_)
  iterate 3 (refine sq_cons rfl ?_; simp only [ZS, Ez.lenD, Ez.appR, Ez.appD, Ez.srcOf, Ez.cpyD, Ez.frzV, Ez.frz, Ez.frz1, Ez.splice, if_true, if_false, Ez.intBin, Nat.reduceEqDiff, reduceIte, Nat.reduceAdd, Nat.reduceMul, Nat.reduceLeDiff, reduceCtorEq, Int.reduceLE, Int.reduceToNat, Nat.reduceSub, Bool.not_true, Bool.not_false])
  refine sq_nil (wp_seq (wp_sq ?_))
  iterate 1 (refine sq_cons rfl ?_; simp only [ZS, Ez.lenD, Ez.appR, Ez.appD, Ez.srcOf, Ez.cpyD, Ez.frzV, Ez.frz, Ez.frz1, Ez.splice, if_true, if_false, Ez.intBin, Nat.reduceEqDiff, reduceIte, Nat.reduceAdd, Nat.reduceMul, Nat.reduceLeDiff, reduceCtorEq, Int.reduceLE, Int.reduceToNat, Nat.reduceSub, Bool.not_true, Bool.not_false])
  obtain ⟨rid, ids, h', N', hrun, ho, hNN, hfr⟩ := copied_run hF l hO h1 hn false true le [(1, .box [.full [] 0, .c (.lit (.bool false)), .c (.lit (.bool false)), .c (.lit (.int .i64 0))]), (0, .box [.c (.slice (secsC l) l.length), .c (.lit (.bool false)), .c (.lit (.bool true)), .c (.lit (.int .i64 le))])] 4
  refine sq_lend (ds := [.agg [.c (secsS l), .c (boolC false), .c (boolC true), .c (intC le)]]) (us := []) (by rfl) hrun ?_
  simp only [tupD, Ez.putE, boolC, intC]
  iterate 2 (refine sq_cons rfl ?_; simp only [ZS, Ez.lenD, Ez.appR, Ez.appD, Ez.srcOf, Ez.cpyD, Ez.frzV, Ez.frz, Ez.frz1, Ez.splice, if_true, if_false, Ez.intBin, Nat.reduceEqDiff, reduceIte, Nat.reduceAdd, Nat.reduceMul, Nat.reduceLeDiff, reduceCtorEq, Int.reduceLE, Int.reduceToNat, Nat.reduceSub, Bool.not_true, Bool.not_false])
  have b0 : getH h' 0 = .box [.c (.slice (secsC l) l.length), .c (.lit (.bool false)), .c (.lit (.bool true)), .c (.lit (.int .i64 le))] := by rw [hfr 0 (by omega)]; rfl
  have b1 : getH h' 1 = .box [.full [] 0, .c (.lit (.bool false)), .c (.lit (.bool false)), .c (.lit (.int .i64 0))] := by rw [hfr 1 (by omega)]; rfl
  have z0 : (N' = 0) = False := by simp; omega
  have z1 : (N' = 1) = False := by simp; omega
  have z0' : (0 = N') = False := by simp; omega
  have z1' : (1 = N') = False := by simp; omega
  refine sq_nil (wp_seq (wp_seq (wp_sq ?_)))
  iterate 2 (refine sq_cons rfl ?_; simp only [ZS, Ez.lenD, Ez.appR, Ez.appD, Ez.srcOf, Ez.cpyD, Ez.frzV, Ez.frz, Ez.frz1, Ez.splice, if_true, if_false, Ez.intBin, Nat.reduceEqDiff, reduceIte, Nat.reduceAdd, Nat.reduceMul, Nat.reduceLeDiff, reduceCtorEq, Int.reduceLE, Int.reduceToNat, Nat.reduceSub, Bool.not_true, Bool.not_false, b0, b1, z0, z1])
  refine sq_nil (wp_condF rfl (wp_skip ?_))
  refine wp_seq (wp_seq (wp_sq ?_))
  refine wtest28 F (p := 0) (n := l.length) (m := b.length) (i := (k : Int)) (cells := secsC l) (cb := bytesC b) (d1 := .c (.lit (.bool false))) (d2 := .c (.lit (.bool true))) (d3 := .c (.lit (.int .i64 le))) (D6 := .loc 1 0) (D8 := .loc N' 0) rfl rfl rfl rfl rfl (by simp only [getH_cons, z0, if_false, b0]) ?_
  intro s g1 g0 g2 g3 g4 g5 g6 g7
  obtain ⟨se, sh, sn⟩ := s
  simp only at g1 g0 g2 g3 g4 g5 g6 g7
  subst g1
  rw [hb] at g7
  refine wp_condF g7 (wp_skip ?_)
  refine wp_seq (wp_seq (wp_sq ?_))
  obtain ⟨N2, hN2, hp⟩ := power_on hF (N := sn) (q := N') (X := .arr rid 0 l.length) (d := .c (.lit (.bool false))) (le := le) (h := ((N', .box [.arr rid 0 l.length, .c (.lit (.bool false)), .c (.lit (.bool true)), .c (.lit (.int .i64 le))]) :: (N', .box [.full [] 0, .c (.lit (.bool false)), .c (.lit (.bool false)), .c (.lit (.int .i64 0))]) :: h')) (by simp only [getH_cons, if_true]) h0 h10
  refine sq_lendF (ds := [.loc N' 0]) (us := []) (rs' := [.c (.lit (.bool true))]) (us' := []) (by simp only [List.map_cons, List.map_nil, Ez.evX, g6]; rfl) hp rfl ?_
  simp only [tupD, Ez.putE, Ez.updH]
  iterate 1 (refine sq_cons rfl ?_; simp only [ZS, Ez.lenD, Ez.appR, Ez.appD, Ez.srcOf, Ez.cpyD, Ez.frzV, Ez.frz, Ez.frz1, Ez.splice, if_true, if_false, Ez.intBin, Nat.reduceEqDiff, reduceIte, Nat.reduceAdd, Nat.reduceMul, Nat.reduceLeDiff, reduceCtorEq, Int.reduceLE, Int.reduceToNat, Nat.reduceSub, Bool.not_true, Bool.not_false])
  refine sq_nil (wp_condF rfl (wp_skip ?_))
  refine wr_end hO hn (B := 4) (N1 := N') (q := N') (p := 1) (k := k) ho hk hb128 (fun x xa xb => ?_) (Nat.le_refl _) (by omega) (by omega) (by simp only [getH_cons, z1, if_false, b1]) (by simp only [getE_cons, Nat.reduceEqDiff, if_false, if_true, g2]) (by simp only [getE_cons, Nat.reduceEqDiff, if_false, if_true, g3]) (by simp only [getE_cons, Nat.reduceEqDiff, if_false, if_true, g5]) (by simp only [getE_cons, Nat.reduceEqDiff, if_false, if_true, g6]) (by simp only [getH_cons, if_true])
  simp only [getH_cons, show (N' = x) = False by simp; omega, if_false]

theorem Owned.put {l : List Sec} {B rid N k a b slot N2 : Nat} {ids i1 i2 : List (Nat × Nat)} {h h2 : Heap} (ho : Owned l B rid ids h N) (hk : k < l.length) (s1 : ids = i1 ++ (a, b) :: i2) (s2 : i1.length = k) (s3 : Held h i1 (l.take k)) (s6 : Held h i2 (l.drop (k + 1))) {su da : List UInt8} {f : Bool}
    (hs0 : N ≤ slot) (hs1 : slot < N2) (hBN : B ≤ N) (hr : getH h2 rid = .rows (rowD i1 (l.take k) ++ .arr slot 0 128 :: .arr b 0 128 :: .c (boolC f) :: rowD i2 (l.drop (k + 1))) 3 32) (hs : getH h2 slot = .arr (bytesC su) 1 0 5) (hb : getH h2 b = .arr (bytesC da) 1 0 5)
    (hf : ∀ x ∈ flat i1 ++ flat i2, getH h2 x = getH h x) : Owned (l.set k ⟨su, da, f⟩) B rid (i1 ++ (slot, b) :: i2) h2 N2 := by
  have hset : l.set k ⟨su, da, f⟩ = l.take k ++ ⟨su, da, f⟩ :: l.drop (k + 1) := Go.Proofs.Ytfphnpelampoeaa.set_getD noSec _ k l hk
  have hlen : i1.length = (l.take k).length := by rw [s2, List.length_take]; omega
  have hnd := ho.nd
  have hlo := ho.lo
  rw [s1, flat_app, show flat ((a, b) :: i2) = a :: b :: flat i2 from rfl] at hnd hlo
  refine ⟨?_, ?_, ?_, ?_⟩
  · rw [hr, hset, rowD_app hlen]; rfl
  · rw [hset]
    exact (s3.frame fun x hx => hf x (by simp [hx])).app ⟨hs, hb, s6.frame fun x hx => hf x (by simp [hx])⟩
  · rw [flat_app, show flat ((slot, b) :: i2) = slot :: b :: flat i2 from rfl]
    have p1 : (rid :: (flat i1 ++ slot :: b :: flat i2)).Perm (slot :: (rid :: (flat i1 ++ b :: flat i2))) := (List.Perm.cons rid List.perm_middle).trans (List.Perm.swap ..)
    refine p1.symm.nodup (List.nodup_cons.2 ⟨fun hx => ?_, ?_⟩)
    · have : slot ∈ rid :: (flat i1 ++ a :: b :: flat i2) := by
        simp only [List.mem_cons, List.mem_append] at hx ⊢
        rcases hx with hx | hx | hx | hx
        · exact .inl hx
        · exact .inr (.inl hx)
        · exact .inr (.inr (.inr (.inl hx)))
        · exact .inr (.inr (.inr (.inr hx)))
      have := (hlo slot this).2
      omega
    · have p2 : (rid :: (flat i1 ++ a :: b :: flat i2)).Perm (a :: (rid :: (flat i1 ++ b :: flat i2))) := (List.Perm.cons rid List.perm_middle).trans (List.Perm.swap ..)
      exact (List.nodup_cons.1 (p2.nodup hnd)).2
  · intro x hx
    rw [flat_app, show flat ((slot, b) :: i2) = slot :: b :: flat i2 from rfl] at hx
    simp only [List.mem_cons, List.mem_append] at hx
    rcases hx with hx | hx | hx | hx | hx
    · have := hlo x (by simp [hx]); omega
    · have := hlo x (by simp [hx]); omega
    · omega
    · have := hlo x (by simp [hx]); omega
    · have := hlo x (by simp [hx]); omega

/-- all data durable -/
def settleP (l : List Sec) : List Sec := l.map fun s => ⟨s.data, s.data, false⟩

theorem s36_round (F : Tab) {Q : Ex → St → Prop} {e : Env} {h : Heap} {N aid k : Nat} {l : List Sec} (hO : Okay l) (hn : l.length ≤ 256) (e3 : getE e 3 = .arr aid 0 l.length) (e8 : getE e 8 = .c (.lit (.int .i64 (l.length : Int)))) (e9 : getE e 9 = .c (.lit (.int .i64 (k : Int)))) (ha : getH h aid = .arr (secsC l) 3 0 32) (haN : aid < N) (hk : k < l.length)
    (hQ : ∀ s : St, getE s.env 3 = .arr aid 0 l.length → getE s.env 8 = .c (.lit (.int .i64 (l.length : Int))) → getE s.env 9 = .c (.lit (.int .i64 ((k + 1 : Nat) : Int))) → getH s.heap aid = .arr (secsC (l.set k ⟨(secAt l k).data, (secAt l k).data, false⟩)) 3 0 32 → aid < s.nx → Q .normal s) : WP F B36_0 ⟨e, h, N⟩ Q := by
  have hlt : decide ((k : Int) < (l.length : Int)) = true := by simpa using hk
  have hlt2 : ((k : Int) < (l.length : Int)) = True := by simpa using hk
  have hs := hO _ (secAt_mem l k hk)
  have g1 : (secsC l)[k * 3 + 1]? = some (.slice (bytesC (secAt l k).data) 128) := by rw [secsC_get1 k l hk, bytesS, hs.1]
  have hbl : (bytesC (secAt l k).data).length = 128 := by rw [bytesC_len]; exact hs.1
  have tb : List.take 128 (bytesC (secAt l k).data) = bytesC (secAt l k).data := List.take_of_length_le (by omega)
  have p1 : ((0 : Nat) < 1) = True := by simp
  have r3 : (128 ≤ roomMax) = True := by simp [roomMax]
  have f1 : (k * 3 + 1 ≤ l.length * 3) = True := by simp; omega
  have f3 : (k * 3 + 3 ≤ l.length * 3) = True := by simp; omega
  have hcl := secsC_len l
  have hcl1 : (secsC (l.set k { secAt l k with sure := (secAt l k).data })).length = l.length * 3 := by rw [secsC_len]; simp
  have hp0 : (secsC l).take (k * 3) ++ [.slice (bytesC (secAt l k).data) 128] ++ (secsC l).drop (k * 3 + 1) = secsC (l.set k { secAt l k with sure := (secAt l k).data }) := by
    rw [List.append_assoc, ← secsC_put0 k l hk, bytesS, hs.1]; rfl
  have hp2 : (secsC (l.set k { secAt l k with sure := (secAt l k).data })).take (k * 3 + 2) ++ [.lit (.bool false)] ++ (secsC (l.set k { secAt l k with sure := (secAt l k).data })).drop (k * 3 + 3) = secsC (l.set k ⟨(secAt l k).data, (secAt l k).data, false⟩) := by
    rw [List.append_assoc]
    have := secsC_put2 k (l.set k { secAt l k with sure := (secAt l k).data }) (by simpa using hk) false
    rw [List.set_set, Go.Proofs.Ytfphnpelampoeaa.secAt_set l k _ hk] at this
    exact this
  have x1 : ∀ c, (N + c = aid) = False := fun c => by simp; omega
  have x2 : ∀ c, (aid = N + c) = False := fun c => by simp; omega
  have hw : IntKind.wrap .i64 ((k : Int) + 1) = ((k + 1 : Nat) : Int) := by rw [Go.Proofs.Ytfphnpelampoeaa.wrap_i64 _ (by omega)]; rfl
  unfold B36_0
  refine wp_seq (wp_sq ?_)
  iterate 1 (refine sq_cons rfl ?_; simp only [ZS, Ez.lenD, Ez.appR, Ez.appD, Ez.srcOf, Ez.cpyD, Ez.frzV, Ez.frz, Ez.frz1, Ez.splice, if_true, if_false, Ez.intBin, Nat.reduceEqDiff, reduceIte, Nat.reduceAdd, Nat.reduceMul, Nat.reduceLeDiff, reduceCtorEq, Int.reduceLE, Int.reduceToNat, Nat.reduceSub, Bool.not_true, Bool.not_false, e3, e8, e9, hlt, hlt2, ha, g1, hbl, p1, r3, f1, f3, hcl, hcl1, hp0, hp2, tb, x1, x2, hw])
  refine sq_nil (wp_seq (wp_condT rfl (wp_skip ?_)))
  refine wp_seq (wp_block (wp_seq (wp_sq ?_)))
  iterate 2 (refine sq_cons rfl ?_; simp only [ZS, Ez.lenD, Ez.appR, Ez.appD, Ez.srcOf, Ez.cpyD, Ez.frzV, Ez.frz, Ez.frz1, Ez.splice, if_true, if_false, Ez.intBin, Nat.reduceEqDiff, reduceIte, Nat.reduceAdd, Nat.reduceMul, Nat.reduceLeDiff, reduceCtorEq, Int.reduceLE, Int.reduceToNat, Nat.reduceSub, Bool.not_true, Bool.not_false, e3, e8, e9, hlt, hlt2, ha, g1, hbl, p1, r3, f1, f3, hcl, hcl1, hp0, hp2, tb, x1, x2, hw])
  refine sq_nil (wp_seq (wp_sq ?_))
  iterate 11 (refine sq_cons rfl ?_; simp only [ZS, Ez.lenD, Ez.appR, Ez.appD, Ez.srcOf, Ez.cpyD, Ez.frzV, Ez.frz, Ez.frz1, Ez.splice, if_true, if_false, Ez.intBin, Nat.reduceEqDiff, reduceIte, Nat.reduceAdd, Nat.reduceMul, Nat.reduceLeDiff, reduceCtorEq, Int.reduceLE, Int.reduceToNat, Nat.reduceSub, Bool.not_true, Bool.not_false, e3, e8, e9, hlt, hlt2, ha, g1, hbl, p1, r3, f1, f3, hcl, hcl1, hp0, hp2, tb, x1, x2, hw])
  refine sq_nil (wp_sq ?_)
  iterate 5 (refine sq_cons rfl ?_; simp only [ZS, Ez.lenD, Ez.appR, Ez.appD, Ez.srcOf, Ez.cpyD, Ez.frzV, Ez.frz, Ez.frz1, Ez.splice, if_true, if_false, Ez.intBin, Nat.reduceEqDiff, reduceIte, Nat.reduceAdd, Nat.reduceMul, Nat.reduceLeDiff, reduceCtorEq, Int.reduceLE, Int.reduceToNat, Nat.reduceSub, Bool.not_true, Bool.not_false, e3, e8, e9, hlt, hlt2, ha, g1, hbl, p1, r3, f1, f3, hcl, hcl1, hp0, hp2, tb, x1, x2, hw])
  refine sq_nil (wp_sq ?_)
  iterate 2 (refine sq_cons rfl ?_; simp only [ZS, Ez.lenD, Ez.appR, Ez.appD, Ez.srcOf, Ez.cpyD, Ez.frzV, Ez.frz, Ez.frz1, Ez.splice, if_true, if_false, Ez.intBin, Nat.reduceEqDiff, reduceIte, Nat.reduceAdd, Nat.reduceMul, Nat.reduceLeDiff, reduceCtorEq, Int.reduceLE, Int.reduceToNat, Nat.reduceSub, Bool.not_true, Bool.not_false, e3, e8, e9, hlt, hlt2, ha, g1, hbl, p1, r3, f1, f3, hcl, hcl1, hp0, hp2, tb, x1, x2, hw])
  refine sq_nil (hQ _ ?_ ?_ ?_ ?_ ?_)
  · simp only [getE_cons, Nat.reduceEqDiff, if_false, if_true, e3]
  · simp only [getE_cons, Nat.reduceEqDiff, if_false, if_true, e8]
  · simp only [getE_cons, Nat.reduceEqDiff, if_false, if_true]
  · simp only [getH_cons, if_true]
  · simp only; omega

theorem s36_out (F : Tab) {Q : Ex → St → Prop} {e : Env} {h : Heap} {N n : Nat} (e8 : getE e 8 = .c (.lit (.int .i64 (n : Int)))) (e9 : getE e 9 = .c (.lit (.int .i64 (n : Int)))) (hQ : ∀ s : St, s.heap = h → getE s.env 3 = getE e 3 → Q (.exit 0) s) : WP F B36_0 ⟨e, h, N⟩ Q := by
  have hlt : decide ((n : Int) < (n : Int)) = false := by simp
  unfold B36_0
  refine wp_seq (wp_sq ?_)
  iterate 1 (refine sq_cons rfl ?_; simp only [ZS, Ez.lenD, Ez.appR, Ez.appD, Ez.srcOf, Ez.cpyD, Ez.frzV, Ez.frz, Ez.frz1, Ez.splice, if_true, if_false, Ez.intBin, Nat.reduceEqDiff, reduceIte, Nat.reduceAdd, Nat.reduceMul, Nat.reduceLeDiff, reduceCtorEq, Int.reduceLE, Int.reduceToNat, Nat.reduceSub, Bool.not_true, Bool.not_false, e8, e9, hlt])
  refine sq_nil (wp_seq (wp_condF rfl (wp_exit (hQ _ rfl ?_))))
  simp only [getE_cons, Nat.reduceEqDiff, if_false, if_true]

/-- the first k sectors are durable -/
def setK (k : Nat) (l : List Sec) : List Sec := settleP (l.take k) ++ l.drop k

theorem setK_len (k : Nat) (l : List Sec) : (setK k l).length = l.length := by simp [setK, settleP]; omega
theorem setK_at (k : Nat) (l : List Sec) (h : k < l.length) : secAt (setK k l) k = secAt l k := by
  unfold secAt setK
  rw [List.getD_eq_getElem?_getD, List.getElem?_append_right (by simp [settleP]; omega), List.getD_eq_getElem?_getD]
  simp [settleP, Nat.min_eq_left (Nat.le_of_lt h)]
theorem setK_succ (k : Nat) (l : List Sec) (h : k < l.length) : (setK k l).set k ⟨(secAt l k).data, (secAt l k).data, false⟩ = setK (k + 1) l := by
  have hl : (settleP (l.take k)).length = k := by simp [settleP]; omega
  unfold setK
  rw [take_succ_at l k h, List.set_append, if_neg (by omega), hl, Nat.sub_self, drop_getD noSec k l h]
  simp only [List.set_cons_zero, settleP, List.map_append, List.map_cons, List.map_nil, List.append_assoc, List.cons_append, List.nil_append]
theorem setK_all (l : List Sec) : setK l.length l = settleP l := by simp [setK]
theorem Okay.set {l : List Sec} (h : Okay l) (k : Nat) (s : Sec) (hs : s.data.length = 128 ∧ s.sure.length = 128) : Okay (l.set k s) := by
  intro t ht
  rcases List.mem_or_eq_of_mem_set ht with h1 | rfl
  · exact h t h1
  · exact hs
theorem Okay.setK {l : List Sec} (h : Okay l) (k : Nat) : Okay (setK k l) := by
  intro s hs
  rw [Rw.setK, List.mem_append] at hs
  rcases hs with hs | hs
  · rw [settleP, List.mem_map] at hs
    obtain ⟨t, ht, rfl⟩ := hs
    have := h t (List.mem_of_mem_take ht)
    exact ⟨this.1, this.1⟩
  · exact h s (List.mem_of_mem_drop hs)

theorem s36_loop (F : Tab) (l : List Sec) (hO : Okay l) (hn : l.length ≤ 256) (aid : Nat) {Q : Ex → St → Prop} (hQ : ∀ s : St, getE s.env 3 = .arr aid 0 l.length → getH s.heap aid = .arr (secsC (settleP l)) 3 0 32 → Q (.exit 0) s) :
    ∀ (m k N : Nat) (e : Env) (h : Heap), k + m = l.length → getE e 3 = .arr aid 0 l.length → getE e 8 = .c (.lit (.int .i64 (l.length : Int))) → getE e 9 = .c (.lit (.int .i64 (k : Int))) → getH h aid = .arr (secsC (setK k l)) 3 0 32 → aid < N → WP F (.loop B36_0) ⟨e, h, N⟩ Q
  | 0, k, N, e, h, hk, e3, e8, e9, ha, haN => by
    have hkl : k = l.length := by omega
    subst hkl
    refine wp_loop (s36_out F e8 e9 fun s g1 g2 => hQ s (by rw [g2]; exact e3) (by rw [g1, ha, setK_all]))
  | m + 1, k, N, e, h, hk, e3, e8, e9, ha, haN => by
    have hkl : k < l.length := by omega
    refine wp_loop (s36_round F (l := setK k l) (hO.setK k) (by rw [setK_len]; exact hn) (by rw [setK_len]; exact e3) (by rw [setK_len]; exact e8) e9 ha haN (by rw [setK_len]; exact hkl) ?_)
    intro s g1 g2 g3 g4 g5
    obtain ⟨se, sh, sn⟩ := s
    rw [setK_len] at g1 g2
    rw [setK_at k l hkl, setK_succ k l hkl] at g4
    exact s36_loop F l hO hn aid hQ m (k + 1) sn se sh (by omega) g1 g2 g3 g4 g5

/-- it returns a slice -/
def RetS (c : C) (x : Ex) (s : St) : Prop := x = .ret ∧ ∃ d us, getE s.env 2 = d ∧ frz s.heap d = some (c, us)

theorem settle36 {F : Tab} (hF : F.code = code) (hN : ∀ f vs, f ≠ 10 → F.nat f vs = none) (l : List Sec) (hO : Okay l) (h1 : 1 ≤ l.length) (hn : l.length ≤ 256) : RunF F 36 [.one (secsS l)] [.one (secsS (settleP l))] := by
  have hcl := secsC_len l
  have p3 : ((0 : Nat) < 3) = True := by simp
  have r1 : (l.length * 56 ≤ roomMax) = True := by simp [roomMax]; omega
  have r2 : (l.length ≤ roomMax) = True := by simp [roomMax]; omega
  have n0 : (l.length = 0) = False := eq_false (by omega)
  have key : WP F I36.body ⟨bindArgs 0 [.c (secsS l)], [], 0⟩ (RetS (secsS (settleP l))) := by
    unfold I36
    simp only [bindArgs, secsS]
    refine wp_seq (wp_sq ?_)
    iterate 1 (refine sq_cons rfl ?_; simp only [ZS, Ez.lenD, Ez.appR, Ez.appD, Ez.srcOf, Ez.cpyD, Ez.frzV, Ez.frz, Ez.frz1, Ez.splice, if_true, if_false, Ez.intBin, Nat.reduceEqDiff, reduceIte, Nat.reduceAdd, Nat.reduceMul, Nat.reduceLeDiff, reduceCtorEq, Int.reduceLE, Int.reduceToNat, Nat.reduceSub, Bool.not_true, Bool.not_false])
    refine sq_nil (wp_seq (wp_sq ?_))
    iterate 3 (refine sq_cons rfl ?_; simp only [ZS, Ez.lenD, Ez.appR, Ez.appD, Ez.srcOf, Ez.cpyD, Ez.frzV, Ez.frz, Ez.frz1, Ez.splice, if_true, if_false, Ez.intBin, Nat.reduceEqDiff, reduceIte, Nat.reduceAdd, Nat.reduceMul, Nat.reduceLeDiff, reduceCtorEq, Int.reduceLE, Int.reduceToNat, Nat.reduceSub, Bool.not_true, Bool.not_false, hcl, p3, r1, r2, n0])
    refine sq_nil (wp_seq (wp_seq (wp_sq ?_)))
    iterate 3 (refine sq_cons rfl ?_; simp only [ZS, Ez.lenD, Ez.appR, Ez.appD, Ez.srcOf, Ez.cpyD, Ez.frzV, Ez.frz, Ez.frz1, Ez.splice, if_true, if_false, Ez.intBin, Nat.reduceEqDiff, reduceIte, Nat.reduceAdd, Nat.reduceMul, Nat.reduceLeDiff, reduceCtorEq, Int.reduceLE, Int.reduceToNat, Nat.reduceSub, Bool.not_true, Bool.not_false])
    refine sq_nil (wp_block (s36_loop F l hO hn 2 ?_ l.length 0 _ _ _ (by omega) (by simp only [getE_cons, Nat.reduceEqDiff, if_false, if_true]) (by simp only [getE_cons, Nat.reduceEqDiff, if_false, if_true]) (by simp only [getE_cons, Nat.reduceEqDiff, if_false, if_true]; rfl) (by simp only [getH_cons, if_true]; rfl) (by omega)))
    intro s g1 g2
    obtain ⟨se, sh, sn⟩ := s
    simp only at g1 g2
    simp only [if_true]
    refine wp_seq (wp_sq ?_)
    iterate 2 (refine sq_cons rfl ?_; simp only [ZS, Ez.lenD, Ez.appR, Ez.appD, Ez.srcOf, Ez.cpyD, Ez.frzV, Ez.frz, Ez.frz1, Ez.splice, if_true, if_false, Ez.intBin, Nat.reduceEqDiff, reduceIte, Nat.reduceAdd, Nat.reduceMul, Nat.reduceLeDiff, reduceCtorEq, Int.reduceLE, Int.reduceToNat, Nat.reduceSub, Bool.not_true, Bool.not_false, g1])
    refine sq_nil (wp_ret ⟨rfl, .arr 2 0 l.length, if l.length * 3 ≤ 0 then [] else [(2, .arr (secsC (settleP l)) 3 (l.length * 3) 32)], ?_, ?_⟩)
    · simp only [getE_cons, Nat.reduceEqDiff, if_false, if_true]
    · have e1 : (settleP l).length = l.length := by simp [settleP]
      have e2 := secsC_len (settleP l)
      rw [e1] at e2
      simp only [frz, g2, frz1, Nat.zero_add, e2, Nat.le_refl, if_true, List.drop_zero]
      rw [List.take_of_length_le (by omega)]
      simp only [e1]
  obtain ⟨x, s, hrun, rfl, d, us, g1, g2⟩ := key
  have hd : ∀ ts, d ≠ .tup ts := by intro ts hd; subst hd; simp [frz, frz1] at g2
  have hda : ∀ ts, d ≠ .agg ts := by intro ts hd; subst hd; simp [frz, frz1] at g2
  refine RunF.body (us := us) (hN 36 _ (by omega)) (RunB.fn (I := I36) (rs := [d]) (by rw [hF]; rfl) rfl hrun (by simp) ?_) ?_
  · simp only [I36, resD, g1, Option.bind_eq_bind, Option.bind_some]
    try (cases d <;> first | rfl | exact absurd rfl (hd _))
  · have a1 : frzV s.heap d = some (.one (secsS (settleP l)), us) := by
      cases d <;> first | (simp only [frzV, g2, Option.bind_eq_bind, Option.bind_some]; done) | exact absurd rfl (hda _)
    simp only [frzVs, a1, Option.bind_eq_bind, Option.bind_some, List.append_nil]

end Go.Proofs.Ytfphnpelampoeaa.Rw

