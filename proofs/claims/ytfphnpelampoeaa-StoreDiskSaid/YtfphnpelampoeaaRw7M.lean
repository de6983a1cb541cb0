/-
  Equal bytes and valid disks: what the functions return.
-/
import Derived.Test.YtfphnpelampoeaaRw6M
set_option linter.unusedVariables false
set_option linter.unusedSimpArgs false
namespace Go.Proofs.Ytfphnpelampoeaa.Rw
open Go Go.Ez

theorem toList_loop (b : ByteArray) : ∀ (n i : Nat) (r : List UInt8), b.size - i = n → ByteArray.toList.loop b i r = r.reverse ++ b.data.toList.drop i
  | 0, i, r, h => by
    have hs : b.data.toList.length = b.size := rfl
    rw [ByteArray.toList.loop, if_neg (by omega), List.drop_eq_nil_of_le (by omega)]
    simp
  | n + 1, i, r, h => by
    have hs : b.data.toList.length = b.size := rfl
    have hi : i < b.data.toList.length := by omega
    rw [ByteArray.toList.loop, if_pos (by omega), toList_loop b n (i + 1) (b.get! i :: r) (by omega), List.drop_eq_getElem_cons hi]
    have : b.get! i = b.data.toList[i] := by
      have h1 : b.get! i = b.data[i]! := rfl
      rw [h1, getElem!_pos b.data i (by rw [Array.length_toList] at hi; exact hi), Array.getElem_toList]
    simp [this]

theorem toList_mk (l : List UInt8) : (ByteArray.mk l.toArray).toList = l := by
  unfold ByteArray.toList
  rw [toList_loop _ _ 0 [] rfl]
  simp

theorem bytesOf_bytesC : ∀ l : List UInt8, bytesOf (bytesC l) = some l
  | [] => rfl
  | b :: l => by
    have := bytesOf_bytesC l
    simp only [bytesC] at this
    simp only [bytesC, List.map_cons, byteC, bytesOf, this, Option.bind_eq_bind, Option.bind_some]
    congr 2
    simp

/-- it returns with this in that temporary -/
def RetT (t : Nat) (d : D) (x : Ex) (s : St) : Prop := x = .ret ∧ getE s.env t = d

theorem same31 {F : Tab} (hF : F.code = code) (hN : ∀ vs, F.nat 31 vs = none) (a b : List UInt8) : RunF F 31 [.one (bytesS a), .one (bytesS b)] [.one (.lit (.bool (a == b)))] := by
  have key : WP F I31.body ⟨bindArgs 0 [.c (bytesS a), .c (bytesS b)], [], 0⟩ (RetT 4 (.c (.lit (.bool (a == b))))) := by
    unfold I31
    simp only [bindArgs, bytesS]
    refine wp_seq (wp_sq ?_)
    iterate 1 (refine sq_cons rfl ?_; simp only [ZS, Ez.lenD, Ez.appR, Ez.appD, Ez.srcOf, Ez.cpyD, Ez.frzV, Ez.frz, Ez.frz1, Ez.splice, if_true, if_false, Ez.intBin, Nat.reduceEqDiff, reduceIte, Nat.reduceAdd, Nat.reduceMul, Nat.reduceLeDiff, reduceCtorEq, Int.reduceLE, Int.reduceToNat, Bool.not_true, Bool.not_false])
    refine sq_nil (wp_seq (wp_sq ?_))
    iterate 6 (refine sq_cons rfl ?_; simp only [ZS, Ez.lenD, Ez.appR, Ez.appD, Ez.srcOf, Ez.cpyD, Ez.frzV, Ez.frz, Ez.frz1, Ez.splice, if_true, if_false, Ez.intBin, Nat.reduceEqDiff, reduceIte, Nat.reduceAdd, Nat.reduceMul, Nat.reduceLeDiff, reduceCtorEq, Int.reduceLE, Int.reduceToNat, Bool.not_true, Bool.not_false, srcB, bytesC_len, bytesOf_bytesC, strBin, toList_mk])
    exact sq_nil (wp_ret ⟨rfl, rfl⟩)
  obtain ⟨x, s, hrun, rfl, g1⟩ := key
  refine RunF.body (us := []) (hN _) (RunB.fn (I := I31) (rs := [.c (.lit (.bool (a == b)))]) (by rw [hF]; rfl) rfl hrun (by simp) (by simp [I31, resD, g1])) ?_
  rfl

theorem drop_bytes (l : List UInt8) (k : Nat) (h : k < l.length) : (bytesC l).drop k = .lit (.int .u8 ((byteAt l k).toNat : Int)) :: bytesC (l.drop (k + 1)) := by
  rw [bytesC, ← List.map_drop, drop_getD 0 k l h]; rfl

theorem s32_round (F : Tab) {Q : Ex → St → Prop} {e : Env} {h : Heap} {N k n : Nat} {ca cb ra rb : List C} {x y : Int} {E : Bool} (e0 : getE e 0 = .c (.slice ca n)) (e1 : getE e 1 = .c (.slice cb n)) (e5 : getE e 5 = .c (.lit (.int .i64 (k : Int)))) (hk : k < n) (hn : n ≤ 100000)
    (ha : ca.drop k = .lit (.int .u8 x) :: ra) (hb : cb.drop k = .lit (.int .u8 y) :: rb) (hE : (x != y) = E)
    (hQ0 : E = false → ∀ s : St, s.heap = h → getE s.env 0 = .c (.slice ca n) → getE s.env 1 = .c (.slice cb n) → getE s.env 5 = .c (.lit (.int .i64 ((k + 1 : Nat) : Int))) → Q .normal s)
    (hQ1 : E = true → ∀ s : St, s.heap = h → getE s.env 4 = .c (.lit (.bool false)) → Q .ret s) : WP F B32_0 ⟨e, h, N⟩ Q := by
  have hlt : decide ((k : Int) < (n : Int)) = true := by simpa using hk
  have hlt' : ((k : Int) < (n : Int)) = True := by simpa using hk
  have hw : IntKind.wrap .i64 ((k : Int) + 1) = ((k + 1 : Nat) : Int) := by rw [Go.Proofs.Ytfphnpelampoeaa.wrap_i64 _ (by omega)]; rfl
  unfold B32_0
  refine wp_seq (wp_seq (wp_sq ?_))
  iterate 4 (refine sq_cons rfl ?_; simp only [ZS, Ez.lenD, Ez.appR, Ez.appD, Ez.srcOf, Ez.cpyD, Ez.frzV, Ez.frz, Ez.frz1, Ez.splice, if_true, if_false, Ez.intBin, Nat.reduceEqDiff, reduceIte, Nat.reduceAdd, Nat.reduceMul, Nat.reduceLeDiff, reduceCtorEq, Int.reduceLE, Int.reduceToNat, Bool.not_true, Bool.not_false, e0, e5, hlt])
  refine sq_nil (wp_condT rfl (wp_skip ?_))
  refine wp_seq (wp_block (wp_seq (wp_dr ?_)))
  iterate 9 (refine dr_cons rfl ?_; simp only [ZS, Ez.lenD, Ez.appR, Ez.appD, Ez.srcOf, Ez.cpyD, Ez.frzV, Ez.frz, Ez.frz1, Ez.splice, if_true, if_false, Ez.intBin, Nat.reduceEqDiff, reduceIte, Nat.reduceAdd, Nat.reduceMul, Nat.reduceLeDiff, reduceCtorEq, Int.reduceLE, Int.reduceToNat, Bool.not_true, Bool.not_false, e0, e1, e5, hlt', ha, hb, hE])
  refine dr_nil ⟨?_, ?_⟩
  · simp [drawOk, drawFrom, okRow, clash, meets, touches, frzIds, ids1, opX, tmpsX, Nat.testBit, evX, getE_cons, e0, e1, e5]
  cases E
  · refine wp_condF rfl (wp_skip ?_)
    refine wp_sq ?_
    iterate 3 (refine sq_cons rfl ?_; simp only [ZS, Ez.lenD, Ez.appR, Ez.appD, Ez.srcOf, Ez.cpyD, Ez.frzV, Ez.frz, Ez.frz1, Ez.splice, if_true, if_false, Ez.intBin, Nat.reduceEqDiff, reduceIte, Nat.reduceAdd, Nat.reduceMul, Nat.reduceLeDiff, reduceCtorEq, Int.reduceLE, Int.reduceToNat, Bool.not_true, Bool.not_false, e5, hw])
    refine sq_nil (hQ0 rfl _ rfl ?_ ?_ ?_) <;> simp only [getE_cons, Nat.reduceEqDiff, if_false, if_true, e0, e1]
  · refine wp_condT rfl (wp_seq (wp_sq ?_))
    iterate 1 (refine sq_cons rfl ?_; simp only [ZS, Ez.lenD, Ez.appR, Ez.appD, Ez.srcOf, Ez.cpyD, Ez.frzV, Ez.frz, Ez.frz1, Ez.splice, if_true, if_false, Ez.intBin, Nat.reduceEqDiff, reduceIte, Nat.reduceAdd, Nat.reduceMul, Nat.reduceLeDiff, reduceCtorEq, Int.reduceLE, Int.reduceToNat, Bool.not_true, Bool.not_false])
    refine sq_nil (wp_ret (hQ1 rfl _ rfl ?_))
    simp only [getE_cons, Nat.reduceEqDiff, if_false, if_true]

theorem s32_out (F : Tab) {Q : Ex → St → Prop} {e : Env} {h : Heap} {N n : Nat} {ca : List C} (e0 : getE e 0 = .c (.slice ca n)) (e5 : getE e 5 = .c (.lit (.int .i64 (n : Int)))) (hQ : ∀ s : St, s.heap = h → Q (.exit 0) s) : WP F B32_0 ⟨e, h, N⟩ Q := by
  have hlt : decide ((n : Int) < (n : Int)) = false := by simp
  unfold B32_0
  refine wp_seq (wp_seq (wp_sq ?_))
  iterate 4 (refine sq_cons rfl ?_; simp only [ZS, Ez.lenD, Ez.appR, Ez.appD, Ez.srcOf, Ez.cpyD, Ez.frzV, Ez.frz, Ez.frz1, Ez.splice, if_true, if_false, Ez.intBin, Nat.reduceEqDiff, reduceIte, Nat.reduceAdd, Nat.reduceMul, Nat.reduceLeDiff, reduceCtorEq, Int.reduceLE, Int.reduceToNat, Bool.not_true, Bool.not_false, e0, e5, hlt])
  exact sq_nil (wp_condF rfl (wp_exit (hQ _ rfl)))

theorem byte_ne (x y : UInt8) : ((x.toNat : Int) != (y.toNat : Int)) = (x != y) := by
  by_cases h : x = y
  · subst h; simp
  · have : x.toNat ≠ y.toNat := fun e => h (UInt8.toNat_inj.1 e)
    have h1 : (x != y) = true := by simpa using h
    rw [h1]; simp; omega

theorem s32_loop (F : Tab) (a b : List UInt8) (hab : a.length = b.length) (hn : a.length ≤ 100000) {Q : Ex → St → Prop} (h : Heap) (hQ0 : a = b → ∀ s : St, s.heap = h → Q (.exit 0) s) (hQ1 : a ≠ b → ∀ s : St, s.heap = h → getE s.env 4 = .c (.lit (.bool false)) → Q .ret s) :
    ∀ (m k N : Nat) (e : Env), k + m = a.length → a.take k = b.take k → getE e 0 = .c (.slice (bytesC a) a.length) → getE e 1 = .c (.slice (bytesC b) a.length) → getE e 5 = .c (.lit (.int .i64 (k : Int))) → WP F (.loop B32_0) ⟨e, h, N⟩ Q
  | 0, k, N, e, hk, ht, e0, e1, e5 => by
    have hkl : k = a.length := by omega
    subst hkl
    refine wp_loop (s32_out F e0 e5 fun s hs => hQ0 ?_ s hs)
    rw [List.take_length, hab, List.take_length] at ht
    exact ht
  | m + 1, k, N, e, hk, ht, e0, e1, e5 => by
    have hka : k < a.length := by omega
    have hkb : k < b.length := by omega
    have hE := byte_ne (byteAt a k) (byteAt b k)
    refine wp_loop (s32_round F e0 e1 e5 hka hn (drop_bytes a k hka) (drop_bytes b k hkb) hE ?_ ?_)
    · intro hz s g1 g2 g3 g4
      obtain ⟨se, sh, sn⟩ := s
      simp only at g1 g2 g3 g4
      subst g1
      refine s32_loop F a b hab hn sh hQ0 hQ1 m (k + 1) sn se (by omega) ?_ g2 g3 g4
      have hxy : byteAt a k = byteAt b k := by simpa using hz
      have t1 : ∀ (l : List UInt8), k < l.length → l.take (k + 1) = l.take k ++ [byteAt l k] := by
        intro l hl
        unfold byteAt
        rw [List.take_add_one, List.getD_eq_getElem?_getD, List.getElem?_eq_getElem hl]; rfl
      rw [t1 a hka, t1 b hkb, ht, hxy]
    · intro hz s g1 g2
      refine hQ1 (fun hab' => ?_) s g1 g2
      subst hab'
      simp at hz

theorem same32 {F : Tab} (hF : F.code = code) (hN : ∀ vs, F.nat 32 vs = none) (a b : List UInt8) (hn : a.length ≤ 100000) : RunF F 32 [.one (bytesS a), .one (bytesS b)] [.one (.lit (.bool (a == b)))] := by
  have key : WP F I32.body ⟨bindArgs 0 [.c (bytesS a), .c (bytesS b)], [], 0⟩ (RetT 4 (.c (.lit (.bool (a == b))))) := by
    unfold I32
    simp only [bindArgs, bytesS]
    refine wp_seq (wp_sq ?_)
    iterate 1 (refine sq_cons rfl ?_; simp only [ZS, Ez.lenD, Ez.appR, Ez.appD, Ez.srcOf, Ez.cpyD, Ez.frzV, Ez.frz, Ez.frz1, Ez.splice, if_true, if_false, Ez.intBin, Nat.reduceEqDiff, reduceIte, Nat.reduceAdd, Nat.reduceMul, Nat.reduceLeDiff, reduceCtorEq, Int.reduceLE, Int.reduceToNat, Bool.not_true, Bool.not_false])
    refine sq_nil (wp_seq (wp_seq (wp_sq ?_)))
    by_cases hl : a.length = b.length
    · have hl1 : ((a.length : Int) != (b.length : Int)) = false := by simp; omega
      iterate 5 (refine sq_cons rfl ?_; simp only [ZS, Ez.lenD, Ez.appR, Ez.appD, Ez.srcOf, Ez.cpyD, Ez.frzV, Ez.frz, Ez.frz1, Ez.splice, if_true, if_false, Ez.intBin, Nat.reduceEqDiff, reduceIte, Nat.reduceAdd, Nat.reduceMul, Nat.reduceLeDiff, reduceCtorEq, Int.reduceLE, Int.reduceToNat, Bool.not_true, Bool.not_false, hl1])
      refine sq_nil (wp_condF rfl (wp_skip ?_))
      refine wp_seq (wp_seq (wp_sq ?_))
      iterate 1 (refine sq_cons rfl ?_; simp only [ZS, Ez.lenD, Ez.appR, Ez.appD, Ez.srcOf, Ez.cpyD, Ez.frzV, Ez.frz, Ez.frz1, Ez.splice, if_true, if_false, Ez.intBin, Nat.reduceEqDiff, reduceIte, Nat.reduceAdd, Nat.reduceMul, Nat.reduceLeDiff, reduceCtorEq, Int.reduceLE, Int.reduceToNat, Bool.not_true, Bool.not_false])
      refine sq_nil (wp_block (s32_loop F a b hl hn [] ?_ ?_ a.length 0 _ _ (by omega) (by simp) (by simp only [getE_cons, Nat.reduceEqDiff, if_false, if_true]) (by simp only [getE_cons, Nat.reduceEqDiff, if_false, if_true]; rw [hl]) (by simp only [getE_cons, Nat.reduceEqDiff, if_false, if_true]; rfl)))
      · intro hab s hs
        obtain ⟨se, sh, sn⟩ := s
        simp only at hs
        subst hs
        simp only [if_true]
        refine wp_seq (wp_sq ?_)
        iterate 1 (refine sq_cons rfl ?_; simp only [ZS, Ez.lenD, Ez.appR, Ez.appD, Ez.srcOf, Ez.cpyD, Ez.frzV, Ez.frz, Ez.frz1, Ez.splice, if_true, if_false, Ez.intBin, Nat.reduceEqDiff, reduceIte, Nat.reduceAdd, Nat.reduceMul, Nat.reduceLeDiff, reduceCtorEq, Int.reduceLE, Int.reduceToNat, Bool.not_true, Bool.not_false])
        refine sq_nil (wp_ret ⟨rfl, ?_⟩)
        subst hab
        simp [getE_cons]
      · intro hab s hs h4
        refine ⟨rfl, ?_⟩
        rw [h4]
        congr 3
        simpa using hab
    · have hl1 : ((a.length : Int) != (b.length : Int)) = true := by simp; omega
      iterate 5 (refine sq_cons rfl ?_; simp only [ZS, Ez.lenD, Ez.appR, Ez.appD, Ez.srcOf, Ez.cpyD, Ez.frzV, Ez.frz, Ez.frz1, Ez.splice, if_true, if_false, Ez.intBin, Nat.reduceEqDiff, reduceIte, Nat.reduceAdd, Nat.reduceMul, Nat.reduceLeDiff, reduceCtorEq, Int.reduceLE, Int.reduceToNat, Bool.not_true, Bool.not_false, hl1])
      refine sq_nil (wp_condT rfl (wp_seq (wp_sq ?_)))
      iterate 1 (refine sq_cons rfl ?_; simp only [ZS, Ez.lenD, Ez.appR, Ez.appD, Ez.srcOf, Ez.cpyD, Ez.frzV, Ez.frz, Ez.frz1, Ez.splice, if_true, if_false, Ez.intBin, Nat.reduceEqDiff, reduceIte, Nat.reduceAdd, Nat.reduceMul, Nat.reduceLeDiff, reduceCtorEq, Int.reduceLE, Int.reduceToNat, Bool.not_true, Bool.not_false])
      refine sq_nil (wp_ret ⟨rfl, ?_⟩)
      have : (a == b) = false := by
        rw [beq_eq_false_iff_ne]; intro e; exact hl (by rw [e])
      rw [this]
      simp only [getE_cons, Nat.reduceEqDiff, if_false, if_true]
  obtain ⟨x, s, hrun, rfl, g1⟩ := key
  refine RunF.body (us := []) (hN _) (RunB.fn (I := I32) (rs := [.c (.lit (.bool (a == b)))]) (by rw [hF]; rfl) rfl hrun (by simp) (by simp [I32, resD, g1])) ?_
  rfl

/-- a sector as it must be -/
def badS (s : Sec) : Bool := decide (s.data.length ≠ 128) || decide (s.sure.length ≠ 128) || (!s.fresh && !(s.data == s.sure))
def validP (l : List Sec) (ar : Bool) (le : Int) : Bool := !(decide ((l.length : Int) < 1) || decide ((l.length : Int) > 256) || decide (le < 0) || (!ar && (le != 0))) && !l.any badS

theorem sec_cells (l : List Sec) (k : Nat) (h : k < l.length) : (secsC l).drop (k * 3) = .slice (bytesC (secAt l k).sure) (secAt l k).sure.length :: .slice (bytesC (secAt l k).data) (secAt l k).data.length :: .lit (.bool (secAt l k).fresh) :: secsC (l.drop (k + 1)) := by
  rw [secsC_at k l h]; rfl

theorem any_at (l : List Sec) (k : Nat) (h : k < l.length) (hb : badS (secAt l k) = true) : l.any badS = true := List.any_eq_true.2 ⟨_, secAt_mem l k h, hb⟩

theorem left_eq (n : Nat) (ar : Bool) (le : Int) : (decide ((n : Int) < 1) || decide ((n : Int) > 256) || decide (le < 0) || (!ar && decide (le > 0))) = (decide ((n : Int) < 1) || decide ((n : Int) > 256) || decide (le < 0) || (!ar && (le != 0))) := by
  by_cases h : le < 0
  · simp [h]
  · have : decide (le > 0) = (le != 0) := by
      by_cases h0 : le = 0
      · subst h0; rfl
      · have h1 : decide (le > 0) = true := by simp; omega
        rw [h1]; simp [h0]
    rw [this]

theorem v12_round {F : Tab} (hF : F.code = code) (hN : ∀ vs, F.nat 31 vs = none) {Q : Ex → St → Prop} {e : Env} {h : Heap} {N k : Nat} {l : List Sec} (e31 : getE e 31 = .c (.slice (secsC l) l.length)) (e32 : getE e 32 = .c (.lit (.int .i64 (l.length : Int)))) (e33 : getE e 33 = .c (.lit (.int .i64 (k : Int)))) (hk : k < l.length) (hn : l.length ≤ 256)
    (hQ0 : badS (secAt l k) = false → ∀ s : St, getE s.env 31 = .c (.slice (secsC l) l.length) → getE s.env 32 = .c (.lit (.int .i64 (l.length : Int))) → getE s.env 33 = .c (.lit (.int .i64 ((k + 1 : Nat) : Int))) → Q .normal s) (hQ1 : badS (secAt l k) = true → ∀ s : St, getE s.env 2 = .c (.lit (.bool false)) → Q .ret s) : WP F B12_0 ⟨e, h, N⟩ Q := by
  have hlt : decide ((k : Int) < (l.length : Int)) = true := by simpa using hk
  have hlt' : ((k : Int) < (l.length : Int)) = True := by simpa using hk
  have hw : IntKind.wrap .i64 ((k : Int) + 1) = ((k + 1 : Nat) : Int) := by rw [Go.Proofs.Ytfphnpelampoeaa.wrap_i64 _ (by omega)]; rfl
  have hc := sec_cells l k hk
  unfold B12_0
  refine wp_seq (wp_sq ?_)
  iterate 1 (refine sq_cons rfl ?_; simp only [ZS, Ez.lenD, Ez.appR, Ez.appD, Ez.srcOf, Ez.cpyD, Ez.frzV, Ez.frz, Ez.frz1, Ez.splice, if_true, if_false, Ez.intBin, Nat.reduceEqDiff, reduceIte, Nat.reduceAdd, Nat.reduceMul, Nat.reduceLeDiff, reduceCtorEq, Int.reduceLE, Int.reduceToNat, Bool.not_true, Bool.not_false, e32, e33, hlt])
  refine sq_nil (wp_seq (wp_condT rfl (wp_skip ?_)))
  refine wp_seq (wp_block (wp_seq (wp_sq ?_)))
  iterate 4 (refine sq_cons rfl ?_; simp only [ZS, Ez.lenD, Ez.appR, Ez.appD, Ez.srcOf, Ez.cpyD, Ez.frzV, Ez.frz, Ez.frz1, Ez.splice, if_true, if_false, Ez.intBin, Nat.reduceEqDiff, reduceIte, Nat.reduceAdd, Nat.reduceMul, Nat.reduceLeDiff, reduceCtorEq, Int.reduceLE, Int.reduceToNat, Bool.not_true, Bool.not_false, e31, e33, hlt', hc])
  refine sq_nil (wp_seq (wp_sq ?_))
  refine sec12 F (p := N + 3) (B := (secAt l k).fresh) (E := (secAt l k).data == (secAt l k).sure) (by simp only [getE_cons, Nat.reduceEqDiff, if_false, if_true]; exact e31)  (by simp only [getE_cons, Nat.reduceEqDiff, if_false, if_true]; exact e32)  (by simp only [getE_cons, Nat.reduceEqDiff, if_false, if_true]; exact e33) (by simp only [getE_cons, Nat.reduceEqDiff, if_false, if_true]) (by simp only [getH_cons, if_true]) (fun hd _ _ => same31 hF hN _ _) ?_
  intro s g1 g0 g131 g132 g133 g9
  obtain ⟨se, sh, sn⟩ := s
  simp only at g1 g0 g131 g132 g133 g9
  have g9' : getE se 59 = .c (.lit (.bool (badS (secAt l k)))) := g9
  cases hb : badS (secAt l k) with
  | false =>
    rw [hb] at g9'
    refine wp_condF g9' (wp_skip ?_)
    refine wp_sq ?_
    iterate 2 (refine sq_cons rfl ?_; simp only [ZS, Ez.lenD, Ez.appR, Ez.appD, Ez.srcOf, Ez.cpyD, Ez.frzV, Ez.frz, Ez.frz1, Ez.splice, if_true, if_false, Ez.intBin, Nat.reduceEqDiff, reduceIte, Nat.reduceAdd, Nat.reduceMul, Nat.reduceLeDiff, reduceCtorEq, Int.reduceLE, Int.reduceToNat, Bool.not_true, Bool.not_false, g131, g132, g133, hw])
    refine sq_nil (hQ0 hb _ ?_ ?_ ?_) <;> simp only [getE_cons, Nat.reduceEqDiff, if_false, if_true, g131, g132, g133]
  | true =>
    rw [hb] at g9'
    refine wp_condT g9' (wp_seq (wp_sq ?_))
    iterate 1 (refine sq_cons rfl ?_; simp only [ZS, Ez.lenD, Ez.appR, Ez.appD, Ez.srcOf, Ez.cpyD, Ez.frzV, Ez.frz, Ez.frz1, Ez.splice, if_true, if_false, Ez.intBin, Nat.reduceEqDiff, reduceIte, Nat.reduceAdd, Nat.reduceMul, Nat.reduceLeDiff, reduceCtorEq, Int.reduceLE, Int.reduceToNat, Bool.not_true, Bool.not_false])
    refine sq_nil (wp_ret (hQ1 hb _ ?_))
    simp only [getE_cons, Nat.reduceEqDiff, if_false, if_true]

theorem v12_out (F : Tab) {Q : Ex → St → Prop} {e : Env} {h : Heap} {N k : Nat} {l : List Sec} (e31 : getE e 31 = .c (.slice (secsC l) l.length)) (e32 : getE e 32 = .c (.lit (.int .i64 (l.length : Int)))) (e33 : getE e 33 = .c (.lit (.int .i64 (k : Int)))) (hk : k = l.length) (hQ : ∀ s : St, Q (.exit 0) s) : WP F B12_0 ⟨e, h, N⟩ Q := by
  subst hk
  have hlt : decide ((l.length : Int) < (l.length : Int)) = false := by simp
  unfold B12_0
  refine wp_seq (wp_sq ?_)
  iterate 1 (refine sq_cons rfl ?_; simp only [ZS, Ez.lenD, Ez.appR, Ez.appD, Ez.srcOf, Ez.cpyD, Ez.frzV, Ez.frz, Ez.frz1, Ez.splice, if_true, if_false, Ez.intBin, Nat.reduceEqDiff, reduceIte, Nat.reduceAdd, Nat.reduceMul, Nat.reduceLeDiff, reduceCtorEq, Int.reduceLE, Int.reduceToNat, Bool.not_true, Bool.not_false, e32, e33, hlt])
  exact sq_nil (wp_seq (wp_condF rfl (wp_exit (hQ _))))

theorem v12_loop {F : Tab} (hF : F.code = code) (hN : ∀ vs, F.nat 31 vs = none) (l : List Sec) (hn : l.length ≤ 256) {Q : Ex → St → Prop} (hQ0 : l.any badS = false → ∀ s : St, Q (.exit 0) s) (hQ1 : l.any badS = true → ∀ s : St, getE s.env 2 = .c (.lit (.bool false)) → Q .ret s) :
    ∀ (m k N : Nat) (e : Env) (h : Heap), k + m = l.length → (l.take k).any badS = false → getE e 31 = .c (.slice (secsC l) l.length) → getE e 32 = .c (.lit (.int .i64 (l.length : Int))) → getE e 33 = .c (.lit (.int .i64 (k : Int))) → WP F (.loop B12_0) ⟨e, h, N⟩ Q
  | 0, k, N, e, h, hk, ht, e31, e32, e33 => by
    refine wp_loop (v12_out F e31 e32 e33 (by omega) fun s => hQ0 ?_ s)
    rw [List.take_of_length_le (by omega)] at ht
    exact ht
  | m + 1, k, N, e, h, hk, ht, e31, e32, e33 => by
    refine wp_loop (v12_round hF hN e31 e32 e33 (by omega) hn ?_ ?_)
    · intro hb s f0 f1 f2
      obtain ⟨se, sh, sn⟩ := s
      refine v12_loop hF hN l hn hQ0 hQ1 m (k + 1) sn se sh (by omega) ?_ f0 f1 f2
      rw [take_succ_at l k (by omega), List.any_append, ht]
      simp [hb]
    · intro hb s g1
      exact hQ1 (any_at l k (by omega) hb) s g1

theorem valid12 {F : Tab} (hF : F.code = code) (hN : ∀ vs, F.nat 31 vs = none) (hN' : ∀ vs, F.nat 12 vs = none) (l : List Sec) (de ar : Bool) (le : Int) : RunF F 12 [dskV l de ar le] [.one (.lit (.bool (validP l ar le)))] := by
  have key : WP F I12.body ⟨bindArgs 0 [.agg [.c (secsS l), .c (boolC de), .c (boolC ar), .c (intC le)]], [], 0⟩ (RetT 2 (.c (.lit (.bool (validP l ar le))))) := by
    have htop := top12 F (Q := fun s => s.heap = [(0, .box [.c (.slice (secsC l) l.length), .c (.lit (.bool de)), .c (.lit (.bool ar)), .c (.lit (.int .i64 le))])] ∧ getE s.env 1 = .loc 0 0 ∧ getE s.env 29 = .c (.lit (.bool (decide ((l.length : Int) < 1) || decide ((l.length : Int) > 256) || decide (le < 0) || (!ar && (le != 0))))))
      (e := (2, .c (.lit (.bool false))) :: (1, .loc 0 0) :: bindArgs 0 [.agg [.c (secsS l), .c (boolC de), .c (boolC ar), .c (intC le)]]) (h := [(0, .box [.c (.slice (secsC l) l.length), .c (.lit (.bool de)), .c (.lit (.bool ar)), .c (.lit (.int .i64 le))])]) (N := 2) (p := 0) rfl rfl rfl rfl rfl rfl (fun s a b c => ⟨a, b, c⟩)
    unfold I12 at htop ⊢
    simp only [bindArgs, boolC, intC, secsS] at htop ⊢
    refine wp_seq (wp_sq ?_)
    iterate 2 (refine sq_cons rfl ?_; simp only [ZS, Ez.lenD, Ez.appR, Ez.appD, Ez.srcOf, Ez.cpyD, Ez.frzV, Ez.frz, Ez.frz1, Ez.splice, if_true, if_false, Ez.intBin, Nat.reduceEqDiff, reduceIte, Nat.reduceAdd, Nat.reduceMul, Nat.reduceLeDiff, reduceCtorEq, Int.reduceLE, Int.reduceToNat, Bool.not_true, Bool.not_false])
    refine sq_nil (wp_seq (wp_seq (wp_sq ?_)))
    obtain ⟨s, hs, g1, g2, g3⟩ := htop
    refine ⟨s, hs, ?_⟩
    obtain ⟨se, sh, sn⟩ := s
    simp only at g1 g2 g3
    cases hb : (decide ((l.length : Int) < 1) || decide ((l.length : Int) > 256) || decide (le < 0) || (!ar && (le != 0))) with
    | true =>
      rw [hb] at g3
      refine wp_condT g3 (wp_seq (wp_sq ?_))
      iterate 1 (refine sq_cons rfl ?_; simp only [ZS, Ez.lenD, Ez.appR, Ez.appD, Ez.srcOf, Ez.cpyD, Ez.frzV, Ez.frz, Ez.frz1, Ez.splice, if_true, if_false, Ez.intBin, Nat.reduceEqDiff, reduceIte, Nat.reduceAdd, Nat.reduceMul, Nat.reduceLeDiff, reduceCtorEq, Int.reduceLE, Int.reduceToNat, Bool.not_true, Bool.not_false])
      refine sq_nil (wp_ret ⟨rfl, ?_⟩)
      simp only [getE_cons, Nat.reduceEqDiff, if_false, if_true, validP, hb, Bool.not_true, Bool.false_and]
    | false =>
      rw [hb] at g3
      have hn : l.length ≤ 256 := by
        simp only [Bool.or_eq_false_iff, decide_eq_false_iff_not] at hb
        omega
      refine wp_condF g3 (wp_skip ?_)
      refine wp_seq (wp_seq (wp_sq ?_))
      iterate 4 (refine sq_cons rfl ?_; simp only [ZS, Ez.lenD, Ez.appR, Ez.appD, Ez.srcOf, Ez.cpyD, Ez.frzV, Ez.frz, Ez.frz1, Ez.splice, if_true, if_false, Ez.intBin, Nat.reduceEqDiff, reduceIte, Nat.reduceAdd, Nat.reduceMul, Nat.reduceLeDiff, reduceCtorEq, Int.reduceLE, Int.reduceToNat, Bool.not_true, Bool.not_false, g1, g2])
      refine sq_nil (wp_block (v12_loop hF hN l hn ?_ ?_ l.length 0 _ _ _ (by omega) rfl (by simp only [getE_cons, Nat.reduceEqDiff, if_false, if_true]) (by simp only [getE_cons, Nat.reduceEqDiff, if_false, if_true]) (by simp only [getE_cons, Nat.reduceEqDiff, if_false, if_true]; rfl)))
      · intro ha s
        obtain ⟨te, th, tn⟩ := s
        simp only [if_true]
        refine wp_seq (wp_sq ?_)
        iterate 1 (refine sq_cons rfl ?_; simp only [ZS, Ez.lenD, Ez.appR, Ez.appD, Ez.srcOf, Ez.cpyD, Ez.frzV, Ez.frz, Ez.frz1, Ez.splice, if_true, if_false, Ez.intBin, Nat.reduceEqDiff, reduceIte, Nat.reduceAdd, Nat.reduceMul, Nat.reduceLeDiff, reduceCtorEq, Int.reduceLE, Int.reduceToNat, Bool.not_true, Bool.not_false])
        refine sq_nil (wp_ret ⟨rfl, ?_⟩)
        simp only [getE_cons, Nat.reduceEqDiff, if_false, if_true, validP, hb, ha, Bool.not_false, Bool.and_self]
      · intro ha s g
        refine ⟨rfl, ?_⟩
        rw [g]
        simp only [validP, hb, ha, Bool.not_false, Bool.not_true, Bool.and_false]
  obtain ⟨x, s, hrun, rfl, g1⟩ := key
  refine RunF.body (us := []) (hN' _) (RunB.fn (I := I12) (rs := [.c (.lit (.bool (validP l ar le)))]) (by rw [hF]; rfl) rfl hrun (by simp) (by simp [I12, resD, g1])) ?_
  rfl

theorem v13_round {F : Tab} (hF : F.code = code) (hN : ∀ vs, F.nat 32 vs = none) {Q : Ex → St → Prop} {e : Env} {h : Heap} {N k : Nat} {d1 d2 d3 : D} {p : Nat} {l : List Sec} (e1 : getE e 1 = .loc p 0) (e3 : getE e 3 = .c (.lit (.int .i64 (k : Int)))) (h1 : getH h p = .box [.c (.slice (secsC l) l.length), d1, d2, d3]) (n1 : p < N) (hk : k < l.length) (hn : l.length ≤ 256)
    (hQ0 : badS (secAt l k) = false → ∀ s : St, getE s.env 1 = .loc p 0 → getE s.env 3 = .c (.lit (.int .i64 ((k + 1 : Nat) : Int))) → getH s.heap p = .box [.c (.slice (secsC l) l.length), d1, d2, d3] → p < s.nx → Q .normal s) (hQ1 : badS (secAt l k) = true → ∀ s : St, getE s.env 2 = .c (.lit (.bool false)) → Q .ret s) : WP F B13_0 ⟨e, h, N⟩ Q := by
  have hlt : decide ((k : Int) < (l.length : Int)) = true := by simpa using hk
  have hlt' : ((k : Int) < (l.length : Int)) = True := by simpa using hk
  have hw : IntKind.wrap .i64 ((k : Int) + 1) = ((k + 1 : Nat) : Int) := by rw [Go.Proofs.Ytfphnpelampoeaa.wrap_i64 _ (by omega)]; rfl
  have hc := sec_cells l k hk
  have q1 : ∀ c, (N + c = p) = False := fun c => by simp; omega
  unfold B13_0
  refine wp_seq (wp_seq (wp_sq ?_))
  iterate 5 (refine sq_cons rfl ?_; simp only [ZS, Ez.lenD, Ez.appR, Ez.appD, Ez.srcOf, Ez.cpyD, Ez.frzV, Ez.frz, Ez.frz1, Ez.splice, if_true, if_false, Ez.intBin, Nat.reduceEqDiff, reduceIte, Nat.reduceAdd, Nat.reduceMul, Nat.reduceLeDiff, reduceCtorEq, Int.reduceLE, Int.reduceToNat, Bool.not_true, Bool.not_false, e1, e3, h1, hlt])
  refine sq_nil (wp_condT rfl (wp_skip ?_))
  refine wp_seq (wp_block (wp_seq (wp_sq ?_)))
  iterate 7 (refine sq_cons rfl ?_; simp only [ZS, Ez.lenD, Ez.appR, Ez.appD, Ez.srcOf, Ez.cpyD, Ez.frzV, Ez.frz, Ez.frz1, Ez.splice, if_true, if_false, Ez.intBin, Nat.reduceEqDiff, reduceIte, Nat.reduceAdd, Nat.reduceMul, Nat.reduceLeDiff, reduceCtorEq, Int.reduceLE, Int.reduceToNat, Bool.not_true, Bool.not_false, e1, e3, h1, hlt', hc, q1])
  refine sq_nil (wp_seq (wp_sq ?_))
  refine sec13 F (p := N + 10) (B := (secAt l k).fresh) (E := (secAt l k).data == (secAt l k).sure) (by simp only [getE_cons, Nat.reduceEqDiff, if_false, if_true]; exact e1)  (by simp only [getE_cons, Nat.reduceEqDiff, if_false, if_true]; exact e3) (by simp only [getE_cons, Nat.reduceEqDiff, if_false, if_true]) (by simp only [getH_cons, if_true]) (fun hd _ _ => same32 hF hN _ _ (by omega)) ?_
  intro s g1 g0 g11 g13 g9
  obtain ⟨se, sh, sn⟩ := s
  simp only at g1 g0 g11 g13 g9
  have g9' : getE se 64 = .c (.lit (.bool (badS (secAt l k)))) := g9
  cases hb : badS (secAt l k) with
  | false =>
    rw [hb] at g9'
    refine wp_condF g9' (wp_skip ?_)
    refine wp_sq ?_
    iterate 3 (refine sq_cons rfl ?_; simp only [ZS, Ez.lenD, Ez.appR, Ez.appD, Ez.srcOf, Ez.cpyD, Ez.frzV, Ez.frz, Ez.frz1, Ez.splice, if_true, if_false, Ez.intBin, Nat.reduceEqDiff, reduceIte, Nat.reduceAdd, Nat.reduceMul, Nat.reduceLeDiff, reduceCtorEq, Int.reduceLE, Int.reduceToNat, Bool.not_true, Bool.not_false, g11, g13, hw])
    refine sq_nil (hQ0 hb _ ?_ ?_ ?_ ?_)
    · simp only [getE_cons, Nat.reduceEqDiff, if_false, if_true, g11]
    · simp only [getE_cons, Nat.reduceEqDiff, if_false, if_true]
    · simp only; rw [g1]; simp only [getH_cons, q1, if_false, h1]
    · simp only; omega
  | true =>
    rw [hb] at g9'
    refine wp_condT g9' (wp_seq (wp_sq ?_))
    iterate 1 (refine sq_cons rfl ?_; simp only [ZS, Ez.lenD, Ez.appR, Ez.appD, Ez.srcOf, Ez.cpyD, Ez.frzV, Ez.frz, Ez.frz1, Ez.splice, if_true, if_false, Ez.intBin, Nat.reduceEqDiff, reduceIte, Nat.reduceAdd, Nat.reduceMul, Nat.reduceLeDiff, reduceCtorEq, Int.reduceLE, Int.reduceToNat, Bool.not_true, Bool.not_false])
    refine sq_nil (wp_ret (hQ1 hb _ ?_))
    simp only [getE_cons, Nat.reduceEqDiff, if_false, if_true]

theorem v13_out (F : Tab) {Q : Ex → St → Prop} {e : Env} {h : Heap} {N k : Nat} {d1 d2 d3 : D} {p : Nat} {l : List Sec} (e1 : getE e 1 = .loc p 0) (e3 : getE e 3 = .c (.lit (.int .i64 (k : Int)))) (h1 : getH h p = .box [.c (.slice (secsC l) l.length), d1, d2, d3]) (n1 : p < N) (hk : k = l.length) (hQ : ∀ s : St, Q (.exit 0) s) : WP F B13_0 ⟨e, h, N⟩ Q := by
  subst hk
  have hlt : decide ((l.length : Int) < (l.length : Int)) = false := by simp
  unfold B13_0
  refine wp_seq (wp_seq (wp_sq ?_))
  iterate 5 (refine sq_cons rfl ?_; simp only [ZS, Ez.lenD, Ez.appR, Ez.appD, Ez.srcOf, Ez.cpyD, Ez.frzV, Ez.frz, Ez.frz1, Ez.splice, if_true, if_false, Ez.intBin, Nat.reduceEqDiff, reduceIte, Nat.reduceAdd, Nat.reduceMul, Nat.reduceLeDiff, reduceCtorEq, Int.reduceLE, Int.reduceToNat, Bool.not_true, Bool.not_false, e1, e3, h1, hlt])
  exact sq_nil (wp_condF rfl (wp_exit (hQ _)))

theorem v13_loop {F : Tab} (hF : F.code = code) (hN : ∀ vs, F.nat 32 vs = none) {d1 d2 d3 : D} {p : Nat} (l : List Sec) (hn : l.length ≤ 256) {Q : Ex → St → Prop} (hQ0 : l.any badS = false → ∀ s : St, Q (.exit 0) s) (hQ1 : l.any badS = true → ∀ s : St, getE s.env 2 = .c (.lit (.bool false)) → Q .ret s) :
    ∀ (m k N : Nat) (e : Env) (h : Heap), k + m = l.length → (l.take k).any badS = false → getE e 1 = .loc p 0 → getE e 3 = .c (.lit (.int .i64 (k : Int))) → getH h p = .box [.c (.slice (secsC l) l.length), d1, d2, d3] → p < N → WP F (.loop B13_0) ⟨e, h, N⟩ Q
  | 0, k, N, e, h, hk, ht, e1, e3, h1, n1 => by
    refine wp_loop (v13_out F e1 e3 h1 n1 (by omega) fun s => hQ0 ?_ s)
    rw [List.take_of_length_le (by omega)] at ht
    exact ht
  | m + 1, k, N, e, h, hk, ht, e1, e3, h1, n1 => by
    refine wp_loop (v13_round hF hN e1 e3 h1 n1 (by omega) hn ?_ ?_)
    · intro hb s f0 f1 f2 f3
      obtain ⟨se, sh, sn⟩ := s
      refine v13_loop hF hN l hn hQ0 hQ1 m (k + 1) sn se sh (by omega) ?_ f0 f1 f2 f3
      rw [take_succ_at l k (by omega), List.any_append, ht]
      simp [hb]
    · intro hb s g1
      exact hQ1 (any_at l k (by omega) hb) s g1

theorem valid13 {F : Tab} (hF : F.code = code) (hN : ∀ vs, F.nat 32 vs = none) (hN' : ∀ vs, F.nat 13 vs = none) (l : List Sec) (de ar : Bool) (le : Int) : RunF F 13 [dskV l de ar le] [.one (.lit (.bool (validP l ar le)))] := by
  have key : WP F I13.body ⟨bindArgs 0 [.agg [.c (secsS l), .c (boolC de), .c (boolC ar), .c (intC le)]], [], 0⟩ (RetT 2 (.c (.lit (.bool (validP l ar le))))) := by
    have htop := top13 F (Q := fun s => s.heap = [(0, .box [.c (.slice (secsC l) l.length), .c (.lit (.bool de)), .c (.lit (.bool ar)), .c (.lit (.int .i64 le))])] ∧ getE s.env 1 = .loc 0 0 ∧ getE s.env 29 = .c (.lit (.bool (decide ((l.length : Int) < 1) || decide ((l.length : Int) > 256) || decide (le < 0) || (!ar && decide (le > 0))))))
      (e := (2, .c (.lit (.bool false))) :: (1, .loc 0 0) :: bindArgs 0 [.agg [.c (secsS l), .c (boolC de), .c (boolC ar), .c (intC le)]]) (h := [(0, .box [.c (.slice (secsC l) l.length), .c (.lit (.bool de)), .c (.lit (.bool ar)), .c (.lit (.int .i64 le))])]) (N := 2) (p := 0) rfl rfl rfl rfl rfl rfl (fun s a b c => ⟨a, b, c⟩)
    unfold I13 at htop ⊢
    simp only [bindArgs, boolC, intC, secsS] at htop ⊢
    refine wp_seq (wp_sq ?_)
    iterate 2 (refine sq_cons rfl ?_; simp only [ZS, Ez.lenD, Ez.appR, Ez.appD, Ez.srcOf, Ez.cpyD, Ez.frzV, Ez.frz, Ez.frz1, Ez.splice, if_true, if_false, Ez.intBin, Nat.reduceEqDiff, reduceIte, Nat.reduceAdd, Nat.reduceMul, Nat.reduceLeDiff, reduceCtorEq, Int.reduceLE, Int.reduceToNat, Bool.not_true, Bool.not_false])
    refine sq_nil (wp_seq (wp_seq (wp_sq ?_)))
    obtain ⟨s, hs, g1, g2, g3⟩ := htop
    refine ⟨s, hs, ?_⟩
    obtain ⟨se, sh, sn⟩ := s
    simp only at g1 g2 g3
    cases hb : (decide ((l.length : Int) < 1) || decide ((l.length : Int) > 256) || decide (le < 0) || (!ar && (le != 0))) with
    | true =>
      rw [show (decide ((l.length : Int) < 1) || decide ((l.length : Int) > 256) || decide (le < 0) || (!ar && decide (le > 0))) = (decide ((l.length : Int) < 1) || decide ((l.length : Int) > 256) || decide (le < 0) || (!ar && (le != 0))) from left_eq _ _ _, hb] at g3
      refine wp_condT g3 (wp_seq (wp_sq ?_))
      iterate 1 (refine sq_cons rfl ?_; simp only [ZS, Ez.lenD, Ez.appR, Ez.appD, Ez.srcOf, Ez.cpyD, Ez.frzV, Ez.frz, Ez.frz1, Ez.splice, if_true, if_false, Ez.intBin, Nat.reduceEqDiff, reduceIte, Nat.reduceAdd, Nat.reduceMul, Nat.reduceLeDiff, reduceCtorEq, Int.reduceLE, Int.reduceToNat, Bool.not_true, Bool.not_false])
      refine sq_nil (wp_ret ⟨rfl, ?_⟩)
      simp only [getE_cons, Nat.reduceEqDiff, if_false, if_true, validP, hb, Bool.not_true, Bool.false_and]
    | false =>
      rw [show (decide ((l.length : Int) < 1) || decide ((l.length : Int) > 256) || decide (le < 0) || (!ar && decide (le > 0))) = (decide ((l.length : Int) < 1) || decide ((l.length : Int) > 256) || decide (le < 0) || (!ar && (le != 0))) from left_eq _ _ _, hb] at g3
      have hn : l.length ≤ 256 := by
        simp only [Bool.or_eq_false_iff, decide_eq_false_iff_not] at hb
        omega
      refine wp_condF g3 (wp_skip ?_)
      refine wp_seq (wp_seq (wp_sq ?_))
      iterate 1 (refine sq_cons rfl ?_; simp only [ZS, Ez.lenD, Ez.appR, Ez.appD, Ez.srcOf, Ez.cpyD, Ez.frzV, Ez.frz, Ez.frz1, Ez.splice, if_true, if_false, Ez.intBin, Nat.reduceEqDiff, reduceIte, Nat.reduceAdd, Nat.reduceMul, Nat.reduceLeDiff, reduceCtorEq, Int.reduceLE, Int.reduceToNat, Bool.not_true, Bool.not_false])
      subst g1
      refine sq_nil (wp_block (v13_loop hF hN l hn ?_ ?_ l.length 0 _ _ _ (by omega) rfl (by simp only [getE_cons, Nat.reduceEqDiff, if_false, if_true]; exact g2) (by simp only [getE_cons, Nat.reduceEqDiff, if_false, if_true]; rfl) rfl (by omega)))
      · intro ha s
        obtain ⟨te, th, tn⟩ := s
        simp only [if_true]
        refine wp_seq (wp_sq ?_)
        iterate 1 (refine sq_cons rfl ?_; simp only [ZS, Ez.lenD, Ez.appR, Ez.appD, Ez.srcOf, Ez.cpyD, Ez.frzV, Ez.frz, Ez.frz1, Ez.splice, if_true, if_false, Ez.intBin, Nat.reduceEqDiff, reduceIte, Nat.reduceAdd, Nat.reduceMul, Nat.reduceLeDiff, reduceCtorEq, Int.reduceLE, Int.reduceToNat, Bool.not_true, Bool.not_false])
        refine sq_nil (wp_ret ⟨rfl, ?_⟩)
        simp only [getE_cons, Nat.reduceEqDiff, if_false, if_true, validP, hb, ha, Bool.not_false, Bool.and_self]
      · intro ha s g
        refine ⟨rfl, ?_⟩
        rw [g]
        simp only [validP, hb, ha, Bool.not_false, Bool.not_true, Bool.and_false]
  obtain ⟨x, s, hrun, rfl, g1⟩ := key
  refine RunF.body (us := []) (hN' _) (RunB.fn (I := I13) (rs := [.c (.lit (.bool (validP l ar le)))]) (by rw [hF]; rfl) rfl hrun (by simp) (by simp [I13, resD, g1])) ?_
  rfl

end Go.Proofs.Ytfphnpelampoeaa.Rw

