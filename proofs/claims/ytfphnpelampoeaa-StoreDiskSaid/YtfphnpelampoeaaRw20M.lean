/-
  A crash, by the reference: the loop, the function.
-/
import Derived.Test.YtfphnpelampoeaaRw19M
set_option linter.unusedVariables false
set_option linter.unusedSimpArgs false
namespace Go.Proofs.Ytfphnpelampoeaa.Rw
open Go Go.Ez

theorem Owned.box2 {l : List Sec} {B rid N q : Nat} {ids : List (Nat × Nat)} {h h' : Heap} (ho : Owned l B rid ids h N) (hO : Okay l) {de ar : Bool} {le : Int} (hq : getH h' q = .box [.arr rid 0 l.length, .c (boolC de), .c (boolC ar), .c (intC le)]) (hf : ∀ x ∈ rid :: flat ids, getH h' x = getH h x) : BoxD h' q l de ar le := by
  obtain ⟨us, y1, _⟩ := frz_rows (h := h') (by rw [hf rid (by simp)]; exact ho.hr) (held_rows (ho.held.frame fun x hx => hf x (by simp [hx])) hO)
  exact ⟨_, us, hq, y1⟩

def newS (T K j : Nat) (s : Sec) : Sec := ⟨crashD T K j s, crashD T K j s, false⟩
/-- a disk's sectors after a crash; j fresh ones came before -/
def crash (T K : Nat) : Nat → List Sec → List Sec
  | _, [] => []
  | j, s :: l => newS T K j s :: crash T K (if s.fresh then j + 1 else j) l
def cnt : List Sec → Nat
  | [] => 0
  | s :: l => (if s.fresh then 1 else 0) + cnt l

theorem crash_len (T K : Nat) : ∀ (l : List Sec) (j : Nat), (crash T K j l).length = l.length
  | [], _ => rfl
  | s :: l, j => by simp [crash, crash_len T K l]
theorem crash_snoc (T K : Nat) (s : Sec) : ∀ (l : List Sec) (j : Nat), crash T K j (l ++ [s]) = crash T K j l ++ [newS T K (j + cnt l) s]
  | [], j => by simp [crash, cnt]
  | t :: l, j => by
    have e : (if t.fresh then j + 1 else j) + cnt l = j + ((if t.fresh then 1 else 0) + cnt l) := by split <;> omega
    simp only [List.cons_append, crash, crash_snoc T K s l, cnt, e]
theorem cnt_snoc (s : Sec) : ∀ l : List Sec, cnt (l ++ [s]) = if s.fresh then cnt l + 1 else cnt l
  | [] => by simp [cnt]
  | t :: l => by
    simp only [List.cons_append, cnt, cnt_snoc s l]
    cases s.fresh <;> cases t.fresh <;> simp <;> omega
theorem cnt_le : ∀ l : List Sec, cnt l ≤ l.length
  | [] => Nat.le_refl _
  | t :: l => by simp only [cnt, List.length_cons]; have := cnt_le l; split <;> omega

def crK (T K k : Nat) (l : List Sec) : List Sec := crash T K 0 (l.take k) ++ l.drop k
theorem crK_len (T K k : Nat) (l : List Sec) : (crK T K k l).length = l.length := by simp [crK, crash_len]; omega
theorem crK_at (T K k : Nat) (l : List Sec) (h : k < l.length) : secAt (crK T K k l) k = secAt l k := by
  unfold secAt crK
  rw [List.getD_eq_getElem?_getD, List.getElem?_append_right (by simp [crash_len]; omega), List.getD_eq_getElem?_getD]
  simp [crash_len, Nat.min_eq_left (Nat.le_of_lt h)]
theorem crK_succ (T K k : Nat) (l : List Sec) (h : k < l.length) : (crK T K k l).set k (newS T K (cnt (l.take k)) (secAt l k)) = crK T K (k + 1) l := by
  have hl : (crash T K 0 (l.take k)).length = k := by simp [crash_len]; omega
  unfold crK
  rw [take_succ_at l k h, List.set_append, if_neg (by omega), hl, Nat.sub_self, drop_getD noSec k l h, crash_snoc, Nat.zero_add]
  simp only [List.set_cons_zero, List.append_assoc, List.cons_append, List.nil_append]
theorem crK_all (T K : Nat) (l : List Sec) : crK T K l.length l = crash T K 0 l := by simp [crK]
theorem Okay.crash {T K : Nat} : ∀ {l : List Sec} {j : Nat}, Okay l → Okay (crash T K j l)
  | [], _, _ => by intro s hs; cases hs
  | s :: l, j, h => by
    intro t ht
    simp only [Rw.crash, List.mem_cons] at ht
    rcases ht with rfl | ht
    · have := crashD_len T K j s (h s (by simp)); exact ⟨this, this⟩
    · exact Okay.crash (fun u hu => h u (by simp [hu])) t ht
theorem Okay.crK {l : List Sec} (h : Okay l) (T K k : Nat) : Okay (crK T K k l) := by
  intro s hs
  rw [Rw.crK, List.mem_append] at hs
  rcases hs with hs | hs
  · exact Okay.crash (fun u hu => h u (List.mem_of_mem_take hu)) s hs
  · exact h s (List.mem_of_mem_drop hs)

theorem s26_round (F : Tab) {Q : Ex → St → Prop} {l : List Sec} (hO : Okay l) (hn : l.length ≤ 256) {B rid N q k j T K : Nat} {ids : List (Nat × Nat)} {h : Heap} {d1 d2 d3 D6 : D} {e : Env} (hT : T < 18446744073709551616) (hK : K < 18446744073709551616) (hj : j < 100000) (ho : Owned l B rid ids h N) (hBN : B ≤ N) (hk : k < l.length) (hqN : q < N) (hqB : ∀ x ∈ rid :: flat ids, x ≠ q)
    (e1 : getE e 1 = .c (.lit (.int .u64 (K : Int)))) (e2 : getE e 2 = .c (.lit (.int .u64 (T : Int)))) (e6 : getE e 6 = D6) (e7 : getE e 7 = .loc q 0) (e8 : getE e 8 = .c (.lit (.int .i64 (j : Int)))) (e9 : getE e 9 = .c (.lit (.int .i64 (k : Int)))) (hq : getH h q = .box [.arr rid 0 l.length, d1, d2, d3])
    (hQ : ∀ (s : St) (ids' : List (Nat × Nat)), N ≤ s.nx → getE s.env 1 = .c (.lit (.int .u64 (K : Int))) → getE s.env 2 = .c (.lit (.int .u64 (T : Int))) → getE s.env 6 = D6 → getE s.env 7 = .loc q 0 → getE s.env 8 = .c (.lit (.int .i64 ((if (secAt l k).fresh then j + 1 else j : Nat) : Int))) → getE s.env 9 = .c (.lit (.int .i64 ((k + 1 : Nat) : Int))) → getH s.heap q = .box [.arr rid 0 l.length, d1, d2, d3] →
      Owned (l.set k (newS T K j (secAt l k))) B rid ids' s.heap s.nx → (∀ x ∈ rid :: flat ids', x ≠ q) → (∀ x, x < B → getH s.heap x = getH h x) → Q .normal s) : WP F B26_1 ⟨e, h, N⟩ Q := by
  obtain ⟨i1, a, b, i2, s1, s2, s3, s4, s5, s6, s7⟩ := ho.split hk
  have hlo := ho.lo
  have hnd := ho.nd
  rw [s1, flat_app, show flat ((a, b) :: i2) = a :: b :: flat i2 from rfl] at hlo hnd hqB
  have hP : (rowD i1 (l.take k)).length = k * 3 := by rw [rowD_len (by rw [s2, List.length_take]; omega), List.length_take]; congr 1; omega
  have hR : (rowD i1 (l.take k)).length + ((rowD i2 (l.drop (k + 1))).length + 3) = l.length * 3 := by rw [hP, rowD_len s6.len, List.length_drop]; omega
  have hr : getH h rid = .rows (rowD i1 (l.take k) ++ .arr a 0 128 :: .arr b 0 128 :: .c (.lit (.bool (secAt l k).fresh)) :: rowD i2 (l.drop (k + 1))) 3 32 := by rw [ho.hr, s7]; rfl
  have td : List.drop (k * 3) (rowD i1 (l.take k) ++ .arr a 0 128 :: .arr b 0 128 :: .c (.lit (.bool (secAt l k).fresh)) :: rowD i2 (l.drop (k + 1))) = .arr a 0 128 :: .arr b 0 128 :: .c (.lit (.bool (secAt l k).fresh)) :: rowD i2 (l.drop (k + 1)) := by rw [← hP, List.drop_left]
  have hL : (rowD i1 (l.take k) ++ .arr a 0 128 :: .arr b 0 128 :: .c (.lit (.bool (secAt l k).fresh)) :: rowD i2 (l.drop (k + 1))).length = l.length * 3 := by rw [List.length_append]; simp; omega
  have hlt : decide ((k : Int) < (l.length : Int)) = true := by simpa using hk
  have f1 : ((k : Int) < (l.length : Int)) = True := by simpa using hk
  have f3 : (k * 3 + 3 ≤ l.length * 3) = True := by simp; omega
  have hs := hO _ (secAt_mem l k hk)
  have lr := hlo rid (by simp)
  have lb := hlo b (by simp)
  have la := hlo a (by simp)
  have qr := hqB rid (by simp)
  have qb := hqB b (by simp)
  have hnd2 := hnd
  rw [List.nodup_cons] at hnd2
  have brn : rid ≠ b := fun e => hnd2.1 (by simp [e])
  have hpm : (a :: b :: (flat i1 ++ flat i2)).Nodup := by
    have p1 : (flat i1 ++ a :: b :: flat i2).Perm (a :: (flat i1 ++ b :: flat i2)) := List.perm_middle
    have p2 : (flat i1 ++ b :: flat i2).Perm (b :: (flat i1 ++ flat i2)) := List.perm_middle
    exact (p1.trans (List.Perm.cons a p2)).nodup hnd2.2
  rw [List.nodup_cons, List.nodup_cons] at hpm
  have hab : a ≠ b := fun e => hpm.1 (by simp [e])
  have hbf : ∀ x ∈ flat i1 ++ flat i2, x ≠ b := fun x hx e => hpm.2.1 (e ▸ hx)
  have hrf : ∀ x ∈ flat i1 ++ flat i2, x ≠ rid := fun x hx e => by
    subst e
    simp only [List.mem_append] at hx
    rcases hx with hx | hx <;> exact hnd2.1 (by simp [hx])
  have hlf : ∀ x ∈ flat i1 ++ flat i2, x < N := fun x hx => by
    refine (hlo x ?_).2
    simp only [List.mem_append] at hx
    rcases hx with hx | hx <;> simp [hx]
  have x1 : (q = rid) = False := by simp; omega
  have x2 : (rid = q) = False := by simp; omega
  have x3 : ∀ c, (N + c = q) = False := fun c => by simp; omega
  have x4 : ∀ c, (N + c = rid) = False := fun c => by simp; omega
  have x7 : ∀ c, (N + c = b) = False := fun c => by simp; omega
  have x8 : ∀ c, (N + c = a) = False := fun c => by simp; omega
  have sb3 : ∀ x y z u v w : D, splice [x, y, z] 0 [u, v, w] = [u, v, w] := fun _ _ _ _ _ _ => rfl
  have hw : IntKind.wrap .i64 ((k : Int) + 1) = ((k + 1 : Nat) : Int) := by rw [Go.Proofs.Ytfphnpelampoeaa.wrap_i64 _ (by omega)]; rfl
  have hX : X26 = (match B26_1 with | .seq _ (.seq (.block _ (.seq _ (.seq c _))) _) => c | _ => .skip) := rfl
  have hT26 : T26 = (match B26_1 with | .seq _ (.seq (.block _ (.seq _ (.seq _ c))) _) => c | _ => .skip) := rfl
  unfold B26_1 at hX hT26 ⊢
  simp only at hX hT26
  simp only [← hX, ← hT26]
  clear hX hT26
  refine wp_seq (wp_seq (wp_sq ?_))
  iterate 5 (refine sq_cons rfl ?_; simp only [ZS, Ez.lenD, Ez.appR, Ez.appD, Ez.srcOf, Ez.cpyD, Ez.frzV, Ez.frz, Ez.frz1, Ez.splice, if_true, if_false, Ez.intBin, Nat.reduceEqDiff, reduceIte, Nat.reduceAdd, Nat.reduceMul, Nat.reduceLeDiff, reduceCtorEq, Int.reduceLE, Int.reduceToNat, Nat.reduceSub, Bool.not_true, Bool.not_false, e7, e9, hq, hlt])
  refine sq_nil (wp_condT rfl (wp_skip ?_))
  refine wp_seq (wp_block (wp_seq (wp_sq ?_)))
  iterate 7 (refine sq_cons rfl ?_; simp only [ZS, Ez.lenD, Ez.appR, Ez.appD, Ez.srcOf, Ez.cpyD, Ez.frzV, Ez.frz, Ez.frz1, if_true, if_false, Ez.intBin, Nat.reduceEqDiff, reduceIte, Nat.reduceAdd, Nat.reduceMul, Nat.reduceLeDiff, reduceCtorEq, Int.reduceLE, Int.reduceToNat, Nat.reduceSub, Bool.not_true, Bool.not_false, e7, e9, hq, hr, td, hL, f1, f3, sb3, x1, x2, x3, x4])
  refine sq_nil (wp_seq (s26_choice F (sb := N + 10) (a := a) (b := b) (T := T) (K := K) (j := j) (D6 := D6) (D7 := .loc q 0) (D9 := .c (.lit (.int .i64 (k : Int)))) (sec := secAt l k) hT hK hj hs (by simp only [getE_cons, Nat.reduceEqDiff, if_false, if_true, e1]) (by simp only [getE_cons, Nat.reduceEqDiff, if_false, if_true, e2]) (by simp only [getE_cons, Nat.reduceEqDiff, if_false, if_true, e6]) (by simp only [getE_cons, Nat.reduceEqDiff, if_false, if_true, e7]) (by simp only [getE_cons, Nat.reduceEqDiff, if_false, if_true, e8]) (by simp only [getE_cons, Nat.reduceEqDiff, if_false, if_true, e9]) (by simp only [getE_cons, Nat.reduceEqDiff, if_false, if_true]) (by simp only [getH_cons, if_true]) (by simp only [getH_cons, x8, if_false, s4]) (by simp only [getH_cons, x7, if_false, s5]) (by omega) hab ?_))
  intro s g0 g1 g2 g6 g7 g8 g9 g10 gb gf
  obtain ⟨se, sh, sn⟩ := s
  simp only at g0 g1 g2 g6 g7 g8 g9 g10 gb gf
  have fro : ∀ x, x < N → x ≠ b → getH sh x = getH h x := fun x y1 y2 => by
    rw [gf x y2]; simp only [getH_cons, show (N + 10 = x) = False by simp; omega, if_false]
  have hsbx : getH sh (N + 10) = .box [.arr a 0 128, .arr b 0 128, .c (.lit (.bool (secAt l k).fresh))] := by rw [gf _ (by omega)]; simp only [getH_cons, if_true]
  refine s26_tail F (q := q) (rid := rid) (sb := N + 10) (a := a) (b := b) (k := k) (n := l.length) (P := rowD i1 (l.take k)) (R := rowD i2 (l.drop (k + 1))) (Fc := .c (.lit (.bool (secAt l k).fresh))) (d1 := d1) (d2 := d2) (d3 := d3) (A0 := .arr a 0 128) (da := crashD T K j (secAt l k)) (crashD_len T K j _ hs) hk hP hR g1 g2 g6 g7 g8 g9 g10 hsbx gb (by rw [fro q hqN (by omega)]; exact hq) (by rw [fro rid lr.2 brn]; exact hr) (by omega) (by omega) (by omega) (by omega) (by omega) (by omega) (by omega) (by omega) (by omega) (by omega) ?_
  intro t k0 k1 k2 k6 k7 k8 k9 kr ks kf
  obtain ⟨te, th, tn⟩ := t
  simp only at k0 k1 k2 k6 k7 k8 k9 kr ks kf
  subst k0
  have fr2 : ∀ x, x < N → x ≠ b → x ≠ rid → getH th x = getH h x := fun x y1 y2 y3 => by rw [kf x (by omega) y3 (by omega)]; exact fro x y1 y2
  have hown : Owned (l.set k (newS T K j (secAt l k))) B rid (i1 ++ (sn + 2, b) :: i2) th (sn + 13) :=
    ho.put hk s1 s2 s3 s6 (by omega) (by omega) hBN kr ks (by rw [kf b (by omega) (by omega) (by omega)]; exact gb) fun x hx => fr2 x (hlf x hx) (hbf x hx) (hrf x hx)
  refine wp_sq ?_
  iterate 3 (refine sq_cons rfl ?_; simp only [ZS, Ez.lenD, Ez.appR, Ez.appD, Ez.srcOf, Ez.cpyD, Ez.frzV, Ez.frz, Ez.frz1, Ez.splice, if_true, if_false, Ez.intBin, Nat.reduceEqDiff, reduceIte, Nat.reduceAdd, Nat.reduceMul, Nat.reduceLeDiff, reduceCtorEq, Int.reduceLE, Int.reduceToNat, Nat.reduceSub, Bool.not_true, Bool.not_false, k9, hw])
  refine sq_nil (hQ _ (i1 ++ (sn + 2, b) :: i2) ?_ ?_ ?_ ?_ ?_ ?_ ?_ ?_ ?_ ?_ ?_)
  · simp only; omega
  · simp only [getE_cons, Nat.reduceEqDiff, if_false, if_true, k1]
  · simp only [getE_cons, Nat.reduceEqDiff, if_false, if_true, k2]
  · simp only [getE_cons, Nat.reduceEqDiff, if_false, if_true, k6]
  · simp only [getE_cons, Nat.reduceEqDiff, if_false, if_true, k7]
  · simp only [getE_cons, Nat.reduceEqDiff, if_false, if_true, k8]
  · simp only [getE_cons, Nat.reduceEqDiff, if_false, if_true]
  · simp only; rw [fr2 q hqN (by omega) (by omega)]; exact hq
  · exact ⟨hown.hr, hown.held, hown.nd, fun x hx => ⟨(hown.lo x hx).1, by have := (hown.lo x hx).2; simp only; omega⟩⟩
  · intro x hx
    rw [flat_app, show flat ((sn + 2, b) :: i2) = (sn + 2) :: b :: flat i2 from rfl] at hx
    simp only [List.mem_cons, List.mem_append] at hx
    rcases hx with hx | hx | hx | hx | hx
    · exact hqB x (by simp [hx])
    · exact hqB x (by simp [hx])
    · omega
    · exact hqB x (by simp [hx])
    · exact hqB x (by simp [hx])
  · intro x hx
    simp only
    exact fr2 x (by omega) (by omega) (by omega)

theorem s26_out (F : Tab) {Q : Ex → St → Prop} {e : Env} {h : Heap} {N q n rid : Nat} {d1 d2 d3 : D} (e7 : getE e 7 = .loc q 0) (e9 : getE e 9 = .c (.lit (.int .i64 (n : Int)))) (hq : getH h q = .box [.arr rid 0 n, d1, d2, d3]) (hQ : ∀ s : St, s.heap = h → s.nx = N + 5 → getE s.env 6 = getE e 6 → getE s.env 7 = getE e 7 → Q (.exit 0) s) : WP F B26_1 ⟨e, h, N⟩ Q := by
  have hlt : decide ((n : Int) < (n : Int)) = false := by simp
  unfold B26_1
  refine wp_seq (wp_seq (wp_sq ?_))
  iterate 5 (refine sq_cons rfl ?_; simp only [ZS, Ez.lenD, Ez.appR, Ez.appD, Ez.srcOf, Ez.cpyD, Ez.frzV, Ez.frz, Ez.frz1, Ez.splice, if_true, if_false, Ez.intBin, Nat.reduceEqDiff, reduceIte, Nat.reduceAdd, Nat.reduceMul, Nat.reduceLeDiff, reduceCtorEq, Int.reduceLE, Int.reduceToNat, Nat.reduceSub, Bool.not_true, Bool.not_false, e7, e9, hq, hlt])
  refine sq_nil (wp_condF rfl (wp_exit (hQ _ rfl rfl ?_ ?_)))
  · simp only [getE_cons, Nat.reduceEqDiff, if_false, if_true]
  · simp only [getE_cons, Nat.reduceEqDiff, if_false, if_true]

theorem s26_loop (F : Tab) (l : List Sec) (hO : Okay l) (hn : l.length ≤ 256) (B rid q T K : Nat) (hT : T < 18446744073709551616) (hK : K < 18446744073709551616) (d1 d2 d3 D6 : D) (h0 : Heap) {Q : Ex → St → Prop}
    (hQ : ∀ (s : St) (ids : List (Nat × Nat)), getE s.env 6 = D6 → getE s.env 7 = .loc q 0 → getH s.heap q = .box [.arr rid 0 l.length, d1, d2, d3] → Owned (crash T K 0 l) B rid ids s.heap s.nx → (∀ x ∈ rid :: flat ids, x ≠ q) → (∀ x, x < B → getH s.heap x = getH h0 x) → Q (.exit 0) s) :
    ∀ (m k N : Nat) (e : Env) (h : Heap) (ids : List (Nat × Nat)), k + m = l.length → B ≤ N → q < N → getE e 1 = .c (.lit (.int .u64 (K : Int))) → getE e 2 = .c (.lit (.int .u64 (T : Int))) → getE e 6 = D6 → getE e 7 = .loc q 0 → getE e 8 = .c (.lit (.int .i64 ((cnt (l.take k) : Nat) : Int))) → getE e 9 = .c (.lit (.int .i64 (k : Int))) → getH h q = .box [.arr rid 0 l.length, d1, d2, d3] → Owned (crK T K k l) B rid ids h N → (∀ x ∈ rid :: flat ids, x ≠ q) → (∀ x, x < B → getH h x = getH h0 x) → WP F (.loop B26_1) ⟨e, h, N⟩ Q
  | 0, k, N, e, h, ids, hk, hB, hqN, e1, e2, e6, e7, e8, e9, hq, ho, hqi, hf => by
    have hkl : k = l.length := by omega
    subst hkl
    rw [crK_all] at ho
    refine wp_loop (s26_out F e7 e9 hq fun s g1 g2 g3 g4 => hQ s ids (by rw [g3]; exact e6) (by rw [g4]; exact e7) (by rw [g1]; exact hq) ?_ hqi (by rw [g1]; exact hf))
    rw [g1, g2]
    exact ⟨ho.hr, ho.held, ho.nd, fun x hx => ⟨(ho.lo x hx).1, by have := (ho.lo x hx).2; omega⟩⟩
  | m + 1, k, N, e, h, ids, hk, hB, hqN, e1, e2, e6, e7, e8, e9, hq, ho, hqi, hf => by
    have hkl : k < l.length := by omega
    have hlen := crK_len T K k l
    have hcl := cnt_le (l.take k)
    have htl : (l.take k).length ≤ 256 := by rw [List.length_take]; omega
    refine wp_loop (s26_round F (l := crK T K k l) (hO.crK T K k) (by rw [hlen]; exact hn) hT hK (by omega) ho hB (by rw [hlen]; exact hkl) hqN hqi e1 e2 e6 e7 e8 e9 (by rw [hlen]; exact hq) ?_)
    intro s ids' g0 g1 g2 g6 g7 g8 g9 g4 g5 g10 g11
    obtain ⟨se, sh, sn⟩ := s
    rw [hlen] at g4
    rw [crK_at T K k l hkl] at g5 g8
    rw [crK_succ T K k l hkl] at g5
    have hc : cnt (l.take (k + 1)) = if (secAt l k).fresh then cnt (l.take k) + 1 else cnt (l.take k) := by rw [take_succ_at l k hkl, cnt_snoc]
    exact s26_loop F l hO hn B rid q T K hT hK d1 d2 d3 D6 h0 hQ m (k + 1) sn se sh ids' (by omega) (by simp only at g0; omega) (by simp only at g0; omega) g1 g2 g6 g7 (by rw [hc]; exact g8) g9 g4 g5 g10 fun x hx => by rw [← hf x hx]; exact g11 x hx

theorem crash26 {F : Tab} (hF : F.code = code) (hN : ∀ f vs, f ≠ 10 → F.nat f vs = none) (l : List Sec) (hO : Okay l) (h1 : 1 ≤ l.length) (hn : l.length ≤ 256) (de ar : Bool) (le : Int) (T K : Nat) (hT : T < 18446744073709551616) (hK : K < 18446744073709551616) : RunF F 26 [dskV l de ar le, .one (.lit (.int .u64 (K : Int))), .one (.lit (.int .u64 (T : Int)))] [dskV (crash T K 0 l) false false 0] := by
  refine RunF.diskD (I := I26) (t := 6) (by rw [hF]; rfl) (hN 26 _ (by omega)) rfl rfl rfl ?_
  unfold I26
  simp only [bindArgs, boolC, intC, secsS, V.toD, dskV, List.map_cons, List.map_nil]
  refine wp_seq (wp_sq ?_)
  iterate 2 (refine sq_cons rfl ?_; simp only [ZS, Ez.lenD, Ez.appR, Ez.appD, Ez.srcOf, Ez.cpyD, Ez.frzV, Ez.frz, Ez.frz1, Ez.splice, if_true, if_false, Ez.intBin, Nat.reduceEqDiff, reduceIte, Nat.reduceAdd, Nat.reduceMul, Nat.reduceLeDiff, reduceCtorEq, Int.reduceLE, Int.reduceToNat, Nat.reduceSub, Bool.not_true, Bool.not_false])
  refine sq_nil (wp_seq (wp_sq ?_))
  iterate 1 (refine sq_cons rfl ?_; simp only [ZS, Ez.lenD, Ez.appR, Ez.appD, Ez.srcOf, Ez.cpyD, Ez.frzV, Ez.frz, Ez.frz1, Ez.splice, if_true, if_false, Ez.intBin, Nat.reduceEqDiff, reduceIte, Nat.reduceAdd, Nat.reduceMul, Nat.reduceLeDiff, reduceCtorEq, Int.reduceLE, Int.reduceToNat, Nat.reduceSub, Bool.not_true, Bool.not_false])
  obtain ⟨rid, ids, h', N', hrun, ho, hNN, hfr⟩ := copied_run hF l hO h1 hn de ar le [(1, .box [.full [] 0, .c (.lit (.bool false)), .c (.lit (.bool false)), .c (.lit (.int .i64 0))]), (0, .box [.c (.slice (secsC l) l.length), .c (.lit (.bool de)), .c (.lit (.bool ar)), .c (.lit (.int .i64 le))])] 3
  refine sq_lend (ds := [.agg [.c (secsS l), .c (boolC de), .c (boolC ar), .c (intC le)]]) (us := []) (by rfl) hrun ?_
  simp only [tupD, Ez.putE, boolC, intC]
  iterate 2 (refine sq_cons rfl ?_; simp only [ZS, Ez.lenD, Ez.appR, Ez.appD, Ez.srcOf, Ez.cpyD, Ez.frzV, Ez.frz, Ez.frz1, Ez.splice, if_true, if_false, Ez.intBin, Nat.reduceEqDiff, reduceIte, Nat.reduceAdd, Nat.reduceMul, Nat.reduceLeDiff, reduceCtorEq, Int.reduceLE, Int.reduceToNat, Nat.reduceSub, Bool.not_true, Bool.not_false])
  have b1 : getH h' 1 = .box [.full [] 0, .c (.lit (.bool false)), .c (.lit (.bool false)), .c (.lit (.int .i64 0))] := by rw [hfr 1 (by omega)]; rfl
  have z1 : (N' = 1) = False := by simp; omega
  have z1' : (1 = N') = False := by simp; omega
  have hfz : ∀ x, x < N' → (N' = x) = False := fun x hx => by simp; omega
  refine sq_nil (wp_seq (wp_sq ?_))
  iterate 1 (refine sq_cons rfl ?_; simp only [ZS, Ez.lenD, Ez.appR, Ez.appD, Ez.srcOf, Ez.cpyD, Ez.frzV, Ez.frz, Ez.frz1, Ez.splice, if_true, if_false, Ez.intBin, Nat.reduceEqDiff, reduceIte, Nat.reduceAdd, Nat.reduceMul, Nat.reduceLeDiff, reduceCtorEq, Int.reduceLE, Int.reduceToNat, Nat.reduceSub, Bool.not_true, Bool.not_false])
  refine sq_nil (wp_seq (wp_seq (wp_sq ?_)))
  iterate 1 (refine sq_cons rfl ?_; simp only [ZS, Ez.lenD, Ez.appR, Ez.appD, Ez.srcOf, Ez.cpyD, Ez.frzV, Ez.frz, Ez.frz1, Ez.splice, if_true, if_false, Ez.intBin, Nat.reduceEqDiff, reduceIte, Nat.reduceAdd, Nat.reduceMul, Nat.reduceLeDiff, reduceCtorEq, Int.reduceLE, Int.reduceToNat, Nat.reduceSub, Bool.not_true, Bool.not_false])
  refine sq_nil (wp_block (s26_loop F l hO hn 3 rid N' T K hT hK (.c (boolC de)) (.c (boolC ar)) (.c (intC le)) (.loc 1 0) h' ?_ l.length 0 _ _ _ ids (by omega) (by omega) (by omega) (by simp only [getE_cons, Nat.reduceEqDiff, if_false, if_true]) (by simp only [getE_cons, Nat.reduceEqDiff, if_false, if_true]) (by simp only [getE_cons, Nat.reduceEqDiff, if_false, if_true]) (by simp only [getE_cons, Nat.reduceEqDiff, if_false, if_true]) (by simp only [getE_cons, Nat.reduceEqDiff, if_false, if_true]; rfl) (by simp only [getE_cons, Nat.reduceEqDiff, if_false, if_true]; rfl) (by simp only [getH_cons, if_true]; rfl) ?_ (fun x hx => by have := (ho.lo x hx).2; omega) (fun x hx => by simp only [getH_cons, hfz x (by omega), if_false])))
  · intro s ids2 g1 g2 g3 g4 g5 g6
    obtain ⟨se, sh, sn⟩ := s
    simp only at g1 g2 g3 g4 g5 g6
    simp only [if_true]
    have c1 : getH sh 1 = .box [.full [] 0, .c (.lit (.bool false)), .c (.lit (.bool false)), .c (.lit (.int .i64 0))] := by rw [g6 1 (by omega)]; exact b1
    refine wp_seq (wp_sq ?_)
    iterate 6 (refine sq_cons rfl ?_; simp only [ZS, Ez.lenD, Ez.appR, Ez.appD, Ez.srcOf, Ez.cpyD, Ez.frzV, Ez.frz, Ez.frz1, Ez.splice, if_true, if_false, Ez.intBin, Nat.reduceEqDiff, reduceIte, Nat.reduceAdd, Nat.reduceMul, Nat.reduceLeDiff, reduceCtorEq, Int.reduceLE, Int.reduceToNat, Nat.reduceSub, Bool.not_true, Bool.not_false, g1, g2, g3])
    refine sq_nil (wp_seq (wp_sq ?_))
    iterate 2 (refine sq_cons rfl ?_; simp only [ZS, Ez.lenD, Ez.appR, Ez.appD, Ez.srcOf, Ez.cpyD, Ez.frzV, Ez.frz, Ez.frz1, Ez.splice, if_true, if_false, Ez.intBin, Nat.reduceEqDiff, reduceIte, Nat.reduceAdd, Nat.reduceMul, Nat.reduceLeDiff, reduceCtorEq, Int.reduceLE, Int.reduceToNat, Nat.reduceSub, Bool.not_true, Bool.not_false, g1, g2, g3, c1, z1, z1'])
    have hlen := crash_len T K l 0
    refine sq_nil (wp_ret ⟨rfl, 1, ?_, g4.box2 ?_ ?_ ?_⟩)
    · simp only [getE_cons, Nat.reduceEqDiff, if_false, if_true, g1]
    · exact Okay.crash hO
    · simp only [getH_cons, if_true, hlen]; rfl
    · intro x hx
      have xa := (g4.lo x hx).1
      have xb := g5 x hx
      simp only [getH_cons, show (1 = x) = False by simp; omega, show (N' = x) = False by simp; omega, if_false]
  · have e0 : crK T K 0 l = l := by simp [crK, crash]
    rw [e0]
    have hfx : ∀ x ∈ rid :: flat ids, x < N' := fun x hx => (ho.lo x hx).2
    exact ⟨by simp only [getH_cons, hfz rid (hfx rid (by simp)), if_false]; exact ho.hr, ho.held.frame fun x hx => by simp only [getH_cons, hfz x (hfx x (by simp [hx])), if_false], ho.nd, fun x hx => ⟨(ho.lo x hx).1, by have := (ho.lo x hx).2; omega⟩⟩

end Go.Proofs.Ytfphnpelampoeaa.Rw

