/-
  append and copy.
-/
import Derived.Test.YtfphnpelampoeaaEvOps5
namespace Go.Ev
open Go.RowKit

section
variable {B : Nat} {S : Nat → Nat → Prop} {P : Program} {o : Oper} {a : Act} {m : M} {slot : Nat} {ρ : X → D} {d : D} {us : List (Nat × Obj)}

/-- an array's object is given up -/
theorem kill_evolves {m : M} {id : Nat} : Evolves B S m (m.heap ((id, .dead) :: m.h)) where
  cell b q u h1 h2 := by
    refine ⟨h1, h2.1, fun i => ?_⟩
    simp only [M.heap, getH_cons]
    by_cases hi : id = i
    · simp [hi]
    · simp only [hi, if_false]; exact h2.2 i
  used _ hu := hu
  dead i _ hd := by
    simp only [M.heap, getH_cons]
    by_cases hi : id = i
    · simp [hi]
    · simp only [hi, if_false]; exact hd
  at_ _ _ := rfl
  kind i cs' esz' fz' ety' _ h := by
    simp only [M.heap, getH_cons] at h
    by_cases hi : id = i
    · simp [hi] at h
    · simp only [hi, if_false] at h; exact ⟨cs', fz', h, rfl⟩

theorem kill_hok {m : M} (hk : HOK B S m) {id : Nat} : HOK B S (m.heap ((id, .dead) :: m.h)) := by
  have hev := kill_evolves (B := B) (S := S) (m := m) (id := id)
  refine ⟨fun i => ?_, fun i j hi hj he => ?_, fun i hu => ?_, hk.base⟩
  · unfold RepO
    by_cases hi : id = i
    · subst hi; simp only [M.heap, getH_cons, if_true]; trivial
    · have h1 : getH (m.heap ((id, .dead) :: m.h)).h i = getH m.h i := by simp [M.heap, getH_cons, hi]
      rw [h1]
      exact hev.repOb rfl (hk.obj i)
  · simp only [M.heap, getH_cons] at hi hj
    by_cases h1 : id = i
    · simp [h1] at hi
    · by_cases h2 : id = j
      · simp [h2] at hj
      · simp only [h1, h2, if_false] at hi hj
        exact hk.inj i j hi hj he
  · simp only [M.heap, getH_cons]
    by_cases h1 : id = i
    · simp [h1]
    · simp only [h1, if_false]; exact hk.dom i hu

def M.move (m : M) (w' : World) (id slot : Nat) (o' : Obj) : M := ⟨w', (slot, o') :: (id, .dead) :: m.h, setβ m.β slot (m.β id), fun i => m.U i ∨ i = slot⟩

/-- an array grows in its place: a new object over the same block -/
theorem move_evolves {m : M} (hk : HOK B S m) {id : Nat} {xs cs' : List C} {esz fz ety : Nat} (ho : getH m.h id = .arr xs esz fz ety) (hs : ¬ m.U slot) {w' : World} (hother : ∀ k, k ≠ m.β id → w'.heap[k]? = m.w.heap[k]?)
    (hcell : ∀ q u, q < fz → m.w.cell? ⟨m.β id, q, none⟩ = some u → w'.cell? ⟨m.β id, q, none⟩ = some u) : Evolves B S m (m.move w' id slot (.arr cs' esz fz ety)) where
  cell b q u h1 h2 := by
    have h3 := h2.2 id
    rw [ho] at h3
    refine ⟨?_, h2.1, fun i => ?_⟩
    · by_cases hb : b = m.β id
      · subst hb; exact hcell q u (h3 rfl) h1
      · rw [← h1]; exact World.cell?_of_block (w := m.w) (a := ⟨b, q, none⟩) (hother b hb)
    · simp only [M.move, getH_cons, setβ]
      by_cases hi : slot = i
      · subst hi; simp only [if_true]; exact h3
      · have hi' : ¬ i = slot := fun e => hi e.symm
        simp only [hi, hi', if_false]
        by_cases hj : id = i
        · simp [hj]
        · simp only [hj, if_false]; exact h2.2 i
  used _ hu := .inl hu
  dead i hu hd := by
    have hi : ¬ slot = i := fun e => hs (e ▸ hu)
    simp only [M.move, getH_cons, hi, if_false]
    by_cases hj : id = i
    · simp [hj]
    · simp only [hj, if_false]; exact hd
  at_ i hu := by
    have hi : ¬ i = slot := fun e => hs (e ▸ hu)
    simp [M.move, setβ, hi]
  kind i cs2 esz2 fz2 ety2 hu h := by
    have hi : ¬ slot = i := fun e => hs (e ▸ hu)
    simp only [M.move, getH_cons, hi, if_false] at h
    by_cases hj : id = i
    · simp [hj] at h
    · simp only [hj, if_false] at h
      refine ⟨cs2, fz2, h, ?_⟩
      have : m.β i ≠ m.β id := fun e => hj (hk.inj i id (by rw [h]; simp) (by rw [ho]; simp) e).symm
      simp [World.shape?, M.move, hother _ this]

theorem move_hok {m : M} (hk : HOK B S m) {id : Nat} {xs cs' : List C} {esz fz ety : Nat} (ho : getH m.h id = .arr xs esz fz ety) {w' : World} (hother : ∀ k, k ≠ m.β id → w'.heap[k]? = m.w.heap[k]?) (hsz : m.w.heap.size ≤ w'.heap.size)
    (hev : Evolves B S m (m.move w' id slot (.arr cs' esz fz ety))) (hrep : RepOb B S (m.move w' id slot (.arr cs' esz fz ety)) (m.β id) (.arr cs' esz fz ety)) : HOK B S (m.move w' id slot (.arr cs' esz fz ety)) := by
  have hlive : getH m.h id ≠ .dead := by rw [ho]; simp
  refine ⟨fun i => ?_, fun i j hi hj he => ?_, fun i hu => ?_, Nat.le_trans hk.base hsz⟩
  · unfold RepO
    by_cases hi : slot = i
    · subst hi
      have h1 : getH (m.move w' id slot (.arr cs' esz fz ety)).h slot = .arr cs' esz fz ety := by simp [M.move, getH_cons]
      have h2 : (m.move w' id slot (.arr cs' esz fz ety)).β slot = m.β id := by simp [M.move, setβ]
      rw [h1, h2]; exact hrep
    · have hi' : ¬ i = slot := fun e => hi e.symm
      have h2 : (m.move w' id slot (.arr cs' esz fz ety)).β i = m.β i := by simp [M.move, setβ, hi']
      by_cases hj : id = i
      · have h1 : getH (m.move w' id slot (.arr cs' esz fz ety)).h i = .dead := by simp [M.move, getH_cons, hi, hj]
        rw [h1]; trivial
      · have h1 : getH (m.move w' id slot (.arr cs' esz fz ety)).h i = getH m.h i := by simp [M.move, getH_cons, hi, hj]
        rw [h1, h2]
        by_cases hd : getH m.h i = .dead
        · rw [hd]; trivial
        · exact hev.repOb (hother _ fun e => hj (hk.inj i id hd hlive e).symm) (hk.obj i)
  · simp only [M.move, getH_cons, setβ] at hi hj he
    by_cases h1 : slot = i <;> by_cases h2 : slot = j
    · omega
    · have h1' : i = slot := h1.symm
      have h2' : ¬ j = slot := fun e => h2 e.symm
      simp only [h2, h1', h2', if_true, if_false] at hj he
      by_cases h3 : id = j
      · simp [h3] at hj
      · simp only [h3, if_false] at hj
        exact absurd (hk.inj id j hlive hj he) h3
    · have h1' : ¬ i = slot := fun e => h1 e.symm
      have h2' : j = slot := h2.symm
      simp only [h1, h1', h2', if_true, if_false] at hi he
      by_cases h3 : id = i
      · simp [h3] at hi
      · simp only [h3, if_false] at hi
        exact absurd (hk.inj i id hi hlive he).symm h3
    · have h1' : ¬ i = slot := fun e => h1 e.symm
      have h2' : ¬ j = slot := fun e => h2 e.symm
      simp only [h1, h1', h2, h2', if_false] at hi hj he
      by_cases h3 : id = i
      · simp [h3] at hi
      · by_cases h4 : id = j
        · simp [h4] at hj
        · simp only [h3, h4, if_false] at hi hj
          exact hk.inj i j hi hj he
  · simp only [M.move] at hu ⊢
    have h1 : ¬ m.U i := fun h => hu (.inl h)
    have h2 : ¬ slot = i := fun h => hu (.inr h.symm)
    simp only [getH_cons, h2, if_false]
    by_cases h3 : id = i
    · simp [h3]
    · simp only [h3, if_false]; exact hk.dom i h1

theorem zeroCells_len (z : Array Value) (n : Nat) : (Builtin.zeroCells z n).toList.length = n * z.size := by simp [Builtin.zeroCells]

theorem does_app (hk : HOK B S m) (ho : Opd B S m ρ a) (hs0 : ¬ m.U slot) {t t' e : TypeId} {x y : Operand} {X' Y' : X} {i : TypeInfo} {z : List Value} {d' : TypeDesc} (hop : o.op = .call { callee := .builtin .append, args := #[x, y], argTypes := #[t, t'] })
    (h1 : elemOfSlice P t = some e) (h2 : P.info? e = some i) (h3 : zeroOf P e = some z) (h4 : P.underlying t' = some d') (h5 : ∀ k, d' ≠ .int k)
    (hx : compX x = some X') (hy : compX y = some Y') (hs : step ρ m.h slot (.app i.size e i.bytes X' Y') = some (d, us)) : Does B S P o a m slot d us := by
  have hu := elemOfSlice_some h1
  obtain ⟨i', zv, g1, g2, g3, g4, g5⟩ := zeroOf_some h3
  rw [h2] at g1
  simp only [Option.some.injEq] at g1
  subst g1
  have hzs : zv.cells.size = i.size := by rw [← g5, ← g3]; simp
  have e1 := ho x X' hx
  have e2 := ho y Y' hy
  have run : ∀ v w', (Builtin.append_ #[t, t'] o.type #[a.eval x, a.eval y]).run P m.w = .ok v w' → (execOp a.eval o).run P m.w = .ok (.value v) w' := by
    intro v w' h
    simp [execOp, hop, resolve, invoke, builtin, h]
  simp only [step] at hs
  unfold appD at hs
  split at hs
  · rename_i he
    simp only [Option.bind_eq_bind, Option.bind_eq_some_iff, Prod.exists] at hs
    obtain ⟨cs, n, hs1, hs2⟩ := hs
    split at hs2
    case isFalse => cases hs2
    rename_i hc
    obtain ⟨c1, c2, c3, c4⟩ := hc
    obtain ⟨news, hn1, hn2⟩ := srcOf_ok (P := P) hk e2 hs1 c1
    rw [he] at e1
    have e1' := e1.lit
    split at hs2
    · rename_i hz
      subst hz
      simp only [Option.some.injEq, Prod.mk.injEq] at hs2
      obtain ⟨rfl, rfl⟩ := hs2
      have := run_app_nil0 (P := P) (w := m.w) (ty := o.type) hu h4 h5 h2 hn2
      refine does_pure hk slot (run _ _ ?_) (RepD.mkLit rfl)
      rw [e1']; exact this
    · rename_i hz
      simp only [Option.some.injEq, Prod.mk.injEq] at hs2
      obtain ⟨rfl, rfl⟩ := hs2
      unfold roomMax at c2 c4
      have := run_app_nil (P := P) (w := m.w) (ty := o.type) hu h4 h5 h2 g2 hn2 (by omega) (by omega) (by omega)
      have hge := grownCap_ge m.w n 0 e
      have hle := grownCap_le_maxLen m.w n 0 e (by simp only [maxLen]; omega)
      refine does_newrow (us0 := []) hk hs0 hk (Evolves.refl m) (spare := (Builtin.zeroCells zv.cells (grownCap m.w n 0 e - n)).toList) (cap := grownCap m.w n 0 e) hn1 hge ?_ hle (.inr rfl) (run _ _ ?_)
      · rw [List.length_append, zeroCells_len, hzs, hn2.cells, ← Nat.add_mul]
        congr 1; omega
      · rw [e1', this]
        congr 2
        simp
  · rename_i id off len he
    cases hob : getH m.h id with
    | dead => rw [hob] at hs; cases hs
    | box ds => rw [hob] at hs; cases hs
    | arr xs esz' fz ety' =>
      rw [hob] at hs
      simp only [Option.bind_eq_bind, Option.bind_eq_some_iff, Prod.exists] at hs
      obtain ⟨cs, n, hs1, hs2⟩ := hs
      split at hs2
      case isFalse => cases hs2
      rename_i hc
      obtain ⟨c1, c2, c3, c4, rfl, rfl, rfl, c5, c6⟩ := hc
      simp only [Option.some.injEq, Prod.mk.injEq] at hs2
      obtain ⟨rfl, rfl⟩ := hs2
      obtain ⟨news, hn1, hn2⟩ := srcOf_ok (P := P) hk e2 hs1 c1
      obtain ⟨hB, vs, hv1, hvl, hv2⟩ := hk.arr hob
      rw [he] at e1
      obtain ⟨hU, ad, cap, e3, e4, e5⟩ := e1
      rw [hob] at e5
      simp only at e5
      unfold roomMax at c2 c4
      have holds : All2 (RepC m.w (Safe B S m)) (xs.take (len * i.size)) (vs.take (len * i.size)) := by
        have := hv2.take (len * i.size)
        rw [List.take_take, Nat.min_eq_left c6] at this
        exact this
      have hlo : (vs.take (len * i.size)).length = len * i.size := by rw [← holds.len, List.length_take]; omega
      have hnl : news.length = n * i.size := hn2.cells
      by_cases hroom : len + n ≤ cap ∧ cap ≠ 0
      · -- in place
        obtain ⟨hroom, hcap0⟩ := hroom
        rcases e5 with ⟨rfl, sz, e6, e7, e8⟩ | ⟨_, hz⟩
        case inr => exact absurd hz hcap0
        have hsz : sz = vs.length := by simp [World.shape?, hv1] at e6; omega
        have hmul : (len + n) * i.size ≤ cap * i.size := Nat.mul_le_mul_right _ hroom
        rw [Nat.add_mul] at hmul
        have hfit : len * i.size + news.length ≤ vs.toArray.size := by simp; omega
        have hrun := run_app_room (P := P) (w := m.w) (ty := o.type) hu h4 h5 h2 hn2 (m.β id) len cap vs.toArray hv1 (All2.mem_right (fun _ _ h => h.oneCell) hn1) hroom hfit
        simp only at hrun
        have hother : ∀ k, k ≠ m.β id → (m.w.setRow (m.β id) (vs.take (len * i.size) ++ news ++ vs.drop (len * i.size + news.length)).toArray).heap[k]? = m.w.heap[k]? := fun k hk' => setRow_other _ _ _ _ hk'
        have hev : Evolves B S m (m.move (m.w.setRow (m.β id) (vs.take (len * i.size) ++ news ++ vs.drop (len * i.size + news.length)).toArray) id slot (.arr (xs.take (len * i.size) ++ cs) i.size fz ety')) := by
          refine move_evolves hk hob hs0 hother fun q u hq hcell => ?_
          rw [cell_row hv1] at hcell
          rw [cell_row (setRow_heap _ _ _ _ _ _ hv1), List.append_assoc, List.getElem?_append_left (by rw [hlo]; omega), List.getElem?_take_of_lt (by omega)]
          exact hcell
        have hlen2 : (xs.take (len * i.size) ++ cs).length = (vs.take (len * i.size) ++ news).length := (holds.append hn1).len
        have hok := move_hok hk hob hother (by simp) hev ⟨hB, _, setRow_heap _ _ _ _ _ _ hv1, by rw [List.length_append (as := vs.take _ ++ news), hlen2]; omega, by
          rw [hlen2, List.take_left]
          exact (holds.append hn1).mono fun c u h => RepC.mono hev.cell c u h⟩
        refine ⟨_, .slice (some ⟨m.β id, 0, none⟩) (len + n) cap, _, run _ _ ?_, .inl rfl, setβ m.β slot (m.β id), hok, hev, ?_, below_setRow hB⟩
        · rw [e3]; exact hrun
        · refine ⟨.inr rfl, ⟨m.β id, 0, none⟩, cap, rfl, hroom, ?_⟩
          simp only [updH, getH_cons, if_true, setβ]
          refine .inl ⟨trivial, sz, ?_, by omega, e8⟩
          simp only [World.shape?, setRow_heap _ _ _ _ _ _ hv1]
          simp
          omega
      · -- a new block, or nothing at all
        have hk1 := kill_hok hk (id := id)
        have hev1 := kill_evolves (B := B) (S := S) (m := m) (id := id)
        by_cases hz : len + n = 0
        · -- the empty slice of no room
          have hl0 : len = 0 := by omega
          have hn0 : n = 0 := by omega
          subst hl0 hn0
          have hcap0 : cap = 0 := by
            rcases Nat.eq_zero_or_pos cap with h | h
            · exact h
            · exact absurd ⟨by omega, by omega⟩ hroom
          subst hcap0
          have hrun := run_app_zero (P := P) (w := m.w) (ty := o.type) hu h4 h5 h2 hn2 ad
          have hev : Evolves B S m (m.move m.w id slot (.arr (xs.take (0 * i.size) ++ cs) i.size fz ety')) := move_evolves hk hob hs0 (fun _ _ => rfl) fun _ _ _ h => h
          have hcs0 : cs = [] := List.eq_nil_of_length_eq_zero (by simpa using c1)
          subst hcs0
          have hok := move_hok hk hob (w' := m.w) (fun _ _ => rfl) (Nat.le_refl _) hev ⟨hB, vs, hv1, by simp, by simp [All2]⟩
          refine ⟨_, .slice (some ad) 0 0, _, run _ _ ?_, .inl rfl, setβ m.β slot (m.β id), hok, hev, ?_, Below.refl _ _⟩
          · rw [e3]; exact hrun
          · refine ⟨.inr rfl, ad, 0, rfl, Nat.le_refl _, ?_⟩
            simp only [updH, getH_cons, if_true]
            exact .inr ⟨trivial, trivial⟩
        · have hgrow : cap < len + n := by
            rcases Nat.lt_or_ge cap (len + n) with h | h
            · exact h
            · exact absurd ⟨h, by omega⟩ hroom
          have hfit := growslice_fits hgrow (bytes := i.bytes) c2
          have holds2 : ∀ j v, (vs.take (len * i.size))[j]? = some v → m.w.cell? (ad.add j) = some v := by
            intro j v hv
            rcases e5 with ⟨rfl, _⟩ | ⟨hl0, _⟩
            · rw [add_off, cell_row hv1]
              have hj : j < len * i.size := by have := (List.getElem?_eq_some_iff.1 hv).1; simp at this; omega
              rw [List.getElem?_take_of_lt hj] at hv
              simpa using hv
            · subst hl0; simp at hv
          have hrun := run_app_grow (P := P) (w := m.w) (ty := o.type) hu h4 h5 h2 g2 hn2 ad len cap (vs.take (len * i.size)) hlo holds2 hgrow (by omega) hfit
          have hge := grownCap_ge m.w (len + n) cap ety'
          have hle := grownCap_le_maxLen m.w (len + n) cap ety' (by simp only [maxLen]; omega)
          have hall : All2 (RepC m.w (Safe B S (m.heap (updH m.h [(id, .dead)])))) (xs.take (len * i.size) ++ cs) (vs.take (len * i.size) ++ news) :=
            (holds.append hn1).mono fun c u h => RepC.mono hev1.cell c u h
          refine does_newrow (us0 := [(id, .dead)]) (fz := fz) hk hs0 hk1 hev1 (spare := (Builtin.zeroCells zv.cells (grownCap m.w (len + n) cap ety' - (len + n))).toList) (cap := grownCap m.w (len + n) cap ety') hall hge ?_ hle (.inr rfl) (run _ _ ?_)
          · rw [List.length_append, List.length_append, zeroCells_len, hzs, hlo, hnl, ← Nat.add_mul, ← Nat.add_mul]
            congr 1; omega
          · rw [e3, hrun]
            congr 2
            simp
  · cases hs

theorem does_cpy (hk : HOK B S m) (ho : Opd B S m ρ a) {t t' e : TypeId} {x y : Operand} {X' Y' : X} {i : TypeInfo} (hop : o.op = .call { callee := .builtin .copy, args := #[x, y], argTypes := #[t, t'] })
    (h1 : elemOfSlice P t = some e) (h2 : P.info? e = some i) (hx : compX x = some X') (hy : compX y = some Y') (hs : step ρ m.h slot (.cpy i.size X' Y') = some (d, us)) : Does B S P o a m slot d us := by
  have hu := elemOfSlice_some h1
  have e1 := ho x X' hx
  have e2 := ho y Y' hy
  have run : ∀ v w', (Builtin.copy_ #[t, t'] o.type #[a.eval x, a.eval y]).run P m.w = .ok v w' → (execOp a.eval o).run P m.w = .ok (.value v) w' := by
    intro v w' h
    simp [execOp, hop, resolve, invoke, builtin, h]
  simp only [step] at hs
  unfold cpyD at hs
  split at hs
  · rename_i id off len he
    cases hob : getH m.h id with
    | dead => rw [hob] at hs; cases hs
    | box ds => rw [hob] at hs; cases hs
    | arr xs esz' fz ety =>
      rw [hob] at hs
      simp only [Option.bind_eq_bind, Option.bind_eq_some_iff, Prod.exists] at hs
      obtain ⟨cs, n, hs1, hs2⟩ := hs
      split at hs2
      case isFalse => cases hs2
      rename_i hc
      obtain ⟨c1, rfl, c2, c3⟩ := hc
      simp only [Option.some.injEq, Prod.mk.injEq] at hs2
      obtain ⟨rfl, rfl⟩ := hs2
      obtain ⟨news, hn1, hn2⟩ := srcOf_ok (P := P) hk e2 hs1 c1
      obtain ⟨hB, vs, hv1, hvl, hv2⟩ := hk.arr hob
      rw [he] at e1
      obtain ⟨hU, ad, cap, e3, e4, e5⟩ := e1
      rw [hob] at e5
      simp only at e5
      have hmin : min n len ≤ n := Nat.min_le_left _ _
      have hmin2 : min n len ≤ len := Nat.min_le_right _ _
      have hm1 := Nat.mul_le_mul_right i.size hmin
      have hm2 := Nat.mul_le_mul_right i.size hmin2
      have hk1 : All2 (RepC m.w (Safe B S m)) (cs.take (min n len * i.size)) (news.take (min n len * i.size)) := hn1.take _
      have hkl : (news.take (min n len * i.size)).length = min n len * i.size := by rw [List.length_take, hn2.cells]; omega
      have hkl2 : (cs.take (min n len * i.size)).length = min n len * i.size := by rw [hk1.len]; exact hkl
      rcases e5 with ⟨rfl, sz, e6, e7, e8⟩ | ⟨rfl, rfl⟩
      · have hrun := run_cpy (P := P) (w := m.w) (sT := t') (ty := o.type) hu h2 hn2 (m.β id) off len cap vs.toArray ety hv1 (All2.mem_right (fun _ _ h => h.oneCell) hn1) (by simp; omega)
        have hrun' : (Builtin.copy_ #[t, t'] o.type #[.slice (some ⟨m.β id, off, none⟩) len cap, a.eval y]).run P m.w = .ok (goInt (min n len : Nat)) (m.w.setRow (m.β id) (splice vs off (news.take (min n len * i.size))).toArray) := hrun
        have hsl : (splice vs off (news.take (min n len * i.size))).length = vs.length := splice_length (by rw [hkl]; omega)
        have hother : ∀ k, k ≠ m.β id → (m.w.setRow (m.β id) (splice vs off (news.take (min n len * i.size))).toArray).heap[k]? = m.w.heap[k]? := fun k hk' => setRow_other _ _ _ _ hk'
        have hev : Evolves B S m (m.upd (m.w.setRow (m.β id) (splice vs off (news.take (min n len * i.size))).toArray) id (.arr (splice xs off (cs.take (min n len * i.size))) i.size fz ety)) := by
          refine upd_evolves hk hob (o' := .arr (splice xs off (cs.take (min n len * i.size))) i.size fz ety) ⟨rfl, rfl, Nat.le_refl _⟩ hother (fun q u hq hcell => ?_) ?_
          · have hq' : q < fz := hq
            rw [cell_row hv1] at hcell
            rw [cell_row (setRow_heap _ _ _ _ _ _ hv1), splice_get_lt (by omega) (by omega)]
            exact hcell
          · simp [World.shape?, setRow_heap _ _ _ _ _ _ hv1, hv1, hsl]
        have hcl : (splice xs off (cs.take (min n len * i.size))).length = xs.length := splice_length (by rw [hkl2]; omega)
        have hok := upd_hok hk (id := id) (by rw [hob]; simp) hev hother (by simp)
          ⟨hB, _, setRow_heap _ _ _ _ _ _ hv1, by rw [hcl, hsl]; exact hvl, by
            rw [hcl, splice_take (by rw [hkl]; omega) hvl]
            exact (hv2.splice off hk1).mono fun c u h => RepC.mono hev.cell c u h⟩
        refine ⟨_, goInt (min n len : Nat), m.w.setRow (m.β id) (splice vs off (news.take (min n len * i.size))).toArray, run _ _ ?_, .inl rfl, m.β, grow_hok hok slot, hev.trans (grow_evolves _ slot), RepD.mkLit rfl, below_setRow hB⟩
        rw [e3]; exact hrun'
      · have hrun := run_cpy_empty (P := P) (w := m.w) (sT := t') (ty := o.type) hu h2 hn2 ad 0
        have hmz : min n 0 = 0 := Nat.min_zero n
        have hev : Evolves B S m (m.upd m.w id (.arr (splice xs off (cs.take (min n 0 * i.size))) i.size fz ety)) :=
          upd_evolves hk hob (o' := .arr (splice xs off (cs.take (min n 0 * i.size))) i.size fz ety) ⟨rfl, rfl, Nat.le_refl _⟩ (fun _ _ => rfl) (fun _ _ _ h => h) rfl
        have hxs : splice xs off (cs.take (min n 0 * i.size)) = xs := by simp [splice]
        have hev' := hev
        rw [hxs] at hev'
        have hok := upd_hok hk (id := id) (w' := m.w) (by rw [hob]; simp) hev (fun _ _ => rfl) (Nat.le_refl _)
          ⟨hB, vs, hv1, by rw [hxs]; exact hvl, by rw [hxs]; exact hv2.mono fun c u h => RepC.mono hev'.cell c u h⟩
        refine ⟨_, goInt 0, m.w, run _ _ ?_, .inl rfl, m.β, grow_hok hok slot, hev.trans (grow_evolves _ slot), ?_, Below.refl _ _⟩
        · rw [e3]; exact hrun
        · rw [hmz]; exact RepD.mkLit rfl
  · cases hs

end
end Go.Ev
