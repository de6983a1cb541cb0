/-
  append and copy.
-/
import Derived.Test.YtfphnpelampoeaaEzB
import Derived.Laws.StructEq
set_option linter.unusedVariables false
set_option linter.unusedSimpArgs false
namespace Go.Ez
open Go.RowKit

section
variable {B : Nat} {S : Nat → Nat → Prop} {P : Program} {o : Oper} {a : Act} {m : M} {slot : Nat} {ρ : X → D} {d : D} {us : List (Nat × Obj)}

/-- an array's object is given up -/
theorem kill_evolves {m : M} {id : Nat} : Evolves B S m (m.heap ((id, .dead) :: m.h)) where
  cell b q u h1 h2 := by
    refine ⟨h1, h2.1, fun i => ?_⟩
    simp only [M.heap, getH_cons]
    by_cases hi : id = i
    · simp [hi]
    · simp only [hi, if_false]; exact h2.2 i
  used _ hu := hu
  dead i _ hd := by
    simp only [M.heap, getH_cons]
    by_cases hi : id = i
    · simp [hi]
    · simp only [hi, if_false]; exact hd
  at_ _ _ := rfl
  kind i f _ h := by
    simp only [M.heap, getH_cons] at h
    by_cases hi : id = i
    · simp [hi, form] at h
    · simp only [hi, if_false] at h; exact ⟨h, rfl⟩
  rest b _ _ hn := by
    refine ⟨rfl, fun i hd => ?_⟩
    simp only [M.heap, getH_cons] at hd ⊢
    by_cases hi : id = i
    · simp [hi] at hd
    · simp only [hi, if_false] at hd; exact hn i hd

theorem kill_hok {m : M} (hk : HOK B S m) {id : Nat} : HOK B S (m.heap ((id, .dead) :: m.h)) := by
  have hev := kill_evolves (B := B) (S := S) (m := m) (id := id)
  have harr : ∀ i f, form (getH (m.heap ((id, .dead) :: m.h)).h i) = some f → ∀ o, S ((m.heap ((id, .dead) :: m.h)).β i) o := by
    intro i f hg
    simp only [M.heap, getH_cons] at hg ⊢
    by_cases hi : id = i
    · simp [hi, form] at hg
    · simp only [hi, if_false] at hg; exact hk.arrS i f hg
  refine ⟨fun i => ?_, fun i j hi hj he => ?_, fun i hu => ?_, hk.base, hk.fresh, harr⟩
  · unfold RepO
    by_cases hi : id = i
    · subst hi; simp only [M.heap, getH_cons, if_true]; trivial
    · have h1 : getH (m.heap ((id, .dead) :: m.h)).h i = getH m.h i := by simp [M.heap, getH_cons, hi]
      rw [h1]
      exact hev.repOb rfl (hk.obj i)
  · simp only [M.heap, getH_cons] at hi hj
    by_cases h1 : id = i
    · simp [h1] at hi
    · by_cases h2 : id = j
      · simp [h2] at hj
      · simp only [h1, h2, if_false] at hi hj
        exact hk.inj i j hi hj he
  · simp only [M.heap, getH_cons]
    by_cases h1 : id = i
    · simp [h1]
    · simp only [h1, if_false]; exact hk.dom i hu

def M.move (m : M) (w' : World) (id slot : Nat) (o' : Obj) : M := ⟨w', (slot, o') :: (id, .dead) :: m.h, setβ m.β slot (m.β id), fun i => m.U i ∨ i = slot⟩

/-- an array grows in its place: a new object over the same block -/
theorem move_evolves {m : M} (hk : HOK B S m) {id : Nat} {o' : Obj} (hl : getH m.h id ≠ .dead) (hs : ¬ m.U slot) {w' : World} (hother : ∀ k, k ≠ m.β id → w'.heap[k]? = m.w.heap[k]?)
    (hsafe : ∀ b q, Safe B S m b q → match o' with | .dead => True | .box _ => m.β id ≠ b | .arr _ _ fz _ => m.β id = b → q < fz | .rows _ _ _ => m.β id ≠ b)
    (hcell : ∀ q u, Safe B S m (m.β id) q → m.w.cell? ⟨m.β id, q, none⟩ = some u → w'.cell? ⟨m.β id, q, none⟩ = some u) : Evolves B S m (m.move w' id slot o') where
  cell b q u h1 h2 := by
    refine ⟨?_, h2.1, fun i => ?_⟩
    · by_cases hb : b = m.β id
      · subst hb; exact hcell q u h2 h1
      · rw [← h1]; exact World.cell?_of_block (w := m.w) (a := ⟨b, q, none⟩) (hother b hb)
    · simp only [M.move, getH_cons, setβ]
      by_cases hi : slot = i
      · subst hi; simp only [if_true]; exact hsafe b q h2
      · have hi' : ¬ i = slot := fun e => hi e.symm
        simp only [hi, hi', if_false]
        by_cases hj : id = i
        · simp [hj]
        · simp only [hj, if_false]; exact h2.2 i
  used _ hu := .inl hu
  dead i hu hd := by
    have hi : ¬ slot = i := fun e => hs (e ▸ hu)
    simp only [M.move, getH_cons, hi, if_false]
    by_cases hj : id = i
    · simp [hj]
    · simp only [hj, if_false]; exact hd
  at_ i hu := by
    have hi : ¬ i = slot := fun e => hs (e ▸ hu)
    simp [M.move, setβ, hi]
  kind i f hu h := by
    have hi : ¬ slot = i := fun e => hs (e ▸ hu)
    simp only [M.move, getH_cons, hi, if_false] at h
    by_cases hj : id = i
    · simp [hj, form] at h
    · simp only [hj, if_false] at h
      refine ⟨h, ?_⟩
      have : m.β i ≠ m.β id := fun e => hj (hk.inj i id (form_live h) hl e).symm
      simp [World.shape?, M.move, hother _ this]
  rest b _ _ hn := by
    have hid : m.β id ≠ b := hn id hl
    refine ⟨hother b fun e => hid e.symm, fun i hd => ?_⟩
    simp only [M.move, getH_cons, setβ] at hd ⊢
    by_cases hi : slot = i
    · subst hi; simpa using hid
    · have hi' : ¬ i = slot := fun e => hi e.symm
      simp only [hi, if_false] at hd
      simp only [hi', if_false]
      by_cases hj : id = i
      · subst hj; exact hid
      · simp only [hj, if_false] at hd; exact hn i hd

theorem move_hok {m : M} (hk : HOK B S m) {id : Nat} {o' : Obj} {f0 : Nat × Nat} (hform : form (getH m.h id) = some f0) {w' : World} (hother : ∀ k, k ≠ m.β id → w'.heap[k]? = m.w.heap[k]?) (hsz : m.w.heap.size ≤ w'.heap.size)
    (hev : Evolves B S m (m.move w' id slot o')) (hrep : RepOb B S (m.move w' id slot o') (m.β id) o') : HOK B S (m.move w' id slot o') := by
  have hlive : getH m.h id ≠ .dead := form_live hform
  have harr : ∀ i f, form (getH (m.move w' id slot o').h i) = some f → ∀ o, S ((m.move w' id slot o').β i) o := by
    intro i f hg q
    simp only [M.move, getH_cons, setβ] at hg ⊢
    by_cases hi : slot = i
    · subst hi
      simp only [if_true]
      exact hk.arrS id f0 hform q
    · have hi' : ¬ i = slot := fun e => hi e.symm
      simp only [hi, if_false] at hg
      simp only [hi', if_false]
      by_cases hj : id = i
      · simp [hj, form] at hg
      · simp only [hj, if_false] at hg; exact hk.arrS i f hg q
  refine ⟨fun i => ?_, fun i j hi hj he => ?_, fun i hu => ?_, Nat.le_trans hk.base hsz, fun b q hb => hk.fresh b q (Nat.le_trans hsz hb), harr⟩
  · unfold RepO
    by_cases hi : slot = i
    · subst hi
      have h1 : getH (m.move w' id slot o').h slot = o' := by simp [M.move, getH_cons]
      have h2 : (m.move w' id slot o').β slot = m.β id := by simp [M.move, setβ]
      rw [h1, h2]; exact hrep
    · have hi' : ¬ i = slot := fun e => hi e.symm
      have h2 : (m.move w' id slot o').β i = m.β i := by simp [M.move, setβ, hi']
      by_cases hj : id = i
      · have h1 : getH (m.move w' id slot o').h i = .dead := by simp [M.move, getH_cons, hi, hj]
        rw [h1]; trivial
      · have h1 : getH (m.move w' id slot o').h i = getH m.h i := by simp [M.move, getH_cons, hi, hj]
        rw [h1, h2]
        by_cases hd : getH m.h i = .dead
        · rw [hd]; trivial
        · exact hev.repOb (hother _ fun e => hj (hk.inj i id hd hlive e).symm) (hk.obj i)
  · simp only [M.move, getH_cons, setβ] at hi hj he
    by_cases h1 : slot = i <;> by_cases h2 : slot = j
    · omega
    · have h1' : i = slot := h1.symm
      have h2' : ¬ j = slot := fun e => h2 e.symm
      simp only [h2, h1', h2', if_true, if_false] at hj he
      by_cases h3 : id = j
      · simp [h3] at hj
      · simp only [h3, if_false] at hj
        exact absurd (hk.inj id j hlive hj he) h3
    · have h1' : ¬ i = slot := fun e => h1 e.symm
      have h2' : j = slot := h2.symm
      simp only [h1, h1', h2', if_true, if_false] at hi he
      by_cases h3 : id = i
      · simp [h3] at hi
      · simp only [h3, if_false] at hi
        exact absurd (hk.inj i id hi hlive he).symm h3
    · have h1' : ¬ i = slot := fun e => h1 e.symm
      have h2' : ¬ j = slot := fun e => h2 e.symm
      simp only [h1, h1', h2, h2', if_false] at hi hj he
      by_cases h3 : id = i
      · simp [h3] at hi
      · by_cases h4 : id = j
        · simp [h4] at hj
        · simp only [h3, h4, if_false] at hi hj
          exact hk.inj i j hi hj he
  · simp only [M.move] at hu ⊢
    have h1 : ¬ m.U i := fun h => hu (.inl h)
    have h2 : ¬ slot = i := fun h => hu (.inr h.symm)
    simp only [getH_cons, h2, if_false]
    by_cases h3 : id = i
    · simp [h3]
    · simp only [h3, if_false]; exact hk.dom i h1

theorem zeroCells_len (z : Array Value) (n : Nat) : (Builtin.zeroCells z n).toList.length = n * z.size := by simp [Builtin.zeroCells]

theorem rowsOf_ok {m : M} (hk : HOK B S m) {d : D} {u : Value} (hr : RepD B S m d u) {esz n : Nat} {ys : List D} (hs : rowsOf m.h esz d = some (ys, n)) (hl : ys.length = n * esz) :
    ∃ news, All2 (RepDc B S m) ys news ∧ Src P m.w esz n u news := by
  unfold rowsOf at hs
  split at hs
  case h_2 => cases hs
  rename_i id off len
  obtain ⟨hu, ad, cap, hv, hcap, hr⟩ := hr
  cases ho : getH m.h id with
  | dead => rw [ho] at hs; cases hs
  | box ds => rw [ho] at hs; cases hs
  | arr cs0 esz0 fz ety => rw [ho] at hs; cases hs
  | rows ds esz0 ety =>
    rw [ho] at hs hr
    simp only at hs hr
    split at hs
    case isFalse => cases hs
    rename_i hc
    obtain ⟨rfl, hlen⟩ := hc
    simp only [Option.some.injEq, Prod.mk.injEq] at hs
    obtain ⟨rfl, rfl⟩ := hs
    obtain ⟨hB, vs, hv1, hv2, hv3⟩ := hk.rows ho
    have hall := (hv3.drop off).take (len * esz0)
    refine ⟨_, hall, ?_⟩
    subst hv
    rcases hr with ⟨rfl, _⟩ | ⟨rfl, rfl⟩
    · refine src_cells (fun _ => rfl) (by rw [← hall.len]; exact hl) fun j v hv => ?_
      have hj : j < len * esz0 := by have := (List.getElem?_eq_some_iff.1 hv).1; simp at this; omega
      rw [List.getElem?_take_of_lt hj, List.getElem?_drop, List.getElem?_take_of_lt (by omega)] at hv
      show m.w.cell? ⟨m.β id, off + j, none⟩ = _
      rw [cell_row hv1]; exact hv
    · refine src_cells (fun h => ?_) (by simp) fun j v hv => ?_
      · simp at h
      · simp at hv

theorem does_appR (hk : HOK B S m) {X0 Y0 : D} {vx vy : Value} (e1 : RepD B S m X0 vx) (e2 : RepD B S m Y0 vy) (hs0 : ¬ m.U slot) {t t' e : TypeId} {i : TypeInfo} {z : List Value} {zv : Value} {d' : TypeDesc}
    (hu : P.underlying t = some (.slice e)) (h2 : P.info? e = some i) (g2 : i.zero = some zv) (g3 : zv.cells.toList = z) (g5 : z.length = i.size) (h4 : P.underlying t' = some d') (h5 : ∀ k, d' ≠ .int k)
    (run : ∀ v w', (Builtin.append_ #[t, t'] o.type #[vx, vy]).run P m.w = .ok v w' → (execOp a.eval o).run P m.w = .ok (.value v) w')
    {ys : List D} {n : Nat} (hro : rowsOf m.h i.size Y0 = some (ys, n)) (hs : appR m.h slot i.size e i.bytes ys n X0 = some (d, us)) : Does B S P o a m slot d us := by
  have hzs : zv.cells.size = i.size := by rw [← g5, ← g3]; simp
  unfold appR at hs
  split at hs
  · split at hs
    case isFalse => cases hs
    rename_i hc
    obtain ⟨c1, c2, c3, c4, c5⟩ := hc
    simp only [Option.some.injEq, Prod.mk.injEq] at hs
    obtain ⟨rfl, rfl⟩ := hs
    obtain ⟨news, hn1, hn2⟩ := rowsOf_ok (P := P) hk e2 hro c1
    have e1' : RepDc B S m (.full [] 0) vx := e1
    unfold roomMax at c2 c4
    rcases e1' with ⟨e3, _, _⟩ | ⟨ad, e3, e4, e5⟩
    · have := run_app_nil (P := P) (w := m.w) (ty := o.type) hu h4 h5 h2 g2 hn2 (by omega) (by omega) (by omega)
      have hge := grownCap_ge m.w n 0 e
      have hle := grownCap_le_maxLen m.w n 0 e (by simp only [maxLen]; omega)
      refine does_newrows (us0 := []) hk hs0 hk (Evolves.refl m) (spare := (Builtin.zeroCells zv.cells (grownCap m.w n 0 e - n)).toList) (cap := grownCap m.w n 0 e) hn1 hge ?_ hle (.inr rfl) (run _ _ ?_)
      · rw [List.length_append, zeroCells_len, hzs, hn2.cells, ← Nat.add_mul]
        congr 1; omega
      · rw [e3, this]
        congr 2
        simp
    · have hfit := growslice_fits (show 0 < 0 + n by omega) (bytes := i.bytes) (by rw [Nat.zero_add]; exact c2)
      have hrun := run_app_grow (P := P) (w := m.w) (ty := o.type) hu h4 h5 h2 g2 hn2 ad 0 0 [] (by simp) (fun j v hv => by simp at hv) (by omega) (by omega) hfit
      have hge := grownCap_ge m.w (0 + n) 0 e
      have hle := grownCap_le_maxLen m.w (0 + n) 0 e (by simp only [maxLen]; omega)
      refine does_newrows (us0 := []) hk hs0 hk (Evolves.refl m) (spare := (Builtin.zeroCells zv.cells (grownCap m.w (0 + n) 0 e - (0 + n))).toList) (cap := grownCap m.w (0 + n) 0 e) hn1 (by omega) ?_ hle (.inr rfl) (run _ _ ?_)
      · rw [List.length_append, zeroCells_len, hzs, hn2.cells, ← Nat.add_mul]
        congr 1; omega
      · rw [e3, hrun]
        congr 2
        · simp
        · simp
  · rename_i id off len
    cases hob : getH m.h id with
    | dead => rw [hob] at hs; cases hs
    | box ds => rw [hob] at hs; cases hs
    | arr ds esz fz ety => rw [hob] at hs; cases hs
    | rows xs esz' ety' =>
      rw [hob] at hs
      simp only at hs
      split at hs
      case isFalse => cases hs
      rename_i hc
      obtain ⟨c1, c2, c3, c4, rfl, rfl, rfl, c6, c7⟩ := hc
      simp only [Option.some.injEq, Prod.mk.injEq] at hs
      obtain ⟨rfl, rfl⟩ := hs
      obtain ⟨news, hn1, hn2⟩ := rowsOf_ok (P := P) hk e2 hro c1
      obtain ⟨hB, vs, hv1, hvl, hv2⟩ := hk.rows hob
      obtain ⟨hU, ad, cap, e3, e4, e5⟩ := e1
      rw [hob] at e5
      simp only at e5
      unfold roomMax at c2 c4
      have holds : All2 (RepDc B S m) (xs.take (len * i.size)) (vs.take (len * i.size)) := by
        have := hv2.take (len * i.size)
        rw [List.take_take, Nat.min_eq_left c6] at this
        exact this
      have hlo : (vs.take (len * i.size)).length = len * i.size := by rw [← holds.len, List.length_take]; omega
      have hnl : news.length = n * i.size := hn2.cells
      have hsafe : ∀ b q, Safe B S m b q → m.β id ≠ b := fun b q hq => by have := hq.2 id; rw [hob] at this; exact this
      by_cases hroom : len + n ≤ cap ∧ cap ≠ 0
      · -- in place
        obtain ⟨hroom, hcap0⟩ := hroom
        rcases e5 with ⟨rfl, sz, e6, e7, e8⟩ | ⟨_, hz⟩
        case inr => exact absurd hz hcap0
        have hsz : sz = vs.length := by simp [World.shape?, hv1] at e6; omega
        have hmul : (len + n) * i.size ≤ cap * i.size := Nat.mul_le_mul_right _ hroom
        rw [Nat.add_mul] at hmul
        have hfit : len * i.size + news.length ≤ vs.toArray.size := by simp; omega
        have hrun := run_app_room (P := P) (w := m.w) (ty := o.type) hu h4 h5 h2 hn2 (m.β id) len cap vs.toArray hv1 (all_oneCell hn1 c7) hroom hfit
        simp only at hrun
        have hother : ∀ k, k ≠ m.β id → (m.w.setRow (m.β id) (vs.take (len * i.size) ++ news ++ vs.drop (len * i.size + news.length)).toArray).heap[k]? = m.w.heap[k]? := fun k hk' => setRow_other _ _ _ _ hk'
        have hev : Evolves B S m (m.move (m.w.setRow (m.β id) (vs.take (len * i.size) ++ news ++ vs.drop (len * i.size + news.length)).toArray) id slot (.rows (xs.take (len * i.size) ++ ys) i.size ety')) :=
          move_evolves hk (by rw [hob]; simp) hs0 hother (fun b q hq => hsafe b q hq) fun q u hq _ => absurd rfl (hsafe _ _ hq)
        have hlen2 : (xs.take (len * i.size) ++ ys).length = (vs.take (len * i.size) ++ news).length := (holds.append hn1).len
        have hok := move_hok hk (by rw [hob]; rfl) hother (by simp) hev ⟨hB, _, setRow_heap _ _ _ _ _ _ hv1, by rw [List.length_append (as := vs.take _ ++ news), hlen2]; omega, by
          rw [hlen2, List.take_left]
          exact (holds.append hn1).mono fun c u h => hev.repDc h⟩
        refine ⟨_, .slice (some ⟨m.β id, 0, none⟩) (len + n) cap, _, run _ _ ?_, .inl rfl, setβ m.β slot (m.β id), hok, hev, ?_, below_setRow hB⟩
        · rw [e3]; exact hrun
        · refine ⟨.inr rfl, ⟨m.β id, 0, none⟩, cap, rfl, hroom, ?_⟩
          simp only [updH, getH_cons, if_true, setβ]
          refine .inl ⟨trivial, sz, ?_, by omega, e8⟩
          simp only [World.shape?, setRow_heap _ _ _ _ _ _ hv1]
          simp
          omega
      · have hk1 := kill_hok hk (id := id)
        have hev1 := kill_evolves (B := B) (S := S) (m := m) (id := id)
        by_cases hz : len + n = 0
        · have hl0 : len = 0 := by omega
          have hn0 : n = 0 := by omega
          subst hl0 hn0
          have hcap0 : cap = 0 := by
            rcases Nat.eq_zero_or_pos cap with h | h
            · exact h
            · exact absurd ⟨by omega, by omega⟩ hroom
          subst hcap0
          have hrun := run_app_zero (P := P) (w := m.w) (ty := o.type) hu h4 h5 h2 hn2 ad 0 0 (Nat.le_refl _)
          have hev : Evolves B S m (m.move m.w id slot (.rows (xs.take (0 * i.size) ++ ys) i.size ety')) := move_evolves hk (by rw [hob]; simp) hs0 (fun _ _ => rfl) (fun b q hq => hsafe b q hq) fun _ _ _ h => h
          have hcs0 : ys = [] := List.eq_nil_of_length_eq_zero (by simpa using c1)
          subst hcs0
          have hok := move_hok hk (by rw [hob]; rfl) (w' := m.w) (fun _ _ => rfl) (Nat.le_refl _) hev ⟨hB, vs, hv1, by simp, by simp [All2]⟩
          refine ⟨_, .slice (some ad) 0 0, _, run _ _ ?_, .inl rfl, setβ m.β slot (m.β id), hok, hev, ?_, Below.refl _ _⟩
          · rw [e3]; exact hrun
          · refine ⟨.inr rfl, ad, 0, rfl, Nat.le_refl _, ?_⟩
            simp only [updH, getH_cons, if_true]
            exact .inr ⟨trivial, trivial⟩
        · have hgrow : cap < len + n := by
            rcases Nat.lt_or_ge cap (len + n) with h | h
            · exact h
            · exact absurd ⟨h, by omega⟩ hroom
          have hfit := growslice_fits hgrow (bytes := i.bytes) c2
          have holds2 : ∀ j v, (vs.take (len * i.size))[j]? = some v → m.w.cell? (ad.add j) = some v := by
            intro j v hv
            rcases e5 with ⟨rfl, _⟩ | ⟨hl0, _⟩
            · rw [add_off, cell_row hv1]
              have hj : j < len * i.size := by have := (List.getElem?_eq_some_iff.1 hv).1; simp at this; omega
              rw [List.getElem?_take_of_lt hj] at hv
              simpa using hv
            · subst hl0; simp at hv
          have hrun := run_app_grow (P := P) (w := m.w) (ty := o.type) hu h4 h5 h2 g2 hn2 ad len cap (vs.take (len * i.size)) hlo holds2 hgrow (by omega) hfit
          have hge := grownCap_ge m.w (len + n) cap ety'
          have hle := grownCap_le_maxLen m.w (len + n) cap ety' (by simp only [maxLen]; omega)
          have hall : All2 (RepDc B S (m.heap (updH m.h [(id, .dead)]))) (xs.take (len * i.size) ++ ys) (vs.take (len * i.size) ++ news) :=
            (holds.append hn1).mono fun c u h => hev1.repDc h
          refine does_newrows (us0 := [(id, .dead)]) hk hs0 hk1 hev1 (spare := (Builtin.zeroCells zv.cells (grownCap m.w (len + n) cap ety' - (len + n))).toList) (cap := grownCap m.w (len + n) cap ety') hall hge ?_ hle (.inr rfl) (run _ _ ?_)
          · rw [List.length_append, List.length_append, zeroCells_len, hzs, hlo, hnl, ← Nat.add_mul, ← Nat.add_mul]
            congr 1; omega
          · rw [e3, hrun]
            congr 2
            simp
  · cases hs

theorem does_app (hk : HOK B S m) (ho : Opd B S m ρ a) (hs0 : ¬ m.U slot) {t t' e : TypeId} {x y : Operand} {X' Y' : X} {i : TypeInfo} {z : List Value} {d' : TypeDesc} (hop : o.op = .call { callee := .builtin .append, args := #[x, y], argTypes := #[t, t'] })
    (h1 : elemOfSlice P t = some e) (h2 : P.info? e = some i) (h3 : zeroOf P e = some z) (h4 : P.underlying t' = some d') (h5 : ∀ k, d' ≠ .int k)
    (hx : compX x = some X') (hy : compX y = some Y') (hs : step ρ m.h slot (.app i.size e i.bytes X' Y') = some (d, us)) : Does B S P o a m slot d us := by
  have hu := elemOfSlice_some h1
  obtain ⟨i', zv, g1, g2, g3, g4, g5⟩ := zeroOf_some h3
  rw [h2] at g1
  simp only [Option.some.injEq] at g1
  subst g1
  have hzs : zv.cells.size = i.size := by rw [← g5, ← g3]; simp
  have e1 := ho x X' hx
  have e2 := ho y Y' hy
  have run : ∀ v w', (Builtin.append_ #[t, t'] o.type #[a.eval x, a.eval y]).run P m.w = .ok v w' → (execOp a.eval o).run P m.w = .ok (.value v) w' := by
    intro v w' h
    simp [execOp, hop, resolve, invoke, builtin, h]
  simp only [step] at hs
  split at hs
  · rename_i ys n hro
    exact does_appR hk e1 e2 hs0 hu h2 g2 g3 g5 h4 h5 run hro hs
  unfold appD at hs
  split at hs
  · rename_i ds k he
    simp only [Option.bind_eq_bind, Option.bind_eq_some_iff, Prod.exists] at hs
    obtain ⟨cs, n, hs1, hs2⟩ := hs
    split at hs2
    case isFalse => cases hs2
    rename_i hc
    obtain ⟨c1, c0, c2, c3, c4⟩ := hc
    obtain ⟨news, hn1, hn2⟩ := srcOf_ok (P := P) hk e2 hs1 c1
    rw [he] at e1
    have e1' : RepDc B S m (.full ds k) (a.eval x) := e1
    unfold roomMax at c2 c4
    split at hs2
    · rename_i hz
      subst hz
      simp only [Option.some.injEq, Prod.mk.injEq] at hs2
      obtain ⟨rfl, rfl⟩ := hs2
      rcases e1' with ⟨e3, rfl, rfl⟩ | ⟨ad, e3, e4, e5⟩
      · have := run_app_nil0 (P := P) (w := m.w) (ty := o.type) hu h4 h5 h2 hn2
        refine does_pure hk slot (run _ _ (by rw [e3]; exact this)) ?_
        show RepDc B S m (.full [] 0) _
        exact .inl ⟨rfl, rfl, rfl⟩
      · have := run_app_zero (P := P) (w := m.w) (ty := o.type) hu h4 h5 h2 hn2 ad k k (Nat.le_refl _)
        refine does_pure hk slot (run _ _ (by rw [e3]; exact this)) ?_
        show RepDc B S m (.full ds k) _
        exact .inr ⟨ad, rfl, e4, e5⟩
    · rename_i hz
      simp only [Option.some.injEq, Prod.mk.injEq] at hs2
      obtain ⟨rfl, rfl⟩ := hs2
      rcases e1' with ⟨e3, rfl, rfl⟩ | ⟨ad, e3, e4, e5⟩
      · rw [Nat.zero_add] at c2
        have := run_app_nil (P := P) (w := m.w) (ty := o.type) hu h4 h5 h2 g2 hn2 (by omega) (by omega) (by omega)
        have hge := grownCap_ge m.w n 0 e
        have hle := grownCap_le_maxLen m.w n 0 e (by simp only [maxLen]; omega)
        simp only [Nat.zero_add, List.nil_append]
        refine does_newrow (us0 := []) hk hs0 hk (Evolves.refl m) (spare := (Builtin.zeroCells zv.cells (grownCap m.w n 0 e - n)).toList) (cap := grownCap m.w n 0 e) hn1 hge ?_ hle (.inr rfl) (run _ _ ?_)
        · rw [List.length_append, zeroCells_len, hzs, hn2.cells, ← Nat.add_mul]
          congr 1; omega
        · rw [e3, this]
          congr 2
          simp
      · obtain ⟨vs, hv1, hv2⟩ := RepCs_get e5
        have hlo : vs.length = k * i.size := by rw [← hv1.len]; exact c0
        have hnl : news.length = n * i.size := hn2.cells
        have holds2 : ∀ j v, vs[j]? = some v → m.w.cell? (ad.add j) = some v := by
          intro j v hv
          have hne : ds ≠ [] := by
            intro e
            subst e
            cases vs with
            | nil => simp at hv
            | cons _ _ => exact hv1.elim
          obtain ⟨b, of, sp⟩ := ad
          have : sp = none := e4 hne
          subst this
          rw [add_off]
          exact (hv2 j v hv).1
        have hfit := growslice_fits (show k < k + n by omega) (bytes := i.bytes) c2
        have hrun := run_app_grow (P := P) (w := m.w) (ty := o.type) hu h4 h5 h2 g2 hn2 ad k k vs hlo holds2 (by omega) (by omega) hfit
        have hge := grownCap_ge m.w (k + n) k e
        have hle := grownCap_le_maxLen m.w (k + n) k e (by simp only [maxLen]; omega)
        refine does_newrow (us0 := []) hk hs0 hk (Evolves.refl m) (spare := (Builtin.zeroCells zv.cells (grownCap m.w (k + n) k e - (k + n))).toList) (cap := grownCap m.w (k + n) k e) (hv1.append hn1) hge ?_ hle (.inr rfl) (run _ _ ?_)
        · rw [List.length_append, List.length_append, zeroCells_len, hzs, hlo, hnl, ← Nat.add_mul, ← Nat.add_mul]
          congr 1; omega
        · rw [e3, hrun]
          congr 2
          simp
  · rename_i id off len he
    cases hob : getH m.h id with
    | dead => rw [hob] at hs; cases hs
    | box ds => rw [hob] at hs; cases hs
    | rows ds esz ety => rw [hob] at hs; cases hs
    | arr xs esz' fz ety' =>
      rw [hob] at hs
      simp only [Option.bind_eq_bind, Option.bind_eq_some_iff, Prod.exists] at hs
      obtain ⟨cs, n, hs1, hs2⟩ := hs
      split at hs2
      case isFalse => cases hs2
      rename_i hc
      obtain ⟨c1, c2, c3, c4, rfl, rfl, rfl, c5, c6⟩ := hc
      simp only [Option.some.injEq, Prod.mk.injEq] at hs2
      obtain ⟨rfl, rfl⟩ := hs2
      obtain ⟨news, hn1, hn2⟩ := srcOf_ok (P := P) hk e2 hs1 c1
      obtain ⟨hB, vs, hv1, hvl, hv2⟩ := hk.arr hob
      rw [he] at e1
      obtain ⟨hU, ad, cap, e3, e4, e5⟩ := e1
      rw [hob] at e5
      simp only at e5
      unfold roomMax at c2 c4
      have holds : All2 (RepC m.w (Safe B S m)) (xs.take (len * i.size)) (vs.take (len * i.size)) := by
        have := hv2.take (len * i.size)
        rw [List.take_take, Nat.min_eq_left c6] at this
        exact this
      have hlo : (vs.take (len * i.size)).length = len * i.size := by rw [← holds.len, List.length_take]; omega
      have hnl : news.length = n * i.size := hn2.cells
      by_cases hroom : len + n ≤ cap ∧ cap ≠ 0
      · -- in place
        obtain ⟨hroom, hcap0⟩ := hroom
        rcases e5 with ⟨rfl, sz, e6, e7, e8⟩ | ⟨_, hz⟩
        case inr => exact absurd hz hcap0
        have hsz : sz = vs.length := by simp [World.shape?, hv1] at e6; omega
        have hmul : (len + n) * i.size ≤ cap * i.size := Nat.mul_le_mul_right _ hroom
        rw [Nat.add_mul] at hmul
        have hfit : len * i.size + news.length ≤ vs.toArray.size := by simp; omega
        have hrun := run_app_room (P := P) (w := m.w) (ty := o.type) hu h4 h5 h2 hn2 (m.β id) len cap vs.toArray hv1 (All2.mem_right (fun _ _ h => h.oneCell) hn1) hroom hfit
        simp only at hrun
        have hother : ∀ k, k ≠ m.β id → (m.w.setRow (m.β id) (vs.take (len * i.size) ++ news ++ vs.drop (len * i.size + news.length)).toArray).heap[k]? = m.w.heap[k]? := fun k hk' => setRow_other _ _ _ _ hk'
        have hev : Evolves B S m (m.move (m.w.setRow (m.β id) (vs.take (len * i.size) ++ news ++ vs.drop (len * i.size + news.length)).toArray) id slot (.arr (xs.take (len * i.size) ++ cs) i.size fz ety')) := by
          refine move_evolves hk (by rw [hob]; simp) hs0 hother (fun b q hq => by have := hq.2 id; rw [hob] at this; exact this) fun q u hq hcell => ?_
          replace hq : q < fz := by have := hq.2 id; rw [hob] at this; exact this rfl
          rw [cell_row hv1] at hcell
          rw [cell_row (setRow_heap _ _ _ _ _ _ hv1), List.append_assoc, List.getElem?_append_left (by rw [hlo]; omega), List.getElem?_take_of_lt (by omega)]
          exact hcell
        have hlen2 : (xs.take (len * i.size) ++ cs).length = (vs.take (len * i.size) ++ news).length := (holds.append hn1).len
        have hok := move_hok hk (by rw [hob]; rfl) hother (by simp) hev ⟨hB, _, setRow_heap _ _ _ _ _ _ hv1, by rw [List.length_append (as := vs.take _ ++ news), hlen2]; omega, by
          rw [hlen2, List.take_left]
          exact (holds.append hn1).mono fun c u h => RepC.mono hev.cell c u h⟩
        refine ⟨_, .slice (some ⟨m.β id, 0, none⟩) (len + n) cap, _, run _ _ ?_, .inl rfl, setβ m.β slot (m.β id), hok, hev, ?_, below_setRow hB⟩
        · rw [e3]; exact hrun
        · refine ⟨.inr rfl, ⟨m.β id, 0, none⟩, cap, rfl, hroom, ?_⟩
          simp only [updH, getH_cons, if_true, setβ]
          refine .inl ⟨trivial, sz, ?_, by omega, e8⟩
          simp only [World.shape?, setRow_heap _ _ _ _ _ _ hv1]
          simp
          omega
      · -- a new block, or nothing at all
        have hk1 := kill_hok hk (id := id)
        have hev1 := kill_evolves (B := B) (S := S) (m := m) (id := id)
        by_cases hz : len + n = 0
        · -- the empty slice of no room
          have hl0 : len = 0 := by omega
          have hn0 : n = 0 := by omega
          subst hl0 hn0
          have hcap0 : cap = 0 := by
            rcases Nat.eq_zero_or_pos cap with h | h
            · exact h
            · exact absurd ⟨by omega, by omega⟩ hroom
          subst hcap0
          have hrun := run_app_zero (P := P) (w := m.w) (ty := o.type) hu h4 h5 h2 hn2 ad 0 0 (Nat.le_refl _)
          have hev : Evolves B S m (m.move m.w id slot (.arr (xs.take (0 * i.size) ++ cs) i.size fz ety')) := move_evolves hk (by rw [hob]; simp) hs0 (fun _ _ => rfl) (fun b q hq => by have := hq.2 id; rw [hob] at this; exact this) fun _ _ _ h => h
          have hcs0 : cs = [] := List.eq_nil_of_length_eq_zero (by simpa using c1)
          subst hcs0
          have hok := move_hok hk (by rw [hob]; rfl) (w' := m.w) (fun _ _ => rfl) (Nat.le_refl _) hev ⟨hB, vs, hv1, by simp, by simp [All2]⟩
          refine ⟨_, .slice (some ad) 0 0, _, run _ _ ?_, .inl rfl, setβ m.β slot (m.β id), hok, hev, ?_, Below.refl _ _⟩
          · rw [e3]; exact hrun
          · refine ⟨.inr rfl, ad, 0, rfl, Nat.le_refl _, ?_⟩
            simp only [updH, getH_cons, if_true]
            exact .inr ⟨trivial, trivial⟩
        · have hgrow : cap < len + n := by
            rcases Nat.lt_or_ge cap (len + n) with h | h
            · exact h
            · exact absurd ⟨h, by omega⟩ hroom
          have hfit := growslice_fits hgrow (bytes := i.bytes) c2
          have holds2 : ∀ j v, (vs.take (len * i.size))[j]? = some v → m.w.cell? (ad.add j) = some v := by
            intro j v hv
            rcases e5 with ⟨rfl, _⟩ | ⟨hl0, _⟩
            · rw [add_off, cell_row hv1]
              have hj : j < len * i.size := by have := (List.getElem?_eq_some_iff.1 hv).1; simp at this; omega
              rw [List.getElem?_take_of_lt hj] at hv
              simpa using hv
            · subst hl0; simp at hv
          have hrun := run_app_grow (P := P) (w := m.w) (ty := o.type) hu h4 h5 h2 g2 hn2 ad len cap (vs.take (len * i.size)) hlo holds2 hgrow (by omega) hfit
          have hge := grownCap_ge m.w (len + n) cap ety'
          have hle := grownCap_le_maxLen m.w (len + n) cap ety' (by simp only [maxLen]; omega)
          have hall : All2 (RepC m.w (Safe B S (m.heap (updH m.h [(id, .dead)])))) (xs.take (len * i.size) ++ cs) (vs.take (len * i.size) ++ news) :=
            (holds.append hn1).mono fun c u h => RepC.mono hev1.cell c u h
          refine does_newrow (us0 := [(id, .dead)]) (fz := fz) hk hs0 hk1 hev1 (spare := (Builtin.zeroCells zv.cells (grownCap m.w (len + n) cap ety' - (len + n))).toList) (cap := grownCap m.w (len + n) cap ety') hall hge ?_ hle (.inr rfl) (run _ _ ?_)
          · rw [List.length_append, List.length_append, zeroCells_len, hzs, hlo, hnl, ← Nat.add_mul, ← Nat.add_mul]
            congr 1; omega
          · rw [e3, hrun]
            congr 2
            simp
  · cases hs

theorem does_cpy (hk : HOK B S m) (ho : Opd B S m ρ a) {t t' e : TypeId} {x y : Operand} {X' Y' : X} {i : TypeInfo} (hop : o.op = .call { callee := .builtin .copy, args := #[x, y], argTypes := #[t, t'] })
    (h1 : elemOfSlice P t = some e) (h2 : P.info? e = some i) (hx : compX x = some X') (hy : compX y = some Y') (hs : step ρ m.h slot (.cpy i.size X' Y') = some (d, us)) : Does B S P o a m slot d us := by
  have hu := elemOfSlice_some h1
  have e1 := ho x X' hx
  have e2 := ho y Y' hy
  have run : ∀ v w', (Builtin.copy_ #[t, t'] o.type #[a.eval x, a.eval y]).run P m.w = .ok v w' → (execOp a.eval o).run P m.w = .ok (.value v) w' := by
    intro v w' h
    simp [execOp, hop, resolve, invoke, builtin, h]
  simp only [step] at hs
  unfold cpyD at hs
  split at hs
  · rename_i id off len he
    cases hob : getH m.h id with
    | dead => rw [hob] at hs; cases hs
    | box ds => rw [hob] at hs; cases hs
    | rows ds esz ety => rw [hob] at hs; cases hs
    | arr xs esz' fz ety =>
      rw [hob] at hs
      simp only [Option.bind_eq_bind, Option.bind_eq_some_iff, Prod.exists] at hs
      obtain ⟨cs, n, hs1, hs2⟩ := hs
      split at hs2
      case isFalse => cases hs2
      rename_i hc
      obtain ⟨c1, rfl, c2, c3⟩ := hc
      simp only [Option.some.injEq, Prod.mk.injEq] at hs2
      obtain ⟨rfl, rfl⟩ := hs2
      obtain ⟨news, hn1, hn2⟩ := srcOf_ok (P := P) hk e2 hs1 c1
      obtain ⟨hB, vs, hv1, hvl, hv2⟩ := hk.arr hob
      rw [he] at e1
      obtain ⟨hU, ad, cap, e3, e4, e5⟩ := e1
      rw [hob] at e5
      simp only at e5
      have hmin : min n len ≤ n := Nat.min_le_left _ _
      have hmin2 : min n len ≤ len := Nat.min_le_right _ _
      have hm1 := Nat.mul_le_mul_right i.size hmin
      have hm2 := Nat.mul_le_mul_right i.size hmin2
      have hk1 : All2 (RepC m.w (Safe B S m)) (cs.take (min n len * i.size)) (news.take (min n len * i.size)) := hn1.take _
      have hkl : (news.take (min n len * i.size)).length = min n len * i.size := by rw [List.length_take, hn2.cells]; omega
      have hkl2 : (cs.take (min n len * i.size)).length = min n len * i.size := by rw [hk1.len]; exact hkl
      rcases e5 with ⟨rfl, sz, e6, e7, e8⟩ | ⟨rfl, rfl⟩
      · have hrun := run_cpy (P := P) (w := m.w) (sT := t') (ty := o.type) hu h2 hn2 (m.β id) off len cap vs.toArray ety hv1 (All2.mem_right (fun _ _ h => h.oneCell) hn1) (by simp; omega)
        have hrun' : (Builtin.copy_ #[t, t'] o.type #[.slice (some ⟨m.β id, off, none⟩) len cap, a.eval y]).run P m.w = .ok (goInt (min n len : Nat)) (m.w.setRow (m.β id) (splice vs off (news.take (min n len * i.size))).toArray) := hrun
        have hsl : (splice vs off (news.take (min n len * i.size))).length = vs.length := splice_length (by rw [hkl]; omega)
        have hother : ∀ k, k ≠ m.β id → (m.w.setRow (m.β id) (splice vs off (news.take (min n len * i.size))).toArray).heap[k]? = m.w.heap[k]? := fun k hk' => setRow_other _ _ _ _ hk'
        have hev : Evolves B S m (m.upd (m.w.setRow (m.β id) (splice vs off (news.take (min n len * i.size))).toArray) id (.arr (splice xs off (cs.take (min n len * i.size))) i.size fz ety)) := by
          refine upd_evolves hk hob (o' := .arr (splice xs off (cs.take (min n len * i.size))) i.size fz ety) ⟨rfl, rfl, Nat.le_refl _⟩ hother (fun q u hq hcell => ?_) ?_
          · have hq' : q < fz := hq
            rw [cell_row hv1] at hcell
            rw [cell_row (setRow_heap _ _ _ _ _ _ hv1), splice_get_lt (by omega) (by omega)]
            exact hcell
          · simp [World.shape?, setRow_heap _ _ _ _ _ _ hv1, hv1, hsl]
        have hcl : (splice xs off (cs.take (min n len * i.size))).length = xs.length := splice_length (by rw [hkl2]; omega)
        have hok := upd_hok hk (id := id) (by rw [hob]; simp) hev hother (by simp)
          ⟨hB, _, setRow_heap _ _ _ _ _ _ hv1, by rw [hcl, hsl]; exact hvl, by
            rw [hcl, splice_take (by rw [hkl]; omega) hvl]
            exact (hv2.splice off hk1).mono fun c u h => RepC.mono hev.cell c u h⟩
        refine ⟨_, goInt (min n len : Nat), m.w.setRow (m.β id) (splice vs off (news.take (min n len * i.size))).toArray, run _ _ ?_, .inl rfl, m.β, grow_hok hok slot, hev.trans (grow_evolves _ slot), RepD.mkLit rfl, below_setRow hB⟩
        rw [e3]; exact hrun'
      · have hrun := run_cpy_empty (P := P) (w := m.w) (sT := t') (ty := o.type) hu h2 hn2 ad 0
        have hmz : min n 0 = 0 := Nat.min_zero n
        have hev : Evolves B S m (m.upd m.w id (.arr (splice xs off (cs.take (min n 0 * i.size))) i.size fz ety)) :=
          upd_evolves hk hob (o' := .arr (splice xs off (cs.take (min n 0 * i.size))) i.size fz ety) ⟨rfl, rfl, Nat.le_refl _⟩ (fun _ _ => rfl) (fun _ _ _ h => h) rfl
        have hxs : splice xs off (cs.take (min n 0 * i.size)) = xs := by simp [splice]
        have hev' := hev
        rw [hxs] at hev'
        have hok := upd_hok hk (id := id) (w' := m.w) (by rw [hob]; simp) hev (fun _ _ => rfl) (Nat.le_refl _)
          ⟨hB, vs, hv1, by rw [hxs]; exact hvl, by rw [hxs]; exact hv2.mono fun c u h => RepC.mono hev'.cell c u h⟩
        refine ⟨_, goInt 0, m.w, run _ _ ?_, .inl rfl, m.β, grow_hok hok slot, hev.trans (grow_evolves _ slot), ?_, Below.refl _ _⟩
        · rw [e3]; exact hrun
        · rw [hmz]; exact RepD.mkLit rfl
  · cases hs

end
end Go.Ez

namespace Go.Ez
open Go.RowKit

section
variable {B : Nat} {S : Nat → Nat → Prop} {P : Program} {o : Oper} {a : Act} {m : M} {slot : Nat} {ρ : X → D} {d : D} {us : List (Nat × Obj)}

theorem eqC_run {w : World} {Sf : Nat → Nat → Prop} {t : TypeId} {k : Nat} (ht : kindT P t = some k) (dd : Nat) {x y : C} {u v : Value} {r : Bool} (hx : RepC w Sf x u) (hy : RepC w Sf y v) (h : eqC k x y = some r) :
    (Op.equalIn (dd + 1) t u v).run P w = .ok r w ∧ aggB P t = some false := by
  unfold eqC at h
  unfold kindT at ht
  split at h
  · rename_i k1 a k2 b
    simp only [RepC] at hx hy
    obtain ⟨rfl, _⟩ := hx
    obtain ⟨rfl, _⟩ := hy
    split at h
    case isFalse => cases h
    rename_i hk
    subst hk
    simp only [Option.some.injEq] at h
    subst h
    split at ht <;> try (cases ht; done)
    rename_i q hu
    exact ⟨run_equalIn_int w dd t k1 q a b hu, by simp [aggB, hu]⟩
  · rename_i a b
    simp only [RepC] at hx hy
    obtain ⟨rfl, _⟩ := hx
    obtain ⟨rfl, _⟩ := hy
    simp only [Option.some.injEq] at h
    subst h
    split at ht <;> try (cases ht; done)
    rename_i hu
    exact ⟨run_equalIn_string w dd t a b hu, by simp [aggB, hu]⟩
  · rename_i a b
    simp only [RepC] at hx hy
    obtain ⟨rfl, _⟩ := hx
    obtain ⟨rfl, _⟩ := hy
    simp only [Option.some.injEq] at h
    subst h
    split at ht <;> try (cases ht; done)
    rename_i hu
    exact ⟨run_equalIn_bool' w dd t a b hu, by simp [aggB, hu]⟩
  · cases h

theorem eqFields_run (dd : Nat) : ∀ (fs : List Field) (j : Nat) (ks : List Nat) (as bs : List D) (us vs pre pre' : List Value) (r : Bool), pre.length = j → pre'.length = j → fieldKinds P j fs = some ks → All2 (RepDc B S m) as us → All2 (RepDc B S m) bs vs → eqDs ks as bs = some r →
    (Op.eqFields (dd + 1) (pre ++ us).toArray (pre' ++ vs).toArray fs).run P m.w = .ok r m.w
  | [], j, ks, as, bs, us, vs, pre, pre', r, _, _, hk, ha, hb, h => by
    simp only [fieldKinds, Option.some.injEq] at hk
    subst hk
    unfold eqDs at h
    split at h <;> try (simp_all; done)
    all_goals first | (simp only [Option.some.injEq] at h; subst h; simp [Op.eqFields]) | (cases h)
  | f :: fs, j, ks, as, bs, us, vs, pre, pre', r, hp, hp', hk, ha, hb, h => by
    simp only [fieldKinds, Option.bind_eq_bind, Option.bind_eq_some_iff] at hk
    obtain ⟨k, hk1, ks', hk2, hk3⟩ := hk
    split at hk3
    case isFalse => cases hk3
    rename_i hc
    obtain ⟨hoff, hname⟩ := hc
    simp only [Option.some.injEq] at hk3
    subst hk3
    match as, bs, us, vs, ha, hb, h with
    | .c x :: as, .c y :: bs, u :: us, v :: vs, ha, hb, h =>
      simp only [eqDs, Option.bind_eq_bind, Option.bind_eq_some_iff, Option.some.injEq] at h
      obtain ⟨x1, h1, y1, h2, rfl⟩ := h
      obtain ⟨e1, e2⟩ := eqC_run (P := P) hk1 dd ha.1 hb.1 h1
      have g1 : ((pre ++ u :: us).toArray)[f.offset]? = some u := by rw [hoff, ← hp]; simp
      have g2 : ((pre' ++ v :: vs).toArray)[f.offset]? = some v := by rw [hoff, ← hp']; simp
      have p1 : (Go.part f.type (pre ++ u :: us).toArray f.offset).run P m.w = .ok u m.w := by
        simp only [Go.part, Sem.run_bind, run_isAgg e2, Result.andThen_ok, Bool.false_eq_true, if_false, g1, Sem.run_pure]
      have p2 : (Go.part f.type (pre' ++ v :: vs).toArray f.offset).run P m.w = .ok v m.w := by
        simp only [Go.part, Sem.run_bind, run_isAgg e2, Result.andThen_ok, Bool.false_eq_true, if_false, g2, Sem.run_pure]
      have ih := eqFields_run dd fs (j + 1) ks' as bs us vs (pre ++ [u]) (pre' ++ [v]) y1 (by simp [hp]) (by simp [hp']) hk2 ha.2 hb.2 h2
      simp only [List.append_assoc, List.cons_append, List.nil_append] at ih
      simp only [Op.eqFields, hname, ne_eq, not_false_eq_true, if_true, Sem.run_bind, p1, p2, e1, Result.andThen_ok]
      cases x1
      · simp
      · simpa using ih

theorem does_eqs (hk : HOK B S m) (ho : Opd B S m ρ a) {op : BinOp} {t t' : TypeId} {x y : Operand} {X' Y' : X} {fs : Array Field} {ks : List Nat} {ins : Ins} (hop : o.op = .binOp op t x y t') (ht : P.underlying t = some (.struct fs)) (hks : fieldKinds P 0 fs.toList = some ks)
    (hst : P.stoodInHeld t = false) (hgd : P.eqGuardType P.depth t = false) (hx : compX x = some X') (hy : compX y = some Y') (hins : eqIns ks op X' Y' = some ins) (hs : step ρ m.h slot ins = some (d, us)) : Does B S P o a m slot d us := by
  have e1 := ho x X' hx
  have e2 := ho y Y' hy
  have main : ∀ neg, (op = .eql ∧ neg = false ∨ op = .neq ∧ neg = true) → eqsD ks neg (ρ X') (ρ Y') = some d → us = [] → Does B S P o a m slot d us := by
    intro neg hneg h1 h2
    subst h2
    unfold eqsD at h1
    split at h1
    case h_2 => cases h1
    rename_i as bs hX hY
    simp only [Option.map_eq_some_iff] at h1
    obtain ⟨r, h3, rfl⟩ := h1
    rw [hX] at e1
    rw [hY] at e2
    obtain ⟨us1, e3, e4⟩ := e1
    obtain ⟨us2, e5, e6⟩ := e2
    have hrun : (Op.equalIn Op.maxDepth t (.agg us1.toArray) (.agg us2.toArray)).run P m.w = .ok r m.w := by
      have hf : P.fieldsOf t = fs := by simp [Program.fieldsOf, ht]
      have := run_equalIn_struct (P := P) m.w 9999 t us1.toArray us2.toArray (by rw [hf]; exact ht) hst
      rw [show Op.maxDepth = 9999 + 1 from rfl, this, hf]
      exact eqFields_run (B := B) (S := S) 9998 fs.toList 0 ks as bs us1 us2 [] [] r rfl rfl hks e4 e6 h3
    refine does_pure hk slot (v := .bool (if neg then !r else r)) ?_ (RepD.mkLit rfl)
    rcases hneg with ⟨rfl, rfl⟩ | ⟨rfl, rfl⟩
    · simp [execOp, hop, e3, e5, eqGuard, hgd, binOp, Op.equal, hrun]
    · simp [execOp, hop, e3, e5, eqGuard, hgd, binOp, Op.equal, hrun]
  unfold eqIns at hins
  split at hins
  · simp only [Option.some.injEq] at hins
    subst hins
    simp only [step] at hs
    obtain ⟨h1, rfl⟩ := pureD_some hs
    exact main false (.inl ⟨rfl, rfl⟩) h1 rfl
  · simp only [Option.some.injEq] at hins
    subst hins
    simp only [step] at hs
    obtain ⟨h1, rfl⟩ := pureD_some hs
    exact main true (.inr ⟨rfl, rfl⟩) h1 rfl
  · cases hins

theorem caps_ok (ho : Opd B S m ρ a) : ∀ {os : List Operand} {xs : List X} {ls : List (Nat × Nat)}, compXs os = some xs → capsOf ρ xs = some ls →
    os.map a.eval = ls.map (fun p => Value.pointer (some ⟨m.β p.1, p.2, none⟩)) ∧ ∀ p ∈ ls, m.U p.1
  | [], xs, ls, h1, h2 => by
    simp only [compXs, Option.some.injEq] at h1
    subst h1
    simp only [capsOf, Option.some.injEq] at h2
    subst h2
    exact ⟨rfl, by simp⟩
  | op :: os, xs, ls, h1, h2 => by
    simp only [compXs, Option.bind_eq_bind, Option.bind_eq_some_iff, Option.some.injEq] at h1
    obtain ⟨y, h3, ys, h4, rfl⟩ := h1
    have e1 := ho op y h3
    unfold capsOf at h2
    split at h2
    case h_2 => cases h2
    rename_i id off he
    simp only [Option.bind_eq_bind, Option.bind_eq_some_iff, Option.some.injEq] at h2
    obtain ⟨r, h5, rfl⟩ := h2
    rw [he] at e1
    obtain ⟨hU, hv⟩ := e1
    obtain ⟨i1, i2⟩ := caps_ok ho h4 h5
    refine ⟨by simp only [List.map_cons, i1, hv], fun p hp => ?_⟩
    rcases List.mem_cons.1 hp with rfl | hp
    · exact hU
    · exact i2 p hp

theorem does_mkf (hk : HOK B S m) (ho : Opd B S m ρ a) {f : Nat} {first captured : Array Operand} {xs : List X} (hop : o.op = .makeFunc (.func f) first captured) (hf : first.size = 0) (hx : compXs captured.toList = some xs) (hs : step ρ m.h slot (.mkf f xs) = some (d, us)) :
    Does B S P o a m slot d us := by
  simp only [step] at hs
  obtain ⟨h1, rfl⟩ := pureD_some hs
  simp only [Option.bind_eq_bind, Option.bind_eq_some_iff, Option.some.injEq] at h1
  obtain ⟨ls, h2, rfl⟩ := h1
  obtain ⟨e1, e2⟩ := caps_ok ho hx h2
  have hf' : first = #[] := Array.eq_empty_of_size_eq_zero hf
  subst hf'
  have hcap : captured.map a.eval = (ls.map (fun p => Value.pointer (some ⟨m.β p.1, p.2, none⟩))).toArray := by
    apply Array.ext'
    rw [Array.toList_map, e1]
  refine does_pure hk slot (v := .func (.func f) #[] (captured.map a.eval)) ?_ ⟨by rw [hcap], e2⟩
  simp [execOp, hop, Instr.makeFunc]

end
end Go.Ez

namespace Go.Ez
open Go.RowKit

section
variable {B : Nat} {S : Nat → Nat → Prop} {P : Program} {o : Oper} {a : Act} {m : M} {slot : Nat} {ρ : X → D} {d : D} {us : List (Nat × Obj)}

theorem run_bounds3 {w : World} {len cap l r : Nat} {lo : Option Value} {kh km : IntKind} {ih im : Int} (h1 : BoundIs lo 0 l) (hl : l ≤ r) (hr : r ≤ cap) (h0 : 0 ≤ ih) (he : ih.toNat = r) (hm : im = ih) :
    (Instr.sliceBounds true len cap lo (some (.int kh ih)) (some (.int km im))).run P w = .ok (l, r, r) w := by
  subst hm
  have e1 : ∀ code, (Instr.sliceBound (.int km im) cap code).run P w = .ok r w := fun code => by rw [run_sliceBound (P := P) w km im cap code h0 (by omega), he]
  have e2 : ∀ code, (Instr.sliceBound (.int kh im) r code).run P w = .ok r w := fun code => by rw [run_sliceBound (P := P) w kh im r code h0 (by omega), he]
  cases lo with
  | none =>
    simp only [BoundIs] at h1
    subst h1
    simp [Instr.sliceBounds, e1, e2]
  | some v =>
    obtain ⟨k, i, rfl, h3, h4⟩ := h1
    have e3 : ∀ code, (Instr.sliceBound (.int k i) r code).run P w = .ok l w := fun code => by rw [run_sliceBound (P := P) w k i r code h3 (by omega), h4]
    simp [Instr.sliceBounds, e1, e2, e3]

theorem does_clip (hk : HOK B S m) (ho : Opd B S m ρ a) {t e : TypeId} {x hi mx : Operand} {lo : Option Operand} {X' H' M' : X} {Lo : Option X} {i : TypeInfo} (hop : o.op = .slice t x lo (some hi) (some mx)) (h1 : P.underlying t = some (.slice e)) (h2 : P.info? e = some i)
    (hx : compX x = some X') (hlo : compOX lo = some Lo) (hhi : compX hi = some H') (hmx : compX mx = some M') (hs : step ρ m.h slot (.clip i.size X' Lo H' M') = some (d, us)) : Does B S P o a m slot d us := by
  have e1 := ho x X' hx
  have e2 := ho hi H' hhi
  have e3 := ho mx M' hmx
  simp only [step, clipD, Option.bind_eq_bind, Option.bind_eq_some_iff, Prod.exists] at hs
  obtain ⟨ia, ha, ib, hb, c, us0, hf, hs⟩ := hs
  obtain ⟨ka, ha'⟩ := asInt_some ha
  obtain ⟨kb, hb'⟩ := asInt_some hb
  split at hs
  case h_2 => cases hs
  rename_i cs n
  simp only [Option.bind_eq_some_iff, Prod.exists] at hs
  obtain ⟨xs, k, hcut, hs⟩ := hs
  split at hs
  case isFalse => cases hs
  rename_i hab
  subst hab
  simp only [Option.some.injEq, Prod.mk.injEq] at hs
  obtain ⟨rfl, rfl⟩ := hs
  rw [ha'] at e2
  rw [hb'] at e3
  have e1' : RepDc B S m (ρ X') (a.eval x) := by
    cases hX : ρ X' with
    | tup q => rw [hX] at hf; simp [frz, frz1] at hf
    | agg q => rw [hX] at hf; simp [frz, frz1] at hf
    | _ => rw [hX] at e1; exact e1
  obtain ⟨k1, k2, k3⟩ := frz_ok hk e1' hf
  simp only [cutC, Option.bind_eq_bind, Option.bind_eq_some_iff] at hcut
  obtain ⟨l, h4, r, h5, h6⟩ := hcut
  split at h6
  case isFalse => cases h6
  rename_i hbd
  obtain ⟨hlr, hrn⟩ := hbd
  simp only [Option.some.injEq, Prod.mk.injEq] at h6
  obtain ⟨rfl, rfl⟩ := h6
  have hr0 : 0 ≤ ia ∧ ia.toNat = r := by
    simp only [hiOf, ha', asInt, Option.bind_eq_bind, Option.bind_some] at h5
    split at h5
    · rename_i h0; simp only [Option.some.injEq] at h5; exact ⟨h0, h5⟩
    · cases h5
  have hlo' := loOf_ok ho hlo h4
  have run : ∀ (ad : Option Addr) (len cap : Nat), a.eval x = .slice ad len cap → r ≤ cap →
      (execOp a.eval o).run P m.w = .ok (.value (.slice (if r = l then ad else ad.map (·.add (l * i.size))) (r - l) (r - l))) m.w := by
    intro ad len cap he hr
    have hbs := run_bounds3 (P := P) (w := m.w) (len := len) (cap := cap) (kh := ka) (km := kb) (ih := ia) (im := ia) hlo' hlr hr hr0.1 hr0.2 rfl
    simp [execOp, hop, Instr.sliceAt, Instr.slice, run_underlying h1, he, e2.lit, e3.lit, hbs, run_sizeOf h2]
  have fin : ∀ v, (execOp a.eval o).run P m.w = .ok (.value v) m.w → RepDc B S (m.heap (updH m.h us0)) (.full ((cs.drop (l * i.size)).take ((r - l) * i.size)) (r - l)) v →
      Does B S P o a m slot (.full ((cs.drop (l * i.size)).take ((r - l) * i.size)) (r - l)) us0 := by
    intro v hrun hrep
    have g1 := grow_hok k1 slot
    have g2 := grow_evolves (B := B) (S := S) (m.heap (updH m.h us0)) slot
    exact ⟨_, v, m.w, hrun, .inl rfl, m.β, g1, k2.trans g2, g2.repDc hrep, Below.refl _ _⟩
  simp only [RepC] at k3
  rcases k3 with ⟨e4, rfl, rfl⟩ | ⟨ad, cap, e4, e5, e6, e7⟩
  · have hl0 : l = 0 := by omega
    have hr1 : r = 0 := by omega
    subst hl0 hr1
    refine fin _ (run none 0 0 e4 (Nat.le_refl _)) (.inl ⟨?_, rfl, by simp⟩)
    simp
  · refine fin _ (run (some ad) n cap e4 (by omega)) (.inr ?_)
    by_cases hc : r = l
    · rw [if_pos hc]
      have hz : r - l = 0 := by omega
      refine ⟨ad, rfl, ?_, ?_⟩
      · rw [hz]; simp
      · rw [hz]; simp [RepCs]
    · rw [if_neg hc]
      refine ⟨ad.add (l * i.size), rfl, ?_, ?_⟩
      · intro hne
        unfold Addr.add
        split
        · exact e6 fun e => hne (by rw [e]; simp)
        · rfl
      · have := RepCs_take ((r - l) * i.size) (RepCs_drop (l * i.size) e7)
        unfold Addr.add
        split
        · rename_i h0; rw [h0] at this ⊢; simp only [Nat.add_zero] at this; exact this
        · exact this

end
end Go.Ez

namespace Go.Ez
open Go.RowKit

section
variable {B : Nat} {S : Nat → Nat → Prop} {P : Program} {o : Oper} {a : Act} {m : M} {slot : Nat} {ρ : X → D} {d : D} {us : List (Nat × Obj)} {shF : Nat → Nat}

theorem compXs_one {args : Array Operand} {x : X} (h : compXs args.toList = some [x]) : ∃ p, args = #[p] ∧ compX p = some x := by
  obtain ⟨l⟩ := args
  simp only at h
  cases l with
  | nil => simp [compXs] at h
  | cons p l =>
    simp only [compXs, Option.bind_eq_bind, Option.bind_eq_some_iff, Option.some.injEq, List.cons.injEq] at h
    obtain ⟨y, h1, ys, h2, rfl, rfl⟩ := h
    cases l with
    | nil => exact ⟨p, rfl, h1⟩
    | cons q l =>
      simp only [compXs, Option.bind_eq_bind, Option.bind_eq_some_iff, Option.some.injEq] at h2
      obtain ⟨_, _, _, _, h⟩ := h2
      cases h

theorem compXs_two {args : Array Operand} {x y : X} (h : compXs args.toList = some [x, y]) : ∃ p q, args = #[p, q] ∧ compX p = some x ∧ compX q = some y := by
  obtain ⟨l⟩ := args
  simp only at h
  cases l with
  | nil => simp [compXs] at h
  | cons p l =>
    simp only [compXs, Option.bind_eq_bind, Option.bind_eq_some_iff, Option.some.injEq, List.cons.injEq] at h
    obtain ⟨z, h1, ys, h2, rfl, rfl⟩ := h
    obtain ⟨q, h3, h4⟩ := compXs_one (args := l.toArray) (by simpa using h2)
    have : l = [q] := by simpa using congrArg Array.toList h3
    subst this
    exact ⟨p, q, rfl, h1, h4⟩

theorem list_one {α : Type} {l : Array α} {x : α} (h : l.toList = [x]) : l = #[x] := by
  obtain ⟨l⟩ := l; simp at h; subst h; rfl
theorem list_two {α : Type} {l : Array α} {x y : α} (h : l.toList = [x, y]) : l = #[x, y] := by
  obtain ⟨l⟩ := l; simp at h; subst h; rfl

def isCall : Ins → Bool
  | .call _ _ | .callS _ _ _ | .callV _ _ => true
  | _ => false

theorem step_ok {ins : Ins} (hc : compOp P shF o.op = some ins) (hn : isCall ins = false) (hk : HOK B S m) (ho : Opd B S m ρ a) (hs0 : ¬ m.U slot) (hs : step ρ m.h slot ins = some (d, us)) : Does B S P o a m slot d us := by
  unfold compOp at hc
  split at hc <;> try (cases hc; done)
  all_goals simp only [Option.bind_eq_bind, Option.bind_eq_some_iff, Option.some.injEq] at hc
  case h_1 x hop => obtain ⟨X', hx, rfl⟩ := hc; exact does_mov hk ho (.inl hop) hx hs
  case h_2 x hop => obtain ⟨X', hx, rfl⟩ := hc; exact does_mov hk ho (.inr hop) hx hs
  case h_3 c x y hop => obtain ⟨C', hc', X', hx, Y', hy, rfl⟩ := hc; exact does_pick hk ho hop hc' hx hy hs
  case h_4 t hop => obtain ⟨z, hz, rfl⟩ := hc; exact does_new hk hs0 hop hz hs
  case h_5 t x hop => obtain ⟨X', hx, rfl⟩ := hc; exact does_box hk ho hs0 hop hx hs
  case h_6 t parts hop =>
    obtain ⟨fs, h1, z, h2, qs, h3, h4⟩ := hc
    split at h4
    case isFalse => cases h4
    rename_i hkn
    simp only [Option.some.injEq] at h4
    subst h4
    exact does_build hk ho hop h1 h2 h3 hkn hs
  case h_7 t len parts hop =>
    obtain ⟨e, h1, i, h2, z, h3, qs, h4, h5⟩ := hc
    split at h5
    case isFalse => cases h5
    rename_i hcc
    simp only [Option.some.injEq] at h5
    subst h5
    exact does_lits hk ho hs0 hop h1 h2 h3 h4 hcc.1 hcc.2 hs
  case h_8 t x hop => obtain ⟨agg, h1, i, h2, X', hx, rfl⟩ := hc; exact does_load hk ho hop h1 h2 hx hs
  case h_9 t x y hop => obtain ⟨i, h1, X', hx, Y', hy, rfl⟩ := hc; exact does_store hk ho hop h1 hx hy hs
  case h_10 x hop => obtain ⟨X', hx, rfl⟩ := hc; exact does_nilck hk ho hop hx hs
  case h_11 op t x y t' hop =>
    obtain ⟨X', hx, Y', hy, h1⟩ := hc
    split at h1
    · rename_i ht; simp only [Option.some.injEq] at h1; subst h1; exact does_bin hk ho hop (fun _ => ht) hx hy hs
    · simp only [Option.some.injEq] at h1; subst h1; exact does_bin hk ho hop (fun h => by cases h) hx hy hs
    · simp only [Option.some.injEq] at h1; subst h1; exact does_bin hk ho hop (fun h => by cases h) hx hy hs
    · rename_i fs ht
      simp only [Option.bind_eq_some_iff] at h1
      obtain ⟨ks, h2, h3⟩ := h1
      split at h3
      case isFalse => cases h3
      rename_i hcc
      exact does_eqs hk ho hop ht h2 hcc.1 hcc.2 hx hy h3 hs
    · cases h1
  case h_12 op t x hop => obtain ⟨X', hx, rfl⟩ := hc; exact does_un hk ho hop hx hs
  case h_13 src dst x hop =>
    obtain ⟨X', hx, h1⟩ := hc
    split at h1
    · rename_i h2 h3; simp only [Option.some.injEq] at h1; subst h1; exact does_conv hk ho hop h2 h3 hx hs
    · rename_i e h2 h3
      split at h1
      · rename_i h4; simp only [Option.some.injEq] at h1; subst h1; exact does_toStr hk ho hop h2 h3 h4 hx hs
      · cases h1
    · cases h1
  case h_14 t x y hop =>
    obtain ⟨e, h1, i, h2, z, h3, X', hx, Y', hy, h4⟩ := hc
    split at h4
    case isFalse => cases h4
    simp only [Option.some.injEq] at h4
    subst h4
    exact does_mk hk ho hs0 hop h1 h2 h3 hx hy hs
  case h_15 t x lo hi hop =>
    obtain ⟨X', hx, Lo, hlo, Hi, hhi, h1⟩ := hc
    split at h1
    · rename_i h2; simp only [Option.some.injEq] at h1; subst h1; exact does_sls hk ho hop h2 hx hlo hhi hs
    · rename_i e h2
      simp only [Option.bind_eq_some_iff, Option.some.injEq] at h1
      obtain ⟨i, h3, rfl⟩ := h1
      exact does_slc hk ho hop h2 h3 hx hlo hhi hs
    · cases h1
  case h_16 t x lo hi mx hop =>
    obtain ⟨X', hx, Lo, hlo, H', hhi, M', hmx, h1⟩ := hc
    split at h1
    · rename_i e h2
      simp only [Option.bind_eq_some_iff, Option.some.injEq] at h1
      obtain ⟨i, h3, rfl⟩ := h1
      exact does_clip hk ho hop h2 h3 hx hlo hhi hmx hs
    · cases h1
  case h_17 f first captured hop =>
    obtain ⟨xs, hx, h1⟩ := hc
    split at h1
    case isFalse => cases h1
    rename_i hz
    simp only [Option.some.injEq] at h1
    subst h1
    exact does_mkf hk ho hop hz hx hs
  case h_18 t x f hop =>
    obtain ⟨fs, h1, fl, h2, i, h3, X', hx, h4⟩ := hc
    split at h4
    case isFalse => cases h4
    rename_i hp
    simp only [Option.some.injEq] at h4
    subst h4
    exact does_fadr hk ho hop h1 h2 h3 hp hx hs
  case h_19 t x f hop => obtain ⟨fs, h1, fl, h2, i, h3, agg, h4, X', hx, rfl⟩ := hc; exact does_fld hk ho hop h1 h2 h3 h4 hx hs
  case h_20 t x y hop => obtain ⟨e, h1, i, h2, X', hx, Y', hy, rfl⟩ := hc; exact does_iadr hk ho hop h1 h2 hx hy hs
  case h_21 t x y hop =>
    obtain ⟨X', hx, Y', hy, h1⟩ := hc
    split at h1
    · rename_i h2; simp only [Option.some.injEq] at h1; subst h1; exact does_sidx hk ho hop h2 hx hy hs
    · cases h1
  case h_22 x i hop => obtain ⟨X', hx, rfl⟩ := hc; exact does_ext hk ho hop hx hs
  case h_23 f args ts hop =>
    obtain ⟨xs, hx, rfl⟩ := hc
    split at hn <;> cases hn
  case h_24 t args ts hop =>
    obtain ⟨xs, hx, rfl⟩ := hc
    cases hn
  case h_25 b args ts hop =>
    obtain ⟨xs, hx, h1⟩ := hc
    split at h1
    · rename_i x t hxs hts
      obtain ⟨p, rfl, hp⟩ := compXs_one hx
      have ht := list_one hts
      subst ht
      split at h1
      · rename_i h2; simp only [Option.some.injEq] at h1; subst h1; exact does_len hk ho hop (isStr := true) h2 hp hs
      · rename_i e h2; simp only [Option.some.injEq] at h1; subst h1; exact does_len hk ho hop (isStr := false) ⟨e, h2⟩ hp hs
      · cases h1
    · rename_i x y t t' hxs hts
      obtain ⟨p, q, rfl, hp, hq⟩ := compXs_two hx
      have ht := list_two hts
      subst ht
      simp only [Option.bind_eq_some_iff] at h1
      obtain ⟨e, h2, i, h3, z, h4, h5⟩ := h1
      split at h5
      · rename_i e' h6
        split at h5
        case isFalse => cases h5
        simp only [Option.some.injEq] at h5
        subst h5
        exact does_app hk ho hs0 hop h2 h3 h4 h6 (by simp) hp hq hs
      · rename_i h6
        split at h5
        case isFalse => cases h5
        simp only [Option.some.injEq] at h5
        subst h5
        exact does_app hk ho hs0 hop h2 h3 h4 h6 (by simp) hp hq hs
      · cases h5
    · rename_i x y t t' hxs hts
      obtain ⟨p, q, rfl, hp, hq⟩ := compXs_two hx
      have ht := list_two hts
      subst ht
      simp only [Option.bind_eq_some_iff] at h1
      obtain ⟨e, h2, i, h3, h5⟩ := h1
      split at h5
      case isFalse => cases h5
      simp only [Option.some.injEq] at h5
      subst h5
      exact does_cpy hk ho hop h2 h3 hp hq hs
    · rename_i x y hxs
      obtain ⟨p, q, rfl, hp, hq⟩ := compXs_two hx
      simp only [Option.some.injEq] at h1
      subst h1
      exact does_mx hk ho hop hp hq hs
    · rename_i x y hxs
      obtain ⟨p, q, rfl, hp, hq⟩ := compXs_two hx
      simp only [Option.some.injEq] at h1
      subst h1
      exact does_mn hk ho hop hp hq hs
    · cases h1

end
end Go.Ez

namespace Go.Ez
open Go.RowKit

/-- what a call hands back -/
def RepRet (w : World) (Sf : Nat → Nat → Prop) : List V → Value → Prop
  | [r], v => RepV w Sf r v
  | rs, v => ∃ us : List Value, v = .tuple us.toArray ∧ All2 (RepV w Sf) rs us

def Callable (P : Program) (f : Nat) : Prop := ∃ fn, P.funcs[f]? = some fn ∧ fn.body.isNone = false ∧ (fn.name == "runtime.NumGoroutine") = false

/-- what is known of a function at some arguments: it returns, what it returns is rs, nothing that was there has turned -/
def FnOK (P : Program) (f : Nat) (vs rs : List V) : Prop :=
  Callable P f ∧ ∀ (S : Nat → Nat → Prop) (w : World) (us : List Value), All2 (RepV w S) vs us →
    Calls P f us.toArray w fun e w' => ∃ v, e = .returned v ∧ RepRet w' (fun b o => b < w.heap.size → S b o) rs v ∧ Below w.heap.size w w'

section
variable {B : Nat} {S : Nat → Nat → Prop} {P : Program} {o : Oper} {a : Act} {m : M} {slot : Nat} {d : D} {us : List (Nat × Obj)} {shF : Nat → Nat} {nt : Nat} {w0 : World} {e : Env}

theorem run_call {f : Nat} (hf : Callable P f) {args : Array Operand} {ts : Array TypeId} (hop : o.op = .call { callee := .value (.func f), args, argTypes := ts }) (w : World) :
    (execOp a.eval o).run P w = .ok (.enter f (args.map a.eval)) w := by
  obtain ⟨fn, h1, h2, h3⟩ := hf
  have h2' : ¬ fn.body = none := fun h => by rw [h] at h2; cases h2
  have h3' : ¬ fn.name = "runtime.NumGoroutine" := by simpa using h3
  simp [execOp, hop, resolve, Act.eval, Deferred.ofValue, invoke, callFunc, h1, h2', h3']

theorem frzVs_ok' : ∀ {ds : List D} {us : List Value} {m : M}, HOK B S m → All2 (RepD B S m) ds us → ∀ {vs : List V} {xs : List (Nat × Obj)}, frzVs m.h ds = some (vs, xs) →
    HOK B S (m.heap (updH m.h xs)) ∧ Evolves B S m (m.heap (updH m.h xs)) ∧ All2 (RepV m.w (Safe B S (m.heap (updH m.h xs)))) vs us
  | [], [], m, hk, _, cs, xs, hf => by
    simp only [frzVs, Option.some.injEq, Prod.mk.injEq] at hf
    obtain ⟨rfl, rfl⟩ := hf
    exact ⟨hk, Evolves.refl m, trivial⟩
  | d :: ds, u :: us, m, hk, hr, cs, xs, hf => by
    simp only [frzVs, Option.bind_eq_bind, Option.bind_eq_some_iff, Prod.exists, Option.some.injEq, Prod.mk.injEq] at hf
    obtain ⟨c, x, h1, cs', xs', h2, rfl, rfl⟩ := hf
    have hr1 : RepA B S m d u := by
      cases d with
      | tup ds => simp [frzV, frz, frz1] at h1
      | _ => exact hr.1
    obtain ⟨k1, k2, k3⟩ := frzV_ok hk hr1 h1
    have hr2 : All2 (RepD B S (m.heap (updH m.h x))) ds us := hr.2.mono fun _ _ h => k2.repD h
    obtain ⟨k4, k5, k6⟩ := frzVs_ok' (m := m.heap (updH m.h x)) k1 hr2 h2
    rw [updH_append]
    exact ⟨k4, k2.trans k5, RepV.mono k5.cell k3, k6⟩
  | [], _ :: _, _, _, hr, _, _, _ => hr.elim
  | _ :: _, [], _, _, hr, _, _, _ => hr.elim

theorem RepV.toD {m : M} {v : V} {u : Value} (h : RepV m.w (Safe B S m) v u) : RepA B S m v.toD u := by
  cases v with
  | one c => exact h
  | agg cs => obtain ⟨us, h1, h2⟩ := h; exact ⟨us, h1, All2.map_left h2⟩

theorem RepRet.toD {m : M} {rs : List V} {u : Value} (h : RepRet m.w (Safe B S m) rs u) : RepD B S m (retD rs) u := by
  match rs, h with
  | [r], h => exact (RepV.toD h).toD
  | [], h => obtain ⟨us, rfl, h2⟩ := h; exact ⟨us, rfl, All2.map_left (h2.mono fun v u h => RepV.toD h)⟩
  | r :: r' :: rs, h => obtain ⟨us, rfl, h2⟩ := h; exact ⟨us, rfl, All2.map_left (h2.mono fun v u h => RepV.toD h)⟩

theorem RepV.weaken {w : World} {Sf Sf' : Nat → Nat → Prop} (h : ∀ b o, Sf b o → b < w.heap.size → Sf' b o) {v : V} {u : Value} (hr : RepV w Sf v u) : RepV w Sf' v u :=
  RepV.mono (fun b o _ h1 h2 => ⟨h1, h b o h2 (cell_lt h1)⟩) hr

theorem RepRet.weaken {w : World} {Sf Sf' : Nat → Nat → Prop} (h : ∀ b o, Sf b o → b < w.heap.size → Sf' b o) {rs : List V} {u : Value} (hr : RepRet w Sf rs u) : RepRet w Sf' rs u := by
  unfold RepRet at hr ⊢
  split at hr
  · exact RepV.weaken h hr
  · obtain ⟨us, h1, h2⟩ := hr
    exact ⟨us, h1, h2.mono fun _ _ h3 => RepV.weaken h h3⟩

theorem below_mono_base {w w' : World} {k : Nat} (h : Below k w w') (hB : B ≤ k) : Below B w w' := h.mono hB

/-- what lies in new blocks, or was safe, is safe behind a call -/
theorem safe_after {m : M} (hk : HOK B S m) {w' : World} {b q : Nat} (h : b < m.w.heap.size → Safe B S m b q) : Safe B S (m.world w') b q := by
  by_cases hb : b < m.w.heap.size
  · exact h hb
  · refine ⟨hk.fresh b q (by omega), fun id => ?_⟩
    · show match getH m.h id with | .dead => True | .box _ => m.β id ≠ b | .arr _ _ fz _ => m.β id = b → q < fz | .rows _ _ _ => m.β id ≠ b
      cases ho : getH m.h id with
      | dead => trivial
      | box ds => have := hk.lt (id := id) (by rw [ho]; simp); intro e; omega
      | arr cs esz fz ety => have := hk.lt (id := id) (by rw [ho]; simp); intro e; omega
      | rows ds esz ety => have := hk.lt (id := id) (by rw [ho]; simp); intro e; omega

theorem call_wp (hk : HOK B S m) {f : Nat} {args : Array Operand} {ts : Array TypeId} (hop : o.op = .call { callee := .value (.func f), args, argTypes := ts }) {ds : List D} (hd : All2 (RepD B S m) ds (args.map a.eval).toList) {vs rs : List V}
    (hf : frzVs m.h ds = some (vs, us)) (hfn : FnOK P f vs rs) {K : Act → World → Prop} {Q : Exit → Act → World → Prop} (hK : ∀ v w', Post B S m slot us (retD rs) v w' → K (a.put o.dst v) w') : o.wp P a m.w K Q := by
  obtain ⟨k1, k2, k3⟩ := frzVs_ok' hk hd hf
  unfold Oper.wp
  rw [run_call hfn.1 hop]
  show Calls P f (args.map a.eval) m.w _
  have hc := hfn.2 _ m.w _ k3
  have he : (args.map a.eval).toList.toArray = args.map a.eval := Array.toArray_toList
  rw [he] at hc
  refine hc.mono fun e w' ⟨v, hv, h1, h2⟩ => ?_
  subst hv
  refine hK v w' ⟨m.β, ?_⟩
  have hb : ∀ k, k < m.w.heap.size → w'.heap[k]? = m.w.heap[k]? := h2.block
  have ev2 := world_evolves k1 (w' := w') hb
  have hk2 := world_hok k1 (w' := w') hb h2.size
  refine ⟨grow_hok hk2 slot, (k2.trans ev2).trans (grow_evolves _ slot), ?_, h2.mono hk.base⟩
  refine (grow_evolves ((m.heap (updH m.h us)).world w') slot).repD (RepRet.toD ?_)
  exact RepRet.weaken (fun b q h _ => safe_after k1 h) h1

/-- what holds of a frame and a memory -/
structure Rel (B : Nat) (S : Nat → Nat → Prop) (w0 : World) (nt : Nat) (m : M) (e : Env) (a : Act) : Prop where
  defers : a.defers = []
  size : a.tmps.size = nt
  env : ∀ t, RepD B S m (getE e t) (a.tmps.getD t undef)
  hok : HOK B S m
  below : Below B w0 m.w

theorem Rel.opd (hr : Rel B S w0 nt m e a) : Opd B S m (evX e) a := by
  intro x X' hx
  cases x with
  | tmp t => simp [compX] at hx; subst hx; exact hr.env t
  | const v =>
    simp only [compX] at hx
    split at hx
    · rename_i hs
      simp only [Option.some.injEq] at hx
      subst hx
      by_cases h : scalar v = true
      · simp only [evX, h, if_true]
        exact RepD.mkLit h
      · have h2 : isNilS v = true := by
          rcases Bool.or_eq_true_iff.1 hs with h3 | h3
          · exact absurd h3 h
          · exact h3
        have := isNilS_some h2
        subst this
        simp only [evX, scalar, Bool.false_eq_true, if_false]
        exact .inl ⟨rfl, rfl, rfl⟩
    · cases hx
  | global g => simp [compX] at hx
  | func f =>
    simp only [compX, Option.some.injEq] at hx
    subst hx
    simp only [evX]
    exact ⟨rfl, by simp⟩

theorem getE_putE (e : Env) (dst : Option Nat) (d : D) (t : Nat) : getE (putE e dst d) t = if dst = some t then d else getE e t := by
  cases dst with
  | none => simp [putE]
  | some t' =>
    simp only [putE, getE, Option.some.injEq]

theorem Rel.put (hr : Rel B S w0 nt m e a) {dst : Option Nat} (hd : dstOk nt dst = true) {d : D} {v : Value} (h : RepD B S m d v) : Rel B S w0 nt m (putE e dst d) (a.put dst v) := by
  cases dst with
  | none => exact hr
  | some t' =>
    have hlt : t' < nt := by simpa [dstOk] using hd
    refine ⟨hr.defers, by simpa [Act.put] using hr.size, fun t => ?_, hr.hok, hr.below⟩
    rw [getE_putE]
    by_cases ht : t' = t
    · subst ht
      have : (a.put (some t') v).tmps.getD t' undef = v := by simp [Act.put, hr.size, hlt]
      simp only [if_true, this]
      exact h
    · have : (a.put (some t') v).tmps.getD t undef = a.tmps.getD t undef := by simp [Act.put, Array.getElem?_setIfInBounds_ne ht]
      rw [this, if_neg (by simpa using ht)]
      exact hr.env t

theorem Rel.evolve (hr : Rel B S w0 nt m e a) {m' : M} (hev : Evolves B S m m') (hk : HOK B S m') (hb : Below B m.w m'.w) : Rel B S w0 nt m' e a :=
  ⟨hr.defers, hr.size, fun t => hev.repD (hr.env t), hk, hr.below.trans hb⟩

theorem compInst_parts {ops : Array Oper} {i : Inst} (h : compInst P shF nt ops o = some i) :
    compOp P shF o.op = some i.ins ∧ i.dst = o.dst ∧ dstOk nt o.dst = true ∧
    (o.guard = none ∧ i.guard = none ∨ ∃ j want g t, o.guard = some (j, want) ∧ ops[j]? = some g ∧ g.dst = some t ∧ i.guard = some (t, want)) := by
  unfold compInst at h
  simp only [Option.bind_eq_bind, Option.bind_eq_some_iff] at h
  obtain ⟨ins, h1, h2⟩ := h
  split at h2
  · cases h2
  · rename_i hd
    have hd' : dstOk nt o.dst = true := by simpa using hd
    split at h2
    · rename_i hg
      simp only [Option.some.injEq] at h2
      subst h2
      exact ⟨h1, rfl, hd', .inl ⟨hg, rfl⟩⟩
    · rename_i j want hg
      simp only [Option.bind_eq_some_iff, Option.some.injEq] at h2
      obtain ⟨g, h3, t, h4, rfl⟩ := h2
      exact ⟨h1, rfl, hd', .inr ⟨j, want, g, t, hg, h3, h4, rfl⟩⟩

theorem wanted_ok (hr : Rel B S w0 nt m e a) {ops : Array Oper} {i : Inst} (h : compInst P shF nt ops o = some i) {b : Bool} (hw : wanted e i.guard = some b) : Region.wanted o (yielded ops a.tmps) = b := by
  obtain ⟨_, _, _, h4⟩ := compInst_parts h
  rcases h4 with ⟨h5, h6⟩ | ⟨j, want, g, t, h5, h6, h7, h8⟩
  · rw [h6] at hw
    simp only [wanted, Option.some.injEq] at hw
    subst hw
    simp [Region.wanted, h5]
  · rw [h8] at hw
    simp only [wanted] at hw
    have henv := hr.env t
    split at hw
    · rename_i q hq
      simp only [Option.some.injEq] at hw
      rw [hq] at henv
      have hv := henv.lit
      have ht : a.tmps[t]? = some (.bool q) := by
        cases ht : a.tmps[t]? with
        | none => simp [ht, undef] at hv
        | some x => simp [ht] at hv; rw [hv]
      simp [Region.wanted, h5, yielded, h6, h7, ht]
      rw [← hw]
    · rename_i hq
      simp only [Option.some.injEq] at hw
      subst hw
      rw [hq] at henv
      obtain ⟨us, hu, h9⟩ := henv
      cases us with
      | cons _ _ => exact h9.elim
      | nil =>
        have : yielded ops a.tmps j = none := by
          simp only [yielded, h6, h7, Option.bind_some]
          cases ht : a.tmps[t]? with
          | none => rfl
          | some x => simp [ht] at hu; subst hu; rfl
        simp [Region.wanted, h5, this]
    · cases hw

theorem compXs_all (hr : Rel B S w0 nt m e a) : ∀ {os : List Operand} {xs : List X}, compXs os = some xs → All2 (RepD B S m) (xs.map (evX e)) (os.map a.eval)
  | [], xs, h => by simp [compXs] at h; subst h; trivial
  | x :: os, xs, h => by
    simp only [compXs, Option.bind_eq_bind, Option.bind_eq_some_iff, Option.some.injEq] at h
    obtain ⟨y, h1, ys, h2, rfl⟩ := h
    exact ⟨hr.opd x y h1, compXs_all hr h2⟩

theorem compOp_call {f : Nat} {xs : List X} (h : compOp P shF o.op = some (.call f xs)) : ∃ args ts, o.op = .call { callee := .value (.func f), args, argTypes := ts } ∧ compXs args.toList = some xs := by
  unfold compOp at h
  split at h <;> try (cases h; done)
  all_goals simp only [Option.bind_eq_bind, Option.bind_eq_some_iff, Option.some.injEq] at h
  case h_23 f' args ts hop =>
    obtain ⟨ys, h1, h2⟩ := h
    split at h2
    · simp only [Ins.call.injEq] at h2
      obtain ⟨rfl, rfl⟩ := h2
      exact ⟨args, ts, hop, h1⟩
    · cases h2
    · cases h2
  all_goals (exfalso; revert h)
  case h_25 b args ts hop =>
    rintro ⟨ys, h1, h2⟩
    split at h2 <;> try (cases h2; done)
    · split at h2 <;> simp at h2
    · simp only [Option.bind_eq_some_iff] at h2
      obtain ⟨_, _, _, _, _, _, h2⟩ := h2
      split at h2
      · split at h2 <;> simp at h2
      · split at h2 <;> simp at h2
      · simp at h2
    · simp only [Option.bind_eq_some_iff] at h2
      obtain ⟨_, _, _, _, h2⟩ := h2
      split at h2 <;> simp at h2
  case h_11 => rintro ⟨_, _, _, _, h⟩; split at h <;> first | (simp at h; done) | (simp only [Option.bind_eq_some_iff] at h; obtain ⟨_, _, h⟩ := h; split at h <;> first | (simp only [eqIns] at h; split at h <;> simp at h; done) | (cases h))
  case h_13 => rintro ⟨_, _, h⟩; split at h <;> first | (simp at h; done) | (split at h <;> simp at h)
  case h_15 => rintro ⟨_, _, _, _, _, _, h⟩; split at h <;> first | (simp at h; done) | (simp only [Option.bind_eq_some_iff] at h; obtain ⟨_, _, h⟩ := h; simp at h)
  case h_16 => rintro ⟨_, _, _, _, _, _, _, _, h⟩; split at h <;> first | (simp only [Option.bind_eq_some_iff] at h; obtain ⟨_, _, h⟩ := h; simp at h; done) | (simp at h)
  case h_17 => rintro ⟨_, _, h⟩; split at h <;> simp at h
  case h_21 => rintro ⟨_, _, _, _, h⟩; split at h <;> simp at h
  all_goals (intro h; simp at h)

/-- one instruction that is carried out -/
theorem inst_wp {ops : Array Oper} {i : Inst} (h : compInst P shF nt ops o = some i) (hns : ∀ f ow xs, i.ins ≠ .callS f ow xs) (hnv : ∀ x xs, i.ins ≠ .callV x xs) (hr : Rel B S w0 nt m e a) (hs : ¬ m.U slot) {call : Callee} (hcall : ∀ f vs rs, call f vs = some rs → FnOK P f vs rs)
    (hst : stepC call (evX e) m.h slot i.ins = some (d, us)) {K : Act → World → Prop} {Q : Exit → Act → World → Prop}
    (hK : ∀ (a' : Act) (m' : M), m'.h = updH m.h us → m'.U = (fun i => m.U i ∨ i = slot) → Evolves B S m m' → Rel B S w0 nt m' (putE e i.dst d) a' → K a' m'.w) : o.wp P a m.w K Q := by
  obtain ⟨h1, h2, h3, _⟩ := compInst_parts h
  have fin : ∀ v w', Post B S m slot us d v w' → K (a.put o.dst v) w' := by
    rintro v w' ⟨β', p1, p2, p3, p4⟩
    have := (hr.evolve p2 p1 p4).put h3 p3
    rw [h2] at hK
    exact hK _ _ rfl rfl p2 this
  cases hins : i.ins with
  | callS f ow xs => exact absurd hins (hns f ow xs)
  | callV x xs => exact absurd hins (hnv x xs)
  | call f xs =>
    rw [hins] at hst h1
    simp only [stepC, Option.bind_eq_bind, Option.bind_eq_some_iff, Prod.exists, Option.some.injEq, Prod.mk.injEq] at hst
    obtain ⟨vs, us', h5, rs, h6, rfl, rfl⟩ := hst
    obtain ⟨args, ts, hop, h7⟩ := compOp_call h1
    have hall := compXs_all hr h7
    exact call_wp hr.hok hop (by simpa using hall) h5 (hcall _ _ _ h6) fin
  | _ =>
    rw [hins] at hst h1
    obtain ⟨n, v, w', h5, h6, h7⟩ := step_ok h1 rfl hr.hok hr.opd hs hst
    unfold Oper.wp
    rw [h5]
    rcases h6 with rfl | ⟨rfl, rfl⟩
    · exact fin v w' h7
    · exact fin undef w' h7

end
end Go.Ez

namespace Go.Ez
open Go.RowKit

def UIs (m : M) (nx : Nat) : Prop := ∀ i, m.U i ↔ i < nx

theorem All2.map_mono {α β γ : Type} {R : α → β → Prop} {R' : γ → β → Prop} {f : α → γ} (h : ∀ a b, R a b → R' (f a) b) : ∀ {as : List α} {bs : List β}, All2 R as bs → All2 R' (as.map f) bs
  | [], [], _ => trivial
  | _ :: _, _ :: _, h1 => ⟨h _ _ h1.1, All2.map_mono h h1.2⟩
  | [], _ :: _, h1 => h1.elim
  | _ :: _, [], h1 => h1.elim

/-- what is known of a call that runs in the caller's memory -/
def LendOK (P : Program) (f : Nat) (ds : List D) (h : Heap) (k : Nat) (rs : List D) (h' : Heap) (n' : Nat) : Prop :=
  Callable P f ∧ ∀ (B : Nat) (S : Nat → Nat → Prop) (m : M) (us : List Value), m.h = h → UIs m k → HOK B S m → All2 (RepD B S m) ds us →
    Calls P f us.toArray m.w fun e w' => ∃ (v : Value) (m' : M), e = .returned v ∧ m'.w = w' ∧ m'.h = h' ∧ UIs m' n' ∧ HOK B S m' ∧ Evolves B S m m' ∧ RepD B S m' (tupD rs) v ∧ Below B m.w m'.w ∧ ∀ d, d ∈ rs → ∀ q, d ≠ .tup q

section
variable {B : Nat} {S : Nat → Nat → Prop} {P : Program} {o : Oper} {a : Act} {m : M} {shF : Nat → Nat} {nt : Nat} {w0 : World} {call : Callee} {lend : Lender}

theorem frzA_ok {m : M} (hk : HOK B S m) {d : D} {u : Value} (hr : RepDc B S m d u) {x : D} {us : List (Nat × Obj)} (hf : frzA m.h d = some (x, us)) :
    HOK B S (m.heap (updH m.h us)) ∧ Evolves B S m (m.heap (updH m.h us)) ∧ RepDc B S (m.heap (updH m.h us)) x u := by
  cases d with
  | arr id off len =>
    simp only [frzA, Option.bind_eq_bind, Option.bind_eq_some_iff, Prod.exists, Option.some.injEq, Prod.mk.injEq] at hf
    obtain ⟨c, xs, h1, rfl, rfl⟩ := hf
    exact frz_ok hk hr h1
  | _ =>
    simp only [frzA, Option.some.injEq, Prod.mk.injEq] at hf
    obtain ⟨rfl, rfl⟩ := hf
    exact ⟨hk, Evolves.refl m, hr⟩

theorem frzAs_ok : ∀ {ds : List D} {us : List Value} {m : M}, HOK B S m → All2 (RepDc B S m) ds us → ∀ {cs : List D} {xs : List (Nat × Obj)}, frzAs m.h ds = some (cs, xs) →
    HOK B S (m.heap (updH m.h xs)) ∧ Evolves B S m (m.heap (updH m.h xs)) ∧ All2 (RepDc B S (m.heap (updH m.h xs))) cs us
  | [], [], m, hk, _, cs, xs, hf => by
    simp only [frzAs, Option.some.injEq, Prod.mk.injEq] at hf
    obtain ⟨rfl, rfl⟩ := hf
    exact ⟨hk, Evolves.refl m, trivial⟩
  | d :: ds, u :: us, m, hk, hr, cs, xs, hf => by
    simp only [frzAs, Option.bind_eq_bind, Option.bind_eq_some_iff, Prod.exists, Option.some.injEq, Prod.mk.injEq] at hf
    obtain ⟨c, x, h1, cs', xs', h2, rfl, rfl⟩ := hf
    obtain ⟨k1, k2, k3⟩ := frzA_ok hk hr.1 h1
    have hr2 : All2 (RepDc B S (m.heap (updH m.h x))) ds us := hr.2.mono fun _ _ h => k2.repDc h
    obtain ⟨k4, k5, k6⟩ := frzAs_ok (m := m.heap (updH m.h x)) k1 hr2 h2
    rw [updH_append]
    exact ⟨k4, k2.trans k5, k5.repDc k3, k6⟩
  | [], _ :: _, _, _, hr, _, _, _ => hr.elim
  | _ :: _, [], _, _, hr, _, _, _ => hr.elim

theorem frzD_ok {m : M} (hk : HOK B S m) {d : D} {u : Value} (hr : RepA B S m d u) {x : D} {xs : List (Nat × Obj)} (hf : frzD m.h d = some (x, xs)) :
    HOK B S (m.heap (updH m.h xs)) ∧ Evolves B S m (m.heap (updH m.h xs)) ∧ RepA B S (m.heap (updH m.h xs)) x u ∧ ∀ q, x ≠ .tup q := by
  have one : ∀ d, RepDc B S m d u → frzA m.h d = some (x, xs) →
      HOK B S (m.heap (updH m.h xs)) ∧ Evolves B S m (m.heap (updH m.h xs)) ∧ RepA B S (m.heap (updH m.h xs)) x u ∧ ∀ q, x ≠ .tup q := by
    intro d hr hf
    obtain ⟨k1, k2, k3⟩ := frzA_ok hk hr hf
    refine ⟨k1, k2, ?_, ?_⟩
    · cases x <;> first | exact k3 | exact k3.elim
    · intro q hq; subst hq; exact k3.elim
  cases d with
  | agg ds =>
    simp only [frzD, Option.bind_eq_bind, Option.bind_eq_some_iff, Prod.exists, Option.some.injEq, Prod.mk.injEq] at hf
    obtain ⟨cs, x, h1, rfl, rfl⟩ := hf
    obtain ⟨us, rfl, h2⟩ := hr
    obtain ⟨k1, k2, k3⟩ := frzAs_ok hk h2 h1
    exact ⟨k1, k2, ⟨us, rfl, k3⟩, fun q hq => by cases hq⟩
  | unk => exact one .unk hr hf
  | c x => exact one (.c x) hr hf
  | loc id off => exact one (.loc id off) hr hf
  | arr id off len => exact one (.arr id off len) hr hf
  | ptr cs => exact one (.ptr cs) hr hf
  | full cs n => exact one (.full cs n) hr hf
  | clo f caps => exact one (.clo f caps) hr hf
  | tup ds => exact one (.tup ds) hr hf

theorem frzDs_ok : ∀ {ds : List D} {us : List Value} {m : M}, HOK B S m → All2 (RepA B S m) ds us → ∀ {vs : List D} {xs : List (Nat × Obj)}, frzDs m.h ds = some (vs, xs) →
    HOK B S (m.heap (updH m.h xs)) ∧ Evolves B S m (m.heap (updH m.h xs)) ∧ All2 (RepA B S (m.heap (updH m.h xs))) vs us ∧ (∀ d, d ∈ vs → ∀ q, d ≠ .tup q) ∧ vs.length = ds.length
  | [], [], m, hk, _, cs, xs, hf => by
    simp only [frzDs, Option.some.injEq, Prod.mk.injEq] at hf
    obtain ⟨rfl, rfl⟩ := hf
    exact ⟨hk, Evolves.refl m, trivial, by simp, rfl⟩
  | d :: ds, u :: us, m, hk, hr, cs, xs, hf => by
    simp only [frzDs, Option.bind_eq_bind, Option.bind_eq_some_iff, Prod.exists, Option.some.injEq, Prod.mk.injEq] at hf
    obtain ⟨c, x, h1, cs', xs', h2, rfl, rfl⟩ := hf
    obtain ⟨k1, k2, k3, k3'⟩ := frzD_ok hk hr.1 h1
    have hr2 : All2 (RepA B S (m.heap (updH m.h x))) ds us := hr.2.mono fun _ _ h => k2.repA h
    obtain ⟨k4, k5, k6, k7, k8⟩ := frzDs_ok (m := m.heap (updH m.h x)) k1 hr2 h2
    rw [updH_append]
    refine ⟨k4, k2.trans k5, ⟨k5.repA k3, k6⟩, fun d hd => ?_, by simp [k8]⟩
    simp only [List.mem_cons] at hd
    rcases hd with rfl | hd
    · exact k3'
    · exact k7 d hd
  | [], _ :: _, _, _, hr, _, _, _ => hr.elim
  | _ :: _, [], _, _, hr, _, _, _ => hr.elim

theorem frzDs_ok' : ∀ {ds : List D} {us : List Value} {m : M}, HOK B S m → All2 (RepD B S m) ds us → ∀ {vs : List D} {xs : List (Nat × Obj)}, frzDs m.h ds = some (vs, xs) →
    HOK B S (m.heap (updH m.h xs)) ∧ Evolves B S m (m.heap (updH m.h xs)) ∧ All2 (RepD B S (m.heap (updH m.h xs))) vs us
  | [], [], m, hk, _, cs, xs, hf => by
    simp only [frzDs, Option.some.injEq, Prod.mk.injEq] at hf
    obtain ⟨rfl, rfl⟩ := hf
    exact ⟨hk, Evolves.refl m, trivial⟩
  | d :: ds, u :: us, m, hk, hr, cs, xs, hf => by
    simp only [frzDs, Option.bind_eq_bind, Option.bind_eq_some_iff, Prod.exists, Option.some.injEq, Prod.mk.injEq] at hf
    obtain ⟨c, x, h1, cs', xs', h2, rfl, rfl⟩ := hf
    have key : HOK B S (m.heap (updH m.h x)) ∧ Evolves B S m (m.heap (updH m.h x)) ∧ RepD B S (m.heap (updH m.h x)) c u := by
      have other : RepA B S m d u → _ := fun hA => frzD_ok hk hA h1
      cases d with
      | tup q =>
        simp only [frzD, frzA, Option.some.injEq, Prod.mk.injEq] at h1
        obtain ⟨rfl, rfl⟩ := h1
        exact ⟨hk, Evolves.refl m, hr.1⟩
      | _ => obtain ⟨k1, k2, k3, _⟩ := other hr.1; exact ⟨k1, k2, k3.toD⟩
    obtain ⟨k1, k2, k3⟩ := key
    have hr2 : All2 (RepD B S (m.heap (updH m.h x))) ds us := hr.2.mono fun _ _ h => k2.repD h
    obtain ⟨k4, k5, k6⟩ := frzDs_ok' (m := m.heap (updH m.h x)) k1 hr2 h2
    rw [updH_append]
    exact ⟨k4, k2.trans k5, k5.repD k3, k6⟩
  | [], _ :: _, _, _, hr, _, _, _ => hr.elim
  | _ :: _, [], _, _, hr, _, _, _ => hr.elim

/-- the results one by one -/
theorem tupD_all {B : Nat} {S : Nat → Nat → Prop} {m : M} {rs : List D} {v : Value} (h : RepD B S m (tupD rs) v) (hn : ∀ d, d ∈ rs → ∀ q, d ≠ .tup q) :
    ∃ us : List Value, All2 (RepA B S m) rs us ∧ ∀ (m' : M) (rs' : List D), rs'.length = rs.length → All2 (RepA B S m') rs' us → RepD B S m' (tupD rs') v := by
  match rs, h, hn with
  | [], h, _ =>
    obtain ⟨us, rfl, h2⟩ := h
    refine ⟨us, h2, fun m' rs' hl h3 => ?_⟩
    match rs', hl with
    | [], _ => exact ⟨us, rfl, h3⟩
  | [d], h, hn =>
    have hA : RepA B S m d v := by
      cases d with
      | tup q => exact absurd rfl (hn (.tup q) (by simp) q)
      | _ => exact h
    refine ⟨[v], ⟨hA, trivial⟩, fun m' rs' hl h3 => ?_⟩
    match rs', hl with
    | [d'], _ => exact h3.1.toD
  | d :: d' :: ds, h, _ =>
    obtain ⟨us, rfl, h2⟩ := h
    refine ⟨us, h2, fun m' rs' hl h3 => ?_⟩
    match rs', hl with
    | _ :: _ :: _, _ => exact ⟨us, rfl, h3⟩

/-- A CALL IN THE CALLER'S MEMORY. -/
theorem lend_ok (hl : ∀ f ds h k rs h' n', lend f ds h k = some (rs, h', n') → LendOK P f ds h k rs h' n') {own : Bool} {f : Nat} {ds : List D} {h : Heap} {nx : Nat} {d : D} {h2 : Heap} {nx2 : Nat} (hev : lendC lend own f ds h nx = some (d, h2, nx2)) :
    Callable P f ∧ ∀ (B : Nat) (S : Nat → Nat → Prop) (m : M) (us : List Value), m.h = h → UIs m nx → HOK B S m → All2 (RepD B S m) ds us →
      Calls P f us.toArray m.w fun e w' => ∃ (v : Value) (m' : M), e = .returned v ∧ m'.w = w' ∧ m'.h = h2 ∧ UIs m' nx2 ∧ HOK B S m' ∧ Evolves B S m m' ∧ RepD B S m' d v ∧ Below B m.w m'.w := by
  simp only [lendC, Option.bind_eq_bind, Option.bind_eq_some_iff, Prod.exists] at hev
  obtain ⟨ds1, us1, h1, rs, h', n', h3, hev⟩ := hev
  obtain ⟨hc, hL⟩ := hl _ _ _ _ _ _ _ h3
  refine ⟨hc, fun B S m us hh hU hk hall => ?_⟩
  subst hh
  obtain ⟨k1, k2, k3⟩ := frzDs_ok' hk hall h1
  refine (hL B S (m.heap (updH m.h us1)) us rfl hU k1 k3).mono fun e w' ⟨v, m', q1, q2, q3, q4, q5, q6, q7, q8, q9⟩ => ?_
  subst q1 q2
  cases own with
  | true =>
    simp only [if_true, Option.some.injEq, Prod.mk.injEq] at hev
    obtain ⟨rfl, rfl, rfl⟩ := hev
    exact ⟨v, m', rfl, rfl, q3, q4, q5, k2.trans q6, q7, q8⟩
  | false =>
    simp only [Bool.false_eq_true, if_false, Option.bind_eq_some_iff, Prod.exists, Option.some.injEq, Prod.mk.injEq] at hev
    obtain ⟨rs1, us2, h5, rfl, rfl, rfl⟩ := hev
    subst q3
    obtain ⟨vs, g1, g2⟩ := tupD_all q7 q9
    obtain ⟨e1, e2, e3, e4, e5⟩ := frzDs_ok q5 g1 h5
    exact ⟨v, m'.heap (updH m'.h us2), rfl, rfl, rfl, q4, e1, (k2.trans q6).trans e2, g2 _ _ e5 e3, q8⟩

theorem run_callV {f t : Nat} (hf : Callable P f) {args : Array Operand} {ts : Array TypeId} {caps : Array Value} (hop : o.op = .call { callee := .value (.tmp t), args, argTypes := ts }) (ht : a.eval (.tmp t) = .func (.func f) #[] caps) (w : World) :
    (execOp a.eval o).run P w = .ok (.enter f (args.map a.eval ++ caps)) w := by
  obtain ⟨fn, h1, h2, h3⟩ := hf
  have h2' : ¬ fn.body = none := fun h => by rw [h] at h2; cases h2
  have h3' : ¬ fn.name = "runtime.NumGoroutine" := by simpa using h3
  simp [execOp, hop, resolve, ht, Deferred.ofValue, invoke, callFunc, h1, h2', h3']

theorem compOp_callS {f : Nat} {ow : Bool} {xs : List X} (h : compOp P shF o.op = some (.callS f ow xs)) : ∃ args ts, o.op = .call { callee := .value (.func f), args, argTypes := ts } ∧ compXs args.toList = some xs := by
  unfold compOp at h
  split at h <;> try (cases h; done)
  all_goals simp only [Option.bind_eq_bind, Option.bind_eq_some_iff, Option.some.injEq] at h
  case h_23 f' args ts hop =>
    obtain ⟨ys, h1, h2⟩ := h
    split at h2
    · cases h2
    · simp only [Ins.callS.injEq] at h2
      obtain ⟨rfl, rfl, rfl⟩ := h2
      exact ⟨args, ts, hop, h1⟩
    · simp only [Ins.callS.injEq] at h2
      obtain ⟨rfl, rfl, rfl⟩ := h2
      exact ⟨args, ts, hop, h1⟩
  all_goals (exfalso; revert h)
  case h_25 b args ts hop =>
    rintro ⟨ys, h1, h2⟩
    split at h2 <;> try (cases h2; done)
    · split at h2 <;> simp at h2
    · simp only [Option.bind_eq_some_iff] at h2
      obtain ⟨_, _, _, _, _, _, h2⟩ := h2
      split at h2
      · split at h2 <;> simp at h2
      · split at h2 <;> simp at h2
      · simp at h2
    · simp only [Option.bind_eq_some_iff] at h2
      obtain ⟨_, _, _, _, h2⟩ := h2
      split at h2 <;> simp at h2
  case h_11 => rintro ⟨_, _, _, _, h⟩; split at h <;> first | (simp at h; done) | (simp only [Option.bind_eq_some_iff] at h; obtain ⟨_, _, h⟩ := h; split at h <;> first | (simp only [eqIns] at h; split at h <;> simp at h; done) | (cases h))
  case h_13 => rintro ⟨_, _, h⟩; split at h <;> first | (simp at h; done) | (split at h <;> simp at h)
  case h_15 => rintro ⟨_, _, _, _, _, _, h⟩; split at h <;> first | (simp at h; done) | (simp only [Option.bind_eq_some_iff] at h; obtain ⟨_, _, h⟩ := h; simp at h)
  case h_16 => rintro ⟨_, _, _, _, _, _, _, _, h⟩; split at h <;> first | (simp only [Option.bind_eq_some_iff] at h; obtain ⟨_, _, h⟩ := h; simp at h; done) | (simp at h)
  case h_17 => rintro ⟨_, _, h⟩; split at h <;> simp at h
  case h_21 => rintro ⟨_, _, _, _, h⟩; split at h <;> simp at h
  all_goals (intro h; simp at h)

theorem compOp_callV {x : X} {xs : List X} (h : compOp P shF o.op = some (.callV x xs)) : ∃ t args ts, x = .t t ∧ o.op = .call { callee := .value (.tmp t), args, argTypes := ts } ∧ compXs args.toList = some xs := by
  unfold compOp at h
  split at h <;> try (cases h; done)
  all_goals simp only [Option.bind_eq_bind, Option.bind_eq_some_iff, Option.some.injEq] at h
  case h_24 t args ts hop =>
    obtain ⟨ys, h1, h2⟩ := h
    simp only [Ins.callV.injEq] at h2
    obtain ⟨rfl, rfl⟩ := h2
    exact ⟨t, args, ts, rfl, hop, h1⟩
  all_goals (exfalso; revert h)
  case h_23 => rintro ⟨_, _, h⟩; split at h <;> simp at h
  case h_25 b args ts hop =>
    rintro ⟨ys, h1, h2⟩
    split at h2 <;> try (cases h2; done)
    · split at h2 <;> simp at h2
    · simp only [Option.bind_eq_some_iff] at h2
      obtain ⟨_, _, _, _, _, _, h2⟩ := h2
      split at h2
      · split at h2 <;> simp at h2
      · split at h2 <;> simp at h2
      · simp at h2
    · simp only [Option.bind_eq_some_iff] at h2
      obtain ⟨_, _, _, _, h2⟩ := h2
      split at h2 <;> simp at h2
  case h_11 => rintro ⟨_, _, _, _, h⟩; split at h <;> first | (simp at h; done) | (simp only [Option.bind_eq_some_iff] at h; obtain ⟨_, _, h⟩ := h; split at h <;> first | (simp only [eqIns] at h; split at h <;> simp at h; done) | (cases h))
  case h_13 => rintro ⟨_, _, h⟩; split at h <;> first | (simp at h; done) | (split at h <;> simp at h)
  case h_15 => rintro ⟨_, _, _, _, _, _, h⟩; split at h <;> first | (simp at h; done) | (simp only [Option.bind_eq_some_iff] at h; obtain ⟨_, _, h⟩ := h; simp at h)
  case h_16 => rintro ⟨_, _, _, _, _, _, _, _, h⟩; split at h <;> first | (simp only [Option.bind_eq_some_iff] at h; obtain ⟨_, _, h⟩ := h; simp at h; done) | (simp at h)
  case h_17 => rintro ⟨_, _, h⟩; split at h <;> simp at h
  case h_21 => rintro ⟨_, _, _, _, h⟩; split at h <;> simp at h
  all_goals (intro h; simp at h)

theorem seq_ok {ops : Array Oper} {Q : Exit → Act → World → Prop} (hcall : ∀ f vs rs, call f vs = some rs → FnOK P f vs rs)
    (hl : ∀ f ds h k rs h' n', lend f ds h k = some (rs, h', n') → LendOK P f ds h k rs h' n') :
    ∀ (l : List Oper) (is : List Inst), compInsts P shF nt ops l = some is → ∀ (s s' : St) (m : M) (a : Act), m.h = s.heap → UIs m s.nx → Rel B S w0 nt m s.env a → evSeq call lend is s = some s' →
      (∀ (a' : Act) (m' : M), m'.h = s'.heap → UIs m' s'.nx → Evolves B S m m' → Rel B S w0 nt m' s'.env a' → Q .normal a' m'.w) → wpList P ops Q l a m.w
  | [], is, hc, s, s', m, a, hh, hU, hr, hev, hK => by
    simp only [compInsts, Option.some.injEq] at hc
    subst hc
    simp only [evSeq, Option.some.injEq] at hev
    subst hev
    exact wpList_nil (hK a m hh hU (Evolves.refl m) hr)
  | o :: l, is, hc, s, s', m, a, hh, hU, hr, hev, hK => by
    simp only [compInsts, Option.bind_eq_bind, Option.bind_eq_some_iff, Option.some.injEq] at hc
    obtain ⟨i, hc1, is', hc2, rfl⟩ := hc
    simp only [evSeq, Option.bind_eq_bind, Option.bind_eq_some_iff] at hev
    obtain ⟨b, hw, hev⟩ := hev
    have hwant := wanted_ok hr hc1 hw
    obtain ⟨p1, p2, p3, _⟩ := compInst_parts hc1
    unfold wpList
    rw [hwant]
    cases b with
    | false =>
      simp only [if_false, Bool.false_eq_true] at hev ⊢
      have hr2 : Rel B S w0 nt m (putE s.env i.dst undefD) (a.put o.dst undef) := by
        rw [p2]; exact hr.put p3 ⟨[], rfl, trivial⟩
      exact seq_ok hcall hl l is' hc2 ⟨putE s.env i.dst undefD, s.heap, s.nx⟩ s' m _ hh hU hr2 hev hK
    | true =>
      simp only [if_true] at hev ⊢
      refine .inl ?_
      have other : (∀ f ow xs, i.ins ≠ .callS f ow xs) → (∀ x xs, i.ins ≠ .callV x xs) → (do let (d, us) ← stepC call (evX s.env) s.heap s.nx i.ins; evSeq call lend is' ⟨putE s.env i.dst d, updH s.heap us, s.nx + 1⟩) = some s' → o.wp P a m.w (wpList P ops Q l) Q := by
        intro hns hnv hev
        simp only [Option.bind_eq_bind, Option.bind_eq_some_iff, Prod.exists] at hev
        obtain ⟨d, us, h1, h2⟩ := hev
        refine inst_wp hc1 hns hnv hr (slot := s.nx) (by rw [hU]; omega) hcall (by rw [hh]; exact h1) fun a' m' q1 q2 q3 q4 => ?_
        refine seq_ok hcall hl l is' hc2 ⟨putE s.env i.dst d, updH s.heap us, s.nx + 1⟩ s' m' a' (by rw [q1, hh]) (fun j => ?_) q4 h2 fun a'' m'' r1 r2 r4 r5 => hK a'' m'' r1 r2 (q3.trans r4) r5
        rw [q2]
        show m.U j ∨ j = s.nx ↔ j < s.nx + 1
        rw [hU]
        omega
      have lent : ∀ (ow : Bool) (f : Nat) (ds : List D) (us : List Value), (∀ w, Callable P f → (execOp a.eval o).run P w = .ok (.enter f us.toArray) w) → All2 (RepD B S m) ds us →
          (do let (d, h, nx) ← lendC lend ow f ds s.heap s.nx; evSeq call lend is' ⟨putE s.env i.dst d, h, nx⟩) = some s' → o.wp P a m.w (wpList P ops Q l) Q := by
        intro ow f ds us hrun hall hev
        simp only [Option.bind_eq_bind, Option.bind_eq_some_iff, Prod.exists] at hev
        obtain ⟨d, h', nx', h1, h2⟩ := hev
        obtain ⟨hcal, hs2⟩ := lend_ok hl h1
        unfold Oper.wp
        rw [hrun _ hcal]
        show Calls P f us.toArray m.w _
        refine (hs2 B S m us hh hU hr.hok hall).mono fun e w' ⟨v, m', q0, q1, q2, q3, q4, q5, q6, q7⟩ => ?_
        subst q0 q1
        have hr2 : Rel B S w0 nt m' (putE s.env i.dst d) (a.put o.dst v) := by
          rw [p2]; exact (hr.evolve q5 q4 q7).put p3 q6
        exact seq_ok hcall hl l is' hc2 ⟨putE s.env i.dst d, h', nx'⟩ s' m' _ q2 q3 hr2 h2 fun a'' m'' r1 r2 r4 r5 => hK a'' m'' r1 r2 (q5.trans r4) r5
      cases hins : i.ins with
      | callS f ow xs =>
        rw [hins] at hev p1
        obtain ⟨args, ts, hop, h7⟩ := compOp_callS p1
        refine lent ow f _ (args.map a.eval).toList (fun w hf => ?_) (by simpa using compXs_all hr h7) hev
        rw [run_call hf hop, Array.toArray_toList]
      | callV x xs =>
        rw [hins] at hev p1
        obtain ⟨t, args, ts, rfl, hop, h7⟩ := compOp_callV p1
        simp only at hev
        cases hx : evX s.env (.t t) with
        | clo f caps =>
          rw [hx] at hev
          have ht := hr.env t
          have hx' : getE s.env t = .clo f caps := hx
          rw [hx'] at ht
          obtain ⟨ht1, ht2⟩ := ht
          refine lent false f _ ((args.map a.eval).toList ++ caps.map fun p => Value.pointer (some ⟨m.β p.1, p.2, none⟩)) (fun w hf => ?_) ?_ hev
          · rw [run_callV hf hop ht1]
            simp
          · refine All2.append (by simpa using compXs_all hr h7) ?_
            have : ∀ (l : List (Nat × Nat)), (∀ p ∈ l, m.U p.1) → All2 (RepD B S m) (l.map fun p => D.loc p.1 p.2) (l.map fun p => Value.pointer (some ⟨m.β p.1, p.2, none⟩)) := by
              intro l
              induction l with
              | nil => intro _; trivial
              | cons p l ih => intro hl; exact ⟨⟨hl p (by simp), rfl⟩, ih fun q hq => hl q (by simp [hq])⟩
            exact this caps ht2
        | _ => rw [hx] at hev; cases hev
      | _ => exact other (fun f ow xs h => by rw [hins] at h; cases h) (fun f xs h => by rw [hins] at h; cases h) (by rw [hins] at hev ⊢; exact hev)
end
end Go.Ez

