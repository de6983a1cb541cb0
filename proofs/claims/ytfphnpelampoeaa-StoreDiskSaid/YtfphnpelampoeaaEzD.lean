/-
  An operation looks at its operands and at the objects that it touches, at nothing else.
-/
import Derived.Test.YtfphnpelampoeaaEzA
import Derived.Test.YtfphnpelampoeaaEzC
import Derived.Orders
set_option linter.unusedVariables false
set_option linter.unusedSimpArgs false
namespace Go.Ez

def Agree (L : List Nat) (h h' : Heap) : Prop := ∀ id, id ∈ L → getH h id = getH h' id

theorem Agree.mono {L L' : List Nat} {h h' : Heap} (hh : Agree L h h') (hs : ∀ id, id ∈ L' → id ∈ L) : Agree L' h h' := fun id hi => hh id (hs id hi)

theorem Agree.upd {L : List Nat} : ∀ (us : List (Nat × Obj)) {h h' : Heap}, Agree L h h' → Agree L (updH h us) (updH h' us)
  | [], _, _, hh => hh
  | u :: us, h, h', hh => by
    refine Agree.upd us (h := u :: h) (h' := u :: h') fun id hi => ?_
    obtain ⟨i, o⟩ := u
    simp only [getH]
    rw [hh id hi]

variable {h h' : Heap}

theorem loadD_congr {agg : Bool} {size : Nat} {d : D} (hh : Agree (match d with | .loc id _ => [id] | _ => []) h h') : loadD h agg size d = loadD h' agg size d := by
  cases d with
  | loc id off => simp only [loadD, hh id (by simp)]
  | _ => rfl

theorem arrIds_flat (ds : List D) : arrIds ds = ds.flatMap fun | .arr id _ _ => [id] | _ => [] := by
  induction ds with
  | nil => rfl
  | cons d ds ih => cases d <;> simp [arrIds, ih]

theorem frz1_congr {d : D} (hh : ∀ id off len, d = .arr id off len → getH h id = getH h' id) : frz1 h d = frz1 h' d := by
  cases d with
  | arr id off len => simp only [frz1, hh id off len rfl]
  | _ => rfl

theorem frzL1_congr : ∀ {ds : List D} {h h' : Heap}, Agree (arrIds ds) h h' → frzL1 h ds = frzL1 h' ds
  | [], _, _, _ => rfl
  | d :: ds, h, h', hh => by
    have h1 : frz1 h d = frz1 h' d := frz1_congr fun id off len e => hh id (by rw [e]; simp [arrIds])
    simp only [frzL1, h1]
    cases hf : frz1 h' d with
    | none => rfl
    | some p =>
      obtain ⟨c, u⟩ := p
      have h2 : frzL1 (updH h u) ds = frzL1 (updH h' u) ds := frzL1_congr (Agree.upd u (hh.mono fun id hi => by cases d <;> simp [arrIds] <;> first | exact hi | exact .inr hi))
      simp only [Option.bind_eq_bind, Option.bind_some, h2]

theorem frz_congr {d : D} (hh : Agree (ids1 h d) h h') : frz h d = frz h' d := by
  cases d with
  | arr id off len =>
    have h0 := hh id (by simp [ids1])
    simp only [frz, ← h0]
    cases ho : getH h id with
    | rows ds esz ety =>
      have h1 : frzL1 h ds = frzL1 h' ds := frzL1_congr (hh.mono fun i hi => by simp [ids1, ho, hi])
      simp only [← h1]
      cases hf : frzL1 h ds with
      | none => rfl
      | some p =>
        obtain ⟨cs, us⟩ := p
        have h2 : frz1 (updH h (us ++ [(id, .arr cs esz 0 ety)])) (.arr id off len) = frz1 (updH h' (us ++ [(id, .arr cs esz 0 ety)])) (.arr id off len) :=
          frz1_congr fun i o l e => by
            injection e with e1 _ _
            subst e1
            exact Agree.upd (L := [id]) _ (fun j hj => by simp at hj; subst hj; exact h0) id (by simp)
        simp only [Option.bind_eq_bind, Option.bind_some, h2]
    | _ => exact frz1_congr fun i o l e => by injection e with e1 _ _; subst e1; exact h0
  | _ => rfl

theorem ids1_upd {h : Heap} {d d' : D} {c : C} {u : List (Nat × Obj)} (hf : frz h d = some (c, u)) : ∀ id, id ∈ ids1 (updH h u) d' → id ∈ ids1 h d' := by
  intro id hi
  cases d' with
  | arr i off len =>
    simp only [ids1] at hi ⊢
    rcases frz_arr hf i with e | ⟨_, _, _, _, e⟩
    · rw [e] at hi; exact hi
    · rw [e] at hi
      simp only [List.mem_cons] at hi ⊢
      rcases hi with hi | hi
      · exact .inl hi
      · cases hi
  | _ => exact hi

theorem frzL_congr : ∀ {ds : List D} {h h' : Heap}, Agree (ds.flatMap (ids1 h)) h h' → frzL h ds = frzL h' ds
  | [], _, _, _ => rfl
  | d :: ds, h, h', hh => by
    have h1 : frz h d = frz h' d := frz_congr (hh.mono fun id hi => by rw [List.flatMap_cons]; exact List.mem_append_left _ hi)
    simp only [frzL, ← h1]
    cases hf : frz h d with
    | none => rfl
    | some p =>
      obtain ⟨c, u⟩ := p
      have h2 : frzL (updH h u) ds = frzL (updH h' u) ds := frzL_congr (Agree.upd u (hh.mono fun id hi => by
        rw [List.flatMap_cons]
        refine List.mem_append_right _ ?_
        rw [List.mem_flatMap] at hi ⊢
        obtain ⟨x, hx, hi⟩ := hi
        exact ⟨x, hx, ids1_upd hf id hi⟩))
      simp only [Option.bind_eq_bind, Option.bind_some, h2]

theorem frzV_congr {d : D} (hh : Agree (frzIds h d) h h') : frzV h d = frzV h' d := by
  cases d with
  | agg ds =>
    have : frzL h ds = frzL h' ds := frzL_congr hh
    simp only [frzV, this]
  | arr id off len => simp only [frzV, frz_congr (h := h) (h' := h') (d := .arr id off len) hh]
  | _ => rfl

theorem frzL_arr : ∀ {ds : List D} {h : Heap} {cs : List C} {us : List (Nat × Obj)}, frzL h ds = some (cs, us) → ∀ id, getH (updH h us) id = getH h id ∨ ∃ cs esz fz ety, getH (updH h us) id = .arr cs esz fz ety
  | [], h, cs, us, hf, id => by simp only [frzL, Option.some.injEq, Prod.mk.injEq] at hf; obtain ⟨rfl, rfl⟩ := hf; exact .inl rfl
  | d :: ds, h, cs, us, hf, id => by
    simp only [frzL, Option.bind_eq_bind, Option.bind_eq_some_iff, Prod.exists, Option.some.injEq, Prod.mk.injEq] at hf
    obtain ⟨c, u, h1, cs', us', h2, rfl, rfl⟩ := hf
    rw [updH_append]
    rcases frzL_arr h2 id with k1 | k1
    · rcases frz_arr h1 id with e | e
      · exact .inl (k1.trans e)
      · exact .inr (by rw [k1]; exact e)
    · exact .inr k1

theorem frzV_arr {d : D} {v : V} {us : List (Nat × Obj)} (hf : frzV h d = some (v, us)) : ∀ id, getH (updH h us) id = getH h id ∨ ∃ cs esz fz ety, getH (updH h us) id = .arr cs esz fz ety := by
  intro id
  cases d with
  | agg ds =>
    simp only [frzV, Option.bind_eq_bind, Option.bind_eq_some_iff, Prod.exists, Option.some.injEq, Prod.mk.injEq] at hf
    obtain ⟨cs, x, h1, rfl, rfl⟩ := hf
    exact frzL_arr h1 id
  | _ =>
    simp only [frzV, Option.bind_eq_bind, Option.bind_eq_some_iff, Prod.exists, Option.some.injEq, Prod.mk.injEq] at hf
    obtain ⟨c, x, h1, rfl, rfl⟩ := hf
    exact frz_arr h1 id

theorem ids1_of {h h2 : Heap} (hf : ∀ id, getH h2 id = getH h id ∨ ∃ cs esz fz ety, getH h2 id = .arr cs esz fz ety) {d' : D} : ∀ id, id ∈ ids1 h2 d' → id ∈ ids1 h d' := by
  intro id hi
  cases d' with
  | arr i off len =>
    simp only [ids1] at hi ⊢
    rcases hf i with e | ⟨_, _, _, _, e⟩
    · rw [e] at hi; exact hi
    · rw [e] at hi
      simp only [List.mem_cons] at hi ⊢
      rcases hi with hi | hi
      · exact .inl hi
      · cases hi
  | _ => exact hi

theorem frzIds_of {h h2 : Heap} (hf : ∀ id, getH h2 id = getH h id ∨ ∃ cs esz fz ety, getH h2 id = .arr cs esz fz ety) {d' : D} : ∀ id, id ∈ frzIds h2 d' → id ∈ frzIds h d' := by
  intro id hi
  cases d' with
  | agg ds =>
    simp only [frzIds, List.mem_flatMap] at hi ⊢
    obtain ⟨x, hx, hi⟩ := hi
    exact ⟨x, hx, ids1_of hf id hi⟩
  | arr i off len => exact ids1_of (d' := .arr i off len) hf id hi
  | _ => cases hi

theorem frzVs_congr : ∀ {ds : List D} {h h' : Heap}, Agree (ds.flatMap (frzIds h)) h h' → frzVs h ds = frzVs h' ds
  | [], _, _, _ => rfl
  | d :: ds, h, h', hh => by
    have h1 : frzV h d = frzV h' d := frzV_congr (hh.mono fun id hi => by rw [List.flatMap_cons]; exact List.mem_append_left _ hi)
    simp only [frzVs, ← h1]
    cases hf : frzV h d with
    | none => rfl
    | some p =>
      obtain ⟨c, u⟩ := p
      have h2 : frzVs (updH h u) ds = frzVs (updH h' u) ds := frzVs_congr (Agree.upd u (hh.mono fun id hi => by
        rw [List.flatMap_cons]
        refine List.mem_append_right _ ?_
        rw [List.mem_flatMap] at hi ⊢
        obtain ⟨x, hx, hi⟩ := hi
        exact ⟨x, hx, frzIds_of (frzV_arr hf) id hi⟩))
      simp only [Option.bind_eq_bind, Option.bind_some, h2]

theorem srcOf_congr {esz : Nat} {d : D} (hh : Agree (frzIds h d) h h') : srcOf h esz d = srcOf h' esz d := by
  cases d with
  | arr id off len => simp only [srcOf, hh id (by simp [frzIds, ids1])]
  | c x => unfold srcOf; split <;> simp_all
  | _ => rfl

theorem srcB_congr {d : D} (hh : Agree (frzIds h d) h h') : srcB h d = srcB h' d := by
  unfold srcB
  split
  · rfl
  · exact srcOf_congr hh

theorem slcD_congr {esz : Nat} {lo hi : Option D} {d : D} (hh : Agree (frzIds h d) h h') : slcD h esz lo hi d = slcD h' esz lo hi d := by
  cases d with
  | arr id off len => simp only [slcD, hh id (by simp [frzIds, ids1])]
  | c x => unfold slcD; split <;> simp_all
  | _ => rfl

theorem iadrD_congr {esz : Nat} {i : D} {d : D} (hh : Agree (frzIds h d) h h') : iadrD h esz i d = iadrD h' esz i d := by
  cases d with
  | arr id off len => simp only [iadrD, hh id (by simp [frzIds, ids1])]
  | c x => unfold iadrD; split <;> simp_all
  | _ => rfl

theorem appD_congr {slot esz ety bytes : Nat} {y d : D} (hh : Agree (frzIds h d ++ frzIds h y) h h') : appD h slot esz ety bytes y d = appD h' slot esz ety bytes y d := by
  have hs : srcOf h esz y = srcOf h' esz y := srcOf_congr (hh.mono fun id hi => by simp [hi])
  cases d with
  | arr id off len => simp only [appD, hh id (by simp [frzIds, ids1]), hs]
  | full ds k => simp only [appD, hs]
  | _ => rfl

theorem cpyD_congr {esz : Nat} {y d : D} (hh : Agree (frzIds h d ++ frzIds h y) h h') : cpyD h esz y d = cpyD h' esz y d := by
  have hs : srcOf h esz y = srcOf h' esz y := srcOf_congr (hh.mono fun id hi => by simp [hi])
  cases d with
  | arr id off len => simp only [cpyD, hh id (by simp [frzIds, ids1]), hs]
  | _ => rfl

theorem storeD_congr {size : Nat} {v d : D} (hh : Agree ((match d with | .loc id _ => [id] | _ => []) ++ frzIds h v) h h') : storeD h size v d = storeD h' size v d := by
  have hs : frzV h v = frzV h' v := frzV_congr (hh.mono fun id hi => by simp [hi])
  cases d with
  | loc id off =>
    have h1 := hh id (by simp)
    simp only [storeD, h1, hs]
    cases getH h' id with
    | arr cs esz fz ety =>
      cases hf : frzV h' v with
      | none => rfl
      | some p =>
        obtain ⟨x, us⟩ := p
        simp only [Option.bind_eq_bind, Option.bind_some]
        rw [Agree.upd us hh id (by simp)]
    | _ => rfl
  | _ => rfl

theorem fillP_congr {ρ ρ' : X → D} : ∀ {ps : List (Nat × Nat × X)} {cs : List D}, (∀ p, p ∈ ps → ρ p.2.2 = ρ' p.2.2) → fillP ρ cs ps = fillP ρ' cs ps
  | [], _, _ => rfl
  | (off, size, x) :: ps, cs, hp => by
    have h1 : ρ x = ρ' x := hp (off, size, x) (by simp)
    simp only [fillP, h1]
    cases cellsD (ρ' x) with
    | none => rfl
    | some ds =>
      simp only [Option.bind_eq_bind, Option.bind_some]
      rw [fillP_congr (fun p h => hp p (by simp [h]))]

theorem cellsD_ids {d : D} {ds : List D} (hc : cellsD d = some ds) : ∀ x ∈ ds, ∀ id, id ∈ ids1 h x → id ∈ frzIds h d := by
  intro x hx id hi
  unfold cellsD at hc
  split at hc
  · rename_i ds'
    split at hc
    · simp only [Option.some.injEq] at hc
      subst hc
      exact List.mem_flatMap.2 ⟨x, hx, hi⟩
    · cases hc
  · split at hc
    · simp only [Option.some.injEq] at hc
      subst hc
      simp only [List.mem_singleton] at hx
      subst hx
      cases x <;> first | exact hi | (simp [ids1] at hi)
    · cases hc

theorem fillP_ids {ρ : X → D} : ∀ {ps : List (Nat × Nat × X)} {cs ds : List D}, fillP ρ cs ps = some ds → ∀ x ∈ ds, x ∈ cs ∨ ∀ id, id ∈ ids1 h x → id ∈ ps.flatMap fun p => frzIds h (ρ p.2.2)
  | [], cs, ds, hf, x, hi => by simp only [fillP, Option.some.injEq] at hf; subst hf; exact .inl hi
  | (off, size, y) :: ps, cs, ds, hf, x, hi => by
    simp only [fillP, Option.bind_eq_bind, Option.bind_eq_some_iff] at hf
    obtain ⟨xs, h1, h2⟩ := hf
    split at h2
    case isFalse => cases h2
    rcases fillP_ids h2 x hi with h4 | h3
    · unfold splice at h4
      simp only [List.mem_append] at h4
      rcases h4 with (h4 | h4) | h4
      · exact .inl (List.mem_of_mem_take h4)
      · refine .inr fun id hid => ?_
        rw [List.flatMap_cons]
        exact List.mem_append_left _ (cellsD_ids h1 x h4 id hid)
      · exact .inl (List.mem_of_mem_drop h4)
    · refine .inr fun id hid => ?_
      rw [List.flatMap_cons]
      exact List.mem_append_right _ (h3 id hid)

theorem rowsOf_congr {esz : Nat} {d : D} (hh : Agree (frzIds h d) h h') : rowsOf h esz d = rowsOf h' esz d := by
  cases d with
  | arr id off len => simp only [rowsOf, hh id (by simp [frzIds, ids1])]
  | _ => rfl

theorem appR_congr {slot esz ety bytes n : Nat} {ys : List D} {d : D} (hh : Agree (frzIds h d) h h') : appR h slot esz ety bytes ys n d = appR h' slot esz ety bytes ys n d := by
  cases d with
  | arr id off len => simp only [appR, hh id (by simp [frzIds, ids1])]
  | full ds m => cases ds <;> cases m <;> rfl
  | _ => rfl

theorem stepC_congr {call : Callee} {ρ ρ' : X → D} {slot : Nat} {ins : Ins} (hx : ∀ x, x ∈ opX ins → ρ x = ρ' x) (hh : Agree (touches h ρ ins) h h') : stepC call ρ h slot ins = stepC call ρ' h' slot ins := by
  cases ins with
  | mov x => simp only [stepC, step, hx x (by simp [opX])]
  | pick c a b => simp only [stepC, step, hx c (by simp [opX]), hx a (by simp [opX]), hx b (by simp [opX])]
  | alloc z => rfl
  | box x => simp only [stepC, step, hx x (by simp [opX])]
  | build z ps =>
    have : ∀ cs, fillP ρ cs ps = fillP ρ' cs ps := fun cs => fillP_congr fun p hp => hx _ (by simp only [opX]; exact List.mem_map.2 ⟨p, hp, rfl⟩)
    simp only [stepC, step, this]
  | lits a b c z ps =>
    have h1 : ∀ cs, fillP ρ cs ps = fillP ρ' cs ps := fun cs => fillP_congr fun p hp => hx _ (by simp only [opX]; exact List.mem_map.2 ⟨p, hp, rfl⟩)
    simp only [stepC, step, ← h1]
    cases hf : fillP ρ ((zeros z c).map .c) ps with
    | none => rfl
    | some ds =>
      have h2 : frzL h ds = frzL h' ds := frzL_congr (hh.mono fun id hi => by
        rw [List.mem_flatMap] at hi
        obtain ⟨x, hx, hi⟩ := hi
        rcases fillP_ids (h := h) hf x hx with h3 | h3
        · rw [List.mem_map] at h3
          obtain ⟨c, _, rfl⟩ := h3
          cases hi
        · exact h3 id hi)
      simp only [Option.bind_eq_bind, Option.bind_some, h2]
  | load agg size x =>
    have h1 := hx x (by simp [opX])
    have : loadD h agg size (ρ x) = loadD h' agg size (ρ x) := loadD_congr hh
    rw [h1] at this
    simp only [stepC, step, this, h1]
  | store size x y =>
    have h1 := hx x (by simp [opX])
    have h2 := hx y (by simp [opX])
    have : storeD h size (ρ y) (ρ x) = storeD h' size (ρ y) (ρ x) := storeD_congr hh
    rw [h1, h2] at this
    simp only [stepC, step, this, h1, h2]
  | nilck x => simp only [stepC, step, hx x (by simp [opX])]
  | bin op b x y => simp only [stepC, step, hx x (by simp [opX]), hx y (by simp [opX])]
  | eqs ks b x y => simp only [stepC, step, hx x (by simp [opX]), hx y (by simp [opX])]
  | clip esz x lo hi mx =>
    have h1 := hx x (by simp [opX])
    have h2 := hx hi (by simp [opX])
    have h3 := hx mx (by simp [opX])
    have hl : lo.map ρ = lo.map ρ' := by cases lo with | none => rfl | some y => simp [hx y (by simp [opX])]
    have : frz h (ρ x) = frz h' (ρ x) := by
      cases hd : ρ x with
      | arr id off len => exact frz_congr (hh.mono fun i hi => by simpa [touches, hd, frzIds] using hi)
      | _ => rfl
    rw [h1] at this
    simp only [stepC, step, clipD, this, h1, h2, h3, hl]
  | mkf f xs =>
    have : capsOf ρ xs = capsOf ρ' xs := by
      have hx' : ∀ x, x ∈ xs → ρ x = ρ' x := fun x hxx => hx x (by simpa [opX] using hxx)
      clear hx hh
      induction xs with
      | nil => rfl
      | cons x xs ih =>
        simp only [capsOf, hx' x (by simp), ih fun y hy => hx' y (by simp [hy])]
    simp only [stepC, step, this]
  | callV x xs => rfl
  | un op x => simp only [stepC, step, hx x (by simp [opX])]
  | conv k x => simp only [stepC, step, hx x (by simp [opX])]
  | toStr x =>
    have h1 := hx x (by simp [opX])
    have : srcB h (ρ x) = srcB h' (ρ x) := srcB_congr hh
    rw [h1] at this
    simp only [stepC, step, this, h1]
  | mk a b c z l m => simp only [stepC, step, hx l (by simp [opX]), hx m (by simp [opX])]
  | slc esz x lo hi =>
    have h1 := hx x (by simp [opX])
    have hl : lo.map ρ = lo.map ρ' := by cases lo with | none => rfl | some y => simp [hx y (by simp [opX])]
    have hr : hi.map ρ = hi.map ρ' := by cases hi with | none => rfl | some y => simp [hx y (by simp [opX])]
    have : slcD h esz (lo.map ρ) (hi.map ρ) (ρ x) = slcD h' esz (lo.map ρ) (hi.map ρ) (ρ x) := slcD_congr hh
    rw [h1, hl, hr] at this
    simp only [stepC, step, this, h1, hl, hr]
  | sls x lo hi =>
    have h1 := hx x (by simp [opX])
    have hl : lo.map ρ = lo.map ρ' := by cases lo with | none => rfl | some y => simp [hx y (by simp [opX])]
    have hr : hi.map ρ = hi.map ρ' := by cases hi with | none => rfl | some y => simp [hx y (by simp [opX])]
    simp only [stepC, step, h1, hl, hr]
  | fadr o x => simp only [stepC, step, hx x (by simp [opX])]
  | fld o a s x => simp only [stepC, step, hx x (by simp [opX])]
  | iadr esz x i =>
    have h1 := hx x (by simp [opX])
    have h2 := hx i (by simp [opX])
    have : iadrD h esz (ρ i) (ρ x) = iadrD h' esz (ρ i) (ρ x) := iadrD_congr hh
    rw [h1, h2] at this
    simp only [stepC, step, this, h1, h2]
  | sidx x i => simp only [stepC, step, hx x (by simp [opX]), hx i (by simp [opX])]
  | ext x i => simp only [stepC, step, hx x (by simp [opX])]
  | len b x => simp only [stepC, step, hx x (by simp [opX])]
  | app a b c x y =>
    have h1 := hx x (by simp [opX])
    have h2 := hx y (by simp [opX])
    have this : appD h slot a b c (ρ y) (ρ x) = appD h' slot a b c (ρ y) (ρ x) := appD_congr hh
    have r1 : rowsOf h a (ρ y) = rowsOf h' a (ρ y) := rowsOf_congr (hh.mono fun i hi => by simp [touches, hi])
    have r2 : ∀ ys n, appR h slot a b c ys n (ρ x) = appR h' slot a b c ys n (ρ x) := fun ys n => appR_congr (hh.mono fun i hi => by simp [touches, hi])
    rw [h1, h2] at this
    rw [h2] at r1
    rw [h1] at r2
    simp only [stepC, step, this, h1, h2, r1, r2]
  | cpy esz x y =>
    have h1 := hx x (by simp [opX])
    have h2 := hx y (by simp [opX])
    have : cpyD h esz (ρ y) (ρ x) = cpyD h' esz (ρ y) (ρ x) := cpyD_congr hh
    rw [h1, h2] at this
    simp only [stepC, step, this, h1, h2]
  | mx x y => simp only [stepC, step, hx x (by simp [opX]), hx y (by simp [opX])]
  | mn x y => simp only [stepC, step, hx x (by simp [opX]), hx y (by simp [opX])]
  | call f xs =>
    have h1 : xs.map ρ = xs.map ρ' := List.map_congr_left fun x hxx => hx x (by simpa [opX] using hxx)
    have h2 : frzVs h (xs.map ρ) = frzVs h' (xs.map ρ) := frzVs_congr (hh.mono fun id hi => by simpa [touches, List.flatMap_map] using hi)
    rw [h1] at h2
    simp only [stepC, h2, h1]
  | callS f ow xs => rfl

end Go.Ez

namespace Go.Ez
open Go.RowKit

structure Eff where
  dst : Option Nat
  d : D
  us : List (Nat × Obj)
  tr : Trace

def gtOf (g : Option (Nat × Bool)) : List Nat := match g with | some (t, _) => [t] | none => []

def Did (call : Callee) (nx k : Nat) (i : Inst) (e : Env) (h : Heap) (f : Eff) : Prop :=
  f.dst = i.dst ∧
  ((wanted e i.guard = some true ∧ stepC call (evX e) h (nx + k) i.ins = some (f.d, f.us) ∧ f.tr = ⟨gtOf i.guard ++ tmpsX (opX i.ins), i.dst.toList, touches h (evX e) i.ins, f.us.map (·.1)⟩) ∨
   (wanted e i.guard = some false ∧ f.d = undefD ∧ f.us = [] ∧ f.tr = ⟨gtOf i.guard, i.dst.toList, [], []⟩))

def Ran (call : Callee) (nx : Nat) : Nat → List Inst → Env → Heap → List Eff → Prop
  | _, [], _, _, [] => True
  | k, i :: is, e, h, f :: fs => Did call nx k i e h f ∧ Ran call nx (k + 1) is (putE e f.dst f.d) (updH h f.us) fs
  | _, _, _, _, _ => False

def runE (L : Nat → Bool) : Nat → List Eff → Env → Env
  | _, [], e => e
  | k, f :: fs, e => runE L (k + 1) fs (if L k then putE e f.dst f.d else e)

def runH (L : Nat → Bool) : Nat → List Eff → Heap → Heap
  | _, [], h => h
  | k, f :: fs, h => runH L (k + 1) fs (if L k then updH h f.us else h)

theorem ran_of {call : Callee} {nx : Nat} : ∀ {is : List Inst} {k : Nat} {e : Env} {h : Heap} {e' : Env} {h' : Heap} {ts : List Trace}, evDraw call nx k is e h = some (e', h', ts) →
    ∃ fs, Ran call nx k is e h fs ∧ ts = fs.map (·.tr) ∧ e' = runE (fun _ => true) k fs e ∧ h' = runH (fun _ => true) k fs h
  | [], k, e, h, e', h', ts, hd => by
    simp only [evDraw, Option.some.injEq, Prod.mk.injEq] at hd
    obtain ⟨rfl, rfl, rfl⟩ := hd
    exact ⟨[], trivial, rfl, rfl, rfl⟩
  | i :: is, k, e, h, e', h', ts, hd => by
    simp only [evDraw, Option.bind_eq_bind, Option.bind_eq_some_iff] at hd
    obtain ⟨b, hw, hd⟩ := hd
    cases b with
    | true =>
      simp only [if_true, Option.bind_eq_some_iff, Prod.exists, Option.some.injEq, Prod.mk.injEq] at hd
      obtain ⟨d, us, h1, e1, h1', ts', h2, rfl, rfl, rfl⟩ := hd
      obtain ⟨fs, r1, r2, r3, r4⟩ := ran_of h2
      exact ⟨⟨i.dst, d, us, ⟨gtOf i.guard ++ tmpsX (opX i.ins), i.dst.toList, touches h (evX e) i.ins, us.map (·.1)⟩⟩ :: fs, ⟨⟨rfl, .inl ⟨hw, h1, rfl⟩⟩, r1⟩, by rw [r2]; rfl, by simpa [runE] using r3, by simpa [runH] using r4⟩
    | false =>
      simp only [if_false, Bool.false_eq_true, Option.bind_eq_some_iff, Prod.exists, Option.some.injEq, Prod.mk.injEq] at hd
      obtain ⟨e1, h1', ts', h2, rfl, rfl, rfl⟩ := hd
      obtain ⟨fs, r1, r2, r3, r4⟩ := ran_of h2
      exact ⟨⟨i.dst, undefD, [], ⟨gtOf i.guard, i.dst.toList, [], []⟩⟩ :: fs, ⟨⟨rfl, .inr ⟨hw, rfl, rfl, rfl⟩⟩, r1⟩, by rw [r2]; rfl, by simpa [runE] using r3, by simpa [runH, updH] using r4⟩

theorem runE_none {L : Nat → Bool} : ∀ {fs : List Eff} {k : Nat} {e : Env}, (∀ j, k ≤ j → L j = false) → runE L k fs e = e
  | [], _, _, _ => rfl
  | f :: fs, k, e, h => by
    simp only [runE, h k (Nat.le_refl _), if_false, Bool.false_eq_true]
    exact runE_none fun j hj => h j (by omega)

theorem runH_none {L : Nat → Bool} : ∀ {fs : List Eff} {k : Nat} {h : Heap}, (∀ j, k ≤ j → L j = false) → runH L k fs h = h
  | [], _, _, _ => rfl
  | f :: fs, k, e, h => by
    simp only [runH, h k (Nat.le_refl _), if_false, Bool.false_eq_true]
    exact runH_none fun j hj => h j (by omega)

theorem Ran.at {call : Callee} {nx : Nat} : ∀ {is : List Inst} {k : Nat} {e : Env} {h : Heap} {fs : List Eff}, Ran call nx k is e h fs → ∀ {i : Nat} {inst : Inst}, is[i]? = some inst →
    ∃ f, fs[i]? = some f ∧ Did call nx (k + i) inst (runE (fun j => decide (j < k + i)) k fs e) (runH (fun j => decide (j < k + i)) k fs h) f
  | [], _, _, _, [], _, i, inst, hi => by simp at hi
  | i0 :: is, k, e, h, f :: fs, hr, i, inst, hi => by
    obtain ⟨h1, h2⟩ := hr
    cases i with
    | zero =>
      simp only [List.getElem?_cons_zero, Option.some.injEq] at hi
      subst hi
      refine ⟨f, by simp, ?_⟩
      rw [Nat.add_zero, runE_none (fun j hj => by simp; omega), runH_none (fun j hj => by simp; omega)]
      exact h1
    | succ i =>
      simp only [List.getElem?_cons_succ] at hi
      obtain ⟨g, g1, g2⟩ := Ran.at h2 hi
      refine ⟨g, by simpa using g1, ?_⟩
      have hk : decide (k < k + (i + 1)) = true := by simp
      simp only [runE, runH, hk, if_true]
      rw [show k + (i + 1) = k + 1 + i by omega]
      exact g2
  | [], _, _, _, _ :: _, hr, _, _, _ => hr.elim
  | _ :: _, _, _, _, [], hr, _, _, _ => hr.elim

theorem runE_agree {L L' : Nat → Bool} {t : Nat} : ∀ {fs : List Eff} {k : Nat} {e e' : Env}, getE e t = getE e' t → (∀ (j : Nat) (f : Eff), fs[j]? = some f → L (k + j) ≠ L' (k + j) → f.dst ≠ some t) → getE (runE L k fs e) t = getE (runE L' k fs e') t
  | [], _, _, _, he, _ => he
  | f :: fs, k, e, e', he, h => by
    simp only [runE]
    refine runE_agree ?_ fun j g hg hne => h (j + 1) g (by simpa using hg) (by rw [show k + (j + 1) = k + 1 + j by omega]; exact hne)
    have h0 := h 0 f (by simp)
    simp only [Nat.add_zero] at h0
    cases h1 : L k <;> cases h2 : L' k <;> simp only [if_true, if_false, Bool.false_eq_true, getE_putE]
    · exact he
    · rw [if_neg (h0 (by rw [h1, h2]; simp))]; exact he
    · rw [if_neg (h0 (by rw [h1, h2]; simp))]; exact he
    · rw [he]

theorem updH_out {us : List (Nat × Obj)} : ∀ {h : Heap} {id : Nat}, id ∉ us.map (·.1) → getH (updH h us) id = getH h id := by
  induction us with
  | nil => intros; rfl
  | cons u us ih =>
    intro h id hn
    simp only [List.map_cons, List.mem_cons, not_or] at hn
    simp only [updH]
    rw [ih hn.2]
    obtain ⟨i, o⟩ := u
    have hne : ¬ i = id := fun e => hn.1 e.symm
    simp only [getH, if_neg hne]

theorem updH_in {us : List (Nat × Obj)} : ∀ {h h' : Heap} {id : Nat}, id ∈ us.map (·.1) → getH (updH h us) id = getH (updH h' us) id := by
  induction us with
  | nil => intro h h' id hi; simp at hi
  | cons u us ih =>
    intro h h' id hi
    simp only [updH]
    by_cases hm : id ∈ us.map (·.1)
    · exact ih hm
    · simp only [List.map_cons, List.mem_cons] at hi
      rcases hi with rfl | hi
      · rw [updH_out hm, updH_out hm]
        obtain ⟨i, o⟩ := u
        simp [getH]
      · exact absurd hi hm

theorem updH_ext {us : List (Nat × Obj)} {h h' : Heap} {id : Nat} (he : getH h id = getH h' id) : getH (updH h us) id = getH (updH h' us) id := by
  by_cases hm : id ∈ us.map (·.1)
  · exact updH_in hm
  · rw [updH_out hm, updH_out hm, he]

theorem runH_agree {L L' : Nat → Bool} {id : Nat} : ∀ {fs : List Eff} {k : Nat} {h h' : Heap}, getH h id = getH h' id → (∀ (j : Nat) (f : Eff), fs[j]? = some f → L (k + j) ≠ L' (k + j) → id ∉ f.us.map (·.1)) → getH (runH L k fs h) id = getH (runH L' k fs h') id
  | [], _, _, _, he, _ => he
  | f :: fs, k, e, e', he, h => by
    simp only [runH]
    refine runH_agree ?_ fun j g hg hne => h (j + 1) g (by simpa using hg) (by rw [show k + (j + 1) = k + 1 + j by omega]; exact hne)
    have h0 := h 0 f (by simp)
    simp only [Nat.add_zero] at h0
    cases h1 : L k <;> cases h2 : L' k <;> simp only [if_true, if_false, Bool.false_eq_true]
    · exact he
    · rw [updH_out (h0 (by rw [h1, h2]; simp))]; exact he
    · rw [updH_out (h0 (by rw [h1, h2]; simp))]; exact he
    · exact updH_ext he

/-- one operation more has been carried out -/
theorem runE_add {L L' : Nat → Bool} {t : Nat} : ∀ {fs : List Eff} {k i : Nat} {e : Env} {f : Eff}, fs[i]? = some f → L (k + i) = false → L' (k + i) = true → (∀ j, j ≠ i → L' (k + j) = L (k + j)) →
    (∀ (j : Nat) (g : Eff), i < j → fs[j]? = some g → L (k + j) = true → f.dst = some t → g.dst ≠ some t) → getE (runE L' k fs e) t = if f.dst = some t then f.d else getE (runE L k fs e) t
  | [], _, _, _, _, hi, _, _, _, _ => by simp at hi
  | f0 :: fs, k, 0, e, f, hi, h1, h2, h3, h4 => by
    simp only [List.getElem?_cons_zero, Option.some.injEq] at hi
    subst hi
    simp only [Nat.add_zero] at h1 h2
    simp only [runE, h1, h2, if_true, if_false, Bool.false_eq_true]
    have hsame : ∀ j, L' (k + 1 + j) = L (k + 1 + j) := fun j => by
      have := h3 (j + 1) (by omega)
      rw [show k + 1 + j = k + (j + 1) by omega]
      exact this
    by_cases hd : f0.dst = some t
    · rw [if_pos hd]
      have : ∀ {fs : List Eff} {k : Nat} {e : Env}, (∀ (j : Nat) (g : Eff), fs[j]? = some g → L' (k + j) = true → g.dst ≠ some t) → getE (runE L' k fs e) t = getE e t := by
        intro fs
        induction fs with
        | nil => intros; rfl
        | cons g fs ih =>
          intro k e h
          simp only [runE]
          rw [ih fun j g' hg hl => h (j + 1) g' (by simpa using hg) (by rw [show k + (j + 1) = k + 1 + j by omega]; exact hl)]
          cases hl : L' k
          · simp
          · simp only [if_true, getE_putE]
            rw [if_neg (h 0 g (by simp) (by simpa using hl))]
      rw [this fun j g hg hl => h4 (j + 1) g (by omega) (by simpa using hg) (by rw [show k + (j + 1) = k + 1 + j by omega, ← hsame]; exact hl) hd]
      simp [getE_putE, hd]
    · rw [if_neg hd]
      refine runE_agree (by simp [getE_putE, hd]) fun j g _ hne => absurd (hsame j) hne
  | f0 :: fs, k, i + 1, e, f, hi, h1, h2, h3, h4 => by
    simp only [List.getElem?_cons_succ] at hi
    have h0 : L' k = L k := by simpa using h3 0 (by omega)
    simp only [runE, h0]
    exact runE_add hi (by rw [show k + 1 + i = k + (i + 1) by omega]; exact h1) (by rw [show k + 1 + i = k + (i + 1) by omega]; exact h2)
      (fun j hj => by rw [show k + 1 + j = k + (j + 1) by omega]; exact h3 (j + 1) (by omega))
      (fun j g hj hg hl hd => h4 (j + 1) g (by omega) (by simpa using hg) (by rw [show k + (j + 1) = k + 1 + j by omega]; exact hl) hd)

theorem runH_add {L L' : Nat → Bool} {id : Nat} : ∀ {fs : List Eff} {k i : Nat} {h : Heap} {f : Eff}, fs[i]? = some f → L (k + i) = false → L' (k + i) = true → (∀ j, j ≠ i → L' (k + j) = L (k + j)) →
    (∀ (j : Nat) (g : Eff), i < j → fs[j]? = some g → L (k + j) = true → id ∈ f.us.map (·.1) → id ∉ g.us.map (·.1)) → getH (runH L' k fs h) id = getH (updH (runH L k fs h) f.us) id
  | [], _, _, _, _, hi, _, _, _, _ => by simp at hi
  | f0 :: fs, k, 0, e, f, hi, h1, h2, h3, h4 => by
    simp only [List.getElem?_cons_zero, Option.some.injEq] at hi
    subst hi
    simp only [Nat.add_zero] at h1 h2
    simp only [runH, h1, h2, if_true, if_false, Bool.false_eq_true]
    have hsame : ∀ j, L' (k + 1 + j) = L (k + 1 + j) := fun j => by
      have := h3 (j + 1) (by omega)
      rw [show k + 1 + j = k + (j + 1) by omega]
      exact this
    by_cases hd : id ∈ f0.us.map (·.1)
    · have : ∀ {fs : List Eff} {k : Nat} {e : Heap}, (∀ (j : Nat) (g : Eff), fs[j]? = some g → L' (k + j) = true → id ∉ g.us.map (·.1)) → getH (runH L' k fs e) id = getH e id := by
        intro fs
        induction fs with
        | nil => intros; rfl
        | cons g fs ih =>
          intro k e h
          simp only [runH]
          rw [ih fun j g' hg hl => h (j + 1) g' (by simpa using hg) (by rw [show k + (j + 1) = k + 1 + j by omega]; exact hl)]
          cases hl : L' k
          · simp
          · simp only [if_true]
            rw [updH_out (h 0 g (by simp) (by simpa using hl))]
      rw [this fun j g hg hl => h4 (j + 1) g (by omega) (by simpa using hg) (by rw [show k + (j + 1) = k + 1 + j by omega, ← hsame]; exact hl) hd]
      exact updH_in hd
    · rw [updH_out hd]
      refine runH_agree (updH_out hd) fun j g _ hne => absurd (hsame j) hne
  | f0 :: fs, k, i + 1, e, f, hi, h1, h2, h3, h4 => by
    simp only [List.getElem?_cons_succ] at hi
    have h0 : L' k = L k := by simpa using h3 0 (by omega)
    simp only [runH, h0]
    exact runH_add hi (by rw [show k + 1 + i = k + (i + 1) by omega]; exact h1) (by rw [show k + 1 + i = k + (i + 1) by omega]; exact h2)
      (fun j hj => by rw [show k + 1 + j = k + (j + 1) by omega]; exact h3 (j + 1) (by omega))
      (fun j g hj hg hl hd => h4 (j + 1) g (by omega) (by simpa using hg) (by rw [show k + (j + 1) = k + 1 + j by omega]; exact hl) hd)

/- ### who waits for whom -/

/-- all that an operation waits for directly is in L -/
def EdgesIn (L : Nat → Bool) (o : Oper) : Prop := ∀ e ∈ o.after.toList, Region.binds .any e = true → L e.on = true

theorem waits_len : ∀ (l : List Oper) (acc : List Nat), (waits acc l).length = acc.length + l.length
  | [], _ => rfl
  | o :: l, acc => by simp only [waits]; rw [waits_len l]; simp; omega

theorem waitsOf_bit {acc : List Nat} {x : Nat} : ∀ (es : List Edge), (waitsOf acc es).testBit x = true → ∃ e ∈ es, Region.binds .any e = true ∧ (x = e.on ∨ (acc.getD e.on 0).testBit x = true)
  | [], h => by simp [waitsOf] at h
  | e :: es, h => by
    simp only [waitsOf] at h
    split at h
    · rename_i hb
      simp only [Nat.testBit_or, Bool.or_eq_true] at h
      rcases h with (h | h) | h
      · rw [Nat.one_shiftLeft, Nat.testBit_two_pow] at h
        exact ⟨e, by simp, hb, .inl (Eq.symm (by simpa using h))⟩
      · exact ⟨e, by simp, hb, .inr h⟩
      · obtain ⟨e', h1, h2⟩ := waitsOf_bit es h
        exact ⟨e', by simp [h1], h2⟩
    · obtain ⟨e', h1, h2⟩ := waitsOf_bit es h
      exact ⟨e', by simp [h1], h2⟩

theorem waits_ok {L : Nat → Bool} {ops : List Oper} (hcl : ∀ (j : Nat) (o : Oper), ops[j]? = some o → L j = true → EdgesIn L o) :
    ∀ (l : List Oper) (acc : List Nat), (∀ j : Nat, l[j]? = ops[acc.length + j]?) → (∀ (j : Nat) (b : Nat) (o : Oper), acc[j]? = some b → ops[j]? = some o → EdgesIn L o → ∀ x, b.testBit x = true → L x = true) →
      ∀ (j : Nat) (b : Nat) (o : Oper), (waits acc l)[j]? = some b → ops[j]? = some o → EdgesIn L o → ∀ x, b.testBit x = true → L x = true
  | [], acc, _, h => h
  | p :: l, acc, hl, h => by
    simp only [waits]
    refine waits_ok hcl l _ (fun j => ?_) fun j b o hb ho he x hx => ?_
    · have := hl (j + 1)
      simp only [List.getElem?_cons_succ] at this
      rw [this]
      simp
      congr 1
      omega
    · rcases Nat.lt_or_ge j acc.length with hj | hj
      · rw [List.getElem?_append_left hj] at hb
        exact h j b o hb ho he x hx
      · rw [List.getElem?_append_right hj] at hb
        have hj0 : j = acc.length := by
          have := (List.getElem?_eq_some_iff.1 hb).1
          simp at this
          omega
        subst hj0
        have hp : ops[acc.length]? = some p := by have := hl 0; simpa using this.symm
        have : o = p := by rw [hp] at ho; exact (Option.some.inj ho).symm
        subst this
        simp at hb
        subst hb
        obtain ⟨e, he1, hbd, hx⟩ := waitsOf_bit _ hx
        have hon := he e he1 hbd
        rcases hx with rfl | hx
        · exact hon
        · cases hg : acc[e.on]? with
          | none => simp [hg] at hx
          | some b' =>
            simp [hg] at hx
            have hlt : e.on < acc.length := (List.getElem?_eq_some_iff.1 hg).1
            cases ho' : ops[e.on]? with
            | none =>
              have h1 : acc.length < ops.length := (List.getElem?_eq_some_iff.1 hp).1
              simp at ho'
              omega
            | some o' => exact h e.on b' o' hg ho' (hcl e.on o' ho' hon) x hx

/-- j does not wait for i -/
def Free (ws : List Nat) (i j : Nat) : Prop := i < j ∧ ∃ m, ws[j]? = some m ∧ m.testBit i = false

theorem freeOf_mem {bs : List Nat} {i j : Nat} (hij : i < j) (hj : j < bs.length) (h : ∀ b : Nat, bs[j]? = some b → ¬ b.testBit i = true) : Free bs i j := by
  have hb : bs[j]? = some bs[j] := List.getElem?_eq_getElem hj
  have := h _ hb
  exact ⟨hij, _, hb, by simpa using this⟩

theorem okRow_mem {m : Nat} {b : Trace} : ∀ {l : List Trace} {q : Nat}, okRow m b q l = true → ∀ {i : Nat} {a : Trace}, l[i]? = some a → m.testBit (q + i) = false → clash a b = false
  | [], _, _, i, a, ha, _ => by simp at ha
  | x :: l, q, h, i, a, ha, hm => by
    simp only [okRow, Bool.and_eq_true, Bool.or_eq_true] at h
    cases i with
    | zero =>
      simp only [List.getElem?_cons_zero, Option.some.injEq] at ha
      subst ha
      rcases h.1 with h1 | h1
      · rw [Nat.add_zero] at hm; rw [hm] at h1; cases h1
      · simpa using h1
    | succ i =>
      simp only [List.getElem?_cons_succ] at ha
      exact okRow_mem h.2 ha (by rw [show q + 1 + i = q + (i + 1) by omega]; exact hm)

theorem drawFrom_mem : ∀ {ts : List Trace} {ws : List Nat} {pre : List Trace}, drawFrom pre ts ws = true → ∀ {i j m : Nat} {a b : Trace}, ts[j]? = some b → ws[j]? = some m → (pre ++ ts)[i]? = some a → i < pre.length + j → m.testBit i = false → clash a b = false
  | [], _, _, _, _, j, _, _, _, hb, _, _, _, _ => by simp at hb
  | x :: ts, [], _, h, _, _, _, _, _, _, _, _, _, _ => by simp [drawFrom] at h
  | x :: ts, w :: ws, pre, h, i, j, m, a, b, hb, hw, ha, hi, hm => by
    simp only [drawFrom, Bool.and_eq_true] at h
    cases j with
    | zero =>
      simp only [List.getElem?_cons_zero, Option.some.injEq] at hb hw
      subst hb hw
      rw [List.getElem?_append_left (by omega)] at ha
      exact okRow_mem h.1 ha (by rw [Nat.zero_add]; exact hm)
    | succ j =>
      simp only [List.getElem?_cons_succ] at hb hw
      exact drawFrom_mem h.2 hb hw (by simpa using ha) (by simp; omega) hm

theorem drawOk_mem {ts : List Trace} {ws : List Nat} (h : drawOk ts ws = true) {i j : Nat} (hm : Free ws i j) {a b : Trace} (ha : ts[i]? = some a) (hb : ts[j]? = some b) : clash a b = false := by
  obtain ⟨hij, m, hw, hmi⟩ := hm
  exact drawFrom_mem h hb hw (by simpa using ha) (by simpa using hij) hmi

theorem meets_false {a b : List Nat} (h : meets a b = false) {x : Nat} (hx : x ∈ a) : x ∉ b := by
  unfold meets at h
  intro hb
  have := List.any_eq_false.1 h x hx
  simp [hb] at this

theorem clash_false {a b : Trace} (h : clash a b = false) : (∀ t, t ∈ a.wrT → t ∉ b.rdT ∧ t ∉ b.wrT) ∧ (∀ t, t ∈ b.wrT → t ∉ a.rdT) ∧ (∀ t, t ∈ a.wrH → t ∉ b.rdH ∧ t ∉ b.wrH) ∧ (∀ t, t ∈ b.wrH → t ∉ a.rdH) := by
  unfold clash at h
  simp only [Bool.or_eq_false_iff] at h
  obtain ⟨⟨⟨h1, h2⟩, h3⟩, h4⟩ := h
  refine ⟨fun t ht => ?_, fun t ht => meets_false h2 ht, fun t ht => ?_, fun t ht => meets_false h4 ht⟩
  · have := meets_false h1 ht; simp at this; exact this
  · have := meets_false h3 ht; simp at this; exact this

section
variable {B : Nat} {S : Nat → Nat → Prop} {P : Program} {o : Oper} {a : Act} {m : M} {shF : Nat → Nat} {nt : Nat} {w0 : World} {call : Callee}

/-- the evaluator's heap matters by what it holds alone -/
theorem heap_ext_evolves {m : M} {h : Heap} (hh : ∀ id, getH h id = getH m.h id) : Evolves B S m (m.heap h) where
  cell b q u h1 h2 := ⟨h1, h2.1, fun id => by show match getH h id with | .dead => True | .box _ => m.β id ≠ b | .arr _ _ fz _ => m.β id = b → q < fz | .rows _ _ _ => m.β id ≠ b; rw [hh]; exact h2.2 id⟩
  used _ hu := hu
  dead id _ hd := by show getH h id = .dead; rw [hh]; exact hd
  at_ _ _ := rfl
  kind id f _ hk := ⟨by rw [← hh]; exact hk, rfl⟩
  rest b _ _ hn := ⟨rfl, fun id hd => hn id (by rw [← hh]; exact hd)⟩

theorem heap_ext_hok {m : M} (hk : HOK B S m) {h : Heap} (hh : ∀ id, getH h id = getH m.h id) : HOK B S (m.heap h) := by
  have hev := heap_ext_evolves (B := B) (S := S) hh
  refine ⟨fun id => ?_, fun i j hi hj he => ?_, fun id hu => ?_, hk.base, hk.fresh, fun id f hg => hk.arrS id f (by rw [← hh]; exact hg)⟩
  · unfold RepO
    show RepOb B S _ (m.β id) (getH h id)
    rw [hh]
    exact hev.repOb rfl (hk.obj id)
  · exact hk.inj i j (by rw [← hh]; exact hi) (by rw [← hh]; exact hj) he
  · show getH h id = .dead
    rw [hh]; exact hk.dom id hu

theorem Rel.ext {e e' : Env} (hr : Rel B S w0 nt m e a) (h : ∀ t, getE e' t = getE e t) : Rel B S w0 nt m e' a :=
  ⟨hr.defers, hr.size, fun t => by rw [h]; exact hr.env t, hr.hok, hr.below⟩

theorem compInsts_get {ops : Array Oper} : ∀ {l : List Oper} {is : List Inst}, compInsts P shF nt ops l = some is → l.length = is.length ∧ ∀ (i : Nat) (o : Oper), l[i]? = some o → ∃ inst : Inst, is[i]? = some inst ∧ compInst P shF nt ops o = some inst
  | [], is, h => by simp only [compInsts, Option.some.injEq] at h; subst h; exact ⟨rfl, by simp⟩
  | p :: l, is, h => by
    simp only [compInsts, Option.bind_eq_bind, Option.bind_eq_some_iff, Option.some.injEq] at h
    obtain ⟨i, h1, is', h2, rfl⟩ := h
    obtain ⟨h3, h4⟩ := compInsts_get h2
    refine ⟨by simp [h3], fun k o hk => ?_⟩
    cases k with
    | zero => simp at hk; subst hk; exact ⟨i, by simp, h1⟩
    | succ k => simp at hk; obtain ⟨inst, h5, h6⟩ := h4 k o hk; exact ⟨inst, by simpa using h5, h6⟩

theorem noShared_get : ∀ {is : List Inst}, noShared is = true → ∀ (i : Nat) (inst : Inst), is[i]? = some inst → (∀ f ow xs, inst.ins ≠ .callS f ow xs) ∧ ∀ x xs, inst.ins ≠ .callV x xs
  | [], _, i, inst, hi => by simp at hi
  | p :: is, h, i, inst, hi => by
    simp only [noShared, Bool.and_eq_true] at h
    cases i with
    | zero => simp at hi; subst hi; exact ⟨fun f ow xs he => by rw [he] at h; simp at h, fun f xs he => by rw [he] at h; simp at h⟩
    | succ i => simp at hi; exact noShared_get h.2 i inst hi

theorem downB_get : ∀ {l : List Oper} {k : Nat}, downB k l = true → ∀ (i : Nat) (o : Oper), l[i]? = some o → ∀ e ∈ o.after.toList, Region.binds .any e = true → e.on < k + i
  | [], _, _, i, o, hi => by simp at hi
  | p :: l, k, h, i, o, hi => by
    simp only [downB, Bool.and_eq_true] at h
    cases i with
    | zero =>
      simp at hi; subst hi
      intro e he hb
      have := List.all_eq_true.1 h.1 e he
      simp [hb] at this
      omega
    | succ i =>
      simp at hi
      intro e he hb
      have := downB_get h.2 i o hi e he hb
      omega

theorem mem_ready' {ops : Array Oper} {listed : Array Bool} {i : Nat} (h : i ∈ Region.ready .any ops listed) : i < ops.size ∧ listed.getD i true = false ∧ ∃ o, ops[i]? = some o ∧ ∀ e ∈ o.after.toList, Region.binds .any e = true → listed.getD e.on false = true := by
  unfold Region.ready at h
  simp only [List.mem_filter, List.mem_range, Bool.and_eq_true, Bool.not_eq_true'] at h
  obtain ⟨h1, h2, h3⟩ := h
  refine ⟨h1, h2, ?_⟩
  cases ho : ops[i]? with
  | none => simp [ho] at h3
  | some o =>
    simp only [ho, Option.map_some, Option.getD_some, Array.all_eq_true_iff_forall_mem] at h3
    refine ⟨o, rfl, fun e he hb => ?_⟩
    have := h3 e (by simpa using he)
    simpa [hb] using this

theorem ready_of {ops : Array Oper} {listed : Array Bool} {i : Nat} {o : Oper} (ho : ops[i]? = some o) (h2 : listed.getD i true = false) (h3 : ∀ e ∈ o.after.toList, Region.binds .any e = true → listed.getD e.on false = true) : i ∈ Region.ready .any ops listed := by
  unfold Region.ready
  simp only [List.mem_filter, List.mem_range, Bool.and_eq_true, Bool.not_eq_true']
  refine ⟨(Array.getElem?_eq_some_iff.1 ho).1, h2, ?_⟩
  simp only [ho, Option.map_some, Option.getD_some, Array.all_eq_true_iff_forall_mem]
  intro e he
  cases hb : Region.binds .any e with
  | false => simp
  | true => simpa [hb] using h3 e (by simpa using he) hb

structure DInv (B : Nat) (S : Nat → Nat → Prop) (w0 : World) (nt : Nat) (ops : Array Oper) (fs : List Eff) (nx : Nat) (e : Env) (h : Heap) (m0 : M) (listed : Array Bool) (a : Act) (m : M) : Prop where
  size : listed.size = ops.size
  closed : ∀ (j : Nat) (o : Oper), ops[j]? = some o → listed.getD j false = true → EdgesIn (fun j => listed.getD j false) o
  heap : ∀ id, getH m.h id = getH (runH (fun j => listed.getD j false) 0 fs h) id
  used : ∀ i, m.U i ↔ i < nx ∨ ∃ k, listed.getD k false = true ∧ i = nx + k
  rel : Rel B S w0 nt m (runE (fun j => listed.getD j false) 0 fs e) a
  ev : Evolves B S m0 m

theorem getD_set_eq {listed : Array Bool} {i : Nat} (hi : i < listed.size) : (listed.setIfInBounds i true).getD i false = true := by simp [hi]
theorem getD_set_ne' {listed : Array Bool} {i j : Nat} (h : j ≠ i) : (listed.setIfInBounds i true).getD j false = listed.getD j false := by simp [Array.getElem?_setIfInBounds_ne (Ne.symm h)]

theorem getD_tf {listed : Array Bool} {i : Nat} (h : listed.getD i true = false) : listed.getD i false = false := by
  rcases Nat.lt_or_ge i listed.size with h' | h'
  · simp [h'] at h ⊢; exact h
  · simp [Array.getElem?_eq_none h'] at h
theorem getD_ft {listed : Array Bool} {i : Nat} (hi : i < listed.size) (h : listed.getD i false = false) : listed.getD i true = false := by
  simp [hi] at h ⊢; exact h

theorem any_ok {ops : Array Oper} {is : List Inst} {fs : List Eff} {nx : Nat} {e : Env} {h : Heap} {m0 : M} {Q : Exit → Act → World → Prop} (hcall : ∀ f vs rs, call f vs = some rs → FnOK P f vs rs)
    (hc : compInsts P shF nt ops ops.toList = some is) (hns : noShared is = true) (hdown : downB 0 ops.toList = true) (hran : Ran call nx 0 is e h fs) (hok : drawOk (fs.map (·.tr)) (waits [] ops.toList) = true)
    (hK : ∀ (a' : Act) (m' : M), (∀ id, getH m'.h id = getH (runH (fun _ => true) 0 fs h) id) → UIs m' (nx + ops.size) → Evolves B S m0 m' → Rel B S w0 nt m' (runE (fun _ => true) 0 fs e) a' → Q .normal a' m'.w) :
    ∀ (n : Nat) (listed : Array Bool) (a : Act) (m : M), DInv B S w0 nt ops fs nx e h m0 listed a m → (∃ l : List Nat, l.length = n ∧ l.Nodup ∧ ∀ i, i ∈ l ↔ i < ops.size ∧ listed.getD i false = false) → wpAny P .any ops Q n listed a m.w := by
  obtain ⟨hlen, hget⟩ := compInsts_get hc
  have hlen' : ops.size = is.length := by rw [← hlen]; simp
  have hfl : ∀ {k : Nat} {is : List Inst} {e : Env} {h : Heap} {fs : List Eff}, Ran call nx k is e h fs → fs.length = is.length := by
    intro k is
    induction is generalizing k with
    | nil => intro e h fs hr; cases fs with | nil => rfl | cons _ _ => exact hr.elim
    | cons i is ih => intro e h fs hr; cases fs with | nil => exact hr.elim | cons f fs => simp [ih hr.2]
  have hfs : fs.length = ops.size := by rw [hfl hran, hlen']
  have finish : ∀ (listed : Array Bool) (a : Act) (m : M), DInv B S w0 nt ops fs nx e h m0 listed a m → (∀ i, i < ops.size → listed.getD i false = true) → Q .normal a m.w := by
    intro listed a m inv hall
    have hE : ∀ t, getE (runE (fun _ => true) 0 fs e) t = getE (runE (fun j => listed.getD j false) 0 fs e) t := fun t => runE_agree rfl fun j f hf hne => by
      exfalso
      have hj : j < ops.size := by rw [← hfs]; exact (List.getElem?_eq_some_iff.1 hf).1
      simp only [Nat.zero_add] at hne
      rw [hall j hj] at hne
      exact hne rfl
    have hH : ∀ id, getH m.h id = getH (runH (fun _ => true) 0 fs h) id := fun id => by
      rw [inv.heap]
      exact runH_agree rfl fun j f hf hne => by
        exfalso
        have hj : j < ops.size := by rw [← hfs]; exact (List.getElem?_eq_some_iff.1 hf).1
        simp only [Nat.zero_add] at hne
        rw [hall j hj] at hne
        exact hne rfl
    refine hK a m hH (fun i => ?_) inv.ev (inv.rel.ext hE)
    rw [inv.used]
    constructor
    · rintro (h1 | ⟨k, h1, rfl⟩)
      · omega
      · have : k < listed.size := by
          rcases Nat.lt_or_ge k listed.size with h2 | h2
          · exact h2
          · simp [Array.getElem?_eq_none h2] at h1
        rw [inv.size] at this
        omega
    · intro h1
      by_cases h2 : i < nx
      · exact .inl h2
      · exact .inr ⟨i - nx, hall _ (by omega), by omega⟩
  intro n
  induction n with
  | zero =>
    rintro listed a m inv ⟨l, hl1, _, hl2⟩
    have hl0 : l = [] := List.eq_nil_of_length_eq_zero hl1
    subst hl0
    have hall : ∀ i, i < ops.size → listed.getD i false = true := fun i hi => by
      cases hb : listed.getD i false with
      | true => rfl
      | false => have := (hl2 i).2 ⟨hi, hb⟩; cases this
    refine ⟨?_, finish listed a m inv hall⟩
    cases hr : Region.ready .any ops listed with
    | nil => rfl
    | cons i r =>
      have hi : i ∈ Region.ready .any ops listed := by rw [hr]; simp
      obtain ⟨h1, h2, _⟩ := mem_ready' hi
      have := hall i h1
      rw [getD_tf h2] at this
      cases this
  | succ n ih =>
    rintro listed a m inv ⟨l, hl1, hl2, hl3⟩
    refine ⟨fun hnone => finish listed a m inv fun i hi => ?_, fun i hi => ?_⟩
    · -- the least one that has not been carried out would be ready
      cases hb : listed.getD i false with
      | true => rfl
      | false =>
        exfalso
        have key : ∀ k, ∀ i, i ≤ k → i < ops.size → listed.getD i false = false → ∃ j, j ∈ Region.ready .any ops listed := by
          intro k
          induction k with
          | zero =>
            intro i hik his hib
            have hi0 : i = 0 := by omega
            subst hi0
            have ho : ops[0]? = some ops[0] := Array.getElem?_eq_getElem his
            refine ⟨0, ready_of ho (getD_ft (by rw [inv.size]; exact his) hib) fun e he hbd => ?_⟩
            have := downB_get hdown 0 ops[0] (by simp) e he hbd
            omega
          | succ k ihk =>
            intro i hik his hib
            have ho : ops[i]? = some ops[i] := Array.getElem?_eq_getElem his
            by_cases hed : ∀ e ∈ ops[i].after.toList, Region.binds .any e = true → listed.getD e.on false = true
            · exact ⟨i, ready_of ho (getD_ft (by rw [inv.size]; exact his) hib) hed⟩
            · have : ∃ e, e ∈ ops[i].after.toList ∧ Region.binds .any e = true ∧ listed.getD e.on false = false := by
                apply Classical.byContradiction
                intro hno
                apply hed
                intro e he hbd
                cases hq : listed.getD e.on false with
                | true => rfl
                | false => exact absurd ⟨e, he, hbd, hq⟩ hno
              obtain ⟨e, he, hbd, hq⟩ := this
              have hlt := downB_get hdown i ops[i] (by simp) e he hbd
              exact ihk e.on (by omega) (by omega) hq
        obtain ⟨j, hj⟩ := key i i (Nat.le_refl _) hi hb
        rw [hnone] at hj
        cases hj
    · obtain ⟨hi1, hi2, o, ho, hedge⟩ := mem_ready' hi
      have hif := getD_tf hi2
      have ho' : ops.toList[i]? = some o := by simpa using ho
      obtain ⟨inst, hinst, hcomp⟩ := hget i o ho'
      obtain ⟨f, hf, hdid⟩ := Ran.at hran hinst
      simp only [Nat.zero_add] at hdid
      obtain ⟨hdst, hdid⟩ := hdid
      -- who is free of whom
      have hbs : ∀ (j : Nat) (b : Nat) (o : Oper), (waits [] ops.toList)[j]? = some b → ops.toList[j]? = some o → EdgesIn (fun j => listed.getD j false) o → ∀ x, b.testBit x = true → listed.getD x false = true :=
        waits_ok (L := fun j => listed.getD j false) (fun j o hj hl => inv.closed j o (by simpa using hj) hl) ops.toList [] (by simp) (by simp)
      have hwl : (waits [] ops.toList).length = ops.size := by rw [waits_len]; simp
      have free1 : ∀ j, j < i → listed.getD j false = false → Free (waits [] ops.toList) j i := fun j hji hj =>
        freeOf_mem hji (by rw [hwl]; exact hi1) fun b hb hm => by
          have := hbs i b o hb ho' hedge j hm
          rw [hj] at this; cases this
      have free2 : ∀ j, i < j → listed.getD j false = true → Free (waits [] ops.toList) i j := fun j hij hj => by
        have hjs : j < ops.size := by
          rcases Nat.lt_or_ge j listed.size with h2 | h2
          · rw [← inv.size]; exact h2
          · simp [Array.getElem?_eq_none h2] at hj
        refine freeOf_mem hij (by rw [hwl]; exact hjs) fun b hb hm => ?_
        have hoj : ops[j]? = some ops[j] := Array.getElem?_eq_getElem hjs
        have := hbs j b ops[j] hb (by simp) (inv.closed j _ hoj hj) i hm
        rw [hif] at this; cases this
      have htr : ∀ (j : Nat) (g : Eff), fs[j]? = some g → (fs.map (·.tr))[j]? = some g.tr := fun j g hg => by simp [hg]
      -- of an operation that differs between the two sets nothing is read
      have hdsts : ∀ (j : Nat) (g : Eff), fs[j]? = some g → g.tr.wrT = g.dst.toList ∧ g.tr.wrH = g.us.map (·.1) := fun j g hg => by
        have hjl : j < is.length := by rw [← hlen', ← hfs]; exact (List.getElem?_eq_some_iff.1 hg).1
        obtain ⟨g', hg', hd'⟩ := Ran.at hran (List.getElem?_eq_getElem hjl)
        rw [hg] at hg'
        simp only [Option.some.injEq] at hg'
        subst hg'
        obtain ⟨hd1, hd2⟩ := hd'
        rcases hd2 with ⟨_, _, h3⟩ | ⟨_, _, h2, h3⟩
        · rw [h3, hd1]; exact ⟨rfl, rfl⟩
        · rw [h3, hd1, h2]; exact ⟨rfl, rfl⟩
      have far : ∀ (j : Nat) (g : Eff), fs[j]? = some g → listed.getD j false ≠ decide (j < i) → (∀ t, t ∈ g.tr.wrT → t ∉ f.tr.rdT) ∧ (∀ t, t ∈ g.tr.wrH → t ∉ f.tr.rdH) := fun j g hg hne => by
        rcases Nat.lt_trichotomy j i with hlt | heq | hgt
        · have hj : listed.getD j false = false := by
            cases hb : listed.getD j false with
            | false => rfl
            | true => rw [hb] at hne; simp [hlt] at hne
          have hcl := clash_false (drawOk_mem hok (free1 j hlt hj) (htr j g hg) (htr i f hf))
          exact ⟨fun t ht => (hcl.1 t ht).1, fun t ht => (hcl.2.2.1 t ht).1⟩
        · subst heq; rw [hif] at hne; simp at hne
        · have hj : listed.getD j false = true := by
            cases hb : listed.getD j false with
            | true => rfl
            | false => rw [hb] at hne; simp at hne; omega
          have hcl := clash_false (drawOk_mem hok (free2 j hgt hj) (htr i f hf) (htr j g hg))
          exact ⟨hcl.2.1, hcl.2.2.2⟩
      have agE : ∀ t, t ∈ f.tr.rdT → getE (runE (fun j => listed.getD j false) 0 fs e) t = getE (runE (fun j => decide (j < i)) 0 fs e) t := fun t ht =>
        runE_agree rfl fun j g hg hne hd => by
          simp only [Nat.zero_add] at hne
          have := (far j g hg hne).1 t (by rw [(hdsts j g hg).1, hd]; simp)
          exact this ht
      have agH : ∀ id, id ∈ f.tr.rdH → getH m.h id = getH (runH (fun j => decide (j < i)) 0 fs h) id := fun id hid => by
        rw [inv.heap]
        exact runH_agree rfl fun j g hg hne hd => by
          simp only [Nat.zero_add] at hne
          have := (far j g hg hne).2 id (by rw [(hdsts j g hg).2]; exact hd)
          exact this hid
      -- what comes behind
      have hsetn : ∀ j, j ≠ i → (listed.setIfInBounds i true).getD j false = listed.getD j false := fun j hj => getD_set_ne' hj
      have hsets : (listed.setIfInBounds i true).getD i false = true := getD_set_eq (by rw [inv.size]; exact hi1)
      have nextE : ∀ t, getE (runE (fun j => (listed.setIfInBounds i true).getD j false) 0 fs e) t = getE (putE (runE (fun j => listed.getD j false) 0 fs e) f.dst f.d) t := fun t => by
        rw [getE_putE]
        exact runE_add (L := fun j => listed.getD j false) (L' := fun j => (listed.setIfInBounds i true).getD j false) hf (by simpa using hif) (by simpa using hsets) (fun j hj => by simpa using hsetn j hj) fun j g hij hg hl hd hgd => by
          simp only [Nat.zero_add] at hl
          have hcl := clash_false (drawOk_mem hok (free2 j hij hl) (htr i f hf) (htr j g hg))
          exact (hcl.1 t (by rw [(hdsts i f hf).1, hd]; simp)).2 (by rw [(hdsts j g hg).1, hgd]; simp)
      have nextH : ∀ (hp : Heap), (∀ id, getH hp id = getH (runH (fun j => listed.getD j false) 0 fs h) id) → ∀ id, getH (updH hp f.us) id = getH (runH (fun j => (listed.setIfInBounds i true).getD j false) 0 fs h) id := fun hp hhp id => by
        rw [runH_add (L := fun j => listed.getD j false) (L' := fun j => (listed.setIfInBounds i true).getD j false) hf (by simpa using hif) (by simpa using hsets) (fun j hj => by simpa using hsetn j hj) fun j g hij hg hl hd hgd => by
          simp only [Nat.zero_add] at hl
          have hcl := clash_false (drawOk_mem hok (free2 j hij hl) (htr i f hf) (htr j g hg))
          exact (hcl.2.2.1 id (by rw [(hdsts i f hf).2]; exact hd)).2 (by rw [(hdsts j g hg).2]; exact hgd)]
        exact updH_ext (hhp id)
      have hclosed' : ∀ (j : Nat) (o : Oper), ops[j]? = some o → (listed.setIfInBounds i true).getD j false = true → EdgesIn (fun j => (listed.setIfInBounds i true).getD j false) o := by
        intro j oj hoj hl e he hbd
        have hmono : ∀ k, listed.getD k false = true → (listed.setIfInBounds i true).getD k false = true := fun k hk => by
          by_cases hki : k = i
          · subst hki; exact hsets
          · rw [hsetn k hki]; exact hk
        by_cases hji : j = i
        · subst hji
          rw [ho] at hoj
          simp only [Option.some.injEq] at hoj
          subst hoj
          exact hmono _ (hedge e he hbd)
        · rw [hsetn j hji] at hl
          exact hmono _ (inv.closed j oj hoj hl e he hbd)
      have hcount : ∃ l' : List Nat, l'.length = n ∧ l'.Nodup ∧ ∀ j, j ∈ l' ↔ j < ops.size ∧ (listed.setIfInBounds i true).getD j false = false := by
        have hil : i ∈ l := (hl3 i).2 ⟨hi1, hif⟩
        refine ⟨l.erase i, by rw [List.length_erase_of_mem hil, hl1]; omega, hl2.erase i, fun j => ?_⟩
        rw [hl2.mem_erase_iff, hl3]
        constructor
        · rintro ⟨h1, h2, h3⟩; exact ⟨h2, by rw [hsetn j h1]; exact h3⟩
        · rintro ⟨h1, h2⟩
          have hji : j ≠ i := fun e => by subst e; rw [hsets] at h2; cases h2
          exact ⟨hji, h1, by rw [← hsetn j hji]; exact h2⟩
      unfold wpOp
      rw [ho]
      simp only
      have hguard : wanted (runE (fun j => listed.getD j false) 0 fs e) inst.guard = wanted (runE (fun j => decide (j < i)) 0 fs e) inst.guard := by
        cases hg : inst.guard with
        | none => rfl
        | some p =>
          obtain ⟨t, want⟩ := p
          have ht : t ∈ f.tr.rdT := by
            rcases hdid with ⟨_, _, h3⟩ | ⟨_, _, _, h3⟩ <;> rw [h3, hg] <;> simp [gtOf]
          simp only [wanted, agE t ht]
      have hslot : ¬ m.U (nx + i) := by
        rw [inv.used]
        rintro (h1 | ⟨k, h1, h2⟩)
        · omega
        · have : k = i := by omega
          subst this
          rw [hif] at h1; cases h1
      have hused' : ∀ (m' : M), m'.U = (fun j => m.U j ∨ j = nx + i) → ∀ j, m'.U j ↔ j < nx ∨ ∃ k, (listed.setIfInBounds i true).getD k false = true ∧ j = nx + k := by
        intro m' hm' j
        rw [hm']
        show m.U j ∨ j = nx + i ↔ _
        rw [inv.used]
        constructor
        · rintro ((h1 | ⟨k, h1, h2⟩) | h1)
          · exact .inl h1
          · refine .inr ⟨k, ?_, h2⟩
            by_cases hki : k = i
            · subst hki; exact hsets
            · rw [hsetn k hki]; exact h1
          · exact .inr ⟨i, hsets, h1⟩
        · rintro (h1 | ⟨k, h1, h2⟩)
          · exact .inl (.inl h1)
          · by_cases hki : k = i
            · subst hki; exact .inr h2
            · rw [hsetn k hki] at h1; exact .inl (.inr ⟨k, h1, h2⟩)
      rcases hdid with ⟨hw, hst, htrf⟩ | ⟨hw, hfd, hfu, htrf⟩
      · rw [wanted_ok inv.rel hcomp (b := true) (by rw [hguard]; exact hw)]
        simp only [if_true]
        refine .inl ?_
        have hst' : stepC call (evX (runE (fun j => listed.getD j false) 0 fs e)) m.h (nx + i) inst.ins = some (f.d, f.us) := by
          rw [← hst]
          symm
          refine stepC_congr (fun x hx => ?_) (fun id hid => ?_)
          · cases x with
            | k v => rfl
            | f n => rfl
            | t n =>
              have : n ∈ f.tr.rdT := by
                rw [htrf]
                refine List.mem_append_right _ ?_
                unfold tmpsX
                exact List.mem_filterMap.2 ⟨_, hx, rfl⟩
              exact (agE n this).symm
          · exact (agH id (by rw [htrf]; exact hid)).symm
        refine inst_wp hcomp (noShared_get hns i inst hinst).1 (noShared_get hns i inst hinst).2 inv.rel hslot hcall hst' fun a' m' q1 q2 q3 q4 => ?_
        refine ih _ a' m' ⟨by simpa using inv.size, hclosed', ?_, hused' m' q2, ?_, inv.ev.trans q3⟩ hcount
        · intro id
          rw [q1]
          exact nextH m.h inv.heap id
        · rw [← hdst] at q4
          exact q4.ext nextE
      · rw [wanted_ok inv.rel hcomp (b := false) (by rw [hguard]; exact hw)]
        simp only [if_false, Bool.false_eq_true]
        obtain ⟨_, p2, p3, _⟩ := compInst_parts hcomp
        have hr2 : Rel B S w0 nt m (putE (runE (fun j => listed.getD j false) 0 fs e) f.dst f.d) (a.put o.dst undef) := by
          rw [hfd, hdst, p2]; exact inv.rel.put p3 ⟨[], rfl, trivial⟩
        have hg := grow_evolves (B := B) (S := S) m (nx + i)
        refine ih _ _ (m.grow (nx + i)) ⟨by simpa using inv.size, hclosed', ?_, hused' _ rfl, ?_, inv.ev.trans hg⟩ hcount
        · intro id
          have := nextH m.h inv.heap id
          rw [hfu] at this
          exact this
        · have hr3 : Rel B S w0 nt (m.grow (nx + i)) (putE (runE (fun j => listed.getD j false) 0 fs e) f.dst f.d) (a.put o.dst undef) := hr2.evolve hg (grow_hok hr2.hok _) (Below.refl _ _)
          exact hr3.ext nextE

theorem draw_ok {id : Nat} {ops : Array Oper} {is : List Inst} {Q : Exit → Act → World → Prop} (hm : P.follows .mixedOrders = true) (hcall : ∀ f vs rs, call f vs = some rs → FnOK P f vs rs)
    (hc : compInsts P shF nt ops ops.toList = some is) (hns : noShared is = true) (hdown : downB 0 ops.toList = true) {s : St} {m : M} {a : Act} (hh : m.h = s.heap) (hU : UIs m s.nx) (hr : Rel B S w0 nt m s.env a)
    {e' : Env} {h' : Heap} {ts : List Trace} (hev : evDraw call s.nx 0 is s.env s.heap = some (e', h', ts)) (hok : drawOk ts (waits [] ops.toList) = true)
    (hK : ∀ (a' : Act) (m' : M), m'.h = h' → UIs m' (s.nx + is.length) → Evolves B S m m' → Rel B S w0 nt m' e' a' → Q .normal a' m'.w) : (Code.region id ops true).wp P Q a m.w := by
  obtain ⟨fs, r1, r2, rfl, rfl⟩ := ran_of hev
  subst r2
  refine wp_region_any hm ?_
  have hlen : ops.size = is.length := by rw [← (compInsts_get hc).1]; simp
  have hb : ∀ k, k < m.w.heap.size → m.w.drew.heap[k]? = m.w.heap[k]? := fun _ _ => rfl
  have ev0 := world_evolves hr.hok (w' := m.w.drew) hb
  have hk0 := world_hok hr.hok (w' := m.w.drew) hb (Nat.le_refl _)
  have hr0 : Rel B S w0 nt (m.world m.w.drew) s.env a := hr.evolve ev0 hk0 ((Below.refl B m.w).drew)
  have hnone : ∀ j, (Array.replicate ops.size false).getD j false = false := by
    intro j
    rcases Nat.lt_or_ge j ops.size with h | h
    · simp [h]
    · simp [h]
  refine any_ok (w0 := w0) (m0 := m) hcall hc hns hdown r1 hok (fun a' m' q1 q2 q3 q4 => ?_) ops.size (Array.replicate ops.size false) a (m.world m.w.drew) ⟨by simp, fun j o _ hl => ?_, fun i => ?_, fun i => ?_, ?_, ev0⟩ ⟨List.range ops.size, by simp, List.nodup_range, fun i => ?_⟩
  · have e1 := heap_ext_evolves (B := B) (S := S) (m := m') (h := runH (fun _ => true) 0 fs s.heap) fun i => (q1 i).symm
    have e2 := heap_ext_hok q4.hok (h := runH (fun _ => true) 0 fs s.heap) fun i => (q1 i).symm
    exact hK a' (m'.heap (runH (fun _ => true) 0 fs s.heap)) rfl (by rw [← hlen]; exact q2) (q3.trans e1) (q4.evolve e1 e2 (Below.refl _ _))
  · rw [hnone] at hl; cases hl
  · rw [runH_none (fun j _ => hnone j)]
    show getH m.h i = _
    rw [hh]
  · show m.U i ↔ _
    rw [hU]
    constructor
    · exact .inl
    · rintro (h1 | ⟨k, h1, _⟩)
      · exact h1
      · rw [hnone] at h1; cases h1
  · rw [runE_none (fun j _ => hnone j)]; exact hr0
  · rw [hnone]; simp

end
end Go.Ez

namespace Go.Ez
open Go.RowKit

/-- the evaluator's functions are the program's -/
structure Table (P : Program) (shF : Nat → Nat) (F : Tab) : Prop where
  nat : ∀ f vs rs, F.nat f vs = some rs → FnOK P f vs rs
  ok : ∀ f I, F.code f = some I → ∃ fn, P.funcs[f]? = some fn ∧ compFn P shF fn = some I ∧ (fn.name == "runtime.NumGoroutine") = false
  mixed : P.follows .mixedOrders = true

def exOf : Ex → Exit
  | .normal => .normal
  | .exit id => .exit id
  | .ret => .ret

section
variable {P : Program} {shF : Nat → Nat} {F : Tab}

def CPost (B : Nat) (S : Nat → Nat → Prop) (w0 : World) (nt : Nat) (m : M) (s : St) (x : Ex) (s' : St) (e : Exit) (a' : Act) (w' : World) : Prop :=
  ∃ m' : M, m'.w = w' ∧ e = exOf x ∧ m'.h = s'.heap ∧ UIs m' s'.nx ∧ Rel B S w0 nt m' s'.env a' ∧ Evolves B S m m'

/-- what is said of code, of a body, of a function, up to n -/
structure Sound (P : Program) (shF : Nat → Nat) (F : Tab) (n : Nat) : Prop where
  code : ∀ (c : Code) (ic : ICode) (nt : Nat), comp P shF nt c = some ic → ∀ (B : Nat) (S : Nat → Nat → Prop) (w0 : World) (s : St) (x : Ex) (s' : St) (m : M) (a : Act),
    m.h = s.heap → UIs m s.nx → Rel B S w0 nt m s.env a → evCode F n ic s = some (x, s') → c.wp P (CPost B S w0 nt m s x s') a m.w
  loop : ∀ (cb : Code) (ib : ICode) (nt : Nat), comp P shF nt cb = some ib → ∀ (B : Nat) (S : Nat → Nat → Prop) (w0 : World) (s : St) (x : Ex) (s' : St) (m : M) (a : Act),
    m.h = s.heap → UIs m s.nx → Rel B S w0 nt m s.env a → evCode F n (.loop ib) s = some (x, s') →
      ∀ (b : Frame) (k : List Item) (cs : List Frame), ∃ e a' w', CPost B S w0 nt m s x s' e a' w' ∧ Arrives P (lone (b.at a (.code cb :: .inLoop cb :: k)) cs m.w) b k cs e a' w'
  body : ∀ (f : Nat) (ds : List D) (h : Heap) (k : Nat) (rs : List D) (h' : Heap) (nx' : Nat), evBody F n f ds h k = some (rs, h', nx') →
    Callable P f ∧ ∀ (B : Nat) (S : Nat → Nat → Prop) (m : M) (us : List Value), m.h = h → UIs m k → HOK B S m → All2 (RepD B S m) ds us →
      Calls P f us.toArray m.w fun e w' => ∃ (v : Value) (m' : M), e = .returned v ∧ m'.w = w' ∧ m'.h = h' ∧ UIs m' nx' ∧ HOK B S m' ∧ Evolves B S m m' ∧ RepD B S m' (tupD rs) v ∧ Below B m.w m'.w ∧ ∀ d, d ∈ rs → ∀ ds, d ≠ .tup ds
  fn : ∀ f vs rs, evFn F n f vs = some rs → FnOK P f vs rs

theorem compFn_parts {fn : Func} {I : IFunc} (h : compFn P shF fn = some I) :
    ∃ c ic, fn.body = some c ∧ comp P shF fn.ntmps c = some ic ∧ compRes P fn.results.toList = some I.res ∧ I.body = ic ∧ I.nparams = fn.params.size + fn.nfree ∧ fn.params.size + fn.nfree ≤ fn.ntmps := by
  unfold compFn at h
  simp only [Option.bind_eq_bind, Option.bind_eq_some_iff, Prod.exists] at h
  obtain ⟨c, h1, ic, h2, rs, h3, h4⟩ := h
  split at h4
  · rename_i hc
    simp only [Option.some.injEq] at h4
    subst h4
    exact ⟨c, ic, h1, h2, h3, rfl, rfl, hc⟩
  · cases h4

theorem resD_ok {B : Nat} {S : Nat → Nat → Prop} {w0 : World} {nt : Nat} {m : M} {e : Env} {a : Act} (hr : Rel B S w0 nt m e a) : ∀ {vars : List ResultVar} {rs : List Res} {ds : List D}, compRes P vars = some rs → resD e m.h rs = some ds →
    ∃ us : List Value, (vars.mapM (fun v => match v with | ResultVar.tmp t => (pure (a.tmps.getD t undef) : Sem Value) | ResultVar.cell x t => do loadVar t (← asAddr (a.tmps.getD x undef)))).run P m.w = .ok us m.w ∧ All2 (RepA B S m) ds us ∧ ∀ d, d ∈ ds → ∀ ds, d ≠ .tup ds
  | [], rs, ds, hc, hd => by
    simp only [compRes, Option.some.injEq] at hc
    subst hc
    simp only [resD, Option.some.injEq] at hd
    subst hd
    exact ⟨[], rfl, trivial, by simp⟩
  | .tmp t :: vars, rs, ds, hc, hd => by
    simp only [compRes, Option.bind_eq_bind, Option.bind_eq_some_iff, Option.some.injEq] at hc
    obtain ⟨rs', h1, rfl⟩ := hc
    simp only [resD, Option.bind_eq_bind, Option.bind_eq_some_iff] at hd
    obtain ⟨ds', h2, h3⟩ := hd
    obtain ⟨us, h4, h5, h6⟩ := resD_ok hr h1 h2
    have henv := hr.env t
    have hA : ∃ d, ds = d :: ds' ∧ RepA B S m d (a.tmps.getD t undef) ∧ ∀ q, d ≠ .tup q := by
      cases hg : getE e t with
      | tup q => rw [hg] at h3; cases h3
      | _ => rw [hg] at h3 henv; simp only [Option.some.injEq] at h3; exact ⟨_, h3.symm, henv, fun q h => by cases h⟩
    obtain ⟨d, rfl, hA1, hA2⟩ := hA
    refine ⟨a.tmps.getD t undef :: us, ?_, ⟨hA1, h5⟩, fun d' hd' => ?_⟩
    · simp only [List.mapM_cons, Sem.run_bind, Sem.run_pure, Result.andThen_ok, h4]
    · simp only [List.mem_cons] at hd'
      rcases hd' with rfl | hd'
      · exact hA2
      · exact h6 d' hd'
  | .cell x t :: vars, rs, ds, hc, hd => by
    simp only [compRes, Option.bind_eq_bind, Option.bind_eq_some_iff, Option.some.injEq] at hc
    obtain ⟨agg, g1, i, g2, rs', h1, rfl⟩ := hc
    simp only [resD, Option.bind_eq_bind, Option.bind_eq_some_iff, Option.some.injEq] at hd
    obtain ⟨d, h0, ds', h2, rfl⟩ := hd
    obtain ⟨us, h4, h5, h6⟩ := resD_ok hr h1 h2
    obtain ⟨ad, v, e1, e2, e3⟩ := loadD_ok hr.hok g1 g2 (hr.env x) h0
    refine ⟨v :: us, ?_, ⟨e3, h5⟩, fun d' hd' => ?_⟩
    · have hA : (asAddr (.pointer (some ad))).run P m.w = .ok ad m.w := rfl
      simp only [List.mapM_cons, Sem.run_bind, e1, hA, Sem.run_pure, Result.andThen_ok, e2, h4]
    · simp only [List.mem_cons] at hd'
      rcases hd' with rfl | hd'
      · intro q hq
        subst hq
        exact e3.elim
      · exact h6 d' hd'

theorem results_ok {B : Nat} {S : Nat → Nat → Prop} {w0 : World} {nt : Nat} {m : M} {e : Env} {a : Act} (hr : Rel B S w0 nt m e a) {fn : Func} {rs : List Res} {ds : List D} (hc : compRes P fn.results.toList = some rs) (hd : resD e m.h rs = some ds) :
    ∃ v, (results fn a.tmps).run P m.w = .ok v m.w ∧ RepD B S m (tupD ds) v ∧ ∀ d, d ∈ ds → ∀ ds, d ≠ .tup ds := by
  obtain ⟨us, h1, h2, h3⟩ := resD_ok hr hc hd
  have hrun : (fn.results.mapM (fun v => match v with | ResultVar.tmp t => (pure (a.tmps.getD t undef) : Sem Value) | ResultVar.cell x t => do loadVar t (← asAddr (a.tmps.getD x undef)))).run P m.w = .ok us.toArray m.w := by
    rw [Array.mapM_eq_mapM_toList, Sem.run_map, h1]
    rfl
  refine ⟨if h : us.toArray.size = 1 then us.toArray[0] else .tuple us.toArray, ?_, ?_, h3⟩
  · unfold results
    simp only [Sem.run_bind, Sem.run_pure]
    exact congrArg (fun r : Result (Array Value) => r.andThen fun a w' => Result.ok (if h : a.size = 1 then a[0] else Value.tuple a) w') hrun
  · match ds, us, h2 with
    | [d], [u], h2 => exact h2.1.toD
    | [], [], h2 => exact ⟨[], rfl, trivial⟩
    | d :: d' :: ds, u :: u' :: us, h2 => exact ⟨u :: u' :: us, rfl, h2⟩

theorem bindArgs_get : ∀ (ds : List D) (k t : Nat), getE (bindArgs k ds) t = if k ≤ t then (ds[t - k]?).getD .unk else .unk
  | [], k, t => by simp [bindArgs, getE]
  | d :: ds, k, t => by
    simp only [bindArgs, getE]
    by_cases h : k = t
    · subst h; simp
    · rw [if_neg h, bindArgs_get ds (k + 1) t]
      by_cases h2 : k + 1 ≤ t
      · rw [if_pos h2, if_pos (by omega), show t - k = (t - (k + 1)) + 1 by omega]
        simp
      · rw [if_neg h2, if_neg (by omega)]

theorem sound_zero : Sound P shF F 0 where
  code := by intro c ic nt _ B S w0 s x s' m a _ _ _ h; simp [evCode] at h
  loop := by intro cb ib nt _ B S w0 s x s' m a _ _ _ h; simp [evCode] at h
  body := by intro f ds h nx rs h' nx' hh; simp [evBody] at hh
  fn := by intro f vs rs hh; simp [evFn] at hh

theorem sound_loop {n : Nat} (ih : Sound P shF F n) : ∀ (cb : Code) (ib : ICode) (nt : Nat), comp P shF nt cb = some ib → ∀ (B : Nat) (S : Nat → Nat → Prop) (w0 : World) (s : St) (x : Ex) (s' : St) (m : M) (a : Act),
    m.h = s.heap → UIs m s.nx → Rel B S w0 nt m s.env a → evCode F (n + 1) (.loop ib) s = some (x, s') →
      ∀ (b : Frame) (k : List Item) (cs : List Frame), ∃ e a' w', CPost B S w0 nt m s x s' e a' w' ∧ Arrives P (lone (b.at a (.code cb :: .inLoop cb :: k)) cs m.w) b k cs e a' w' := by
  intro cb ib nt h1 B S w0 s x s' m a hh hU hr hev b k cs
  simp only [evCode, Option.bind_eq_bind, Option.bind_eq_some_iff, Prod.exists] at hev
  obtain ⟨x1, s1, h3, h4⟩ := hev
  have hbody := ih.code _ _ _ h1 B S w0 s x1 s1 m a hh hU hr h3
  obtain ⟨e1, a1, w1, hq, harr⟩ := hbody b (.inLoop cb :: k) cs
  obtain ⟨m1, rfl, rfl, q1, q2, q3, q5⟩ := hq
  cases x1 with
  | normal =>
    simp only at h4
    obtain ⟨e2, a2, w2, hq2, harr2⟩ := ih.loop cb ib nt h1 B S w0 s1 x s' m1 a1 q1 q2 q3 h4 b k cs
    obtain ⟨m2, rfl, rfl, r1, r2, r3, r5⟩ := hq2
    refine ⟨exOf x, a2, m2.w, ⟨m2, rfl, rfl, r1, r2, r3, q5.trans r5⟩, ?_⟩
    have hstart : Steps P (lone (b.at a (.code cb :: .inLoop cb :: k)) cs m.w) (lone (b.at a1 (.inLoop cb :: k)) cs m1.w) := harr
    exact .of_steps (hstart.trans (.one step_inLoop)) harr2
  | exit id =>
    simp only [Option.some.injEq, Prod.mk.injEq] at h4
    obtain ⟨rfl, rfl⟩ := h4
    exact ⟨exOf (.exit id), a1, m1.w, ⟨m1, rfl, rfl, q1, q2, q3, q5⟩, .pass (x := .inLoop cb) rfl (fun _ _ => .inl (by simp [exOf])) harr⟩
  | ret =>
    simp only [Option.some.injEq, Prod.mk.injEq] at h4
    obtain ⟨rfl, rfl⟩ := h4
    exact ⟨exOf .ret, a1, m1.w, ⟨m1, rfl, rfl, q1, q2, q3, q5⟩, .pass (x := .inLoop cb) rfl (fun _ _ => .inl (by simp [exOf])) harr⟩

theorem sound_code (hT : Table P shF F) {n : Nat} (ih : Sound P shF F n) : ∀ (c : Code) (ic : ICode) (nt : Nat), comp P shF nt c = some ic →
    ∀ (B : Nat) (S : Nat → Nat → Prop) (w0 : World) (s : St) (x : Ex) (s' : St) (m : M) (a : Act), m.h = s.heap → UIs m s.nx → Rel B S w0 nt m s.env a → evCode F (n + 1) ic s = some (x, s') → c.wp P (CPost B S w0 nt m s x s') a m.w := by
  intro c ic nt hc B S w0 s x s' m a hh hU hr hev
  unfold comp at hc
  split at hc
  · simp only [Option.some.injEq] at hc
    subst hc
    simp only [evCode, Option.some.injEq, Prod.mk.injEq] at hev
    obtain ⟨rfl, rfl⟩ := hev
    exact wp_skip ⟨m, rfl, rfl, hh, hU, hr, Evolves.refl m⟩
  · simp only [Option.some.injEq] at hc
    subst hc
    simp only [evCode, Option.some.injEq, Prod.mk.injEq] at hev
    obtain ⟨rfl, rfl⟩ := hev
    exact wp_ret ⟨m, rfl, rfl, hh, hU, hr, Evolves.refl m⟩
  · simp only [Option.some.injEq] at hc
    subst hc
    simp only [evCode, Option.some.injEq, Prod.mk.injEq] at hev
    obtain ⟨rfl, rfl⟩ := hev
    exact wp_exit ⟨m, rfl, rfl, hh, hU, hr, Evolves.refl m⟩
  · rename_i id ops
    simp only [Option.bind_eq_bind, Option.bind_eq_some_iff, Option.some.injEq] at hc
    obtain ⟨is, h1, rfl⟩ := hc
    simp only [evCode, Option.bind_eq_bind, Option.bind_eq_some_iff, Option.some.injEq, Prod.mk.injEq] at hev
    obtain ⟨s1, h3, rfl, rfl⟩ := hev
    refine wp_region_list (seq_ok ih.fn ih.body ops.toList is h1 s s1 m a hh hU hr h3 fun a' m' q1 q2 q4 q5 => ?_)
    exact ⟨m', rfl, rfl, q1, q2, q5, q4⟩
  · rename_i id ops
    simp only [Option.bind_eq_bind, Option.bind_eq_some_iff] at hc
    obtain ⟨is, h1, h2⟩ := hc
    split at h2
    case isFalse => cases h2
    rename_i hcc
    simp only [Option.some.injEq] at h2
    subst h2
    simp only [evCode, Option.bind_eq_bind, Option.bind_eq_some_iff, Prod.exists] at hev
    obtain ⟨e1, h1', ts, h3, h4⟩ := hev
    split at h4
    case isFalse => cases h4
    rename_i hdr
    simp only [Option.some.injEq, Prod.mk.injEq] at h4
    obtain ⟨rfl, rfl⟩ := h4
    refine draw_ok hT.mixed ih.fn h1 hcc.1 hcc.2 hh hU hr h3 hdr fun a' m' q1 q2 q3 q4 => ?_
    exact ⟨m', rfl, rfl, q1, q2, q4, q3⟩
  · rename_i ca cb
    simp only [Option.bind_eq_bind, Option.bind_eq_some_iff, Option.some.injEq] at hc
    obtain ⟨ia, h1, ib, h2, rfl⟩ := hc
    simp only [evCode, Option.bind_eq_bind, Option.bind_eq_some_iff, Prod.exists] at hev
    obtain ⟨x1, s1, h3, h4⟩ := hev
    refine wp_seq (wp_mono (ih.code _ _ _ h1 B S w0 s x1 s1 m a hh hU hr h3) fun e a1 w1 hp => ?_)
    obtain ⟨m1, rfl, rfl, q1, q2, q3, q5⟩ := hp
    cases x1 with
    | normal =>
      simp only at h4
      refine wp_mono (ih.code _ _ _ h2 B S w0 s1 x s' m1 a1 q1 q2 q3 h4) fun e a2 w2 hp2 => ?_
      obtain ⟨m2, rfl, rfl, r1, r2, r3, r5⟩ := hp2
      exact ⟨m2, rfl, rfl, r1, r2, r3, q5.trans r5⟩
    | exit id =>
      simp only [Option.some.injEq, Prod.mk.injEq] at h4
      obtain ⟨rfl, rfl⟩ := h4
      exact ⟨m1, rfl, rfl, q1, q2, q3, q5⟩
    | ret =>
      simp only [Option.some.injEq, Prod.mk.injEq] at h4
      obtain ⟨rfl, rfl⟩ := h4
      exact ⟨m1, rfl, rfl, q1, q2, q3, q5⟩
  · rename_i cc ca cb
    simp only [Option.bind_eq_bind, Option.bind_eq_some_iff, Option.some.injEq] at hc
    obtain ⟨X', hx, ia, h1, ib, h2, rfl⟩ := hc
    simp only [evCode, Option.bind_eq_bind, Option.bind_eq_some_iff] at hev
    obtain ⟨t, h3, h4⟩ := hev
    have e1 := hr.opd cc X' hx
    rw [asBool_some h3] at e1
    refine wp_cond e1.lit ?_
    cases t with
    | true => exact ih.code _ _ _ h1 B S w0 s x s' m a hh hU hr h4
    | false => exact ih.code _ _ _ h2 B S w0 s x s' m a hh hU hr h4
  · rename_i id cb
    simp only [Option.bind_eq_bind, Option.bind_eq_some_iff, Option.some.injEq] at hc
    obtain ⟨ib, h1, rfl⟩ := hc
    simp only [evCode, Option.bind_eq_bind, Option.bind_eq_some_iff, Prod.exists] at hev
    obtain ⟨x1, s1, h3, h4⟩ := hev
    refine wp_block (wp_mono (ih.code _ _ _ h1 B S w0 s x1 s1 m a hh hU hr h3) fun e a1 w1 hp => ?_)
    obtain ⟨m1, rfl, rfl, q1, q2, q3, q5⟩ := hp
    cases x1 with
    | normal =>
      simp only [Option.some.injEq, Prod.mk.injEq] at h4
      obtain ⟨rfl, rfl⟩ := h4
      exact ⟨m1, rfl, rfl, q1, q2, q3, q5⟩
    | ret =>
      simp only [Option.some.injEq, Prod.mk.injEq] at h4
      obtain ⟨rfl, rfl⟩ := h4
      exact ⟨m1, rfl, rfl, q1, q2, q3, q5⟩
    | exit id' =>
      simp only at h4
      show (if id' = id then _ else _)
      split at h4
      · rename_i he
        rw [if_pos he]
        simp only [Option.some.injEq, Prod.mk.injEq] at h4
        obtain ⟨rfl, rfl⟩ := h4
        exact ⟨m1, rfl, rfl, q1, q2, q3, q5⟩
      · rename_i he
        rw [if_neg he]
        simp only [Option.some.injEq, Prod.mk.injEq] at h4
        obtain ⟨rfl, rfl⟩ := h4
        exact ⟨m1, rfl, rfl, q1, q2, q3, q5⟩
  · rename_i cb
    simp only [Option.bind_eq_bind, Option.bind_eq_some_iff, Option.some.injEq] at hc
    obtain ⟨ib, h1, rfl⟩ := hc
    intro b k cs
    obtain ⟨e1, a1, w1, hq, harr⟩ := sound_loop ih cb ib nt h1 B S w0 s x s' m a hh hU hr hev b k cs
    exact ⟨e1, a1, w1, hq, .of_steps (.one step_loop) harr⟩
  · cases hc

theorem sound_body (hT : Table P shF F) {n : Nat} (ih : Sound P shF F n) : ∀ (f : Nat) (ds : List D) (h : Heap) (k : Nat) (rs : List D) (h' : Heap) (nx' : Nat), evBody F (n + 1) f ds h k = some (rs, h', nx') →
    Callable P f ∧ ∀ (B : Nat) (S : Nat → Nat → Prop) (m : M) (us : List Value), m.h = h → UIs m k → HOK B S m → All2 (RepD B S m) ds us →
      Calls P f us.toArray m.w fun e w' => ∃ (v : Value) (m' : M), e = .returned v ∧ m'.w = w' ∧ m'.h = h' ∧ UIs m' nx' ∧ HOK B S m' ∧ Evolves B S m m' ∧ RepD B S m' (tupD rs) v ∧ Below B m.w m'.w ∧ ∀ d, d ∈ rs → ∀ ds, d ≠ .tup ds := by
  intro f ds h k rs h' nx' hev
  simp only [evBody, Option.bind_eq_bind, Option.bind_eq_some_iff] at hev
  obtain ⟨I, hI, hev⟩ := hev
  split at hev
  case isFalse => cases hev
  rename_i hlen
  simp only [Option.bind_eq_some_iff, Prod.exists] at hev
  obtain ⟨x, s1, h1, h2⟩ := hev
  obtain ⟨fn, g1, g2, g3⟩ := hT.ok f I hI
  obtain ⟨c, ic, b1, b2, b3, b4, b5, b6⟩ := compFn_parts g2
  refine ⟨⟨fn, g1, by rw [b1]; rfl, g3⟩, fun B S m us hh hU hk hall => ?_⟩
  have hus : us.length = fn.params.size + fn.nfree := by rw [← hall.len, hlen, b5]
  have hfin : ∃ rs0, resD s1.env s1.heap I.res = some rs0 ∧ rs = rs0 ∧ h' = s1.heap ∧ nx' = s1.nx ∧ x ≠ .exit 0 ∧ (∀ id, x ≠ .exit id) := by
    cases x with
    | exit id => simp at h2
    | normal =>
      simp only [Option.bind_eq_some_iff, Option.some.injEq, Prod.mk.injEq] at h2
      obtain ⟨rs0, h3, rfl, rfl, rfl⟩ := h2
      exact ⟨rs0, h3, rfl, rfl, rfl, by simp, by simp⟩
    | ret =>
      simp only [Option.bind_eq_some_iff, Option.some.injEq, Prod.mk.injEq] at h2
      obtain ⟨rs0, h3, rfl, rfl, rfl⟩ := h2
      exact ⟨rs0, h3, rfl, rfl, rfl, by simp, by simp⟩
  obtain ⟨rs0, hres, rfl, rfl, rfl, _, hnx⟩ := hfin
  refine calls_of_wp g1 b1 ?_
  have hsz : us.toArray.size = fn.params.size + fn.nfree := by simpa using hus
  have hrel : Rel B S m.w fn.ntmps m (bindArgs 0 ds) { tmps := us.toArray ++ Array.replicate (fn.ntmps - us.toArray.size) undef, defers := [] } := by
    refine ⟨rfl, by simp; omega, fun t => ?_, hk, Below.refl _ _⟩
    rw [bindArgs_get]
    simp only [Nat.zero_le, if_true, Nat.sub_zero]
    cases hd : ds[t]? with
    | none => trivial
    | some d =>
      obtain ⟨u, hu, hR⟩ := hall.get t hd
      have : (us.toArray ++ Array.replicate (fn.ntmps - us.toArray.size) undef).getD t undef = u := by
        have hlt : t < us.length := (List.getElem?_eq_some_iff.1 hu).1
        simp [Array.getElem?_append, hlt]
        exact (List.getElem?_eq_some_iff.1 hu).2
      rw [this]
      exact hR
  rw [b4] at h1
  have hwp := ih.code c ic fn.ntmps b2 B S m.w ⟨bindArgs 0 ds, h, k⟩ x s1 m _ hh hU hrel h1
  refine wp_mono hwp fun e a' w' hp => ?_
  obtain ⟨m', rfl, rfl, q1, q2, q3, q5⟩ := hp
  obtain ⟨v, r1, r2, r3⟩ := results_ok q3 b3 (by rw [q1]; exact hres)
  have hpost : a'.defers = [] ∧ ∃ v, (results fn a'.tmps).run P m'.w = .ok v m'.w ∧ (∃ (v' : Value) (m'' : M), Ending.returned v = .returned v' ∧ m''.w = m'.w ∧ m''.h = s1.heap ∧ UIs m'' s1.nx ∧ HOK B S m'' ∧ Evolves B S m m'' ∧ RepD B S m'' (tupD rs) v' ∧ Below B m.w m''.w ∧ ∀ d, d ∈ rs → ∀ ds, d ≠ .tup ds) :=
    ⟨q3.defers, v, r1, v, m', rfl, rfl, q1, q2, q3.hok, q5, r2, q3.below, r3⟩
  cases x with
  | exit id => exact absurd rfl (hnx id)
  | normal => exact hpost
  | ret => exact hpost

theorem RepV.toD0 {B : Nat} {S : Nat → Nat → Prop} {m : M} (h0 : ∀ id, getH m.h id = .dead) {v : V} {u : Value} (h : RepV m.w S v u) : RepD B S m v.toD u := by
  have h1 : RepV m.w (Safe B S m) v u := RepV.weaken (fun b o hs _ => ⟨hs, fun id => by rw [h0]; trivial⟩) h
  exact (RepV.toD h1).toD

theorem sound_fn (hT : Table P shF F) {n : Nat} (ih : Sound P shF F n) : ∀ f vs rs, evFn F (n + 1) f vs = some rs → FnOK P f vs rs := by
  intro f vs rs hev
  rw [evFn] at hev
  split at hev
  · rename_i rs' hn
    simp only [Option.some.injEq] at hev
    subst hev
    exact hT.nat f vs _ hn
  simp only [Option.bind_eq_bind, Option.bind_eq_some_iff, Prod.exists, Option.some.injEq] at hev
  obtain ⟨ds, h, nx, h1, rs', us0, h2, rfl⟩ := hev
  obtain ⟨hc, hb⟩ := ih.body f _ _ _ ds h nx h1
  refine ⟨hc, fun S w us hall => ?_⟩
  have hk : HOK w.heap.size (fun b o => b < w.heap.size → S b o) ⟨w, [], fun _ => 0, fun i => i < 0⟩ := ⟨fun id => trivial, fun i j hi _ _ => absurd rfl hi, fun _ _ => rfl, Nat.le_refl _, fun b o hb h => absurd h (Nat.not_lt.2 hb), fun id f hg => by cases hg⟩
  have hall' : All2 (RepD w.heap.size (fun b o => b < w.heap.size → S b o) ⟨w, [], fun _ => 0, fun i => i < 0⟩) (vs.map V.toD) us := hall.map_mono fun v u hv => RepV.toD0 (B := w.heap.size) (S := fun b o => b < w.heap.size → S b o) (m := ⟨w, [], fun _ => 0, fun i => i < 0⟩) (fun _ => rfl) (RepV.weaken (Sf' := fun b o => b < w.heap.size → S b o) (fun b o hs _ _ => hs) hv)
  refine (hb w.heap.size (fun b o => b < w.heap.size → S b o) ⟨w, [], fun _ => 0, fun i => i < 0⟩ us rfl (fun _ => Iff.rfl) hk hall').mono fun e w' ⟨v, m', q1, q2, q3, q4, q5, _, q7, q8, q9⟩ => ?_
  subst q1 q2
  refine ⟨v, rfl, ?_, q8⟩
  have weak : ∀ {h'' : Heap} {r : V} {u : Value}, RepV m'.w (Safe w.heap.size (fun b o => b < w.heap.size → S b o) (m'.heap h'')) r u → RepV m'.w (fun b o => b < w.heap.size → S b o) r u := fun hr => RepV.weaken (fun b o hs _ => hs.1) hr
  rw [← q3] at h2
  match ds, q7, h2, q9 with
  | [d], q7, h2, q9 =>
    simp only [frzVs, Option.bind_eq_bind, Option.bind_eq_some_iff, Prod.exists, Option.some.injEq, Prod.mk.injEq] at h2
    obtain ⟨c, x, h3, cs', xs', ⟨rfl, rfl⟩, rfl, rfl⟩ := h2
    have hA : RepA w.heap.size (fun b o => b < w.heap.size → S b o) m' d v := by
      cases d with
      | tup q => exact absurd rfl (q9 (.tup q) (by simp) q)
      | _ => exact q7
    exact weak (frzV_ok q5 hA h3).2.2
  | [], q7, h2, q9 =>
    simp only [frzVs, Option.some.injEq, Prod.mk.injEq] at h2
    obtain ⟨rfl, rfl⟩ := h2
    obtain ⟨vs', rfl, hv⟩ := q7
    cases vs' with
    | nil => exact ⟨[], rfl, trivial⟩
    | cons _ _ => exact hv.elim
  | d :: d' :: ds, q7, h2, q9 =>
    obtain ⟨vs', rfl, hv⟩ := q7
    have h3 := (frzVs_ok q5 hv h2).2.2
    have hlen := h3.len
    match rs', h3 with
    | [], h3 => cases vs' with | nil => exact hv.elim | cons _ _ => exact h3.elim
    | [r], h3 =>
      exfalso
      have := hv.len
      rw [← hlen] at this
      simp at this
    | r :: r' :: rs'', h3 => exact ⟨vs', rfl, h3.mono fun _ _ h => weak h⟩

theorem sound (hT : Table P shF F) : ∀ n, Sound P shF F n
  | 0 => sound_zero
  | n + 1 => ⟨sound_code hT (sound hT n), sound_loop (sound hT n), sound_body hT (sound hT n), sound_fn hT (sound hT n)⟩

/-- THE EVALUATOR IS RIGHT. -/
theorem ev_sound (hT : Table P shF F) {n f : Nat} {vs rs : List V} (h : evFn F n f vs = some rs) : FnOK P f vs rs := (sound hT n).fn f vs rs h

end
end Go.Ez

