/-
  An operation looks at its operands and at the objects that it touches, at nothing else.
-/
import Derived.Test.YtfphnpelampoeaaEvBase
namespace Go.Ev

def Agree (L : List Nat) (h h' : Heap) : Prop := ∀ id, id ∈ L → getH h id = getH h' id

theorem Agree.mono {L L' : List Nat} {h h' : Heap} (hh : Agree L h h') (hs : ∀ id, id ∈ L' → id ∈ L) : Agree L' h h' := fun id hi => hh id (hs id hi)

theorem Agree.upd {L : List Nat} : ∀ (us : List (Nat × Obj)) {h h' : Heap}, Agree L h h' → Agree L (updH h us) (updH h' us)
  | [], _, _, hh => hh
  | u :: us, h, h', hh => by
    refine Agree.upd us (h := u :: h) (h' := u :: h') fun id hi => ?_
    obtain ⟨i, o⟩ := u
    simp only [getH]
    rw [hh id hi]

variable {h h' : Heap}

theorem loadD_congr {agg : Bool} {size : Nat} {d : D} (hh : Agree (match d with | .loc id _ => [id] | _ => []) h h') : loadD h agg size d = loadD h' agg size d := by
  cases d with
  | loc id off => simp only [loadD, hh id (by simp)]
  | _ => rfl

theorem frz_congr {d : D} (hh : Agree (frzIds d) h h') : frz h d = frz h' d := by
  cases d with
  | arr id off len => simp only [frz, hh id (by simp [frzIds])]
  | _ => rfl

def arrIds : List D → List Nat
  | [] => []
  | .arr id _ _ :: ds => id :: arrIds ds
  | _ :: ds => arrIds ds

theorem arrIds_flat (ds : List D) : arrIds ds = ds.flatMap fun | .arr id _ _ => [id] | _ => [] := by
  induction ds with
  | nil => rfl
  | cons d ds ih => cases d <;> simp [arrIds, ih]

theorem arrIds_append (xs ys : List D) : arrIds (xs ++ ys) = arrIds xs ++ arrIds ys := by rw [arrIds_flat, arrIds_flat, arrIds_flat, List.flatMap_append]

theorem mem_arrIds {ds : List D} {id : Nat} : id ∈ arrIds ds ↔ ∃ off len, D.arr id off len ∈ ds := by
  induction ds with
  | nil => simp [arrIds]
  | cons d ds ih =>
    cases d with
    | arr i o l =>
      simp only [arrIds, List.mem_cons, ih]
      constructor
      · rintro (rfl | ⟨off, len, h⟩)
        · exact ⟨o, l, .inl rfl⟩
        · exact ⟨off, len, .inr h⟩
      · rintro ⟨off, len, h | h⟩
        · injection h with h1 _ _; exact .inl h1
        · exact .inr ⟨off, len, h⟩
    | _ => simp [arrIds, ih]

theorem frzL_congr : ∀ {ds : List D} {h h' : Heap}, Agree (arrIds ds) h h' → frzL h ds = frzL h' ds
  | [], _, _, _ => rfl
  | d :: ds, h, h', hh => by
    have h1 : frz h d = frz h' d := by
      cases d with
      | arr id off len => exact frz_congr fun i hi => hh i (by simp only [frzIds, List.mem_singleton] at hi; simp [arrIds, hi])
      | _ => rfl
    simp only [frzL, h1]
    cases hf : frz h' d with
    | none => rfl
    | some p =>
      obtain ⟨c, u⟩ := p
      have h2 : frzL (updH h u) ds = frzL (updH h' u) ds := frzL_congr (Agree.upd u (hh.mono fun id hi => by cases d <;> simp [arrIds] <;> first | exact hi | exact .inr hi))
      simp only [Option.bind_eq_bind, Option.bind_some, h2]

theorem frzV_congr {d : D} (hh : Agree (frzIds d) h h') : frzV h d = frzV h' d := by
  cases d with
  | agg ds =>
    have : frzL h ds = frzL h' ds := frzL_congr (hh.mono fun id hi => by rw [arrIds_flat] at hi; exact hi)
    simp only [frzV, this]
  | _ => simp only [frzV, frz_congr hh]

theorem frzVs_congr : ∀ {ds : List D} {h h' : Heap}, Agree (ds.flatMap frzIds) h h' → frzVs h ds = frzVs h' ds
  | [], _, _, _ => rfl
  | d :: ds, h, h', hh => by
    have h1 : frzV h d = frzV h' d := frzV_congr (hh.mono fun id hi => by simp [hi])
    simp only [frzVs, h1]
    cases hf : frzV h' d with
    | none => rfl
    | some p =>
      obtain ⟨c, u⟩ := p
      have h2 : frzVs (updH h u) ds = frzVs (updH h' u) ds := frzVs_congr (Agree.upd u (hh.mono fun id hi => by rw [List.flatMap_cons]; exact List.mem_append_right _ hi))
      simp only [Option.bind_eq_bind, Option.bind_some, h2]

theorem srcOf_congr {esz : Nat} {d : D} (hh : Agree (frzIds d) h h') : srcOf h esz d = srcOf h' esz d := by
  cases d with
  | arr id off len => simp only [srcOf, hh id (by simp [frzIds])]
  | c x => unfold srcOf; split <;> simp_all
  | _ => rfl

theorem srcB_congr {d : D} (hh : Agree (frzIds d) h h') : srcB h d = srcB h' d := by
  unfold srcB
  split
  · rfl
  · exact srcOf_congr hh

theorem slcD_congr {esz : Nat} {lo hi : Option D} {d : D} (hh : Agree (frzIds d) h h') : slcD h esz lo hi d = slcD h' esz lo hi d := by
  cases d with
  | arr id off len => simp only [slcD, hh id (by simp [frzIds])]
  | c x => unfold slcD; split <;> simp_all
  | _ => rfl

theorem iadrD_congr {esz : Nat} {i : D} {d : D} (hh : Agree (frzIds d) h h') : iadrD h esz i d = iadrD h' esz i d := by
  cases d with
  | arr id off len => simp only [iadrD, hh id (by simp [frzIds])]
  | c x => unfold iadrD; split <;> simp_all
  | _ => rfl

theorem appD_congr {slot esz ety bytes : Nat} {y d : D} (hh : Agree (frzIds d ++ frzIds y) h h') : appD h slot esz ety bytes y d = appD h' slot esz ety bytes y d := by
  have hs : srcOf h esz y = srcOf h' esz y := srcOf_congr (hh.mono fun id hi => by simp [hi])
  cases d with
  | arr id off len => simp only [appD, hh id (by simp [frzIds]), hs]
  | c x => unfold appD; split <;> simp_all
  | _ => rfl

theorem cpyD_congr {esz : Nat} {y d : D} (hh : Agree (frzIds d ++ frzIds y) h h') : cpyD h esz y d = cpyD h' esz y d := by
  have hs : srcOf h esz y = srcOf h' esz y := srcOf_congr (hh.mono fun id hi => by simp [hi])
  cases d with
  | arr id off len => simp only [cpyD, hh id (by simp [frzIds]), hs]
  | _ => rfl

theorem storeD_congr {size : Nat} {v d : D} (hh : Agree ((match d with | .loc id _ => [id] | _ => []) ++ frzIds v) h h') : storeD h size v d = storeD h' size v d := by
  have hs : frzV h v = frzV h' v := frzV_congr (hh.mono fun id hi => by simp [hi])
  cases d with
  | loc id off =>
    have h1 := hh id (by simp)
    simp only [storeD, h1, hs]
    cases getH h' id with
    | arr cs esz fz ety =>
      cases hf : frzV h' v with
      | none => rfl
      | some p =>
        obtain ⟨x, us⟩ := p
        simp only [Option.bind_eq_bind, Option.bind_some]
        rw [Agree.upd us hh id (by simp)]
    | _ => rfl
  | _ => rfl

theorem fillP_congr {ρ ρ' : X → D} : ∀ {ps : List (Nat × Nat × X)} {cs : List D}, (∀ p, p ∈ ps → ρ p.2.2 = ρ' p.2.2) → fillP ρ cs ps = fillP ρ' cs ps
  | [], _, _ => rfl
  | (off, size, x) :: ps, cs, hp => by
    have h1 : ρ x = ρ' x := hp (off, size, x) (by simp)
    simp only [fillP, h1]
    cases cellsD (ρ' x) with
    | none => rfl
    | some ds =>
      simp only [Option.bind_eq_bind, Option.bind_some]
      rw [fillP_congr (fun p h => hp p (by simp [h]))]

theorem cellsD_ids {d : D} {ds : List D} (h : cellsD d = some ds) : ∀ id, id ∈ arrIds ds → id ∈ frzIds d := by
  intro id hi
  unfold cellsD at h
  split at h
  · rename_i ds'
    split at h
    · simp only [Option.some.injEq] at h
      subst h
      rw [arrIds_flat] at hi
      exact hi
    · cases h
  · split at h
    · simp only [Option.some.injEq] at h
      subst h
      cases d <;> simp [arrIds] at hi
      simp [frzIds, hi]
    · cases h

theorem fillP_ids {ρ : X → D} : ∀ {ps : List (Nat × Nat × X)} {cs ds : List D}, fillP ρ cs ps = some ds → ∀ id, id ∈ arrIds ds → id ∈ arrIds cs ∨ id ∈ ps.flatMap fun p => frzIds (ρ p.2.2)
  | [], cs, ds, h, id, hi => by simp only [fillP, Option.some.injEq] at h; subst h; exact .inl hi
  | (off, size, x) :: ps, cs, ds, h, id, hi => by
    simp only [fillP, Option.bind_eq_bind, Option.bind_eq_some_iff] at h
    obtain ⟨xs, h1, h2⟩ := h
    split at h2
    case isFalse => cases h2
    rcases fillP_ids h2 id hi with h3 | h3
    · rw [mem_arrIds] at h3
      obtain ⟨o, l, h4⟩ := h3
      unfold splice at h4
      simp only [List.mem_append] at h4
      rcases h4 with (h4 | h4) | h4
      · exact .inl (mem_arrIds.2 ⟨o, l, List.mem_of_mem_take h4⟩)
      · refine .inr ?_
        rw [List.flatMap_cons]
        exact List.mem_append_left _ (cellsD_ids h1 id (mem_arrIds.2 ⟨o, l, h4⟩))
      · exact .inl (mem_arrIds.2 ⟨o, l, List.mem_of_mem_drop h4⟩)
    · refine .inr ?_
      rw [List.flatMap_cons]
      exact List.mem_append_right _ h3

theorem arrIds_c (cs : List C) : arrIds (cs.map D.c) = [] := by
  induction cs with
  | nil => rfl
  | cons c cs ih => simpa [arrIds] using ih

theorem stepC_congr {call : Callee} {ρ ρ' : X → D} {slot : Nat} {ins : Ins} (hx : ∀ x, x ∈ opX ins → ρ x = ρ' x) (hh : Agree (touches ρ ins) h h') : stepC call ρ h slot ins = stepC call ρ' h' slot ins := by
  cases ins with
  | mov x => simp only [stepC, step, hx x (by simp [opX])]
  | pick c a b => simp only [stepC, step, hx c (by simp [opX]), hx a (by simp [opX]), hx b (by simp [opX])]
  | alloc z => rfl
  | box x => simp only [stepC, step, hx x (by simp [opX])]
  | build z ps =>
    have : ∀ cs, fillP ρ cs ps = fillP ρ' cs ps := fun cs => fillP_congr fun p hp => hx _ (by simp only [opX]; exact List.mem_map.2 ⟨p, hp, rfl⟩)
    simp only [stepC, step, this]
  | lits a b c z ps =>
    have h1 : ∀ cs, fillP ρ cs ps = fillP ρ' cs ps := fun cs => fillP_congr fun p hp => hx _ (by simp only [opX]; exact List.mem_map.2 ⟨p, hp, rfl⟩)
    simp only [stepC, step, ← h1]
    cases hf : fillP ρ ((zeros z c).map .c) ps with
    | none => rfl
    | some ds =>
      have h2 : frzL h ds = frzL h' ds := frzL_congr (hh.mono fun id hi => by
        rcases fillP_ids hf id hi with h3 | h3
        · rw [arrIds_c] at h3; cases h3
        · exact h3)
      simp only [Option.bind_eq_bind, Option.bind_some, h2]
  | load agg size x =>
    have h1 := hx x (by simp [opX])
    have : loadD h agg size (ρ x) = loadD h' agg size (ρ x) := loadD_congr hh
    rw [h1] at this
    simp only [stepC, step, this, h1]
  | store size x y =>
    have h1 := hx x (by simp [opX])
    have h2 := hx y (by simp [opX])
    have : storeD h size (ρ y) (ρ x) = storeD h' size (ρ y) (ρ x) := storeD_congr hh
    rw [h1, h2] at this
    simp only [stepC, step, this, h1, h2]
  | nilck x => simp only [stepC, step, hx x (by simp [opX])]
  | bin op b x y => simp only [stepC, step, hx x (by simp [opX]), hx y (by simp [opX])]
  | un op x => simp only [stepC, step, hx x (by simp [opX])]
  | conv k x => simp only [stepC, step, hx x (by simp [opX])]
  | toStr x =>
    have h1 := hx x (by simp [opX])
    have : srcB h (ρ x) = srcB h' (ρ x) := srcB_congr hh
    rw [h1] at this
    simp only [stepC, step, this, h1]
  | mk a b c z l m => simp only [stepC, step, hx l (by simp [opX]), hx m (by simp [opX])]
  | slc esz x lo hi =>
    have h1 := hx x (by simp [opX])
    have hl : lo.map ρ = lo.map ρ' := by cases lo with | none => rfl | some y => simp [hx y (by simp [opX])]
    have hr : hi.map ρ = hi.map ρ' := by cases hi with | none => rfl | some y => simp [hx y (by simp [opX])]
    have : slcD h esz (lo.map ρ) (hi.map ρ) (ρ x) = slcD h' esz (lo.map ρ) (hi.map ρ) (ρ x) := slcD_congr hh
    rw [h1, hl, hr] at this
    simp only [stepC, step, this, h1, hl, hr]
  | sls x lo hi =>
    have h1 := hx x (by simp [opX])
    have hl : lo.map ρ = lo.map ρ' := by cases lo with | none => rfl | some y => simp [hx y (by simp [opX])]
    have hr : hi.map ρ = hi.map ρ' := by cases hi with | none => rfl | some y => simp [hx y (by simp [opX])]
    simp only [stepC, step, h1, hl, hr]
  | fadr o x => simp only [stepC, step, hx x (by simp [opX])]
  | fld o a s x => simp only [stepC, step, hx x (by simp [opX])]
  | iadr esz x i =>
    have h1 := hx x (by simp [opX])
    have h2 := hx i (by simp [opX])
    have : iadrD h esz (ρ i) (ρ x) = iadrD h' esz (ρ i) (ρ x) := iadrD_congr hh
    rw [h1, h2] at this
    simp only [stepC, step, this, h1, h2]
  | sidx x i => simp only [stepC, step, hx x (by simp [opX]), hx i (by simp [opX])]
  | ext x i => simp only [stepC, step, hx x (by simp [opX])]
  | len b x => simp only [stepC, step, hx x (by simp [opX])]
  | app a b c x y =>
    have h1 := hx x (by simp [opX])
    have h2 := hx y (by simp [opX])
    have : appD h slot a b c (ρ y) (ρ x) = appD h' slot a b c (ρ y) (ρ x) := appD_congr hh
    rw [h1, h2] at this
    simp only [stepC, step, this, h1, h2]
  | cpy esz x y =>
    have h1 := hx x (by simp [opX])
    have h2 := hx y (by simp [opX])
    have : cpyD h esz (ρ y) (ρ x) = cpyD h' esz (ρ y) (ρ x) := cpyD_congr hh
    rw [h1, h2] at this
    simp only [stepC, step, this, h1, h2]
  | mx x y => simp only [stepC, step, hx x (by simp [opX]), hx y (by simp [opX])]
  | mn x y => simp only [stepC, step, hx x (by simp [opX]), hx y (by simp [opX])]
  | call f xs =>
    have h1 : xs.map ρ = xs.map ρ' := List.map_congr_left fun x hxx => hx x (by simpa [opX] using hxx)
    have h2 : frzVs h (xs.map ρ) = frzVs h' (xs.map ρ) := frzVs_congr (hh.mono fun id hi => by simpa [touches, List.flatMap_map] using hi)
    rw [h1] at h2
    simp only [stepC, h2, h1]
  | callS f xs => rfl

end Go.Ev
