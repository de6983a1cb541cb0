/-
  Composite values, literals of slices, stores, append, copy.
-/
import Derived.Test.YtfphnpelampoeaaEvOps4
namespace Go.Ev
open Go.RowKit

section
variable {B : Nat} {S : Nat → Nat → Prop} {P : Program} {o : Oper} {a : Act} {m : M} {slot : Nat} {ρ : X → D} {d : D} {us : List (Nat × Obj)}

theorem foldl_set : ∀ (vs : List Value) (off k : Nat) (cs : Array Value), off + k + vs.length ≤ cs.size →
    ((vs.zipIdx k).foldl (fun cs (p : Value × Nat) => cs.setIfInBounds (off + p.2) p.1) cs).toList = splice cs.toList (off + k) vs
  | [], off, k, cs, _ => by simp [splice]
  | v :: vs, off, k, cs, h => by
    simp only [List.length_cons] at h
    simp only [List.zipIdx_cons, List.foldl_cons]
    rw [foldl_set vs off (k + 1) _ (by simp; omega), Array.toList_setIfInBounds]
    unfold splice
    have e := list_seg_step cs.toList (off + k) v vs (by simp; omega)
    simp only [List.length_cons, Nat.add_assoc] at e ⊢
    exact e

/-- parts of a composite value: the model's and the evaluator's -/
def PartsOk (place : Nat → Option (Nat × Nat)) : List (Nat × Operand) → List (Nat × Nat × X) → Prop
  | [], [] => True
  | (i, x) :: ps, (off, size, X') :: qs => place i = some (off, size) ∧ compX x = some X' ∧ PartsOk place ps qs
  | _, _ => False

theorem fill_ok (ho : Opd B S m ρ a) {place : Nat → Option (Nat × Nat)} : ∀ {ps : List (Nat × Operand)} {qs : List (Nat × Nat × X)} {ds ds' : List D} {cells : Array Value}, PartsOk place ps qs → All2 (RepDc B S m) ds cells.toList → fillP ρ ds qs = some ds' →
    ∃ cells' : Array Value, Instr.fill place cells (ps.map fun p => (p.1, a.eval p.2)) = some cells' ∧ All2 (RepDc B S m) ds' cells'.toList
  | [], [], ds, ds', cells, _, h1, h2 => by
    simp only [fillP, Option.some.injEq] at h2
    subst h2
    exact ⟨cells, rfl, h1⟩
  | (i, x) :: ps, (off, size, X') :: qs, ds, ds', cells, hp, h1, h2 => by
    obtain ⟨p1, p2, p3⟩ := hp
    simp only [fillP, Option.bind_eq_bind, Option.bind_eq_some_iff] at h2
    obtain ⟨xs, h3, h4⟩ := h2
    split at h4
    case isFalse => cases h4
    rename_i hc
    obtain ⟨c1, c2⟩ := hc
    obtain ⟨h5, _⟩ := cellsD_ok (ho x X' p2) h3
    have hl1 : xs.length = (a.eval x).cells.size := by rw [h5.len]; simp
    have hl2 : ds.length = cells.size := by rw [h1.len]; simp
    have hsp : ((a.eval x).cells.zipIdx.foldl (fun cs (p : Value × Nat) => cs.setIfInBounds (off + p.2) p.1) cells).toList = splice cells.toList off (a.eval x).cells.toList := by
      have := foldl_set (a.eval x).cells.toList off 0 cells (by simp; omega)
      rw [← Array.foldl_toList]
      simpa using this
    obtain ⟨cells', h6, h7⟩ := fill_ok ho (cells := (a.eval x).cells.zipIdx.foldl (fun cs (p : Value × Nat) => cs.setIfInBounds (off + p.2) p.1) cells) p3 (by rw [hsp]; exact h1.splice off h5) h4
    refine ⟨cells', ?_, h7⟩
    have hne : ((a.eval x).cells.size ≠ size || decide (off + (a.eval x).cells.size > cells.size)) = false := by
      simp; omega
    simp only [List.map_cons, Instr.fill, p1]
    rw [if_neg (by simpa using hne)]
    exact h6
  | [], _ :: _, _, _, _, h, _, _ => h.elim
  | _ :: _, [], _, _, _, h, _, _ => h.elim

theorem compFields_ok {fs : List Field} {places : List (Nat × Nat)} (hp : fs.mapM (fun f => (P.info? f.type).map fun i => (f.offset, i.size)) = some places) :
    ∀ {ps : List (Nat × Operand)} {qs : List (Nat × Nat × X)}, compFields P fs ps = some qs → PartsOk (fun i => places[i]?) ps qs
  | [], qs, h => by simp [compFields] at h; subst h; trivial
  | (i, x) :: ps, qs, h => by
    simp only [compFields, Option.bind_eq_bind, Option.bind_eq_some_iff, Option.some.injEq] at h
    obtain ⟨f, h1, info, h2, X', h3, qs', h4, rfl⟩ := h
    refine ⟨?_, h3, compFields_ok hp h4⟩
    have key : ∀ (fs : List Field) (places : List (Nat × Nat)), fs.mapM (fun f => (P.info? f.type).map fun i => (f.offset, i.size)) = some places → ∀ (i : Nat) (f : Field), fs[i]? = some f → places[i]? = (P.info? f.type).map fun i => (f.offset, i.size) := by
      intro fs
      induction fs with
      | nil => intro places _ i f hf; simp at hf
      | cons g fs ih =>
        intro places hpl i f hf
        simp only [List.mapM_cons, Option.bind_eq_bind, Option.pure_def, Option.bind_eq_some_iff, Option.some.injEq] at hpl
        obtain ⟨p, hp1, rest, hp2, rfl⟩ := hpl
        cases i with
        | zero => simp at hf; subst hf; simp [hp1]
        | succ i => simp at hf; simpa using ih rest hp2 i f hf
    simp only [key fs places hp i f h1, h2, Option.map_some]

theorem fieldsKnown_ok : ∀ {fs : List Field}, fieldsKnown P fs = true → ∃ places, fs.mapM (fun f => (P.info? f.type).map fun i => (f.offset, i.size)) = some places
  | [], _ => ⟨[], rfl⟩
  | f :: fs, h => by
    simp only [fieldsKnown, List.all_cons, Bool.and_eq_true] at h
    obtain ⟨places, h1⟩ := fieldsKnown_ok (fs := fs) h.2
    obtain ⟨i, hi⟩ := Option.isSome_iff_exists.1 h.1
    exact ⟨(f.offset, i.size) :: places, by simp [List.mapM_cons, hi, h1]⟩

theorem does_build (hk : HOK B S m) (ho : Opd B S m ρ a) {t : TypeId} {parts : Array (Nat × Operand)} {fs : List Field} {z : List Value} {qs : List (Nat × Nat × X)} (hop : o.op = .build t parts) (h1 : fieldsOf P t = some fs) (h2 : zeroOf P t = some z)
    (h3 : compFields P fs parts.toList = some qs) (h4 : fieldsKnown P fs = true) (hs : step ρ m.h slot (.build z qs) = some (d, us)) : Does B S P o a m slot d us := by
  have hu := fieldsOf_some h1
  obtain ⟨i, zv, g1, g2, g3, g4, _⟩ := zeroOf_some h2
  obtain ⟨places, hp⟩ := fieldsKnown_ok h4
  simp only [step] at hs
  obtain ⟨h5, rfl⟩ := pureD_some hs
  simp only [Option.bind_eq_bind, Option.bind_eq_some_iff, Option.some.injEq] at h5
  obtain ⟨ds, h6, rfl⟩ := h5
  obtain ⟨cells', h7, h8⟩ := fill_ok ho (cells := zv.cells) (compFields_ok hp h3) (by rw [g3]; exact all2_dlits g4) h6
  refine does_pure hk slot (v := .agg cells') ?_ ⟨cells'.toList, by simp, h8⟩
  have hb : P.built t ((parts.map fun (p : Nat × Operand) => (p.1, a.eval p.2)).toList) = some cells' := by
    unfold Program.built
    simp only [g1, hu, g2, hp, Array.toList_map]
    simpa using h7
  have := run_build (P := P) m.w t _ cells' hb
  simp [execOp, hop, this]

theorem compElems_ok {size : Nat} : ∀ {ps : List (Nat × Operand)} {qs : List (Nat × Nat × X)}, compElems size ps = some qs → PartsOk (fun i => some (i * size, size)) ps qs
  | [], qs, h => by simp [compElems] at h; subst h; trivial
  | (i, x) :: ps, qs, h => by
    simp only [compElems, Option.bind_eq_bind, Option.bind_eq_some_iff, Option.some.injEq] at h
    obtain ⟨X', h3, qs', h4, rfl⟩ := h
    exact ⟨rfl, h3, compElems_ok h4⟩

theorem does_lits (hk : HOK B S m) (ho : Opd B S m ρ a) (hs0 : ¬ m.U slot) {t e : TypeId} {len : Nat} {parts : Array (Nat × Operand)} {i : TypeInfo} {z : List Value} {qs : List (Nat × Nat × X)} (hop : o.op = .buildSlice t len parts)
    (h1 : elemOfSlice P t = some e) (h2 : P.info? e = some i) (h3 : zeroOf P e = some z) (h4 : compElems i.size parts.toList = some qs) (h5 : len * i.size ≤ 16777216) (h6 : 0 < i.size)
    (hs : step ρ m.h slot (.lits i.size e len z qs) = some (d, us)) : Does B S P o a m slot d us := by
  have hu := elemOfSlice_some h1
  obtain ⟨i', zv, g1, g2, g3, g4, g5⟩ := zeroOf_some h3
  rw [h2] at g1
  simp only [Option.some.injEq] at g1
  subst g1
  simp only [step, Option.bind_eq_bind, Option.bind_eq_some_iff, Prod.exists] at hs
  obtain ⟨ds, hs1, cs, xs, hs2, hs3⟩ := hs
  split at hs3
  case isFalse => cases hs3
  rename_i hc
  obtain ⟨c1, c2⟩ := hc
  simp only [Option.some.injEq, Prod.mk.injEq] at hs3
  obtain ⟨rfl, rfl⟩ := hs3
  have hzs : zv.cells.size = i.size := by rw [← g5, ← g3]; simp
  have hinit : All2 (RepDc B S m) ((zeros z len).map .c) ((Array.range (len * i.size)).map (zv.cells[· % zv.cells.size]!)).toList := by
    rw [← hzs, range_map_mod, g3]
    exact All2.map_left (zeros_ok g4 len)
  obtain ⟨cells', f1, f2⟩ := fill_ok ho (compElems_ok h4) hinit hs1
  obtain ⟨k1, k2, k3⟩ := frzL_ok hk f2 hs2
  refine does_newrow hk hs0 k1 k2 (spare := []) (cap := len) k3 (Nat.le_refl _) ?_ (by unfold roomMax at c2; simp only [maxLen]; omega) (.inl rfl) ?_
  · rw [List.append_nil, ← k3.len]; exact c1
  · have hn16 : ¬ (16777216 < len * i.size) := by omega
    by_cases hz : len * i.size = 0
    · have hl0 : len = 0 := by
        rcases Nat.mul_eq_zero.1 hz with h | h
        · exact h
        · omega
      subst hl0
      simp only [Nat.zero_mul, Array.range_zero', Array.map_empty] at f1
      have f1' : Instr.fill (fun i_1 => some (i_1 * i.size, i.size)) #[] (parts.toList.map fun p => (p.1, a.eval p.2)) = some cells' := by simpa using f1
      simp [execOp, hop, Instr.buildSlice, run_underlying hu, run_sizeOf h2, newRow, Array.range_zero', f1']
    · simp [execOp, hop, Instr.buildSlice, run_underlying hu, run_sizeOf h2, hn16, hz, zeroValue, typeInfo, h2, g2, newRow, f1]

/-- a store into a row of the call's own -/
theorem run_storeVar_row {t : TypeId} {i : TypeInfo} (hi : P.info? t = some i) {w : World} {b off : Nat} {us : List Value} {e : TypeId} (hb : w.heap[b]? = some (.cells us.toArray e (0, 0))) {v : Value} (hl : v.cells.size = i.size) (hfit : off + i.size ≤ us.length)
    (h1 : ∀ x ∈ v.cells.toList, x.oneCell' = true) : (storeVar t ⟨b, off, none⟩ v).run P w = .ok () (w.setRow b (splice us off v.cells.toList).toArray) := by
  have hst := run_storeCells_at P b off e v.cells.toList 0 us.toArray w hb (by simp; omega) h1
  simp only [Nat.add_zero] at hst
  simp only [storeVar, Sem.run_bind, run_sizeOf hi, Result.andThen_ok, hl]
  simp [hst, splice]

theorem below_setRow {w : World} {b : Nat} {cs : Array Value} (hb : B ≤ b) : Below B w (w.setRow b cs) :=
  ⟨rfl, rfl, rfl, by simp, fun k hk => setRow_other w b k cs (by omega)⟩

theorem splice_length {α : Type} {l xs : List α} {off : Nat} (h : off + xs.length ≤ l.length) : (splice l off xs).length = l.length := by
  unfold splice
  simp
  omega

theorem splice_get_lt {α : Type} {l xs : List α} {off q : Nat} (h : off ≤ l.length) (hq : q < off) : (splice l off xs)[q]? = l[q]? := by
  unfold splice
  rw [List.append_assoc, List.getElem?_append_left (by simp; omega), List.getElem?_take_of_lt hq]

theorem splice_take {α : Type} {l xs : List α} {off n : Nat} (h : off + xs.length ≤ n) (hn : n ≤ l.length) : (splice l off xs).take n = splice (l.take n) off xs := by
  unfold splice
  rw [List.append_assoc, List.append_assoc, List.take_append, List.take_append]
  simp only [List.length_take]
  have e1 : min off l.length = off := by omega
  have e2 : min off (min n l.length) = off := by omega
  rw [e1, List.take_take, List.take_take]
  have e3 : min n off = off := by omega
  have e4 : min off n = off := by omega
  rw [e3, e4]
  congr 1
  rw [List.take_of_length_le (by omega : xs.length ≤ n - off)]
  congr 1
  rw [List.drop_take]
  congr 1
  omega

theorem does_store (hk : HOK B S m) (ho : Opd B S m ρ a) {t : TypeId} {x y : Operand} {X' Y' : X} {i : TypeInfo} (hop : o.op = .store t x y) (h1 : P.info? t = some i) (hx : compX x = some X') (hy : compX y = some Y')
    (hs : step ρ m.h slot (.store i.size X' Y') = some (d, us)) : Does B S P o a m slot d us := by
  have e1 := ho x X' hx
  have e2 := ho y Y' hy
  simp only [step] at hs
  unfold storeD at hs
  split at hs
  · rename_i id off he
    rw [he] at e1
    obtain ⟨hU, e3⟩ := e1
    cases hob : getH m.h id with
    | dead => rw [hob] at hs; cases hs
    | box ds =>
      rw [hob] at hs
      simp only [Option.bind_eq_bind, Option.bind_eq_some_iff] at hs
      obtain ⟨xs, h2, h3⟩ := hs
      split at h3
      case isFalse => cases h3
      rename_i hc
      obtain ⟨c1, c2⟩ := hc
      simp only [Option.some.injEq, Prod.mk.injEq] at h3
      obtain ⟨rfl, rfl⟩ := h3
      obtain ⟨hB, vs, e, hv1, hv2⟩ := hk.box hob
      obtain ⟨f1, f2⟩ := cellsD_ok e2 h2
      have hlen : (a.eval y).cells.size = i.size := by rw [← c1, f1.len]; simp
      have hvl : ds.length = vs.length := hv2.len
      have hrun := run_storeVar_row (P := P) (off := off) h1 hv1 hlen (by omega) f2
      have hother : ∀ k, k ≠ m.β id → (m.w.setRow (m.β id) (splice vs off (a.eval y).cells.toList).toArray).heap[k]? = m.w.heap[k]? := fun k hk' => setRow_other _ _ _ _ hk'
      have hev : Evolves B S m (m.upd (m.w.setRow (m.β id) (splice vs off (a.eval y).cells.toList).toArray) id (.box (splice ds off xs))) := by
        refine upd_evolves hk hob (o' := .box (splice ds off xs)) trivial hother (fun q u hq _ => hq.elim) ?_
        have hsl : (splice vs off (a.eval y).cells.toList).length = vs.length := splice_length (by simp; omega)
        simp [World.shape?, setRow_heap _ _ _ _ _ _ hv1, hv1, hsl]
      have hok := upd_hok hk (id := id) (by rw [hob]; simp) hev hother (by simp) ⟨hB, _, e, setRow_heap _ _ _ _ _ _ hv1, (hv2.splice off f1).mono fun _ _ h => hev.repDc h⟩
      refine ⟨_, undef, m.w.setRow (m.β id) (splice vs off (a.eval y).cells.toList).toArray, ?_, .inr ⟨rfl, rfl⟩, m.β, grow_hok hok slot, hev.trans (grow_evolves _ slot), trivial, below_setRow hB⟩
      simp [execOp, hop, e3, Instr.storeAt, Instr.sureAddr, hrun]
    | arr cs0 esz0 fz0 ety0 =>
      rw [hob] at hs
      simp only [Option.bind_eq_bind, Option.bind_eq_some_iff, Prod.exists] at hs
      obtain ⟨xv, us0, h2, h3⟩ := hs
      have e2' : RepA B S m (ρ Y') (a.eval y) := by
        cases hd : ρ Y' with
        | tup ds => rw [hd] at h2; simp [frzV, frz] at h2
        | _ => rw [hd] at e2; exact e2
      obtain ⟨k1, k2, k3⟩ := frzV_ok hk e2' h2
      obtain ⟨f1, f2⟩ := k3.cells_ok
      cases hob2 : getH (updH m.h us0) id with
      | dead => rw [hob2] at h3; cases h3
      | box ds => rw [hob2] at h3; cases h3
      | arr cs esz fz ety =>
        rw [hob2] at h3
        simp only at h3
        split at h3
        case isFalse => cases h3
        rename_i hc
        obtain ⟨c1, c2, c3⟩ := hc
        simp only [Option.some.injEq, Prod.mk.injEq] at h3
        obtain ⟨rfl, rfl⟩ := h3
        obtain ⟨hB, vs, hv1, hvl, hv2⟩ := k1.arr (id := id) hob2
        replace hB : B ≤ m.β id := hB
        replace hv1 : m.w.heap[m.β id]? = some (.cells vs.toArray ety (0, 0)) := hv1
        have hlen : (a.eval y).cells.size = i.size := by rw [← c1, f1.len]; simp
        have hrun := run_storeVar_row (P := P) (off := off) h1 hv1 hlen (by omega) f2
        have hsl : (splice vs off (a.eval y).cells.toList).length = vs.length := splice_length (by simp; omega)
        have hother : ∀ k, k ≠ m.β id → (m.w.setRow (m.β id) (splice vs off (a.eval y).cells.toList).toArray).heap[k]? = m.w.heap[k]? := fun k hk' => setRow_other _ _ _ _ hk'
        have hev : Evolves B S (m.heap (updH m.h us0)) ((m.heap (updH m.h us0)).upd (m.w.setRow (m.β id) (splice vs off (a.eval y).cells.toList).toArray) id (.arr (splice cs off xv.cells) esz fz ety)) := by
          refine upd_evolves k1 (id := id) hob2 (o' := .arr (splice cs off xv.cells) esz fz ety) ⟨rfl, rfl, Nat.le_refl _⟩ hother (fun q u hq hcell => ?_) ?_
          · have hq' : q < fz := hq
            have hcell' : m.w.cell? ⟨m.β id, q, none⟩ = some u := hcell
            rw [cell_row hv1] at hcell'
            show (m.w.setRow (m.β id) _).cell? ⟨m.β id, q, none⟩ = some u
            rw [cell_row (setRow_heap _ _ _ _ _ _ hv1), splice_get_lt (by omega) (by omega)]
            exact hcell'
          · show (m.w.setRow (m.β id) _).shape? (m.β id) = m.w.shape? (m.β id)
            simp [World.shape?, setRow_heap _ _ _ _ _ _ hv1, hv1, hsl]
        have hcl : (splice cs off xv.cells).length = cs.length := splice_length (by omega)
        have hok := upd_hok k1 (id := id) (by rw [show getH (m.heap (updH m.h us0)).h id = _ from hob2]; simp) hev hother (by simp [M.heap])
          ⟨hB, _, setRow_heap _ _ _ _ _ _ hv1, by rw [hcl, hsl]; exact hvl, by
            rw [hcl, splice_take (by simp; omega) hvl]
            exact (hv2.splice off f1).mono fun c u h => RepC.mono hev.cell c u h⟩
        refine ⟨_, undef, m.w.setRow (m.β id) (splice vs off (a.eval y).cells.toList).toArray, ?_, .inr ⟨rfl, rfl⟩, m.β, ?_, ?_, trivial, below_setRow hB⟩
        · simp [execOp, hop, e3, Instr.storeAt, Instr.sureAddr, hrun]
        · rw [updH_append]; exact grow_hok hok slot
        · rw [updH_append]; exact k2.trans (hev.trans (grow_evolves _ slot))
  · cases hs

end
end Go.Ev
