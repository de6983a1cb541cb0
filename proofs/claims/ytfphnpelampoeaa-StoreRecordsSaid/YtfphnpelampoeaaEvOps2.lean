/-
  Addresses, loads, slices of slices, strings of bytes: the operations that read memory and leave it.
-/
import Derived.Test.YtfphnpelampoeaaEvOps
namespace Go.Ev
open Go.RowKit

section
variable {B : Nat} {S : Nat → Nat → Prop} {P : Program} {o : Oper} {a : Act} {m : M} {slot : Nat} {ρ : X → D} {d : D} {us : List (Nat × Obj)}

theorem run_isAgg {t : TypeId} {b : Bool} (h : aggB P t = some b) (w : World) : (isAgg t).run P w = .ok b w := by
  unfold aggB at h
  cases hu : P.underlying t with
  | none => rw [hu] at h; cases h
  | some td => rw [hu] at h; cases td <;> simp at h <;> subst h <;> simp [isAgg, run_underlying hu]

theorem run_sizeOf {t : TypeId} {i : TypeInfo} (h : P.info? t = some i) (w : World) : (sizeOf t).run P w = .ok i.size w := by simp [sizeOf, typeInfo, h]

/-- a variable of one cell, and one of many -/
theorem run_loadVar_one {t : TypeId} (h : aggB P t = some false) {w : World} {ad : Addr} {v : Value} (hc : w.cell? ad = some v) : (loadVar t ad).run P w = .ok v w := by
  simp [loadVar, run_isAgg h, hc]

theorem run_loadVar_agg {t : TypeId} {i : TypeInfo} (h : aggB P t = some true) (hi : P.info? t = some i) {w : World} {ad : Addr} {vs : List Value} (hl : vs.length = i.size) (hc : ∀ j v, vs[j]? = some v → w.cell? (ad.add j) = some v) :
    (loadVar t ad).run P w = .ok (.agg vs.toArray) w := by
  have := run_loadCells_list (P := P) w ad vs hc
  rw [hl] at this
  simp [loadVar, run_isAgg h, run_sizeOf hi, this]

theorem loadD_ok (hk : HOK B S m) {t : TypeId} {i : TypeInfo} {agg : Bool} (h1 : aggB P t = some agg) (h2 : P.info? t = some i) {x d : D} {u : Value} (hr : RepD B S m x u) (hl : loadD m.h agg i.size x = some d) :
    ∃ ad v, u = .pointer (some ad) ∧ (loadVar t ad).run P m.w = .ok v m.w ∧ RepA B S m d v := by
  cases x with
  | loc id off =>
    obtain ⟨_, rfl⟩ := hr
    refine ⟨⟨m.β id, off, none⟩, ?_⟩
    simp only [loadD] at hl
    cases ho : getH m.h id with
    | dead => rw [ho] at hl; cases hl
    | box ds =>
      rw [ho] at hl
      obtain ⟨_, vs, e, hv1, hv2⟩ := hk.box ho
      cases agg with
      | true =>
        simp only [if_true] at hl
        split at hl
        case isFalse => cases hl
        rename_i hle
        simp only [Option.some.injEq] at hl
        subst hl
        have hall := (hv2.drop off).take i.size
        have hlen : ((vs.drop off).take i.size).length = i.size := by
          rw [← hall.len, List.length_take, List.length_drop]; omega
        refine ⟨.agg ((vs.drop off).take i.size).toArray, rfl, run_loadVar_agg h1 h2 hlen fun j v hv => ?_, _, rfl, hall⟩
        have hj : j < i.size := by have := (List.getElem?_eq_some_iff.1 hv).1; simp at this; omega
        rw [List.getElem?_take_of_lt hj, List.getElem?_drop] at hv
        rw [add_off, cell_row hv1]; exact hv
      | false =>
        simp only [if_false, Bool.false_eq_true] at hl
        obtain ⟨v, hv3, hv4⟩ := hv2.get off hl
        exact ⟨v, rfl, run_loadVar_one h1 (by rw [cell_row hv1]; exact hv3), hv4.toA⟩
    | arr cs esz fz ety =>
      rw [ho] at hl
      obtain ⟨_, vs, hv1, hvl, hv2⟩ := hk.arr ho
      cases agg with
      | true =>
        simp only [if_true] at hl
        split at hl
        case isFalse => cases hl
        rename_i hle
        simp only [Option.some.injEq] at hl
        subst hl
        have hall := (hv2.drop off).take i.size
        have hlen : (((vs.take cs.length).drop off).take i.size).length = i.size := by
          rw [← hall.len, List.length_take, List.length_drop]; omega
        refine ⟨.agg (((vs.take cs.length).drop off).take i.size).toArray, rfl, run_loadVar_agg h1 h2 hlen fun j v hv => ?_, _, rfl, All2.map_left hall⟩
        have hj : j < i.size := by have := (List.getElem?_eq_some_iff.1 hv).1; simp at this; omega
        rw [List.getElem?_take_of_lt hj, List.getElem?_drop, List.getElem?_take_of_lt (by omega)] at hv
        rw [add_off, cell_row hv1]; exact hv
      | false =>
        simp only [if_false, Bool.false_eq_true, Option.map_eq_some_iff] at hl
        obtain ⟨c, hc, rfl⟩ := hl
        obtain ⟨v, hv3, hv4⟩ := hv2.get off hc
        have hoff : off < cs.length := (List.getElem?_eq_some_iff.1 hc).1
        rw [List.getElem?_take_of_lt hoff] at hv3
        exact ⟨v, rfl, run_loadVar_one h1 (by rw [cell_row hv1]; exact hv3), hv4⟩
  | ptr cs =>
    obtain ⟨ad, rfl, hsp, hr⟩ := hr
    refine ⟨ad, ?_⟩
    simp only [loadD] at hl
    obtain ⟨vs, hv1, hv2⟩ := RepCs_get hr
    obtain ⟨b, of, sp⟩ := ad
    cases agg with
    | true =>
      simp only [if_true] at hl
      split at hl
      case isFalse => cases hl
      rename_i hle
      simp only [Option.some.injEq] at hl
      subst hl
      have hall := hv1.take i.size
      have hlen : (vs.take i.size).length = i.size := by
        rw [← hall.len, List.length_take]; omega
      refine ⟨.agg (vs.take i.size).toArray, rfl, run_loadVar_agg h1 h2 hlen fun j v hv => ?_, _, rfl, All2.map_left hall⟩
      have hj : j < i.size := by have := (List.getElem?_eq_some_iff.1 hv).1; simp at this; omega
      rw [List.getElem?_take_of_lt hj] at hv
      have hne : cs ≠ [] := by
        intro e; subst e
        cases vs with
        | nil => simp at hv
        | cons _ _ => exact hv1.elim
      have := hsp hne
      simp only at this
      subst this
      rw [add_off]; exact (hv2 j v hv).1
    | false =>
      simp only [if_false, Bool.false_eq_true, Option.map_eq_some_iff] at hl
      obtain ⟨c, hc, rfl⟩ := hl
      obtain ⟨v, hv3, hv4⟩ := hv1.get 0 hc
      have hne : cs ≠ [] := by intro e; subst e; simp at hc
      have := hsp hne
      simp only at this
      subst this
      exact ⟨v, rfl, run_loadVar_one h1 (by have := (hv2 0 v hv3).1; simpa using this), hv4⟩
  | unk => simp [loadD] at hl
  | c x => simp [loadD] at hl
  | arr id off len => simp [loadD] at hl
  | agg ds => simp [loadD] at hl
  | tup ds => simp [loadD] at hl

theorem does_load (hk : HOK B S m) (ho : Opd B S m ρ a) {t : TypeId} {x : Operand} {X' : X} {i : TypeInfo} {agg : Bool} (hop : o.op = .load t x) (h1 : aggB P t = some agg) (h2 : P.info? t = some i) (hx : compX x = some X')
    (hs : step ρ m.h slot (.load agg i.size X') = some (d, us)) : Does B S P o a m slot d us := by
  simp only [step] at hs
  obtain ⟨h3, rfl⟩ := pureD_some hs
  obtain ⟨ad, v, e1, e2, e3⟩ := loadD_ok hk h1 h2 (ho x X' hx) h3
  refine does_pure hk slot (v := v) ?_ e3.toD
  simp [execOp, hop, Instr.loadAt, e1, Instr.sureAddr, e2]

theorem fieldsOf_some {t : TypeId} {fs : List Field} (h : fieldsOf P t = some fs) : P.underlying t = some (.struct fs.toArray) := by
  unfold fieldsOf at h
  split at h
  · rename_i f hf; simp at h; subst h; simpa using hf
  · cases h

theorem does_fadr (hk : HOK B S m) (ho : Opd B S m ρ a) {t : TypeId} {x : Operand} {X' : X} {f : Nat} {fs : List Field} {fl : Field} {i : TypeInfo} (hop : o.op = .fieldAddr t x f) (h1 : fieldsOf P t = some fs) (h2 : fs[f]? = some fl) (h3 : P.info? fl.type = some i) (h4 : 0 < i.size)
    (hx : compX x = some X') (hs : step ρ m.h slot (.fadr fl.offset X') = some (d, us)) : Does B S P o a m slot d us := by
  have hu := fieldsOf_some h1
  have e1 := ho x X' hx
  have hsz : ¬ i.size = 0 := by omega
  have run : ∀ ad : Addr, a.eval x = .pointer (some ad) → (execOp a.eval o).run P m.w = .ok (.value (.pointer (some (ad.add fl.offset)))) m.w := by
    intro ad he
    simp [execOp, hop, Instr.fieldAt, run_underlying hu, h2, he, Instr.sureAddr, fieldPlace, run_sizeOf h3, hsz]
  simp only [step] at hs
  split at hs
  · rename_i id off he
    simp only [Option.some.injEq, Prod.mk.injEq] at hs
    obtain ⟨rfl, rfl⟩ := hs
    rw [he] at e1
    obtain ⟨hU, e2⟩ := e1
    refine does_pure hk slot (run _ e2) ⟨hU, ?_⟩
    rw [add_off]
  · rename_i cs he
    simp only [Option.some.injEq, Prod.mk.injEq] at hs
    obtain ⟨rfl, rfl⟩ := hs
    rw [he] at e1
    obtain ⟨ad, e2, e3, e4⟩ := e1
    refine does_pure hk slot (run _ e2) ⟨ad.add fl.offset, rfl, ?_, ?_⟩
    · intro hne
      unfold Addr.add
      split
      · exact e3 fun e => hne (by rw [e]; simp)
      · rfl
    · have := RepCs_drop fl.offset e4
      unfold Addr.add
      split
      · rename_i h0; rw [h0] at this ⊢; simpa using this
      · exact this
  · cases hs

theorem does_nilck (hk : HOK B S m) (ho : Opd B S m ρ a) {x : Operand} {X' : X} (hop : o.op = .nilCheck x) (hx : compX x = some X') (hs : step ρ m.h slot (.nilck X') = some (d, us)) : Does B S P o a m slot d us := by
  have e1 := ho x X' hx
  have run : ∀ ad : Addr, a.eval x = .pointer (some ad) → (execOp a.eval o).run P m.w = .ok (.value (a.eval x)) m.w := by
    intro ad he
    simp [execOp, hop, he]
  simp only [step] at hs
  split at hs
  · rename_i id off he
    simp only [Option.some.injEq, Prod.mk.injEq] at hs
    obtain ⟨rfl, rfl⟩ := hs
    rw [he] at e1
    obtain ⟨hU, e2⟩ := e1
    exact does_pure hk slot (run _ e2) ⟨hU, e2⟩
  · rename_i cs he
    simp only [Option.some.injEq, Prod.mk.injEq] at hs
    obtain ⟨rfl, rfl⟩ := hs
    rw [he] at e1
    obtain ⟨ad, e2, e3, e4⟩ := e1
    exact does_pure hk slot (run _ e2) ⟨ad, e2, e3, e4⟩
  · cases hs

theorem does_fld (hk : HOK B S m) (ho : Opd B S m ρ a) {t : TypeId} {x : Operand} {X' : X} {f : Nat} {fs : List Field} {fl : Field} {i : TypeInfo} {agg : Bool} (hop : o.op = .field t x f) (h1 : fieldsOf P t = some fs) (h2 : fs[f]? = some fl) (h3 : P.info? fl.type = some i)
    (h4 : aggB P fl.type = some agg) (hx : compX x = some X') (hs : step ρ m.h slot (.fld fl.offset agg i.size X') = some (d, us)) : Does B S P o a m slot d us := by
  have hu := fieldsOf_some h1
  have e1 := ho x X' hx
  simp only [step] at hs
  split at hs
  · rename_i ds he
    rw [he] at e1
    obtain ⟨vs, e2, e3⟩ := e1
    cases agg with
    | true =>
      simp only [if_true] at hs
      split at hs
      case isFalse => cases hs
      simp only [Option.some.injEq, Prod.mk.injEq] at hs
      obtain ⟨rfl, rfl⟩ := hs
      refine does_pure hk slot (v := .agg ((vs.drop fl.offset).take i.size).toArray) ?_ ⟨_, rfl, (e3.drop _).take _⟩
      simp [execOp, hop, Instr.field, run_underlying hu, h2, e2, asAgg, part, run_isAgg h4, run_sizeOf h3]
    | false =>
      simp only [if_false, Bool.false_eq_true] at hs
      obtain ⟨h5, rfl⟩ := pureD_some hs
      obtain ⟨v, h6, h7⟩ := e3.get _ h5
      refine does_pure hk slot (v := v) ?_ h7.toD
      simp [execOp, hop, Instr.field, run_underlying hu, h2, e2, asAgg, part, run_isAgg h4, h6]
  · cases hs

theorem elemOfSlice_some {t e : TypeId} (h : elemOfSlice P t = some e) : P.underlying t = some (.slice e) := by
  unfold elemOfSlice at h
  split at h
  · rename_i f hf; simp at h; subst h; exact hf
  · cases h

theorem does_iadr (hk : HOK B S m) (ho : Opd B S m ρ a) {t e : TypeId} {x y : Operand} {X' Y' : X} {i : TypeInfo} (hop : o.op = .indexAddr t x y) (h1 : elemOfSlice P t = some e) (h2 : P.info? e = some i) (hx : compX x = some X') (hy : compX y = some Y')
    (hs : step ρ m.h slot (.iadr i.size X' Y') = some (d, us)) : Does B S P o a m slot d us := by
  have hu := elemOfSlice_some h1
  have e1 := ho x X' hx
  have e2 := ho y Y' hy
  simp only [step] at hs
  obtain ⟨h3, rfl⟩ := pureD_some hs
  have run : ∀ (ad : Addr) (len cap : Nat) (k : IntKind) (n : Int), a.eval x = .slice (some ad) len cap → a.eval y = .int k n → 0 ≤ n → n < len →
      (execOp a.eval o).run P m.w = .ok (.value (.pointer (some (ad.add (n.toNat * i.size))))) m.w := by
    intro ad len cap k n he1 he2 h0 hn
    simp [execOp, hop, Instr.indexAt, he1, he2, asIntOf, run_underlying hu, h0, hn, run_sizeOf h2]
  unfold iadrD at h3
  split at h3
  · rename_i id off len he
    cases hob : getH m.h id with
    | dead => rw [hob] at h3; cases h3
    | box ds => rw [hob] at h3; cases h3
    | arr cs esz fz ety =>
      rw [hob] at h3
      simp only [Option.bind_eq_bind, Option.bind_eq_some_iff] at h3
      obtain ⟨n, h4, h5⟩ := h3
      split at h5
      case isFalse => cases h5
      rename_i hn
      simp only [Option.some.injEq] at h5
      subst h5
      obtain ⟨k, h6⟩ := asInt_some h4
      rw [h6] at e2
      rw [he] at e1
      obtain ⟨hU, ad, cap, e3, e4, e5⟩ := e1
      rw [hob] at e5
      rcases e5 with ⟨rfl, _⟩ | ⟨hz, _⟩
      · refine does_pure hk slot (run _ len cap k n e3 e2.lit hn.1 hn.2) ⟨hU, ?_⟩
        rw [add_off]
      · have := hn.1; have := hn.2; omega
  · rename_i cs q he
    simp only [Option.bind_eq_bind, Option.bind_eq_some_iff] at h3
    obtain ⟨n, h4, h5⟩ := h3
    split at h5
    case isFalse => cases h5
    rename_i hn
    simp only [Option.some.injEq] at h5
    subst h5
    obtain ⟨k, h6⟩ := asInt_some h4
    rw [h6] at e2
    rw [he] at e1
    have e1' : RepC m.w (Safe B S m) (.slice cs q) (a.eval x) := e1
    simp only [RepC] at e1'
    obtain ⟨ad, cap, e3, e4, e5, e6⟩ := e1'
    refine does_pure hk slot (run ad q cap k n e3 e2.lit hn.1 hn.2) ⟨ad.add (n.toNat * i.size), rfl, ?_, ?_⟩
    · intro hne
      unfold Addr.add
      split
      · exact e5 fun e => hne (by rw [e]; simp)
      · rfl
    · have := RepCs_drop (n.toNat * i.size) e6
      unfold Addr.add
      split
      · rename_i h0; rw [h0] at this ⊢; simpa using this
      · exact this
  · cases h3

theorem does_sidx (hk : HOK B S m) (ho : Opd B S m ρ a) {t : TypeId} {x y : Operand} {X' Y' : X} (hop : o.op = .index t x y) (h1 : P.underlying t = some .string) (hx : compX x = some X') (hy : compX y = some Y')
    (hs : step ρ m.h slot (.sidx X' Y') = some (d, us)) : Does B S P o a m slot d us := by
  have e1 := ho x X' hx
  have e2 := ho y Y' hy
  simp only [step] at hs
  obtain ⟨h3, rfl⟩ := pureD_some hs
  split at h3
  · rename_i s he
    simp only [Option.bind_eq_bind, Option.bind_eq_some_iff] at h3
    obtain ⟨n, h4, h5⟩ := h3
    split at h5
    case isFalse => cases h5
    rename_i hn
    simp only [Option.map_eq_some_iff] at h5
    obtain ⟨b, h6, rfl⟩ := h5
    obtain ⟨k, h7⟩ := asInt_some h4
    rw [h7] at e2
    rw [he] at e1
    refine does_pure hk slot (v := .int .u8 b.toNat) ?_ (RepD.mkLit rfl)
    have h8 : s[n.toNat]? = some b := by
      have hlt : n.toNat < s.data.size := (Array.getElem?_eq_some_iff.1 h6).1
      have hv := (Array.getElem?_eq_some_iff.1 h6).2
      have hlt' : n.toNat < s.size := hlt
      rw [getElem?_pos s n.toNat hlt']
      exact congrArg some hv
    simp [execOp, hop, Instr.index, e1.lit, e2.lit, asIntOf, run_underlying h1, hn, h8]
  · cases h3

end
end Go.Ev
