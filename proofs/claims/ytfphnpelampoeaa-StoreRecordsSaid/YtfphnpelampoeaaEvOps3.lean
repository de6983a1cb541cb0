/-
  Slices of slices and of strings, strings of bytes; new memory: variables, boxes, rows.
-/
import Derived.Test.YtfphnpelampoeaaEvOps2
namespace Go.Ev
open Go.RowKit

section
variable {B : Nat} {S : Nat → Nat → Prop} {P : Program} {o : Oper} {a : Act} {m : M} {slot : Nat} {ρ : X → D} {d : D} {us : List (Nat × Obj)}

/-- a bound of a slice expression: what the evaluator reads is what the model reads -/
def BoundIs (x : Option Value) (dflt n : Nat) : Prop :=
  match x with
  | none => n = dflt
  | some v => ∃ k i, v = .int k i ∧ 0 ≤ i ∧ i.toNat = n

theorem loOf_ok {x : Option Operand} {X' : Option X} (ho : Opd B S m ρ a) (hx : compOX x = some X') {l : Nat} (h : loOf (X'.map ρ) = some l) : BoundIs (x.map a.eval) 0 l := by
  cases x with
  | none => simp [compOX] at hx; subst hx; simp [loOf] at h; simp [BoundIs, h]
  | some y =>
    simp only [compOX, Option.bind_eq_bind, Option.bind_eq_some_iff, Option.some.injEq] at hx
    obtain ⟨Y, hy, rfl⟩ := hx
    simp only [Option.map_some, loOf, Option.bind_eq_bind, Option.bind_eq_some_iff] at h
    obtain ⟨n, h1, h2⟩ := h
    split at h2
    case isFalse => cases h2
    rename_i h0
    simp only [Option.some.injEq] at h2
    obtain ⟨k, h3⟩ := asInt_some h1
    have e := ho y Y hy
    rw [h3] at e
    exact ⟨k, n, e.lit, h0, h2⟩

theorem hiOf_ok {x : Option Operand} {X' : Option X} (ho : Opd B S m ρ a) (hx : compOX x = some X') {len l : Nat} (h : hiOf len (X'.map ρ) = some l) : BoundIs (x.map a.eval) len l := by
  cases x with
  | none => simp [compOX] at hx; subst hx; simp [hiOf] at h; simp [BoundIs, h]
  | some y =>
    simp only [compOX, Option.bind_eq_bind, Option.bind_eq_some_iff, Option.some.injEq] at hx
    obtain ⟨Y, hy, rfl⟩ := hx
    simp only [Option.map_some, hiOf, Option.bind_eq_bind, Option.bind_eq_some_iff] at h
    obtain ⟨n, h1, h2⟩ := h
    split at h2
    case isFalse => cases h2
    rename_i h0
    simp only [Option.some.injEq] at h2
    obtain ⟨k, h3⟩ := asInt_some h1
    have e := ho y Y hy
    rw [h3] at e
    exact ⟨k, n, e.lit, h0, h2⟩

theorem run_bounds {w : World} {isSlice : Bool} {len cap l r : Nat} {lo hi : Option Value} (h1 : BoundIs lo 0 l) (h2 : BoundIs hi len r) (hl : l ≤ r) (hr : r ≤ cap) :
    (Instr.sliceBounds isSlice len cap lo hi none).run P w = .ok (l, r, cap) w := by
  have low : ∀ code, (match lo with | some v => Instr.sliceBound v r code | none => pure 0 : Sem Nat).run P w = .ok l w := by
    intro code
    cases lo with
    | none => simp only [BoundIs] at h1; subst h1; rfl
    | some v =>
      obtain ⟨k, i, rfl, h3, h4⟩ := h1
      have := run_sliceBound (P := P) w k i r code h3 (by omega)
      simp only [this, h4]
  cases hi with
  | none =>
    simp only [BoundIs] at h2
    subst h2
    have := low .sliceB
    cases lo with
    | none => simp [Instr.sliceBounds] at this ⊢; exact this
    | some v => simp [Instr.sliceBounds] at this ⊢; simp [this]
  | some v =>
    obtain ⟨k, i, rfl, h3, h4⟩ := h2
    have e : ∀ code, (Instr.sliceBound (.int k i) cap code).run P w = .ok r w := fun code => by
      rw [run_sliceBound (P := P) w k i cap code h3 (by omega), h4]
    have := low .sliceB
    cases lo with
    | none => simp [Instr.sliceBounds, e] at this ⊢; exact this
    | some v => simp [Instr.sliceBounds, e] at this ⊢; simp [this]

theorem does_slc (hk : HOK B S m) (ho : Opd B S m ρ a) {t e : TypeId} {x : Operand} {lo hi : Option Operand} {X' : X} {Lo Hi : Option X} {i : TypeInfo} (hop : o.op = .slice t x lo hi none) (h1 : P.underlying t = some (.slice e)) (h2 : P.info? e = some i)
    (hx : compX x = some X') (hlo : compOX lo = some Lo) (hhi : compOX hi = some Hi) (hs : step ρ m.h slot (.slc i.size X' Lo Hi) = some (d, us)) : Does B S P o a m slot d us := by
  have e1 := ho x X' hx
  simp only [step] at hs
  obtain ⟨h3, rfl⟩ := pureD_some hs
  have run : ∀ (ad : Option Addr) (len cap l r : Nat), a.eval x = .slice ad len cap → BoundIs (lo.map a.eval) 0 l → BoundIs (hi.map a.eval) len r → l ≤ r → r ≤ cap →
      (execOp a.eval o).run P m.w = .ok (.value (.slice (if cap = l then ad else ad.map (·.add (l * i.size))) (r - l) (cap - l))) m.w := by
    intro ad len cap l r he hb1 hb2 hl hr
    have hb := run_bounds (P := P) (w := m.w) (isSlice := true) hb1 hb2 hl hr
    simp [execOp, hop, Instr.sliceAt, Instr.slice, run_underlying h1, he, hb, run_sizeOf h2]
  unfold slcD at h3
  split at h3
  · rename_i he
    simp only [Option.bind_eq_bind, Option.bind_eq_some_iff] at h3
    obtain ⟨l, h4, r, h5, h6⟩ := h3
    split at h6
    case isFalse => cases h6
    rename_i hz
    obtain ⟨rfl, rfl⟩ := hz
    simp only [Option.some.injEq] at h6
    subst h6
    rw [he] at e1
    have := run none 0 0 0 0 e1.lit (loOf_ok ho hlo h4) (hiOf_ok ho hhi h5) (Nat.le_refl _) (Nat.le_refl _)
    exact does_pure hk slot this (RepD.mkLit rfl)
  · rename_i cs n he
    simp only [Option.bind_eq_bind, Option.bind_eq_some_iff] at h3
    obtain ⟨l, h4, r, h5, h6⟩ := h3
    split at h6
    case isFalse => cases h6
    rename_i hb
    obtain ⟨hlr, hrn⟩ := hb
    simp only [Option.some.injEq] at h6
    subst h6
    rw [he] at e1
    have e1' : RepC m.w (Safe B S m) (.slice cs n) (a.eval x) := e1
    simp only [RepC] at e1'
    obtain ⟨ad, cap, e2, e3, e4, e5⟩ := e1'
    have := run (some ad) n cap l r e2 (loOf_ok ho hlo h4) (hiOf_ok ho hhi h5) hlr (by omega)
    refine does_pure hk slot this ?_
    show RepC m.w (Safe B S m) (.slice _ _) _
    simp only [RepC]
    by_cases hc : cap = l
    · rw [if_pos hc]
      have hz : r - l = 0 := by omega
      refine ⟨ad, cap - l, rfl, by omega, ?_, ?_⟩
      · rw [hz]; simp
      · rw [hz]; simp [RepCs]
    · rw [if_neg hc]
      refine ⟨ad.add (l * i.size), cap - l, rfl, by omega, ?_, ?_⟩
      · intro hne
        unfold Addr.add
        split
        · exact e4 fun e => hne (by rw [e]; simp)
        · rfl
      · have := RepCs_take ((r - l) * i.size) (RepCs_drop (l * i.size) e5)
        unfold Addr.add
        split
        · rename_i h0; rw [h0] at this ⊢; simpa using this
        · exact this
  · rename_i id off len he
    cases hob : getH m.h id with
    | dead => rw [hob] at h3; cases h3
    | box ds => rw [hob] at h3; cases h3
    | arr cs esz fz ety =>
      rw [hob] at h3
      simp only [Option.bind_eq_bind, Option.bind_eq_some_iff] at h3
      obtain ⟨l, h4, r, h5, h6⟩ := h3
      split at h6
      case isFalse => cases h6
      rename_i hb
      obtain ⟨rfl, hlr, hrn⟩ := hb
      simp only [Option.some.injEq] at h6
      subst h6
      rw [he] at e1
      obtain ⟨hU, ad, cap, e2, e3, e4⟩ := e1
      have := run (some ad) len cap l r e2 (loOf_ok ho hlo h4) (hiOf_ok ho hhi h5) hlr (by omega)
      refine does_pure hk slot this ⟨hU, ?_⟩
      by_cases hc : cap = l
      · rw [if_pos hc]
        refine ⟨ad, cap - l, rfl, by omega, ?_⟩
        rw [hob]
        exact .inr ⟨by omega, by omega⟩
      · rw [if_neg hc]
        refine ⟨ad.add (l * i.size), cap - l, rfl, by omega, ?_⟩
        rw [hob] at e4 ⊢
        rcases e4 with ⟨rfl, sz, e5, e6, e7⟩ | ⟨h7, h8⟩
        · refine .inl ⟨by rw [add_off], sz, e5, ?_, by omega⟩
          rw [← e6, Nat.sub_mul, Nat.add_assoc]
          have : l * i.size ≤ cap * i.size := Nat.mul_le_mul_right _ (by omega)
          omega
        · omega
  · cases h3

theorem does_sls (hk : HOK B S m) (ho : Opd B S m ρ a) {t : TypeId} {x : Operand} {lo hi : Option Operand} {X' : X} {Lo Hi : Option X} (hop : o.op = .slice t x lo hi none) (h1 : P.underlying t = some .string)
    (hx : compX x = some X') (hlo : compOX lo = some Lo) (hhi : compOX hi = some Hi) (hs : step ρ m.h slot (.sls X' Lo Hi) = some (d, us)) : Does B S P o a m slot d us := by
  have e1 := ho x X' hx
  simp only [step] at hs
  obtain ⟨h3, rfl⟩ := pureD_some hs
  unfold slsD at h3
  split at h3
  · rename_i s he
    simp only [Option.bind_eq_bind, Option.bind_eq_some_iff] at h3
    obtain ⟨l, h4, r, h5, h6⟩ := h3
    split at h6
    case isFalse => cases h6
    rename_i hb
    simp only [Option.some.injEq] at h6
    subst h6
    rw [he] at e1
    have hb := run_bounds (P := P) (w := m.w) (isSlice := false) (loOf_ok ho hlo h4) (hiOf_ok ho hhi h5) hb.1 hb.2
    refine does_pure hk slot (v := .string (s.extract l r)) ?_ (RepD.mkLit rfl)
    simp [execOp, hop, Instr.sliceAt, Instr.slice, run_underlying h1, e1.lit, hb]
  · cases h3

theorem bytesOf_ok {w : World} {Sf : Nat → Nat → Prop} : ∀ {cs : List C} {vs : List Value} {bs : List UInt8}, bytesOf cs = some bs → All2 (RepC w Sf) cs vs →
    ∃ ns : List Int, vs = ns.map (Value.int .u8) ∧ bs = ns.map fun n => UInt8.ofNat n.toNat
  | [], [], bs, h, _ => by simp [bytesOf] at h; subst h; exact ⟨[], rfl, rfl⟩
  | c :: cs, v :: vs, bs, h, hr => by
    unfold bytesOf at h
    split at h
    · rename_i heq; cases heq
    · rename_i n r heq
      simp only [List.cons.injEq] at heq
      obtain ⟨rfl, rfl⟩ := heq
      simp only [Option.bind_eq_bind, Option.bind_eq_some_iff, Option.some.injEq] at h
      obtain ⟨bs', h1, rfl⟩ := h
      obtain ⟨ns, rfl, rfl⟩ := bytesOf_ok h1 hr.2
      have h2 := hr.1
      simp only [RepC] at h2
      exact ⟨n :: ns, by rw [h2.1]; rfl, rfl⟩
    · cases h
  | [], _ :: _, _, _, h => h.elim
  | _ :: _, [], _, _, h => h.elim

theorem foldl_push (ns : List Int) : ∀ s : ByteArray, ns.foldl (fun r n => r.push (UInt8.ofNat n.toNat)) s = ⟨s.data ++ (ns.map fun n => UInt8.ofNat n.toNat).toArray⟩ := by
  induction ns with
  | nil => intro s; cases s; simp
  | cons n ns ih =>
    intro s
    simp only [List.foldl_cons, ih, List.map_cons]
    cases s
    simp [ByteArray.push]

theorem does_toStr (hk : HOK B S m) (ho : Opd B S m ρ a) {src dst e : TypeId} {x : Operand} {X' : X} (hop : o.op = .convert src dst x) (h1 : P.underlying src = some (.slice e)) (h2 : P.underlying dst = some .string) (h3 : P.underlying e = some (.int .u8))
    (hx : compX x = some X') (hs : step ρ m.h slot (.toStr X') = some (d, us)) : Does B S P o a m slot d us := by
  have e1 := ho x X' hx
  simp only [step] at hs
  obtain ⟨h4, rfl⟩ := pureD_some hs
  simp only [Option.bind_eq_bind, Option.bind_eq_some_iff, Prod.exists] at h4
  obtain ⟨cs, n, h50, bs, h6, h7⟩ := h4
  have h5 : srcOf m.h 1 (ρ X') = some (cs, n) := by
    unfold srcB at h50
    split at h50
    · cases h50
    · exact h50
  have hnos : ∀ s, ρ X' ≠ .c (.lit (.string s)) := by
    intro s he
    rw [he] at h50
    cases h50
  split at h7
  case isFalse => cases h7
  rename_i hl
  simp only [Option.some.injEq] at h7
  subst h7
  obtain ⟨news, hn1, hn2⟩ := srcOf_ok (P := P) hk e1 h5 (by rw [hl, Nat.mul_one])
  obtain ⟨ns, rfl, rfl⟩ := bytesOf_ok h6 hn1
  refine does_pure hk slot (v := .string ⟨(ns.map fun n => UInt8.ofNat n.toNat).toArray⟩) ?_ (RepD.mkLit rfl)
  have hf := hn2.all (w' := m.w) rfl
  have hlen := hn2.len
  cases hv : a.eval x with
  | slice ad l c =>
    rw [hv] at hf hlen
    simp only [Builtin.lenOf] at hlen
    have hl2 : l = n := by injection hlen
    subst hl2
    have hc := run_convert_bytes_string (P := P) m.w src dst e ad l c h1 h3 h2
    cases ad with
    | none =>
      simp only [Builtin.firstCells] at hf
      have : ns = [] := by
        have h9 : (Result.ok #[] m.w : Result (Array Value)) = _ := hf
        simp at h9
        exact h9
      subst this
      simp [execOp, hop, hv, hc, Conv.bytesToString]
      rfl
    | some ad =>
      simp only [Builtin.firstCells, Nat.mul_one] at hf
      have hb := run_bytesToString (P := P) m.w ad l c ns hf
      rw [foldl_push] at hb
      simp [execOp, hop, hv, hc, hb]
  | string s =>
    exfalso
    rw [hv] at e1
    unfold srcOf at h5
    split at h5
    · rename_i he; rw [he] at e1; have := e1.lit; cases this
    · rename_i cs' n' he
      rw [he] at e1
      have e1' : RepC m.w (Safe B S m) (.slice cs' n') (.string s) := e1
      simp only [RepC] at e1'
      obtain ⟨_, _, h, _⟩ := e1'
      cases h
    · rename_i s' he; exact hnos s' he
    · rename_i id off len he
      rw [he] at e1
      obtain ⟨_, _, _, h, _⟩ := e1
      cases h
    · cases h5
  | bool _ => rw [hv] at hlen; simp [Builtin.lenOf] at hlen; cases hlen
  | _ => rw [hv] at hlen; cases hlen

end
end Go.Ev
