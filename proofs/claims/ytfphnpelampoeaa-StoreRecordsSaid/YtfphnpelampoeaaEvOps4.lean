/-
  The operations that make or write memory.
-/
import Derived.Test.YtfphnpelampoeaaEvOps3
namespace Go.Ev
open Go.RowKit

section
variable {B : Nat} {S : Nat → Nat → Prop} {P : Program} {o : Oper} {a : Act} {m : M} {slot : Nat} {ρ : X → D} {d : D} {us : List (Nat × Obj)}

theorem RepDc.oneCell {m : M} {d : D} {u : Value} (h : RepDc B S m d u) (hc : isCell d = true) : u.oneCell' = true := by
  cases d with
  | c x => exact RepC.oneCell h
  | loc id off => obtain ⟨_, rfl⟩ := h; rfl
  | arr id off len => obtain ⟨_, ad, cap, rfl, _⟩ := h; rfl
  | ptr cs => obtain ⟨ad, rfl, _⟩ := h; rfl
  | _ => cases hc

theorem cells_of_one {u : Value} (h : u.oneCell' = true) : u.cells = #[u] := by
  cases u <;> first | rfl | cases h

theorem all_oneCell : ∀ {ds : List D} {us : List Value}, All2 (RepDc B S m) ds us → ds.all isCell = true → ∀ v ∈ us, v.oneCell' = true
  | [], [], _, _, v, hv => by simp at hv
  | d :: ds, u :: us, h, hc, v, hv => by
    simp only [List.all_cons, Bool.and_eq_true] at hc
    simp only [List.mem_cons] at hv
    rcases hv with rfl | hv
    · exact h.1.oneCell hc.1
    · exact all_oneCell h.2 hc.2 v hv
  | [], _ :: _, h, _, _, _ => h.elim
  | _ :: _, [], h, _, _, _ => h.elim

theorem cellsD_ok {d : D} {u : Value} (h : RepD B S m d u) {ds : List D} (hc : cellsD d = some ds) : All2 (RepDc B S m) ds u.cells.toList ∧ ∀ v ∈ u.cells.toList, v.oneCell' = true := by
  unfold cellsD at hc
  split at hc
  · rename_i ds'
    split at hc
    case isFalse => cases hc
    rename_i hall
    simp only [Option.some.injEq] at hc
    subst hc
    obtain ⟨us, rfl, h2⟩ := h
    exact ⟨h2, all_oneCell h2 hall⟩
  · split at hc
    case isFalse => cases hc
    rename_i hcell
    simp only [Option.some.injEq] at hc
    subst hc
    have h' : RepDc B S m d u := by cases d <;> first | exact h | cases hcell
    have h1 := h'.oneCell hcell
    rw [cells_of_one h1]
    refine ⟨⟨h', trivial⟩, fun v hv => ?_⟩
    simp at hv
    subst hv
    exact h1

theorem RepV.cells_ok {w : World} {Sf : Nat → Nat → Prop} {v : V} {u : Value} (h : RepV w Sf v u) : All2 (RepC w Sf) v.cells u.cells.toList ∧ ∀ x ∈ u.cells.toList, x.oneCell' = true := by
  cases v with
  | one c =>
    have h1 : RepC w Sf c u := h
    rw [cells_of_one h1.oneCell]
    refine ⟨⟨h1, trivial⟩, fun v hv => ?_⟩
    simp at hv
    subst hv
    exact h1.oneCell
  | agg cs =>
    obtain ⟨us, rfl, h1⟩ := h
    exact ⟨h1, All2.mem_right (fun _ _ h2 => h2.oneCell) h1⟩

theorem below_push {w w' : World} {ob : Go.Obj} (hw : w' = w.alloc ob ∨ w' = w.drew.alloc ob) (hB : B ≤ w.heap.size) : Below B w w' := by
  rcases hw with rfl | rfl
  · exact (Below.refl B w).alloc hB ob
  · exact ((Below.refl B w).drew).alloc hB ob

theorem heap_push {w w' : World} {ob : Go.Obj} (hw : w' = w.alloc ob ∨ w' = w.drew.alloc ob) : w'.heap = w.heap.push ob := by
  rcases hw with rfl | rfl <;> rfl

/-- a new object behind some freezing -/
theorem post_alloc (hk : HOK B S m) {us0 : List (Nat × Obj)} (hk1 : HOK B S (m.heap (updH m.h us0))) (hev : Evolves B S m (m.heap (updH m.h us0))) (hs : ¬ m.U slot) {w' : World} {ob : Go.Obj} (hw : w' = m.w.alloc ob ∨ w' = m.w.drew.alloc ob) (o' : Obj) {v : Value}
    (hrep : Evolves B S (m.heap (updH m.h us0)) ((m.heap (updH m.h us0)).put w' slot m.w.heap.size o') → RepOb B S ((m.heap (updH m.h us0)).put w' slot m.w.heap.size o') m.w.heap.size o')
    (hd : Evolves B S m ((m.heap (updH m.h us0)).put w' slot m.w.heap.size o') → RepD B S ((m.heap (updH m.h us0)).put w' slot m.w.heap.size o') d v) : Post B S m slot (us0 ++ [(slot, o')]) d v w' := by
  have hw2 := heap_push hw
  have ev2 := alloc_evolves hk1 (slot := slot) hs (w' := w') (ob := ob) hw2 o'
  have hk2 := alloc_hok hk1 (slot := slot) hs (w' := w') (ob := ob) hw2 o' (hrep ev2)
  refine ⟨setβ m.β slot m.w.heap.size, ?_, ?_, ?_, below_push hw hk.base⟩
  all_goals rw [updH_append]
  · exact hk2
  · exact hev.trans ev2
  · exact hd (hev.trans ev2)

theorem newest {w w' : World} {ob : Go.Obj} (hw : w' = w.alloc ob ∨ w' = w.drew.alloc ob) : w'.heap[w.heap.size]? = some ob := by
  rw [heap_push hw]; simp

/-- a new box -/
theorem does_newbox (hk : HOK B S m) (hs : ¬ m.U slot) {ds : List D} {vs : List Value} {e : TypeId} (hr : All2 (RepDc B S m) ds vs)
    (hrun : (execOp a.eval o).run P m.w = .ok (.value (.pointer (some ⟨m.w.heap.size, 0, none⟩))) (m.w.alloc (.cells vs.toArray e))) : Does B S P o a m slot (.loc slot 0) [(slot, .box ds)] := by
  refine ⟨_, _, _, hrun, .inl rfl, ?_⟩
  refine post_alloc (us0 := []) hk hk (Evolves.refl m) hs (.inl rfl) (.box ds) (fun ev => ⟨hk.base, vs, e, newest (.inl rfl), hr.mono fun _ _ h => ev.repDc h⟩) (fun _ => ⟨.inr rfl, ?_⟩)
  simp [M.put, setβ]

theorem zeroOf_some {t : TypeId} {z : List Value} (h : zeroOf P t = some z) : ∃ i zv, P.info? t = some i ∧ i.zero = some zv ∧ zv.cells.toList = z ∧ (∀ v ∈ z, scalar v = true) ∧ z.length = i.size := by
  unfold zeroOf at h
  simp only [Option.bind_eq_bind, Option.bind_eq_some_iff] at h
  obtain ⟨i, h1, zv, h2, h3⟩ := h
  split at h3
  case isFalse => cases h3
  rename_i hc
  simp only [Option.some.injEq] at h3
  subst h3
  exact ⟨i, zv, h1, h2, rfl, List.all_eq_true.1 hc.1, by simpa using hc.2⟩

theorem all2_lits {w : World} {Sf : Nat → Nat → Prop} : ∀ {z : List Value}, (∀ v ∈ z, scalar v = true) → All2 (RepC w Sf) (z.map C.lit) z
  | [], _ => trivial
  | v :: z, h => ⟨by simp only [RepC]; exact ⟨trivial, h v (by simp)⟩, all2_lits fun x hx => h x (by simp [hx])⟩

theorem all2_dlits {z : List Value} (h : ∀ v ∈ z, scalar v = true) : All2 (RepDc B S m) (z.map fun v => .c (.lit v)) z := by
  have := all2_lits (w := m.w) (Sf := Safe B S m) h
  have h2 : All2 (RepDc B S m) ((z.map C.lit).map D.c) z := All2.map_left this
  rw [List.map_map] at h2
  exact h2

theorem does_new (hk : HOK B S m) (hs0 : ¬ m.U slot) {t : TypeId} {z : List Value} (hop : o.op = .alloc t) (hz : zeroOf P t = some z) (hs : step ρ m.h slot (.alloc z) = some (d, us)) : Does B S P o a m slot d us := by
  obtain ⟨i, zv, h1, h2, h3, h4, _⟩ := zeroOf_some hz
  simp only [step, Option.some.injEq, Prod.mk.injEq] at hs
  obtain ⟨rfl, rfl⟩ := hs
  refine does_newbox hk hs0 (all2_dlits h4) (e := t) ?_
  simp [execOp, hop, Instr.alloc, zeroValue, typeInfo, h1, h2, newVar, newRow, ← h3]

theorem does_box (hk : HOK B S m) (ho : Opd B S m ρ a) (hs0 : ¬ m.U slot) {t : TypeId} {x : Operand} {X' : X} (hop : o.op = .box t x) (hx : compX x = some X') (hs : step ρ m.h slot (.box X') = some (d, us)) : Does B S P o a m slot d us := by
  simp only [step, Option.bind_eq_bind, Option.bind_eq_some_iff, Option.some.injEq, Prod.mk.injEq] at hs
  obtain ⟨ds, h1, rfl, rfl⟩ := hs
  obtain ⟨h2, _⟩ := cellsD_ok (ho x X' hx) h1
  refine does_newbox hk hs0 h2 (e := t) ?_
  simp [execOp, hop, Instr.box, newVar, newRow]

/-- a new row; what it holds may have been frozen for it -/
theorem does_newrow (hk : HOK B S m) (hs : ¬ m.U slot) {us0 : List (Nat × Obj)} (hk1 : HOK B S (m.heap (updH m.h us0))) (hev : Evolves B S m (m.heap (updH m.h us0))) {cs : List C} {vs spare : List Value} {e esz n cap fz : Nat}
    (hr : All2 (RepC m.w (Safe B S (m.heap (updH m.h us0)))) cs vs) (hn : n ≤ cap) (hsz : (vs ++ spare).length = cap * esz) (hmax : cap ≤ maxLen) {w' : World} (hw : w' = m.w.alloc (.cells (vs ++ spare).toArray e) ∨ w' = m.w.drew.alloc (.cells (vs ++ spare).toArray e))
    (hrun : (execOp a.eval o).run P m.w = .ok (.value (.slice (some ⟨m.w.heap.size, 0, none⟩) n cap)) w') : Does B S P o a m slot (.arr slot 0 n) (us0 ++ [(slot, .arr cs esz fz e)]) := by
  refine ⟨_, _, _, hrun, .inl rfl, ?_⟩
  refine post_alloc hk hk1 hev hs hw (.arr cs esz fz e) (fun ev => ⟨hk.base, vs ++ spare, newest hw, ?_, ?_⟩) (fun _ => ⟨.inr rfl, ⟨m.w.heap.size, 0, none⟩, cap, rfl, hn, ?_⟩)
  · rw [hr.len]; simp
  · rw [hr.len, List.take_left]
    exact hr.mono fun c u h => RepC.mono ev.cell c u h
  · simp only [M.put, getH_cons, if_true, setβ]
    refine .inl ⟨trivial, (vs ++ spare).length, ?_, by omega, hmax⟩
    simp [World.shape?, newest hw]

theorem zeros_ok {w : World} {Sf : Nat → Nat → Prop} {z : List Value} (h : ∀ v ∈ z, scalar v = true) : ∀ n, All2 (RepC w Sf) (zeros z n) (List.replicate n z).flatten
  | 0 => trivial
  | n + 1 => by
    simp only [zeros, List.replicate_succ, List.flatten_cons]
    exact (all2_lits h).append (zeros_ok h n)

theorem range_map_mod {z : Array Value} (n : Nat) : ((Array.range (n * z.size)).map (z[· % z.size]!)).toList = (List.replicate n z.toList).flatten := by
  induction n with
  | zero => simp
  | succ n ih =>
    have h1 : (n + 1) * z.size = n * z.size + z.size := by rw [Nat.succ_mul]
    rw [h1, List.replicate_succ', List.flatten_append]
    simp only [Array.toList_map, Array.toList_range] at ih ⊢
    rw [List.range_add, List.map_append, ih]
    congr 1
    simp only [List.map_map, List.flatten_cons, List.flatten_nil, List.append_nil]
    apply List.ext_getElem?
    intro j
    simp only [List.getElem?_map]
    by_cases hj : j < z.size
    · have : (List.range z.size)[j]? = some j := by simp [hj]
      rw [this]
      have hm : (n * z.size + j) % z.size = j := by rw [Nat.mul_comm, Nat.mul_add_mod, Nat.mod_eq_of_lt hj]
      simp [Function.comp, hm, hj]
    · have : (List.range z.size)[j]? = none := by simp; omega
      rw [this]
      simp
      omega

theorem does_mk (hk : HOK B S m) (ho : Opd B S m ρ a) (hs0 : ¬ m.U slot) {t e : TypeId} {x y : Operand} {X' Y' : X} {i : TypeInfo} {z : List Value} (hop : o.op = .makeSlice t x y) (h1 : elemOfSlice P t = some e) (h2 : P.info? e = some i) (h3 : zeroOf P e = some z)
    (hx : compX x = some X') (hy : compX y = some Y') (hs : step ρ m.h slot (.mk i.size e i.bytes z X' Y') = some (d, us)) : Does B S P o a m slot d us := by
  have hu := elemOfSlice_some h1
  obtain ⟨i', zv, g1, g2, g3, g4, g5⟩ := zeroOf_some h3
  rw [h2] at g1
  simp only [Option.some.injEq] at g1
  subst g1
  simp only [step, Option.bind_eq_bind, Option.bind_eq_some_iff] at hs
  obtain ⟨n, hn1, c, hc1, hs⟩ := hs
  split at hs
  case isFalse => cases hs
  rename_i hc
  obtain ⟨c1, c2, c3, c4, c5⟩ := hc
  simp only [Option.some.injEq, Prod.mk.injEq] at hs
  obtain ⟨rfl, rfl⟩ := hs
  obtain ⟨kn, hn2⟩ := asInt_some hn1
  obtain ⟨kc, hc2⟩ := asInt_some hc1
  have e1 := ho x X' hx
  have e2 := ho y Y' hy
  rw [hn2] at e1
  rw [hc2] at e2
  have hc63 : c ≤ 9223372036854775807 := by unfold roomMax at c4; omega
  have hby : (i.bytes : Int) * c ≤ 281474976710656 := by
    have : ((c.toNat * i.bytes : Nat) : Int) ≤ 140737488355328 := by unfold roomMax at c3; omega
    rw [Int.natCast_mul] at this
    have hc0 : (c.toNat : Int) = c := by omega
    rw [hc0] at this
    rw [Int.mul_comm]
    omega
  have hrun := run_make (P := P) m.w t e i zv hu h2 g2 kn kc n c c1 c2 hby hc63
  have hcells : madeCells zv.cells (c.toNat * i.size) = ((List.replicate n.toNat z).flatten ++ (List.replicate (c.toNat - n.toNat) z).flatten).toArray := by
    apply Array.ext'
    have hzs : zv.cells.size = i.size := by rw [← g5, ← g3]; simp
    rw [madeCells, ← hzs, range_map_mod, g3, ← List.flatten_append, List.replicate_append_replicate]
    congr 2
    omega
  rw [hcells] at hrun
  have hlen : ∀ k, ((List.replicate k z).flatten).length = k * i.size := by
    intro k
    induction k with
    | zero => simp
    | succ k ih => rw [List.replicate_succ, List.flatten_cons, List.length_append, ih, g5, Nat.succ_mul]; omega
  refine does_newrow (us0 := []) hk hs0 hk (Evolves.refl m) (cap := c.toNat) (spare := (List.replicate (c.toNat - n.toNat) z).flatten) (w' := _) (zeros_ok g4 n.toNat) (by omega) ?_ (by unfold roomMax at c4; simp only [maxLen]; omega) (.inl rfl) ?_
  · rw [List.length_append, hlen, hlen, ← Nat.add_mul]
    congr 1
    omega
  · simp [execOp, hop, e1.lit, e2.lit, hrun]

end
end Go.Ev
