/-
  What it means that the model's memory holds what the evaluator says, and when a change of memory keeps that.
-/
import Derived.Test.YtfphnpelampoeaaEvComp
import Derived.Below
namespace Go.Ev
open Go.RowKit

section
variable (w : World) (Sf : Nat → Nat → Prop)
mutual
/-- the value u, in the world w, holds the plain cell c; all the memory that it needs is in Sf -/
def RepC : C → Value → Prop
  | .lit v, u => u = v ∧ scalar v = true
  | .slice cs n, u => ∃ a cap, u = .slice (some a) n cap ∧ n ≤ cap ∧ (cs ≠ [] → a.spot = none) ∧ RepCs cs a.block a.off
def RepCs : List C → Nat → Nat → Prop
  | [], _, _ => True
  | c :: cs, b, o => (∃ u, w.cell? ⟨b, o, none⟩ = some u ∧ Sf b o ∧ RepC c u) ∧ RepCs cs b (o + 1)
end
end

mutual
theorem RepC.mono {w w' : World} {Sf Sf' : Nat → Nat → Prop} (h : ∀ b o u, w.cell? ⟨b, o, none⟩ = some u → Sf b o → w'.cell? ⟨b, o, none⟩ = some u ∧ Sf' b o) :
    ∀ (c : C) (u : Value), RepC w Sf c u → RepC w' Sf' c u
  | .lit v, u, hr => by simpa [RepC] using hr
  | .slice cs n, u, hr => by
    simp only [RepC] at hr ⊢
    obtain ⟨a, cap, h1, h2, h3, h4⟩ := hr
    exact ⟨a, cap, h1, h2, h3, RepCs.mono h cs _ _ h4⟩
theorem RepCs.mono {w w' : World} {Sf Sf' : Nat → Nat → Prop} (h : ∀ b o u, w.cell? ⟨b, o, none⟩ = some u → Sf b o → w'.cell? ⟨b, o, none⟩ = some u ∧ Sf' b o) :
    ∀ (cs : List C) (b o : Nat), RepCs w Sf cs b o → RepCs w' Sf' cs b o
  | [], _, _, _ => by simp [RepCs]
  | c :: cs, b, o, hr => by
    simp only [RepCs] at hr ⊢
    obtain ⟨⟨u, h1, h2, h3⟩, h4⟩ := hr
    obtain ⟨h5, h6⟩ := h b o u h1 h2
    exact ⟨⟨u, h5, h6, RepC.mono h c u h3⟩, RepCs.mono h cs b (o + 1) h4⟩
end

def All2 {α β : Type} (R : α → β → Prop) : List α → List β → Prop
  | [], [] => True
  | a :: as, b :: bs => R a b ∧ All2 R as bs
  | _, _ => False

section
variable {α β : Type} {R R' : α → β → Prop}
theorem All2.mono (h : ∀ a b, R a b → R' a b) : ∀ {as : List α} {bs : List β}, All2 R as bs → All2 R' as bs
  | [], [], _ => trivial
  | _ :: _, _ :: _, h1 => ⟨h _ _ h1.1, All2.mono h h1.2⟩
  | [], _ :: _, h1 => h1.elim
  | _ :: _, [], h1 => h1.elim
theorem All2.len : ∀ {as : List α} {bs : List β}, All2 R as bs → as.length = bs.length
  | [], [], _ => rfl
  | _ :: _, _ :: _, h1 => by simp [All2.len h1.2]
  | [], _ :: _, h1 => h1.elim
  | _ :: _, [], h1 => h1.elim
theorem All2.append : ∀ {as : List α} {bs : List β} {as' : List α} {bs' : List β}, All2 R as bs → All2 R as' bs' → All2 R (as ++ as') (bs ++ bs')
  | [], [], _, _, _, h2 => h2
  | _ :: _, _ :: _, _, _, h1, h2 => ⟨h1.1, All2.append h1.2 h2⟩
  | [], _ :: _, _, _, h1, _ => h1.elim
  | _ :: _, [], _, _, h1, _ => h1.elim
theorem All2.take : ∀ (n : Nat) {as : List α} {bs : List β}, All2 R as bs → All2 R (as.take n) (bs.take n)
  | 0, _, _, _ => by simp [All2]
  | _ + 1, [], [], _ => by simp [All2]
  | n + 1, _ :: _, _ :: _, h1 => by simp only [List.take_succ_cons]; exact ⟨h1.1, All2.take n h1.2⟩
  | _ + 1, [], _ :: _, h1 => h1.elim
  | _ + 1, _ :: _, [], h1 => h1.elim
theorem All2.drop : ∀ (n : Nat) {as : List α} {bs : List β}, All2 R as bs → All2 R (as.drop n) (bs.drop n)
  | 0, _, _, h1 => by simpa using h1
  | _ + 1, [], [], _ => by simp [All2]
  | n + 1, _ :: _, _ :: _, h1 => by simp only [List.drop_succ_cons]; exact All2.drop n h1.2
  | _ + 1, [], _ :: _, h1 => h1.elim
  | _ + 1, _ :: _, [], h1 => h1.elim
theorem All2.get : ∀ (n : Nat) {as : List α} {bs : List β} {a : α}, All2 R as bs → as[n]? = some a → ∃ b, bs[n]? = some b ∧ R a b
  | _, [], [], _, _, h => by simp at h
  | 0, _ :: _, b :: _, _, h1, h => by simp at h; subst h; exact ⟨b, by simp, h1.1⟩
  | n + 1, _ :: _, _ :: _, _, h1, h => by simp at h; obtain ⟨b, h2, h3⟩ := All2.get n h1.2 h; exact ⟨b, by simpa using h2, h3⟩
  | _, [], _ :: _, _, h1, _ => h1.elim
  | _, _ :: _, [], _, h1, _ => h1.elim
theorem All2.map_left {γ : Type} {f : γ → α} : ∀ {as : List γ} {bs : List β}, All2 (fun a b => R (f a) b) as bs → All2 R (as.map f) bs
  | [], [], _ => trivial
  | _ :: _, _ :: _, h1 => ⟨h1.1, All2.map_left h1.2⟩
  | [], _ :: _, h1 => h1.elim
  | _ :: _, [], h1 => h1.elim
theorem All2.of_map_left {γ : Type} {f : γ → α} : ∀ {as : List γ} {bs : List β}, All2 R (as.map f) bs → All2 (fun a b => R (f a) b) as bs
  | [], [], _ => trivial
  | _ :: _, _ :: _, h1 => ⟨h1.1, All2.of_map_left h1.2⟩
  | [], _ :: _, h1 => h1.elim
  | _ :: _, [], h1 => h1.elim
theorem All2.splice {as : List α} {bs : List β} {xs : List α} {ys : List β} (off : Nat) (h : All2 R as bs) (hx : All2 R xs ys) :
    All2 R (splice as off xs) (bs.take off ++ ys ++ bs.drop (off + ys.length)) := by
  unfold Ev.splice
  rw [hx.len]
  exact ((h.take off).append hx).append (h.drop _)
end

/-- a memory: the model's world, the evaluator's heap, where the objects lie, which numbers are in use -/
structure M where
  w : World
  h : Heap
  β : Nat → Nat
  U : Nat → Prop

section
variable (B : Nat) (S : Nat → Nat → Prop)

/-- cells that no store of the call's own may turn -/
def Safe (m : M) (b o : Nat) : Prop :=
  (b < B → S b o) ∧ ∀ id, match getH m.h id with
    | .dead => True
    | .box _ => m.β id ≠ b
    | .arr _ _ fz _ => m.β id = b → o < fz

def RepDc (m : M) : D → Value → Prop
  | .unk, _ => True
  | .c x, u => RepC m.w (Safe B S m) x u
  | .loc id off, u => m.U id ∧ u = .pointer (some ⟨m.β id, off, none⟩)
  | .arr id off len, u => m.U id ∧ ∃ ad cap, u = .slice (some ad) len cap ∧ len ≤ cap ∧ match getH m.h id with
    | .arr _ esz _ ety => (ad = ⟨m.β id, off, none⟩ ∧ ∃ sz, m.w.shape? (m.β id) = some (ety, sz) ∧ off + cap * esz = sz ∧ cap ≤ maxLen) ∨ (len = 0 ∧ cap = 0)
    | _ => True
  | .ptr cs, u => ∃ a, u = .pointer (some a) ∧ (cs ≠ [] → a.spot = none) ∧ RepCs m.w (Safe B S m) cs a.block a.off
  | _, _ => False

def RepA (m : M) : D → Value → Prop
  | .agg ds, u => ∃ us : List Value, u = .agg us.toArray ∧ All2 (RepDc B S m) ds us
  | d, u => RepDc B S m d u

def RepD (m : M) : D → Value → Prop
  | .tup ds, u => ∃ us : List Value, u = .tuple us.toArray ∧ All2 (RepA B S m) ds us
  | d, u => RepA B S m d u

def RepOb (m : M) (k : Nat) : Obj → Prop
  | .dead => True
  | .box ds => B ≤ k ∧ ∃ (us : List Value) (e : TypeId), m.w.heap[k]? = some (.cells us.toArray e (0, 0)) ∧ All2 (RepDc B S m) ds us
  | .arr cs _ _ ety => B ≤ k ∧ ∃ us : List Value, m.w.heap[k]? = some (.cells us.toArray ety (0, 0)) ∧ cs.length ≤ us.length ∧ All2 (RepC m.w (Safe B S m)) cs (us.take cs.length)

def RepO (m : M) (id : Nat) : Prop := RepOb B S m (m.β id) (getH m.h id)

structure HOK (m : M) : Prop where
  obj : ∀ id, RepO B S m id
  inj : ∀ i j, getH m.h i ≠ .dead → getH m.h j ≠ .dead → m.β i = m.β j → i = j
  dom : ∀ id, ¬ m.U id → getH m.h id = .dead
  base : B ≤ m.w.heap.size

/-- What makes a change of memory harmless to all that is held. -/
structure Evolves (m m' : M) : Prop where
  cell : ∀ b o u, m.w.cell? ⟨b, o, none⟩ = some u → Safe B S m b o → m'.w.cell? ⟨b, o, none⟩ = some u ∧ Safe B S m' b o
  used : ∀ id, m.U id → m'.U id
  dead : ∀ id, m.U id → getH m.h id = .dead → getH m'.h id = .dead
  at_ : ∀ id, m.U id → m'.β id = m.β id
  kind : ∀ id cs' esz' fz' ety', m.U id → getH m'.h id = .arr cs' esz' fz' ety' → ∃ cs fz, getH m.h id = .arr cs esz' fz ety' ∧ m'.w.shape? (m.β id) = m.w.shape? (m.β id)

variable {B S}

theorem Evolves.refl (m : M) : Evolves B S m m :=
  ⟨fun _ _ _ h1 h2 => ⟨h1, h2⟩, fun _ h => h, fun _ _ h => h, fun _ _ => rfl, fun _ cs' _ fz' _ _ h => ⟨cs', fz', h, rfl⟩⟩

theorem Evolves.trans {m m' m'' : M} (h : Evolves B S m m') (k : Evolves B S m' m'') : Evolves B S m m'' where
  cell b o u h1 h2 := k.cell b o u (h.cell b o u h1 h2).1 (h.cell b o u h1 h2).2
  used id hu := k.used id (h.used id hu)
  dead id hu hd := k.dead id (h.used id hu) (h.dead id hu hd)
  at_ id hu := by rw [k.at_ id (h.used id hu), h.at_ id hu]
  kind id cs' esz' fz' ety' hu hk := by
    obtain ⟨cs, fz, h1, h2⟩ := k.kind id cs' esz' fz' ety' (h.used id hu) hk
    obtain ⟨cs0, fz0, h3, h4⟩ := h.kind id cs esz' fz ety' hu h1
    refine ⟨cs0, fz0, h3, ?_⟩
    rw [← h4, ← h.at_ id hu, h2]

theorem Evolves.repDc {m m' : M} (h : Evolves B S m m') {d : D} {u : Value} (hr : RepDc B S m d u) : RepDc B S m' d u := by
  cases d with
  | unk => trivial
  | c x => exact RepC.mono h.cell x u hr
  | loc id off =>
    obtain ⟨h1, h2⟩ := hr
    exact ⟨h.used id h1, by rw [h.at_ id h1]; exact h2⟩
  | arr id off len =>
    obtain ⟨h1, ad, cap, e1, e2, h2⟩ := hr
    refine ⟨h.used id h1, ad, cap, e1, e2, ?_⟩
    split
    · rename_i cs' esz' fz' ety' hk
      obtain ⟨cs, fz, h3, h4⟩ := h.kind id cs' esz' fz' ety' h1 hk
      have h5 := h.at_ id h1
      rw [h3] at h2
      simp only at h2
      rcases h2 with ⟨e6, sz, e3, e4, e5⟩ | h2
      · exact .inl ⟨by rw [h5]; exact e6, sz, by rw [h5, h4]; exact e3, e4, e5⟩
      · exact .inr h2
    · trivial
  | ptr cs =>
    obtain ⟨a, h1, h2, h3⟩ := hr
    exact ⟨a, h1, h2, RepCs.mono h.cell cs _ _ h3⟩
  | agg ds => exact hr.elim
  | tup ds => exact hr.elim

theorem Evolves.repA {m m' : M} (h : Evolves B S m m') {d : D} {u : Value} (hr : RepA B S m d u) : RepA B S m' d u := by
  cases d with
  | agg ds => obtain ⟨us, h1, h2⟩ := hr; exact ⟨us, h1, h2.mono fun _ _ h3 => h.repDc h3⟩
  | unk => exact h.repDc (d := .unk) (u := u) hr
  | c x => exact h.repDc (d := .c x) hr
  | loc id off => exact h.repDc (d := .loc id off) hr
  | arr id off len => exact h.repDc (d := .arr id off len) hr
  | ptr cs => exact h.repDc (d := .ptr cs) hr
  | tup ds => exact h.repDc (d := .tup ds) (u := u) hr

theorem Evolves.repD {m m' : M} (h : Evolves B S m m') {d : D} {u : Value} (hr : RepD B S m d u) : RepD B S m' d u := by
  cases d with
  | tup ds => obtain ⟨us, h1, h2⟩ := hr; exact ⟨us, h1, h2.mono fun _ _ h3 => h.repA h3⟩
  | unk => exact h.repA (d := .unk) (u := u) hr
  | c x => exact h.repA (d := .c x) hr
  | loc id off => exact h.repA (d := .loc id off) hr
  | arr id off len => exact h.repA (d := .arr id off len) hr
  | ptr cs => exact h.repA (d := .ptr cs) hr
  | agg ds => exact h.repA (d := .agg ds) hr


theorem Evolves.repOb {m m' : M} (h : Evolves B S m m') {k : Nat} {o : Obj} (hb : m'.w.heap[k]? = m.w.heap[k]?) (hr : RepOb B S m k o) : RepOb B S m' k o := by
  cases o with
  | dead => trivial
  | box ds =>
    obtain ⟨h1, us, e, h2, h3⟩ := hr
    exact ⟨h1, us, e, by rw [hb]; exact h2, h3.mono fun _ _ h4 => h.repDc h4⟩
  | arr cs esz fz ety =>
    obtain ⟨h1, us, h2, h3, h4⟩ := hr
    exact ⟨h1, us, by rw [hb]; exact h2, h3, h4.mono fun x u h5 => RepC.mono h.cell x u h5⟩

theorem HOK.lt {m : M} (hk : HOK B S m) {id : Nat} (hd : getH m.h id ≠ .dead) : m.β id < m.w.heap.size := by
  have h := hk.obj id
  unfold RepO at h
  cases ho : getH m.h id with
  | dead => exact absurd ho hd
  | box ds => rw [ho] at h; obtain ⟨_, us, e, h2, _⟩ := h; exact (Array.getElem?_eq_some_iff.1 h2).1
  | arr cs esz fz ety => rw [ho] at h; obtain ⟨_, us, h2, _⟩ := h; exact (Array.getElem?_eq_some_iff.1 h2).1

theorem HOK.ge {m : M} (hk : HOK B S m) {id : Nat} (hd : getH m.h id ≠ .dead) : B ≤ m.β id := by
  have h := hk.obj id
  unfold RepO at h
  cases ho : getH m.h id with
  | dead => exact absurd ho hd
  | box ds => rw [ho] at h; exact h.1
  | arr cs esz fz ety => rw [ho] at h; exact h.1

theorem HOK.used {m : M} (hk : HOK B S m) {id : Nat} (hd : getH m.h id ≠ .dead) : m.U id :=
  Classical.byContradiction fun h => hd (hk.dom id h)

theorem cell_lt {w : World} {b o : Nat} {u : Value} (h : w.cell? ⟨b, o, none⟩ = some u) : b < w.heap.size := World.block_lt_of_cell? w _ h

def setβ (β : Nat → Nat) (slot k : Nat) : Nat → Nat := fun i => if i = slot then k else β i

def M.put (m : M) (w' : World) (slot k : Nat) (o : Obj) : M := ⟨w', (slot, o) :: m.h, setβ m.β slot k, fun i => m.U i ∨ i = slot⟩

theorem getH_cons (i : Nat) (o : Obj) (h : Heap) (j : Nat) : getH ((i, o) :: h) j = if i = j then o else getH h j := rfl

/-- a new block -/
theorem alloc_evolves {m : M} (hk : HOK B S m) {slot : Nat} (hs : ¬ m.U slot) {w' : World} {ob : Go.Obj} (hw : w'.heap = m.w.heap.push ob) (o : Obj) :
    Evolves B S m (m.put w' slot m.w.heap.size o) where
  cell b q u h1 h2 := by
    have hb := cell_lt h1
    refine ⟨?_, h2.1, fun id => ?_⟩
    · have : w'.heap[b]? = m.w.heap[b]? := by rw [hw, Array.getElem?_push, if_neg (by omega)]
      rw [← h1]; exact World.cell?_of_block (w := m.w) (a := ⟨b, q, none⟩) this
    · simp only [M.put, getH_cons, setβ]
      by_cases hi : slot = id
      · subst hi
        simp only [if_true]
        cases o <;> simp <;> omega
      · have hi' : ¬ id = slot := fun e => hi e.symm
        simp only [hi, hi', if_false]
        exact h2.2 id
  used id hu := .inl hu
  dead id hu hd := by
    have hi : ¬ slot = id := fun e => hs (e ▸ hu)
    simp only [M.put, getH_cons, hi, if_false]
    exact hd
  at_ id hu := by
    have hi : ¬ id = slot := fun e => hs (e ▸ hu)
    simp [M.put, setβ, hi]
  kind id cs' esz' fz' ety' hu h := by
    have hi : ¬ slot = id := fun e => hs (e ▸ hu)
    simp only [M.put, getH_cons, hi, if_false] at h
    refine ⟨cs', fz', h, ?_⟩
    have hlt := hk.lt (id := id) (by rw [h]; simp)
    have : w'.heap[m.β id]? = m.w.heap[m.β id]? := by rw [hw, Array.getElem?_push, if_neg (by omega)]
    simp [World.shape?, M.put, this]

theorem alloc_hok {m : M} (hk : HOK B S m) {slot : Nat} (hs : ¬ m.U slot) {w' : World} {ob : Go.Obj} (hw : w'.heap = m.w.heap.push ob) (o : Obj)
    (ho : RepOb B S (m.put w' slot m.w.heap.size o) m.w.heap.size o) : HOK B S (m.put w' slot m.w.heap.size o) := by
  have hev := alloc_evolves hk hs hw o
  refine ⟨fun id => ?_, fun i j hi hj he => ?_, fun id hu => ?_, ?_⟩
  · unfold RepO
    by_cases hi : slot = id
    · subst hi
      simp only [M.put, getH_cons, setβ, if_true] at *
      exact ho
    · have hi' : ¬ id = slot := fun e => hi e.symm
      have h1 : getH (m.put w' slot m.w.heap.size o).h id = getH m.h id := by simp [M.put, getH_cons, hi]
      have h2 : (m.put w' slot m.w.heap.size o).β id = m.β id := by simp [M.put, setβ, hi']
      rw [h1, h2]
      by_cases hd : getH m.h id = .dead
      · rw [hd]; trivial
      · have hlt := hk.lt hd
        refine hev.repOb ?_ (hk.obj id)
        simp only [M.put]
        rw [hw, Array.getElem?_push, if_neg (by omega)]
  · simp only [M.put, getH_cons, setβ] at *
    by_cases h1 : slot = i <;> by_cases h2 : slot = j
    · omega
    · have h2' : ¬ j = slot := fun e => h2 e.symm
      have h1' : i = slot := h1.symm
      simp only [h2, h1', h2', if_true, if_false] at hj he
      have := hk.lt hj
      omega
    · have h1' : ¬ i = slot := fun e => h1 e.symm
      have h2' : j = slot := h2.symm
      simp only [h1, h1', h2', if_true, if_false] at hi he
      have := hk.lt hi
      omega
    · have h1' : ¬ i = slot := fun e => h1 e.symm
      have h2' : ¬ j = slot := fun e => h2 e.symm
      simp only [h1, h1', h2, h2', if_false] at hi hj he
      exact hk.inj i j hi hj he
  · simp only [M.put] at hu ⊢
    have h1 : ¬ m.U id := fun h => hu (.inl h)
    have h2 : ¬ slot = id := fun h => hu (.inr h.symm)
    simp only [getH_cons, h2, if_false]
    exact hk.dom id h1
  · have := hk.base
    simp only [M.put, hw, Array.size_push]
    omega

/-- an object in its place: another content, nothing else moves -/
def M.upd (m : M) (w' : World) (id : Nat) (o : Obj) : M := ⟨w', (id, o) :: m.h, m.β, m.U⟩

/-- a store into an object's block, beyond what is frozen -/
theorem upd_evolves {m : M} (hk : HOK B S m) {id : Nat} {o o' : Obj} {w' : World} (ho : getH m.h id = o)
    (hkind : match o, o' with
      | .box _, .box _ => True
      | .arr _ esz fz ety, .arr _ esz' fz' ety' => esz' = esz ∧ ety' = ety ∧ fz ≤ fz'
      | _, _ => False)
    (hother : ∀ k, k ≠ m.β id → w'.heap[k]? = m.w.heap[k]?)
    (hcell : ∀ q u, (match o with | .arr _ _ fz _ => q < fz | _ => False) → m.w.cell? ⟨m.β id, q, none⟩ = some u → w'.cell? ⟨m.β id, q, none⟩ = some u)
    (hshape : w'.shape? (m.β id) = m.w.shape? (m.β id)) :
    Evolves B S m (m.upd w' id o') where
  cell b q u h1 h2 := by
    refine ⟨?_, h2.1, fun i => ?_⟩
    · by_cases hb : b = m.β id
      · subst hb
        have h3 := h2.2 id
        rw [ho] at h3
        refine hcell q u ?_ h1
        cases o with
        | dead => cases o' <;> exact hkind.elim
        | box ds => exact (h3 rfl).elim
        | arr cs esz fz ety => exact h3 rfl
      · rw [← h1]; exact World.cell?_of_block (w := m.w) (a := ⟨b, q, none⟩) (hother b hb)
    · simp only [M.upd, getH_cons]
      by_cases hi : id = i
      · subst hi
        have h3 := h2.2 id
        rw [ho] at h3
        simp only [if_true]
        cases o <;> cases o' <;> first | exact hkind.elim | exact h3 | (intro he; have := h3 he; obtain ⟨_, _, h4⟩ := hkind; omega)
      · simp only [hi, if_false]
        exact h2.2 i
  used _ hu := hu
  dead i hu hd := by
    by_cases hi : id = i
    · subst hi
      rw [ho] at hd
      subst hd
      cases o' <;> exact hkind.elim
    · simp only [M.upd, getH_cons, hi, if_false]
      exact hd
  at_ _ _ := rfl
  kind i cs' esz' fz' ety' hu h := by
    by_cases hi : id = i
    · subst hi
      simp only [M.upd, getH_cons, if_true] at h
      subst h
      cases o with
      | dead => exact hkind.elim
      | box ds => exact hkind.elim
      | arr cs esz fz ety =>
        obtain ⟨rfl, rfl, _⟩ := hkind
        exact ⟨cs, fz, ho, hshape⟩
    · simp only [M.upd, getH_cons, hi, if_false] at h
      refine ⟨cs', fz', h, ?_⟩
      have hd : getH m.h i ≠ .dead := by rw [h]; simp
      have hd' : getH m.h id ≠ .dead := by
        rw [ho]; cases o with
        | dead => cases o' <;> exact hkind.elim
        | _ => simp
      have : m.β i ≠ m.β id := fun e => hi (hk.inj i id hd hd' e).symm
      simp [World.shape?, M.upd, hother _ this]

theorem upd_hok {m : M} (hk : HOK B S m) {id : Nat} {o' : Obj} {w' : World} (hl : getH m.h id ≠ .dead) (hev : Evolves B S m (m.upd w' id o'))
    (hother : ∀ k, k ≠ m.β id → w'.heap[k]? = m.w.heap[k]?) (hsz : m.w.heap.size ≤ w'.heap.size)
    (ho : RepOb B S (m.upd w' id o') (m.β id) o') : HOK B S (m.upd w' id o') := by
  refine ⟨fun i => ?_, fun i j hi hj he => ?_, fun i hu => ?_, ?_⟩
  · unfold RepO
    by_cases hi : id = i
    · subst hi
      simp only [M.upd, getH_cons, if_true] at *
      exact ho
    · have h1 : getH (m.upd w' id o').h i = getH m.h i := by simp [M.upd, getH_cons, hi]
      rw [h1]
      show RepOb B S _ (m.β i) _
      by_cases hd : getH m.h i = .dead
      · rw [hd]; trivial
      · exact hev.repOb (hother _ fun e => hi (hk.inj i id hd hl e).symm) (hk.obj i)
  · simp only [M.upd, getH_cons] at hi hj he
    by_cases h1 : id = i <;> by_cases h2 : id = j
    · omega
    · subst h1; simp only [h2, if_false] at hj; exact hk.inj _ _ hl hj he
    · subst h2; simp only [h1, if_false] at hi; exact hk.inj _ _ hi hl he
    · simp only [h1, h2, if_false] at hi hj; exact hk.inj _ _ hi hj he
  · simp only [M.upd] at hu ⊢
    have h2 : ¬ id = i := fun h => hu (h ▸ hk.used hl)
    simp only [getH_cons, h2, if_false]
    exact hk.dom i hu
  · exact Nat.le_trans hk.base hsz

/-- the world alone moves, by new blocks that are nobody's -/
def M.world (m : M) (w' : World) : M := ⟨w', m.h, m.β, m.U⟩

theorem world_evolves {m : M} (hk : HOK B S m) {w' : World} (hb : ∀ k, k < m.w.heap.size → w'.heap[k]? = m.w.heap[k]?) : Evolves B S m (m.world w') where
  cell b q u h1 h2 := by
    refine ⟨?_, h2⟩
    rw [← h1]; exact World.cell?_of_block (w := m.w) (a := ⟨b, q, none⟩) (hb b (cell_lt h1))
  used _ hu := hu
  dead _ _ hd := hd
  at_ _ _ := rfl
  kind id cs' esz' fz' ety' _ h := by
    refine ⟨cs', fz', h, ?_⟩
    have hlt := hk.lt (id := id) (by show getH m.h id ≠ _; rw [show getH m.h id = _ from h]; simp)
    simp [World.shape?, M.world, hb _ hlt]

theorem world_hok {m : M} (hk : HOK B S m) {w' : World} (hb : ∀ k, k < m.w.heap.size → w'.heap[k]? = m.w.heap[k]?) (hsz : m.w.heap.size ≤ w'.heap.size) : HOK B S (m.world w') := by
  have hev := world_evolves hk hb
  refine ⟨fun id => ?_, hk.inj, hk.dom, Nat.le_trans hk.base hsz⟩
  unfold RepO
  by_cases hd : getH m.h id = .dead
  · show RepOb B S _ _ (getH m.h id); rw [hd]; trivial
  · exact hev.repOb (hb _ (hk.lt hd)) (hk.obj id)

end
end Go.Ev
