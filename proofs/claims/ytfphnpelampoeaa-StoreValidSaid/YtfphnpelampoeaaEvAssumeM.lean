/-
  The evaluator that assumes: at every test it takes an answer that is handed to it and notes what must hold for it; calls and loops are answered likewise. The kernel runs it over data with variables in them.
-/
import Derived.Test.YtfphnpelampoeaaEvRulesM
set_option linter.unusedVariables false
set_option linter.unusedSimpArgs false
namespace Go.Ev

/-- an answer: of a test, of a call, of a loop -/
inductive Ans where
  | bit (b : Bool)
  | ret (rs : List V)
  | ext (x : Ex) (s : St)
  | shr (ds : List D) (h : Heap) (nx : Nat)
  | cell (c : C)
  | cells (cs : List C)
  | byts (bs : List UInt8)

/-- all of them hold -/
def all : List Prop → Prop
  | [] => True
  | p :: ps => p ∧ all ps

theorem all_append : ∀ {p q : List Prop}, all (p ++ q) → all p ∧ all q
  | [], _, h => ⟨trivial, h⟩
  | _ :: _, _, h => ⟨⟨h.1, (all_append h.2).1⟩, (all_append h.2).2⟩

/-- what was asked when the answers ran out -/
inductive Ask where
  | bit (p : Prop)
  | call (f : Nat) (vs : List V)
  | loop (keep : List Nat) (c : ICode) (t : St)
  | shared (f : Nat) (ds : List D) (h : Heap) (nx : Nat)
  | cell (cs : List C) (i : Nat)
  | cells (cs : List C)
  | byts (cs : List C)
  | dead

inductive Out (α : Type) where
  | ok (r : α)
  | ask (q : Ask)

def A (α : Type) : Type := List Ans → Out (α × List Ans × List Prop)

namespace A
def ret {α : Type} (a : α) : A α := fun bs => .ok (a, bs, [])
def bind {α β : Type} (x : A α) (f : α → A β) : A β := fun bs =>
  match x bs with
  | .ask q => .ask q
  | .ok (a, bs', p) => match f a bs' with
    | .ask q => .ask q
    | .ok (b, bs'', q) => .ok (b, bs'', p ++ q)
def must (p : Prop) : A Unit := fun bs => .ok ((), bs, [p])
def test (p : Prop) : A Bool := fun
  | .bit true :: r => .ok (true, r, [p])
  | .bit false :: r => .ok (false, r, [¬ p])
  | _ => .ask (.bit p)
def fail {α : Type} : A α := fun _ => .ask .dead
def cell (cs : List C) (i : Nat) : A C := fun
  | .cell c :: r => .ok (c, r, [cs[i]? = some c])
  | _ => .ask (.cell cs i)
def cells (cs : List C) : A (List C) := fun
  | .cells cs' :: r => .ok (cs', r, [cs = cs'])
  | _ => .ask (.cells cs)
def byts (cs : List C) : A (List UInt8) := fun
  | .byts bs :: r => .ok (bs, r, [bytesOf cs = some bs])
  | _ => .ask (.byts cs)
def lift {α : Type} (o : Option α) : A α := fun bs => match o with
  | some a => .ok (a, bs, [])
  | none => .ask .dead
end A

/-- what is assumed, holding, gives the evaluator's own answer -/
def Ref {α : Type} (x : A α) (y : Option α) : Prop := ∀ bs a bs' p, x bs = .ok (a, bs', p) → all p → y = some a

section
variable {α β : Type}
theorem ref_ret (a : α) : Ref (A.ret a) (some a) := by
  intro bs a' bs' p h _
  simp only [A.ret, Out.ok.injEq, Prod.mk.injEq] at h
  rw [h.1]
theorem ref_lift (o : Option α) : Ref (A.lift o) o := by
  intro bs a' bs' p h _
  unfold A.lift at h
  cases o with
  | none => cases h
  | some a => simp only [Out.ok.injEq, Prod.mk.injEq] at h; rw [h.1]
theorem ref_cell (cs : List C) (i : Nat) : Ref (A.cell cs i) cs[i]? := by
  intro bs a' bs' p h hp
  unfold A.cell at h
  split at h
  · simp only [Out.ok.injEq, Prod.mk.injEq] at h
    obtain ⟨rfl, rfl, rfl⟩ := h
    exact hp.1
  · cases h
theorem ref_cells (cs : List C) : Ref (A.cells cs) (some cs) := by
  intro bs a' bs' p h hp
  unfold A.cells at h
  split at h
  · simp only [Out.ok.injEq, Prod.mk.injEq] at h
    obtain ⟨rfl, rfl, rfl⟩ := h
    rw [hp.1]
  · cases h
theorem ref_byts (cs : List C) : Ref (A.byts cs) (bytesOf cs) := by
  intro bs a' bs' p h hp
  unfold A.byts at h
  split at h
  · simp only [Out.ok.injEq, Prod.mk.injEq] at h
    obtain ⟨rfl, rfl, rfl⟩ := h
    exact hp.1
  · cases h
theorem ref_fail (y : Option α) : Ref (A.fail : A α) y := by intro bs a' bs' p h _; cases h
theorem ref_bind {x : A α} {y : Option α} {f : α → A β} {g : α → Option β} (h1 : Ref x y) (h2 : ∀ a, Ref (f a) (g a)) : Ref (A.bind x f) (y.bind g) := by
  intro bs b bs' p h hp
  unfold A.bind at h
  cases hx : x bs with
  | ask q => rw [hx] at h; cases h
  | ok r =>
    obtain ⟨a, bs1, p1⟩ := r
    rw [hx] at h
    simp only at h
    cases hf : f a bs1 with
    | ask q => rw [hf] at h; cases h
    | ok r2 =>
      obtain ⟨b2, bs2, p2⟩ := r2
      rw [hf] at h
      simp only [Out.ok.injEq, Prod.mk.injEq] at h
      obtain ⟨rfl, rfl, rfl⟩ := h
      rw [h1 _ _ _ _ hx (all_append hp).1]
      exact h2 a _ _ _ _ hf (all_append hp).2
theorem ref_must {p : Prop} [Decidable p] {x : A α} {y : Option α} (h : Ref x y) : Ref (A.bind (A.must p) fun _ => x) (if p then y else none) := by
  intro bs a bs' q hq hqq
  unfold A.bind A.must at hq
  simp only at hq
  cases hx : x bs with
  | ask q => rw [hx] at hq; cases hq
  | ok r =>
    obtain ⟨a2, bs2, p2⟩ := r
    rw [hx] at hq
    simp only [Out.ok.injEq, Prod.mk.injEq] at hq
    obtain ⟨rfl, rfl, rfl⟩ := hq
    rw [if_pos hqq.1]
    exact h _ _ _ _ hx hqq.2
theorem ref_test {p : Prop} [Decidable p] {f : Bool → A α} {y z : Option α} (h1 : Ref (f true) y) (h2 : Ref (f false) z) : Ref (A.bind (A.test p) f) (if p then y else z) := by
  intro bs a bs' q hq hqq
  unfold A.bind at hq
  cases hb : A.test p bs with
  | ask q => rw [hb] at hq; cases hq
  | ok r =>
    obtain ⟨b, bs1, p1⟩ := r
    rw [hb] at hq
    simp only at hq
    cases hf : f b bs1 with
    | ask q => rw [hf] at hq; cases hq
    | ok r2 =>
      obtain ⟨a2, bs2, p2⟩ := r2
      rw [hf] at hq
      simp only [Out.ok.injEq, Prod.mk.injEq] at hq
      obtain ⟨rfl, rfl, rfl⟩ := hq
      unfold A.test at hb
      split at hb
      · simp only [Out.ok.injEq, Prod.mk.injEq] at hb
        obtain ⟨rfl, rfl, rfl⟩ := hb
        rw [if_pos hqq.1]; exact h1 _ _ _ _ hf hqq.2
      · simp only [Out.ok.injEq, Prod.mk.injEq] at hb
        obtain ⟨rfl, rfl, rfl⟩ := hb
        rw [if_neg hqq.1]; exact h2 _ _ _ _ hf hqq.2
      · cases hb
theorem ref_congr {x : A α} {y z : Option α} (h : Ref x y) (e : y = z) : Ref x z := e ▸ h
/-- a Bool that is in the way -/
theorem ref_bool {b : Bool} {f : Bool → A α} {g : Bool → Option α} (h : ∀ t, Ref (f t) (g t)) : Ref (A.bind (A.test (b = true)) f) (g b) := by
  have := ref_test (p := b = true) (h true) (h false)
  refine ref_congr this ?_
  cases b <;> rfl
end

/- ### the operations -/

def frzA (h : Heap) : D → A (C × List (Nat × Obj))
  | .c x => A.ret (x, [])
  | .arr id off len =>
    match getH h id with
    | .arr cs esz fz ety => A.bind (A.must (off + len * esz ≤ cs.length)) fun _ => A.bind (A.test (off + len * esz ≤ fz)) fun t =>
        A.ret (.slice ((cs.drop off).take (len * esz)) len, match t with | true => [] | false => [(id, .arr cs esz (off + len * esz) ety)])
    | _ => A.fail
  | _ => A.fail

theorem frzA_ok (h : Heap) (d : D) : Ref (frzA h d) (frz h d) := by
  cases d with
  | c x => exact ref_ret _
  | arr id off len =>
    simp only [frzA, frz]
    cases getH h id with
    | arr cs esz fz ety =>
      refine ref_must ?_
      refine ref_congr (ref_test (p := off + len * esz ≤ fz) (ref_ret _) (ref_ret _)) ?_
      by_cases hz : off + len * esz ≤ fz
      · simp [hz]
      · simp [hz]
    | _ => exact ref_fail _
  | _ => exact ref_fail _

def frzLA (h : Heap) : List D → A (List C × List (Nat × Obj))
  | [] => A.ret ([], [])
  | d :: ds => A.bind (frzA h d) fun p => A.bind (frzLA (updH h p.2) ds) fun q => A.ret (p.1 :: q.1, p.2 ++ q.2)

theorem frzLA_ok : ∀ (ds : List D) (h : Heap), Ref (frzLA h ds) (frzL h ds)
  | [], h => ref_ret _
  | d :: ds, h => by
    unfold frzLA frzL
    exact ref_bind (frzA_ok h d) fun p => ref_bind (frzLA_ok ds _) fun q => ref_ret _

def frzVA (h : Heap) : D → A (V × List (Nat × Obj))
  | .agg ds => A.bind (frzLA h ds) fun p => A.ret (.agg p.1, p.2)
  | d => A.bind (frzA h d) fun p => A.ret (.one p.1, p.2)

theorem frzVA_ok (h : Heap) (d : D) : Ref (frzVA h d) (frzV h d) := by
  cases d with
  | agg ds => simp only [frzVA, frzV]; exact ref_bind (frzLA_ok _ h) fun p => ref_ret _
  | _ => simp only [frzVA, frzV]; exact ref_bind (frzA_ok h _) fun p => ref_ret _

def frzVsA (h : Heap) : List D → A (List V × List (Nat × Obj))
  | [] => A.ret ([], [])
  | d :: ds => A.bind (frzVA h d) fun p => A.bind (frzVsA (updH h p.2) ds) fun q => A.ret (p.1 :: q.1, p.2 ++ q.2)

theorem frzVsA_ok : ∀ (ds : List D) (h : Heap), Ref (frzVsA h ds) (frzVs h ds)
  | [], h => ref_ret _
  | d :: ds, h => by
    unfold frzVsA frzVs
    exact ref_bind (frzVA_ok h d) fun p => ref_bind (frzVsA_ok ds _) fun q => ref_ret _

def srcOfA (h : Heap) (esz : Nat) : D → A (List C × Nat)
  | .c (.lit (.slice none 0 0)) => A.ret ([], 0)
  | .c (.slice cs n) => A.bind (A.must (cs.length = n * esz)) fun _ => A.ret (cs, n)
  | .c (.lit (.string s)) => A.bind (A.must (esz = 1)) fun _ => A.ret (s.data.toList.map fun b => .lit (.int .u8 b.toNat), s.size)
  | .arr id off len =>
    match getH h id with
    | .arr cs esz' _ _ => A.bind (A.must (esz' = esz ∧ off + len * esz ≤ cs.length)) fun _ => A.ret ((cs.drop off).take (len * esz), len)
    | _ => A.fail
  | _ => A.fail

theorem srcOfA_ok (h : Heap) (esz : Nat) (d : D) : Ref (srcOfA h esz d) (srcOf h esz d) := by
  unfold srcOfA
  split
  · exact ref_ret _
  · simp only [srcOf]; exact ref_must (ref_ret _)
  · simp only [srcOf]; exact ref_must (ref_ret _)
  · rename_i id off len
    simp only [srcOf]
    cases getH h id with
    | arr cs esz' fz ety => exact ref_must (ref_ret _)
    | _ => exact ref_fail _
  · exact ref_fail _

def srcBA (h : Heap) : D → A (List C × Nat)
  | .c (.lit (.string _)) => A.fail
  | d => srcOfA h 1 d

theorem srcBA_ok (h : Heap) (d : D) : Ref (srcBA h d) (srcB h d) := by
  unfold srcBA
  split
  · exact ref_fail _
  · rename_i hne
    have : srcB h d = srcOf h 1 d := by
      unfold srcB
      split
      · exact absurd rfl (hne _)
      · rfl
    rw [this]
    exact srcOfA_ok h 1 _

def loadA (h : Heap) (agg : Bool) (size : Nat) : D → A D
  | .loc id off =>
    match getH h id with
    | .box ds => (match agg with
      | true => A.bind (A.must (off + size ≤ ds.length)) fun _ => A.ret (.agg ((ds.drop off).take size))
      | false => A.lift ds[off]?)
    | .arr cs _ _ _ => (match agg with
      | true => A.bind (A.must (off + size ≤ cs.length)) fun _ => A.bind (A.cells ((cs.drop off).take size)) fun l => A.ret (.agg (l.map .c))
      | false => A.bind (A.cell cs off) fun c => A.ret (.c c))
    | .dead => A.fail
  | .ptr cs => (match agg with
    | true => A.bind (A.must (size ≤ cs.length)) fun _ => A.bind (A.cells (cs.take size)) fun l => A.ret (.agg (l.map .c))
    | false => A.bind (A.cell cs 0) fun c => A.ret (.c c))
  | _ => A.fail

theorem getD_some {α : Type} {l : List α} {i : Nat} (h : i < l.length) (d : α) : l[i]? = some (l.getD i d) := by simp [h]

theorem loadA_ok (h : Heap) (agg : Bool) (size : Nat) (d : D) : Ref (loadA h agg size d) (loadD h agg size d) := by
  cases d with
  | loc id off =>
    simp only [loadA, loadD]
    cases getH h id with
    | box ds =>
      cases agg with
      | true => exact ref_must (ref_ret _)
      | false => exact ref_lift _
    | arr cs esz fz ety =>
      cases agg with
      | true => exact ref_must (ref_congr (ref_bind (ref_cells _) fun l => ref_ret _) rfl)
      | false =>
        refine ref_congr (ref_bind (ref_cell cs off) fun l => ref_ret _) ?_
        simp only [if_false, Bool.false_eq_true]
        cases cs[off]? <;> rfl
    | dead => exact ref_fail _
  | ptr cs =>
    simp only [loadA, loadD]
    cases agg with
    | true => exact ref_must (ref_congr (ref_bind (ref_cells _) fun l => ref_ret _) rfl)
    | false =>
      refine ref_congr (ref_bind (ref_cell cs 0) fun l => ref_ret _) ?_
      simp only [if_false, Bool.false_eq_true]
      cases cs[0]? <;> rfl
  | _ => exact ref_fail _

def storeA (h : Heap) (size : Nat) (v : D) : D → A (D × List (Nat × Obj))
  | .loc id off =>
    match getH h id with
    | .box ds => A.bind (A.lift (cellsD v)) fun xs => A.bind (A.must (xs.length = size ∧ off + size ≤ ds.length)) fun _ => A.ret (.unk, [(id, .box (splice ds off xs))])
    | .arr _ _ _ _ => A.bind (frzVA h v) fun p =>
      (match getH (updH h p.2) id with
      | .arr cs esz fz ety => A.bind (A.must (p.1.cells.length = size ∧ off + size ≤ cs.length ∧ fz ≤ off)) fun _ => A.ret (.unk, p.2 ++ [(id, .arr (splice cs off p.1.cells) esz fz ety)])
      | _ => A.fail)
    | .dead => A.fail
  | _ => A.fail

theorem storeA_ok (h : Heap) (size : Nat) (v d : D) : Ref (storeA h size v d) (storeD h size v d) := by
  cases d with
  | loc id off =>
    simp only [storeA, storeD]
    cases getH h id with
    | box ds => exact ref_bind (ref_lift _) fun xs => ref_must (ref_ret _)
    | arr cs esz fz ety =>
      refine ref_bind (frzVA_ok h v) fun p => ?_
      cases getH (updH h p.2) id with
      | arr cs esz fz ety => exact ref_must (ref_ret _)
      | _ => exact ref_fail _
    | dead => exact ref_fail _
  | _ => exact ref_fail _

def loA (lo : Option D) : A Nat :=
  match lo with
  | none => A.ret 0
  | some d => A.bind (A.lift (asInt d)) fun n => A.bind (A.must (0 ≤ n)) fun _ => A.ret n.toNat
def hiA (len : Nat) (hi : Option D) : A Nat :=
  match hi with
  | none => A.ret len
  | some d => A.bind (A.lift (asInt d)) fun n => A.bind (A.must (0 ≤ n)) fun _ => A.ret n.toNat

theorem loA_ok (lo : Option D) : Ref (loA lo) (loOf lo) := by
  unfold loA loOf
  split
  · exact ref_ret _
  · exact ref_bind (ref_lift _) fun n => ref_must (ref_ret _)
theorem hiA_ok (len : Nat) (hi : Option D) : Ref (hiA len hi) (hiOf len hi) := by
  unfold hiA hiOf
  split
  · exact ref_ret _
  · exact ref_bind (ref_lift _) fun n => ref_must (ref_ret _)

def slcA (h : Heap) (esz : Nat) (lo hi : Option D) : D → A D
  | .c (.lit (.slice none 0 0)) => A.bind (loA lo) fun l => A.bind (hiA 0 hi) fun r => A.bind (A.must (l = 0 ∧ r = 0)) fun _ => A.ret (.c (.lit (.slice none 0 0)))
  | .c (.slice cs n) => A.bind (loA lo) fun l => A.bind (hiA n hi) fun r => A.bind (A.must (l ≤ r ∧ r ≤ n)) fun _ => A.ret (.c (.slice ((cs.drop (l * esz)).take ((r - l) * esz)) (r - l)))
  | .arr id off len =>
    match getH h id with
    | .arr _ esz' _ _ => A.bind (loA lo) fun l => A.bind (hiA len hi) fun r => A.bind (A.must (esz' = esz ∧ l ≤ r ∧ r ≤ len)) fun _ => A.ret (.arr id (off + l * esz) (r - l))
    | _ => A.fail
  | _ => A.fail

theorem slcA_ok (h : Heap) (esz : Nat) (lo hi : Option D) (d : D) : Ref (slcA h esz lo hi d) (slcD h esz lo hi d) := by
  unfold slcA
  split
  · simp only [slcD]; exact ref_bind (loA_ok _) fun l => ref_bind (hiA_ok _ _) fun r => ref_must (ref_ret _)
  · simp only [slcD]; exact ref_bind (loA_ok _) fun l => ref_bind (hiA_ok _ _) fun r => ref_must (ref_ret _)
  · rename_i id off len
    simp only [slcD]
    cases getH h id with
    | arr cs esz' fz ety => exact ref_bind (loA_ok _) fun l => ref_bind (hiA_ok _ _) fun r => ref_must (ref_ret _)
    | _ => exact ref_fail _
  · exact ref_fail _

def slsA (lo hi : Option D) : D → A D
  | .c (.lit (.string s)) => A.bind (loA lo) fun l => A.bind (hiA s.size hi) fun r => A.bind (A.must (l ≤ r ∧ r ≤ s.size)) fun _ => A.ret (.c (.lit (.string (s.extract l r))))
  | _ => A.fail

theorem slsA_ok (lo hi : Option D) (d : D) : Ref (slsA lo hi d) (slsD lo hi d) := by
  unfold slsA
  split
  · simp only [slsD]; exact ref_bind (loA_ok _) fun l => ref_bind (hiA_ok _ _) fun r => ref_must (ref_ret _)
  · exact ref_fail _

def iadrA (h : Heap) (esz : Nat) (i : D) : D → A D
  | .arr id off len =>
    match getH h id with
    | .arr _ _ _ _ => A.bind (A.lift (asInt i)) fun n => A.bind (A.must (0 ≤ n ∧ n < len)) fun _ => A.ret (.loc id (off + n.toNat * esz))
    | _ => A.fail
  | .c (.slice cs m) => A.bind (A.lift (asInt i)) fun n => A.bind (A.must (0 ≤ n ∧ n < m)) fun _ => A.ret (.ptr (cs.drop (n.toNat * esz)))
  | _ => A.fail

theorem iadrA_ok (h : Heap) (esz : Nat) (i d : D) : Ref (iadrA h esz i d) (iadrD h esz i d) := by
  unfold iadrA
  split
  · rename_i id off len
    simp only [iadrD]
    cases getH h id with
    | arr cs esz' fz ety => exact ref_bind (ref_lift _) fun n => ref_must (ref_ret _)
    | _ => exact ref_fail _
  · simp only [iadrD]; exact ref_bind (ref_lift _) fun n => ref_must (ref_ret _)
  · exact ref_fail _

def appA (h : Heap) (slot esz ety bytes : Nat) (y : D) : D → A (D × List (Nat × Obj))
  | .c (.lit (.slice none 0 0)) => A.bind (srcOfA h esz y) fun p => A.bind (A.must (p.1.length = p.2 * esz ∧ p.2 * bytes ≤ roomMax ∧ 0 < esz ∧ p.2 ≤ roomMax)) fun _ =>
      A.bind (A.test (p.2 = 0)) fun t => match t with
        | true => A.ret (.c (.lit (.slice none 0 0)), [])
        | false => A.ret (.arr slot 0 p.2, [(slot, .arr p.1 esz 0 ety)])
  | .arr id off len =>
    match getH h id with
    | .arr xs esz' fz ety' => A.bind (srcOfA h esz y) fun p =>
      A.bind (A.must (p.1.length = p.2 * esz ∧ (len + p.2) * bytes ≤ roomMax ∧ 0 < esz ∧ len + p.2 ≤ roomMax ∧ off = 0 ∧ esz' = esz ∧ ety' = ety ∧ fz ≤ len * esz ∧ len * esz ≤ xs.length)) fun _ =>
        A.ret (.arr slot 0 (len + p.2), [(id, .dead), (slot, .arr (xs.take (len * esz) ++ p.1) esz fz ety)])
    | _ => A.fail
  | _ => A.fail

theorem appA_ok (h : Heap) (slot esz ety bytes : Nat) (y d : D) : Ref (appA h slot esz ety bytes y d) (appD h slot esz ety bytes y d) := by
  unfold appA
  split
  · simp only [appD]
    refine ref_bind (srcOfA_ok h esz y) fun p => ref_must ?_
    exact ref_test (ref_ret _) (ref_ret _)
  · rename_i id off len
    simp only [appD]
    cases getH h id with
    | arr xs esz' fz ety' => exact ref_bind (srcOfA_ok h esz y) fun p => ref_must (ref_ret _)
    | _ => exact ref_fail _
  · exact ref_fail _

def cpyA (h : Heap) (esz : Nat) (y : D) : D → A (D × List (Nat × Obj))
  | .arr id off len =>
    match getH h id with
    | .arr xs esz' fz ety => A.bind (srcOfA h esz y) fun p => A.bind (A.must (p.1.length = p.2 * esz ∧ esz' = esz ∧ fz ≤ off ∧ off + len * esz ≤ xs.length)) fun _ =>
        A.ret (dInt (min p.2 len : Nat), [(id, .arr (splice xs off (p.1.take (min p.2 len * esz))) esz fz ety)])
    | _ => A.fail
  | _ => A.fail

theorem cpyA_ok (h : Heap) (esz : Nat) (y d : D) : Ref (cpyA h esz y d) (cpyD h esz y d) := by
  cases d with
  | arr id off len =>
    simp only [cpyA, cpyD]
    cases getH h id with
    | arr xs esz' fz ety => exact ref_bind (srcOfA_ok h esz y) fun p => ref_must (ref_ret _)
    | _ => exact ref_fail _
  | _ => exact ref_fail _

def fillA (ρ : X → D) : List D → List (Nat × Nat × X) → A (List D)
  | cs, [] => A.ret cs
  | cs, (off, size, x) :: r => A.bind (A.lift (cellsD (ρ x))) fun ds => A.bind (A.must (ds.length = size ∧ off + size ≤ cs.length)) fun _ => fillA ρ (splice cs off ds) r

theorem fillA_ok (ρ : X → D) : ∀ (ps : List (Nat × Nat × X)) (cs : List D), Ref (fillA ρ cs ps) (fillP ρ cs ps)
  | [], cs => ref_ret _
  | (off, size, x) :: ps, cs => by
    unfold fillA fillP
    exact ref_bind (ref_lift _) fun ds => ref_must (fillA_ok ρ ps _)

def pA (x : A D) : A (D × List (Nat × Obj)) := A.bind x fun d => A.ret (d, [])

theorem pA_ok {x : A D} {y : Option D} (h : Ref x y) : Ref (pA x) (pureD y) := by
  refine ref_congr (ref_bind h fun d => ref_ret (d, ([] : List (Nat × Obj)))) ?_
  cases y <;> rfl

/-- division and shifts ask something of their second operand -/
def binA (op : BinOp) (isB : Bool) (a b : Value) : A Value :=
  match isB with
  | true => A.lift (boolV op a b)
  | false => match a, b with
    | .int k x, .int k' y =>
      (match isShift op with
      | true => A.bind (A.must (¬ y < 0)) fun _ => A.lift (match op with
        | .shl => some (.int k (k.wrap (x * 2 ^ (min y.toNat k.bits))))
        | .shr => some (.int k (x.fdiv (2 ^ (min y.toNat k.bits))))
        | _ => none)
      | false => A.bind (A.must (k = k')) fun _ => match op with
        | .quo => A.bind (A.must (¬ y = 0)) fun _ => A.ret (.int k (k.wrap (x.tdiv y)))
        | .rem => A.bind (A.must (¬ y = 0)) fun _ => A.ret (.int k (x.tmod y))
        | _ => A.lift (intBin op k x y))
    | a, b => A.lift (binV op a b)

theorem ref_must' {α : Type} {p : Prop} {x : A α} {y : Option α} (h : p → Ref x y) : Ref (A.bind (A.must p) fun _ => x) y := by
  intro bs a bs' q hq hqq
  unfold A.bind A.must at hq
  simp only at hq
  cases hx : x bs with
  | ask q => rw [hx] at hq; cases hq
  | ok r =>
    obtain ⟨a2, bs2, p2⟩ := r
    rw [hx] at hq
    simp only [Out.ok.injEq, Prod.mk.injEq] at hq
    obtain ⟨rfl, rfl, rfl⟩ := hq
    exact h hqq.1 _ _ _ _ hx hqq.2

theorem binA_ok (op : BinOp) (isB : Bool) (a b : Value) : Ref (binA op isB a b) (if isB then boolV op a b else binV op a b) := by
  unfold binA
  cases isB with
  | true => exact ref_lift _
  | false =>
    simp only [if_false, Bool.false_eq_true]
    split
    · rename_i k x k' y
      cases hs : isShift op with
      | true =>
        simp only
        refine ref_must' fun hy => ref_congr (ref_lift _) ?_
        simp only [binV, hs, if_true, shiftBin, if_neg hy]
        cases op <;> rfl
      | false =>
        simp only
        refine ref_must' fun hk => ?_
        have hb : binV op (.int k x) (.int k' y) = intBin op k x y := by simp [binV, hs, hk]
        rw [hb]
        cases op <;> first
          | exact ref_lift _
          | (refine ref_must' fun h0 => ref_congr (ref_ret _) ?_; simp [intBin, h0])
    · exact ref_lift _

/-- one operation that calls nothing -/
def stepA (ρ : X → D) (h : Heap) (slot : Nat) : Ins → A (D × List (Nat × Obj))
  | .mov x => A.ret (ρ x, [])
  | .pick c a b => pA (A.bind (A.lift (asBool (ρ c))) fun t => A.bind (A.test (t = true)) fun t => A.ret (match t with | true => ρ a | false => ρ b))
  | .alloc zero => A.ret (.loc slot 0, [(slot, .box (zero.map fun v => .c (.lit v)))])
  | .box x => A.bind (A.lift (cellsD (ρ x))) fun ds => A.ret (.loc slot 0, [(slot, .box ds)])
  | .build zero parts => pA (A.bind (fillA ρ (zero.map fun v => .c (.lit v)) parts) fun ds => A.ret (.agg ds))
  | .lits esz ety len zero parts => A.bind (fillA ρ ((zeros zero len).map .c) parts) fun ds => A.bind (frzLA h ds) fun p =>
      A.bind (A.must (p.1.length = len * esz ∧ len ≤ roomMax)) fun _ => A.ret (.arr slot 0 len, p.2 ++ [(slot, .arr p.1 esz 0 ety)])
  | .load agg size x => pA (loadA h agg size (ρ x))
  | .store size a v => storeA h size (ρ v) (ρ a)
  | .bin op isB x y => pA (A.bind (A.lift (asLit (ρ x))) fun a => A.bind (A.lift (asLit (ρ y))) fun b => A.bind (binA op isB a b) fun v => A.ret (.c (.lit v)))
  | .toStr x => pA (A.bind (srcBA h (ρ x)) fun p => A.bind (A.byts p.1) fun bs => A.bind (A.must (p.1.length = p.2)) fun _ => A.ret (.c (.lit (.string ⟨bs.toArray⟩))))
  | .mk esz ety bytes zero l c => A.bind (A.lift (asInt (ρ l))) fun n => A.bind (A.lift (asInt (ρ c))) fun m =>
      A.bind (A.must (0 ≤ n ∧ n ≤ m ∧ m.toNat * bytes ≤ roomMax ∧ m.toNat ≤ roomMax ∧ zero.length = esz)) fun _ => A.ret (.arr slot 0 n.toNat, [(slot, .arr (zeros zero n.toNat) esz 0 ety)])
  | .slc esz x lo hi => pA (slcA h esz (lo.map ρ) (hi.map ρ) (ρ x))
  | .sls x lo hi => pA (slsA (lo.map ρ) (hi.map ρ) (ρ x))
  | .iadr esz x i => pA (iadrA h esz (ρ i) (ρ x))
  | .app esz ety bytes x y => appA h slot esz ety bytes (ρ y) (ρ x)
  | .cpy esz x y => cpyA h esz (ρ y) (ρ x)
  | i => A.lift (step ρ h slot i)

theorem stepA_ok (ρ : X → D) (h : Heap) (slot : Nat) (i : Ins) : Ref (stepA ρ h slot i) (step ρ h slot i) := by
  cases i with
  | mov x => exact ref_ret _
  | pick c a b =>
    refine pA_ok (ref_bind (ref_lift _) fun t => ?_)
    refine ref_congr (ref_test (p := t = true) (ref_ret _) (ref_ret _)) ?_
    cases t <;> rfl
  | alloc z => exact ref_ret _
  | box x => exact ref_bind (ref_lift _) fun ds => ref_ret _
  | build z ps => exact pA_ok (ref_bind (fillA_ok ρ _ _) fun ds => ref_ret _)
  | lits a b c z ps => exact ref_bind (fillA_ok ρ _ _) fun ds => ref_bind (frzLA_ok _ h) fun p => ref_must (ref_ret _)
  | load agg size x => exact pA_ok (loadA_ok _ _ _ _)
  | store size a v => exact storeA_ok _ _ _ _
  | bin op isB x y =>
    refine pA_ok (ref_bind (ref_lift _) fun a => ref_bind (ref_lift _) fun b => ?_)
    refine ref_congr (ref_bind (binA_ok op isB a b) fun v => ref_ret _) ?_
    cases (if isB then boolV op a b else binV op a b) <;> rfl
  | toStr x => exact pA_ok (ref_bind (srcBA_ok h _) fun p => ref_bind (ref_byts _) fun bs => ref_must (ref_ret _))
  | mk a b c z l m => exact ref_bind (ref_lift _) fun n => ref_bind (ref_lift _) fun m => ref_must (ref_ret _)
  | slc esz x lo hi => exact pA_ok (slcA_ok _ _ _ _ _)
  | sls x lo hi => exact pA_ok (slsA_ok _ _ _)
  | iadr esz x i => exact pA_ok (iadrA_ok _ _ _ _)
  | app a b c x y => exact appA_ok _ _ _ _ _ _ _
  | cpy esz x y => exact cpyA_ok _ _ _ _
  | call f xs => exact ref_lift (step ρ h slot (.call f xs))
  | callS f xs => exact ref_lift (step ρ h slot (.callS f xs))
  | _ => exact ref_lift _

/- ### calls, loops, code -/

variable {F : Nat → Option IFunc}

/-- the same with enough fuel -/
def RefE {α : Type} (x : A α) (y : Nat → Option α) : Prop := ∀ bs a bs' p, x bs = .ok (a, bs', p) → all p → ∃ n0, ∀ n, n0 ≤ n → y n = some a

theorem refE_of {α : Type} {x : A α} {y : Option α} (h : Ref x y) : RefE x (fun _ => y) := fun bs a bs' p hx hp => ⟨0, fun _ _ => h bs a bs' p hx hp⟩

theorem refE_bind {α β : Type} {x : A α} {y : Nat → Option α} {f : α → A β} {g : Nat → α → Option β} (h1 : RefE x y) (h2 : ∀ a, RefE (f a) (fun n => g n a)) : RefE (A.bind x f) (fun n => (y n).bind (g n)) := by
  intro bs b bs' p h hp
  unfold A.bind at h
  cases hx : x bs with
  | ask q => rw [hx] at h; cases h
  | ok r =>
    obtain ⟨a, bs1, p1⟩ := r
    rw [hx] at h
    simp only at h
    cases hf : f a bs1 with
    | ask q => rw [hf] at h; cases h
    | ok r2 =>
      obtain ⟨b2, bs2, p2⟩ := r2
      rw [hf] at h
      simp only [Out.ok.injEq, Prod.mk.injEq] at h
      obtain ⟨rfl, rfl, rfl⟩ := h
      obtain ⟨n1, k1⟩ := h1 _ _ _ _ hx (all_append hp).1
      obtain ⟨n2, k2⟩ := h2 a _ _ _ _ hf (all_append hp).2
      refine ⟨max n1 n2, fun n hn => ?_⟩
      simp only [k1 n (by omega), Option.bind_some]
      exact k2 n (by omega)

theorem refE_congr {α : Type} {x : A α} {y z : Nat → Option α} (h : RefE x y) (e : ∀ n, y n = z n) : RefE x z := fun bs a bs' p hx hp => by
  obtain ⟨n0, k⟩ := h bs a bs' p hx hp
  exact ⟨n0, fun n hn => by rw [← e n]; exact k n hn⟩

def callA (F : Nat → Option IFunc) (f : Nat) (vs : List V) : A (List V) := fun
  | .ret rs :: r => .ok (rs, r, [RunF F f vs rs])
  | _ => .ask (.call f vs)

theorem callA_ok (f : Nat) (vs : List V) : RefE (callA F f vs) (fun n => evFn F n f vs) := by
  intro bs a bs' p hx hp
  unfold callA at hx
  split at hx
  · simp only [Out.ok.injEq, Prod.mk.injEq] at hx
    obtain ⟨rfl, rfl, rfl⟩ := hx
    exact hp.1
  · cases hx

def RunS (F : Nat → Option IFunc) (f : Nat) (ds : List D) (h : Heap) (nx : Nat) (ds' : List D) (h' : Heap) (nx' : Nat) : Prop := ∃ n0, ∀ n, n0 ≤ n → evSh F n f ds h nx = some (ds', h', nx')

def shA (F : Nat → Option IFunc) (f : Nat) (ds : List D) (h : Heap) (nx : Nat) : A (List D × Heap × Nat) := fun
  | .shr ds' h' nx' :: r => .ok ((ds', h', nx'), r, [RunS F f ds h nx ds' h' nx'])
  | _ => .ask (.shared f ds h nx)

theorem shA_ok (f : Nat) (ds : List D) (h : Heap) (nx : Nat) : RefE (shA F f ds h nx) (fun n => evSh F n f ds h nx) := by
  intro bs a bs' p hx hp
  unfold shA at hx
  split at hx
  · simp only [Out.ok.injEq, Prod.mk.injEq] at hx
    obtain ⟨rfl, rfl, rfl⟩ := hx
    exact hp.1
  · cases hx

def stepCA (F : Nat → Option IFunc) (ρ : X → D) (h : Heap) (slot : Nat) : Ins → A (D × List (Nat × Obj))
  | .call f xs => A.bind (frzVsA h (xs.map ρ)) fun p => A.bind (callA F f p.1) fun rs => A.ret (retD rs, p.2)
  | i => stepA ρ h slot i

theorem stepCA_ok (ρ : X → D) (h : Heap) (slot : Nat) (i : Ins) : RefE (stepCA F ρ h slot i) (fun n => stepC (evFn F n) ρ h slot i) := by
  by_cases hc : ∃ f xs, i = .call f xs
  · obtain ⟨f, xs, rfl⟩ := hc
    exact refE_bind (refE_of (frzVsA_ok _ h)) fun p => refE_bind (callA_ok f p.1) fun rs => refE_of (ref_ret _)
  · have e1 : stepCA F ρ h slot i = stepA ρ h slot i := by cases i <;> first | rfl | exact absurd ⟨_, _, rfl⟩ hc
    have e2 : ∀ n, stepC (evFn F n) ρ h slot i = step ρ h slot i := by intro n; cases i <;> first | rfl | exact absurd ⟨_, _, rfl⟩ hc
    rw [e1]
    exact refE_congr (refE_of (stepA_ok ρ h slot i)) fun n => (e2 n).symm

def wantedA (e : Env) : Option (Nat × Bool) → A Bool
  | none => A.ret true
  | some (t, want) => (match getE e t with
    | .c (.lit (.bool b)) => A.test ((b == want) = true)
    | .tup [] => A.ret false
    | _ => A.fail)

theorem test_bool {b : Bool} : Ref (A.test (b = true)) (some b) := by
  intro bs a bs' p h hp
  unfold A.test at h
  split at h
  · simp only [Out.ok.injEq, Prod.mk.injEq] at h
    obtain ⟨rfl, rfl, rfl⟩ := h
    rw [hp.1]
  · simp only [Out.ok.injEq, Prod.mk.injEq] at h
    obtain ⟨rfl, rfl, rfl⟩ := h
    cases b with
    | true => exact absurd rfl hp.1
    | false => rfl
  · cases h

theorem wantedA_ok (e : Env) (g : Option (Nat × Bool)) : Ref (wantedA e g) (wanted e g) := by
  cases g with
  | none => exact ref_ret _
  | some p =>
    obtain ⟨t, want⟩ := p
    simp only [wantedA, wanted]
    split
    · rename_i b hq; rw [hq]; exact test_bool
    · rename_i hq; rw [hq]; exact ref_ret _
    · exact ref_fail _

def seqA (F : Nat → Option IFunc) : List Inst → St → A St
  | [], s => A.ret s
  | i :: is, s => A.bind (wantedA s.env i.guard) fun w => match w with
    | false => seqA F is ⟨putE s.env i.dst undefD, s.heap, s.nx, s.sh⟩
    | true => match i.ins with
      | .callS f xs => A.bind (shA F f (xs.map (evX s.env)) s.heap s.nx) fun r => seqA F is ⟨putE s.env i.dst (tupD r.1), r.2.1, r.2.2, s.sh⟩
      | ins => A.bind (stepCA F (evX s.env) s.heap s.nx ins) fun r => seqA F is ⟨putE s.env i.dst r.1, updH s.heap r.2, s.nx + 1, s.sh⟩

theorem seqA_ok : ∀ (is : List Inst) (s : St), RefE (seqA F is s) (fun n => evSeq (evFn F n) (evSh F n) is s)
  | [], s => refE_of (ref_ret _)
  | i :: is, s => by
    unfold seqA
    refine refE_congr (refE_bind (refE_of (wantedA_ok s.env i.guard)) (g := fun n w => if w then
        (match i.ins with
        | .callS f xs => (evSh F n f (xs.map (evX s.env)) s.heap s.nx).bind fun r => evSeq (evFn F n) (evSh F n) is ⟨putE s.env i.dst (tupD r.1), r.2.1, r.2.2, s.sh⟩
        | ins => (stepC (evFn F n) (evX s.env) s.heap s.nx ins).bind fun r => evSeq (evFn F n) (evSh F n) is ⟨putE s.env i.dst r.1, updH s.heap r.2, s.nx + 1, s.sh⟩)
        else evSeq (evFn F n) (evSh F n) is ⟨putE s.env i.dst undefD, s.heap, s.nx, s.sh⟩) fun w => ?_) fun n => ?_
    · cases w with
      | false => exact seqA_ok is _
      | true =>
        simp only [if_true]
        cases i.ins with
        | callS f xs => exact refE_bind (shA_ok _ _ _ _) fun r => seqA_ok is _
        | _ => exact refE_bind (stepCA_ok _ _ _ _) fun r => seqA_ok is _
    · simp only [evSeq, Option.bind_eq_bind]
      congr 1

def drawA (F : Nat → Option IFunc) (nx : Nat) : Nat → List Inst → Env → Heap → A (Env × Heap × List Trace)
  | _, [], e, h => A.ret (e, h, [])
  | k, i :: is, e, h => A.bind (wantedA e i.guard) fun w => match w with
    | true => A.bind (stepCA F (evX e) h (nx + k) i.ins) fun r => A.bind (drawA F nx (k + 1) is (putE e i.dst r.1) (updH h r.2)) fun q =>
        A.ret (q.1, q.2.1, ⟨(match i.guard with | some (t, _) => [t] | none => []) ++ tmpsX (opX i.ins), i.dst.toList, touches (evX e) i.ins, r.2.map (·.1)⟩ :: q.2.2)
    | false => A.bind (drawA F nx (k + 1) is (putE e i.dst undefD) h) fun q => A.ret (q.1, q.2.1, ⟨(match i.guard with | some (t, _) => [t] | none => []), i.dst.toList, [], []⟩ :: q.2.2)

theorem drawA_ok (nx : Nat) : ∀ (is : List Inst) (k : Nat) (e : Env) (h : Heap), RefE (drawA F nx k is e h) (fun n => evDraw (evFn F n) nx k is e h)
  | [], k, e, h => refE_of (ref_ret _)
  | i :: is, k, e, h => by
    unfold drawA
    refine refE_congr (refE_bind (refE_of (wantedA_ok e i.guard)) (g := fun n w => if w then
        (stepC (evFn F n) (evX e) h (nx + k) i.ins).bind fun r => (evDraw (evFn F n) nx (k + 1) is (putE e i.dst r.1) (updH h r.2)).bind fun q =>
          some (q.1, q.2.1, (⟨(match i.guard with | some (t, _) => [t] | none => []) ++ tmpsX (opX i.ins), i.dst.toList, touches (evX e) i.ins, r.2.map (·.1)⟩ : Trace) :: q.2.2)
        else (evDraw (evFn F n) nx (k + 1) is (putE e i.dst undefD) h).bind fun q => some (q.1, q.2.1, (⟨(match i.guard with | some (t, _) => [t] | none => []), i.dst.toList, [], []⟩ : Trace) :: q.2.2)) fun w => ?_) fun n => ?_
    · cases w with
      | false => exact refE_bind (drawA_ok nx is _ _ _) fun q => refE_of (ref_ret _)
      | true => exact refE_bind (stepCA_ok _ _ _ _) fun r => refE_bind (drawA_ok nx is _ _ _) fun q => refE_of (ref_ret _)
    · simp only [evDraw, Option.bind_eq_bind]
      congr 1

/-- a loop from its head -/
def LoopF (F : Nat → Option IFunc) (keep : List Nat) (c : ICode) (t : St) (x : Ex) (s' : St) : Prop := ∀ s, normSt keep s = t → RunC F (.loop keep c) s x s'

def blockEx (id : Nat) : Ex → Ex
  | .exit id' => if id' = id then .normal else .exit id'
  | x => x

def codeA (F : Nat → Option IFunc) : ICode → St → A (Ex × St)
  | .skip, s => A.ret (.normal, s)
  | .exit id, s => A.ret (.exit id, s)
  | .ret, s => A.ret (.ret, s)
  | .region is live, s => A.bind (seqA F is s) fun s' => A.ret (.normal, ⟨keepE s'.env live, s'.heap, s'.nx, s'.sh⟩)
  | .draw is free live, s => A.bind (drawA F s.nx 0 is s.env s.heap) fun q => match drawOk q.2.2 free with
    | true => A.ret (.normal, ⟨keepE q.1 live, q.2.1, s.nx + is.length, s.sh⟩)
    | false => A.fail
  | .seq a b, s => A.bind (codeA F a s) fun r => match r.1 with
    | .normal => codeA F b r.2
    | x => A.ret (x, r.2)
  | .cond c a b, s => A.bind (A.lift (asBool (evX s.env c))) fun t => A.bind (A.test (t = true)) fun t => match t with
    | true => codeA F a s
    | false => codeA F b s
  | .block id c, s => A.bind (codeA F c s) fun r => A.ret (blockEx id r.1, r.2)
  | .loop keep c, s => fun
    | .ext x s' :: r => .ok ((x, s'), r, [LoopF F keep c (normSt keep s) x s'])
    | _ => .ask (.loop keep c (normSt keep s))

theorem codeA_ok : ∀ (c : ICode) (s : St), RefE (codeA F c s) (fun n => evCode F n c s)
  | .skip, s => fun bs a bs' p h _ => by
    simp only [codeA, A.ret, Out.ok.injEq, Prod.mk.injEq] at h
    obtain ⟨rfl, _, _⟩ := h
    exact RunC.skip s
  | .exit id, s => fun bs a bs' p h _ => by
    simp only [codeA, A.ret, Out.ok.injEq, Prod.mk.injEq] at h
    obtain ⟨rfl, _, _⟩ := h
    exact RunC.exit id s
  | .ret, s => fun bs a bs' p h _ => by
    simp only [codeA, A.ret, Out.ok.injEq, Prod.mk.injEq] at h
    obtain ⟨rfl, _, _⟩ := h
    exact RunC.ret s
  | .region is live, s => fun bs a bs' p h hp => by
    have := refE_bind (seqA_ok (F := F) is s) (g := fun _ s' => some (Ex.normal, (⟨keepE s'.env live, s'.heap, s'.nx, s'.sh⟩ : St))) (fun s' => refE_of (ref_ret _)) bs a bs' p h hp
    obtain ⟨n0, k⟩ := this
    refine ⟨n0 + 1, fun n hn => ?_⟩
    obtain ⟨j, rfl⟩ : ∃ j, n = j + 1 := ⟨n - 1, by omega⟩
    show evCode F (j + 1) _ _ = _
    rw [evCode]
    exact k j (by omega)
  | .draw is free live, s => fun bs a bs' p h hp => by
    have := refE_bind (drawA_ok (F := F) s.nx is 0 s.env s.heap) (f := fun (q : Env × Heap × List Trace) => match drawOk q.2.2 free with
        | true => A.ret (Ex.normal, (⟨keepE q.1 live, q.2.1, s.nx + is.length, s.sh⟩ : St))
        | false => A.fail) (g := fun _ (q : Env × Heap × List Trace) => if drawOk q.2.2 free then some (Ex.normal, (⟨keepE q.1 live, q.2.1, s.nx + is.length, s.sh⟩ : St)) else none) (fun q => by
      cases drawOk q.2.2 free with
      | true => exact refE_of (ref_ret _)
      | false => exact refE_of (ref_fail _)) bs a bs' p h hp
    obtain ⟨n0, k⟩ := this
    refine ⟨n0 + 1, fun n hn => ?_⟩
    obtain ⟨j, rfl⟩ : ∃ j, n = j + 1 := ⟨n - 1, by omega⟩
    show evCode F (j + 1) _ _ = _
    rw [evCode]
    exact k j (by omega)
  | .seq ca cb, s => fun bs a bs' p h hp => by
    have := refE_bind (codeA_ok ca s) (f := fun (r : Ex × St) => match r.1 with
        | .normal => codeA F cb r.2
        | x => A.ret (x, r.2)) (g := fun n (r : Ex × St) => match r.1 with
        | .normal => evCode F n cb r.2
        | x => some (x, r.2)) (fun r => by
      obtain ⟨x, s'⟩ := r
      cases x with
      | normal => exact codeA_ok cb s'
      | _ => exact refE_of (ref_ret _)) bs a bs' p h hp
    obtain ⟨n0, k⟩ := this
    refine ⟨n0 + 1, fun n hn => ?_⟩
    obtain ⟨j, rfl⟩ : ∃ j, n = j + 1 := ⟨n - 1, by omega⟩
    show evCode F (j + 1) _ _ = _
    rw [evCode]
    exact k j (by omega)
  | .cond c ca cb, s => fun bs a bs' p h hp => by
    have := refE_bind (refE_of (ref_lift (asBool (evX s.env c)))) (f := fun t => A.bind (A.test (t = true)) fun t => match t with
        | true => codeA F ca s
        | false => codeA F cb s) (g := fun n t => evCode F n (if t then ca else cb) s) (fun t => by
      refine refE_congr (refE_bind (refE_of (test_bool (b := t))) (g := fun n t => evCode F n (if t then ca else cb) s) fun t => ?_) fun n => rfl
      cases t with
      | true => exact codeA_ok ca s
      | false => exact codeA_ok cb s) bs a bs' p h hp
    obtain ⟨n0, k⟩ := this
    refine ⟨n0 + 1, fun n hn => ?_⟩
    obtain ⟨j, rfl⟩ : ∃ j, n = j + 1 := ⟨n - 1, by omega⟩
    show evCode F (j + 1) _ _ = _
    rw [evCode]
    exact k j (by omega)
  | .block id c, s => fun bs a bs' p h hp => by
    have := refE_bind (codeA_ok c s) (g := fun _ (r : Ex × St) => some (blockEx id r.1, r.2)) (fun r => refE_of (ref_ret _)) bs a bs' p h hp
    obtain ⟨n0, k⟩ := this
    refine ⟨n0 + 1, fun n hn => ?_⟩
    obtain ⟨j, rfl⟩ : ∃ j, n = j + 1 := ⟨n - 1, by omega⟩
    show evCode F (j + 1) _ _ = _
    rw [evCode]
    have hk := k j (by omega)
    rw [← hk]
    simp only [Option.bind_eq_bind]
    congr 1
    funext r
    obtain ⟨x, s'⟩ := r
    cases x with
    | exit id' =>
      simp only [blockEx]
      split <;> rfl
    | _ => rfl
  | .loop keep c, s => fun bs a bs' p h hp => by
    simp only [codeA] at h
    split at h
    · simp only [Out.ok.injEq, Prod.mk.injEq] at h
      obtain ⟨rfl, _, rfl⟩ := h
      exact hp.1 s rfl
    · cases h

def resA (e : Env) (h : Heap) : List Res → A (List D)
  | [] => A.ret []
  | .tmp t :: r => A.bind (resA e h r) fun ds => match getE e t with
    | .tup _ => A.fail
    | d => A.ret (d :: ds)
  | .cell t agg size :: r => A.bind (loadA h agg size (getE e t)) fun d => A.bind (resA e h r) fun ds => A.ret (d :: ds)

theorem resA_ok (e : Env) (h : Heap) : ∀ rs : List Res, Ref (resA e h rs) (resD e h rs)
  | [] => ref_ret _
  | .tmp t :: r => by
    unfold resA resD
    refine ref_bind (resA_ok e h r) fun ds => ?_
    cases getE e t with
    | tup _ => exact ref_fail _
    | _ => exact ref_ret _
  | .cell t agg size :: r => by
    unfold resA resD
    exact ref_bind (loadA_ok _ _ _ _) fun d => ref_bind (resA_ok e h r) fun ds => ref_ret _

/-- a whole function -/
def fnA (F : Nat → Option IFunc) (I : IFunc) (vs : List V) : A (List V) :=
  A.bind (codeA F I.body ⟨bindArgs 0 (vs.map V.toD), [], 0, false⟩) fun r => match r.1 with
    | .exit _ => A.fail
    | _ => A.bind (resA r.2.env r.2.heap I.res) fun ds => A.bind (frzVsA r.2.heap ds) fun p => A.ret p.1

/-- what is asked of a run that assumes -/
def Gives {α : Type} (x : Out (α × List Ans × List Prop)) (a : α) : Prop :=
  match x with
  | .ok (a', _, p) => all (p ++ [a' = a])
  | .ask _ => False

theorem all_intro : ∀ {p q : List Prop}, all p → all q → all (p ++ q)
  | [], _, _, h => h
  | _ :: _, _, h, k => ⟨h.1, all_intro h.2 k⟩

theorem Gives.of {α : Type} {x : Out (α × List Ans × List Prop)} {a : α} {bs : List Ans} (ps : List Prop) (e : x = .ok (a, bs, ps)) (h : all ps) : Gives x a := by
  rw [e]
  exact all_intro h ⟨rfl, trivial⟩

theorem Gives.get {α : Type} {x : Out (α × List Ans × List Prop)} {a : α} (h : Gives x a) : ∃ bs p, x = .ok (a, bs, p) ∧ all p := by
  unfold Gives at h
  split at h
  · rename_i a' bs p
    obtain ⟨hp, rfl, _⟩ := all_append h
    exact ⟨bs, p, rfl, hp⟩
  · exact h.elim

theorem code_gives {c : ICode} {s s' : St} {x : Ex} {bs : List Ans} (h : Gives (codeA F c s bs) (x, s')) : RunC F c s x s' := by
  obtain ⟨bs', p, h1, h2⟩ := h.get
  exact codeA_ok c s bs _ bs' p h1 h2

theorem bind_some {α β : Type} {x : A α} {f : α → A β} {bs bs' : List Ans} {b : β} {p : List Prop} (h : A.bind x f bs = .ok (b, bs', p)) : ∃ a bs1 p1 p2, x bs = .ok (a, bs1, p1) ∧ f a bs1 = .ok (b, bs', p2) ∧ p = p1 ++ p2 := by
  unfold A.bind at h
  cases hx : x bs with
  | ask q => rw [hx] at h; cases h
  | ok r =>
    obtain ⟨a, bs1, p1⟩ := r
    rw [hx] at h
    simp only at h
    cases hf : f a bs1 with
    | ask q => rw [hf] at h; cases h
    | ok r2 =>
      obtain ⟨b2, bs2, p2⟩ := r2
      rw [hf] at h
      simp only [Out.ok.injEq, Prod.mk.injEq] at h
      obtain ⟨rfl, rfl, rfl⟩ := h
      exact ⟨a, bs1, p1, p2, rfl, hf, rfl⟩

theorem fn_gives {f : Nat} {I : IFunc} (hI : F f = some I) {vs rs : List V} (hl : vs.length = I.nparams) {bs : List Ans} (h : Gives (fnA F I vs bs) rs) : RunF F f vs rs := by
  obtain ⟨bs', p, h1, h2⟩ := h.get
  unfold fnA at h1
  obtain ⟨⟨x, s⟩, bs1, p1, p2, hc, hr, rfl⟩ := bind_some h1
  have rest : (A.bind (resA s.env s.heap I.res) fun ds => A.bind (frzVsA s.heap ds) fun p => A.ret p.1 : A (List V)) bs1 = .ok (rs, bs', p2) → (∀ id, x ≠ .exit id) → RunF F f vs rs := by
    intro hy hx
    have hres := ref_bind (resA_ok s.env s.heap I.res) (fun ds => ref_bind (frzVsA_ok ds s.heap) fun p => ref_ret p.1) bs1 _ _ _ hy (all_append h2).2
    simp only [Option.bind_eq_some_iff, Prod.exists, Option.some.injEq] at hres
    obtain ⟨ds, hd, vs', us, hf, rfl⟩ := hres
    exact RunF.fn hI hl (codeA_ok _ _ _ _ _ _ hc (all_append h2).1) hx hd hf
  cases x with
  | exit id => cases hr
  | normal => exact rest hr (by simp)
  | ret => exact rest hr (by simp)

/-- one round of a loop, from head to head -/
def roundA (F : Nat → Option IFunc) (keep : List Nat) (c : ICode) (t : St) : A (Ex × St) := A.bind (codeA F c t) fun r => A.ret (r.1, match r.1 with | .normal => normSt keep r.2 | _ => r.2)

theorem LoopF.round {keep : List Nat} {c : ICode} {t t' s' : St} {x : Ex} {bs : List Ans} (h : Gives (roundA F keep c t bs) (.normal, t')) (h2 : LoopF F keep c t' x s') : LoopF F keep c t x s' := by
  obtain ⟨bs', p, h1, hp⟩ := h.get
  unfold roundA at h1
  obtain ⟨⟨y, s1⟩, bs1, p1, p2, hc, hr, rfl⟩ := bind_some h1
  simp only [A.ret, Out.ok.injEq, Prod.mk.injEq] at hr
  obtain ⟨⟨rfl, hn⟩, _⟩ := hr
  intro s hs
  refine RunC.loop ?_ (h2 s1 hn)
  rw [hs]
  exact codeA_ok _ _ _ _ _ _ hc (all_append hp).1

theorem LoopF.out {keep : List Nat} {c : ICode} {t s' : St} {x : Ex} {bs : List Ans} (h : Gives (roundA F keep c t bs) (x, s')) (hx : x ≠ .normal) : LoopF F keep c t x s' := by
  obtain ⟨bs', p, h1, hp⟩ := h.get
  unfold roundA at h1
  obtain ⟨⟨y, s1⟩, bs1, p1, p2, hc, hr, rfl⟩ := bind_some h1
  simp only [A.ret, Out.ok.injEq, Prod.mk.injEq] at hr
  obtain ⟨⟨rfl, hn⟩, _⟩ := hr
  intro s hs
  refine RunC.loop_out ?_ hx
  rw [hs]
  have e : s1 = s' := by
    cases y with
    | normal => exact absurd rfl hx
    | _ => exact hn
  rw [← e]
  exact codeA_ok _ _ _ _ _ _ hc (all_append hp).1

end Go.Ev

