/-
  Words for rows of sectors that a call owns, and the copy of a disk.
-/
import Derived.Test.YtfphnpelampoeaaEzRulesM
import Derived.Test.YtfphnpelampoeaaEzCodeM
import Derived.Test.YtfphnpelampoeaaWrdM
set_option linter.unusedVariables false
set_option linter.unusedSimpArgs false
namespace Go.Proofs.Ytfphnpelampoeaa.Rw
open Go Go.Ez

def byteC (b : UInt8) : C := .lit (.int .u8 (b.toNat : Int))
def bytesC (l : List UInt8) : List C := l.map byteC
def bytesS (l : List UInt8) : C := .slice (bytesC l) l.length
def boolC (b : Bool) : C := .lit (.bool b)
def intC (n : Int) : C := .lit (.int .i64 n)
def secC (s : Sec) : List C := [bytesS s.sure, bytesS s.data, boolC s.fresh]
def secsC (l : List Sec) : List C := l.flatMap secC
def secsS (l : List Sec) : C := .slice (secsC l) l.length
def dskV (l : List Sec) (dead armed : Bool) (left : Int) : V := .agg [secsS l, boolC dead, boolC armed, intC left]

theorem bytesC_len (l : List UInt8) : (bytesC l).length = l.length := by simp [bytesC]
theorem secsC_cons (s : Sec) (l : List Sec) : secsC (s :: l) = secC s ++ secsC l := rfl
theorem secsC_len : ∀ l : List Sec, (secsC l).length = l.length * 3
  | [] => rfl
  | s :: l => by rw [secsC_cons, List.length_append, secsC_len l, List.length_cons]; simp [secC]; omega
theorem secsC_drop : ∀ (k : Nat) (l : List Sec), (secsC l).drop (k * 3) = secsC (l.drop k)
  | 0, l => by simp
  | k + 1, [] => by simp [secsC]
  | k + 1, s :: l => by
    rw [secsC_cons, show (k + 1) * 3 = 3 + k * 3 by omega, ← List.drop_drop, List.drop_succ_cons, ← secsC_drop k l]
    rfl
theorem secsC_at (k : Nat) (l : List Sec) (h : k < l.length) : (secsC l).drop (k * 3) = secC (secAt l k) ++ secsC (l.drop (k + 1)) := by
  rw [secsC_drop, drop_getD noSec k l h]; rfl

def flat (ids : List (Nat × Nat)) : List Nat := ids.flatMap fun p => [p.1, p.2]

def Held (h : Heap) : List (Nat × Nat) → List Sec → Prop
  | [], [] => True
  | p :: ids, s :: l => getH h p.1 = .arr (bytesC s.sure) 1 0 5 ∧ getH h p.2 = .arr (bytesC s.data) 1 0 5 ∧ Held h ids l
  | _, _ => False

def rowD : List (Nat × Nat) → List Sec → List D
  | p :: ids, s :: l => .arr p.1 0 128 :: .arr p.2 0 128 :: .c (boolC s.fresh) :: rowD ids l
  | _, _ => []

theorem Held.len {h : Heap} : ∀ {ids : List (Nat × Nat)} {l : List Sec}, Held h ids l → ids.length = l.length
  | [], [], _ => rfl
  | _ :: ids, _ :: l, hh => by simp [Held.len hh.2.2]
  | [], _ :: _, hh => hh.elim
  | _ :: _, [], hh => hh.elim

theorem Held.app {h : Heap} : ∀ {ids ids' : List (Nat × Nat)} {l l' : List Sec}, Held h ids l → Held h ids' l' → Held h (ids ++ ids') (l ++ l')
  | [], _, [], _, _, h2 => h2
  | _ :: _, _, _ :: _, _, h1, h2 => ⟨h1.1, h1.2.1, Held.app h1.2.2 h2⟩
  | [], _, _ :: _, _, h1, _ => h1.elim
  | _ :: _, _, [], _, h1, _ => h1.elim

theorem Held.split {h : Heap} : ∀ {ids ids' : List (Nat × Nat)} {l l' : List Sec}, ids.length = l.length → Held h (ids ++ ids') (l ++ l') → Held h ids l ∧ Held h ids' l'
  | [], _, [], _, _, h2 => ⟨trivial, h2⟩
  | _ :: _, _, _ :: _, _, hl, h2 => ⟨⟨h2.1, h2.2.1, (Held.split (by simpa using hl) h2.2.2).1⟩, (Held.split (by simpa using hl) h2.2.2).2⟩
  | [], _, _ :: _, _, hl, _ => by simp at hl
  | _ :: _, _, [], _, hl, _ => by simp at hl

theorem Held.frame {h h' : Heap} : ∀ {ids : List (Nat × Nat)} {l : List Sec}, Held h ids l → (∀ x ∈ flat ids, getH h' x = getH h x) → Held h' ids l
  | [], [], _, _ => trivial
  | p :: ids, s :: l, hh, hf => by
    refine ⟨by rw [hf p.1 (by simp [flat])]; exact hh.1, by rw [hf p.2 (by simp [flat])]; exact hh.2.1, Held.frame hh.2.2 fun x hx => hf x ?_⟩
    simp only [flat, List.flatMap_cons, List.mem_append] at hx ⊢
    exact .inr hx
  | [], _ :: _, hh, _ => hh.elim
  | _ :: _, [], hh, _ => hh.elim

theorem rowD_app : ∀ {ids ids' : List (Nat × Nat)} {l l' : List Sec}, ids.length = l.length → rowD (ids ++ ids') (l ++ l') = rowD ids l ++ rowD ids' l'
  | [], _, [], _, _ => rfl
  | _ :: ids, _, _ :: l, _, hl => by simp only [List.cons_append, rowD]; rw [rowD_app (by simpa using hl)]
  | [], _, _ :: _, _, hl => by simp at hl
  | _ :: _, _, [], _, hl => by simp at hl

theorem rowD_len : ∀ {ids : List (Nat × Nat)} {l : List Sec}, ids.length = l.length → (rowD ids l).length = l.length * 3
  | [], [], _ => rfl
  | _ :: ids, _ :: l, hl => by simp only [rowD, List.length_cons]; rw [rowD_len (by simpa using hl)]; omega
  | [], _ :: _, hl => by simp at hl
  | _ :: _, [], hl => by simp at hl

theorem getH_cons (i : Nat) (o : Ez.Obj) (h : Heap) (j : Nat) : getH ((i, o) :: h) j = if i = j then o else getH h j := rfl
theorem getE_cons (i : Nat) (o : D) (h : Env) (j : Nat) : getE ((i, o) :: h) j = if i = j then o else getE h j := rfl

/- ### running code, with what is to hold behind it -/

def WP (F : Tab) (c : ICode) (s : St) (Q : Ex → St → Prop) : Prop := ∃ x s', RunC F c s x s' ∧ Q x s'

section
variable {F : Tab} {s : St} {Q : Ex → St → Prop}

theorem wp_skip (h : Q .normal s) : WP F .skip s Q := ⟨_, _, RunC.skip s, h⟩
theorem wp_exit {id : Nat} (h : Q (.exit id) s) : WP F (.exit id) s Q := ⟨_, _, RunC.exit id s, h⟩
theorem wp_ret (h : Q .ret s) : WP F .ret s Q := ⟨_, _, RunC.ret s, h⟩

theorem wp_region {is : List Inst} (h : match evSeq noCall noSh is s with | some s' => Q .normal s' | none => False) : WP F (.region is) s Q := by
  cases he : evSeq noCall noSh is s with
  | none => rw [he] at h; exact h.elim
  | some s' => rw [he] at h; exact ⟨_, _, RunC.region knows_none knowsS_none he, h⟩

theorem wp_draw {is : List Inst} {ws : List Nat} (h : match evDraw noCall s.nx 0 is s.env s.heap with | some (e, h', ts) => drawOk ts ws = true ∧ Q .normal ⟨e, h', s.nx + is.length⟩ | none => False) : WP F (.draw is ws) s Q := by
  cases he : evDraw noCall s.nx 0 is s.env s.heap with
  | none => rw [he] at h; exact h.elim
  | some p => obtain ⟨e, h', ts⟩ := p; rw [he] at h; exact ⟨_, _, RunC.draw knows_none he h.1, h.2⟩

theorem knows_nat : Knows F F.nat := ⟨1, fun n hn f vs rs h => by
  obtain ⟨k, rfl⟩ : ∃ k, n = k + 1 := ⟨n - 1, by omega⟩
  rw [evFn, h]⟩

theorem wp_drawN {is : List Inst} {ws : List Nat} (h : match evDraw F.nat s.nx 0 is s.env s.heap with | some (e, h', ts) => drawOk ts ws = true ∧ Q .normal ⟨e, h', s.nx + is.length⟩ | none => False) : WP F (.draw is ws) s Q := by
  cases he : evDraw F.nat s.nx 0 is s.env s.heap with
  | none => rw [he] at h; exact h.elim
  | some p => obtain ⟨e, h', ts⟩ := p; rw [he] at h; exact ⟨_, _, RunC.draw knows_nat he h.1, h.2⟩

theorem wp_regionN {is : List Inst} (h : match evSeq F.nat noSh is s with | some s' => Q .normal s' | none => False) : WP F (.region is) s Q := by
  cases he : evSeq F.nat noSh is s with
  | none => rw [he] at h; exact h.elim
  | some s' => rw [he] at h; exact ⟨_, _, RunC.region knows_nat knowsS_none he, h⟩

/-- a region that calls a function with its own memory, once -/
theorem wp_regionB {f : Nat} {ds : List D} {hp : Heap} {nx : Nat} {rs : List D} {hp' : Heap} {nx' : Nat} (hb : RunB F f ds hp nx rs hp' nx') {lend : Lender} (hl : ∀ g es h k r, lend g es h k = some r → g = f ∧ es = ds ∧ h = hp ∧ k = nx ∧ r = (rs, hp', nx')) {is : List Inst}
    (h : match evSeq noCall lend is s with | some s' => Q .normal s' | none => False) : WP F (.region is) s Q := by
  cases he : evSeq noCall lend is s with
  | none => rw [he] at h; exact h.elim
  | some s' =>
    rw [he] at h
    refine ⟨_, _, RunC.region knows_none ?_ he, h⟩
    obtain ⟨n0, hb⟩ := hb
    refine ⟨n0, fun n hn g es h k r hg => ?_⟩
    obtain ⟨rfl, rfl, rfl, rfl, rfl⟩ := hl g es h k r hg
    exact hb n hn

theorem wp_seq {a b : ICode} (h : WP F a s fun x s1 => match x with | .normal => WP F b s1 Q | .exit id => Q (.exit id) s1 | .ret => Q .ret s1) : WP F (.seq a b) s Q := by
  obtain ⟨x, s1, h1, h2⟩ := h
  cases x with
  | normal => obtain ⟨y, s2, h3, h4⟩ := h2; exact ⟨y, s2, RunC.seq h1 h3, h4⟩
  | exit id => exact ⟨_, _, RunC.seq_out h1 (by simp), h2⟩
  | ret => exact ⟨_, _, RunC.seq_out h1 (by simp), h2⟩

theorem wp_cond {c : X} {a b : ICode} {t : Bool} (hc : evX s.env c = .c (.lit (.bool t))) (h : WP F (if t then a else b) s Q) : WP F (.cond c a b) s Q := by
  obtain ⟨x, s1, h1, h2⟩ := h
  exact ⟨x, s1, RunC.cond hc h1, h2⟩

theorem wp_condT {c : X} {a b : ICode} (hc : evX s.env c = .c (.lit (.bool true))) (h : WP F a s Q) : WP F (.cond c a b) s Q := wp_cond hc (by simpa using h)
theorem wp_condF {c : X} {a b : ICode} (hc : evX s.env c = .c (.lit (.bool false))) (h : WP F b s Q) : WP F (.cond c a b) s Q := wp_cond hc (by simpa using h)

theorem wp_block {id : Nat} {c : ICode} (h : WP F c s fun x s1 => match x with | .normal => Q .normal s1 | .exit id' => (if id' = id then Q .normal s1 else Q (.exit id') s1) | .ret => Q .ret s1) : WP F (.block id c) s Q := by
  obtain ⟨x, s1, h1, h2⟩ := h
  cases x with
  | normal => exact ⟨_, _, RunC.block h1 (by simp), h2⟩
  | ret => exact ⟨_, _, RunC.block h1 (by simp), h2⟩
  | exit id' =>
    simp only at h2
    by_cases he : id' = id
    · subst he; rw [if_pos rfl] at h2; exact ⟨_, _, RunC.block_exit h1, h2⟩
    · rw [if_neg he] at h2; exact ⟨_, _, RunC.block h1 (by simpa using he), h2⟩

theorem wp_loop {c : ICode} (h : WP F c s fun x s1 => match x with | .normal => WP F (.loop c) s1 Q | .exit id => Q (.exit id) s1 | .ret => Q .ret s1) : WP F (.loop c) s Q := by
  obtain ⟨x, s1, h1, h2⟩ := h
  cases x with
  | normal => obtain ⟨y, s2, h3, h4⟩ := h2; exact ⟨y, s2, RunC.loop h1 h3, h4⟩
  | exit id => exact ⟨_, _, RunC.loop_out h1 (by simp), h2⟩
  | ret => exact ⟨_, _, RunC.loop_out h1 (by simp), h2⟩

theorem WP.mono {c : ICode} {Q' : Ex → St → Prop} (h : WP F c s Q) (hq : ∀ x s', Q x s' → Q' x s') : WP F c s Q' := by
  obtain ⟨x, s1, h1, h2⟩ := h
  exact ⟨x, s1, h1, hq _ _ h2⟩

/- ### one operation after another -/

def isLend : Ins → Bool
  | .callS _ _ _ | .callV _ _ => true
  | _ => false

def seqW (call : Ez.Callee) (lend : Lender) (is : List Inst) (s : St) (Q : St → Prop) : Prop := match evSeq call lend is s with | some s' => Q s' | none => False

def oneW (r : Stepped) (K : D → List (Nat × Ez.Obj) → Prop) : Prop := match r with | some (d, us) => K d us | none => False

theorem oneW_some {d : D} {us : List (Nat × Ez.Obj)} {K : D → List (Nat × Ez.Obj) → Prop} : oneW (some (d, us)) K = K d us := rfl

theorem seqW_nil {call : Ez.Callee} {lend : Lender} {Q : St → Prop} (h : Q s) : seqW call lend [] s Q := h

theorem seqW_cons {call : Ez.Callee} {lend : Lender} {Q : St → Prop} {dst : Option Nat} {ins : Ins} {is : List Inst} {e : Env} {hp : Heap} {n : Nat} (hl : isLend ins = false)
    (h : oneW (stepC call (evX e) hp n ins) fun d us => seqW call lend is ⟨putE e dst d, updH hp us, n + 1⟩ Q) : seqW call lend (⟨dst, ins, none⟩ :: is) ⟨e, hp, n⟩ Q := by
  unfold oneW at h
  unfold seqW
  cases hs : stepC call (evX e) hp n ins with
  | none => rw [hs] at h; exact h.elim
  | some p =>
    obtain ⟨d, us⟩ := p
    rw [hs] at h
    have : evSeq call lend (⟨dst, ins, none⟩ :: is) ⟨e, hp, n⟩ = evSeq call lend is ⟨putE e dst d, updH hp us, n + 1⟩ := by
      rw [evSeq]
      simp only [wanted, Option.bind_eq_bind, Option.bind_some, if_true]
      cases ins <;> first | (simp only [hs, Option.bind_some]; done) | cases hl
    rw [this]
    exact h

theorem seqW_lend {call : Ez.Callee} {lend : Lender} {Q : St → Prop} {dst : Option Nat} {f : Nat} {own : Bool} {xs : List X} {is : List Inst} {e : Env} {hp : Heap} {n : Nat} {d : D} {hp' : Heap} {n' : Nat}
    (hl : lendC lend own f (xs.map (evX e)) hp n = some (d, hp', n')) (h : seqW call lend is ⟨putE e dst d, hp', n'⟩ Q) : seqW call lend (⟨dst, .callS f own xs, none⟩ :: is) ⟨e, hp, n⟩ Q := by
  unfold seqW at h ⊢
  have : evSeq call lend (⟨dst, .callS f own xs, none⟩ :: is) ⟨e, hp, n⟩ = evSeq call lend is ⟨putE e dst d, hp', n'⟩ := by
    rw [evSeq]
    simp only [wanted, Option.bind_eq_bind, Option.bind_some, if_true, hl]
  rw [this]
  exact h

def drawW (call : Ez.Callee) (nx k : Nat) (is : List Inst) (e : Env) (h : Heap) (Q : Env → Heap → List Trace → Prop) : Prop := match evDraw call nx k is e h with | some (e', h', ts) => Q e' h' ts | none => False

theorem drawW_nil {call : Ez.Callee} {nx k : Nat} {e : Env} {h : Heap} {Q : Env → Heap → List Trace → Prop} (hq : Q e h []) : drawW call nx k [] e h Q := hq

theorem drawW_cons {call : Ez.Callee} {nx k : Nat} {dst : Option Nat} {ins : Ins} {is : List Inst} {e : Env} {hp : Heap} {Q : Env → Heap → List Trace → Prop}
    (h : oneW (stepC call (evX e) hp (nx + k) ins) fun d us => drawW call nx (k + 1) is (putE e dst d) (updH hp us) fun e' h' ts => Q e' h' (⟨tmpsX (opX ins), dst.toList, touches hp (evX e) ins, us.map (·.1)⟩ :: ts)) :
    drawW call nx k (⟨dst, ins, none⟩ :: is) e hp Q := by
  unfold oneW at h
  unfold drawW at h ⊢
  cases hs : stepC call (evX e) hp (nx + k) ins with
  | none => rw [hs] at h; exact h.elim
  | some p =>
    obtain ⟨d, us⟩ := p
    rw [hs] at h
    simp only [evDraw, wanted, Option.bind_eq_bind, Option.bind_some, if_true, hs, List.nil_append]
    simp only at h
    cases hd : evDraw call nx (k + 1) is (putE e dst d) (updH hp us) with
    | none => rw [hd] at h; exact h.elim
    | some q => obtain ⟨e', h', ts⟩ := q; rw [hd] at h; exact h

theorem wp_reg {is : List Inst} (h : seqW noCall noSh is s (Q .normal)) : WP F (.region is) s Q := wp_region h
theorem wp_regN {is : List Inst} (h : seqW F.nat noSh is s (Q .normal)) : WP F (.region is) s Q := wp_regionN h
theorem wp_drw {is : List Inst} {ws : List Nat} {e : Env} {hp : Heap} {n : Nat} (h : drawW noCall n 0 is e hp fun e' h' ts => drawOk ts ws = true ∧ Q .normal ⟨e', h', n + is.length⟩) : WP F (.draw is ws) ⟨e, hp, n⟩ Q := wp_draw h
theorem wp_drwN {is : List Inst} {ws : List Nat} {e : Env} {hp : Heap} {n : Nat} (h : drawW F.nat n 0 is e hp fun e' h' ts => drawOk ts ws = true ∧ Q .normal ⟨e', h', n + is.length⟩) : WP F (.draw is ws) ⟨e, hp, n⟩ Q := wp_drawN h
end

end Go.Proofs.Ytfphnpelampoeaa.Rw

