/-
  StoreValid: from what comes in to what the evaluator takes.
-/
import Derived.Test.YtfphnpelampoeaaRw10M
import Derived.Test.YtfphnpelampoeaaEzTabM
import Derived.Test.YtfphnpelampoeaaEzOpenM
import Derived.Test.YtfphnpelampoeaaAwkM
import Derived.Test.YtfphnpelampoeaaEvTabM
set_option linter.unusedVariables false
set_option linter.unusedSimpArgs false
namespace Go.Proofs.Ytfphnpelampoeaa.Rw
open Go Go.Ez Go.RowKit

theorem wf8 {z : Int} (h : (Lit.int .u8 z).wf = true) : ∃ b : UInt8, z = (b.toNat : Int) := by
  have h1 : IntKind.u8.min ≤ z ∧ z ≤ IntKind.u8.max := by simpa [Lit.wf] using h
  have e1 : IntKind.u8.min = 0 := rfl
  have e2 : IntKind.u8.max = 255 := rfl
  refine ⟨UInt8.ofNat z.toNat, ?_⟩
  rw [UInt8.toNat_ofNat']
  omega

theorem typed_bytes {n : Nat} {cs : List C} (h : Typed Try.prog n 30 cs) : ∃ b : List UInt8, cs = [bytesS b] := by
  cases n with
  | zero => exact h.elim
  | succ n =>
    unfold Typed at h
    rw [Try.underlying30] at h
    obtain ⟨rows, rfl, _, hr⟩ := h
    have : ∀ rows : List (List C), (∀ r ∈ rows, r.length = Try.prog.cellsOf 5 ∧ Typed Try.prog n 5 r) → ∃ b : List UInt8, rows.flatten = bytesC b ∧ rows.length = b.length := by
      intro rows
      induction rows with
      | nil => exact fun _ => ⟨[], rfl, rfl⟩
      | cons r rows ih =>
        intro hr
        obtain ⟨b, h1, h2⟩ := ih fun r' hr' => hr r' (by simp [hr'])
        have h3 := (hr r (by simp)).2
        cases n with
        | zero => exact h3.elim
        | succ n =>
          unfold Typed at h3
          rw [Try.underlying5] at h3
          obtain ⟨z, rfl, hz⟩ := h3
          obtain ⟨x, rfl⟩ := wf8 hz
          exact ⟨x :: b, by rw [List.flatten_cons, h1]; rfl, by simp [h2]⟩
    obtain ⟨b, h1, h2⟩ := this rows hr
    exact ⟨b, by rw [h1, h2]; rfl⟩

theorem typed_bool {n : Nat} {cs : List C} (h : Typed Try.prog n 4 cs) : ∃ b, cs = [boolC b] := by
  cases n with
  | zero => exact h.elim
  | succ n => unfold Typed at h; rw [Try.underlying4] at h; exact h

theorem typed_int {n : Nat} {cs : List C} (h : Typed Try.prog n 3 cs) : ∃ z, cs = [intC z] ∧ (Lit.int .i64 z).wf = true := by
  cases n with
  | zero => exact h.elim
  | succ n => unfold Typed at h; rw [Try.underlying3] at h; exact h

theorem typed_sec {n : Nat} {cs : List C} (h : Typed Try.prog n 32 cs) : ∃ s : Sec, cs = secC s := by
  cases n with
  | zero => exact h.elim
  | succ n =>
    unfold Typed at h
    rw [Try.underlying32] at h
    obtain ⟨hl, hf⟩ := h
    have hl3 : cs.length = 3 := hl.trans (by kernel_rfl)
    match cs, hl3 with
    | [c0, c1, c2], _ =>
      obtain ⟨a, ha⟩ := typed_bytes (hf _ (List.mem_cons_self ..))
      obtain ⟨b, hb⟩ := typed_bytes (hf _ (List.mem_cons_of_mem _ (List.mem_cons_self ..)))
      obtain ⟨f, hf'⟩ := typed_bool (hf _ (List.mem_cons_of_mem _ (List.mem_cons_of_mem _ (List.mem_cons_self ..))))
      have c30 : Try.prog.cellsOf 30 = 1 := by kernel_rfl
      have c4 : Try.prog.cellsOf 4 = 1 := by kernel_rfl
      simp only [c30, c4, List.drop_zero, List.drop_succ_cons, List.take_succ_cons, List.take_zero, List.cons.injEq, and_true] at ha hb hf'
      subst ha hb hf'
      exact ⟨⟨a, b, f⟩, rfl⟩

theorem typed_secs {n : Nat} {cs : List C} (h : Typed Try.prog n 24 cs) : ∃ l : List Sec, cs = [secsS l] := by
  cases n with
  | zero => exact h.elim
  | succ n =>
    unfold Typed at h
    rw [Try.underlying24] at h
    obtain ⟨rows, rfl, _, hr⟩ := h
    have : ∀ rows : List (List C), (∀ r ∈ rows, r.length = Try.prog.cellsOf 32 ∧ Typed Try.prog n 32 r) → ∃ l : List Sec, rows.flatten = secsC l ∧ rows.length = l.length := by
      intro rows
      induction rows with
      | nil => exact fun _ => ⟨[], rfl, rfl⟩
      | cons r rows ih =>
        intro hr
        obtain ⟨l, h1, h2⟩ := ih fun r' hr' => hr r' (by simp [hr'])
        obtain ⟨s, rfl⟩ := typed_sec (hr r (by simp)).2
        exact ⟨s :: l, by rw [List.flatten_cons, h1, secsC_cons], by simp [h2]⟩
    obtain ⟨l, h1, h2⟩ := this rows hr
    exact ⟨l, by rw [h1, h2]; rfl⟩

theorem typed_disk {n : Nat} {cs : List C} (h : Typed Try.prog n 26 cs) : ∃ l de ar le, cs = [secsS l, boolC de, boolC ar, intC le] := by
  cases n with
  | zero => exact h.elim
  | succ n =>
    unfold Typed at h
    rw [Try.underlying26] at h
    obtain ⟨hl, hf⟩ := h
    have hl4 : cs.length = 4 := hl.trans (by kernel_rfl)
    match cs, hl4 with
    | [c0, c1, c2, c3], _ =>
      obtain ⟨l, ha⟩ := typed_secs (hf _ (List.mem_cons_self ..))
      obtain ⟨d, hb⟩ := typed_bool (hf _ (List.mem_cons_of_mem _ (List.mem_cons_self ..)))
      obtain ⟨a, hc⟩ := typed_bool (hf _ (List.mem_cons_of_mem _ (List.mem_cons_of_mem _ (List.mem_cons_self ..))))
      obtain ⟨le, hd, _⟩ := typed_int (hf _ (List.mem_cons_of_mem _ (List.mem_cons_of_mem _ (List.mem_cons_of_mem _ (List.mem_cons_self ..)))))
      have c24 : Try.prog.cellsOf 24 = 1 := by kernel_rfl
      have c4 : Try.prog.cellsOf 4 = 1 := by kernel_rfl
      have c3' : Try.prog.cellsOf 3 = 1 := by kernel_rfl
      simp only [c24, c4, c3', List.drop_zero, List.drop_succ_cons, List.take_succ_cons, List.take_zero, List.cons.injEq, and_true] at ha hb hc hd
      subst ha hb hc hd
      exact ⟨l, d, a, le, rfl⟩

/-- the table: awake is known by other means -/
def natV : Nat → List V → Option (List V)
  | 10, [] => some [.one (.lit (.bool true))]
  | _, _ => none

def F0 : Tab := ⟨code, natV⟩

theorem awake_ok : FnOK Try.prog 10 [] [.one (.lit (.bool true))] := by
  obtain ⟨n, hn⟩ := Go.Proofs.Ytfphnpelampoeaa.awake_spec.get
  have ok := Go.Ev.ev_sound Go.Proofs.Ytfphnpelampoeaa.table hn
  refine ⟨ok.1, fun S w us hall => ?_⟩
  cases us with
  | cons _ _ => exact hall.elim
  | nil =>
    refine (ok.2 S w [] trivial).mono fun e w' ⟨v, h1, h2, h3⟩ => ⟨v, h1, ?_, h3⟩
    obtain ⟨rfl, _⟩ : v = .bool true ∧ _ := h2
    exact ⟨rfl, rfl⟩

theorem natV_ok : ∀ f vs rs, F0.nat f vs = some rs → FnOK Try.prog f vs rs := by
  intro f vs rs h
  have h' : natV f vs = some rs := h
  unfold natV at h'
  split at h'
  · simp only [Option.some.injEq] at h'; subst h'; exact awake_ok
  · cases h'

theorem tableV : Table Try.prog shF F0 := table rfl natV_ok

theorem natV_none : ∀ f vs, f ≠ 10 → F0.nat f vs = none := by
  intro f vs h
  show natV f vs = none
  unfold natV
  split
  · exact absurd rfl h
  · rfl

end Go.Proofs.Ytfphnpelampoeaa.Rw

