/-
  StoreDisk: from what comes in to what the evaluator takes.
-/
import Derived.Test.YtfphnpelampoeaaRw30M
import Derived.Test.YtfphnpelampoeaaVfrM
set_option linter.unusedVariables false
set_option linter.unusedSimpArgs false
namespace Go.Proofs.Ytfphnpelampoeaa.Rw
open Go Go.Ez Go.RowKit

theorem wf64 {z : Int} (h : (Lit.int .u64 z).wf = true) : ∃ n : Nat, z = (n : Int) ∧ n < 18446744073709551616 := by
  have h1 : IntKind.u64.min ≤ z ∧ z ≤ IntKind.u64.max := by simpa [Lit.wf] using h
  have e1 : IntKind.u64.min = 0 := rfl
  have e2 : IntKind.u64.max = 18446744073709551615 := rfl
  exact ⟨z.toNat, by omega, by omega⟩

theorem typed_u8 {n : Nat} {cs : List C} (h : Typed Try.prog n 5 cs) : ∃ z, cs = [.lit (.int .u8 z)] := by
  cases n with
  | zero => exact h.elim
  | succ n => unfold Typed at h; rw [Try.underlying5] at h; obtain ⟨z, h1, _⟩ := h; exact ⟨z, h1⟩

theorem typed_u64 {n : Nat} {cs : List C} (h : Typed Try.prog n 35 cs) : ∃ z : Nat, cs = [.lit (.int .u64 (z : Int))] ∧ z < 18446744073709551616 := by
  cases n with
  | zero => exact h.elim
  | succ n =>
    unfold Typed at h; rw [Try.underlying35] at h; obtain ⟨z, h1, h2⟩ := h
    obtain ⟨m, rfl, hm⟩ := wf64 h2
    exact ⟨m, h1, hm⟩

theorem typed_act {n : Nat} {cs : List C} (h : Typed Try.prog n 56 cs) : ∃ a : Act, cs = actC a := by
  cases n with
  | zero => exact h.elim
  | succ n =>
    unfold Typed at h
    rw [Try.underlying56] at h
    obtain ⟨hl, hf⟩ := h
    have hl6 : cs.length = 6 := hl.trans (by kernel_rfl)
    match cs, hl6 with
    | [c0, c1, c2, c3, c4, c5], _ =>
      have m0 := hf _ (List.mem_cons_self ..)
      have m1 := hf _ (List.mem_cons_of_mem _ (List.mem_cons_self ..))
      have m2 := hf _ (List.mem_cons_of_mem _ (List.mem_cons_of_mem _ (List.mem_cons_self ..)))
      have m3 := hf _ (List.mem_cons_of_mem _ (List.mem_cons_of_mem _ (List.mem_cons_of_mem _ (List.mem_cons_self ..))))
      have m4 := hf _ (List.mem_cons_of_mem _ (List.mem_cons_of_mem _ (List.mem_cons_of_mem _ (List.mem_cons_of_mem _ (List.mem_cons_self ..)))))
      have m5 := hf _ (List.mem_cons_of_mem _ (List.mem_cons_of_mem _ (List.mem_cons_of_mem _ (List.mem_cons_of_mem _ (List.mem_cons_of_mem _ (List.mem_cons_self ..))))))
      obtain ⟨z0, h0, _⟩ := typed_int m0
      obtain ⟨z1, h1, _⟩ := typed_int m1
      obtain ⟨z2, h2, _⟩ := typed_int m2
      obtain ⟨z3, h3, k3⟩ := typed_u64 m3
      obtain ⟨z4, h4, k4⟩ := typed_u64 m4
      obtain ⟨z5, h5⟩ := typed_u8 m5
      have c35 : Try.prog.cellsOf 35 = 1 := by kernel_rfl
      have c5' : Try.prog.cellsOf 5 = 1 := by kernel_rfl
      have c3' : Try.prog.cellsOf 3 = 1 := by kernel_rfl
      simp only [c35, c5', c3', List.drop_zero, List.drop_succ_cons, List.take_succ_cons, List.take_zero, List.cons.injEq, and_true] at h0 h1 h2 h3 h4 h5
      subst h0 h1 h2 h3 h4 h5
      exact ⟨⟨z0, z1, z2, z3, z4, z5, k3, k4⟩, rfl⟩

theorem typed_acts {n : Nat} {cs : List C} (h : Typed Try.prog n 53 cs) : ∃ l : List Act, cs = [.slice (actsC l) l.length] := by
  cases n with
  | zero => exact h.elim
  | succ n =>
    unfold Typed at h
    rw [Try.underlying53] at h
    obtain ⟨rows, rfl, _, hr⟩ := h
    have : ∀ rows : List (List C), (∀ r ∈ rows, r.length = Try.prog.cellsOf 56 ∧ Typed Try.prog n 56 r) → ∃ l : List Act, rows.flatten = actsC l ∧ rows.length = l.length := by
      intro rows
      induction rows with
      | nil => exact fun _ => ⟨[], rfl, rfl⟩
      | cons r rows ih =>
        intro hr
        obtain ⟨l, h1, h2⟩ := ih fun r' hr' => hr r' (by simp [hr'])
        obtain ⟨s, rfl⟩ := typed_act (hr r (by simp)).2
        exact ⟨s :: l, by rw [List.flatten_cons, h1, actsC_cons], by simp [h2]⟩
    obtain ⟨l, h1, h2⟩ := this rows hr
    exact ⟨l, by rw [h1, h2]⟩

theorem walkD {l : List Act} {v : Value} {w : World} (hr : RepV w (fun _ _ => True) (.one (.slice (actsC l) l.length)) v) (a : Int) (w1 : (Lit.int .u8 a).wf = true) :
    Calls Try.prog 9 #[.int .u8 a, v] w fun e w' => e = .returned (.bool true) ∧ Below w.heap.size w w' := by
  obtain ⟨b1, rfl⟩ := wf8 w1
  obtain ⟨n, hn⟩ := (storeDisk_run (F := F0) rfl natV_none rfl b1.toNat b1.toNat_lt l).get
  have ok := ev_sound tableV hn
  refine (ok.2 (fun _ _ => True) w [.int .u8 b1.toNat, v] ⟨⟨rfl, rfl⟩, hr, trivial⟩).mono fun e w' ⟨u, he, hv, hb⟩ => ⟨?_, hb⟩
  rw [he]
  obtain ⟨rfl, _⟩ : u = .bool true ∧ _ := hv
  rfl

end Go.Proofs.Ytfphnpelampoeaa.Rw

