/-
  Every operation but a call: the evaluator's step is the model's.
-/
import Derived.Test.YtfphnpelampoeaaEvOps6
namespace Go.Ev
open Go.RowKit

section
variable {B : Nat} {S : Nat → Nat → Prop} {P : Program} {o : Oper} {a : Act} {m : M} {slot : Nat} {ρ : X → D} {d : D} {us : List (Nat × Obj)} {shF : Nat → Bool}

theorem compXs_one {args : Array Operand} {x : X} (h : compXs args.toList = some [x]) : ∃ p, args = #[p] ∧ compX p = some x := by
  obtain ⟨l⟩ := args
  simp only at h
  cases l with
  | nil => simp [compXs] at h
  | cons p l =>
    simp only [compXs, Option.bind_eq_bind, Option.bind_eq_some_iff, Option.some.injEq, List.cons.injEq] at h
    obtain ⟨y, h1, ys, h2, rfl, rfl⟩ := h
    cases l with
    | nil => exact ⟨p, rfl, h1⟩
    | cons q l =>
      simp only [compXs, Option.bind_eq_bind, Option.bind_eq_some_iff, Option.some.injEq] at h2
      obtain ⟨_, _, _, _, h⟩ := h2
      cases h

theorem compXs_two {args : Array Operand} {x y : X} (h : compXs args.toList = some [x, y]) : ∃ p q, args = #[p, q] ∧ compX p = some x ∧ compX q = some y := by
  obtain ⟨l⟩ := args
  simp only at h
  cases l with
  | nil => simp [compXs] at h
  | cons p l =>
    simp only [compXs, Option.bind_eq_bind, Option.bind_eq_some_iff, Option.some.injEq, List.cons.injEq] at h
    obtain ⟨z, h1, ys, h2, rfl, rfl⟩ := h
    obtain ⟨q, h3, h4⟩ := compXs_one (args := l.toArray) (by simpa using h2)
    have : l = [q] := by simpa using congrArg Array.toList h3
    subst this
    exact ⟨p, q, rfl, h1, h4⟩

theorem list_one {α : Type} {l : Array α} {x : α} (h : l.toList = [x]) : l = #[x] := by
  obtain ⟨l⟩ := l; simp at h; subst h; rfl
theorem list_two {α : Type} {l : Array α} {x y : α} (h : l.toList = [x, y]) : l = #[x, y] := by
  obtain ⟨l⟩ := l; simp at h; subst h; rfl

def isCall : Ins → Bool
  | .call _ _ | .callS _ _ => true
  | _ => false

theorem step_ok {ins : Ins} (hc : compOp P shF o.op = some ins) (hn : isCall ins = false) (hk : HOK B S m) (ho : Opd B S m ρ a) (hs0 : ¬ m.U slot) (hs : step ρ m.h slot ins = some (d, us)) : Does B S P o a m slot d us := by
  unfold compOp at hc
  split at hc <;> try (cases hc; done)
  all_goals simp only [Option.bind_eq_bind, Option.bind_eq_some_iff, Option.some.injEq] at hc
  case h_1 x hop => obtain ⟨X', hx, rfl⟩ := hc; exact does_mov hk ho (.inl hop) hx hs
  case h_2 x hop => obtain ⟨X', hx, rfl⟩ := hc; exact does_mov hk ho (.inr hop) hx hs
  case h_3 c x y hop => obtain ⟨C', hc', X', hx, Y', hy, rfl⟩ := hc; exact does_pick hk ho hop hc' hx hy hs
  case h_4 t hop => obtain ⟨z, hz, rfl⟩ := hc; exact does_new hk hs0 hop hz hs
  case h_5 t x hop => obtain ⟨X', hx, rfl⟩ := hc; exact does_box hk ho hs0 hop hx hs
  case h_6 t parts hop =>
    obtain ⟨fs, h1, z, h2, qs, h3, h4⟩ := hc
    split at h4
    case isFalse => cases h4
    rename_i hkn
    simp only [Option.some.injEq] at h4
    subst h4
    exact does_build hk ho hop h1 h2 h3 hkn hs
  case h_7 t len parts hop =>
    obtain ⟨e, h1, i, h2, z, h3, qs, h4, h5⟩ := hc
    split at h5
    case isFalse => cases h5
    rename_i hcc
    simp only [Option.some.injEq] at h5
    subst h5
    exact does_lits hk ho hs0 hop h1 h2 h3 h4 hcc.1 hcc.2 hs
  case h_8 t x hop => obtain ⟨agg, h1, i, h2, X', hx, rfl⟩ := hc; exact does_load hk ho hop h1 h2 hx hs
  case h_9 t x y hop => obtain ⟨i, h1, X', hx, Y', hy, rfl⟩ := hc; exact does_store hk ho hop h1 hx hy hs
  case h_10 x hop => obtain ⟨X', hx, rfl⟩ := hc; exact does_nilck hk ho hop hx hs
  case h_11 op t x y t' hop =>
    obtain ⟨X', hx, Y', hy, h1⟩ := hc
    split at h1 <;> try (cases h1; done)
    all_goals simp only [Option.some.injEq] at h1; subst h1
    · rename_i ht; exact does_bin hk ho hop (fun _ => ht) hx hy hs
    · exact does_bin hk ho hop (fun h => by cases h) hx hy hs
    · exact does_bin hk ho hop (fun h => by cases h) hx hy hs
  case h_12 op t x hop => obtain ⟨X', hx, rfl⟩ := hc; exact does_un hk ho hop hx hs
  case h_13 src dst x hop =>
    obtain ⟨X', hx, h1⟩ := hc
    split at h1
    · rename_i h2 h3; simp only [Option.some.injEq] at h1; subst h1; exact does_conv hk ho hop h2 h3 hx hs
    · rename_i e h2 h3
      split at h1
      · rename_i h4; simp only [Option.some.injEq] at h1; subst h1; exact does_toStr hk ho hop h2 h3 h4 hx hs
      · cases h1
    · cases h1
  case h_14 t x y hop =>
    obtain ⟨e, h1, i, h2, z, h3, X', hx, Y', hy, h4⟩ := hc
    split at h4
    case isFalse => cases h4
    simp only [Option.some.injEq] at h4
    subst h4
    exact does_mk hk ho hs0 hop h1 h2 h3 hx hy hs
  case h_15 t x lo hi hop =>
    obtain ⟨X', hx, Lo, hlo, Hi, hhi, h1⟩ := hc
    split at h1
    · rename_i h2; simp only [Option.some.injEq] at h1; subst h1; exact does_sls hk ho hop h2 hx hlo hhi hs
    · rename_i e h2
      simp only [Option.bind_eq_some_iff, Option.some.injEq] at h1
      obtain ⟨i, h3, rfl⟩ := h1
      exact does_slc hk ho hop h2 h3 hx hlo hhi hs
    · cases h1
  case h_16 t x f hop =>
    obtain ⟨fs, h1, fl, h2, i, h3, X', hx, h4⟩ := hc
    split at h4
    case isFalse => cases h4
    rename_i hp
    simp only [Option.some.injEq] at h4
    subst h4
    exact does_fadr hk ho hop h1 h2 h3 hp hx hs
  case h_17 t x f hop => obtain ⟨fs, h1, fl, h2, i, h3, agg, h4, X', hx, rfl⟩ := hc; exact does_fld hk ho hop h1 h2 h3 h4 hx hs
  case h_18 t x y hop => obtain ⟨e, h1, i, h2, X', hx, Y', hy, rfl⟩ := hc; exact does_iadr hk ho hop h1 h2 hx hy hs
  case h_19 t x y hop =>
    obtain ⟨X', hx, Y', hy, h1⟩ := hc
    split at h1
    · rename_i h2; simp only [Option.some.injEq] at h1; subst h1; exact does_sidx hk ho hop h2 hx hy hs
    · cases h1
  case h_20 x i hop => obtain ⟨X', hx, rfl⟩ := hc; exact does_ext hk ho hop hx hs
  case h_21 f args ts hop =>
    obtain ⟨xs, hx, rfl⟩ := hc
    split at hn <;> cases hn
  case h_22 b args ts hop =>
    obtain ⟨xs, hx, h1⟩ := hc
    split at h1
    · rename_i x t hxs hts
      obtain ⟨p, rfl, hp⟩ := compXs_one hx
      have ht := list_one hts
      subst ht
      split at h1
      · rename_i h2; simp only [Option.some.injEq] at h1; subst h1; exact does_len hk ho hop (isStr := true) h2 hp hs
      · rename_i e h2; simp only [Option.some.injEq] at h1; subst h1; exact does_len hk ho hop (isStr := false) ⟨e, h2⟩ hp hs
      · cases h1
    · rename_i x y t t' hxs hts
      obtain ⟨p, q, rfl, hp, hq⟩ := compXs_two hx
      have ht := list_two hts
      subst ht
      simp only [Option.bind_eq_some_iff] at h1
      obtain ⟨e, h2, i, h3, z, h4, h5⟩ := h1
      split at h5
      · rename_i e' h6
        split at h5
        case isFalse => cases h5
        simp only [Option.some.injEq] at h5
        subst h5
        exact does_app hk ho hs0 hop h2 h3 h4 h6 (by simp) hp hq hs
      · rename_i h6
        split at h5
        case isFalse => cases h5
        simp only [Option.some.injEq] at h5
        subst h5
        exact does_app hk ho hs0 hop h2 h3 h4 h6 (by simp) hp hq hs
      · cases h5
    · rename_i x y t t' hxs hts
      obtain ⟨p, q, rfl, hp, hq⟩ := compXs_two hx
      have ht := list_two hts
      subst ht
      simp only [Option.bind_eq_some_iff] at h1
      obtain ⟨e, h2, i, h3, h5⟩ := h1
      split at h5
      case isFalse => cases h5
      simp only [Option.some.injEq] at h5
      subst h5
      exact does_cpy hk ho hop h2 h3 hp hq hs
    · rename_i x y hxs
      obtain ⟨p, q, rfl, hp, hq⟩ := compXs_two hx
      simp only [Option.some.injEq] at h1
      subst h1
      exact does_mx hk ho hop hp hq hs
    · rename_i x y hxs
      obtain ⟨p, q, rfl, hp, hq⟩ := compXs_two hx
      simp only [Option.some.injEq] at h1
      subst h1
      exact does_mn hk ho hop hp hq hs
    · cases h1

end
end Go.Ev
