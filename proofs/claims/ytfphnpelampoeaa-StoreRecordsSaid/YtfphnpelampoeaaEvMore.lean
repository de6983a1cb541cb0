/-
  More rules for runs that assume.
-/
import Derived.Test.YtfphnpelampoeaaEvAssume
namespace Go.Ev

theorem Gives.cast {α : Type} {x : Out (α × List Ans × List Prop)} {a b : α} (e : a = b) (h : Gives x a) : Gives x b := e ▸ h

theorem evSh_le {F : Nat → Option IFunc} {n n' : Nat} (h : n ≤ n') {f : Nat} {ds : List D} {hp : Heap} {nx : Nat} {r : List D × Heap × Nat} (he : evSh F n f ds hp nx = some r) : evSh F n' f ds hp nx = some r := by
  induction h with
  | refl => exact he
  | step _ ih => exact (mono_all _).shared _ _ _ _ _ ih

theorem RunS.of {F : Nat → Option IFunc} {n f : Nat} {ds ds' : List D} {h h' : Heap} {nx nx' : Nat} (he : evSh F n f ds h nx = some (ds', h', nx')) : RunS F f ds h nx ds' h' nx' := ⟨n, fun _ hn => evSh_le hn he⟩

theorem RunS.fn {F : Nat → Option IFunc} {f : Nat} {ds ds' : List D} {h : Heap} {nx : Nat} {I : IFunc} (hI : F f = some I) (hl : ds.length = I.nparams) {x : Ex} {s : St} (hc : RunC F I.body ⟨bindArgs 0 ds, h, nx, true⟩ x s) (hx : ∀ id, x ≠ .exit id)
    (hd : resD s.env s.heap I.res = some ds') : RunS F f ds h nx ds' s.heap s.nx := by
  obtain ⟨n0, hc⟩ := hc
  refine ⟨n0 + 2, fun n hn => ?_⟩
  obtain ⟨k, rfl⟩ : ∃ k, n = k + 2 := ⟨n - 2, by omega⟩
  rw [evSh, evBody]
  simp only [hI, Option.bind_eq_bind, Option.bind_some, hl, if_true, hc k (by omega)]
  cases x with
  | exit id => exact absurd rfl (hx id)
  | normal => simp [hd]
  | ret => simp [hd]

end Go.Ev
