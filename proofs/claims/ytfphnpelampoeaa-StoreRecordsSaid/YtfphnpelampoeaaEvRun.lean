/-
  append, copy and make as the model runs them, over a source that is a slice, a nil slice or a string.
-/
import Derived.Test.YtfphnpelampoeaaEvMem
import Derived.WalkKit
namespace Go.Ev
open Go.RowKit

/-- what append and copy take from a source -/
structure Src (P : Program) (w : World) (size n : Nat) (x : Value) (news : List Value) : Prop where
  len : Builtin.lenOf x = pure n
  cells : news.length = n * size
  first : ∀ w' : World, w'.heap = w.heap → ∀ k, k ≤ n → (Builtin.firstCells size k x).run P w' = .ok (news.take (k * size)).toArray w'

section
variable {P : Program} {w : World}

theorem Src.all {size n : Nat} {x : Value} {news : List Value} (h : Src P w size n x news) {w' : World} (hw : w'.heap = w.heap) : (Builtin.firstCells size n x).run P w' = .ok news.toArray w' := by
  have h1 := h.first w' hw n (Nat.le_refl _)
  rw [List.take_of_length_le (by rw [h.cells]; exact Nat.le_refl _)] at h1
  exact h1

theorem add_off (b o j : Nat) : (⟨b, o, none⟩ : Addr).add j = ⟨b, o + j, none⟩ := by unfold Addr.add; split <;> simp_all

theorem src_cells {size n cap : Nat} {a : Addr} {news : List Value} (hs : news ≠ [] → a.spot = none) (hl : news.length = n * size)
    (hc : ∀ j v, news[j]? = some v → w.cell? ⟨a.block, a.off + j, none⟩ = some v) : Src P w size n (.slice (some a) n cap) news := by
  refine ⟨rfl, hl, fun w' hw k hk => ?_⟩
  have hk' : k * size ≤ news.length := by rw [hl]; exact Nat.mul_le_mul_right _ hk
  refine run_firstCells_some (P := P) w' size k a n cap _ (by simp; omega) fun j v hv => ?_
  have hj : j < k * size := by have := (List.getElem?_eq_some_iff.1 hv).1; simp at this; omega
  rw [List.getElem?_take_of_lt hj] at hv
  have hne : news ≠ [] := by intro e; rw [e] at hv; simp at hv
  obtain ⟨b, o, sp⟩ := a
  have : sp = none := hs hne
  subst this
  rw [add_off]
  have := hc j v hv
  simp only [World.cell?, hw] at this ⊢
  exact this

theorem src_nil {size : Nat} : Src P w size 0 (.slice none 0 0) [] := by
  refine ⟨rfl, by simp, fun w' _ k hk => ?_⟩
  have : k = 0 := by omega
  subst this
  simp [Builtin.firstCells]

theorem src_string (s : ByteArray) : Src P w 1 s.size (.string s) (s.data.toList.map fun b => .int .u8 b.toNat) := by
  refine ⟨rfl, by rw [List.length_map, Nat.mul_one]; rfl, fun w' _ k hk => ?_⟩
  simp only [Builtin.firstCells]
  have h : (s.extract 0 k).data = (s.data.extract 0 k) := by simp [ByteArray.extract, ByteArray.copySlice]
  rw [h]
  show Result.ok _ _ = _
  congr 1
  apply Array.ext'
  simp [Array.toList_extract, List.extract]

section append
variable {t t' ty e : TypeId} {i : TypeInfo} {z : Value} {d' : TypeDesc}

theorem run_app_nil0 (ht : P.underlying t = some (.slice e)) (ht' : P.underlying t' = some d') (hd : ∀ k, d' ≠ .int k) (hi : P.info? e = some i) {x : Value} {news : List Value} (h : Src P w i.size 0 x news) :
    (Builtin.append_ #[t, t'] ty #[.slice none 0 0, x]).run P w = .ok (.slice none 0 0) w := by
  have hf := h.all (w' := w) rfl
  simp [Builtin.append_, run_underlying ht, run_underlying ht', sizeOf, typeInfo, hi, h.len, hf]

theorem run_app_zero (ht : P.underlying t = some (.slice e)) (ht' : P.underlying t' = some d') (hd : ∀ k, d' ≠ .int k) (hi : P.info? e = some i) {x : Value} {news : List Value} (h : Src P w i.size 0 x news) (ad : Addr) :
    (Builtin.append_ #[t, t'] ty #[.slice (some ad) 0 0, x]).run P w = .ok (.slice (some ad) 0 0) w := by
  have hf := h.all (w' := w) rfl
  have hn : news = [] := List.eq_nil_of_length_eq_zero (by simpa using h.cells)
  subst hn
  simp [Builtin.append_, run_underlying ht, run_underlying ht', sizeOf, typeInfo, hi, h.len, hf, storeCells]

theorem run_app_nil (ht : P.underlying t = some (.slice e)) (ht' : P.underlying t' = some d') (hd : ∀ k, d' ≠ .int k) (hi : P.info? e = some i) (hz : i.zero = some z) {x : Value} {n : Nat} {news : List Value} (h : Src P w i.size n x news)
    (h0 : 0 < n) (h63 : (n : Int) ≤ 9223372036854775807) (h48 : n * i.bytes ≤ 281474976710656) :
    (Builtin.append_ #[t, t'] ty #[.slice none 0 0, x]).run P w =
      .ok (.slice (some ⟨w.heap.size, 0, none⟩) n (grownCap w n 0 e)) (w.drew.alloc (.cells (news.toArray ++ Builtin.zeroCells z.cells (grownCap w n 0 e - n)) e)) := by
  have hn : n ≠ 0 := by omega
  have h63' : ¬ (9223372036854775807 < (n : Int)) := by omega
  have h48' : ¬ (281474976710656 < Builtin.nextslicecap n 0 * i.bytes) := by rw [nextslicecap_zero h0]; omega
  have hf := h.all (w' := w.drew) rfl
  simp [Builtin.append_, run_underlying ht, run_underlying ht', sizeOf, typeInfo, zeroValue, hi, hz, h.len, hn, h63', h48', Question.forced, run_firstCells_none, hf, newRow, grownCap]

theorem run_app_grow (ht : P.underlying t = some (.slice e)) (ht' : P.underlying t' = some d') (hd : ∀ k, d' ≠ .int k) (hi : P.info? e = some i) (hz : i.zero = some z) {x : Value} {n : Nat} {news : List Value} (h : Src P w i.size n x news)
    (b : Addr) (sLen sCap : Nat) (olds : List Value) (hlo : olds.length = sLen * i.size) (holds : ∀ j v, olds[j]? = some v → w.cell? (b.add j) = some v)
    (hg : sCap < sLen + n) (h63 : ((sLen + n : Nat) : Int) ≤ 9223372036854775807) (hfit : Builtin.nextslicecap (sLen + n) sCap * i.bytes ≤ 281474976710656) :
    (Builtin.append_ #[t, t'] ty #[.slice (some b) sLen sCap, x]).run P w =
      .ok (.slice (some ⟨w.heap.size, 0, none⟩) (sLen + n) (grownCap w (sLen + n) sCap e))
        (w.drew.alloc (.cells (olds.toArray ++ news.toArray ++ Builtin.zeroCells z.cells (grownCap w (sLen + n) sCap e - (sLen + n))) e)) := by
  have hn : ¬ (sLen + n ≤ sCap) := by omega
  have h63' : ¬ (9223372036854775807 < ((sLen : Int) + (n : Int))) := by omega
  have h48' : ¬ (281474976710656 < Builtin.nextslicecap (sLen + n) sCap * i.bytes) := by omega
  have hf := h.all (w' := w.drew) rfl
  have hfo := run_firstCells_some (P := P) w.drew i.size sLen b sLen sCap olds hlo (by simpa using holds)
  simp [Builtin.append_, run_underlying ht, run_underlying ht', sizeOf, typeInfo, zeroValue, hi, hz, h.len, hn, h63', h48', Question.forced, hf, hfo, newRow, grownCap]
  congr 2
  apply Array.ext'
  simp [List.append_assoc]

theorem run_app_room (ht : P.underlying t = some (.slice e)) (ht' : P.underlying t' = some d') (hd : ∀ k, d' ≠ .int k) (hi : P.info? e = some i) {x : Value} {n : Nat} {news : List Value} (h : Src P w i.size n x news)
    (g sLen sCap : Nat) (cur : Array Value) (hg : w.heap[g]? = some (.cells cur e (0, 0))) (h1 : ∀ u ∈ news, u.oneCell' = true)
    (hroom : sLen + n ≤ sCap) (hfit : sLen * i.size + news.length ≤ cur.size) :
    (Builtin.append_ #[t, t'] ty #[.slice (some ⟨g, 0, none⟩) sLen sCap, x]).run P w =
      .ok (.slice (some ⟨g, 0, none⟩) (sLen + n) sCap) (w.setRow g (cur.toList.take (sLen * i.size) ++ news ++ cur.toList.drop (sLen * i.size + news.length)).toArray) := by
  have hf := h.all (w' := w) rfl
  have hst := run_storeCells_at P g (sLen * i.size) e news 0 cur w hg (by simpa using hfit) h1
  simp only [Nat.add_zero] at hst
  simp [Builtin.append_, run_underlying ht, run_underlying ht', sizeOf, typeInfo, hi, h.len, hroom, hf, Addr.add_lit, hst]
end append

theorem run_cpy {dT sT ty e : TypeId} {i : TypeInfo} (ht : P.underlying dT = some (.slice e)) (hi : P.info? e = some i) {x : Value} {n : Nat} {news : List Value} (h : Src P w i.size n x news)
    (g o dLen dCap : Nat) (cur : Array Value) (t : TypeId) (hg : w.heap[g]? = some (.cells cur t (0, 0))) (h1 : ∀ u ∈ news, u.oneCell' = true) (hfit : o + dLen * i.size ≤ cur.size) :
    (Builtin.copy_ #[dT, sT] ty #[.slice (some ⟨g, o, none⟩) dLen dCap, x]).run P w =
      .ok (goInt (Nat.min n dLen : Nat)) (w.setRow g (cur.toList.take o ++ news.take (Nat.min n dLen * i.size) ++ cur.toList.drop (o + (news.take (Nat.min n dLen * i.size)).length)).toArray) := by
  have hmin : Nat.min n dLen ≤ n := Nat.min_le_left _ _
  have hmin2 : Nat.min n dLen ≤ dLen := Nat.min_le_right _ _
  have hf := h.first w rfl (Nat.min n dLen) hmin
  have hlen : (news.take (Nat.min n dLen * i.size)).length = Nat.min n dLen * i.size := by
    rw [List.length_take, h.cells]
    have := Nat.mul_le_mul_right i.size hmin
    omega
  have hle := Nat.mul_le_mul_right i.size hmin2
  have hst := run_storeCells_at P g o t (news.take (Nat.min n dLen * i.size)) 0 cur w hg (by rw [hlen]; omega) (fun u hu => h1 u (List.mem_of_mem_take hu))
  simp only [Nat.add_zero] at hst
  simp [Builtin.copy_, run_underlying ht, sizeOf, typeInfo, hi, h.len, hf, hst]

theorem run_cpy_empty {dT sT ty e : TypeId} {i : TypeInfo} (ht : P.underlying dT = some (.slice e)) (hi : P.info? e = some i) {x : Value} {n : Nat} {news : List Value} (h : Src P w i.size n x news) (a : Addr) (dCap : Nat) :
    (Builtin.copy_ #[dT, sT] ty #[.slice (some a) 0 dCap, x]).run P w = .ok (goInt 0) w := by
  have hf := h.first w rfl 0 (Nat.zero_le _)
  simp at hf
  simp [Builtin.copy_, run_underlying ht, sizeOf, typeInfo, hi, h.len, hf, storeCells]

end

section
variable {B : Nat} {S : Nat → Nat → Prop} {P : Program}

theorem srcOf_ok {m : M} (hk : HOK B S m) {d : D} {u : Value} (hr : RepD B S m d u) {esz n : Nat} {cs : List C} (hs : srcOf m.h esz d = some (cs, n)) (hl : cs.length = n * esz) :
    ∃ news, All2 (RepC m.w (Safe B S m)) cs news ∧ Src P m.w esz n u news := by
  cases d with
  | c x =>
    replace hr : RepC m.w (Safe B S m) x u := hr
    cases x with
    | lit v =>
      simp only [RepC] at hr
      obtain ⟨rfl, hsc⟩ := hr
      unfold srcOf at hs
      split at hs <;> simp only [reduceCtorEq, D.c.injEq, C.lit.injEq] at *
      · rename_i h
        subst h
        simp only [Option.some.injEq, Prod.mk.injEq] at hs
        obtain ⟨rfl, rfl⟩ := hs
        exact ⟨[], trivial, src_nil⟩
      · rename_i s h
        subst h
        split at hs
        · rename_i he
          subst he
          simp only [Option.some.injEq, Prod.mk.injEq] at hs
          obtain ⟨rfl, rfl⟩ := hs
          refine ⟨_, ?_, src_string s⟩
          clear hl hsc
          generalize s.data.toList = l
          induction l with
          | nil => trivial
          | cons b l ih => exact ⟨⟨rfl, rfl⟩, ih⟩
        · cases hs
    | slice cs' n' =>
      simp only [RepC] at hr
      obtain ⟨a, cap, rfl, h1, h2, h3⟩ := hr
      simp only [srcOf] at hs
      split at hs
      · simp only [Option.some.injEq, Prod.mk.injEq] at hs
        obtain ⟨rfl, rfl⟩ := hs
        obtain ⟨us, h4, h5⟩ := RepCs_get h3
        refine ⟨us, h4, src_cells (fun hne => h2 fun e => hne ?_) (by rw [← h4.len]; exact hl) fun j v hv => (h5 j v hv).1⟩
        subst e
        cases us with
        | nil => rfl
        | cons _ _ => exact h4.elim
      · cases hs
  | arr id off len =>
    obtain ⟨hu, ad, cap, hv, hcap, hr⟩ := hr
    simp only [srcOf] at hs
    cases ho : getH m.h id with
    | dead => rw [ho] at hs; cases hs
    | box ds => rw [ho] at hs; cases hs
    | arr cs0 esz0 fz ety =>
      rw [ho] at hs hr
      simp only at hs hr
      split at hs
      case isFalse => cases hs
      rename_i hc
      obtain ⟨rfl, hlen⟩ := hc
      simp only [Option.some.injEq, Prod.mk.injEq] at hs
      obtain ⟨rfl, rfl⟩ := hs
      obtain ⟨hB, vs, hv1, hv2, hv3⟩ := hk.arr ho
      have hall := (hv3.drop off).take (len * esz0)
      refine ⟨_, hall, ?_⟩
      subst hv
      rcases hr with ⟨rfl, _⟩ | ⟨rfl, rfl⟩
      · refine src_cells (fun _ => rfl) (by rw [← hall.len]; exact hl) fun j v hv => ?_
        have hj : j < len * esz0 := by have := (List.getElem?_eq_some_iff.1 hv).1; simp at this; omega
        rw [List.getElem?_take_of_lt hj, List.getElem?_drop, List.getElem?_take_of_lt (by omega)] at hv
        show m.w.cell? ⟨m.β id, off + j, none⟩ = _
        rw [cell_row hv1]; exact hv
      · refine src_cells (fun h => ?_) (by simp) fun j v hv => ?_
        · simp at h
        · simp at hv
  | unk => simp [srcOf] at hs
  | loc id off => simp [srcOf] at hs
  | ptr cs => simp [srcOf] at hs
  | agg ds => simp [srcOf] at hs
  | tup ds => simp [srcOf] at hs
end
end Go.Ev
