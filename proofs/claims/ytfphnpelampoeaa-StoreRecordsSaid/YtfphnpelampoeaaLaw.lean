/-
  The plain law of the store: what a run of writes and flushes leaves, and what a crash makes of it. No program in sight.
-/
import Derived.Test.YtfphnpelampoeaaWrd
namespace Go.Proofs.Ytfphnpelampoeaa
open Go Go.Ev

/-- a write of a sector, or a flush -/
inductive DOp where
  | write (i : Nat) (b : List UInt8)
  | flush

def clean (d : List UInt8) : Sec := ⟨d, d, false⟩
def settleP (l : List Sec) : List Sec := l.map fun s => clean s.data

def DOp.apply : DOp → List Sec → List Sec
  | .write i b, l => l.set i { l.getD i noSec with data := b, fresh := true }
  | .flush, l => settleP l

/-- one operation's power -/
def spend : Option Nat → Option (Option Nat)
  | none => some none
  | some 0 => none
  | some (n + 1) => some (some n)

def runOps : List DOp → List Sec → Option Nat → List Sec × Option Nat × Bool
  | [], l, p => (l, p, false)
  | o :: os, l, p => match spend p with
    | none => (l, p, true)
    | some p' => runOps os (o.apply l) p'

def num4 (n : Nat) : List UInt8 := [UInt8.ofNat n, UInt8.ofNat (n / 256), UInt8.ofNat (n / 65536), UInt8.ofNat (n / 16777216)]

def padTo (n : Nat) (l : List UInt8) : List UInt8 := l.take n ++ List.replicate (n - l.length) 0

def firstSec (idx : Nat) (r : List UInt8) : List UInt8 :=
  (0x48 :: num4 idx ++ num4 r.length ++ num4 (4294967295 - r.length) ++ [0, 0, 0]) ++ padTo 112 r

def dataSec (r : List UInt8) : List UInt8 := 0x44 :: padTo 127 r

/-- how many data sectors -/
def nData (len : Nat) : Nat := (len - 112 + 126) / 127

def dataSecs : Nat → List UInt8 → List (List UInt8)
  | 0, _ => []
  | m + 1, r => dataSec r :: dataSecs m (r.drop 127)

def recData (r : List UInt8) : List (List UInt8) := dataSecs (nData r.length) (r.drop 112)
def recSecs (idx : Nat) (r : List UInt8) : List (List UInt8) := firstSec idx r :: recData r

def encFrom : Nat → List (List UInt8) → List (List UInt8)
  | _, [] => []
  | i, r :: rs => recSecs i r ++ encFrom (i + 1) rs

def writesFrom : Nat → List (List UInt8) → List DOp
  | _, [] => []
  | i, b :: bs => .write i b :: writesFrom (i + 1) bs

def appendOps (at_ idx : Nat) (r : List UInt8) : List DOp :=
  writesFrom (at_ + 1) (recData r) ++ (if recData r = [] then [] else [.flush]) ++ [.write at_ (firstSec idx r), .flush]

/-- a sector that can follow the last record -/
def LeftB (b : List UInt8) : Prop := b.length = 128 ∧ (b.getD 0 0 = 0x44 ∨ b.getD 0 0 = 0xB7 ∨ b.getD 0 0 = 0xBB ∨ ∀ x ∈ b, x = 0)

def complB (b : List UInt8) : List UInt8 := b.map fun x => ~~~ x

/-- what a crash makes of a sector -/
def CrashedS (s : Sec) (b : List UInt8) : Prop := (s.fresh = false ∧ b = s.data) ∨ (s.fresh = true ∧ (b = complB s.data ∨ b = s.sure ∨ b = s.data))

inductive Crashed : List Sec → List (List UInt8) → Prop where
  | nil : Crashed [] []
  | cons {s : Sec} {b : List UInt8} {l : List Sec} {bs : List (List UInt8)} : CrashedS s b → Crashed l bs → Crashed (s :: l) (b :: bs)

theorem Crashed.append : ∀ {l l' : List Sec} {bs : List (List UInt8)}, Crashed (l ++ l') bs → ∃ b1 b2, bs = b1 ++ b2 ∧ Crashed l b1 ∧ Crashed l' b2
  | [], _, bs, h => ⟨[], bs, rfl, .nil, h⟩
  | _ :: _, _, _, .cons h1 h2 => by
    obtain ⟨b1, b2, rfl, h3, h4⟩ := Crashed.append h2
    exact ⟨_ :: b1, b2, rfl, .cons h1 h3, h4⟩

theorem Crashed.clean : ∀ {L bs : List (List UInt8)}, Crashed (L.map clean) bs → bs = L
  | [], _, .nil => rfl
  | b :: L, _, .cons h1 h2 => by
    rw [Crashed.clean h2]
    rcases h1 with ⟨_, h⟩ | ⟨h, _⟩
    · rw [h]; rfl
    · cases h

theorem Crashed.len : ∀ {l : List Sec} {bs : List (List UInt8)}, Crashed l bs → bs.length = l.length
  | _, _, .nil => rfl
  | _, _, .cons _ h => by simp [Crashed.len h]

/-- a sector of the tail while an append is under way -/
def GoodS (s : Sec) : Prop := LeftB s.data ∧ LeftB s.sure ∧ (s.fresh = true → LeftB (complB s.data))
def Good (l : List Sec) : Prop := ∀ s ∈ l, GoodS s

theorem Good.crashed {l : List Sec} (h : Good l) : ∀ {bs : List (List UInt8)}, Crashed l bs → ∀ b ∈ bs, LeftB b := by
  induction l with
  | nil => intro bs hc b hb; cases hc; cases hb
  | cons s l ih =>
    intro bs hc b hb
    cases hc with
    | cons h1 h2 =>
      have hs := h s (List.mem_cons_self ..)
      rcases List.mem_cons.1 hb with rfl | hb
      · rcases h1 with ⟨_, h1⟩ | ⟨hf, h1 | h1 | h1⟩ <;> rw [h1]
        · exact hs.1
        · exact hs.2.2 hf
        · exact hs.2.1
        · exact hs.1
      · exact ih (fun s hs => h s (List.mem_cons_of_mem _ hs)) h2 b hb

theorem Good.settle {l : List Sec} (h : Good l) : Good (settleP l) := by
  intro s hs
  obtain ⟨s', h1, rfl⟩ := List.mem_map.1 hs
  exact ⟨(h s' h1).1, (h s' h1).1, fun h => by cases h⟩

theorem good_clean {L : List (List UInt8)} (h : ∀ b ∈ L, LeftB b) : Good (L.map clean) := by
  intro s hs
  obtain ⟨b, h1, rfl⟩ := List.mem_map.1 hs
  exact ⟨h b h1, h b h1, fun h => by cases h⟩

theorem padTo_len (n : Nat) (l : List UInt8) : (padTo n l).length = n := by
  unfold padTo
  rw [List.length_append, List.length_take, List.length_replicate]
  omega

theorem dataSec_left (r : List UInt8) : LeftB (dataSec r) := ⟨by simp [dataSec, padTo_len], .inl rfl⟩
theorem dataSec_compl (r : List UInt8) : LeftB (complB (dataSec r)) := ⟨by simp [complB, dataSec, padTo_len], .inr (.inr (.inl rfl))⟩
theorem firstSec_len (i : Nat) (r : List UInt8) : (firstSec i r).length = 128 := by simp [firstSec, padTo_len, num4]
theorem firstSec_compl (i : Nat) (r : List UInt8) : LeftB (complB (firstSec i r)) := ⟨by simp [complB, firstSec_len], .inr (.inl rfl)⟩

theorem Good.write {l : List Sec} (h : Good l) (i : Nat) (r : List UInt8) : Good ((DOp.write i (dataSec r)).apply l) := by
  intro s hs
  simp only [DOp.apply] at hs
  by_cases hi : i < l.length
  · rcases List.mem_or_eq_of_mem_set hs with h1 | rfl
    · exact h s h1
    · have : GoodS (l.getD i noSec) := by
        apply h
        rw [List.getD_eq_getElem?_getD, List.getElem?_eq_getElem hi]
        exact List.getElem_mem hi
      exact ⟨dataSec_left r, this.2.1, fun _ => dataSec_compl r⟩
  · rw [List.set_eq_of_length_le (by omega)] at hs
    exact h s hs

theorem dataSecs_len : ∀ (m : Nat) (r : List UInt8), (dataSecs m r).length = m
  | 0, _ => rfl
  | m + 1, r => by simp [dataSecs, dataSecs_len m]

theorem recSecs_len (i : Nat) (r : List UInt8) : (recSecs i r).length = 1 + nData r.length := by simp [recSecs, recData, dataSecs_len]; omega

theorem dataSecs_mem : ∀ (m : Nat) (r b : List UInt8), b ∈ dataSecs m r → ∃ x, b = dataSec x
  | 0, _, _, h => by cases h
  | m + 1, r, b, h => by
    rcases List.mem_cons.1 h with rfl | h
    · exact ⟨r, rfl⟩
    · exact dataSecs_mem m _ b h

theorem runOps_append : ∀ (a b : List DOp) (l : List Sec) (p : Option Nat), runOps (a ++ b) l p = match runOps a l p with
    | (l', p', true) => (l', p', true)
    | (l', p', false) => runOps b l' p'
  | [], b, l, p => rfl
  | o :: a, b, l, p => by
    simp only [List.cons_append, runOps]
    cases spend p with
    | none => rfl
    | some p' => exact runOps_append a b _ _

theorem settle_clean (L : List (List UInt8)) : settleP (L.map clean) = L.map clean := by simp [settleP, clean]
theorem settleP_append (a b : List Sec) : settleP (a ++ b) = settleP a ++ settleP b := by simp [settleP]

/-- writes of data sectors behind what is held -/
theorem writes_good (A : List Sec) (hA : settleP A = A) : ∀ (bs : List (List UInt8)) (i : Nat) (T : List Sec) (p : Option Nat), (∀ b ∈ bs, ∃ x, b = dataSec x) → A.length ≤ i → Good T →
    ∃ T' p' d, runOps (writesFrom i bs) (A ++ T) p = (A ++ T', p', d) ∧ Good T' ∧ T'.length = T.length
  | [], i, T, p, _, _, hT => ⟨T, p, false, rfl, hT, rfl⟩
  | b :: bs, i, T, p, hb, hi, hT => by
    simp only [writesFrom, runOps]
    cases spend p with
    | none => exact ⟨T, p, true, rfl, hT, rfl⟩
    | some p' =>
      obtain ⟨x, rfl⟩ := hb b (List.mem_cons_self ..)
      have e : (DOp.write i (dataSec x)).apply (A ++ T) = A ++ (DOp.write (i - A.length) (dataSec x)).apply T := by
        simp only [DOp.apply]
        rw [List.set_append_right _ _ hi]
        congr 2
        simp [List.getD_eq_getElem?_getD, List.getElem?_append_right hi]
      simp only
      rw [e]
      obtain ⟨T', p'', d, h1, h2, h3⟩ := writes_good A hA bs (i + 1) _ p' (fun b h => hb b (List.mem_cons_of_mem _ h)) (by omega) (hT.write (i - A.length) x)
      exact ⟨T', p'', d, h1, h2, by rw [h3]; simp [DOp.apply]⟩

/-- all the writes come through: what lies there -/
theorem writes_all (A : List Sec) : ∀ (bs : List (List UInt8)) (T : List Sec) (p : Option Nat) (l' : List Sec) (p' : Option Nat), bs.length ≤ T.length → runOps (writesFrom A.length bs) (A ++ T) p = (l', p', false) →
    settleP l' = settleP A ++ bs.map clean ++ settleP (T.drop bs.length)
  | [], T, p, l', p', _, h => by
    simp only [writesFrom, runOps, Prod.mk.injEq] at h
    obtain ⟨rfl, _⟩ := h
    simp [settleP]
  | b :: bs, [], p, l', p', hl, _ => by simp at hl
  | b :: bs, t :: T, p, l', p', hl, h => by
    simp only [writesFrom, runOps] at h
    cases hs : spend p with
    | none => rw [hs] at h; simp at h
    | some q =>
      rw [hs] at h
      simp only at h
      have e : (DOp.write A.length b).apply (A ++ t :: T) = (A ++ [⟨t.sure, b, true⟩]) ++ T := by
        simp only [DOp.apply]
        rw [List.set_append_right _ _ (Nat.le_refl _)]
        simp [List.getD_eq_getElem?_getD]
      rw [e] at h
      have := writes_all (A ++ [⟨t.sure, b, true⟩]) bs T q l' p' (by simpa using hl) (by simpa using h)
      rw [this]
      simp [settleP, clean]

theorem encFrom_append : ∀ (i : Nat) (a b : List (List UInt8)), encFrom i (a ++ b) = encFrom i a ++ encFrom (i + a.length) b
  | i, [], b => by simp [encFrom]
  | i, r :: a, b => by
    simp only [List.cons_append, encFrom, encFrom_append (i + 1) a b, List.append_assoc, List.length_cons]
    congr 3
    omega

/-- An append, cut off anywhere, and a crash. -/
theorem append_crash {rs : List (List UInt8)} {tail : List (List UInt8)} {r : List UInt8} (ht : ∀ b ∈ tail, LeftB b) (hr : 1 + nData r.length ≤ tail.length) {p : Option Nat} {l' : List Sec} {p' : Option Nat} {dead : Bool}
    (h : runOps (appendOps (encFrom 0 rs).length rs.length r) ((encFrom 0 rs ++ tail).map clean) p = (l', p', dead)) :
    (dead = false → l' = (encFrom 0 (rs ++ [r]) ++ tail.drop (1 + nData r.length)).map clean) ∧
    ∀ bs, Crashed l' bs → ∃ tail', (∀ b ∈ tail', LeftB b) ∧ ((dead = true ∧ tail'.length = tail.length ∧ bs = encFrom 0 rs ++ tail') ∨ (tail'.length + (1 + nData r.length) = tail.length ∧ bs = encFrom 0 (rs ++ [r]) ++ tail')) := by
  have hE : encFrom 0 (rs ++ [r]) = encFrom 0 rs ++ recSecs rs.length r := by simp [encFrom_append, encFrom]
  generalize hA : encFrom 0 rs = A at *
  rw [List.map_append] at h
  obtain ⟨t0, tl, rfl⟩ : ∃ t0 tl, tail = t0 :: tl := by
    cases tail with
    | nil => simp at hr
    | cons t0 tl => exact ⟨t0, tl, rfl⟩
  have hm : (recData r).length = nData r.length := dataSecs_len _ _
  have hdm : ∀ b ∈ recData r, ∃ x, b = dataSec x := fun b hb => dataSecs_mem _ _ b hb
  have hAl : (A.map clean).length = A.length := by simp
  have hAs := settle_clean A
  -- while the tail is good: the old records
  have old : ∀ {T : List Sec}, Good T → T.length = (t0 :: tl).length → ∀ bs, Crashed (A.map clean ++ T) bs → ∃ tail', (∀ b ∈ tail', LeftB b) ∧ tail'.length = (t0 :: tl).length ∧ bs = A ++ tail' := by
    intro T hT hTl bs hc
    obtain ⟨b1, b2, rfl, h1, h2⟩ := hc.append
    exact ⟨b2, hT.crashed h2, by rw [h2.len, hTl], by rw [h1.clean]⟩
  unfold appendOps at h
  rw [List.append_assoc, runOps_append] at h
  obtain ⟨T1, p1, d1, e1, g1, n1⟩ := writes_good (A.map clean) hAs (recData r) (A.length + 1) ((t0 :: tl).map clean) p hdm (by simp) (good_clean ht)
  rw [e1] at h
  cases d1 with
  | true =>
    simp only [Prod.mk.injEq] at h
    obtain ⟨rfl, rfl, rfl⟩ := h
    refine ⟨(fun h => by cases h), fun bs hc => ?_⟩
    obtain ⟨tail', k1, k2, k3⟩ := old g1 (by simpa using n1) bs hc
    exact ⟨tail', k1, .inl ⟨rfl, k2, k3⟩⟩
  | false =>
    simp only at h
    -- what lies there once the data are durable
    have e2 : settleP (A.map clean ++ T1) = A.map clean ++ (clean t0 :: (recData r).map clean ++ (tl.drop (nData r.length)).map clean) := by
      have := writes_all (A.map clean ++ [clean t0]) (recData r) (tl.map clean) p (A.map clean ++ T1) p1 (by simp at hr ⊢; omega) (by simpa using e1)
      rw [this, settleP_append, settle_clean, hm, ← List.map_drop, settle_clean]
      simp [settleP, clean]
    rw [runOps_append] at h
    -- after the flush, if there is one, all is clean
    have hflush : (∃ T2 p2, runOps (if recData r = [] then [] else [.flush]) (A.map clean ++ T1) p1 = (A.map clean ++ T2, p2, true) ∧ Good T2 ∧ T2.length = (t0 :: tl).length) ∨
        ∃ p2, runOps (if recData r = [] then [] else [.flush]) (A.map clean ++ T1) p1 = (A.map clean ++ (clean t0 :: (recData r).map clean ++ (tl.drop (nData r.length)).map clean), p2, false) := by
      by_cases hd : recData r = []
      · right
        rw [hd] at e1 e2 ⊢
        simp only [writesFrom, runOps, Prod.mk.injEq] at e1
        have hn : nData r.length = 0 := by rw [← hm, hd]; rfl
        refine ⟨p1, ?_⟩
        simp only [if_true, runOps]
        rw [← e1.1, hn]
        simp
      · rw [if_neg hd]
        simp only [runOps]
        cases spend p1 with
        | none => left; exact ⟨T1, p1, rfl, g1, by simpa using n1⟩
        | some p2 => right; exact ⟨p2, by simp only [DOp.apply]; rw [e2]⟩
    rcases hflush with ⟨T2, p2, e3, g2, n2⟩ | ⟨p2, e3⟩
    · rw [e3] at h
      simp only [Prod.mk.injEq] at h
      obtain ⟨rfl, rfl, rfl⟩ := h
      refine ⟨(fun h => by cases h), fun bs hc => ?_⟩
      obtain ⟨tail', k1, k2, k3⟩ := old g2 n2 bs hc
      exact ⟨tail', k1, .inl ⟨rfl, k2, k3⟩⟩
    · rw [e3] at h
      simp only [runOps] at h
      have hrest : ∀ b ∈ tl.drop (nData r.length), LeftB b := fun b hb => ht b (List.mem_cons_of_mem _ (List.mem_of_mem_drop hb))
      have hbefore : Good (clean t0 :: (recData r).map clean ++ (tl.drop (nData r.length)).map clean) := by
        have : clean t0 :: (recData r).map clean ++ (tl.drop (nData r.length)).map clean = (t0 :: recData r ++ tl.drop (nData r.length)).map clean := by simp
        rw [this]
        apply good_clean
        intro b hb
        simp only [List.cons_append, List.mem_cons, List.mem_append] at hb
        rcases hb with rfl | hb | hb
        · exact ht _ (List.mem_cons_self ..)
        · obtain ⟨x, rfl⟩ := hdm b hb; exact dataSec_left x
        · exact hrest b hb
      have hbl : (clean t0 :: (recData r).map clean ++ (tl.drop (nData r.length)).map clean).length = (t0 :: tl).length := by
        simp [hm]
        simp at hr
        omega
      cases hs : spend p2 with
      | none =>
        rw [hs] at h
        simp only [Prod.mk.injEq] at h
        obtain ⟨rfl, rfl, rfl⟩ := h
        refine ⟨(fun h => by cases h), fun bs hc => ?_⟩
        obtain ⟨tail', k1, k2, k3⟩ := old hbefore hbl bs hc
        exact ⟨tail', k1, .inl ⟨rfl, k2, k3⟩⟩
      | some p3 =>
        rw [hs] at h
        simp only at h
        have e4 : (DOp.write A.length (firstSec rs.length r)).apply (A.map clean ++ (clean t0 :: (recData r).map clean ++ (tl.drop (nData r.length)).map clean)) =
            A.map clean ++ (⟨t0, firstSec rs.length r, true⟩ :: ((recData r ++ tl.drop (nData r.length)).map clean)) := by
          simp only [DOp.apply]
          rw [List.set_append_right _ _ (by simp)]
          simp [List.getD_eq_getElem?_getD, clean]
        rw [e4] at h
        have hlast : ∀ tl', tl' = tl.drop (nData r.length) → tl'.length + (1 + nData r.length) = (t0 :: tl).length := by
          intro tl' e
          subst e
          simp at hr ⊢
          omega
        cases hs2 : spend p3 with
        | none =>
          rw [hs2] at h
          simp only [Prod.mk.injEq] at h
          obtain ⟨rfl, rfl, rfl⟩ := h
          refine ⟨(fun h => by cases h), fun bs hc => ?_⟩
          obtain ⟨b1, b2, rfl, h1, h2⟩ := hc.append
          rw [h1.clean]
          cases h2 with
          | cons hx hy =>
            have hy' := hy.clean
            subst hy'
            have old2 : ∀ b, LeftB b → ∃ tail', (∀ b ∈ tail', LeftB b) ∧ ((true = true ∧ tail'.length = (t0 :: tl).length ∧ A ++ b :: (recData r ++ tl.drop (nData r.length)) = A ++ tail') ∨ (tail'.length + (1 + nData r.length) = (t0 :: tl).length ∧ A ++ b :: (recData r ++ tl.drop (nData r.length)) = encFrom 0 (rs ++ [r]) ++ tail')) := by
              intro b hb
              refine ⟨b :: (recData r ++ tl.drop (nData r.length)), ?_, .inl ⟨rfl, ?_, rfl⟩⟩
              · intro x hx
                simp only [List.mem_cons, List.mem_append] at hx
                rcases hx with rfl | hx | hx
                · exact hb
                · obtain ⟨y, rfl⟩ := hdm x hx; exact dataSec_left y
                · exact hrest x hx
              · simp [hm]
                simp at hr
                omega
            rcases hx with ⟨hf, _⟩ | ⟨_, rfl | rfl | rfl⟩
            · cases hf
            · exact old2 _ (firstSec_compl _ _)
            · exact old2 _ (ht _ (List.mem_cons_self ..))
            · exact ⟨tl.drop (nData r.length), hrest, .inr ⟨hlast _ rfl, by rw [hE]; simp [recSecs]⟩⟩
        | some p4 =>
          rw [hs2] at h
          simp only [Prod.mk.injEq] at h
          obtain ⟨rfl, rfl, rfl⟩ := h
          have e5 : DOp.flush.apply (A.map clean ++ (⟨t0, firstSec rs.length r, true⟩ :: ((recData r ++ tl.drop (nData r.length)).map clean))) = (encFrom 0 (rs ++ [r]) ++ (t0 :: tl).drop (1 + nData r.length)).map clean := by
            rw [hE, Nat.add_comm 1, List.drop_succ_cons]
            have e6 : settleP (⟨t0, firstSec rs.length r, true⟩ :: ((recData r ++ tl.drop (nData r.length)).map clean)) = clean (firstSec rs.length r) :: ((recData r ++ tl.drop (nData r.length)).map clean) := by
              show clean _ :: settleP _ = _
              rw [settle_clean]
            simp only [DOp.apply]
            rw [settleP_append, settle_clean, e6]
            simp [recSecs]
          refine ⟨fun _ => e5, fun bs hc => ?_⟩
          rw [e5] at hc
          refine ⟨(t0 :: tl).drop (1 + nData r.length), ?_, .inr ⟨?_, hc.clean⟩⟩
          · rw [Nat.add_comm 1, List.drop_succ_cons]; exact hrest
          · rw [Nat.add_comm 1, List.drop_succ_cons]; simp at hr ⊢; omega

end Go.Proofs.Ytfphnpelampoeaa
