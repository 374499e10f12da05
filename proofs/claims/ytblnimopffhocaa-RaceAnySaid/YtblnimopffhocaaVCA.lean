/- What is ahead of what, by the document's rules, and clocks that tell it: words. -/
import Derived.Test.YtblnimopffhocaaPureL
namespace Go.Proofs.Ytblnimopffhocaa.Pure
open Go.RowKit Go.Proofs.Ytblnimopffhocaa.P Go.Proofs.YtblnimopffhocaaW.PrintWords Go.Proofs.YtblnimopffhocaaW.PrintLast Go.Proofs.YtblnimopffhocaaX
set_option linter.unusedVariables false
inductive Reach (D : Nat → Nat → Bool) : Nat → Nat → Prop
  | one {i j : Nat} : i < j → D i j = true → Reach D i j
  | more {i k j : Nat} : i < k → D i k = true → Reach D k j → Reach D i j
theorem Reach.lt {D : Nat → Nat → Bool} {i j : Nat} (h : Reach D i j) : i < j := by
  induction h with
  | one h _ => exact h
  | more h _ _ ih => omega
theorem Reach.trans {D : Nat → Nat → Bool} {i j k : Nat} (h : Reach D i j) (h2 : Reach D j k) : Reach D i k := by
  induction h with
  | one h1 h3 => exact .more h1 h3 h2
  | more h1 h3 _ ih => exact .more h1 h3 (ih h2)
def HB (D : Nat → Nat → Bool) (a b : Nat) : Prop := a = b ∨ Reach D a b
theorem HB.le {D : Nat → Nat → Bool} {a b : Nat} (h : HB D a b) : a ≤ b := by
  rcases h with h | h
  · omega
  · have := h.lt; omega
theorem reach_last {D : Nat → Nat → Bool} {i j : Nat} : Reach D i j ↔ ∃ b, b < j ∧ HB D i b ∧ D b j = true := by
  constructor
  · intro h
    induction h with
    | one h1 h2 => exact ⟨_, h1, .inl rfl, h2⟩
    | more h1 h2 h3 ih =>
      obtain ⟨b, hb, hh, hd⟩ := ih
      refine ⟨b, hb, .inr ?_, hd⟩
      rcases hh with rfl | hh
      · exact .one h1 h2
      · exact .more h1 h2 hh
  · rintro ⟨b, hb, rfl | hh, hd⟩
    · exact .one hb hd
    · exact hh.trans (.one hb hd)
abbrev Ev := S40
def evA (t : List Ev) (i : Nat) : Ev := t.getD i z40
def takeB (e : Ev) : Bool := (e.f2 == 21 || e.f2 == 22) && e.f5 == 1
def wrB (e : Ev) : Bool := e.f2 == 18 || e.f2 == 19
def sendsN (t : List Ev) (o : Int) : Nat → Nat
  | 0 => 0
  | n + 1 => sendsN t o n + if ((evA t n).f2 == 20 && (evA t n).f3 == o) = true then 1 else 0
def takesN (t : List Ev) (o : Int) : Nat → Nat
  | 0 => 0
  | n + 1 => takesN t o n + if (takeB (evA t n) && (evA t n).f3 == o) = true then 1 else 0
def wroteB (t : List Ev) (o : Int) (i j : Nat) : Bool := (List.range j).any fun k => decide (i < k) && (wrB (evA t k) && (evA t k).f3 == o)
def dirR (c : List Int) (t : List Ev) (i j : Nat) : Bool :=
  let a := evA t i
  let b := evA t j
  if (a.f0 == b.f0 || (a.f2 == 12 && a.f3 == b.f0)) = true then true
  else if (a.f3 == b.f3) = false then false
  else if (a.f2 == 14) = true then b.f2 == 13 || b.f2 == 15
  else if (a.f2 == 16) = true then b.f2 == 13
  else if wrB a = true then (b.f2 == 17 || b.f2 == 19) && !wroteB t a.f3 i j
  else if (a.f2 == 20) = true then takeB b && ((sendsN t a.f3 i : Int) == (takesN t a.f3 j : Int))
  else if (a.f2 == 23) = true then (b.f2 == 21 || b.f2 == 22) && b.f5 == 2
  else if (a.f2 == 24) = true then decide (a.f4 < 0) && b.f2 == 25
  else if (a.f2 == 27) = true then b.f2 == 26 && b.f5 == 0
  else takeB a && (b.f2 == 20 && (wrap64 ((takesN t a.f3 i : Int) + roomL c a.f3) == (sendsN t a.f3 j : Int)))
def ruleP (c : List Int) (t : List Ev) (i j : Nat) : Prop :=
  let a := evA t i
  let b := evA t j
  a.f3 = b.f3 ∧ ((a.f2 = 14 ∧ (b.f2 = 13 ∨ b.f2 = 15)) ∨ (a.f2 = 16 ∧ b.f2 = 13) ∨ (wrB a = true ∧ (b.f2 = 17 ∨ b.f2 = 19) ∧ wroteB t b.f3 i j = false)
    ∨ (a.f2 = 20 ∧ takeB b = true ∧ sendsN t b.f3 i = takesN t b.f3 j) ∨ (takeB a = true ∧ b.f2 = 20 ∧ wrap64 ((takesN t b.f3 i : Int) + roomL c b.f3) = (sendsN t b.f3 j : Int))
    ∨ (a.f2 = 23 ∧ (b.f2 = 21 ∨ b.f2 = 22) ∧ b.f5 = 2) ∨ (a.f2 = 24 ∧ a.f4 < 0 ∧ b.f2 = 25) ∨ (a.f2 = 27 ∧ b.f2 = 26 ∧ b.f5 = 0))
def toT (t : List Ev) (b : Nat) (u : Int) : Prop := (evA t b).f0 = u ∨ ((evA t b).f2 = 12 ∧ (evA t b).f3 = u)
theorem dirR_iff (c : List Int) (t : List Ev) (i j : Nat) : dirR c t i j = true ↔ toT t i (evA t j).f0 ∨ ruleP c t i j := by
  unfold dirR ruleP toT
  simp only
  by_cases h0 : ((evA t i).f0 == (evA t j).f0 || ((evA t i).f2 == 12 && (evA t i).f3 == (evA t j).f0)) = true
  · rw [if_pos h0]
    simp only [Bool.or_eq_true, Bool.and_eq_true, beq_iff_eq] at h0
    exact ⟨fun _ => .inl h0, fun _ => rfl⟩
  · rw [if_neg h0]
    have h0' : ¬ ((evA t i).f0 = (evA t j).f0 ∨ ((evA t i).f2 = 12 ∧ (evA t i).f3 = (evA t j).f0)) := by
      simpa only [Bool.or_eq_true, Bool.and_eq_true, beq_iff_eq] using h0
    by_cases h3 : (evA t i).f3 = (evA t j).f3
    · rw [if_neg (by simp [h3])]
      rw [h3]
      by_cases a14 : (evA t i).f2 = 14
      · rw [if_pos (by simp [a14])]
        simp only [h3, a14] at h0'
        grind [wrB, takeB]
      rw [if_neg (by simpa using a14)]
      by_cases a16 : (evA t i).f2 = 16
      · rw [if_pos (by simp [a16])]
        simp only [h3, a16] at h0'
        grind [wrB, takeB]
      rw [if_neg (by simpa using a16)]
      by_cases aw : wrB (evA t i) = true
      · rw [if_pos aw]
        have aw' := aw
        simp only [wrB, Bool.or_eq_true, beq_iff_eq] at aw'
        have n20 : (evA t i).f2 ≠ 20 := by omega
        have n12 : (evA t i).f2 ≠ 12 := by omega
        have n23 : (evA t i).f2 ≠ 23 := by omega
        have n24 : (evA t i).f2 ≠ 24 := by omega
        have n27 : (evA t i).f2 ≠ 27 := by omega
        have n21 : (evA t i).f2 ≠ 21 := by omega
        have n22 : (evA t i).f2 ≠ 22 := by omega
        rw [h3] at h0'
        grind [takeB]
      rw [if_neg aw]
      by_cases a20 : (evA t i).f2 = 20
      · rw [if_pos (by simp [a20])]
        rw [h3] at h0'
        have ew : wrB (evA t i) = false := by simpa using aw
        have et : takeB (evA t i) = false := by simp [takeB, a20]
        rw [Bool.and_eq_true, beq_iff_eq]
        constructor
        · intro h; exact .inr ⟨rfl, .inr (.inr (.inr (.inl ⟨a20, h.1, by omega⟩)))⟩
        · rintro (h | ⟨_, h⟩)
          · exact absurd h h0'
          · rcases h with h | h | h | h | h | h | h | h
            · omega
            · omega
            · rw [ew] at h; cases h.1
            · exact ⟨h.2.1, by omega⟩
            · rw [et] at h; cases h.1
            · omega
            · omega
            · omega
      rw [if_neg (by simpa using a20)]
      by_cases a23 : (evA t i).f2 = 23
      · rw [if_pos (by simp [a23])]
        simp only [h3, a23] at h0'
        grind [wrB, takeB]
      rw [if_neg (by simpa using a23)]
      by_cases a24 : (evA t i).f2 = 24
      · rw [if_pos (by simp [a24])]
        simp only [h3, a24] at h0'
        grind [wrB, takeB]
      rw [if_neg (by simpa using a24)]
      by_cases a27 : (evA t i).f2 = 27
      · rw [if_pos (by simp [a27])]
        simp only [h3, a27] at h0'
        grind [wrB, takeB]
      rw [if_neg (by simpa using a27)]
      simp only [Bool.and_eq_true, beq_iff_eq]
      constructor
      · intro h; exact .inr ⟨trivial, .inr (.inr (.inr (.inr (.inl ⟨h.1, h.2.1, h.2.2⟩))))⟩
      · rintro (h | ⟨_, h⟩)
        · rw [h3] at h0'; exact absurd h h0'
        · rcases h with h | h | h | h | h | h | h | h
          · exact absurd h.1 a14
          · exact absurd h.1 a16
          · exact absurd h.1 aw
          · exact absurd h.1 a20
          · exact ⟨h.1, h.2.1, h.2.2⟩
          · exact absurd h.1 a23
          · exact absurd h.1 a24
          · exact absurd h.1 a27
    · rw [if_pos (by simpa using h3)]
      constructor
      · intro h; cases h
      · rintro (h | h)
        · exact absurd h h0'
        · exact absurd h.1 h3
def cntN (t : List Ev) (u : Int) : Nat → Nat
  | 0 => 0
  | n + 1 => cntN t u n + if (evA t n).f0 = u then 1 else 0
theorem cntN_mono (t : List Ev) (u : Int) {a b : Nat} (h : a ≤ b) : cntN t u a ≤ cntN t u b := by
  induction h with
  | refl => exact Nat.le_refl _
  | step _ ih => exact Nat.le_trans ih (Nat.le_add_right _ _)
theorem cntN_le (t : List Ev) (u : Int) : ∀ n, cntN t u n ≤ n
  | 0 => Nat.le_refl _
  | n + 1 => by
    have := cntN_le t u n
    unfold cntN
    split <;> omega
def tau (t : List Ev) (a : Nat) : Nat := cntN t (evA t a).f0 (a + 1)
theorem tau_eq (t : List Ev) (a : Nat) : tau t a = cntN t (evA t a).f0 a + 1 := by unfold tau; rw [cntN, if_pos rfl]
end Go.Proofs.Ytblnimopffhocaa.Pure
