/- What is ahead of what, by the document's rules: the program's rules are the same. -/
import Derived.Test.YtojkeabecjlaeaaOHand9
namespace Go.Proofs.Ytojkeabecjlaeaa.P
open Go.RowKit Go.Proofs.YtojkeabecjlaeaaW.PrintWords Go.Proofs.YtojkeabecjlaeaaW.PrintLast Go.Proofs.YtojkeabecjlaeaaW.PrintMore Go.Proofs.YtojkeabecjlaeaaX
set_option linter.unusedVariables false
set_option linter.unusedSimpArgs false
abbrev Ev := S24
def evA (t : List Ev) (i : Nat) : Ev := t.getD i z24
def sendsN (t : List Ev) (o : Int) : Nat → Nat
  | 0 => 0
  | n + 1 => sendsN t o n + if ((evA t n).f2 == 20 && (evA t n).f3 == o) = true then 1 else 0
def takesN (t : List Ev) (o : Int) : Nat → Nat
  | 0 => 0
  | n + 1 => takesN t o n + if (takesB (evA t n) && (evA t n).f3 == o) = true then 1 else 0
def wroteB (t : List Ev) (o : Int) (i j : Nat) : Bool := (List.range j).any fun k => decide (i < k) && (wrB (evA t k) && (evA t k).f3 == o)
def dirR (c : List Int) (t : List Ev) (i j : Nat) : Bool :=
  let a := evA t i
  let b := evA t j
  if (a.f0 == b.f0 || (a.f2 == 12 && a.f3 == b.f0)) = true then true
  else if (a.f3 == b.f3) = false then false
  else if (a.f2 == 14) = true then b.f2 == 13 || b.f2 == 15
  else if (a.f2 == 16) = true then b.f2 == 13
  else if wrB a = true then (b.f2 == 17 || b.f2 == 19) && !wroteB t a.f3 i j
  else if (a.f2 == 20) = true then takesB b && ((sendsN t a.f3 i : Int) == (takesN t a.f3 j : Int))
  else if (a.f2 == 23) = true then (b.f2 == 21 || b.f2 == 22) && b.f5 == 2
  else if (a.f2 == 24) = true then decide (a.f4 < 0) && b.f2 == 25
  else if (a.f2 == 27) = true then b.f2 == 26 && b.f5 == 0
  else takesB a && (b.f2 == 20 && (wrap64 ((takesN t a.f3 i : Int) + roomB c a.f3) == (sendsN t a.f3 j : Int)))
def ruleP (c : List Int) (t : List Ev) (i j : Nat) : Prop :=
  let a := evA t i
  let b := evA t j
  a.f3 = b.f3 ∧ ((a.f2 = 14 ∧ (b.f2 = 13 ∨ b.f2 = 15)) ∨ (a.f2 = 16 ∧ b.f2 = 13) ∨ (wrB a = true ∧ (b.f2 = 17 ∨ b.f2 = 19) ∧ wroteB t b.f3 i j = false)
    ∨ (a.f2 = 20 ∧ takesB b = true ∧ sendsN t b.f3 i = takesN t b.f3 j) ∨ (takesB a = true ∧ b.f2 = 20 ∧ wrap64 ((takesN t b.f3 i : Int) + roomB c b.f3) = (sendsN t b.f3 j : Int))
    ∨ (a.f2 = 23 ∧ (b.f2 = 21 ∨ b.f2 = 22) ∧ b.f5 = 2) ∨ (a.f2 = 24 ∧ a.f4 < 0 ∧ b.f2 = 25) ∨ (a.f2 = 27 ∧ b.f2 = 26 ∧ b.f5 = 0))
def toT (t : List Ev) (b : Nat) (u : Int) : Prop := (evA t b).f0 = u ∨ ((evA t b).f2 = 12 ∧ (evA t b).f3 = u)
theorem dirR_iff (c : List Int) (t : List Ev) (i j : Nat) : dirR c t i j = true ↔ toT t i (evA t j).f0 ∨ ruleP c t i j := by
  unfold dirR ruleP toT
  simp only
  by_cases h0 : ((evA t i).f0 == (evA t j).f0 || ((evA t i).f2 == 12 && (evA t i).f3 == (evA t j).f0)) = true
  · rw [if_pos h0]
    simp only [Bool.or_eq_true, Bool.and_eq_true, beq_iff_eq] at h0
    exact ⟨fun _ => .inl h0, fun _ => rfl⟩
  · rw [if_neg h0]
    have h0' : ¬ ((evA t i).f0 = (evA t j).f0 ∨ ((evA t i).f2 = 12 ∧ (evA t i).f3 = (evA t j).f0)) := by
      simpa only [Bool.or_eq_true, Bool.and_eq_true, beq_iff_eq] using h0
    by_cases h3 : (evA t i).f3 = (evA t j).f3
    · rw [if_neg (by simp [h3])]
      rw [h3]
      by_cases a14 : (evA t i).f2 = 14
      · rw [if_pos (by simp [a14])]
        simp only [h3, a14] at h0'
        grind [wrB, takesB]
      rw [if_neg (by simpa using a14)]
      by_cases a16 : (evA t i).f2 = 16
      · rw [if_pos (by simp [a16])]
        simp only [h3, a16] at h0'
        grind [wrB, takesB]
      rw [if_neg (by simpa using a16)]
      by_cases aw : wrB (evA t i) = true
      · rw [if_pos aw]
        have aw' := aw
        simp only [wrB, Bool.or_eq_true, beq_iff_eq] at aw'
        have n20 : (evA t i).f2 ≠ 20 := by omega
        have n12 : (evA t i).f2 ≠ 12 := by omega
        have n23 : (evA t i).f2 ≠ 23 := by omega
        have n24 : (evA t i).f2 ≠ 24 := by omega
        have n27 : (evA t i).f2 ≠ 27 := by omega
        have n21 : (evA t i).f2 ≠ 21 := by omega
        have n22 : (evA t i).f2 ≠ 22 := by omega
        rw [h3] at h0'
        grind [takesB]
      rw [if_neg aw]
      by_cases a20 : (evA t i).f2 = 20
      · rw [if_pos (by simp [a20])]
        rw [h3] at h0'
        have ew : wrB (evA t i) = false := by simpa using aw
        have et : takesB (evA t i) = false := by simp [takesB, a20]
        rw [Bool.and_eq_true, beq_iff_eq]
        constructor
        · intro h; exact .inr ⟨rfl, .inr (.inr (.inr (.inl ⟨a20, h.1, by omega⟩)))⟩
        · rintro (h | ⟨_, h⟩)
          · exact absurd h h0'
          · rcases h with h | h | h | h | h | h | h | h
            · omega
            · omega
            · rw [ew] at h; cases h.1
            · exact ⟨h.2.1, by omega⟩
            · rw [et] at h; cases h.1
            · omega
            · omega
            · omega
      rw [if_neg (by simpa using a20)]
      by_cases a23 : (evA t i).f2 = 23
      · rw [if_pos (by simp [a23])]
        simp only [h3, a23] at h0'
        grind [wrB, takesB]
      rw [if_neg (by simpa using a23)]
      by_cases a24 : (evA t i).f2 = 24
      · rw [if_pos (by simp [a24])]
        simp only [h3, a24] at h0'
        grind [wrB, takesB]
      rw [if_neg (by simpa using a24)]
      by_cases a27 : (evA t i).f2 = 27
      · rw [if_pos (by simp [a27])]
        simp only [h3, a27] at h0'
        grind [wrB, takesB]
      rw [if_neg (by simpa using a27)]
      simp only [Bool.and_eq_true, beq_iff_eq]
      constructor
      · intro h; exact .inr ⟨trivial, .inr (.inr (.inr (.inr (.inl ⟨h.1, h.2.1, h.2.2⟩))))⟩
      · rintro (h | ⟨_, h⟩)
        · rw [h3] at h0'; exact absurd h h0'
        · rcases h with h | h | h | h | h | h | h | h
          · exact absurd h.1 a14
          · exact absurd h.1 a16
          · exact absurd h.1 aw
          · exact absurd h.1 a20
          · exact ⟨h.1, h.2.1, h.2.2⟩
          · exact absurd h.1 a23
          · exact absurd h.1 a24
          · exact absurd h.1 a27
    · rw [if_pos (by simpa using h3)]
      constructor
      · intro h; cases h
      · rintro (h | h)
        · exact absurd h h0'
        · exact absurd h.1 h3
theorem sendsN_kcnt (t : List Ev) (o : Int) : ∀ i, i ≤ t.length → sendsN t o i = kcnt t i (false, o)
  | 0, _ => by simp [sendsN, kcnt]
  | i + 1, h => by
    rw [sendsN, sendsN_kcnt t o i (by omega), kcnt_succ t i (by omega)]
    congr 1
    unfold evA
    generalize t.getD i z24 = e
    unfold goesB keyB
    by_cases h2 : e.f2 = 20
    · have ht : takesB e = false := by unfold takesB; rw [h2]; rfl
      simp [h2, ht]
    · by_cases ht : takesB e = true
      · simp [h2, ht]
      · simp at ht; simp [h2, ht]
theorem takesN_kcnt (t : List Ev) (o : Int) : ∀ i, i ≤ t.length → takesN t o i = kcnt t i (true, o)
  | 0, _ => by simp [takesN, kcnt]
  | i + 1, h => by
    rw [takesN, takesN_kcnt t o i (by omega), kcnt_succ t i (by omega)]
    congr 1
    unfold evA
    generalize t.getD i z24 = e
    unfold goesB keyB
    by_cases ht : takesB e = true
    · simp [ht]
    · simp at ht; simp [ht]
theorem lastU_wrote (t : List Ev) (o : Int) (i : Nat) : ∀ j, i < j → (lastU t j o = (i : Int) ↔ wrB (evA t i) = true ∧ (evA t i).f3 = o ∧ wroteB t o i j = false)
  | j + 1, h => by
    rw [lastU_succ]
    have hw : wroteB t o i (j + 1) = (wroteB t o i j || (decide (i < j) && (wrB (evA t j) && (evA t j).f3 == o))) := by
      unfold wroteB
      rw [List.range_succ, List.any_append]
      simp
    by_cases hij : i = j
    · subst hij
      have h0 : wroteB t o i (i + 1) = false := by
        unfold wroteB
        rw [List.any_eq_false]
        intro x hx
        have := List.mem_range.1 hx
        simp
        omega
      rw [h0]
      have hl := lastU_lo t o i
      unfold evA
      split
      · rename_i hc
        rw [Bool.and_eq_true, beq_iff_eq] at hc
        exact ⟨fun _ => ⟨hc.1, hc.2, rfl⟩, fun _ => rfl⟩
      · rename_i hc
        rw [Bool.and_eq_true, beq_iff_eq] at hc
        exact ⟨fun hh => by omega, fun hh => absurd ⟨hh.1, hh.2.1⟩ hc⟩
    · have ih := lastU_wrote t o i j (by omega)
      rw [hw, decide_eq_true (show i < j by omega), Bool.true_and]
      have e : (wrB (t.getD j z24) && (t.getD j z24).f3 == o) = (wrB (evA t j) && (evA t j).f3 == o) := rfl
      rw [e]
      cases hc : (wrB (evA t j) && (evA t j).f3 == o) with
      | true =>
        rw [if_pos rfl, Bool.or_true]
        exact ⟨fun hh => by omega, fun hh => by cases hh.2.2⟩
      | false =>
        rw [if_neg (by decide), Bool.or_false]
        exact ih
theorem dirB_eq (c : List Int) (t : List Ev) {i j : Nat} (hij : i < j) (hj : j < t.length) : dirB c t i j = dirR c t i j := by
  rw [Bool.eq_iff_iff, dirR_iff]
  unfold dirB dirW toT ruleP
  simp only
  have ea : t.getD i z24 = evA t i := rfl
  have eb : t.getD j z24 = evA t j := rfl
  rw [ea, eb]
  by_cases h0 : ((evA t i).f0 == (evA t j).f0 || (evA t i).f2 == 12 && (evA t i).f3 == (evA t j).f0) = true
  · rw [if_pos h0]
    simp only [Bool.or_eq_true, Bool.and_eq_true, beq_iff_eq] at h0
    exact ⟨fun _ => .inl h0, fun _ => rfl⟩
  · rw [if_neg h0]
    have h0' : ¬ ((evA t i).f0 = (evA t j).f0 ∨ ((evA t i).f2 = 12 ∧ (evA t i).f3 = (evA t j).f0)) := by
      simpa only [Bool.or_eq_true, Bool.and_eq_true, beq_iff_eq] using h0
    rw [Bool.and_eq_true, beq_iff_eq]
    by_cases h3 : (evA t i).f3 = (evA t j).f3
    · have hl := lastU_wrote t (evA t j).f3 i j hij
      have s1 := sendsN_kcnt t (evA t j).f3 i (by omega)
      have s2 := sendsN_kcnt t (evA t j).f3 j (by omega)
      have k1 := takesN_kcnt t (evA t j).f3 i (by omega)
      have k2 := takesN_kcnt t (evA t j).f3 j (by omega)
      have laj : laU t j = lastU t j (evA t j).f3 := rfl
      have pi : plU t i = if goesB (evA t i) = true then (kcnt t i (takesB (evA t i), (evA t i).f3) : Int) else 0 := rfl
      have pj : plU t j = if goesB (evA t j) = true then (kcnt t j (takesB (evA t j), (evA t j).f3) : Int) else 0 := rfl
      rw [h3] at pi
      have si : (evA t i).f2 = 20 → plU t i = (sendsN t (evA t j).f3 i : Int) := fun h => by
        rw [pi, s1, if_pos (by simp [goesB, h]), show takesB (evA t i) = false from by simp [takesB, h]]
      have ti : takesB (evA t i) = true → plU t i = (takesN t (evA t j).f3 i : Int) := fun h => by
        rw [pi, k1, if_pos (by simp [goesB, h]), h]
      have sj : (evA t j).f2 = 20 → plU t j = (sendsN t (evA t j).f3 j : Int) := fun h => by
        rw [pj, s2, if_pos (by simp [goesB, h]), show takesB (evA t j) = false from by simp [takesB, h]]
      have tj : takesB (evA t j) = true → plU t j = (takesN t (evA t j).f3 j : Int) := fun h => by
        rw [pj, k2, if_pos (by simp [goesB, h]), h]
      rw [laj, h3]
      unfold anyR
      rw [h3]
      simp only [List.any_cons, List.any_nil, id, Bool.or_eq_true, Bool.and_eq_true, beq_iff_eq, decide_eq_true_eq, Bool.or_false, hl]
      constructor
      · rintro ⟨_, h⟩
        refine .inr ⟨trivial, ?_⟩
        rcases h with h | h | h | h | h | h | h | h
        · exact .inl h
        · exact .inr (.inl h)
        · exact .inr (.inr (.inl ⟨h.2.1, h.1, h.2.2.2⟩))
        · refine .inr (.inr (.inr (.inl ⟨h.1.1, h.1.2, ?_⟩)))
          have e := h.2
          rw [si h.1.1, tj h.1.2] at e
          omega
        · refine .inr (.inr (.inr (.inr (.inl ⟨h.1.1, h.1.2, ?_⟩))))
          have e := h.2
          rw [ti h.1.1, sj h.1.2] at e
          exact e
        · exact .inr (.inr (.inr (.inr (.inr (.inl ⟨h.1.1, h.1.2, h.2⟩)))))
        · exact .inr (.inr (.inr (.inr (.inr (.inr (.inl ⟨h.1.1, h.1.2, h.2⟩))))))
        · exact .inr (.inr (.inr (.inr (.inr (.inr (.inr ⟨h.1.1, h.1.2, h.2⟩))))))
      · rintro (h | ⟨_, h⟩)
        · rw [h3] at h0'; exact absurd h h0'
        · refine ⟨trivial, ?_⟩
          rcases h with h | h | h | h | h | h | h | h
          · exact .inl h
          · exact .inr (.inl h)
          · exact .inr (.inr (.inl ⟨h.2.1, h.1, h3, h.2.2⟩))
          · refine .inr (.inr (.inr (.inl ⟨⟨h.1, h.2.1⟩, ?_⟩)))
            rw [si h.1, tj h.2.1]
            have := h.2.2
            omega
          · refine .inr (.inr (.inr (.inr (.inl ⟨⟨h.1, h.2.1⟩, ?_⟩))))
            rw [ti h.1, sj h.2.1]
            exact h.2.2
          · exact .inr (.inr (.inr (.inr (.inr (.inl ⟨⟨h.1, h.2.1⟩, h.2.2⟩)))))
          · exact .inr (.inr (.inr (.inr (.inr (.inr (.inl ⟨⟨h.1, h.2.1⟩, h.2.2⟩))))))
          · exact .inr (.inr (.inr (.inr (.inr (.inr (.inr ⟨⟨h.1, h.2.1⟩, h.2.2⟩))))))
    · constructor
      · rintro ⟨h, _⟩; exact absurd h h3
      · rintro (h | h)
        · exact absurd h h0'
        · exact absurd h.1 h3
end Go.Proofs.Ytojkeabecjlaeaa.P
