/- Events behind two change nothing between them. -/
import Derived.Test.YtojkeabecjlaeaaPx3
import Derived.Test.YtojkeabecjlaeaaPureO
namespace Go.Proofs.Ytojkeabecjlaeaa.Pure
open Go.RowKit Go.Proofs.Ytojkeabecjlaeaa.P Go.Proofs.YtojkeabecjlaeaaW.PrintWords Go.Proofs.YtojkeabecjlaeaaW.PrintLast Go.Proofs.YtojkeabecjlaeaaX
set_option linter.unusedVariables false

theorem take_getD (t : List S24) {m a : Nat} (h : a < m) : (t.take m).getD a z24 = t.getD a z24 := by
  rw [List.getD_eq_getElem?_getD, List.getElem?_take, if_pos h, List.getD_eq_getElem?_getD]
theorem kcnt_take (t : List S24) {m i : Nat} (h : i ≤ m) (x : Bool × Int) : kcnt (t.take m) i x = kcnt t i x := by
  unfold kcnt
  rw [List.take_take, Nat.min_eq_left h]
theorem lastU_take (t : List S24) {m : Nat} (o : Int) : ∀ i, i ≤ m → lastU (t.take m) i o = lastU t i o
  | 0, _ => rfl
  | i + 1, h => by rw [lastU_succ, lastU_succ, take_getD t (by omega), lastU_take t o i (by omega)]
theorem dirB_take (c : List Int) (t : List S24) {m a b : Nat} (ha : a < m) (hb : b < m) : dirB c (t.take m) a b = dirB c t a b := by
  unfold dirB plU laU
  rw [take_getD t ha, take_getD t hb, kcnt_take t (by omega), kcnt_take t (by omega), lastU_take t _ _ (by omega)]
theorem reach_take (c : List Int) (t : List S24) {i j : Nat} : P.Reach (dirB c (t.take (j + 1))) i j ↔ P.Reach (dirB c t) i j :=
  ⟨fun h => h.congr (fun a b h1 h2 => dirB_take c t (by omega) (by omega)) (Nat.le_refl _), fun h => h.congr (fun a b h1 h2 => (dirB_take c t (by omega) (by omega)).symm) (Nat.le_refl _)⟩
theorem marked_append : ∀ (l1 l2 : List Bool) (i : Nat), marked (l1 ++ l2) i = marked l1 i ++ marked l2 (i + l1.length)
  | [], l2, i => rfl
  | b :: l1, l2, i => by
    rw [List.cons_append, marked, marked, marked_append l1 l2 (i + 1), List.length_cons, show i + 1 + l1.length = i + (l1.length + 1) by omega]
    split <;> rfl
theorem marked_false : ∀ (l : List Bool) (i : Nat), (∀ b ∈ l, b = false) → marked l i = []
  | [], i, _ => rfl
  | b :: l, i, h => by
    rw [marked, h b (by simp), if_neg (by simp)]
    exact marked_false l (i + 1) fun b hb => h b (by simp [hb])
theorem marked_len : ∀ (l : List Bool) (i : Nat), (marked l i).length ≤ l.length
  | [], i => Nat.le_refl _
  | b :: l, i => by
    rw [marked]
    have := marked_len l (i + 1)
    split
    · simp only [List.length_cons]; omega
    · simp only [List.length_cons]; omega
theorem marks_take (c : List Int) (t : List S24) {j : Nat} (hj : j < t.length) : marked (marks (dirB c (t.take (j + 1))) (t.take (j + 1)).length j) 0 = marked (marks (dirB c t) t.length j) 0 := by
  obtain ⟨_, hl, hr⟩ := marks_reach (dirB c t) hj
  have hlt : (t.take (j + 1)).length = j + 1 := by rw [List.length_take]; omega
  have e : (marks (dirB c t) t.length j).take (j + 1) = marks (dirB c (t.take (j + 1))) (t.take (j + 1)).length j := by
    refine marks_unique (by omega) (by rw [List.length_take, hl, hlt]; omega) fun i => ?_
    rw [reach_take, ← hr i, List.getD_eq_getElem?_getD, List.getElem?_take]
    split
    · rw [List.getD_eq_getElem?_getD]
    · rename_i h
      constructor
      · intro h2; cases h2
      · intro h2
        have := ((hr i).1 h2).lt
        omega
  rw [← e]
  conv => rhs; rw [← List.take_append_drop (j + 1) (marks (dirB c t) t.length j), marked_append]
  rw [marked_false ((marks (dirB c t) t.length j).drop (j + 1)), List.append_nil]
  intro b hb
  obtain ⟨i, hi, rfl⟩ := List.getElem_of_mem hb
  rw [List.getElem_drop]
  cases hq : (marks (dirB c t) t.length j)[j + 1 + i]'(by rw [List.length_drop] at hi; omega) with
  | false => rfl
  | true =>
    have h3 := (hr (j + 1 + i)).1 (by rw [List.getD_eq_getElem?_getD, List.getElem?_eq_getElem (by rw [List.length_drop] at hi; omega), hq]; rfl)
    have := h3.lt
    omega
theorem past_take (c : List Int) (t : List S24) {j : Nat} (hj : j < t.length) : pastI c (t.take (j + 1)) (j : Int) = pastI c t (j : Int) := by
  have hlt : (t.take (j + 1)).length = j + 1 := by rw [List.length_take]; omega
  unfold pastI
  rw [decide_eq_false (by omega : ¬ (j : Int) < 0), decide_eq_false (by rw [hlt]; omega : ¬ ((t.take (j + 1)).length : Int) ≤ (j : Int)), decide_eq_false (by omega : ¬ (t.length : Int) ≤ (j : Int)), if_neg (by simp), if_neg (by simp), Int.toNat_natCast]
  exact marks_take c t hj
theorem before_take (c : List Int) (t : List S24) {j : Nat} (hj : j < t.length) (i : Nat) : beforeI c (t.take (j + 1)) (i : Int) (j : Int) = beforeI c t (i : Int) (j : Int) := by
  have hlt : (t.take (j + 1)).length = j + 1 := by rw [List.length_take]; omega
  rw [Bool.eq_iff_iff, before_iff, before_iff, hlt, Int.toNat_natCast, Int.toNat_natCast, reach_take]
  constructor
  · rintro ⟨h1, h2, h3, h4⟩; exact ⟨h1, h2, by omega, h4⟩
  · rintro ⟨h1, h2, h3, h4⟩; exact ⟨h1, h2, by omega, h4⟩
theorem same_loop (l : List Int) (hl : l.length ≤ 25) (k : Nat) : ∀ d i : Nat, i + d = l.length → interlocklaw07_same.l0 (k + d + 1) l l (i : Int) = some true
  | 0, i, h => by
    unfold interlocklaw07_same.l0
    rw [if_neg (by omega)]
  | d + 1, i, h => by
    rw [show k + (d + 1) + 1 = (k + d + 1) + 1 from rfl, interlocklaw07_same.l0, if_pos (by omega), if_pos (by omega), if_pos (by omega), if_pos rfl, show wrap64 ((i : Int) + 1) = ((i + 1 : Nat) : Int) from by unfold wrap64; omega]
    exact same_loop l hl k d (i + 1) (by omega)
theorem same_refl (l : List Int) (hl : l.length ≤ 25) : interlocklaw07_same.f 26 l l = some true := by
  unfold interlocklaw07_same.f
  rw [if_pos rfl]
  have := same_loop l hl (25 - l.length) l.length 0 (by omega)
  rw [show 25 - l.length + l.length + 1 = 26 by omega] at this
  exact this
theorem past_len (c : List Int) (t : List S24) {j : Nat} (hj : j < t.length) (hl : t.length ≤ 25) : (pastI c t (j : Int)).length ≤ 25 := by
  unfold pastI
  split
  · simp
  · have h1 := marked_len (marks (dirB c t) t.length (j : Int).toNat) 0
    rw [Int.toNat_natCast] at h1 ⊢
    rw [(marks_reach (dirB c t) hj).2.1] at h1
    omega
theorem mod_nat {a : Int} (w : (Lit.int .u8 a).wf = true) {n : Nat} (hn : n ≠ 0) : ∃ i : Nat, Int.tmod (wrap64 a) (n : Int) = (i : Int) ∧ i < n := by
  obtain ⟨r0, r1⟩ := u8_range w
  have hw : wrap64 a = a := by unfold wrap64; omega
  have h1 := Int.emod_nonneg a (b := (n : Int)) (by omega)
  have h2 := Int.emod_lt_of_pos a (b := (n : Int)) (by omega)
  refine ⟨(a % (n : Int)).toNat, ?_, by omega⟩
  rw [hw, Int.tmod_eq_emod_of_nonneg r0, Int.toNat_of_nonneg h1]
def OrderFrontsPure : Prop := ∀ (l0 : List (S69)) (a1 a2 : Int), l0.length ≤ maxLen → rawWf l0 → (Lit.int .u8 a1).wf = true → (Lit.int .u8 a2).wf = true → ∃ k, interlocklaw07_OrderFronts.f k l0 a1 a2 = some true
theorem OrderFronts : OrderFrontsPure := by
  intro l a1 a2 _ hw w1 w2
  obtain ⟨t, hT, hl⟩ := trace_some l hw 0
  refine ⟨26, ?_⟩
  unfold interlocklaw07_OrderFronts.f
  rw [Option.bind_some, hT, Option.bind_some]
  by_cases h0 : (t.length : Int) = 0
  · rw [if_pos h0, known_true]
    rfl
  · obtain ⟨j, hj, hjl⟩ := mod_nat w1 (n := t.length) (by omega)
    obtain ⟨i, hi, hil⟩ := mod_nat w2 (n := t.length) (by omega)
    have hlt : (t.take (j + 1)).length ≤ 25 := by rw [List.length_take]; omega
    rw [if_neg h0, known_true, Option.bind_some, if_pos rfl, hj, hi, before_some hl, Option.bind_some, show wrap64 ((j : Int) + 1) = ((j + 1 : Nat) : Int) from by unfold wrap64; omega, if_pos (by omega), if_pos (by omega), Int.toNat_natCast,
      before_some hlt, Option.bind_some, before_take _ t hjl, if_pos (beq_self_eq_true _), past_some hl, Option.bind_some, past_some hlt, Option.bind_some, past_take _ t hjl, same_refl _ (past_len _ t hjl hl)]
    rfl
end Go.Proofs.Ytojkeabecjlaeaa.Pure
