/- The document's answers of layer 7: what each function comes to; they are the program's. -/
import Derived.Test.YtojkeabecjlaeaaDEq
import Derived.Test.YtojkeabecjlaeaaPx5
import Derived.Test.YtojkeabecjlaeaaPx6
namespace Go.Proofs.Ytojkeabecjlaeaa.P
open Go.RowKit Go.Proofs.YtojkeabecjlaeaaW.PrintWords Go.Proofs.YtojkeabecjlaeaaW.PrintLast Go.Proofs.YtojkeabecjlaeaaW.PrintMore Go.Proofs.YtojkeabecjlaeaaX
set_option linter.unusedVariables false
set_option linter.unusedSimpArgs false
theorem sendsN_le (t : List Ev) (o : Int) : ∀ n, sendsN t o n ≤ n
  | 0 => Nat.le_refl _
  | n + 1 => by
    have := sendsN_le t o n
    unfold sendsN
    split <;> omega
theorem takesN_le (t : List Ev) (o : Int) : ∀ n, takesN t o n ≤ n
  | 0 => Nat.le_refl _
  | n + 1 => by
    have := takesN_le t o n
    unfold takesN
    split <;> omega
theorem rdE (t : List Ev) (i : Nat) : rd_T24 t (i : Int) = evA t i := by
  unfold rd_T24 evA
  rw [Int.toNat_natCast]
theorem w1 {i : Nat} (h : i ≤ 1000000000) : wrap64 ((i : Int) + 1) = ((i + 1 : Nat) : Int) := by unfold wrap64; omega
theorem nbeq {x y : Int} (h : ¬ x = y) : ¬ (x == y) = true := by simpa using h
theorem pbeq {x y : Int} (h : x = y) : (x == y) = true := by simpa using h
theorem taking_eq (e : Ev) : interlockref07_taking.f e.f0 e.f1 e.f2 e.f3 e.f4 e.f5 = some (takesB e) := by
  unfold interlockref07_taking.f takesB
  by_cases h1 : e.f2 = 21
  · rw [if_pos h1]; simp [h1]
  · rw [if_neg h1]
    by_cases h2 : e.f2 = 22
    · rw [if_pos h2]; simp [h2]
    · rw [if_neg h2]; simp [h1, h2]
theorem sends_loop (t : List Ev) (o : Int) (n : Nat) (hn : n ≤ t.length) (hl : t.length ≤ 1000000000) : ∀ (d i k : Nat), i + d = n → d + 1 ≤ k → interlockref07_sends.l0 k t o (n : Int) (sendsN t o i : Int) (i : Int) = some (sendsN t o n : Int)
  | 0, i, k, hi, hk => by
    obtain ⟨k, rfl⟩ : ∃ m, k = m + 1 := ⟨k - 1, by omega⟩
    obtain rfl : i = n := by omega
    rw [interlockref07_sends.l0, if_neg (by omega)]
  | d + 1, i, k, hi, hk => by
    obtain ⟨k, rfl⟩ : ∃ m, k = m + 1 := ⟨k - 1, by omega⟩
    have := sendsN_le t o i
    rw [interlockref07_sends.l0, if_pos (by omega), if_pos (by omega), if_pos (by omega), rdE, w1 (by omega), w1 (by omega)]
    have e : sendsN t o (i + 1) = sendsN t o i + if ((evA t i).f2 == 20 && (evA t i).f3 == o) = true then 1 else 0 := rfl
    have nx := sends_loop t o n hn hl d (i + 1) k (by omega) (by omega)
    by_cases h2 : (evA t i).f2 = 20
    · rw [if_pos h2]
      by_cases h3 : (evA t i).f3 = o
      · rw [if_pos h3]
        rw [e, if_pos (by simp [h2, h3])] at nx
        exact nx
      · rw [if_neg h3]
        rw [e, if_neg (by simp [h3])] at nx
        exact nx
    · rw [if_neg h2]
      rw [e, if_neg (by simp [h2])] at nx
      exact nx
theorem sends_eq (t : List Ev) (o : Int) (n k : Nat) (hn : n ≤ t.length) (hl : t.length ≤ 1000000000) (hk : n + 1 ≤ k) : interlockref07_sends.f k t o (n : Int) = some (sendsN t o n : Int) := sends_loop t o n hn hl n 0 k (by omega) hk
theorem takings_loop (t : List Ev) (o : Int) (n : Nat) (hn : n ≤ t.length) (hl : t.length ≤ 1000000000) : ∀ (d i k : Nat), i + d = n → d + 1 ≤ k → interlockref07_takings.l0 k t o (n : Int) (takesN t o i : Int) (i : Int) = some (takesN t o n : Int)
  | 0, i, k, hi, hk => by
    obtain ⟨k, rfl⟩ : ∃ m, k = m + 1 := ⟨k - 1, by omega⟩
    obtain rfl : i = n := by omega
    rw [interlockref07_takings.l0, if_neg (by omega)]
  | d + 1, i, k, hi, hk => by
    obtain ⟨k, rfl⟩ : ∃ m, k = m + 1 := ⟨k - 1, by omega⟩
    have := takesN_le t o i
    rw [interlockref07_takings.l0, if_pos (by omega), if_pos (by omega), if_pos (by omega), rdE, taking_eq, Option.bind_some, w1 (by omega), w1 (by omega)]
    have e : takesN t o (i + 1) = takesN t o i + if (takesB (evA t i) && (evA t i).f3 == o) = true then 1 else 0 := rfl
    have nx := takings_loop t o n hn hl d (i + 1) k (by omega) (by omega)
    by_cases h2 : takesB (evA t i) = true
    · rw [if_pos h2]
      by_cases h3 : (evA t i).f3 = o
      · rw [if_pos h3]
        rw [e, if_pos (by simp [h2, h3])] at nx
        exact nx
      · rw [if_neg h3]
        rw [e, if_neg (by simp [h3])] at nx
        exact nx
    · rw [if_neg h2]
      rw [e, if_neg (by simp [h2])] at nx
      exact nx
theorem takings_eq (t : List Ev) (o : Int) (n k : Nat) (hn : n ≤ t.length) (hl : t.length ≤ 1000000000) (hk : n + 1 ≤ k) : interlockref07_takings.f k t o (n : Int) = some (takesN t o n : Int) := takings_loop t o n hn hl n 0 k (by omega) hk
theorem room_eq (a0 a1 a2 a4 a5 : Int) (c : List Int) (l6 : List (List S34)) (o : Int) : interlockref07_room.f a0 a1 a2 c a4 a5 l6 o = some (roomB c o) := by
  unfold interlockref07_room.f roomB
  by_cases h1 : o < 0
  · rw [if_pos h1, if_pos h1]
  · rw [if_neg h1, if_neg h1]
    by_cases h2 : o ≥ (c.length : Int)
    · rw [if_pos h2, if_pos h2]
    · rw [if_neg h2, if_neg h2, if_pos (by omega), if_pos (by omega)]
theorem writes_loop (t : List Ev) (i j : Nat) (hij : i < j) (hj : j ≤ t.length) (hl : t.length ≤ 1000000000) : ∀ (d x k : Nat), x + d = j → i < x → d + 1 ≤ k → interlockref07_writes.l0 k t (i : Int) (j : Int) (x : Int) = some ((List.range' x d).any fun m => wrB (evA t m) && (evA t m).f3 == (evA t i).f3)
  | 0, x, k, hx, hix, hk => by
    obtain ⟨k, rfl⟩ : ∃ m, k = m + 1 := ⟨k - 1, by omega⟩
    rw [interlockref07_writes.l0, if_neg (by omega)]
    rfl
  | d + 1, x, k, hx, hix, hk => by
    obtain ⟨k, rfl⟩ : ∃ m, k = m + 1 := ⟨k - 1, by omega⟩
    have nx := writes_loop t i j hij hj hl d (x + 1) k (by omega) (by omega) (by omega)
    rw [interlockref07_writes.l0, if_pos (by omega), if_pos (by omega), if_pos (by omega), rdE, rdE, w1 (by omega), List.range'_succ, List.any_cons]
    by_cases h1 : (evA t x).f2 = 18
    · rw [if_pos h1, if_pos (by omega), if_pos (by omega)]
      by_cases h3 : (evA t x).f3 = (evA t i).f3
      · rw [if_pos h3]; simp [wrB, h1, h3]
      · rw [if_neg h3, nx]; simp [h3]
    · rw [if_neg h1]
      by_cases h2 : (evA t x).f2 = 19
      · rw [if_pos h2, if_pos (by omega), if_pos (by omega)]
        by_cases h3 : (evA t x).f3 = (evA t i).f3
        · rw [if_pos h3]; simp [wrB, h2, h3]
        · rw [if_neg h3, nx]; simp [h3]
      · rw [if_neg h2, nx]; simp [wrB, h1, h2]
theorem writes_eq (t : List Ev) (i j k : Nat) (hij : i < j) (hj : j ≤ t.length) (hl : t.length ≤ 1000000000) (hk : j + 1 ≤ k) : interlockref07_writes.f k t (i : Int) (j : Int) = some (wroteB t (evA t i).f3 i j) := by
  unfold interlockref07_writes.f
  rw [w1 (by omega), writes_loop t i j hij hj hl (j - (i + 1)) (i + 1) k (by omega) (by omega) (by omega)]
  congr 1
  unfold wroteB
  rw [Bool.eq_iff_iff, List.any_eq_true, List.any_eq_true]
  constructor
  · rintro ⟨m, hm, h⟩
    have := List.mem_range'_1.1 hm
    exact ⟨m, List.mem_range.2 (by omega), by rw [decide_eq_true (by omega), Bool.true_and]; exact h⟩
  · rintro ⟨m, hm, h⟩
    have := List.mem_range.1 hm
    rw [Bool.and_eq_true, decide_eq_true_iff] at h
    exact ⟨m, List.mem_range'_1.2 (by omega), h.2⟩
section
variable (a0 a1 a2 a4 a5 : Int) (c : List Int) (l6 : List (List S34)) (t : List Ev)
theorem direct_eq (hl : t.length ≤ 1000000000) (i j k : Nat) (hij : i < j) (hj : j < t.length) (hk : t.length + 10 ≤ k) : interlockref07_Direct.f k a0 a1 a2 c a4 a5 l6 t (i : Int) (j : Int) = some (dirR c t i j) := by
  obtain ⟨k, rfl⟩ : ∃ m, k = m + 4 := ⟨k - 4, by omega⟩
  unfold interlockref07_Direct.f
  rw [if_neg (by omega), if_neg (by omega), decide_eq_false (by omega), interlockref07_Direct.j0, if_neg (by decide), if_pos (by omega), if_pos (by omega), if_pos (by omega), if_pos (by omega), rdE, rdE]
  have last : ∀ x11 : Bool, x11 = (((evA t j).f2 == 21 || (evA t j).f2 == 22) && (evA t j).f5 == 2) → ∀ p0 p1 p2 p4 p5 : Int, ¬ (evA t i).f2 = 14 → ¬ (evA t i).f2 = 16 → (evA t i).f3 = (evA t j).f3 → ∀ b85 : Bool, b85 = wrB (evA t i) →
      interlockref07_Direct.j3 (k + 1) t (i : Int) (j : Int) x11 (evA t i).f2 b85 p0 p1 p2 c p4 p5 l6 (evA t i).f0 (evA t i).f1 (evA t i).f2 (evA t i).f3 (evA t i).f4 (evA t i).f5 (evA t j).f0 (evA t j).f1 (evA t j).f2 (evA t j).f3 (evA t j).f4 (evA t j).f5
        = some (if wrB (evA t i) = true then ((evA t j).f2 == 17 || (evA t j).f2 == 19) && !wroteB t (evA t i).f3 i j
          else if ((evA t i).f2 == 20) = true then takesB (evA t j) && ((sendsN t (evA t i).f3 i : Int) == (takesN t (evA t i).f3 j : Int))
          else if ((evA t i).f2 == 23) = true then ((evA t j).f2 == 21 || (evA t j).f2 == 22) && (evA t j).f5 == 2
          else if ((evA t i).f2 == 24) = true then decide ((evA t i).f4 < 0) && (evA t j).f2 == 25
          else if ((evA t i).f2 == 27) = true then (evA t j).f2 == 26 && (evA t j).f5 == 0
          else takesB (evA t i) && ((evA t j).f2 == 20 && (wrap64 ((takesN t (evA t i).f3 i : Int) + roomB c (evA t i).f3) == (sendsN t (evA t i).f3 j : Int)))) := by
    intro x11 hx11 p0 p1 p2 p4 p5 n14 n16 h3 b85 hb85
    rw [interlockref07_Direct.j3, hb85]
    by_cases hw : wrB (evA t i) = true
    · rw [if_pos hw, if_pos hw]
      by_cases b17 : (evA t j).f2 = 17
      · rw [if_pos b17, writes_eq t i j k hij (by omega) hl (by omega)]; simp [b17]
      · rw [if_neg b17]
        by_cases b19 : (evA t j).f2 = 19
        · rw [if_pos b19, writes_eq t i j k hij (by omega) hl (by omega)]; simp [b19]
        · rw [if_neg b19]; simp [b17, b19]
    · rw [if_neg hw, if_neg hw]
      by_cases a20 : (evA t i).f2 = 20
      · rw [if_pos a20, if_pos (pbeq a20), taking_eq, Option.bind_some]
        by_cases ht : takesB (evA t j) = true
        · rw [if_pos ht, sends_eq t _ i k (by omega) hl (by omega), Option.bind_some, takings_eq t _ j k (by omega) hl (by omega), Option.bind_some, ht, Bool.true_and]
        · rw [if_neg ht]; simp at ht; simp [ht]
      · rw [if_neg a20, if_neg (nbeq a20)]
        by_cases a23 : (evA t i).f2 = 23
        · rw [if_pos a23, if_pos (pbeq a23), hx11]
        · rw [if_neg a23, if_neg (nbeq a23)]
          by_cases a24 : (evA t i).f2 = 24
          · rw [if_pos a24, if_pos (pbeq a24)]
            by_cases h4 : (evA t i).f4 < 0
            · rw [if_pos h4, decide_eq_true h4, Bool.true_and]
            · rw [if_neg h4, decide_eq_false h4, Bool.false_and]
          · rw [if_neg a24, if_neg (nbeq a24)]
            by_cases a27 : (evA t i).f2 = 27
            · rw [if_pos a27, if_pos (pbeq a27)]
              by_cases b26 : (evA t j).f2 = 26
              · rw [if_pos b26]; simp [b26]
              · rw [if_neg b26]; simp [b26]
            · rw [if_neg a27, if_neg (nbeq a27), taking_eq, Option.bind_some]
              by_cases ht : takesB (evA t i) = true
              · rw [if_pos ht, ht, Bool.true_and]
                by_cases b20 : (evA t j).f2 = 20
                · rw [if_pos b20, takings_eq t _ i k (by omega) hl (by omega), Option.bind_some, room_eq, Option.bind_some, sends_eq t _ j k (by omega) hl (by omega), Option.bind_some]
                  simp [b20]
                · rw [if_neg b20]; simp [b20]
              · rw [if_neg ht]; simp at ht; simp [ht]
  have mid : ∀ x11 : Bool, x11 = (((evA t j).f2 == 21 || (evA t j).f2 == 22) && (evA t j).f5 == 2) → (evA t i).f3 = (evA t j).f3 → ∀ p0 p1 p2 p4 p5 : Int,
      interlockref07_Direct.j2 (k + 2) t (i : Int) (j : Int) x11 p0 p1 p2 c p4 p5 l6 (evA t i).f0 (evA t i).f1 (evA t i).f2 (evA t i).f3 (evA t i).f4 (evA t i).f5 (evA t j).f0 (evA t j).f1 (evA t j).f2 (evA t j).f3 (evA t j).f4 (evA t j).f5
        = some (if ((evA t i).f2 == 14) = true then (evA t j).f2 == 13 || (evA t j).f2 == 15 else if ((evA t i).f2 == 16) = true then (evA t j).f2 == 13
          else if wrB (evA t i) = true then ((evA t j).f2 == 17 || (evA t j).f2 == 19) && !wroteB t (evA t i).f3 i j
          else if ((evA t i).f2 == 20) = true then takesB (evA t j) && ((sendsN t (evA t i).f3 i : Int) == (takesN t (evA t i).f3 j : Int))
          else if ((evA t i).f2 == 23) = true then ((evA t j).f2 == 21 || (evA t j).f2 == 22) && (evA t j).f5 == 2
          else if ((evA t i).f2 == 24) = true then decide ((evA t i).f4 < 0) && (evA t j).f2 == 25
          else if ((evA t i).f2 == 27) = true then (evA t j).f2 == 26 && (evA t j).f5 == 0
          else takesB (evA t i) && ((evA t j).f2 == 20 && (wrap64 ((takesN t (evA t i).f3 i : Int) + roomB c (evA t i).f3) == (sendsN t (evA t i).f3 j : Int)))) := by
    intro x11 hx11 h3 p0 p1 p2 p4 p5
    rw [interlockref07_Direct.j2]
    by_cases a14 : (evA t i).f2 = 14
    · rw [if_pos a14, if_pos (pbeq a14)]
      by_cases b13 : (evA t j).f2 = 13
      · rw [if_pos b13]; simp [b13]
      · rw [if_neg b13]; simp [b13]
    · rw [if_neg a14, if_neg (nbeq a14)]
      by_cases a16 : (evA t i).f2 = 16
      · rw [if_pos a16, if_pos (pbeq a16)]
      · rw [if_neg a16, if_neg (nbeq a16)]
        by_cases a18 : (evA t i).f2 = 18
        · rw [if_pos a18, last x11 hx11 _ _ _ _ _ a14 a16 h3 _ (by simp [wrB, a18])]
        · rw [if_neg a18, last x11 hx11 _ _ _ _ _ a14 a16 h3 _ (by simp [wrB, a18])]
  have top : ∀ b49 : Bool, b49 = ((evA t i).f0 == (evA t j).f0 || ((evA t i).f2 == 12 && (evA t i).f3 == (evA t j).f0)) → ∀ p0 p1 p2 p4 p5 : Int,
      interlockref07_Direct.j1 (k + 3) t (i : Int) (j : Int) b49 p0 p1 p2 c p4 p5 l6 (evA t i).f0 (evA t i).f1 (evA t i).f2 (evA t i).f3 (evA t i).f4 (evA t i).f5 (evA t j).f0 (evA t j).f1 (evA t j).f2 (evA t j).f3 (evA t j).f4 (evA t j).f5 = some (dirR c t i j) := by
    intro b49 hb49 p0 p1 p2 p4 p5
    rw [interlockref07_Direct.j1, hb49]
    unfold dirR
    simp only
    by_cases h0 : ((evA t i).f0 == (evA t j).f0 || ((evA t i).f2 == 12 && (evA t i).f3 == (evA t j).f0)) = true
    · rw [if_pos h0, if_pos h0]
    · rw [if_neg h0, if_neg h0]
      by_cases h3 : (evA t i).f3 = (evA t j).f3
      · have m := fun x11 hx => mid x11 hx h3 p0 p1 p2 p4 p5
        rw [if_pos h3, if_neg (show ¬ ((evA t i).f3 == (evA t j).f3) = false by simp [h3])]
        by_cases b21 : (evA t j).f2 = 21
        · rw [if_pos b21, m _ (by simp [b21])]
        · rw [if_neg b21]
          by_cases b22 : (evA t j).f2 = 22
          · rw [if_pos b22, m _ (by simp [b22])]
          · rw [if_neg b22, m _ (by simp [b21, b22])]
      · rw [if_neg h3, if_pos (show ((evA t i).f3 == (evA t j).f3) = false by simpa using h3)]
  by_cases h0 : (evA t i).f0 = (evA t j).f0
  · rw [if_pos h0, top _ (by simp [h0])]
  · rw [if_neg h0]
    by_cases a12 : (evA t i).f2 = 12
    · rw [if_pos a12, top _ (by simp [h0, a12])]
    · rw [if_neg a12, top _ (by simp [h0, a12])]
structure MarksOk (j i : Nat) (m : List Int) : Prop where
  len : m.length = t.length
  yes : ∀ a, i ≤ a → a < j → Reach (dirR c t) a j → m.getD a 0 = 1
  no : ∀ a, ¬ (i ≤ a ∧ a < j ∧ Reach (dirR c t) a j) → m.getD a 0 = 0
theorem getD_set1 (m : List Int) (i a : Nat) (hi : i < m.length) : (m.set i 1).getD a 0 = if i = a then 1 else m.getD a 0 := by
  simp only [List.getD_eq_getElem?_getD, List.getElem?_set]
  by_cases h : i = a
  · subst h; simp [hi]
  · simp [h]
theorem marks_inner (hl : t.length ≤ 1000000000) (i j : Nat) (hij : i < j) (hj : j < t.length) (K0 : Nat) (hK0 : t.length + 20 ≤ K0) (m : List Int) (hm : MarksOk c t j (i + 1) m) : ∀ (d x k : Nat) (mi : List Int), x + d = j → i < x → 2 * d + 4 + K0 ≤ k →
    (mi = m ∨ mi = m.set i 1 ∧ Reach (dirR c t) i j) → (mi = m → ∀ y, i < y → y < x → Reach (dirR c t) y j → dirR c t i y = false) → dirR c t i j = false ∨ mi = m.set i 1 →
    ∃ k' m', K0 ≤ k' ∧ MarksOk c t j i m' ∧ interlockref07_Marks.l1 k t (j : Int) mi (i : Int) (x : Int) a0 a1 a2 c a4 a5 l6 = interlockref07_Marks.l0 k' t (j : Int) m' (wrap64 ((i : Int) - 1)) a0 a1 a2 c a4 a5 l6 := by
  have him : i < m.length := by rw [hm.len]; omega
  have fin : ∀ mi : List Int, (mi = m ∨ mi = m.set i 1 ∧ Reach (dirR c t) i j) → (mi = m → ¬ Reach (dirR c t) i j) → MarksOk c t j i mi := fun mi h1 h2 => by
    rcases h1 with rfl | ⟨rfl, hr⟩
    · refine ⟨hm.len, fun a ha haj hr => ?_, fun a hna => ?_⟩
      · by_cases hai : a = i
        · subst hai; exact absurd hr (h2 rfl)
        · exact hm.yes a (by omega) haj hr
      · refine hm.no a fun hh => hna ⟨by omega, hh.2⟩
    · refine ⟨by rw [List.length_set]; exact hm.len, fun a ha haj hr' => ?_, fun a hna => ?_⟩
      · rw [getD_set1 _ _ _ him]
        by_cases hai : i = a
        · rw [if_pos hai]
        · rw [if_neg hai]; exact hm.yes a (by omega) haj hr'
      · rw [getD_set1 _ _ _ him]
        by_cases hai : i = a
        · subst hai; exact absurd ⟨Nat.le_refl _, hij, hr⟩ hna
        · rw [if_neg hai]; exact hm.no a fun hh => hna ⟨by omega, hh.2⟩
  have z : m.getD i 0 = 0 := hm.no i (by omega)
  intro d
  induction d with
  | zero =>
    intro x k mi hx hix hk h1 h2 h3
    obtain ⟨k, rfl⟩ : ∃ q, k = q + 2 := ⟨k - 2, by omega⟩
    refine ⟨k, mi, by omega, fin mi h1 fun e hr => ?_, ?_⟩
    · subst e
      cases hr with
      | one _ hd =>
        rcases h3 with h3 | h3
        · rw [h3] at hd; cases hd
        · have this : mi.getD i 0 = (mi.set i 1).getD i 0 := congrArg (fun l => l.getD i 0) h3
          rw [getD_set1 _ _ _ him, if_pos rfl, z] at this
          cases this
      | more hy hd hr' =>
        have hlt := hr'.lt
        rw [h2 rfl _ hy (by omega) hr'] at hd
        cases hd
    · rw [interlockref07_Marks.l1, if_neg (by omega), interlockref07_Marks.j4, if_neg (by decide)]
  | succ d ih =>
    intro x k mi hx hix hk h1 h2 h3
    obtain ⟨k, rfl⟩ : ∃ q, k = q + 2 := ⟨k - 2, by omega⟩
    have hml : mi.length = t.length := by
      rcases h1 with rfl | ⟨rfl, _⟩
      · exact hm.len
      · rw [List.length_set]; exact hm.len
    have rdi : ∀ q : Nat, rd mi (q : Int) = mi.getD q 0 := fun q => by unfold rd; rw [Int.toNat_natCast]
    rw [interlockref07_Marks.l1, if_pos (by omega), if_pos (by omega), if_pos (by omega), rdi]
    rcases h1 with h1e | ⟨h1e, hr⟩
    · subst h1e
      rw [z, interlockref07_Marks.j4, if_pos (by decide), if_pos (by omega), if_pos (by omega), rdi]
      have h3' : dirR c t i j = false := by
        rcases h3 with h3 | h3
        · exact h3
        · have this : mi.getD i 0 = (mi.set i 1).getD i 0 := congrArg (fun l => l.getD i 0) h3
          rw [getD_set1 _ _ _ him, if_pos rfl, z] at this
          cases this
      by_cases hx1 : mi.getD x 0 = 1
      · have hrx : Reach (dirR c t) x j := Classical.byContradiction fun hno => by
          rw [hm.no x (fun hh => hno hh.2.2)] at hx1
          cases hx1
        rw [if_pos hx1, direct_eq a0 a1 a2 a4 a5 c l6 t hl i x k hix (by omega) (by omega), Option.bind_some]
        by_cases hd : dirR c t i x = true
        · rw [if_pos hd, if_pos (by omega), if_pos (by omega), Int.toNat_natCast, w1 (by omega)]
          exact ih (x + 1) k _ (by omega) (by omega) (by omega) (.inr ⟨rfl, .more hix hd hrx⟩) (fun e => by
            have this : (mi.set i 1).getD i 0 = mi.getD i 0 := congrArg (fun l => l.getD i 0) e
            rw [getD_set1 _ _ _ him, if_pos rfl, z] at this
            cases this) (.inr rfl)
        · rw [if_neg hd, w1 (by omega)]
          refine ih (x + 1) k mi (by omega) (by omega) (by omega) (.inl rfl) (fun _ y hy hyx hry => ?_) (.inl h3')
          by_cases hyx' : y = x
          · subst hyx'; simpa using hd
          · exact h2 rfl y hy (by omega) hry
      · rw [if_neg hx1, w1 (by omega)]
        refine ih (x + 1) k mi (by omega) (by omega) (by omega) (.inl rfl) (fun _ y hy hyx hry => ?_) (.inl h3')
        by_cases hyx' : y = x
        · subst hyx'
          exact absurd (hm.yes y (by omega) (by omega) hry) hx1
        · exact h2 rfl y hy (by omega) hry
    · have e1 : mi.getD i 0 = 1 := by rw [h1e, getD_set1 _ _ _ him, if_pos rfl]
      refine ⟨k, mi, by omega, fin mi (.inr ⟨h1e, hr⟩) (fun e => by rw [e, z] at e1; cases e1), ?_⟩
      rw [e1, interlockref07_Marks.j4, if_neg (by decide)]
def fuelM (j : Nat) : Nat → Nat
  | 0 => 40
  | i + 1 => fuelM j i + (2 * j + 20)
theorem fuelM_le {j J : Nat} (h : j ≤ J) : ∀ i, fuelM j i ≤ fuelM J i
  | 0 => Nat.le_refl _
  | i + 1 => by have := fuelM_le h i; unfold fuelM; omega
theorem fuelM_up (j : Nat) {i I : Nat} (h : i ≤ I) : fuelM j i ≤ fuelM j I := by
  induction h with
  | refl => exact Nat.le_refl _
  | step _ ih => exact Nat.le_trans ih (Nat.le_add_right _ _)
theorem fuelM_40 (j : Nat) : ∀ i, 40 ≤ fuelM j i
  | 0 => Nat.le_refl _
  | i + 1 => by have := fuelM_40 j i; unfold fuelM; omega
theorem marks_outer (hl : t.length ≤ 1000000000) (j : Nat) (hj : j < t.length) : ∀ (i : Nat) (k : Nat) (m : List Int), i ≤ j → fuelM j i + t.length + 20 ≤ k → MarksOk c t j i m →
    ∃ m', interlockref07_Marks.l0 k t (j : Int) m ((i : Int) - 1) a0 a1 a2 c a4 a5 l6 = some m' ∧ MarksOk c t j 0 m' := by
  intro i
  induction i with
  | zero =>
    intro k m hi hk hm
    obtain ⟨k, rfl⟩ : ∃ q, k = q + 1 := ⟨k - 1, by have := fuelM_40 j 0; omega⟩
    refine ⟨m, ?_, hm⟩
    have e0 : (((0 : Nat) : Int) - 1) = -1 := by omega
    rw [e0, interlockref07_Marks.l0, if_neg (by omega)]
  | succ i ih =>
    intro k m hi hk hm
    obtain ⟨k, rfl⟩ : ∃ q, k = q + 2 := ⟨k - 2, by have := fuelM_40 j (i + 1); omega⟩
    have him : i < m.length := by rw [hm.len]; omega
    have hk' : fuelM j i + (2 * j + 20) + t.length + 20 ≤ k + 2 := hk
    clear hk
    obtain ⟨G, hG⟩ : ∃ G, fuelM j i = G := ⟨_, rfl⟩
    rw [hG] at ih hk'
    have e0 : (((i + 1 : Nat) : Int) - 1) = (i : Int) := by omega
    have ew : wrap64 ((i : Int) - 1) = (i : Int) - 1 := by unfold wrap64; omega
    have rest : ∀ mi : List Int, (mi = m ∨ mi = m.set i 1 ∧ Reach (dirR c t) i j) → dirR c t i j = false ∨ mi = m.set i 1 → ∃ m', interlockref07_Marks.j2 (k + 1) t (j : Int) mi (i : Int) a0 a1 a2 c a4 a5 l6 = some m' ∧ MarksOk c t j 0 m' := fun mi h1 h3 => by
      rw [interlockref07_Marks.j2, w1 (by omega)]
      obtain ⟨k', m', hk1, hm1, e⟩ := marks_inner a0 a1 a2 a4 a5 c l6 t hl i j (by omega) hj (G + t.length + 20) (by omega) m hm (j - (i + 1)) (i + 1) k mi (by omega) (by omega) (by omega) h1 (fun _ y h4 h5 => by omega) h3
      rw [e, ew]
      exact ih k' m' (by omega) hk1 hm1
    rw [e0, interlockref07_Marks.l0, if_pos (by omega), direct_eq a0 a1 a2 a4 a5 c l6 t hl i j (k + 1) (by omega) hj (by omega), Option.bind_some]
    by_cases hd : dirR c t i j = true
    · rw [if_pos hd, if_pos (by omega), if_pos (by omega), Int.toNat_natCast]
      exact rest _ (.inr ⟨rfl, .one (by omega) hd⟩) (.inr rfl)
    · rw [if_neg hd]
      exact rest m (.inl rfl) (.inl (by simpa using hd))
theorem marks_eq (hl : t.length ≤ 1000000000) (j k : Nat) (hj : j < t.length) (hk : fuelM t.length t.length + t.length + 30 ≤ k) : ∃ m, interlockref07_Marks.f k a0 a1 a2 c a4 a5 l6 t (j : Int) = some m ∧ MarksOk c t j 0 m := by
  obtain ⟨k, rfl⟩ : ∃ q, k = q + 1 := ⟨k - 1, by omega⟩
  unfold interlockref07_Marks.f
  rw [if_pos (by omega), if_pos (by omega), Option.bind_some, if_neg (by omega), decide_eq_false (by omega), interlockref07_Marks.j0, if_neg (by decide), show wrap64 ((j : Int) - 1) = (j : Int) - 1 from by unfold wrap64; omega]
  have hmul : fuelM j j ≤ fuelM t.length t.length := Nat.le_trans (fuelM_le (by omega) j) (fuelM_up _ (by omega))
  refine marks_outer a0 a1 a2 a4 a5 c l6 t hl j hj j k _ (Nat.le_refl _) (by omega) ⟨by simp, fun a h1 h2 => by omega, fun a _ => ?_⟩
  rw [List.getD_eq_getElem?_getD, List.getElem?_replicate]
  split <;> rfl
end
theorem rounds_up {α : Type} {f : Nat → Option α} (hm : ∀ k, LeO (f k) (f (k + 1))) {k : Nat} {r : α} (h : f k = some r) : ∀ d, f (k + d) = some r
  | 0 => h
  | d + 1 => hm (k + d) r (rounds_up hm h d)
theorem rounds_eq {α : Type} {f : Nat → Option α} (hm : ∀ k, LeO (f k) (f (k + 1))) {k K : Nat} {r s : α} (h : f k = some r) (hK : ∀ k, K ≤ k → f k = some s) : r = s := by
  have h1 := rounds_up hm h K
  rw [hK (k + K) (by omega)] at h1
  exact (Option.some.inj h1).symm
section
variable {a0 a1 a2 a4 a5 b0 b1 b2 b4 b5 : Int} {c : List Int} {l6 m6 : List (List S34)} {t : List Ev}
theorem rdirect_int (hl : t.length ≤ 1000000000) (i j : Int) : ∀ k, t.length + 20 ≤ k → interlockref07_Direct.f k a0 a1 a2 c a4 a5 l6 t i j = some (directI c t i j) := fun k hk => by
  unfold directI
  have out : thereB t i j = false → interlockref07_Direct.f k a0 a1 a2 c a4 a5 l6 t i j = some (thereB t i j && dirB c t i.toNat j.toNat) := fun h => by
    rw [h, Bool.false_and]
    obtain ⟨k, rfl⟩ : ∃ m, k = m + 1 := ⟨k - 1, by omega⟩
    unfold interlockref07_Direct.f
    unfold thereB at h
    by_cases h1 : i < 0
    · rw [if_pos h1, interlockref07_Direct.j0, if_pos rfl]
    · rw [if_neg h1]
      by_cases h2 : i ≥ j
      · rw [if_pos h2, interlockref07_Direct.j0, if_pos rfl]
      · rw [if_neg h2]
        by_cases h3 : j ≥ (t.length : Int)
        · rw [decide_eq_true h3, interlockref07_Direct.j0, if_pos rfl]
        · rw [decide_eq_true (by omega : 0 ≤ i), decide_eq_true (by omega : i < j), decide_eq_true (by omega : j < (t.length : Int))] at h
          cases h
  cases h : thereB t i j with
  | false => rw [out h, h]
  | true =>
    unfold thereB at h
    rw [Bool.and_eq_true, Bool.and_eq_true, decide_eq_true_iff, decide_eq_true_iff, decide_eq_true_iff] at h
    obtain ⟨⟨h1, h2⟩, h3⟩ := h
    obtain ⟨i, rfl⟩ := Int.eq_ofNat_of_zero_le h1
    obtain ⟨j, rfl⟩ := Int.eq_ofNat_of_zero_le (a := j) (by omega)
    rw [direct_eq a0 a1 a2 a4 a5 c l6 t hl i j k (by omega) (by omega) (by omega), Int.toNat_natCast, Int.toNat_natCast, Bool.true_and, dirB_eq c t (by omega) (by omega)]
theorem reach_same {i j : Nat} (hj : j < t.length) : Reach (dirB c t) i j ↔ Reach (dirR c t) i j :=
  ⟨fun h => h.congr (fun a b h1 h2 => dirB_eq c t h1 (by omega)) (Nat.le_refl _), fun h => h.congr (fun a b h1 h2 => (dirB_eq c t h1 (by omega)).symm) (Nat.le_refl _)⟩
theorem rbefore_int (hl : t.length ≤ 1000000000) (i j : Int) : ∀ k, fuelM t.length t.length + t.length + 40 ≤ k → interlockref07_Before.f k a0 a1 a2 c a4 a5 l6 t i j = some (beforeI c t i j) := fun k hk => by
  unfold interlockref07_Before.f beforeI
  by_cases h1 : i < 0
  · rw [if_pos h1, show thereB t i j = false from by unfold thereB; rw [decide_eq_false (by omega)]; rfl, Bool.false_and]
  · rw [if_neg h1]
    by_cases h2 : i ≥ j
    · rw [if_pos h2, show thereB t i j = false from by unfold thereB; rw [decide_eq_false (show ¬ i < j by omega), Bool.and_false]; rfl, Bool.false_and]
    · rw [if_neg h2]
      by_cases h3 : j ≥ (t.length : Int)
      · rw [if_pos h3, show thereB t i j = false from by unfold thereB; rw [decide_eq_false (show ¬ j < (t.length : Int) by omega), Bool.and_false], Bool.false_and]
      · rw [if_neg h3, show thereB t i j = true from by unfold thereB; rw [decide_eq_true (show 0 ≤ i by omega), decide_eq_true (show i < j by omega), decide_eq_true (show j < (t.length : Int) by omega)]; rfl, Bool.true_and]
        obtain ⟨i, rfl⟩ := Int.eq_ofNat_of_zero_le (a := i) (by omega)
        obtain ⟨j, rfl⟩ := Int.eq_ofNat_of_zero_le (a := j) (by omega)
        obtain ⟨m, hm1, hm2⟩ := marks_eq a0 a1 a2 a4 a5 c l6 t hl j k (by omega) (by omega)
        rw [hm1, Option.bind_some, if_pos (by omega), if_pos (by rw [hm2.len]; omega), show rd m ((i : Nat) : Int) = m.getD i 0 from by unfold rd; rw [Int.toNat_natCast], Int.toNat_natCast, Int.toNat_natCast]
        have hmk := (marks_reach (dirB c t) (show j < t.length by omega)).2.2 i
        congr 1
        by_cases hr : Reach (dirR c t) i j
        · rw [hm2.yes i (by omega) (by omega) hr, hmk.2 ((reach_same (by omega)).2 hr)]; rfl
        · rw [hm2.no i (fun h => hr h.2.2)]
          cases h : (marks (dirB c t) t.length j).getD i false with
          | false => rfl
          | true => exact absurd ((reach_same (by omega)).1 (hmk.1 h)) hr
theorem past_loop (m : List Int) (b : List Bool) (hlen : m.length = b.length) (hmb : ∀ a, m.getD a 0 = if b.getD a false = true then 1 else 0) (hl : m.length ≤ 1000000000) (K0 : Nat) : ∀ (d i k : Nat) (out : List Int), i + d = m.length → d + 1 ≤ k → out.length ≤ i →
    interlockref07_Past.l0 k out m (i : Int) = some (out ++ marked (b.drop i) i)
  | 0, i, k, out, hi, hk, ho => by
    obtain ⟨k, rfl⟩ : ∃ q, k = q + 1 := ⟨k - 1, by omega⟩
    rw [interlockref07_Past.l0, if_neg (by omega), List.drop_eq_nil_of_le (by omega), marked, List.append_nil]
  | d + 1, i, k, out, hi, hk, ho => by
    obtain ⟨k, rfl⟩ : ∃ q, k = q + 1 := ⟨k - 1, by omega⟩
    rw [interlockref07_Past.l0, if_pos (by omega), if_pos (by omega), show rd m ((i : Nat) : Int) = m.getD i 0 from by unfold rd; rw [Int.toNat_natCast], w1 (by omega), marked_drop b i (by omega), hmb i]
    by_cases hb : b.getD i false = true
    · rw [if_pos hb, if_pos rfl, if_pos hb, if_pos (by omega), past_loop m b hlen hmb hl K0 d (i + 1) k (out ++ [(i : Int)]) (by omega) (by omega) (by rw [List.length_append]; simp; omega), List.append_assoc]
      rfl
    · rw [if_neg hb, if_neg (by decide), if_neg hb, past_loop m b hlen hmb hl K0 d (i + 1) k out (by omega) (by omega) (by omega)]
theorem rpast_int (hl : t.length ≤ 1000000000) (j : Int) : ∀ k, fuelM t.length t.length + 2 * t.length + 60 ≤ k → interlockref07_Past.f k a0 a1 a2 c a4 a5 l6 t j = some (pastI c t j) := fun k hk => by
  unfold interlockref07_Past.f pastI
  by_cases hj : j < 0 ∨ (t.length : Int) ≤ j
  · have hz : interlockref07_Marks.f k a0 a1 a2 c a4 a5 l6 t j = some (List.replicate t.length 0) := by
      obtain ⟨k, rfl⟩ : ∃ q, k = q + 1 := ⟨k - 1, by omega⟩
      unfold interlockref07_Marks.f
      rw [if_pos (by omega), if_pos (by omega), Option.bind_some, Int.toNat_natCast]
      by_cases h1 : j < 0
      · rw [if_pos h1, interlockref07_Marks.j0, if_pos rfl]
      · rw [if_neg h1, decide_eq_true (show j ≥ (t.length : Int) by omega), interlockref07_Marks.j0, if_pos rfl]
    have e : (decide (j < 0) || decide ((t.length : Int) ≤ j)) = true := by rw [Bool.or_eq_true, decide_eq_true_iff, decide_eq_true_iff]; exact hj
    rw [hz, Option.bind_some, if_pos e]
    have h := past_loop (List.replicate t.length 0) (List.replicate t.length false) (by simp) (fun a => by simp [List.getElem?_replicate]; split <;> rfl) (by simpa using hl) 0 t.length 0 k [] (by simp) (by omega) (by simp)
    rw [show ((0 : Nat) : Int) = 0 from rfl] at h
    refine Eq.trans h ?_
    rw [List.nil_append, List.drop_zero]
    congr 1
    have mf : ∀ (n i : Nat), marked (List.replicate n false) i = [] := fun n => by
      induction n with
      | zero => intro i; rfl
      | succ n ih => intro i; rw [List.replicate_succ, marked, if_neg (by decide), ih]
    exact mf _ _
  · have e : (decide (j < 0) || decide ((t.length : Int) ≤ j)) = false := by rw [Bool.or_eq_false_iff, decide_eq_false_iff_not, decide_eq_false_iff_not]; omega
    obtain ⟨j, rfl⟩ := Int.eq_ofNat_of_zero_le (a := j) (by omega)
    obtain ⟨m, hm1, hm2⟩ := marks_eq a0 a1 a2 a4 a5 c l6 t hl j k (by omega) (by omega)
    obtain ⟨_, hb1, hb2⟩ := marks_reach (dirB c t) (show j < t.length by omega)
    rw [hm1, Option.bind_some, e, if_neg (by decide), Int.toNat_natCast]
    have hmb : ∀ a, m.getD a 0 = if (marks (dirB c t) t.length j).getD a false = true then 1 else 0 := fun a => by
      by_cases hr : Reach (dirR c t) a j
      · have := hr.lt
        rw [hm2.yes a (by omega) (by omega) hr, if_pos ((hb2 a).2 ((reach_same (by omega)).2 hr))]
      · rw [hm2.no a (fun h => hr h.2.2), if_neg (fun h => hr ((reach_same (by omega)).1 ((hb2 a).1 h)))]
    have h := past_loop m (marks (dirB c t) t.length j) (by rw [hm2.len, hb1]) hmb (by rw [hm2.len]; exact hl) 0 t.length 0 k [] (by rw [hm2.len]; omega) (by omega) (by simp)
    rw [show ((0 : Nat) : Int) = 0 from rfl] at h
    refine Eq.trans h ?_
    rw [List.nil_append, List.drop_zero]
theorem agreeD {i j : Int} {x y : Bool} {k : Nat} (h1 : order_Direct.f b0 b1 b2 c b4 b5 m6 t i j = some x) (h2 : interlockref07_Direct.f k a0 a1 a2 c a4 a5 l6 t i j = some y) : (x == y) = true := by
  unfold order_Direct.f at h1
  split at h1
  · rename_i hl
    have e := rounds_eq (fun k => interlockref07_Direct.mono a0 a1 a2 c a4 a5 l6 t i j k) h2 (rdirect_int (by omega) i j)
    rw [e, ← Option.some.inj h1]
    simp
  · cases h1
theorem agreeB {i j : Int} {x y : Bool} {k : Nat} (h1 : order_Before.f b0 b1 b2 c b4 b5 m6 t i j = some x) (h2 : interlockref07_Before.f k a0 a1 a2 c a4 a5 l6 t i j = some y) : (x == y) = true := by
  unfold order_Before.f at h1
  split at h1
  · rename_i hl
    have e := rounds_eq (fun k => interlockref07_Before.mono a0 a1 a2 c a4 a5 l6 t i j k) h2 (rbefore_int (by omega) i j)
    rw [e, ← Option.some.inj h1]
    simp
  · cases h1
theorem agreeP {j : Int} {x y : List Int} {k : Nat} (h1 : order_Past.f b0 b1 b2 c b4 b5 m6 t j = some x) (h2 : interlockref07_Past.f k a0 a1 a2 c a4 a5 l6 t j = some y) : x = y := by
  unfold order_Past.f at h1
  split at h1
  · rename_i hl
    have e := rounds_eq (fun k => interlockref07_Past.mono a0 a1 a2 c a4 a5 l6 t j k) h2 (rpast_int (by omega) j)
    rw [e]
    exact (Option.some.inj h1).symm
  · cases h1
end
theorem same_any (l : List Int) : ∀ (k : Nat) (i : Int) (r : Bool), interlocklaw07_same.l0 k l l i = some r → r = true
  | 0, i, r, h => by simp [interlocklaw07_same.l0] at h
  | k + 1, i, r, h => by
    rw [interlocklaw07_same.l0] at h
    split at h
    · split at h
      · split at h
        · exact same_any l k _ r h
        · rename_i hne
          exact absurd rfl hne
      · cases h
    · exact (Option.some.inj h).symm
theorem same_true {l : List Int} {k : Nat} {r : Bool} (h : interlocklaw07_same.f k l l = some r) : r = true := by
  unfold interlocklaw07_same.f at h
  rw [if_pos rfl] at h
  exact same_any l k _ r h
theorem same_agree {x y : List Int} {k : Nat} {r : Bool} (e : x = y) (h : interlocklaw07_same.f k x y = some r) : r = true := by
  subst e
  exact same_true h
theorem tells_any (a0 a1 a2 : Int) (c : List Int) (a4 a5 : Int) (l6 : List (List (S34))) (t : List (S24)) : ∀ (k : Nat) (i : Int) (r : Bool), interlocklaw07_tells.l0 k t i a0 a1 a2 c a4 a5 l6 = some r → r = true
  | 0, i, r, h => by simp [interlocklaw07_tells.l0] at h
  | k + 1, i, r, h => by
    rw [interlocklaw07_tells.l0] at h
    split at h
    · obtain ⟨p, hp, h⟩ := Option.bind_eq_some_iff.mp h
      obtain ⟨q, hq, h⟩ := Option.bind_eq_some_iff.mp h
      obtain ⟨s, hs, h⟩ := Option.bind_eq_some_iff.mp h
      rw [if_pos (same_agree (agreeP hq hp) hs)] at h
      exact tells_any a0 a1 a2 c a4 a5 l6 t k _ r h
    · exact (Option.some.inj h).symm
theorem tells_true {a0 a1 a2 : Int} {c : List Int} {a4 a5 : Int} {l6 : List (List (S34))} {t : List (S24)} {k : Nat} {r : Bool} (h : interlocklaw07_tells.f k a0 a1 a2 c a4 a5 l6 t = some r) : r = true := by
  unfold interlocklaw07_tells.f at h
  exact tells_any _ _ _ _ _ _ _ _ _ _ _ h
end Go.Proofs.Ytojkeabecjlaeaa.P
