/- ClockTells: all calls of any clocks are what the chapter says: for every input. -/
import Derived.Test.YtlagfbkkcpgccaaPx5
import Derived.Test.YtlagfbkkcpgccaaPureC
namespace Go.Proofs.Ytlagfbkkcpgccaa.Pure
open Go.RowKit Go.Proofs.Ytlagfbkkcpgccaa.P Go.Proofs.YtlagfbkkcpgccaaW.PrintWords Go.Proofs.YtlagfbkkcpgccaaW.PrintLast Go.Proofs.YtlagfbkkcpgccaaW.PrintMore

theorem rat_eq (l : List Int) (i : Int) : interlockref06_At.f l i = some (cAt l i) := at_eq l i
theorem rjoin_loop (a b : List Int) (hn : ln a b < 17592186044416) (d : Nat) : ∀ (k i : Nat) (x : List Int), i ≤ ln a b → ln a b - i = d → d < k → x = (byF mx a b).take i →
    interlockref06_Join.l0 k a b x i = some (byF mx a b) := by
  induction d with
  | zero =>
    intro k i x hi hd hk hx
    obtain ⟨k, rfl⟩ : ∃ m, k = m + 1 := ⟨k - 1, by omega⟩
    simp only [interlockref06_Join.l0]
    rw [mx_len, if_neg (by omega), hx, List.take_of_length_le (by rw [byF_length]; omega)]
  | succ d ih =>
    intro k i x hi hd hk hx
    obtain ⟨k, rfl⟩ : ∃ m, k = m + 1 := ⟨k - 1, by omega⟩
    simp only [interlockref06_Join.l0]
    have hxl : x.length ≤ i := by rw [hx]; exact List.length_take_le _ _
    rw [mx_len, if_pos (by omega), rat_eq, bs, rat_eq, bs, if_pos (by omega), wrap_up (n := ln a b) (by omega) (by omega)]
    refine ih k (i + 1) _ (by omega) (by omega) (by omega) ?_
    have hlt : i < (byF mx a b).length := by rw [byF_length]; omega
    have := byF_at mx a b i (by omega)
    rw [List.getD_eq_getElem?_getD, List.getElem?_eq_getElem hlt] at this
    rw [hx, List.take_succ_eq_append_getElem hlt, ← this]
    rfl
theorem rjoin_eq (a b : List Int) (k : Nat) (hn : ln a b < 17592186044416) (hk : ln a b < k) : interlockref06_Join.f k a b = some (byF mx a b) :=
  rjoin_loop a b hn (ln a b) k 0 [] (by omega) (by omega) hk (by simp)
theorem rwithin_loop (a b : List Int) (hn : ln a b < 17592186044416) (d : Nat) : ∀ (k i : Nat), i ≤ ln a b → ln a b - i = d → d < k →
    ∃ r, interlockref06_Within.l0 k a b i = some r ∧ (r = true ↔ ∀ j : Nat, i ≤ j → j < ln a b → cAt a j ≤ cAt b j) := by
  induction d with
  | zero =>
    intro k i hi hd hk
    obtain ⟨k, rfl⟩ : ∃ m, k = m + 1 := ⟨k - 1, by omega⟩
    simp only [interlockref06_Within.l0]
    rw [mx_len, if_neg (by omega)]
    exact ⟨true, rfl, fun _ j h1 h2 => by omega, fun _ => rfl⟩
  | succ d ih =>
    intro k i hi hd hk
    obtain ⟨k, rfl⟩ : ∃ m, k = m + 1 := ⟨k - 1, by omega⟩
    simp only [interlockref06_Within.l0]
    rw [mx_len, if_pos (by omega), rat_eq, bs, rat_eq, bs]
    by_cases hg : cAt a i > cAt b i
    · rw [if_pos hg]
      refine ⟨false, rfl, ⟨(fun h => by cases h), fun h => ?_⟩⟩
      have := h i (Nat.le_refl _) (by omega)
      omega
    · rw [if_neg hg, wrap_up (n := ln a b) (by omega) (by omega)]
      obtain ⟨r, hr, he⟩ := ih k (i + 1) (by omega) (by omega) (by omega)
      refine ⟨r, hr, he.trans ⟨fun h j h1 h2 => ?_, fun h j h1 h2 => h j (by omega) h2⟩⟩
      rcases Nat.lt_or_ge i j with h3 | h3
      · exact h j h3 h2
      · obtain rfl : i = j := by omega
        omega
theorem rwithin_eq (a b : List Int) (k : Nat) (hn : ln a b < 17592186044416) (hk : ln a b < k) : interlockref06_Within.f k a b = some (within a b) := by
  obtain ⟨r, hr, he⟩ := rwithin_loop a b hn (ln a b) k 0 (by omega) (by omega) hk
  have hr' : interlockref06_Within.l0 k a b 0 = some r := hr
  unfold interlockref06_Within.f
  rw [hr']
  congr 1
  apply bool_iff
  rw [he, within_iff]
  constructor
  · intro h i
    by_cases hi : i < ln a b
    · exact h i (by omega) hi
    · unfold ln at hi
      rw [cAt_far a i (by omega), cAt_far b i (by omega)]
      omega
  · intro h i _ _
    exact h i
theorem rsame_eq (a b : List Int) (k : Nat) (hn : ln a b < 17592186044416) (hk : ln a b < k) : interlockref06_Same.f k a b = some (sameB a b) := by
  unfold interlockref06_Same.f sameB
  rw [rwithin_eq a b k hn hk, bs]
  cases within a b with
  | true =>
    rw [if_pos rfl, rwithin_eq b a k (by rw [ln_comm]; exact hn) (by rw [ln_comm]; exact hk), bs]
    rfl
  | false => rfl
/-- What the document's Tick puts at a place. -/
def rv (a : List Int) (i : Int) (j : Nat) : Int := if (j : Int) = i ∧ i < 64 then wrap64 (cAt a j + 1) else cAt a j
theorem rtick_loop (a : List Int) (i : Int) (n : Nat) (hn : n < 17592186044416) (d : Nat) : ∀ (k j : Nat) (x : List Int), j ≤ n → n - j = d → d < k → x = (List.range j).map (rv a i) →
    interlockref06_Tick.l0 k a i n x j = some ((List.range n).map (rv a i)) := by
  induction d with
  | zero =>
    intro k j x hi hd hk hx
    obtain ⟨k, rfl⟩ : ∃ m, k = m + 1 := ⟨k - 1, by omega⟩
    obtain rfl : j = n := by omega
    simp only [interlockref06_Tick.l0]
    rw [if_neg (by omega), hx]
  | succ d ih =>
    intro k j x hi hd hk hx
    obtain ⟨k, rfl⟩ : ∃ m, k = m + 1 := ⟨k - 1, by omega⟩
    simp only [interlockref06_Tick.l0]
    have hxl : x.length = j := by rw [hx]; simp
    rw [if_pos (by omega), rat_eq, bs, wrap_up (n := n) (by omega) (by omega)]
    have hnext : ∀ y, y = rv a i j → x ++ [y] = (List.range (j + 1)).map (rv a i) := fun y hy => by rw [hx, hy, List.range_succ, List.map_append]; rfl
    by_cases h1 : (j : Int) = i
    · by_cases h2 : i < 64
      · rw [if_pos h1, if_pos h2, if_pos (by omega)]
        exact ih k (j + 1) _ (by omega) (by omega) (by omega) (hnext _ (by unfold rv; rw [if_pos ⟨h1, h2⟩]))
      · rw [if_pos h1, if_neg h2, if_pos (by omega)]
        exact ih k (j + 1) _ (by omega) (by omega) (by omega) (hnext _ (by unfold rv; rw [if_neg (fun h => h2 h.2)]))
    · rw [if_neg h1, if_pos (by omega)]
      exact ih k (j + 1) _ (by omega) (by omega) (by omega) (hnext _ (by unfold rv; rw [if_neg (fun h => h1 h.1)]))
theorem rtick_at (a : List Int) (i : Int) (n : Nat) (k : Nat) (hn : n < 17592186044416) (hk : n < k) : interlockref06_Tick.j1 (k + 1) a i n = some ((List.range n).map (rv a i)) := by
  simp only [interlockref06_Tick.j1]
  exact rtick_loop a i n hn n k 0 [] (by omega) (by omega) hk rfl
theorem range_getD (f : Nat → Int) (n j : Nat) (h : j < n) : ((List.range n).map f).getD j 0 = f j := by
  rw [List.getD_eq_getElem?_getD, List.getElem?_map, List.getElem?_range h]
  rfl
theorem rtick_eq (a : List Int) (i : Int) (k : Nat) (hn : a.length < 1000) (hk : 2000 < k) : interlockref06_Tick.f (k + 2) a i = some (tickS a i) := by
  unfold interlockref06_Tick.f
  by_cases h0 : i ≥ 0
  · rw [if_pos h0]
    by_cases h1 : i < 64
    · obtain ⟨m, rfl⟩ : ∃ m : Nat, i = m := ⟨i.toNat, by omega⟩
      rw [decide_eq_true h1]
      simp only [interlockref06_Tick.j0]
      rw [if_pos trivial, wrap_up (n := 64) (by omega) (by omega)]
      have : mx (a.length : Int) ((m + 1 : Nat) : Int) = (max a.length (m + 1) : Nat) := by unfold mx; split <;> omega
      rw [this, rtick_at a m _ k (by omega) (by omega)]
      congr 1
      apply list_ext
      · rw [tickS_length a m (by omega)]; simp
      · intro j hj
        have hj' : j < max a.length (m + 1) := by simpa using hj
        rw [range_getD _ _ _ hj', ← cAt_nat, cAt_tick a m (by omega)]
        unfold rv
        by_cases hjm : j = m
        · subst hjm; rw [if_pos ⟨rfl, h1⟩, if_pos rfl]
        · rw [if_neg (by omega), if_neg hjm]
    · rw [decide_eq_false h1]
      simp only [interlockref06_Tick.j0]
      rw [if_neg (by simp), rtick_at a i _ k (by omega) (by omega), tickS_far a i (by omega)]
      congr 1
      apply list_ext
      · simp
      · intro j hj
        have hj' : j < a.length := by simpa using hj
        rw [range_getD _ _ _ hj']
        unfold rv
        rw [if_neg (by omega), cAt_nat]
  · rw [if_neg h0]
    simp only [interlockref06_Tick.j0]
    rw [if_neg (by simp), rtick_at a i _ k (by omega) (by omega), tickS_far a i (by omega)]
    congr 1
    apply list_ext
    · simp
    · intro j hj
      have hj' : j < a.length := by simpa using hj
      rw [range_getD _ _ _ hj']
      unfold rv
      rw [if_neg (by omega), cAt_nat]
theorem tells_eq (k : Nat) (a b : List Int) (i : Int) (ha : a.length ≤ 500) (hb : b.length ≤ 500) (hk : 9000 ≤ k) : interlocklaw06_tells.f (k + 2) a b i = some true := by
  unfold interlocklaw06_tells.f
  have l1 : (byF mx a b).length ≤ 1000 := by rw [byF_length]; unfold ln; omega
  have l2 := tickS_le a i
  have l3 : ln a b ≤ 1000 := by unfold ln; omega
  rw [join_eq _ _ _ (by omega) (by omega), bs, rjoin_eq _ _ _ (by omega) (by omega), bs, alike _ _ (by omega) (by omega), bs, if_pos rfl, tick_eq _ _ _ (by omega) (by omega), bs, rtick_eq _ _ _ (by omega) (by omega), bs, alike _ _ (by omega) (by omega), bs, if_pos rfl]
  rw [within_eq _ _ _ (by omega) (by omega), bs, rwithin_eq _ _ _ (by omega) (by omega), bs, if_pos (by simp), same_eq _ _ _ (by omega) (by omega), bs, rsame_eq _ _ _ (by omega) (by omega), bs, if_pos (by simp), at_eq, bs, rat_eq, bs]
  simp
theorem ClockTells : interlocklaw06_ClockTells.Pure := by
  intro l0 l1 l2 l3 a4 a5 _ hb0 hw0 _ hb1 hw1 _ hb2 hw2 _ hb3 hw3 ha4 ha5
  refine ⟨10000, ?_⟩
  unfold interlocklaw06_ClockTells.f
  have hwr : wrap64 (wrap64 (wrap64 ((l0.length : Int) + (l1.length : Int)) + (l2.length : Int)) + (l3.length : Int)) = (l0.length : Int) + (l1.length : Int) + (l2.length : Int) + (l3.length : Int) := by unfold wrap64; omega
  rw [hwr]
  by_cases hg : (l0.length : Int) + (l1.length : Int) + (l2.length : Int) + (l3.length : Int) > 400
  · rw [if_pos hg]
    simp only [interlocklaw06_ClockTells.j0]
    rw [if_pos trivial, known_eq _ (by omega), bs]
  · rw [if_neg hg, known_eq _ (by omega)]
    simp only [bs, Bool.not_true]
    simp only [interlocklaw06_ClockTells.j0]
    have e2 := nearS_length l2
    have e3 := nearS_length l3
    rw [if_neg (by simp), tells_eq 9997 l0 l1 a4 (by omega) (by omega) (by omega), bs, if_pos rfl, near_eq l2 9999 (by omega) (by omega), bs, near_eq l3 9999 (by omega) (by omega), bs, tells_eq 9997 _ _ _ (by omega) (by omega) (by omega), bs]
end Go.Proofs.Ytlagfbkkcpgccaa.Pure
