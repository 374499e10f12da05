/- The plain laws of clocks: what each function of the package clock, and of its reference, comes to, as numbers and lists alone. -/
import Derived.Test.YtlagfbkkcpgccaaPx2
namespace Go.Proofs.Ytlagfbkkcpgccaa.Pure
open Go.RowKit Go.Proofs.Ytlagfbkkcpgccaa.P Go.Proofs.YtlagfbkkcpgccaaW.PrintWords Go.Proofs.YtlagfbkkcpgccaaW.PrintLast Go.Proofs.YtlagfbkkcpgccaaW.PrintMore
set_option linter.unusedVariables false

/-- What stands at a place. -/
def cAt (l : List Int) (i : Int) : Int := if i < 0 then 0 else l.getD i.toNat 0
/-- As long as the longer one. -/
def ln (a b : List Int) : Nat := max a.length b.length
def byF (h : Int → Int → Int) (a b : List Int) : List Int := (List.range (ln a b)).map fun (i : Nat) => h (cAt a i) (cAt b i)

theorem wrap_up {i n : Nat} (h : i < n) (hn : n ≤ 140737488351232) : wrap64 ((i : Int) + 1) = ((i + 1 : Nat) : Int) := by
  unfold wrap64
  omega
theorem rd_nat (l : List Int) (i : Nat) : rd l (i : Int) = l.getD i 0 := rfl
theorem at_eq (l : List Int) (i : Int) : clock_At.f l i = some (cAt l i) := by
  unfold clock_At.f cAt rd
  by_cases h0 : i < 0
  · rw [if_pos h0, if_pos h0]
  · rw [if_neg h0, if_neg h0]
    by_cases h1 : i ≥ (l.length : Int)
    · rw [if_pos h1, List.getD_eq_getElem?_getD, List.getElem?_eq_none (by omega)]; rfl
    · rw [if_neg h1, if_pos (by omega), if_pos (by omega)]
theorem cAt_nat (l : List Int) (i : Nat) : cAt l (i : Int) = l.getD i 0 := by
  unfold cAt
  rw [if_neg (by omega)]
  rfl
theorem cAt_far (l : List Int) (i : Nat) (h : l.length ≤ i) : cAt l (i : Int) = 0 := by
  rw [cAt_nat, List.getD_eq_getElem?_getD, List.getElem?_eq_none h]; rfl
theorem byF_length (h : Int → Int → Int) (a b : List Int) : (byF h a b).length = ln a b := by simp [byF]
theorem byF_at (h : Int → Int → Int) (a b : List Int) (i : Nat) (hi : i < ln a b) : (byF h a b).getD i 0 = h (cAt a i) (cAt b i) := by
  unfold byF
  rw [List.getD_eq_getElem?_getD, List.getElem?_map, List.getElem?_range hi]
  rfl
theorem cAt_byF (h : Int → Int → Int) (h0 : h 0 0 = 0) (a b : List Int) (i : Nat) : cAt (byF h a b) i = h (cAt a i) (cAt b i) := by
  by_cases hi : i < ln a b
  · rw [cAt_nat, byF_at h a b i hi]
  · have : ln a b ≤ i := by omega
    have hm := this
    unfold ln at hm
    rw [cAt_far _ _ (by rw [byF_length]; omega), cAt_far a i (by omega), cAt_far b i (by omega), h0]
theorem mx_len (a b : List Int) : mx (a.length : Int) (b.length : Int) = (ln a b : Nat) := by
  unfold mx ln
  split <;> omega
theorem list_ext (a b : List Int) (hl : a.length = b.length) (h : ∀ i : Nat, i < a.length → a.getD i 0 = b.getD i 0) : a = b := by
  apply List.ext_getElem hl
  intro i h1 h2
  have := h i h1
  rw [List.getD_eq_getElem?_getD, List.getD_eq_getElem?_getD, List.getElem?_eq_getElem h1, List.getElem?_eq_getElem h2] at this
  exact this

/-- The loop that fills a row, whatever the function is. -/
theorem by_loop (L : Nat → List Int → List Int → List Int → Int → Int → Option (List Int)) (g : Int → Int → Option Int) (G : Int → Int → Int) (hg : ∀ a b, g a b = some (G a b))
    (hL : ∀ k x0 x1 x7 x16 x17, L (k + 1) x0 x1 x7 x16 x17 = if x17 < x16 then ((clock_At.f x0 x17).bind fun t107 => ((clock_At.f x1 x17).bind fun t108 => ((g t107 t108).bind fun t109 => (if 0 ≤ x17 then (if x17 < (x7.length : Int) then (L k x0 x1 (x7.set (x17 : Int).toNat t109) x16 (wrap64 (x17 + 1))) else (none)) else (none))))) else (some x7))
    (a b : List Int) (n : Nat) (hn : n ≤ 140737488351232) (d : Nat) : ∀ (k i : Nat) (x : List Int), i ≤ n → n - i = d → d < k → x.length = n →
    ∃ r, L k a b x n i = some r ∧ r.length = n ∧ ∀ j : Nat, j < n → r.getD j 0 = if j < i then x.getD j 0 else G (cAt a j) (cAt b j) := by
  induction d with
  | zero =>
    intro k i x hi hd hk hx
    obtain ⟨k, rfl⟩ : ∃ m, k = m + 1 := ⟨k - 1, by omega⟩
    refine ⟨x, by rw [hL, if_neg (by omega)], hx, fun j hj => ?_⟩
    rw [if_pos (by omega)]
  | succ d ih =>
    intro k i x hi hd hk hx
    obtain ⟨k, rfl⟩ : ∃ m, k = m + 1 := ⟨k - 1, by omega⟩
    obtain ⟨r, hr, hl, hj⟩ := ih k (i + 1) (x.set i (G (cAt a i) (cAt b i))) (by omega) (by omega) (by omega) (by simpa using hx)
    refine ⟨r, ?_, hl, fun j hjn => ?_⟩
    · rw [hL, if_pos (by omega), at_eq, at_eq]
      simp only [Option.bind_some]
      rw [hg]
      simp only [Option.bind_some]
      rw [if_pos (by omega), if_pos (by omega), wrap_up (n := n) (by omega) hn]
      exact hr
    · rw [hj j hjn]
      by_cases h1 : j < i
      · rw [if_pos (by omega), if_pos h1]
        simp only [List.getD_eq_getElem?_getD]
        rw [List.getElem?_set_ne (by omega)]
      · rw [if_neg h1]
        by_cases h2 : j = i
        · subst h2
          rw [if_pos (by omega), List.getD_eq_getElem?_getD, List.getElem?_set_self (by omega)]
          rfl
        · rw [if_neg (by omega)]
theorem by_eq (L : Nat → List Int → List Int → List Int → Int → Int → Option (List Int)) (g : Int → Int → Option Int) (G : Int → Int → Int) (hg : ∀ a b, g a b = some (G a b))
    (hL : ∀ k x0 x1 x7 x16 x17, L (k + 1) x0 x1 x7 x16 x17 = if x17 < x16 then ((clock_At.f x0 x17).bind fun t107 => ((clock_At.f x1 x17).bind fun t108 => ((g t107 t108).bind fun t109 => (if 0 ≤ x17 then (if x17 < (x7.length : Int) then (L k x0 x1 (x7.set (x17 : Int).toNat t109) x16 (wrap64 (x17 + 1))) else (none)) else (none))))) else (some x7))
    (a b : List Int) (k : Nat) (hn : ln a b ≤ 35184372088832) (hk : ln a b < k) :
    (if 0 ≤ (mx (a.length : Int) (b.length : Int)) then (if (mx (a.length : Int) (b.length : Int) : Int).toNat ≤ 35184372088832 then ((some (List.replicate (mx (a.length : Int) (b.length : Int) : Int).toNat 0 : List Int)).bind fun y104 => (L k a b y104 (y104.length : Int) 0)) else (none)) else (none)) = some (byF G a b) := by
  rw [mx_len, if_pos (by omega), if_pos (by omega)]
  simp only [Option.bind_some, List.length_replicate]
  obtain ⟨r, hr, hl, hj⟩ := by_loop L g G hg hL a b (ln a b) (by omega) (ln a b) k 0 (List.replicate (ln a b) 0) (by omega) (by omega) hk (by simp)
  have hr' : L k a b (List.replicate (ln a b) 0) ((ln a b : Nat) : Int) 0 = some r := hr
  rw [Int.toNat_natCast, hr']
  congr 1
  apply list_ext
  · rw [hl, byF_length]
  · intro i hi
    rw [hj i (by omega), if_neg (by omega), byF_at _ _ _ _ (by omega)]

theorem index_eq (l : List Int) (c : Int) (hn : l.length ≤ 140737488351232) (d : Nat) : ∀ (k i : Nat), i ≤ l.length → l.length - i = d → d < k →
    ∃ r : Int, slices_Index_int_int.l0 k l c (l.length : Int) i = some r ∧ (0 ≤ r ↔ ∃ j : Nat, i ≤ j ∧ j < l.length ∧ l.getD j 0 = c) := by
  induction d with
  | zero =>
    intro k i hi hd hk
    obtain ⟨k, rfl⟩ : ∃ m, k = m + 1 := ⟨k - 1, by omega⟩
    refine ⟨-1, ?_, ?_⟩
    · simp only [slices_Index_int_int.l0]
      rw [if_neg (by omega)]
    · constructor
      · intro h; omega
      · rintro ⟨j, h1, h2, _⟩; omega
  | succ d ih =>
    intro k i hi hd hk
    obtain ⟨k, rfl⟩ : ∃ m, k = m + 1 := ⟨k - 1, by omega⟩
    simp only [slices_Index_int_int.l0]
    rw [if_pos (by omega), if_pos (by omega), if_pos (by omega), rd_nat]
    by_cases hc : c = l.getD i 0
    · rw [if_pos hc]
      exact ⟨i, rfl, fun _ => ⟨i, by omega, by omega, hc.symm⟩, fun _ => by omega⟩
    · rw [if_neg hc, wrap_up (n := l.length) (by omega) hn]
      obtain ⟨r, hr, he⟩ := ih k (i + 1) (by omega) (by omega) (by omega)
      refine ⟨r, hr, he.trans ⟨?_, ?_⟩⟩
      · rintro ⟨j, h1, h2, h3⟩; exact ⟨j, by omega, h2, h3⟩
      · rintro ⟨j, h1, h2, h3⟩
        refine ⟨j, ?_, h2, h3⟩
        rcases Nat.lt_or_ge i j with h | h
        · omega
        · obtain rfl : i = j := by omega
          exact absurd h3.symm hc
theorem contains_eq (l : List Int) (c : Int) (k : Nat) (hn : l.length ≤ 140737488351232) (hk : l.length < k) :
    ∃ b, slices_Contains_int_int.f k l c = some b ∧ (b = true ↔ ∃ j : Nat, j < l.length ∧ l.getD j 0 = c) := by
  obtain ⟨r, hr, he⟩ := index_eq l c hn l.length k 0 (by omega) (by omega) hk
  have hr' : slices_Index_int_int.l0 k l c (l.length : Int) 0 = some r := hr
  refine ⟨decide (r ≥ 0), ?_, ?_⟩
  · unfold slices_Contains_int_int.f slices_Index_int_int.f
    rw [hr']; rfl
  · rw [decide_eq_true_iff]
    refine Iff.trans (show r ≥ 0 ↔ 0 ≤ r from Iff.rfl) (he.trans ⟨?_, ?_⟩)
    · rintro ⟨j, _, h2, h3⟩; exact ⟨j, h2, h3⟩
    · rintro ⟨j, h2, h3⟩; exact ⟨j, by omega, h2, h3⟩

def wG (x y : Int) : Int := if x > y then 1 else 0
def within (a b : List Int) : Bool := (List.range (ln a b)).all fun (i : Nat) => decide (cAt a i ≤ cAt b i)
theorem within_iff (a b : List Int) : within a b = true ↔ ∀ i : Nat, cAt a i ≤ cAt b i := by
  unfold within
  rw [List.all_eq_true]
  constructor
  · intro h i
    by_cases hi : i < ln a b
    · simpa using h i (by simpa using hi)
    · unfold ln at hi
      rw [cAt_far a i (by omega), cAt_far b i (by omega)]
      omega
  · intro h i _
    simpa using h i
theorem by_within (a b : List Int) (k : Nat) (hn : ln a b ≤ 35184372088832) (hk : ln a b < k) : clock_by_clock_Within_1.f k a b = some (byF wG a b) :=
  by_eq clock_by_clock_Within_1.l0 clock_Within_1.f wG (fun a b => by unfold clock_Within_1.f wG; split <;> rfl) (fun k x0 x1 x7 x16 x17 => by simp only [clock_by_clock_Within_1.l0]) a b k hn hk
theorem by_tick (a b : List Int) (k : Nat) (hn : ln a b ≤ 35184372088832) (hk : ln a b < k) : clock_by_clock_Tick_1.f k a b = some (byF (fun x _ => x) a b) :=
  by_eq clock_by_clock_Tick_1.l0 clock_Tick_1.f (fun x _ => x) (fun a b => rfl) (fun k x0 x1 x7 x16 x17 => by simp only [clock_by_clock_Tick_1.l0]) a b k hn hk
theorem by_join (a b : List Int) (k : Nat) (hn : ln a b ≤ 35184372088832) (hk : ln a b < k) : clock_by_clock_Join_1.f k a b = some (byF mx a b) :=
  by_eq clock_by_clock_Join_1.l0 clock_Join_1.f mx (fun a b => rfl) (fun k x0 x1 x7 x16 x17 => by simp only [clock_by_clock_Join_1.l0]) a b k hn hk
theorem within_eq (a b : List Int) (k : Nat) (hn : ln a b ≤ 35184372088832) (hk : ln a b < k) : clock_Within.f k a b = some (within a b) := by
  unfold clock_Within.f
  rw [by_within a b k hn hk]
  simp only [Option.bind_some]
  obtain ⟨c, hc, he⟩ := contains_eq (byF wG a b) 1 k (by rw [byF_length]; omega) (by rw [byF_length]; omega)
  rw [hc]
  simp only [Option.bind_some]
  congr 1
  rw [Bool.eq_iff_iff, Bool.not_eq_true', ← Bool.not_eq_true, he, within_iff]
  constructor
  · intro h i
    by_cases hi : i < ln a b
    · apply Classical.byContradiction
      intro hx
      refine h ⟨i, by rw [byF_length]; exact hi, ?_⟩
      rw [byF_at _ _ _ _ hi]
      unfold wG
      rw [if_pos (by omega)]
    · unfold ln at hi
      rw [cAt_far a i (by omega), cAt_far b i (by omega)]
      omega
  · rintro h ⟨j, h1, h2⟩
    rw [byF_length] at h1
    rw [byF_at _ _ _ _ h1] at h2
    unfold wG at h2
    rw [if_neg (by have := h j; omega)] at h2
    omega
def sameB (a b : List Int) : Bool := within a b && within b a
theorem ln_comm (a b : List Int) : ln a b = ln b a := by unfold ln; omega
theorem same_eq (a b : List Int) (k : Nat) (hn : ln a b ≤ 35184372088832) (hk : ln a b < k) : clock_Same.f k a b = some (sameB a b) := by
  unfold clock_Same.f sameB
  rw [within_eq a b k hn hk]
  simp only [Option.bind_some]
  cases within a b with
  | true =>
    rw [if_pos rfl, within_eq b a k (by rw [ln_comm]; exact hn) (by rw [ln_comm]; exact hk)]
    rfl
  | false => rfl
theorem same_iff (a b : List Int) : sameB a b = true ↔ ∀ i : Nat, cAt a i = cAt b i := by
  unfold sameB
  rw [Bool.and_eq_true, within_iff, within_iff]
  constructor
  · rintro ⟨h1, h2⟩ i
    have := h1 i
    have := h2 i
    omega
  · intro h
    exact ⟨fun i => by rw [h i]; exact Int.le_refl _, fun i => by rw [h i]; exact Int.le_refl _⟩
theorem join_eq (a b : List Int) (k : Nat) (hn : ln a b ≤ 35184372088832) (hk : ln a b < k) : clock_Join.f k a b = some (byF mx a b) := by
  unfold clock_Join.f
  rw [by_join a b k hn hk]
  rfl
end Go.Proofs.Ytlagfbkkcpgccaa.Pure
