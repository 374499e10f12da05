/- Clocks, plainly: At, Join and Tick. -/
import Derived.Test.YtblnimopffhocaaCx1
namespace Go.Proofs.Ytblnimopffhocaa.C
open Go.RowKit Go.Proofs.YtblnimopffhocaaW.PrintWords Go.Proofs.YtblnimopffhocaaW.PrintLast Go.Proofs.YtblnimopffhocaaW.PrintMore
set_option linter.unusedVariables false
def cAt (l : List Int) (i : Int) : Int := if i < 0 then 0 else l.getD i.toNat 0
def ln (a b : List Int) : Nat := max a.length b.length
def byF (h : Int → Int → Int) (a b : List Int) : List Int := (List.range (ln a b)).map fun (i : Nat) => h (cAt a i) (cAt b i)
theorem wrap_up {i n : Nat} (h : i < n) (hn : n ≤ 140737488351232) : wrap64 ((i : Int) + 1) = ((i + 1 : Nat) : Int) := by
  unfold wrap64
  omega
theorem rd_nat (l : List Int) (i : Nat) : rd l (i : Int) = l.getD i 0 := rfl
theorem at_eq (l : List Int) (i : Int) : clock_At.f l i = some (cAt l i) := by
  unfold clock_At.f cAt rd
  by_cases h0 : i < 0
  · rw [if_pos h0, if_pos h0]
  · rw [if_neg h0, if_neg h0]
    by_cases h1 : i ≥ (l.length : Int)
    · rw [if_pos h1, List.getD_eq_getElem?_getD, List.getElem?_eq_none (by omega)]; rfl
    · rw [if_neg h1, if_pos (by omega), if_pos (by omega)]
theorem cAt_nat (l : List Int) (i : Nat) : cAt l (i : Int) = l.getD i 0 := by
  unfold cAt
  rw [if_neg (by omega)]
  rfl
theorem cAt_far (l : List Int) (i : Nat) (h : l.length ≤ i) : cAt l (i : Int) = 0 := by
  rw [cAt_nat, List.getD_eq_getElem?_getD, List.getElem?_eq_none h]; rfl
theorem byF_length (h : Int → Int → Int) (a b : List Int) : (byF h a b).length = ln a b := by simp [byF]
theorem byF_at (h : Int → Int → Int) (a b : List Int) (i : Nat) (hi : i < ln a b) : (byF h a b).getD i 0 = h (cAt a i) (cAt b i) := by
  unfold byF
  rw [List.getD_eq_getElem?_getD, List.getElem?_map, List.getElem?_range hi]
  rfl
theorem cAt_byF (h : Int → Int → Int) (h0 : h 0 0 = 0) (a b : List Int) (i : Nat) : cAt (byF h a b) i = h (cAt a i) (cAt b i) := by
  by_cases hi : i < ln a b
  · rw [cAt_nat, byF_at h a b i hi]
  · have : ln a b ≤ i := by omega
    have hm := this
    unfold ln at hm
    rw [cAt_far _ _ (by rw [byF_length]; omega), cAt_far a i (by omega), cAt_far b i (by omega), h0]
theorem mx_len (a b : List Int) : mx (a.length : Int) (b.length : Int) = (ln a b : Nat) := by
  unfold mx ln
  split <;> omega
theorem list_ext (a b : List Int) (hl : a.length = b.length) (h : ∀ i : Nat, i < a.length → a.getD i 0 = b.getD i 0) : a = b := by
  apply List.ext_getElem hl
  intro i h1 h2
  have := h i h1
  rw [List.getD_eq_getElem?_getD, List.getD_eq_getElem?_getD, List.getElem?_eq_getElem h1, List.getElem?_eq_getElem h2] at this
  exact this
theorem by_loop (L : Nat → List Int → List Int → List Int → Int → Int → Option (List Int)) (g : Int → Int → Option Int) (G : Int → Int → Int) (hg : ∀ a b, g a b = some (G a b))
    (hL : ∀ k x0 x1 x7 x16 x17, L (k + 1) x0 x1 x7 x16 x17 = if x17 < x16 then ((clock_At.f x0 x17).bind fun t107 => ((clock_At.f x1 x17).bind fun t108 => ((g t107 t108).bind fun t109 => (if 0 ≤ x17 then (if x17 < (x7.length : Int) then (L k x0 x1 (x7.set (x17 : Int).toNat t109) x16 (wrap64 (x17 + 1))) else (none)) else (none))))) else (some x7))
    (a b : List Int) (n : Nat) (hn : n ≤ 140737488351232) (d : Nat) : ∀ (k i : Nat) (x : List Int), i ≤ n → n - i = d → d < k → x.length = n →
    ∃ r, L k a b x n i = some r ∧ r.length = n ∧ ∀ j : Nat, j < n → r.getD j 0 = if j < i then x.getD j 0 else G (cAt a j) (cAt b j) := by
  induction d with
  | zero =>
    intro k i x hi hd hk hx
    obtain ⟨k, rfl⟩ : ∃ m, k = m + 1 := ⟨k - 1, by omega⟩
    refine ⟨x, by rw [hL, if_neg (by omega)], hx, fun j hj => ?_⟩
    rw [if_pos (by omega)]
  | succ d ih =>
    intro k i x hi hd hk hx
    obtain ⟨k, rfl⟩ : ∃ m, k = m + 1 := ⟨k - 1, by omega⟩
    obtain ⟨r, hr, hl, hj⟩ := ih k (i + 1) (x.set i (G (cAt a i) (cAt b i))) (by omega) (by omega) (by omega) (by simpa using hx)
    refine ⟨r, ?_, hl, fun j hjn => ?_⟩
    · rw [hL, if_pos (by omega), at_eq, at_eq]
      simp only [Option.bind_some]
      rw [hg]
      simp only [Option.bind_some]
      rw [if_pos (by omega), if_pos (by omega), wrap_up (n := n) (by omega) hn]
      exact hr
    · rw [hj j hjn]
      by_cases h1 : j < i
      · rw [if_pos (by omega), if_pos h1]
        simp only [List.getD_eq_getElem?_getD]
        rw [List.getElem?_set_ne (by omega)]
      · rw [if_neg h1]
        by_cases h2 : j = i
        · subst h2
          rw [if_pos (by omega), List.getD_eq_getElem?_getD, List.getElem?_set_self (by omega)]
          rfl
        · rw [if_neg (by omega)]
theorem by_eq (L : Nat → List Int → List Int → List Int → Int → Int → Option (List Int)) (g : Int → Int → Option Int) (G : Int → Int → Int) (hg : ∀ a b, g a b = some (G a b))
    (hL : ∀ k x0 x1 x7 x16 x17, L (k + 1) x0 x1 x7 x16 x17 = if x17 < x16 then ((clock_At.f x0 x17).bind fun t107 => ((clock_At.f x1 x17).bind fun t108 => ((g t107 t108).bind fun t109 => (if 0 ≤ x17 then (if x17 < (x7.length : Int) then (L k x0 x1 (x7.set (x17 : Int).toNat t109) x16 (wrap64 (x17 + 1))) else (none)) else (none))))) else (some x7))
    (a b : List Int) (k : Nat) (hn : ln a b ≤ 35184372088832) (hk : ln a b < k) :
    (if 0 ≤ (mx (a.length : Int) (b.length : Int)) then (if (mx (a.length : Int) (b.length : Int) : Int).toNat ≤ 35184372088832 then ((some (List.replicate (mx (a.length : Int) (b.length : Int) : Int).toNat 0 : List Int)).bind fun y104 => (L k a b y104 (y104.length : Int) 0)) else (none)) else (none)) = some (byF G a b) := by
  rw [mx_len, if_pos (by omega), if_pos (by omega)]
  simp only [Option.bind_some, List.length_replicate]
  obtain ⟨r, hr, hl, hj⟩ := by_loop L g G hg hL a b (ln a b) (by omega) (ln a b) k 0 (List.replicate (ln a b) 0) (by omega) (by omega) hk (by simp)
  have hr' : L k a b (List.replicate (ln a b) 0) ((ln a b : Nat) : Int) 0 = some r := hr
  rw [Int.toNat_natCast, hr']
  congr 1
  apply list_ext
  · rw [hl, byF_length]
  · intro i hi
    rw [hj i (by omega), if_neg (by omega), byF_at _ _ _ _ (by omega)]
theorem by_tick (a b : List Int) (k : Nat) (hn : ln a b ≤ 35184372088832) (hk : ln a b < k) : clock_by_clock_Tick_1.f k a b = some (byF (fun x _ => x) a b) :=
  by_eq clock_by_clock_Tick_1.l0 clock_Tick_1.f (fun x _ => x) (fun a b => rfl) (fun k x0 x1 x7 x16 x17 => by simp only [clock_by_clock_Tick_1.l0]) a b k hn hk
theorem by_join (a b : List Int) (k : Nat) (hn : ln a b ≤ 35184372088832) (hk : ln a b < k) : clock_by_clock_Join_1.f k a b = some (byF mx a b) :=
  by_eq clock_by_clock_Join_1.l0 clock_Join_1.f mx (fun a b => rfl) (fun k x0 x1 x7 x16 x17 => by simp only [clock_by_clock_Join_1.l0]) a b k hn hk
theorem join_eq (a b : List Int) (k : Nat) (hn : ln a b ≤ 35184372088832) (hk : ln a b < k) : clock_Join.f k a b = some (byF mx a b) := by
  unfold clock_Join.f
  rw [by_join a b k hn hk]
  rfl
def tickS (a : List Int) (i : Int) : List Int :=
  if 0 ≤ i ∧ i < 64 then (byF (fun x _ => x) a (List.replicate (i.toNat + 1) 0)).set i.toNat (wrap64 (cAt a i + 1)) else a
theorem tick_eq (a : List Int) (i : Int) (k : Nat) (hn : a.length < 17592186044416) (hk : a.length + 70 < k) : clock_Tick.f k a i = some (tickS a i) := by
  obtain ⟨k, rfl⟩ : ∃ m, k = m + 1 := ⟨k - 1, by omega⟩
  unfold clock_Tick.f tickS
  by_cases h0 : i < 0
  · rw [if_pos h0, if_neg (by omega)]
    simp only [clock_Tick.j0]
    rw [if_pos trivial]
    unfold slices_Clone_int_int.f
    rw [if_pos hn]
    rfl
  · rw [if_neg h0]
    by_cases h1 : i ≥ 64
    · rw [decide_eq_true h1, if_neg (by omega)]
      simp only [clock_Tick.j0]
      rw [if_pos trivial]
      unfold slices_Clone_int_int.f
      rw [if_pos hn]
      rfl
    · rw [decide_eq_false h1, if_pos ⟨by omega, by omega⟩]
      simp only [clock_Tick.j0]
      rw [if_neg (by simp)]
      obtain ⟨n, rfl⟩ : ∃ n : Nat, i = n := ⟨i.toNat, by omega⟩
      rw [wrap_up (n := 64) (by omega) (by omega), if_pos (by omega), if_pos (by omega)]
      have hln : ln a (List.replicate (n + 1) 0) = max a.length (n + 1) := by simp [ln]
      rw [Int.toNat_natCast, Int.toNat_natCast, by_tick a (List.replicate (n + 1) 0) k (by omega) (by omega)]
      simp only [Option.bind_some]
      rw [if_pos (by omega), byF_length, if_pos (by omega), rd_nat, byF_at _ _ _ _ (by omega)]
theorem tickS_length (a : List Int) (n : Nat) (h : n < 64) : (tickS a n).length = max a.length (n + 1) := by
  unfold tickS
  rw [if_pos ⟨by omega, by omega⟩]
  simp [byF_length, ln]
theorem cAt_tick (a : List Int) (n : Nat) (h : n < 64) (j : Nat) : cAt (tickS a n) j = if j = n then wrap64 (cAt a n + 1) else cAt a j := by
  by_cases hj : j = n
  · subst hj
    rw [if_pos rfl, cAt_nat]
    unfold tickS
    rw [if_pos ⟨by omega, by omega⟩, Int.toNat_natCast, List.getD_eq_getElem?_getD, List.getElem?_set_self (by rw [byF_length]; simp [ln]; omega)]
    rfl
  · rw [if_neg hj, ← cAt_byF (fun x _ => x) rfl a (List.replicate (n + 1) 0) j, cAt_nat, cAt_nat]
    unfold tickS
    rw [if_pos ⟨by omega, by omega⟩, Int.toNat_natCast, List.getD_eq_getElem?_getD, List.getElem?_set_ne (by omega), ← List.getD_eq_getElem?_getD]
end Go.Proofs.Ytblnimopffhocaa.C
