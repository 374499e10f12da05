/- The plain laws of clocks, on: Tick, small numbers, the chapter's examples. -/
import Derived.Test.YtlagfbkkcpgccaaPureA
namespace Go.Proofs.Ytlagfbkkcpgccaa.Pure
open Go.RowKit Go.Proofs.Ytlagfbkkcpgccaa.P Go.Proofs.YtlagfbkkcpgccaaW.PrintWords Go.Proofs.YtlagfbkkcpgccaaW.PrintLast Go.Proofs.YtlagfbkkcpgccaaW.PrintMore
set_option linter.unusedVariables false

/-- One more at a place. -/
def tickS (a : List Int) (i : Int) : List Int :=
  if 0 ≤ i ∧ i < 64 then (byF (fun x _ => x) a (List.replicate (i.toNat + 1) 0)).set i.toNat (wrap64 (cAt a i + 1)) else a
theorem tick_eq (a : List Int) (i : Int) (k : Nat) (hn : a.length < 17592186044416) (hk : a.length + 70 < k) : clock_Tick.f k a i = some (tickS a i) := by
  obtain ⟨k, rfl⟩ : ∃ m, k = m + 1 := ⟨k - 1, by omega⟩
  unfold clock_Tick.f tickS
  by_cases h0 : i < 0
  · rw [if_pos h0, if_neg (by omega)]
    simp only [clock_Tick.j0]
    rw [if_pos trivial]
    unfold slices_Clone_int_int.f
    rw [if_pos hn]
    rfl
  · rw [if_neg h0]
    by_cases h1 : i ≥ 64
    · rw [decide_eq_true h1, if_neg (by omega)]
      simp only [clock_Tick.j0]
      rw [if_pos trivial]
      unfold slices_Clone_int_int.f
      rw [if_pos hn]
      rfl
    · rw [decide_eq_false h1, if_pos ⟨by omega, by omega⟩]
      simp only [clock_Tick.j0]
      rw [if_neg (by simp)]
      obtain ⟨n, rfl⟩ : ∃ n : Nat, i = n := ⟨i.toNat, by omega⟩
      rw [wrap_up (n := 64) (by omega) (by omega), if_pos (by omega), if_pos (by omega)]
      have hln : ln a (List.replicate (n + 1) 0) = max a.length (n + 1) := by simp [ln]
      rw [Int.toNat_natCast, Int.toNat_natCast, by_tick a (List.replicate (n + 1) 0) k (by omega) (by omega)]
      simp only [Option.bind_some]
      rw [if_pos (by omega), byF_length, if_pos (by omega), rd_nat, byF_at _ _ _ _ (by omega)]
theorem tickS_far (a : List Int) (i : Int) (h : ¬ (0 ≤ i ∧ i < 64)) : tickS a i = a := by unfold tickS; rw [if_neg h]
theorem tickS_length (a : List Int) (n : Nat) (h : n < 64) : (tickS a n).length = max a.length (n + 1) := by
  unfold tickS
  rw [if_pos ⟨by omega, by omega⟩]
  simp [byF_length, ln]
theorem tickS_le (a : List Int) (i : Int) : (tickS a i).length ≤ a.length + 64 := by
  by_cases h : 0 ≤ i ∧ i < 64
  · obtain ⟨n, rfl⟩ : ∃ n : Nat, i = n := ⟨i.toNat, by omega⟩
    rw [tickS_length a n (by omega)]
    omega
  · rw [tickS_far a i h]
    omega
theorem cAt_tick (a : List Int) (n : Nat) (h : n < 64) (j : Nat) : cAt (tickS a n) j = if j = n then wrap64 (cAt a n + 1) else cAt a j := by
  by_cases hj : j = n
  · subst hj
    rw [if_pos rfl, cAt_nat]
    unfold tickS
    rw [if_pos ⟨by omega, by omega⟩, Int.toNat_natCast, List.getD_eq_getElem?_getD, List.getElem?_set_self (by rw [byF_length]; simp [ln]; omega)]
    rfl
  · rw [if_neg hj, ← cAt_byF (fun x _ => x) rfl a (List.replicate (n + 1) 0) j, cAt_nat, cAt_nat]
    unfold tickS
    rw [if_pos ⟨by omega, by omega⟩, Int.toNat_natCast, List.getD_eq_getElem?_getD, List.getElem?_set_ne (by omega), ← List.getD_eq_getElem?_getD]

/-- Small numbers. -/
def nearS (l : List Int) : List Int := l.map fun x => wrap64 (Int.tmod x 5)
theorem near_loop (l : List Int) (hn : l.length < 17592186044416) (d : Nat) : ∀ (k i : Nat) (x : List Int), i ≤ l.length → l.length - i = d → d < k → x = (nearS l).take i →
    interlocklaw06_near.l0 k l x i = some (nearS l) := by
  induction d with
  | zero =>
    intro k i x hi hd hk hx
    obtain ⟨k, rfl⟩ : ∃ m, k = m + 1 := ⟨k - 1, by omega⟩
    simp only [interlocklaw06_near.l0]
    rw [if_neg (by omega), hx, List.take_of_length_le (by simp [nearS]; omega)]
  | succ d ih =>
    intro k i x hi hd hk hx
    obtain ⟨k, rfl⟩ : ∃ m, k = m + 1 := ⟨k - 1, by omega⟩
    simp only [interlocklaw06_near.l0]
    have hxl : x.length ≤ i := by rw [hx]; exact List.length_take_le _ _
    rw [if_pos (by omega), if_pos (by omega), if_pos (by omega), wrap_up (n := l.length) (by omega) (by omega)]
    refine ih k (i + 1) _ (by omega) (by omega) (by omega) ?_
    rw [hx, List.take_succ_eq_append_getElem (by simp [nearS]; omega), rd_nat, List.getD_eq_getElem?_getD, List.getElem?_eq_getElem (by omega)]
    simp [nearS]
theorem near_eq (l : List Int) (k : Nat) (hn : l.length < 17592186044416) (hk : l.length < k) : interlocklaw06_near.f k l = some (nearS l) :=
  near_loop l hn l.length k 0 [] (by omega) (by omega) hk (by simp)
theorem nearS_length (l : List Int) : (nearS l).length = l.length := by simp [nearS]
theorem u8_range {x : Int} (h : (Lit.int .u8 x).wf = true) : 0 ≤ x ∧ x ≤ 255 := by
  simp only [Lit.wf, Bool.and_eq_true, decide_eq_true_eq] at h
  have h1 := h.1
  have h2 := h.2
  simp [IntKind.min, IntKind.max, IntKind.signed, IntKind.bits] at h1 h2
  omega
theorem nearS_at (l : List Int) (h : ∀ x ∈ l, (Lit.int .u8 x).wf = true) (j : Nat) : 0 ≤ cAt (nearS l) j ∧ cAt (nearS l) j ≤ 4 := by
  by_cases hj : j < l.length
  · rw [cAt_nat, List.getD_eq_getElem?_getD]
    unfold nearS
    rw [List.getElem?_map, List.getElem?_eq_getElem hj]
    have hx := h l[j] (List.getElem_mem hj)
    have h0 : 0 ≤ l[j] := (u8_range hx).1
    simp only [Option.map_some, Option.getD_some]
    rw [Int.tmod_eq_emod_of_nonneg h0]
    unfold wrap64
    omega
  · rw [cAt_far _ _ (by rw [nearS_length]; omega)]
    omega
theorem known_10 : interlocklaw06_known.f 100 = some true := by decide +kernel
theorem mono_to {α : Type} (g : Nat → Option α) (h : ∀ k, LeO (g k) (g (k + 1))) (r : α) (k d : Nat) (hk : g k = some r) : g (k + d) = some r := by
  induction d with
  | zero => exact hk
  | succ d ih => exact h _ _ ih
theorem known_eq (k : Nat) (hk : 100 ≤ k) : interlocklaw06_known.f k = some true := by
  obtain ⟨d, rfl⟩ : ∃ d, k = 100 + d := ⟨k - 100, by omega⟩
  exact mono_to (fun k => interlocklaw06_known.f k) interlocklaw06_known.mono true 100 d known_10
theorem wrap_small {x : Int} (h0 : -1000000000000000 ≤ x) (h1 : x ≤ 1000000000000000) : wrap64 x = x := by unfold wrap64; omega
theorem within_refl (a : List Int) : within a a = true := (within_iff a a).2 fun i => Int.le_refl _
/-- A step of a row of calls (told so that simp takes it as a fact, not as a computation). -/
theorem bs {α β : Type} (x : α) (f : α → Option β) : (some x).bind f = f x := by
  cases h : f x <;> simp [h]
theorem bool_iff {a b : Bool} (h : a = true ↔ b = true) : a = b := Bool.eq_iff_iff.2 h
theorem within_nil (l : List Int) (h : ∀ x ∈ l, (Lit.int .u8 x).wf = true) : within [] (nearS l) = true := (within_iff _ _).2 fun i => by
  rw [cAt_far [] i (by simp)]
  exact (nearS_at l h i).1
end Go.Proofs.Ytlagfbkkcpgccaa.Pure
