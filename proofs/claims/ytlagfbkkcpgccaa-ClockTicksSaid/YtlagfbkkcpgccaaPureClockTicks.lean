/- ClockTicks: a clock is within itself with one more, and not the other way round; all other places stay: for every input. -/
import Derived.Test.YtlagfbkkcpgccaaPx5
import Derived.Test.YtlagfbkkcpgccaaPureC
namespace Go.Proofs.Ytlagfbkkcpgccaa.Pure
open Go.RowKit Go.Proofs.Ytlagfbkkcpgccaa.P Go.Proofs.YtlagfbkkcpgccaaW.PrintWords Go.Proofs.YtlagfbkkcpgccaaW.PrintLast

theorem mod_place2 {x : Int} (h : 0 ≤ x ∧ x ≤ 255) : ∃ n : Nat, n < 64 ∧ wrap64 (Int.tmod x 64) = n := by
  rw [Int.tmod_eq_emod_of_nonneg h.1, wrap_small (by omega) (by omega)]
  exact ⟨(x % 64).toNat, by omega, by omega⟩
theorem mod_80 {x : Int} (h : 0 ≤ x ∧ x ≤ 255) : ∃ n : Nat, n < 80 ∧ wrap64 (Int.tmod x 80) = n := by
  rw [Int.tmod_eq_emod_of_nonneg h.1, wrap_small (by omega) (by omega)]
  exact ⟨(x % 80).toNat, by omega, by omega⟩
theorem ClockTicks : interlocklaw06_ClockTicks.Pure := by
  intro l0 a1 a2 _ hb0 hw0 ha1 ha2
  refine ⟨10000, ?_⟩
  unfold interlocklaw06_ClockTicks.f
  by_cases hg : (l0.length : Int) > 200
  · rw [if_pos hg]
    simp only [interlocklaw06_ClockTicks.j0]
    rw [if_pos trivial, known_eq _ (by omega), bs]
  · rw [if_neg hg, known_eq _ (by omega)]
    simp only [bs, Bool.not_true]
    simp only [interlocklaw06_ClockTicks.j0]
    obtain ⟨n, hn, en⟩ := mod_place2 (u8_range ha1)
    obtain ⟨m, hm, em⟩ := mod_80 (u8_range ha2)
    have hl := nearS_length l0
    have t1 := tickS_le (nearS l0) n
    have q1 : ln (nearS l0) (tickS (nearS l0) n) ≤ 1000 := by unfold ln; omega
    have q2 := ln_comm (nearS l0) (tickS (nearS l0) n)
    have hv := nearS_at l0 hw0 n
    have w1 : wrap64 (cAt (nearS l0) n + 1) = cAt (nearS l0) n + 1 := wrap_small (by omega) (by omega)
    have hin : within (nearS l0) (tickS (nearS l0) n) = true := by
      rw [within_iff]
      intro j
      rw [cAt_tick _ n hn]
      by_cases hj : j = n
      · rw [if_pos hj, w1, hj]; omega
      · rw [if_neg hj]; exact Int.le_refl _
    have hout : within (tickS (nearS l0) n) (nearS l0) = false := by
      rw [← Bool.not_eq_true, within_iff]
      intro h
      have := h n
      rw [cAt_tick _ n hn, if_pos rfl, w1] at this
      omega
    rw [if_neg (by simp), en, em, near_eq l0 9999 (by omega) (by omega), bs, tick_eq _ _ _ (by omega) (by omega), bs, within_eq _ _ _ (by omega) (by omega), bs, hin, if_pos rfl, within_eq _ _ _ (by omega) (by omega), bs, hout, if_neg (by simp), at_eq, bs, at_eq, bs, cAt_tick _ n hn n, if_pos rfl, if_pos rfl]
    clear hin hout
    by_cases hmn : (m : Int) = n
    · rw [if_pos hmn, bs, alike _ _ (by omega) (by omega), bs]
    · have hmn' : ¬ m = n := by omega
      rw [if_neg hmn, at_eq, bs, at_eq, bs, cAt_tick _ n hn m, if_neg hmn', if_pos rfl, bs, alike _ _ (by omega) (by omega), bs]
end Go.Proofs.Ytlagfbkkcpgccaa.Pure
