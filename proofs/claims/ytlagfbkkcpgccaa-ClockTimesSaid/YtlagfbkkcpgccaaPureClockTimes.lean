/- ClockTimes: ticks at two places come to the same in either order; a tick at no place is none: for every input. -/
import Derived.Test.YtlagfbkkcpgccaaPx3
import Derived.Test.YtlagfbkkcpgccaaPureB
namespace Go.Proofs.Ytlagfbkkcpgccaa.Pure
open Go.RowKit Go.Proofs.Ytlagfbkkcpgccaa.P Go.Proofs.YtlagfbkkcpgccaaW.PrintWords Go.Proofs.YtlagfbkkcpgccaaW.PrintLast

theorem mod_place {x : Int} (h : 0 ≤ x ∧ x ≤ 255) : ∃ n : Nat, n < 64 ∧ wrap64 (Int.tmod x 64) = n := by
  rw [Int.tmod_eq_emod_of_nonneg h.1, wrap_small (by omega) (by omega)]
  exact ⟨(x % 64).toNat, by omega, by omega⟩
theorem same_refl (a : List Int) : sameB a a = true := (same_iff a a).2 fun _ => rfl
theorem ticks_same (a : List Int) (n m : Nat) (hn : n < 64) (hm : m < 64) : sameB (tickS (tickS a n) m) (tickS (tickS a m) n) = true := by
  rw [same_iff]
  intro j
  by_cases h : n = m
  · rw [h]
  · have h' : ¬ m = n := fun e => h e.symm
    have t1 := fun (c : List Int) (j : Nat) => cAt_tick c m hm j
    have t2 := fun (c : List Int) (j : Nat) => cAt_tick c n hn j
    by_cases h1 : j = m
    · subst h1
      rw [t1, if_pos rfl, t2, t2, if_neg h', if_neg h', t1, if_pos rfl]
    · by_cases h2 : j = n
      · subst h2
        rw [t1, if_neg h1, t2, if_pos rfl, t2, if_pos rfl, t1, if_neg h]
      · rw [t1, if_neg h1, t2, if_neg h2, t2, if_neg h2, t1, if_neg h1]
theorem ClockTimes : interlocklaw06_ClockTimes.Pure := by
  intro l0 a1 a2 _ hb0 hw0 ha1 ha2
  refine ⟨10000, ?_⟩
  unfold interlocklaw06_ClockTimes.f
  by_cases hg : (l0.length : Int) > 200
  · rw [if_pos hg]
    simp only [interlocklaw06_ClockTimes.j0]
    rw [if_pos trivial, known_eq _ (by omega), bs]
  · rw [if_neg hg, known_eq _ (by omega)]
    simp only [bs, Bool.not_true]
    simp only [interlocklaw06_ClockTimes.j0]
    obtain ⟨n, hn, en⟩ := mod_place (u8_range ha1)
    obtain ⟨m, hm, em⟩ := mod_place (u8_range ha2)
    have hl := nearS_length l0
    have t1 := tickS_le (nearS l0) n
    have t2 := tickS_le (nearS l0) m
    have t3 := tickS_le (tickS (nearS l0) n) m
    have t4 := tickS_le (tickS (nearS l0) m) n
    have q1 : ln (tickS (tickS (nearS l0) n) m) (tickS (tickS (nearS l0) m) n) ≤ 1000 := by unfold ln; omega
    have q2 : ln (nearS l0) (nearS l0) ≤ 1000 := by unfold ln; omega
    rw [if_neg (by simp), near_eq l0 9999 (by omega) (by omega), en, em, bs, tick_eq _ _ _ (by omega) (by omega), bs, tick_eq _ _ _ (by omega) (by omega), bs, tick_eq _ _ _ (by omega) (by omega), bs, tick_eq _ _ _ (by omega) (by omega), bs]
    rw [same_eq _ _ _ (by omega) (by omega), bs, ticks_same _ _ _ hn hm, if_pos rfl, tick_eq _ _ _ (by omega) (by omega), bs, tickS_far _ _ (by omega), same_eq _ _ _ (by omega) (by omega), bs, same_refl, if_pos rfl, tick_eq _ _ _ (by omega) (by omega), bs, tickS_far _ _ (by omega), same_eq _ _ _ (by omega) (by omega), bs, same_refl]
end Go.Proofs.Ytlagfbkkcpgccaa.Pure
