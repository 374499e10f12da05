/- ClockOrder: what is within what is within a third is within that; of two within one another both are alike at each place: for every input. -/
import Derived.Test.YtlagfbkkcpgccaaPx3
import Derived.Test.YtlagfbkkcpgccaaPureB
namespace Go.Proofs.Ytlagfbkkcpgccaa.Pure
open Go.RowKit Go.Proofs.Ytlagfbkkcpgccaa.P Go.Proofs.YtlagfbkkcpgccaaW.PrintWords Go.Proofs.YtlagfbkkcpgccaaW.PrintLast

theorem order_j1 (k : Nat) (i : Int) (h0 : 0 ≤ i) (a b : List Int) (hn : ln a b ≤ 1000) (hk : 2000 ≤ k) (hz : within [] a = true) :
    interlocklaw06_ClockOrder.j1 (k + 1) i a b false = some true := by
  have hla : ln [] a ≤ 1000 := by unfold ln at *; simp; omega
  simp only [interlocklaw06_ClockOrder.j1]
  rw [if_neg (by simp), same_eq a b k (by omega) (by omega), within_eq a b k (by omega) (by omega)]
  simp only [bs]
  obtain ⟨n, rfl⟩ : ∃ n : Nat, i = n := ⟨i.toNat, by omega⟩
  rw [within_eq [] a k (by omega) (by omega), hz]
  cases hw : within a b with
  | true =>
    rw [if_pos rfl, within_eq b a k (by rw [ln_comm]; omega) (by rw [ln_comm]; omega)]
    simp only [bs]
    have hs : sameB a b = within b a := by unfold sameB; rw [hw]; rfl
    rw [hs, if_pos (by simp)]
    cases hv : within b a with
    | true =>
      rw [if_pos rfl, at_eq, at_eq]
      simp only [bs]
      rw [if_pos]
      by_cases hw64 : wrap64 (n : Int) < 0
      · unfold cAt; rw [if_pos hw64, if_pos hw64]
      · obtain ⟨m, hm⟩ : ∃ m : Nat, wrap64 (n : Int) = m := ⟨(wrap64 (n : Int)).toNat, by omega⟩
        rw [hm]
        exact (same_iff a b).1 (by rw [hs, hv]) m
    | false => rw [if_neg (by simp)]
  | false =>
    have hs : sameB a b = false := by unfold sameB; rw [hw]; rfl
    rw [if_neg (by simp), hs, if_pos (by simp), if_neg (by simp), bs]
theorem ClockOrder : interlocklaw06_ClockOrder.Pure := by
  intro l0 l1 l2 a3 _ hb0 hw0 _ hb1 hw1 _ hb2 hw2 ha3
  refine ⟨10000, ?_⟩
  unfold interlocklaw06_ClockOrder.f
  have hwr : wrap64 (wrap64 ((l0.length : Int) + (l1.length : Int)) + (l2.length : Int)) = (l0.length : Int) + (l1.length : Int) + (l2.length : Int) := by unfold wrap64; omega
  rw [hwr]
  by_cases hg : (l0.length : Int) + (l1.length : Int) + (l2.length : Int) > 300
  · rw [if_pos hg]
    simp only [interlocklaw06_ClockOrder.j0]
    rw [if_pos trivial, known_eq _ (by omega)]
    rfl
  · rw [if_neg hg, known_eq _ (by omega)]
    simp only [bs, Bool.not_true]
    simp only [interlocklaw06_ClockOrder.j0]
    rw [if_neg (by simp), near_eq l0 9999 (by omega) (by omega), near_eq l1 9999 (by omega) (by omega), near_eq l2 9999 (by omega) (by omega)]
    simp only [bs]
    have h01 : ln (nearS l0) (nearS l1) ≤ 1000 := by unfold ln; rw [nearS_length, nearS_length]; omega
    have h12 : ln (nearS l1) (nearS l2) ≤ 1000 := by unfold ln; rw [nearS_length, nearS_length]; omega
    have h02 : ln (nearS l0) (nearS l2) ≤ 1000 := by unfold ln; rw [nearS_length, nearS_length]; omega
    have h3 := (u8_range ha3).1
    have hz := within_nil l0 hw0
    rw [within_eq _ _ 9999 (by omega) (by omega)]
    simp only [bs]
    cases hw : within (nearS l0) (nearS l1) with
    | true =>
      rw [if_pos rfl, within_eq _ _ 9999 (by omega) (by omega)]
      simp only [bs]
      cases hv : within (nearS l1) (nearS l2) with
      | true =>
        rw [if_pos rfl, within_eq _ _ 9999 (by omega) (by omega)]
        simp only [bs]
        have ht : within (nearS l0) (nearS l2) = true := (within_iff _ _).2 fun i => Int.le_trans ((within_iff _ _).1 hw i) ((within_iff _ _).1 hv i)
        rw [ht]
        exact order_j1 9998 a3 h3 _ _ h01 (by omega) hz
      | false => exact order_j1 9998 a3 h3 _ _ h01 (by omega) hz
    | false => exact order_j1 9998 a3 h3 _ _ h01 (by omega) hz
end Go.Proofs.Ytlagfbkkcpgccaa.Pure
