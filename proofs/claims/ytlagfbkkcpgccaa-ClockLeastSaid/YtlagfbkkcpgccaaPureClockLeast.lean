/- ClockLeast: both clocks are within their join, and it is within all that both are within: for every input. -/
import Derived.Test.YtlagfbkkcpgccaaPx5
import Derived.Test.YtlagfbkkcpgccaaPureB
namespace Go.Proofs.Ytlagfbkkcpgccaa.Pure
open Go.RowKit Go.Proofs.Ytlagfbkkcpgccaa.P Go.Proofs.YtlagfbkkcpgccaaW.PrintWords Go.Proofs.YtlagfbkkcpgccaaW.PrintLast Go.Proofs.YtlagfbkkcpgccaaW.PrintMore

theorem cAt_join (a b : List Int) (i : Nat) : cAt (byF mx a b) i = mx (cAt a i) (cAt b i) := cAt_byF mx (by decide) a b i
theorem mx_comm (x y : Int) : mx x y = mx y x := by unfold mx; split <;> split <;> omega
theorem mx_assoc (x y z : Int) : mx (mx x y) z = mx x (mx y z) := by unfold mx; (repeat' split) <;> omega
theorem mx_self (x : Int) : mx x x = x := by unfold mx; split <;> rfl
theorem le_mx_left (x y : Int) : x ≤ mx x y := by unfold mx; split <;> omega
theorem le_mx_right (x y : Int) : y ≤ mx x y := by unfold mx; split <;> omega
theorem mx_le (x y z : Int) : mx x y ≤ z ↔ x ≤ z ∧ y ≤ z := by unfold mx; split <;> omega
theorem join_within (a b x : List Int) : within (byF mx a b) x = (within a x && within b x) := by
  apply bool_iff
  rw [Bool.and_eq_true, within_iff, within_iff, within_iff]
  constructor
  · intro h
    exact ⟨fun i => (((mx_le _ _ _).1 (by rw [← cAt_join]; exact h i))).1, fun i => (((mx_le _ _ _).1 (by rw [← cAt_join]; exact h i))).2⟩
  · rintro ⟨h1, h2⟩ i
    rw [cAt_join]
    exact (mx_le _ _ _).2 ⟨h1 i, h2 i⟩
theorem least_j1 (k : Nat) (a b x : List Int) (v : Bool) (hv : v = (within a x && within b x)) (ha : a.length ≤ 1000) (hb : b.length ≤ 1000) (hx : x.length ≤ 1000) (hk : 9000 ≤ k) :
    interlocklaw06_ClockLeast.j1 (k + 1) a b x (byF mx a b) v = some true := by
  simp only [interlocklaw06_ClockLeast.j1]
  have l1 : (byF mx a b).length ≤ 1000 := by rw [byF_length]; unfold ln; omega
  have l2 : (byF mx b a).length ≤ 1000 := by rw [byF_length]; unfold ln; omega
  have l3 : (byF mx b x).length ≤ 1000 := by rw [byF_length]; unfold ln; omega
  have l4 : (byF mx (byF mx a b) x).length ≤ 1000 := by rw [byF_length]; unfold ln; omega
  have l5 : (byF mx a (byF mx b x)).length ≤ 1000 := by rw [byF_length]; unfold ln; omega
  have l6 : (byF mx a a).length ≤ 1000 := by rw [byF_length]; unfold ln; omega
  have L : ∀ p q : List Int, p.length ≤ 1000 → q.length ≤ 1000 → ln p q ≤ 35184372088832 ∧ ln p q < k := fun p q h1 h2 => by unfold ln; omega
  have w1 : within a (byF mx a b) = true := (within_iff _ _).2 fun i => by rw [cAt_join]; exact le_mx_left _ _
  have w2 : within b (byF mx a b) = true := (within_iff _ _).2 fun i => by rw [cAt_join]; exact le_mx_right _ _
  have s1 : sameB (byF mx a b) (byF mx b a) = true := (same_iff _ _).2 fun i => by rw [cAt_join, cAt_join]; exact mx_comm _ _
  have s2 : sameB (byF mx (byF mx a b) x) (byF mx a (byF mx b x)) = true := (same_iff _ _).2 fun i => by rw [cAt_join, cAt_join, cAt_join, cAt_join]; exact mx_assoc _ _ _
  have s3 : sameB (byF mx a a) a = true := (same_iff _ _).2 fun i => by rw [cAt_join]; exact mx_self _
  rw [within_eq _ _ _ (L _ _ ha l1).1 (L _ _ ha l1).2, bs, w1, if_pos rfl, within_eq _ _ _ (L _ _ hb l1).1 (L _ _ hb l1).2, bs, w2, if_pos rfl, within_eq _ _ _ (L _ _ l1 hx).1 (L _ _ l1 hx).2, bs, join_within, ← hv, if_pos (by simp)]
  rw [join_eq _ _ _ (L _ _ hb ha).1 (L _ _ hb ha).2, bs, same_eq _ _ _ (L _ _ l1 l2).1 (L _ _ l1 l2).2, bs, s1, if_pos rfl, join_eq _ _ _ (L _ _ l1 hx).1 (L _ _ l1 hx).2, bs, join_eq _ _ _ (L _ _ hb hx).1 (L _ _ hb hx).2, bs, join_eq _ _ _ (L _ _ ha l3).1 (L _ _ ha l3).2, bs]
  rw [same_eq _ _ _ (L _ _ l4 l5).1 (L _ _ l4 l5).2, bs, s2, if_pos rfl, join_eq _ _ _ (L _ _ ha ha).1 (L _ _ ha ha).2, bs, same_eq _ _ _ (L _ _ l6 ha).1 (L _ _ l6 ha).2, bs, s3]
theorem ClockLeast : interlocklaw06_ClockLeast.Pure := by
  intro l0 l1 l2 _ hb0 hw0 _ hb1 hw1 _ hb2 hw2
  refine ⟨10000, ?_⟩
  unfold interlocklaw06_ClockLeast.f
  have hwr : wrap64 (wrap64 ((l0.length : Int) + (l1.length : Int)) + (l2.length : Int)) = (l0.length : Int) + (l1.length : Int) + (l2.length : Int) := by unfold wrap64; omega
  rw [hwr]
  by_cases hg : (l0.length : Int) + (l1.length : Int) + (l2.length : Int) > 400
  · rw [if_pos hg]
    simp only [interlocklaw06_ClockLeast.j0]
    rw [if_pos trivial, known_eq _ (by omega), bs]
  · rw [if_neg hg, known_eq _ (by omega)]
    simp only [bs, Bool.not_true]
    simp only [interlocklaw06_ClockLeast.j0]
    have e0 := nearS_length l0
    have e1 := nearS_length l1
    have e2 := nearS_length l2
    have L : ∀ p q : List Int, p.length ≤ 1000 → q.length ≤ 1000 → ln p q ≤ 35184372088832 ∧ ln p q < 9999 := fun p q h1 h2 => by unfold ln; omega
    have q0 : (nearS l0).length ≤ 1000 := by omega
    have q1 : (nearS l1).length ≤ 1000 := by omega
    have q2 : (nearS l2).length ≤ 1000 := by omega
    rw [if_neg (by simp), near_eq l0 9999 (by omega) (by omega), near_eq l1 9999 (by omega) (by omega), near_eq l2 9999 (by omega) (by omega), bs, bs, bs]
    rw [join_eq _ _ _ (L _ _ q0 q1).1 (L _ _ q0 q1).2, bs, within_eq _ _ _ (L _ _ q0 q2).1 (L _ _ q0 q2).2, bs]
    cases hw : within (nearS l0) (nearS l2) with
    | true =>
      rw [if_pos rfl, within_eq _ _ _ (L _ _ q1 q2).1 (L _ _ q1 q2).2, bs]
      exact least_j1 9998 _ _ _ _ (by rw [hw]; rfl) q0 q1 q2 (by omega)
    | false =>
      rw [if_neg (by simp)]
      exact least_j1 9998 _ _ _ _ (by rw [hw]; rfl) q0 q1 q2 (by omega)
end Go.Proofs.Ytlagfbkkcpgccaa.Pure
