/- The order of any events is what the chapter says. -/
import Derived.Test.YtojkeabecjlaeaaPureOw
import Derived.Test.YtojkeabecjlaeaaDQ
import Derived.Test.YtojkeabecjlaeaaPx7
namespace Go.Proofs.Ytojkeabecjlaeaa.Pure
open Go.RowKit Go.Proofs.Ytojkeabecjlaeaa.P Go.Proofs.YtojkeabecjlaeaaW.PrintWords Go.Proofs.YtojkeabecjlaeaaW.PrintLast Go.Proofs.YtojkeabecjlaeaaX
set_option linter.unusedVariables false
theorem marked_len : ∀ (l : List Bool) (i : Nat), (marked l i).length ≤ l.length
  | [], i => Nat.le_refl _
  | b :: l, i => by
    rw [marked]
    have := marked_len l (i + 1)
    split
    · simp only [List.length_cons]; omega
    · simp only [List.length_cons]; omega
theorem past_len (c : List Int) (t : List S24) (j : Int) (hl : t.length ≤ 25) : (pastI c t j).length ≤ 25 := by
  unfold pastI
  split
  · simp
  · rename_i h
    rw [Bool.or_eq_true, not_or, decide_eq_true_iff, decide_eq_true_iff] at h
    have h1 := marked_len (marks (dirB c t) t.length j.toNat) 0
    rw [(marks_reach (dirB c t) (show j.toNat < t.length by omega)).2.1] at h1
    omega
theorem same_loop (l : List Int) (hl : l.length ≤ 25) (k : Nat) : ∀ d i : Nat, i + d = l.length → interlocklaw07_same.l0 (k + d + 1) l l (i : Int) = some true
  | 0, i, h => by
    unfold interlocklaw07_same.l0
    rw [if_neg (by omega)]
  | d + 1, i, h => by
    rw [show k + (d + 1) + 1 = (k + d + 1) + 1 from rfl, interlocklaw07_same.l0, if_pos (by omega), if_pos (by omega), if_pos (by omega), if_pos rfl, show wrap64 ((i : Int) + 1) = ((i + 1 : Nat) : Int) from by unfold wrap64; omega]
    exact same_loop l hl k d (i + 1) (by omega)
theorem same_refl (l : List Int) (hl : l.length ≤ 25) (k : Nat) (hk : 26 ≤ k) : interlocklaw07_same.f k l l = some true := by
  unfold interlocklaw07_same.f
  rw [if_pos rfl]
  have := same_loop l hl (k - l.length - 1) l.length 0 (by omega)
  rw [show k - l.length - 1 + l.length + 1 = k by omega] at this
  exact this
theorem fuelM_le2 (L i : Nat) : fuelM L i = 40 + i * (2 * L + 20) := by
  induction i with
  | zero => unfold fuelM; omega
  | succ i ih => rw [fuelM, ih, Nat.add_mul]; omega
theorem fuel25 {L : Nat} (h : L ≤ 25) : fuelM L L + 2 * L + 60 ≤ 2000 := by
  rw [fuelM_le2]
  have h1 : L * (2 * L + 20) ≤ 25 * 70 := Nat.mul_le_mul h (by omega)
  omega
theorem tells_loop (a0 a1 a2 : Int) (c : List Int) (a4 a5 : Int) (l6 : List (List (S34))) (t : List S24) (hl : t.length ≤ 25) (k : Nat) : ∀ d i : Nat, i + d = t.length → interlocklaw07_tells.l0 (k + 3000 + d + 1) t (i : Int) a0 a1 a2 c a4 a5 l6 = some true
  | 0, i, h => by
    rw [interlocklaw07_tells.l0, if_neg (by omega)]
  | d + 1, i, h => by
    have g := fuel25 hl
    rw [show k + 3000 + (d + 1) + 1 = (k + 3000 + d + 1) + 1 from rfl, interlocklaw07_tells.l0, if_pos (by omega), rpast_int (by omega) _ _ (by omega), Option.bind_some, past_some hl, Option.bind_some, same_refl _ (past_len c t _ hl) _ (by omega), Option.bind_some, if_pos rfl, show wrap64 ((i : Int) + 1) = ((i + 1 : Nat) : Int) from by unfold wrap64; omega]
    exact tells_loop a0 a1 a2 c a4 a5 l6 t hl k d (i + 1) (by omega)
theorem tells_some (a0 a1 a2 : Int) (c : List Int) (a4 a5 : Int) (l6 : List (List (S34))) (t : List S24) (hl : t.length ≤ 25) : interlocklaw07_tells.f 4000 a0 a1 a2 c a4 a5 l6 t = some true := by
  unfold interlocklaw07_tells.f
  have := tells_loop a0 a1 a2 c a4 a5 l6 t hl (999 - t.length) t.length 0 (by omega)
  rw [show 999 - t.length + 3000 + t.length + 1 = 4000 by omega] at this
  exact this
def OrderRawPure : Prop := ∀ (l0 : List (S69)) (l1 : List S24) (l2 : List Int) (a3 a4 a5 a6 : Int), l0.length ≤ maxLen → l1.length ≤ maxLen → l2.length ≤ maxLen → rawWf l0 → (∀ x ∈ l2, (Lit.int .i64 x).wf = true) → (Lit.int .i64 a3).wf = true → (Lit.int .i64 a4).wf = true → (Lit.int .u8 a5).wf = true → (Lit.int .u8 a6).wf = true → ∃ k, interlocklaw07_OrderRaw.f k l0 l1 l2 a3 a4 a5 a6 = some true
theorem OrderRaw : OrderRawPure := by
  intro l0 l1 l2 a3 a4 a5 a6 _ _ _ hw _ _ _ _ _
  refine ⟨4001, ?_⟩
  unfold interlocklaw07_OrderRaw.f
  have early : interlocklaw07_OrderRaw.j0 4001 l0 l1 l2 a3 a4 a5 a6 true = some true := by
    rw [interlocklaw07_OrderRaw.j0, if_pos rfl, known_true, Option.bind_some]
  by_cases h1 : (l1.length : Int) > 20
  · rw [if_pos h1, early]
  · rw [if_neg h1]
    by_cases h2 : (l2.length : Int) > 5
    · rw [if_pos h2, early]
    · obtain ⟨t, hT, hl⟩ := trace_some l0 hw 3974
      have hl1 : l1.length ≤ 25 := by omega
      have g := fuel25 hl
      have g1 := fuel25 hl1
      rw [if_neg h2, known_true, Option.bind_some, show (!true) = false from rfl, interlocklaw07_OrderRaw.j0, if_neg (by decide), hT, Option.bind_some,
        direct_some hl, Option.bind_some, rdirect_int (by omega) _ _ _ (by omega), Option.bind_some, if_pos (beq_self_eq_true _),
        before_some hl, Option.bind_some, rbefore_int (by omega) _ _ _ (by omega), Option.bind_some, if_pos (beq_self_eq_true _),
        direct_some hl1, Option.bind_some, rdirect_int (by omega) _ _ _ (by omega), Option.bind_some, if_pos (beq_self_eq_true _),
        before_some hl1, Option.bind_some, rbefore_int (by omega) _ _ _ (by omega), Option.bind_some, if_pos (beq_self_eq_true _),
        past_some hl1, Option.bind_some, rpast_int (by omega) _ _ (by omega), Option.bind_some, same_refl _ (past_len _ _ _ hl1) _ (by omega), Option.bind_some, if_pos rfl,
        tells_some _ _ _ _ _ _ _ _ hl, Option.bind_some, if_pos rfl, tells_some _ _ _ _ _ _ _ _ hl1, Option.bind_some]
end Go.Proofs.Ytojkeabecjlaeaa.Pure
