/- What is ahead of what is ahead of a third is ahead of that. -/
import Derived.Test.YtojkeabecjlaeaaPx3
import Derived.Test.YtojkeabecjlaeaaPureO
namespace Go.Proofs.Ytojkeabecjlaeaa.Pure
open Go.RowKit Go.Proofs.Ytojkeabecjlaeaa.P Go.Proofs.YtojkeabecjlaeaaW.PrintWords Go.Proofs.YtojkeabecjlaeaaW.PrintLast Go.Proofs.YtojkeabecjlaeaaX
set_option linter.unusedVariables false

theorem j0_ok (k : Nat) {t : List S24} (hl : t.length ≤ 25) (i j : Int) (c : List Int) : interlocklaw07_OrderThrough.j0 (k + 1) t i j false 0 0 0 c 0 0 = some true := by
  rw [interlocklaw07_OrderThrough.j0, if_neg (by simp), known_true, Option.bind_some, if_pos rfl]
  simp only [before_some hl, direct_some hl, Option.bind_some, before_irrefl]
  cases h : beforeI c t i j with
  | true =>
    rw [before_asymm h]
    cases directI c t i j <;> rfl
  | false =>
    have hd : directI c t i j = false := by
      cases hd : directI c t i j with
      | false => rfl
      | true => rw [before_direct hd] at h; cases h
    rw [hd]
    rfl
def OrderThroughPure : Prop := ∀ (l0 : List (S69)) (a1 a2 a3 : Int), l0.length ≤ maxLen → rawWf l0 → (Lit.int .u8 a1).wf = true → (Lit.int .u8 a2).wf = true → (Lit.int .u8 a3).wf = true → ∃ k, interlocklaw07_OrderThrough.f k l0 a1 a2 a3 = some true
theorem OrderThrough : OrderThroughPure := by
  intro l a1 a2 a3 _ hw w1 w2 w3
  obtain ⟨t, hT, hl⟩ := trace_some l hw 0
  refine ⟨26, ?_⟩
  unfold interlocklaw07_OrderThrough.f
  rw [Option.bind_some, hT, Option.bind_some]
  generalize wrap64 (Int.tmod a1 25) = i
  generalize wrap64 (Int.tmod a2 25) = j
  generalize wrap64 (Int.tmod a3 25) = k
  simp only [before_some hl, Option.bind_some]
  cases h1 : beforeI [1, 2] t i j with
  | false => exact j0_ok 25 hl i j _
  | true =>
    cases h2 : beforeI [1, 2] t j k with
    | false => exact j0_ok 25 hl i j _
    | true =>
      rw [before_trans h1 h2]
      exact j0_ok 25 hl i j _
end Go.Proofs.Ytojkeabecjlaeaa.Pure
