/- Plain laws of steps. -/
import Derived.Test.YtogfcpaalcebdaaCECopy
import Derived.Test.YtogfcpaalcebdaaCEStat
namespace Go.Proofs.YtogfcpaalcebdaaE
open Go Go.RowKit
set_option linter.unusedVariables false
set_option linter.unusedSimpArgs false
instance : DecidableEq Ch := fun a b =>
  if h : a.row = b.row ∧ a.ver = b.ver ∧ a.closed = b.closed then .isTrue (by cases a; cases b; simp_all) else .isFalse fun e => h (by subst e; exact ⟨rfl, rfl, rfl⟩)
instance : DecidableEq Sg := fun a b =>
  if h : a.p = b.p ∧ a.th = b.th ∧ a.vars = b.vars ∧ a.atoms = b.atoms ∧ a.locks = b.locks ∧ a.ch = b.ch ∧ a.groups = b.groups ∧ a.onces = b.onces ∧ a.told = b.told ∧ a.trapped = b.trapped then .isTrue (by cases a; cases b; simp_all) else .isFalse fun e => h (by subst e; simp)
theorem goF_ver {σ : Sg} {k : Int} {ver : Nat} (h : (insAt σ k).op ≠ 20 ∧ (insAt σ k).op ≠ 21 ∧ (insAt σ k).op ≠ 22) : goF σ k ver = goF σ k 0 := by
  obtain ⟨h0, h1, h2⟩ := h
  rw [goF_eq rfl rfl, goF_eq rfl rfl]
  generalize insAt σ k = i at *
  cases ownF (adv1 (thAt σ k)) i with
  | some t2 => rfl
  | none =>
    have e1 : (i.op = 17 ∨ i.op = 19 ∨ i.op = 21 ∨ i.op = 22 ∨ i.op = 26) → ∀ σ' k' t v md, takeF σ' k' t i v md ver = takeF σ' k' t i v md 0 := fun h σ' k' t v md => by
      unfold takeF
      by_cases a1 : i.op = 17
      · rw [if_pos a1, if_pos a1]
      · rw [if_neg a1, if_neg a1]
        by_cases a2 : i.op = 19
        · rw [if_pos a2, if_pos a2]
        · rw [if_neg a2, if_neg a2]
          have a3 : i.op = 26 := by omega
          rw [if_pos a3, if_pos a3]
    have e2 : ∀ σ' t v, giveF σ' t i v ver = giveF σ' t i v 0 := fun σ' t v => by
      unfold giveF
      simp only [if_neg h0]
    dsimp only
    by_cases a : i.op = 17 ∨ i.op = 19 ∨ i.op = 21 ∨ i.op = 22 ∨ i.op = 26
    · simp only [if_pos a, e1 a]
    · simp only [if_neg a, e2]
end Go.Proofs.YtogfcpaalcebdaaE
