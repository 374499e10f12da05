/- The races of any events are what the chapter says. -/
import Derived.Test.YtblnimopffhocaaPureG
import Derived.Test.YtblnimopffhocaaPx10
namespace Go.Proofs.Ytblnimopffhocaa.Pure
open Go.RowKit Go.Proofs.Ytblnimopffhocaa.P Go.Proofs.YtblnimopffhocaaW.PrintWords Go.Proofs.YtblnimopffhocaaW.PrintLast Go.Proofs.YtblnimopffhocaaX
set_option linter.unusedVariables false
theorem fuelM_le2 (L i : Nat) : fuelM L i = 40 + i * (2 * L + 20) := by
 induction i with
 | zero => unfold fuelM; omega
 | succ i ih => rw [fuelM, ih, Nat.add_mul]; omega
theorem fuelR_le2 (L i : Nat) : fuelR L i = fuelM L L + L + 50 + i * (6 * (L + 3) + 10) := by
 induction i with
 | zero => unfold fuelR; omega
 | succ i ih => rw [fuelR, ih, Nat.add_mul]; omega
theorem fuel25 {L : Nat} (h : L ≤ 25) : fuelR L L + L + 10 ≤ 20000 := by
 rw [fuelR_le2, fuelM_le2]
 have h1 : L * (2 * L + 20) ≤ 25 * 70 := Nat.mul_le_mul h (by omega)
 have h2 : L * (6 * (L + 3) + 10) ≤ 25 * 178 := Nat.mul_le_mul h (by omega)
 omega
def RaceRawPure : Prop := ∀ (l0 : List (S61)) (l1 : List Ev) (l2 : List Int), l0.length ≤ maxLen → l1.length ≤ maxLen → l2.length ≤ maxLen → rawWf l0 → (∀ x ∈ l2, (Lit.int .i64 x).wf = true) → ∃ k, interlocklaw08_RaceRaw.f k l0 l1 l2 = some true
theorem RaceRaw : RaceRawPure := by
 intro l0 l1 l2 _ _ _ hw _
 refine ⟨30001, ?_⟩
 unfold interlocklaw08_RaceRaw.f
 have early : interlocklaw08_RaceRaw.j0 30001 l0 l1 l2 true = some true := by
  rw [interlocklaw08_RaceRaw.j0, if_pos rfl, known_true, Option.bind_some]
 by_cases h1 : (l1.length : Int) > 25
 · rw [if_pos h1, early]
 · rw [if_neg h1]
   by_cases h2 : (l2.length : Int) > 5
   · rw [if_pos h2, early]
   · rw [if_neg h2, known_true, Option.bind_some, show (!true) = false from rfl, interlocklaw08_RaceRaw.j0, if_neg (by decide)]
     obtain ⟨x, hT, hl, h3⟩ := trace_some l0 hw 29974
     have f1 := findL_len l2 x (by omega)
     have f2 := findL_len l2 l1 (by omega)
     have g1 := fuel25 hl
     have g2 := fuel25 (L := l1.length) (by omega)
     rw [hT, Option.bind_some]
     unfold race_Racy.f race_Find.f interlockref08_Racy.f
     rw [rfind_eq _ _ _ _ _ _ _ x (by omega) 30000 (by omega), rfind_eq _ _ _ _ _ _ _ l1 (by omega) 30000 (by omega)]
     simp only [Option.bind_some]
     rw [same_refl _ (by omega) 30000 (by omega), Option.bind_some, if_pos rfl, same_refl _ (by omega) 30000 (by omega), Option.bind_some, if_pos rfl, beq_self_eq_true]
end Go.Proofs.Ytblnimopffhocaa.Pure
