/- The document's races, gone through: they are what the detector tells. -/
import Derived.Test.YtblnimopffhocaaPureF
import Derived.Test.YtblnimopffhocaaPx7
namespace Go.Proofs.Ytblnimopffhocaa.Pure
open Go.RowKit Go.Proofs.Ytblnimopffhocaa.P Go.Proofs.YtblnimopffhocaaW.PrintWords Go.Proofs.YtblnimopffhocaaW.PrintLast Go.Proofs.YtblnimopffhocaaX
set_option linter.unusedVariables false
set_option linter.unusedSimpArgs false
section
variable (a0 a1 a2 a4 a5 : Int) (c : List Int) (l6 : List (List S25)) (t : List Ev) (M : Nat → Nat → Bool)
theorem rfs_len (t : List Ev) (M : Nat → Nat → Bool) (n : Nat) : ∀ u, (rfs M t n u).length ≤ u
  | 0 => Nat.le_refl _
  | u + 1 => by
    have := rfs_len t M n u
    have h2 : (rfL M t n u).length ≤ 1 := by unfold rfL; split <;> simp
    rw [rfs, List.length_append]
    omega
theorem refL_len (t : List Ev) (M : Nat → Nat → Bool) : ∀ n, (refL M t n).length ≤ 6 * n
  | 0 => Nat.le_refl _
  | n + 1 => by
    have h1 := refL_len t M n
    have h2 := rfs_len t M n 6
    rw [refL, List.length_append]
    split
    · omega
    · simp; omega
end
end Go.Proofs.Ytblnimopffhocaa.Pure
