/- Plain laws of longer scripts, and of picks that there are no threads of. -/
import Derived.Test.YtogfcpaalcebdaaCEPlayL
namespace Go.Proofs.YtogfcpaalcebdaaE
open Go Go.RowKit
set_option linter.unusedVariables false
set_option linter.unusedSimpArgs false
theorem fold_pre {p : Prg} : ∀ (q : List Int) {r : RunS}, RunC p r → ∃ a b, (q.foldl pickR r).trace = r.trace ++ a ∧ (q.foldl pickR r).s.told = r.s.told ++ b
  | [], r, h => ⟨[], [], (List.append_nil _).symm, (List.append_nil _).symm⟩
  | x :: q, r, h => by
    obtain ⟨a, b, h1, h2⟩ := fold_pre q (pickR_c h x)
    show ∃ a b, (q.foldl pickR (pickR r x)).trace = _ ∧ (q.foldl pickR (pickR r x)).s.told = _
    rw [h1, h2]
    cases hc : can r.s x with
    | false => rw [pickR_no hc]; exact ⟨a, b, rfl, rfl⟩
    | true =>
      rw [pickR_yes hc]
      obtain ⟨_, h3⟩ := nextT_ev hc
      refine ⟨(nextT r.s x).2 :: a, (tellE (nextT r.s x).2).toList ++ b, by simp, ?_⟩
      show (nextT r.s x).1.told ++ b = _
      rw [h3, List.append_assoc]
theorem fold_stop {r : RunS} (h : statF r.s ≠ 0) : ∀ q : List Int, q.foldl pickR r = r
  | [] => rfl
  | x :: q => by
    show q.foldl pickR (pickR r x) = r
    rw [pickR_no (statF_no h x)]
    exact fold_stop h q
theorem runN_app {p : Prg} {s t : List Int} : runN p (s ++ t) = t.foldl pickR (runN p s) := by
  unfold runN
  rw [List.foldl_append]
theorem fronts {p : Prg} (s t : List Int) : ∃ a b, (runN p (s ++ t)).trace = (runN p s).trace ++ a ∧ (runN p (s ++ t)).s.told = (runN p s).s.told ++ b ∧ (statF (runN p s).s ≠ 0 → runN p (s ++ t) = runN p s) := by
  rw [runN_app]
  obtain ⟨a, b, h1, h2⟩ := fold_pre t (runN_c p s)
  exact ⟨a, b, h1, h2, fun h => fold_stop h t⟩
def amid (k : Int) (q : List Int) : List Int := q.flatMap fun x => [k, x, -1]
theorem amid_snoc {k x : Int} {q : List Int} : amid k (q ++ [x]) = amid k q ++ [k, x, -1] := by simp [amid]
theorem amid_take {k x : Int} {q : List Int} {j : Nat} (h : q[j]? = some x) : amid k (q.take (j + 1)) = amid k (q.take j) ++ [k, x, -1] := by
  rw [List.take_add_one, h]
  exact amid_snoc
theorem amid_len {k : Int} {q : List Int} : (amid k q).length = 3 * q.length := by
  induction q with
  | nil => rfl
  | cons x q ih =>
    show ([k, x, -1] ++ amid k q).length = _
    rw [List.length_append, ih]
    simp
    omega
theorem others {p : Prg} (hs : soundF p = 0) {k : Int} (hk : k < 0 ∨ (p.code.length : Int) ≤ k) : ∀ q : List Int, runN p (amid k q) = runN p q := by
  intro q
  generalize hm : q.length = m
  induction m generalizing q with
  | zero => cases q with | nil => rfl | cons x q => cases hm
  | succ m ih =>
    have hne : q ≠ [] := fun e => by rw [e] at hm; cases hm
    obtain ⟨q1, x, rfl⟩ : ∃ q1 x, q = q1 ++ [x] := ⟨q.dropLast, q.getLast hne, (List.dropLast_concat_getLast hne).symm⟩
    have hi := ih q1 (by simp at hm; omega)
    have h1 := (runN_ok hs q1).th
    have h2 := (runN_ok hs (q1 ++ [x])).th
    rw [amid_snoc, runN_app, hi]
    show pickR (pickR (pickR (runN p q1) k) x) (-1) = _
    have e1 : pickR (runN p q1) k = runN p q1 := pickR_no (can_out (by rw [h1]; exact hk))
    have e2 : ∀ r : RunS, pickR r (-1) = r := fun r => pickR_no (can_out (.inl (show (-1 : Int) < 0 by decide)))
    rw [e1, e2, ← runN_snoc]
end Go.Proofs.YtogfcpaalcebdaaE
