/- The plain laws of clocks, on: rows that are alike. -/
import Derived.Test.YtlagfbkkcpgccaaPx3
import Derived.Test.YtlagfbkkcpgccaaPureB
namespace Go.Proofs.Ytlagfbkkcpgccaa.Pure
open Go.RowKit Go.Proofs.Ytlagfbkkcpgccaa.P Go.Proofs.YtlagfbkkcpgccaaW.PrintWords Go.Proofs.YtlagfbkkcpgccaaW.PrintLast
theorem same_rows (l : List Int) (hn : l.length ≤ 140737488351232) (d : Nat) : ∀ (k i : Nat), i ≤ l.length → l.length - i = d → d < k → interlocklaw06_same.l0 k l l i = some true := by
  induction d with
  | zero =>
    intro k i hi hd hk
    obtain ⟨k, rfl⟩ : ∃ m, k = m + 1 := ⟨k - 1, by omega⟩
    simp only [interlocklaw06_same.l0]
    rw [if_neg (by omega)]
  | succ d ih =>
    intro k i hi hd hk
    obtain ⟨k, rfl⟩ : ∃ m, k = m + 1 := ⟨k - 1, by omega⟩
    simp only [interlocklaw06_same.l0]
    rw [if_pos (by omega), if_pos (by omega), if_pos (by omega), if_pos trivial, wrap_up (n := l.length) (by omega) hn]
    exact ih k (i + 1) (by omega) (by omega) (by omega)
theorem alike (l : List Int) (k : Nat) (hn : l.length ≤ 140737488351232) (hk : l.length < k) : interlocklaw06_same.f k l l = some true := by
  unfold interlocklaw06_same.f
  rw [if_pos rfl]
  exact same_rows l hn l.length k 0 (by omega) (by omega) hk
end Go.Proofs.Ytlagfbkkcpgccaa.Pure
