/- Plain laws of runs. -/
import Derived.Test.YtogfcpaalcebdaaCEPlay5
namespace Go.Proofs.YtogfcpaalcebdaaE
open Go Go.RowKit
set_option linter.unusedVariables false
set_option linter.unusedSimpArgs false
section
variable {σ : Sg} {k : Nat} {t : Th} {i : Ins} {v md : Int} {ver : Nat}
theorem takeC_told : (takeC σ i v md ver).1.told = σ.told := by
  unfold takeC
  repeat' split
  all_goals rfl
theorem takeF_told : (takeF σ k t i v md ver).1.told = σ.told := by
  unfold takeF
  dsimp only
  repeat' split
  all_goals first | rfl | exact takeC_told
theorem giveF_told : (giveF σ t i v ver).1.told = σ.told := by
  unfold giveF
  by_cases h12 : i.op = 12
  · rw [if_pos h12]; first | rfl | (split <;> rfl)
  rw [if_neg h12]
  by_cases h13 : i.op = 13
  · rw [if_pos h13]; first | rfl | (split <;> rfl)
  rw [if_neg h13]
  by_cases h15 : i.op = 15
  · rw [if_pos h15]; first | rfl | (split <;> rfl)
  rw [if_neg h15]
  by_cases h14 : i.op = 14
  · rw [if_pos h14]; first | rfl | (split <;> rfl)
  rw [if_neg h14]
  by_cases h16 : i.op = 16
  · rw [if_pos h16]; first | rfl | (split <;> rfl)
  rw [if_neg h16]
  by_cases h18 : i.op = 18
  · rw [if_pos h18]; first | rfl | (split <;> rfl)
  rw [if_neg h18]
  by_cases h20 : i.op = 20
  · rw [if_pos h20]; first | rfl | (split <;> rfl)
  rw [if_neg h20]
  by_cases h23 : i.op = 23
  · rw [if_pos h23]; first | rfl | (split <;> rfl)
  rw [if_neg h23]
  by_cases h24 : i.op = 24
  · rw [if_pos h24]; first | rfl | (split <;> rfl)
  rw [if_neg h24]
  by_cases h27 : i.op = 27
  · rw [if_pos h27]; first | rfl | (split <;> rfl)
  rw [if_neg h27]
theorem ownF_9 (h : i.op = 9) : ownF t i = none := by
  unfold ownF
  simp [h]
end
def tellE (e : Evt) : Option Int := if e.op = 9 then some e.val else none
theorem goF_ev (σ : Sg) (k : Int) (ver : Nat) : ∃ τ e, goF σ k ver = (τ, e) ∧ e.th = k ∧ τ.told = σ.told ++ (tellE e).toList := by
  unfold goF
  dsimp only
  cases ho : ownF (adv1 (thAt σ k)) (insAt σ k) with
  | some t2 =>
    have h9 : ¬ ((insAt σ k).op = 9) := fun h => by rw [ownF_9 h] at ho; cases ho
    exact ⟨_, _, rfl, rfl, by simp [tellE, h9] <;> rfl⟩
  | none =>
    dsimp only
    by_cases h7 : (insAt σ k).op = 7
    · rw [if_pos h7]; exact ⟨_, _, rfl, rfl, by simp [tellE, h7] <;> rfl⟩
    · rw [if_neg h7]
      by_cases h8 : (insAt σ k).op = 8
      · rw [if_pos h8]; exact ⟨_, _, rfl, rfl, by simp [tellE, h8] <;> rfl⟩
      · rw [if_neg h8]
        by_cases h9 : (insAt σ k).op = 9
        · rw [if_pos h9]; exact ⟨_, _, rfl, rfl, by simp [tellE, h9] <;> rfl⟩
        · rw [if_neg h9]
          by_cases ht : (insAt σ k).op = 17 ∨ (insAt σ k).op = 19 ∨ (insAt σ k).op = 21 ∨ (insAt σ k).op = 22 ∨ (insAt σ k).op = 26
          · rw [if_pos ht]; exact ⟨_, _, rfl, rfl, by simp [tellE, h9]; exact takeF_told⟩
          · rw [if_neg ht]; exact ⟨_, _, rfl, rfl, by simp [tellE, h9]; exact giveF_told⟩
theorem nextT_ev {τ : Sg} {k : Int} (h : can τ k = true) : (nextT τ k).2.th = k ∧ (nextT τ k).1.told = τ.told ++ (tellE (nextT τ k).2).toList := by
  unfold nextT nextF
  rw [if_pos h]
  obtain ⟨a, e, h1, h2, h3⟩ := goF_ev τ k 0
  rw [h1]
  exact ⟨h2, h3⟩
structure RunC (p : Prg) (r : RunS) : Prop where
  again : runN p r.picks = r
  ths : r.trace.map (fun e => e.th) = r.picks
  told : r.s.told = r.trace.filterMap tellE
theorem RunC.len {p : Prg} {r : RunS} (h : RunC p r) : r.trace.length = r.picks.length := by rw [← h.ths, List.length_map]
theorem runC_0 (p : Prg) : RunC p ⟨initS p, [], []⟩ := ⟨rfl, rfl, rfl⟩
theorem pickR_no {r : RunS} {k : Int} (h : can r.s k = false) : pickR r k = r := by unfold pickR; rw [if_neg (by rw [h]; decide)]
theorem pickR_yes {r : RunS} {k : Int} (h : can r.s k = true) : pickR r k = ⟨(nextT r.s k).1, r.picks ++ [k], r.trace ++ [(nextT r.s k).2]⟩ := by unfold pickR; rw [if_pos h]
theorem runN_snoc {p : Prg} {q : List Int} {k : Int} : runN p (q ++ [k]) = pickR (runN p q) k := by
  unfold runN
  rw [List.foldl_append]
  rfl
theorem pickR_c {p : Prg} {r : RunS} (h : RunC p r) (k : Int) : RunC p (pickR r k) := by
  cases hc : can r.s k with
  | false => rw [pickR_no hc]; exact h
  | true =>
    obtain ⟨h1, h2⟩ := nextT_ev hc
    have e := pickR_yes hc
    rw [e]
    refine ⟨?_, ?_, ?_⟩
    · show runN p (r.picks ++ [k]) = _
      rw [runN_snoc, h.again, e]
    · show List.map _ (r.trace ++ [(nextT r.s k).2]) = r.picks ++ [k]
      rw [List.map_append, h.ths, List.map_singleton, h1]
    · show (nextT r.s k).1.told = (r.trace ++ [(nextT r.s k).2]).filterMap tellE
      rw [h2, h.told, List.filterMap_append]
      congr 1
theorem foldR_c {p : Prg} : ∀ (q : List Int) {r : RunS}, RunC p r → RunC p (q.foldl pickR r)
  | [], r, h => h
  | x :: q, r, h => foldR_c q (pickR_c h x)
theorem runN_c (p : Prg) (q : List Int) : RunC p (runN p q) := foldR_c q (runC_0 p)
theorem roundI_c (p : Prg) : ∀ j, RunC p (roundI p j).1 ∧ (roundI p j).1.picks.length ≤ j
  | 0 => ⟨runC_0 p, Nat.le_refl _⟩
  | j + 1 => by
    obtain ⟨h1, h2⟩ := roundI_c p j
    cases hf : findR (roundI p j).1.s p.code.length (roundI p j).2 with
    | none => rw [show roundI p (j + 1) = roundI p j from roundI_none hf 1]; exact ⟨h1, by omega⟩
    | some k =>
      rw [roundI_some hf]
      refine ⟨pickR_c h1 k, ?_⟩
      show (pickR (roundI p j).1 k).picks.length ≤ j + 1
      unfold pickR
      split
      · show ((roundI p j).1.picks ++ [k]).length ≤ _
        rw [List.length_append, List.length_singleton]; omega
      · omega
theorem nextI_no {τ : Sg} {n : Nat} {a : Int} : ∀ (f i : Nat), nextI τ n a f i = none → ∀ q, i ≤ q → q < i + f → can τ ((a + (q : Int)) % (n : Int)) = false
  | 0, i, _, q, h1, h2 => by omega
  | f + 1, i, h, q, h1, h2 => by
    unfold nextI at h
    split at h
    · cases h
    · rename_i hc
      by_cases e : q = i
      · subst e; exact Bool.eq_false_iff.2 hc
      · exact nextI_no f (i + 1) h q (by omega) (by omega)
theorem findR_no {τ : Sg} {n : Nat} {a : Int} (h : findR τ n a = none) (hn : τ.th.length = n) (h0 : 0 < n) : statF τ ≠ 0 := fun hz => by
  obtain ⟨k, hk, hc⟩ := statF_can hz
  have e := nextI_no n 0 h (((k : Int) - a) % (n : Int)).toNat (Nat.zero_le _) (by
    have := Int.emod_lt_of_pos ((k : Int) - a) (show (0 : Int) < (n : Int) by omega)
    have := Int.emod_nonneg ((k : Int) - a) (show (n : Int) ≠ 0 by omega)
    omega)
  have h1 := Int.emod_nonneg ((k : Int) - a) (show (n : Int) ≠ 0 by omega)
  rw [show ((((k : Int) - a) % (n : Int)).toNat : Int) = ((k : Int) - a) % (n : Int) by omega, Int.add_emod_emod, show a + ((k : Int) - a) = (k : Int) by omega, Int.emod_eq_of_lt (by omega) (by omega)] at e
  rw [e] at hc
  cases hc
theorem roundI_full {p : Prg} (hs : soundF p = 0) : ∀ j, (roundI p j).1.picks.length = j ∨ statF (roundI p j).1.s ≠ 0
  | 0 => .inl rfl
  | j + 1 => by
    obtain ⟨hO, _, _⟩ := roundI_ok hs j
    obtain ⟨v1, a1, l1, g1, o1, c1, k1, ln, cs, hc⟩ := sound_in hs
    cases hf : findR (roundI p j).1.s p.code.length (roundI p j).2 with
    | none =>
      rw [show roundI p (j + 1) = roundI p j from roundI_none hf 1]
      exact .inr (findR_no hf hO.th (by omega))
    | some k =>
      have hin := nextI_in (by omega) _ _ hf
      rw [roundI_some hf]
      rcases roundI_full hs j with h | h
      · left
        show (pickR (roundI p j).1 k).picks.length = j + 1
        rw [pickR_yes hin.2.2]
        show ((roundI p j).1.picks ++ [k]).length = _
        rw [List.length_append, List.length_singleton, h]
      · exact absurd (statF_no h k) (by rw [hin.2.2]; decide)
theorem can_out {τ : Sg} {k : Int} (h : k < 0 ∨ (τ.th.length : Int) ≤ k) : can τ k = false := by
  unfold can
  rw [if_neg (by omega)]
theorem can_in {τ : Sg} {k : Int} (h : can τ k = true) : 0 ≤ k ∧ k < (τ.th.length : Int) := by
  by_cases hk : 0 ≤ k ∧ k < (τ.th.length : Int)
  · exact hk
  · rw [can_out (by omega)] at h; cases h
theorem alone {p : Prg} (hs : soundF p = 0) (h1 : p.code.length = 1) : ∀ (q : List Int), (roundI p (runN p q).picks.length).1 = runN p q := by
  intro q
  generalize hm : q.length = m
  induction m generalizing q with
  | zero => cases q with | nil => rfl | cons x q => cases hm
  | succ m ih =>
    have hne : q ≠ [] := fun e => by rw [e] at hm; cases hm
    obtain ⟨q1, x, rfl⟩ : ∃ q1 x, q = q1 ++ [x] := ⟨q.dropLast, q.getLast hne, (List.dropLast_concat_getLast hne).symm⟩
    have hi := ih q1 (by simp at hm; omega)
    have hO := runN_ok hs q1
    rw [runN_snoc]
    cases hc : can (runN p q1).s x with
    | false => rw [pickR_no hc]; exact hi
    | true =>
      have hx := can_in hc
      have hth := hO.th
      have hx0 : x = 0 := by omega
      subst hx0
      rw [pickR_yes hc]
      show (roundI p ((runN p q1).picks ++ [0]).length).1 = _
      rw [List.length_append, List.length_singleton]
      have hf : findR (roundI p (runN p q1).picks.length).1.s p.code.length (roundI p (runN p q1).picks.length).2 = some 0 := by
        rw [hi, h1]
        show (if can (runN p q1).s (((roundI p (runN p q1).picks.length).2 + ((0 : Nat) : Int)) % ((1 : Nat) : Int)) = true then some (((roundI p (runN p q1).picks.length).2 + ((0 : Nat) : Int)) % ((1 : Nat) : Int)) else _) = _
        rw [show (((roundI p (runN p q1).picks.length).2 + ((0 : Nat) : Int)) % ((1 : Nat) : Int)) = 0 by omega, if_pos hc]
      rw [roundI_some hf]
      show pickR (roundI p (runN p q1).picks.length).1 0 = _
      rw [hi, pickR_yes hc]
end Go.Proofs.YtogfcpaalcebdaaE
