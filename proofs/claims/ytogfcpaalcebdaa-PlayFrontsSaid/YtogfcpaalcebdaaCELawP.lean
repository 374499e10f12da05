/- Plain laws of steps of states whose rows' versions are left out. -/
import Derived.Test.YtogfcpaalcebdaaCELaw0
namespace Go.Proofs.YtogfcpaalcebdaaE
open Go Go.RowKit
set_option linter.unusedVariables false
set_option linter.unusedSimpArgs false
section
variable {σ τ : Sg} {k : Int} {n : Nat}
theorem WF_strip2 (h : WF σ) : WF σ.strip := by
  have e : σ.strip.ch.length = σ.ch.length := by simp [Sg.strip]
  refine ⟨h.len, by rw [e]; exact h.lch, h.at_, h.regs, fun c hc i hi => ?_, fun c hc i hi => ?_, h.reg⟩
  · have q := h.fit c hc i hi
    exact ⟨q.l, by rw [e]; exact q.s, by rw [e]; exact q.r, q.g, q.o, q.e⟩
  · have q := h.fit2 c hc i hi
    exact ⟨q.v, q.w, q.m, q.n, q.t⟩
theorem bd_strip (h : Bd n σ) : Bd n σ.strip := ⟨WF_strip2 h.w, h.cl, fun c hc => by
  obtain ⟨d, hd, rfl⟩ := List.mem_map.1 (show c ∈ σ.ch.map Ch.strip from hc)
  exact h.row d hd, h.told⟩
structure Keeps (a b : Sg) : Prop where
  p : b.p = a.p
  th : b.th.length = a.th.length
theorem nextT_bd (h : Bd n τ) : Bd (n + 1) (nextT τ k).1 := bd_strip (next_bd h)
theorem nextT_keeps (h : Bd n τ) : Keeps τ (nextT τ k).1 := by
  have q := next_k (k := k) (ver := 0) h
  exact ⟨q.p, q.th⟩
theorem nextT_st : (nextT τ k).1.strip = (nextT τ k).1 := strip_strip
theorem nextT_no (h : can τ k = false) (hs : τ.strip = τ) : nextT τ k = (τ, Evt.none) := by
  unfold nextT nextF
  rw [if_neg (by rw [h]; decide)]
  exact Prod.ext hs rfl
theorem goL_okn : ∀ (q : List Int) {n : Nat} {τ : Sg}, Bd n τ → τ.strip = τ → Bd (n + q.length) (goL τ q) ∧ Keeps τ (goL τ q) ∧ (goL τ q).strip = goL τ q
  | [], n, τ, h, hs => ⟨h, ⟨rfl, rfl⟩, hs⟩
  | x :: r, n, τ, h, hs => by
    obtain ⟨h1, h2, h3⟩ := goL_okn r (nextT_bd (k := x) h) nextT_st
    have h4 := nextT_keeps (k := x) h
    exact ⟨h1.mono (by simp; omega), ⟨h2.p.trans h4.p, h2.th.trans h4.th⟩, h3⟩
theorem goL_ok (h : Bd 0 τ) (hs : τ.strip = τ) (q : List Int) : Bd q.length (goL τ q) ∧ Keeps τ (goL τ q) ∧ (goL τ q).strip = goL τ q := by
  obtain ⟨h1, h2, h3⟩ := goL_okn q h hs
  exact ⟨h1.mono (by omega), h2, h3⟩
theorem statF_no (h : statF σ ≠ 0) : ∀ k : Int, can σ k = false := fun k => by
  unfold statF at h
  by_cases ht : σ.trapped = true
  · unfold can
    rw [if_pos ht]
    split <;> rfl
  · rw [if_neg ht] at h
    by_cases ha : ((List.range σ.th.length).any fun k => can σ k) = true
    · rw [if_pos ha] at h; exact absurd rfl h
    · by_cases hk : 0 ≤ k ∧ k < (σ.th.length : Int)
      · cases hc : can σ k with
        | false => rfl
        | true =>
          exfalso
          apply ha
          rw [List.any_eq_true]
          exact ⟨k.toNat, List.mem_range.2 (by omega), by rw [show ((k.toNat : Nat) : Int) = k by omega]; exact hc⟩
      · unfold can
        rw [if_neg hk]
theorem statF_can (h : statF σ = 0) : ∃ k : Nat, k < σ.th.length ∧ can σ k = true := by
  unfold statF at h
  by_cases ht : σ.trapped = true
  · rw [if_pos ht] at h; cases h
  · rw [if_neg ht] at h
    by_cases ha : ((List.range σ.th.length).any fun k => can σ k) = true
    · obtain ⟨k, h1, h2⟩ := List.any_eq_true.1 ha
      exact ⟨k, List.mem_range.1 h1, h2⟩
    · rw [if_neg ha] at h
      split at h <;> cases h
theorem goL_no (h : ∀ k : Int, can τ k = false) (hs : τ.strip = τ) : ∀ q : List Int, goL τ q = τ := by
  intro q
  induction q with
  | nil => rfl
  | cons x r ih =>
    show goL (nextT τ x).1 r = τ
    rw [nextT_no (h x) hs]
    exact ih
end
@[simp] theorem eqb_bool {a b : Bool} : eqB tab 4 (.c (.sc (.bool a))) (.c (.sc (.bool b))) = some (a == b) := rfl
theorem Bd.chs {n : Nat} {τ : Sg} (h : Bd n τ) (hn : n < 1000000) : ∀ c ∈ τ.ch, c.row.length < 1000000 := fun c hc => Nat.lt_of_le_of_lt (h.row c hc) hn
end Go.Proofs.YtogfcpaalcebdaaE
