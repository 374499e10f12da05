/- Of events that have no more than their threads in common, those of one thread alone are in order. -/
import Derived.Test.YtojkeabecjlaeaaPx5
import Derived.Test.YtojkeabecjlaeaaPureO
namespace Go.Proofs.Ytojkeabecjlaeaa.Pure
open Go.RowKit Go.Proofs.Ytojkeabecjlaeaa.P Go.Proofs.YtojkeabecjlaeaaW.PrintWords Go.Proofs.YtojkeabecjlaeaaW.PrintLast Go.Proofs.YtojkeabecjlaeaaX
set_option linter.unusedVariables false

def okOp (e : S24) : Prop := e.f2 = 7 ∨ e.f2 = 8 ∨ e.f2 = 9
theorem dirW_ok {a b : S24} (ha : okOp a) (hb : okOp b) (c : List Int) (i p q l : Int) : dirW c a b i p q l = (a.f0 == b.f0) := by
  unfold dirW
  by_cases he : a.f0 = b.f0
  · simp [he]
  · have h1 : (a.f0 == b.f0) = false := beq_eq_false_iff_ne.2 he
    rw [h1]
    rcases ha with h | h | h <;> rcases hb with h' | h' | h' <;> simp [anyR, takesB, h, h']
theorem reach_own {c : List Int} {t : List S24} (hok : ∀ a, a < t.length → okOp (t.getD a z24)) {i j : Nat} (hj : j < t.length) : P.Reach (dirB c t) i j ↔ i < j ∧ (t.getD i z24).f0 = (t.getD j z24).f0 := by
  have hD : ∀ a b, a < b → b < t.length → dirB c t a b = ((t.getD a z24).f0 == (t.getD b z24).f0) := fun a b h1 h2 => dirW_ok (hok a (by omega)) (hok b h2) _ _ _ _ _
  constructor
  · intro h
    induction h with
    | one h1 h2 =>
      rw [hD _ _ h1 hj, beq_iff_eq] at h2
      exact ⟨h1, h2⟩
    | more h1 h2 h3 ih =>
      obtain ⟨h4, h5⟩ := ih hj
      rw [hD _ _ h1 (by omega), beq_iff_eq] at h2
      exact ⟨by omega, h2.trans h5⟩
  · rintro ⟨h1, h2⟩
    exact .one h1 (by rw [hD _ _ h1 hj, h2, beq_self_eq_true])
theorem before_own {c : List Int} {t : List S24} (hok : ∀ a, a < t.length → okOp (t.getD a z24)) {i j : Int} (h0 : 0 ≤ i) (hij : i < j) (hj : j < (t.length : Int)) : beforeI c t i j = ((rd_T24 t i).f0 == (rd_T24 t j).f0) := by
  rw [Bool.eq_iff_iff, before_iff, reach_own hok (by omega), beq_iff_eq]
  unfold rd_T24
  constructor
  · rintro ⟨_, _, _, _, h⟩; exact h
  · intro h; exact ⟨h0, hij, hj, by omega, h⟩
theorem own_loop (x1 x2 : Int) (k : Nat) : ∀ (d i : Nat) (t : List S24), i + d = t.length → t.length ≤ 25 → (∀ a, a < i → okOp (t.getD a z24)) →
    ∃ t', t'.length = t.length ∧ (∀ a, a < t'.length → okOp (t'.getD a z24)) ∧ interlocklaw07_OrderOwn.l0 (k + d + 1) x1 x2 t (i : Int) = interlocklaw07_OrderOwn.l0 (k + 1) x1 x2 t' (t'.length : Int)
  | 0, i, t, hi, hl, hok => ⟨t, rfl, fun a ha => hok a (by omega), by rw [show i = t.length by omega]⟩
  | d + 1, i, t, hi, hl, hok => by
    have hw : wrap64 ((i : Int) + 1) = ((i + 1 : Nat) : Int) := by unfold wrap64; omega
    have hr : rd_T24 t (i : Int) = t.getD i z24 := rfl
    rw [show k + (d + 1) + 1 = (k + d + 1) + 1 from rfl, interlocklaw07_OrderOwn.l0, if_pos (by omega), if_pos (by omega), hw, hr, Int.toNat_natCast]
    by_cases h7 : (t.getD i z24).f2 = 7
    · rw [if_pos h7]
      refine own_loop x1 x2 k d (i + 1) t (by omega) hl fun a ha => ?_
      by_cases h : a = i
      · subst h; exact .inl h7
      · exact hok a (by omega)
    · rw [if_neg h7]
      by_cases h8 : (t.getD i z24).f2 = 8
      · rw [if_pos h8]
        refine own_loop x1 x2 k d (i + 1) t (by omega) hl fun a ha => ?_
        by_cases h : a = i
        · subst h; exact .inr (.inl h8)
        · exact hok a (by omega)
      · rw [if_neg h8]
        obtain ⟨t', h1, h2, h3⟩ := own_loop x1 x2 k d (i + 1) (t.set i ⟨(t.getD i z24).f0, (t.getD i z24).f1, 9, (t.getD i z24).f3, (t.getD i z24).f4, (t.getD i z24).f5⟩) (by rw [List.length_set]; omega) (by rw [List.length_set]; exact hl) fun a ha => by
          rw [List.getD_eq_getElem?_getD, List.getElem?_set]
          by_cases h : i = a
          · subst h
            rw [if_pos rfl, if_pos (by omega)]
            exact .inr (.inr rfl)
          · rw [if_neg h, ← List.getD_eq_getElem?_getD]
            exact hok a (by omega)
        rw [List.length_set] at h1
        exact ⟨t', h1, h2, h3⟩
def OrderOwnPure : Prop := ∀ (l0 : List (S69)) (a1 a2 : Int), l0.length ≤ maxLen → rawWf l0 → (Lit.int .u8 a1).wf = true → (Lit.int .u8 a2).wf = true → ∃ k, interlocklaw07_OrderOwn.f k l0 a1 a2 = some true
theorem OrderOwn : OrderOwnPure := by
  intro l a1 a2 _ hw w1 w2
  obtain ⟨r0, r1⟩ := u8_range w1
  obtain ⟨r2, r3⟩ := u8_range w2
  obtain ⟨t, hT, hl⟩ := trace_some l hw 14
  obtain ⟨t', h1, hok, h3⟩ := own_loop a1 a2 (39 - t.length) t.length 0 t (by omega) hl (fun a ha => by omega)
  refine ⟨40, ?_⟩
  unfold interlocklaw07_OrderOwn.f
  rw [hT, Option.bind_some]
  rw [show 39 - t.length + t.length + 1 = 40 by omega] at h3
  refine Eq.trans h3 ?_
  have hi0 : 0 ≤ wrap64 (Int.tmod a1 25) := by rw [Int.tmod_eq_emod_of_nonneg r0]; unfold wrap64; omega
  have hj0 : 0 ≤ wrap64 (Int.tmod a2 25) := by rw [Int.tmod_eq_emod_of_nonneg r2]; unfold wrap64; omega
  rw [show 39 - t.length + 1 = (38 - t.length + 1) + 1 by omega, interlocklaw07_OrderOwn.l0, if_neg (by omega)]
  generalize wrap64 (Int.tmod a1 25) = i at hi0 ⊢
  generalize wrap64 (Int.tmod a2 25) = j at hj0 ⊢
  have hl' : t'.length ≤ 25 := by omega
  have no : ∀ m, (j ≤ i ∨ (t'.length : Int) ≤ j) → interlocklaw07_OrderOwn.j1 (m + 1) t' i j true = some true := fun m hc => by
    rw [interlocklaw07_OrderOwn.j1, if_pos rfl, known_true, Option.bind_some, if_pos rfl, before_some hl', Option.bind_some]
    have : beforeI [] t' i j = false := by
      cases h : beforeI [] t' i j with
      | false => rfl
      | true => rw [before_iff] at h; omega
    rw [this]
    rfl
  by_cases hij : i ≥ j
  · rw [if_pos hij]
    exact no _ (.inl hij)
  · rw [if_neg hij]
    by_cases hj : j ≥ (t'.length : Int)
    · rw [decide_eq_true hj]
      exact no _ (.inr hj)
    · rw [decide_eq_false hj, interlocklaw07_OrderOwn.j1, if_neg (by simp), known_true, Option.bind_some, if_pos rfl, before_some hl', Option.bind_some, if_pos hi0, if_pos (by omega), if_pos hj0, if_pos (by omega), before_own hok hi0 (by omega) (by omega), beq_self_eq_true]
end Go.Proofs.Ytojkeabecjlaeaa.Pure
