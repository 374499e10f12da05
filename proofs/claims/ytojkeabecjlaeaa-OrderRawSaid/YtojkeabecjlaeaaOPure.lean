/- The search that goes back: what it marks is what is ahead, by one step or more. -/
import Derived.Test.YtojkeabecjlaeaaOHand5
import Derived.Test.YtojkeabecjlaeaaOHand7
namespace Go.Proofs.Ytojkeabecjlaeaa.P
open Go.RowKit Go.Proofs.YtojkeabecjlaeaaW.PrintWords Go.Proofs.YtojkeabecjlaeaaW.PrintLast Go.Proofs.YtojkeabecjlaeaaW.PrintMore Go.Proofs.YtojkeabecjlaeaaX
set_option linter.unusedVariables false
set_option linter.unusedSimpArgs false
inductive Reach (D : Nat → Nat → Bool) : Nat → Nat → Prop
  | one {i j : Nat} : i < j → D i j = true → Reach D i j
  | more {i k j : Nat} : i < k → D i k = true → Reach D k j → Reach D i j
theorem Reach.lt {D : Nat → Nat → Bool} {i j : Nat} (h : Reach D i j) : i < j := by
  induction h with
  | one h _ => exact h
  | more h _ _ ih => omega
theorem Reach.trans {D : Nat → Nat → Bool} {i j k : Nat} (h : Reach D i j) (h2 : Reach D j k) : Reach D i k := by
  induction h with
  | one h1 h3 => exact .more h1 h3 h2
  | more h1 h3 _ ih => exact .more h1 h3 (ih h2)
theorem Reach.congr {D E : Nat → Nat → Bool} {j : Nat} (hDE : ∀ i k, i < k → k ≤ j → D i k = E i k) {i j' : Nat} (h : Reach D i j') (hj : j' ≤ j) : Reach E i j' := by
  induction h with
  | one h1 h3 => exact .one h1 (by rw [← hDE _ _ h1 hj]; exact h3)
  | more h1 h3 h4 ih => exact .more h1 (by rw [← hDE _ _ h1 (by have := h4.lt; omega)]; exact h3) (ih hj)
theorem getD_set (s : List Bool) (i x : Nat) (hi : i < s.length) : (s.set i true).getD x false = if i = x then true else s.getD x false := by
  simp only [List.getD_eq_getElem?_getD, List.getElem?_set]
  by_cases h : i = x
  · subst h; simp [hi]
  · simp [h]
theorem inner_ok (D : Nat → Nat → Bool) (k : Nat) : ∀ (d i : Nat) (s : List Bool) (st : List Nat), i + d ≤ s.length →
    (inner D k d i s st).1.length = s.length ∧
    (∀ x, (inner D k d i s st).1.getD x false = true ↔ s.getD x false = true ∨ (i ≤ x ∧ x < i + d ∧ D x k = true)) ∧
    (∀ x, x ∈ (inner D k d i s st).2 ↔ x ∈ st ∨ (i ≤ x ∧ x < i + d ∧ D x k = true ∧ s.getD x false = false)) ∧
    (inner D k d i s st).2.length + cnt s = st.length + cnt (inner D k d i s st).1
  | 0, i, s, st, _ => by
    refine ⟨rfl, fun x => ?_, fun x => ?_, rfl⟩
    · constructor
      · intro h; exact .inl h
      · rintro (h | h)
        · exact h
        · omega
    · constructor
      · intro h; exact .inl h
      · rintro (h | h)
        · exact h
        · omega
  | d + 1, i, s, st, hl => by
    unfold inner
    by_cases hc : (!s.getD i false && D i k) = true
    · rw [if_pos hc]
      rw [Bool.and_eq_true, Bool.not_eq_true'] at hc
      obtain ⟨h1, h2, h3, h4⟩ := inner_ok D k d (i + 1) (s.set i true) (st ++ [i]) (by rw [List.length_set]; omega)
      refine ⟨h1.trans (by rw [List.length_set]), fun x => ?_, fun x => ?_, ?_⟩
      · rw [h2, getD_set s i x (by omega)]
        by_cases hx : i = x
        · subst hx
          rw [if_pos rfl]
          exact ⟨fun _ => .inr ⟨by omega, by omega, hc.2⟩, fun _ => .inl rfl⟩
        · rw [if_neg hx]
          constructor
          · rintro (h | ⟨ha, hb, hd⟩)
            · exact .inl h
            · exact .inr ⟨by omega, by omega, hd⟩
          · rintro (h | ⟨ha, hb, hd⟩)
            · exact .inl h
            · exact .inr ⟨by omega, by omega, hd⟩
      · rw [h3, List.mem_append, List.mem_singleton, getD_set s i x (by omega)]
        by_cases hx : i = x
        · subst hx
          exact ⟨fun _ => .inr ⟨by omega, by omega, hc.2, hc.1⟩, fun _ => .inl (.inr rfl)⟩
        · rw [if_neg hx]
          constructor
          · rintro ((h | h) | ⟨ha, hb, hd⟩)
            · exact .inl h
            · exact absurd h.symm hx
            · exact .inr ⟨by omega, by omega, hd⟩
          · rintro (h | ⟨ha, hb, hd⟩)
            · exact .inl (.inl h)
            · exact .inr ⟨by omega, by omega, hd⟩
      · rw [cnt_set s i (by omega) hc.1, List.length_append, List.length_singleton] at h4
        omega
    · rw [if_neg hc]
      obtain ⟨h1, h2, h3, h4⟩ := inner_ok D k d (i + 1) s st (by omega)
      have hn : D i k = true → s.getD i false = true := fun hD => by
        cases h : s.getD i false with
        | true => rfl
        | false => exact absurd (by rw [h, hD]; rfl) hc
      refine ⟨h1, fun x => ?_, fun x => ?_, h4⟩
      · rw [h2]
        constructor
        · rintro (h | ⟨ha, hb, hd⟩)
          · exact .inl h
          · exact .inr ⟨by omega, by omega, hd⟩
        · rintro (h | ⟨ha, hb, hd⟩)
          · exact .inl h
          · by_cases hx : i = x
            · subst hx; exact .inl (hn hd)
            · exact .inr ⟨by omega, by omega, hd⟩
      · rw [h3]
        constructor
        · rintro (h | ⟨ha, hb, hd⟩)
          · exact .inl h
          · exact .inr ⟨by omega, by omega, hd⟩
        · rintro (h | ⟨ha, hb, hd, he⟩)
          · exact .inl h
          · by_cases hx : i = x
            · subst hx; rw [hn hd] at he; cases he
            · exact .inr ⟨by omega, by omega, hd, he⟩
theorem outer_ok (D : Nat → Nat → Bool) (n j : Nat) (hj : j < n) : ∀ (F : Nat) (s : List Bool) (st : List Nat), s.length = n → (∀ x ∈ st, x < n) → st.length + n + 1 ≤ F + cnt s →
    (∀ x, s.getD x false = true → Reach D x j) → (∀ x ∈ st, x = j ∨ s.getD x false = true) → (∀ k, (k = j ∨ s.getD k false = true) → k ∉ st → ∀ x, x < k → D x k = true → s.getD x false = true) →
    ∃ r, outer D F s st = some r ∧ r.length = n ∧ (∀ x, r.getD x false = true → Reach D x j) ∧ ∀ k, (k = j ∨ r.getD k false = true) → ∀ x, x < k → D x k = true → r.getD x false = true
  | 0, s, st, hl, _, hf, _, _, _ => by
    have := cnt_le s
    omega
  | F + 1, s, st, hl, hn, hf, hS, hT, hC => by
    rcases List.eq_nil_or_concat st with rfl | ⟨st', k, rfl⟩
    · exact ⟨s, by simp [outer], hl, hS, fun k hk => hC k hk (by simp)⟩
    · simp only [List.concat_eq_append] at *
      have hk : k < n := hn k (by simp)
      obtain ⟨h1, h2, h3, h4⟩ := inner_ok D k k 0 s st' (by omega)
      have e : outer D (F + 1) s (st' ++ [k]) = outer D F (inner D k k 0 s st').1 (inner D k k 0 s st').2 := by
        rw [outer, if_neg (by simp)]
        simp
      rw [e]
      have hkr : k = j ∨ Reach D k j := by
        rcases hT k (by simp) with h | h
        · exact .inl h
        · exact .inr (hS k h)
      refine outer_ok D n j hj F _ _ (h1.trans hl) (fun x hx => ?_) ?_ (fun x hx => ?_) (fun x hx => ?_) (fun k' hk' hnm x hx hD => ?_)
      · rcases (h3 x).1 hx with h | ⟨_, h, _⟩
        · exact hn x (by simp [h])
        · omega
      · simp only [List.length_append, List.length_singleton] at hf
        omega
      · rcases (h2 x).1 hx with h | ⟨_, h, hd⟩
        · exact hS x h
        · rcases hkr with rfl | hr
          · exact .one (by omega) hd
          · exact .more (by omega) hd hr
      · rcases (h3 x).1 hx with h | ⟨h, h', hd, _⟩
        · rcases hT x (by simp [h]) with h5 | h5
          · exact .inl h5
          · exact .inr ((h2 x).2 (.inl h5))
        · exact .inr ((h2 x).2 (.inr ⟨h, h', hd⟩))
      · refine (h2 x).2 ?_
        by_cases hkk : k' = k
        · subst hkk
          exact .inr ⟨by omega, by omega, hD⟩
        · refine .inl (hC k' ?_ ?_ x hx hD)
          · rcases hk' with h | h
            · exact .inl h
            · rcases (h2 k').1 h with h5 | ⟨h5, h6, h7⟩
              · exact .inr h5
              · by_cases h8 : s.getD k' false = true
                · exact .inr h8
                · exact absurd ((h3 k').2 (.inr ⟨h5, h6, h7, by simpa using h8⟩)) hnm
          · intro hm
            rcases List.mem_append.1 hm with h | h
            · exact hnm ((h3 k').2 (.inl h))
            · exact hkk (List.mem_singleton.1 h)
theorem outer_reach (D : Nat → Nat → Bool) (n j : Nat) (hj : j < n) : ∃ r, outer D (n + 2) (List.replicate n false) [j] = some r ∧ r.length = n ∧ ∀ i, r.getD i false = true ↔ Reach D i j := by
  have hf : ∀ x, (List.replicate n false).getD x false = false := fun x => by
    rw [List.getD_eq_getElem?_getD, List.getElem?_replicate]
    split <;> rfl
  obtain ⟨r, h1, h2, h3, h4⟩ := outer_ok D n j hj (n + 2) (List.replicate n false) [j] (by simp) (fun x hx => by rw [List.mem_singleton.1 hx]; exact hj) (by simp; omega) (fun x hx => by rw [hf] at hx; cases hx) (fun x hx => .inl (List.mem_singleton.1 hx)) (fun k hk hn => by
    rcases hk with h | h
    · exact absurd (by simp [h]) hn
    · rw [hf] at h; cases h)
  refine ⟨r, h1, h2, fun i => ⟨h3 i, fun h => ?_⟩⟩
  have key : ∀ {i j' : Nat}, Reach D i j' → j' = j → r.getD i false = true := by
    intro i j' h
    induction h with
    | one ha hb => intro e; subst e; exact h4 _ (.inl rfl) _ ha hb
    | more ha hb _ ih => intro e; exact h4 _ (.inr (ih e)) _ ha hb
  exact key h rfl
def marks (D : Nat → Nat → Bool) (n j : Nat) : List Bool := (outer D (n + 2) (List.replicate n false) [j]).getD []
theorem marks_reach (D : Nat → Nat → Bool) {n j : Nat} (hj : j < n) : outer D (n + 2) (List.replicate n false) [j] = some (marks D n j) ∧ (marks D n j).length = n ∧ ∀ i, (marks D n j).getD i false = true ↔ Reach D i j := by
  obtain ⟨r, h1, h2, h3⟩ := outer_reach D n j hj
  unfold marks
  rw [h1]
  exact ⟨rfl, h2, h3⟩
theorem marks_unique {D : Nat → Nat → Bool} {n j : Nat} (hj : j < n) {r : List Bool} (hl : r.length = n) (h : ∀ i, r.getD i false = true ↔ Reach D i j) : r = marks D n j := by
  obtain ⟨_, h2, h3⟩ := marks_reach D hj
  apply List.ext_getElem (hl.trans h2.symm)
  intro i h4 h5
  have h6 := (h i).trans (h3 i).symm
  rw [List.getD_eq_getElem?_getD, List.getElem?_eq_getElem h4, List.getD_eq_getElem?_getD, List.getElem?_eq_getElem h5] at h6
  exact Bool.eq_iff_iff.2 h6
def dirB (c : List Int) (t : List S24) (i j : Nat) : Bool := dirW c (t.getD i z24) (t.getD j z24) (i : Int) (plU t i) (plU t j) (laU t j)
def thereB (t : List S24) (i j : Int) : Bool := decide (0 ≤ i) && decide (i < j) && decide (j < (t.length : Int))
def directI (c : List Int) (t : List S24) (i j : Int) : Bool := thereB t i j && dirB c t i.toNat j.toNat
def beforeI (c : List Int) (t : List S24) (i j : Int) : Bool := thereB t i j && (marks (dirB c t) t.length j.toNat).getD i.toNat false
def marked : List Bool → Nat → List Int
  | [], _ => []
  | b :: l, i => if b = true then (i : Int) :: marked l (i + 1) else marked l (i + 1)
def pastI (c : List Int) (t : List S24) (j : Int) : List Int :=
  if (decide (j < 0) || decide ((t.length : Int) ≤ j)) = true then [] else marked (marks (dirB c t) t.length j.toNat) 0
end Go.Proofs.Ytojkeabecjlaeaa.P
