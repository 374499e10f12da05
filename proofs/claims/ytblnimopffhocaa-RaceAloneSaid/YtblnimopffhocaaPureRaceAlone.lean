/- Of one thread alone there are no races; of loads alone there are none. -/
import Derived.Test.YtblnimopffhocaaPx4
import Derived.Test.YtblnimopffhocaaPureR
namespace Go.Proofs.Ytblnimopffhocaa.Pure
open Go.RowKit Go.Proofs.Ytblnimopffhocaa.P Go.Proofs.YtblnimopffhocaaW.PrintWords Go.Proofs.YtblnimopffhocaaW.PrintLast Go.Proofs.YtblnimopffhocaaX
set_option linter.unusedVariables false

/-- All loads, or all of thread 2. -/
def Tame (loads : Bool) (e : S40) : Prop := if loads = true then e.f2 ≠ 8 else e.f0 = 2
def Quiet (loads : Bool) (d : Det) : Prop := d.out = [] ∧ ∀ x : Tch, d.la x ≠ none → if loads = true then x.2.2 = false else x.1 = 2
theorem quiet_event {loads : Bool} {d : Det} (h : Quiet loads d) (c : List Int) (i : Int) (e : S40) (he : Tame loads e) : Quiet loads (d.event c i e) := by
  obtain ⟨h1, h2⟩ := h
  unfold Det.event
  simp only
  have hl : ∀ m, ((d.hear c e).1.tick e.f0.toNat).looks e i m = (d.hear c e).1.tick e.f0.toNat := looks_quiet _ e i fun u => by
    have hla : ((d.hear c e).1.tick e.f0.toNat).la = d.la := hear_la d c e
    have none_of : ∀ x : Tch, (¬ if loads = true then x.2.2 = false else x.1 = 2) → d.la x = none := fun x hx => by
      cases hq : d.la x with
      | none => rfl
      | some y => exact absurd (h2 x (by rw [hq]; simp)) hx
    unfold Det.latest
    rw [hla]
    unfold Tame at he
    cases loads with
    | true =>
      rw [if_pos rfl] at he
      have h8 : (e.f2 == 8) = false := beq_eq_false_iff_ne.2 he
      left
      simp only [h8, Bool.false_and, Bool.false_eq_true, if_false]
      rw [none_of ((u : Int), e.f3, true) (by simp)]
      rfl
    | false =>
      rw [if_neg (by decide)] at he
      by_cases hu : (u : Int) = 2
      · exact .inr (.inl (by rw [he, hu]))
      · left
        rw [none_of ((u : Int), e.f3, true) (by simpa using hu), none_of ((u : Int), e.f3, false) (by simpa using hu)]
        simp
  refine ⟨?_, fun x hx => ?_⟩
  · rw [say_out]
    split
    · show (((d.hear c e).1.tick e.f0.toNat).looks e i 6).out = []
      rw [hl]
      show (d.hear c e).1.out = []
      rw [Det.hear_out, h1]
    · show (d.hear c e).1.out = []
      rw [Det.hear_out, h1]
  · rw [say_la] at hx
    split at hx
    · rw [hl] at hx
      unfold Det.mark at hx
      simp only [up1] at hx
      split at hx
      · rename_i hxe
        unfold Tame at he
        subst hxe
        cases loads with
        | true => rw [if_pos rfl] at he ⊢; exact beq_eq_false_iff_ne.2 he
        | false => rw [if_neg (by decide)] at he ⊢; exact he
      · have hla : ((d.hear c e).1.tick e.f0.toNat).la = d.la := hear_la d c e
        rw [hla] at hx
        exact h2 x hx
    · have hla : ((d.hear c e).1.tick e.f0.toNat).la = d.la := hear_la d c e
      rw [hla] at hx
      exact h2 x hx
theorem quiet_run {loads : Bool} (c : List Int) (t : List S40) (h : ∀ i, i < t.length → Tame loads (t.getD i z40)) : ∀ i, i ≤ t.length → Quiet loads (runL c t i)
  | 0, _ => ⟨rfl, fun x hx => absurd rfl hx⟩
  | i + 1, hi => quiet_event (quiet_run c t h i (by omega)) c _ _ (h i (by omega))
theorem rd_nat (l : List S40) (i : Nat) : rd_T40 l (i : Int) = l.getD i z40 := by
  unfold rd_T40
  rw [Int.toNat_natCast]
/-- What the law's loop makes of an event. -/
def turn (loads : Bool) (e : S40) : S40 := if loads = true then (if e.f2 = 8 then ⟨e.f0, e.f1, 7, e.f3, e.f4, e.f5⟩ else e) else ⟨2, e.f1, e.f2, e.f3, e.f4, e.f5⟩
theorem turn_tame (loads : Bool) (e : S40) : Tame loads (turn loads e) := by
  unfold Tame turn
  cases loads with
  | true =>
    simp only [if_true]
    split
    · show (7 : Int) ≠ 8; decide
    · assumption
  | false => simp
theorem turn_three (loads : Bool) (e : S40) (h : Three e) : Three (turn loads e) := by
  unfold turn Three at *
  split
  · split
    · exact h
    · exact h
  · exact ⟨show (0 : Int) ≤ 2 by decide, show (2 : Int) < 3 by decide⟩
theorem getD_set_self (x : List S40) (i : Nat) (a : S40) (hi : i < x.length) : (x.set i a).getD i z40 = a := by
  rw [List.getD_eq_getElem?_getD, List.getElem?_set_self hi]; rfl
theorem getD_set_ne (x : List S40) (i j : Nat) (a : S40) (h : i ≠ j) : (x.set i a).getD j z40 = x.getD j z40 := by
  rw [List.getD_eq_getElem?_getD, List.getElem?_set_ne h, List.getD_eq_getElem?_getD]
theorem alone_loop (loads : Bool) : ∀ (d i k : Nat) (x : List S40), i + d = x.length → x.length ≤ 25 → 2 * d + 1 ≤ k → (∀ j, j < x.length → Three (x.getD j z40)) → (∀ j, j < i → Tame loads (x.getD j z40)) →
    interlocklaw08_RaceAlone.l0 k loads x (i : Int) = some true
  | 0, i, k, x, hi, hl, hk, h3, ht => by
    obtain ⟨k, rfl⟩ : ∃ m, k = m + 1 := ⟨k - 1, by omega⟩
    rw [interlocklaw08_RaceAlone.l0, if_neg (by omega), known_true, Option.bind_some, if_pos rfl]
    unfold race_Find.f
    have hall : ∀ e ∈ x, Three e := fun e he => by
      obtain ⟨j, hj, rfl⟩ := List.getElem_of_mem he
      have := h3 j hj
      rw [List.getD_eq_getElem?_getD, List.getElem?_eq_getElem hj] at this
      exact this
    rw [Option.bind_some, find_run _ hall (by omega), (quiet_run (loads := loads) [1] x (fun j hj => ht j (by omega)) x.length (Nat.le_refl _)).1]
    rfl
  | d + 1, i, k, x, hi, hl, hk, h3, ht => by
    obtain ⟨k, rfl⟩ : ∃ m, k = m + 2 := ⟨k - 2, by omega⟩
    have hil : i < x.length := by omega
    have hw : wrap64 ((i : Int) + 1) = ((i + 1 : Nat) : Int) := by unfold wrap64; omega
    have next : ∀ y : List S40, y = x.set i (turn loads (x.getD i z40)) → interlocklaw08_RaceAlone.l0 k loads y ((i + 1 : Nat) : Int) = some true := fun y hy => by
      subst hy
      refine alone_loop loads d (i + 1) k _ (by rw [List.length_set]; omega) (by rw [List.length_set]; exact hl) (by omega) (fun j hj => ?_) (fun j hj => ?_)
      · rw [List.length_set] at hj
        by_cases hji : i = j
        · subst hji
          rw [getD_set_self _ _ _ hil]
          exact turn_three _ _ (h3 i hil)
        · rw [getD_set_ne _ _ _ _ hji]
          exact h3 j hj
      · by_cases hji : i = j
        · subst hji
          rw [getD_set_self _ _ _ hil]
          exact turn_tame _ _
        · rw [getD_set_ne _ _ _ _ hji]
          exact ht j (by omega)
    have same : ∀ a, a = x.getD i z40 → x = x.set i a := fun a ha => by
      subst ha
      rw [List.getD_eq_getElem?_getD, List.getElem?_eq_getElem hil]
      simp
    rw [interlocklaw08_RaceAlone.l0, if_pos (by omega)]
    cases loads with
    | true =>
      rw [if_pos rfl, if_pos (by omega), rd_nat]
      cases h8 : (x.getD i z40).f2 == 8 with
      | true =>
        rw [interlocklaw08_RaceAlone.j1, if_pos rfl, if_pos (by omega), if_pos (by omega), Option.bind_some, if_pos rfl, hw, rd_nat, Int.toNat_natCast]
        refine next _ ?_
        unfold turn
        rw [if_pos rfl, if_pos (beq_iff_eq.1 h8)]
      | false =>
        rw [interlocklaw08_RaceAlone.j1, if_neg (by decide), if_pos rfl, hw]
        refine next _ (same _ ?_)
        unfold turn
        rw [if_pos rfl, if_neg (beq_eq_false_iff_ne.1 h8)]
    | false =>
      rw [if_neg (by decide), interlocklaw08_RaceAlone.j1, if_neg (by decide), if_neg (by decide), if_pos (by omega), if_pos (by omega), hw, rd_nat, Int.toNat_natCast]
      refine next _ ?_
      unfold turn
      rw [if_neg (by decide)]
def RaceAlonePure : Prop := ∀ (l0 : List (S61)) (a1 : Bool), l0.length ≤ maxLen → rawWf l0 → ∃ k, interlocklaw08_RaceAlone.f k l0 a1 = some true
theorem RaceAlone : RaceAlonePure := by
  intro l a1 _ hw
  obtain ⟨t, hT, hl, h3⟩ := trace_some l hw 100
  refine ⟨126, ?_⟩
  unfold interlocklaw08_RaceAlone.f
  rw [hT, Option.bind_some]
  exact alone_loop a1 t.length 0 126 t (by omega) hl (by omega) (fun j hj => getD_three h3 hj) (fun j hj => by omega)
end Go.Proofs.Ytblnimopffhocaa.Pure
