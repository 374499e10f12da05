/- Clocks that tell what is ahead: what is kept, event by event. -/
import Derived.Test.YtblnimopffhocaaVCA
namespace Go.Proofs.Ytblnimopffhocaa.Pure
open Go.RowKit Go.Proofs.Ytblnimopffhocaa.P Go.Proofs.YtblnimopffhocaaW.PrintWords Go.Proofs.YtblnimopffhocaaW.PrintLast Go.Proofs.YtblnimopffhocaaX
set_option linter.unusedVariables false
def Six (t : List Ev) : Prop := ∀ a, a < t.length → 0 ≤ (evA t a).f0 ∧ (evA t a).f0 < 6
def Rep (t : List Ev) (n : Nat) (l : List Int) (S : Nat → Prop) : Prop := ∀ a, a < n → (S a ↔ (tau t a : Int) ≤ atL l (evA t a).f0)
def Bnd (t : List Ev) (n : Nat) (l : List Int) : Prop := ∀ v : Nat, 0 ≤ atL l (v : Int) ∧ atL l (v : Int) ≤ (cntN t (v : Int) n : Int)
section
variable {t : List Ev} {n : Nat} {l l1 l2 : List Int} {S S1 S2 : Nat → Prop}
theorem le_mx {x a b : Int} : x ≤ mx a b ↔ x ≤ a ∨ x ≤ b := by
  unfold mx
  split <;> omega
theorem Rep.join (h6 : Six t) (hn : n ≤ t.length) (h1 : Rep t n l1 S1) (h2 : Rep t n l2 S2) : Rep t n (joinL l1 l2) (fun a => S1 a ∨ S2 a) := fun a ha => by
  obtain ⟨v, hv⟩ := Int.eq_ofNat_of_zero_le (h6 a (by omega)).1
  have e1 := h1 a ha
  have e2 := h2 a ha
  rw [hv] at e1 e2 ⊢
  show S1 a ∨ S2 a ↔ _
  rw [at_join, le_mx, e1, e2]
theorem Bnd.join (h1 : Bnd t n l1) (h2 : Bnd t n l2) : Bnd t n (joinL l1 l2) := fun v => by
  have e1 := h1 v
  have e2 := h2 v
  rw [at_join]
  unfold mx
  split <;> omega
theorem Rep.congr (h : Rep t n l S1) (hS : ∀ a, a < n → (S1 a ↔ S2 a)) : Rep t n l S2 := fun a ha => (hS a ha).symm.trans (h a ha)
theorem Bnd.more (h : Bnd t n l) : Bnd t (n + 1) l := fun v => by
  have e1 := h v
  have e2 := cntN_mono t (v : Int) (Nat.le_add_right n 1)
  omega
theorem Rep.more (h6 : Six t) (hn : n < t.length) (h : Rep t n l S1) (hB : Bnd t n l) (hS : ∀ a, a < n → (S1 a ↔ S2 a)) (hno : ¬ S2 n) : Rep t (n + 1) l S2 := fun a ha => by
  by_cases han : a < n
  · exact (hS a han).symm.trans (h a han)
  · obtain rfl : a = n := by omega
    obtain ⟨v, hv⟩ := Int.eq_ofNat_of_zero_le (h6 a hn).1
    have e1 := hB v
    have e2 := tau_eq t a
    rw [hv] at e2 ⊢
    exact ⟨fun h => absurd h hno, fun h => by omega⟩
end
def tells (t : List Ev) (n b : Nat) (k : Key) : Prop :=
  k.2.1 = (evA t b).f3 ∧ ((k.1 = 0 ∧ k.2.2 = 0 ∧ (evA t b).f2 = 14) ∨ (k.1 = 1 ∧ k.2.2 = 0 ∧ (evA t b).f2 = 16) ∨ (k.1 = 2 ∧ k.2.2 = 0 ∧ wrB (evA t b) = true ∧ wroteB t (evA t b).f3 b n = false)
    ∨ (k.1 = 3 ∧ k.2.2 = (sendsN t (evA t b).f3 b : Int) ∧ (evA t b).f2 = 20) ∨ (k.1 = 4 ∧ k.2.2 = (takesN t (evA t b).f3 b : Int) ∧ takeB (evA t b) = true)
    ∨ (k.1 = 5 ∧ k.2.2 = 0 ∧ (evA t b).f2 = 23) ∨ (k.1 = 6 ∧ k.2.2 = 0 ∧ (evA t b).f2 = 24 ∧ (evA t b).f4 < 0) ∨ (k.1 = 7 ∧ k.2.2 = 0 ∧ (evA t b).f2 = 27))
def LaOk (t : List Ev) (n : Nat) (u : Nat) (o : Int) (b : Bool) : Option (Int × Int) → Prop
  | none => ∀ a, a < n → ¬ ((evA t a).f0 = (u : Int) ∧ (evA t a).f3 = o ∧ (evA t a).f2 = if b = true then 8 else 7)
  | some x => ∃ a : Nat, a < n ∧ x = ((a : Int), (tau t a : Int)) ∧ ((evA t a).f0 = (u : Int) ∧ (evA t a).f3 = o ∧ (evA t a).f2 = if b = true then 8 else 7) ∧ ∀ a', a < a' → a' < n → ¬ ((evA t a').f0 = (u : Int) ∧ (evA t a').f3 = o ∧ (evA t a').f2 = if b = true then 8 else 7)
structure VC (c : List Int) (t : List Ev) (n : Nat) (d : Det) : Prop where
  thS : ∀ u : Nat, u < 6 → Rep t n (d.th u) (fun a => ∃ b, b < n ∧ HB (dirR c t) a b ∧ toT t b (u : Int))
  thB : ∀ u : Nat, u < 6 → Bnd t n (d.th u)
  own : ∀ u : Nat, u < 6 → atL (d.th u) (u : Int) = (cntN t (u : Int) n : Int)
  knS : ∀ k, Rep t n (d.kn k) (fun a => ∃ b, b < n ∧ HB (dirR c t) a b ∧ tells t n b k)
  knB : ∀ k, Bnd t n (d.kn k)
  ctS : ∀ o, d.ct (3, o, 0) = (sendsN t o n : Int) ∧ d.ct (4, o, 0) = (takesN t o n : Int)
  laS : ∀ (u : Nat) (o : Int) (b : Bool), u < 6 → LaOk t n u o b (d.la ((u : Int), o, b))
theorem vc_start (c : List Int) (t : List Ev) : VC c t 0 Det.init :=
  ⟨fun u _ => fun a ha => by omega, fun u _ v => by simp [Det.init, atL, C.cAt, cntN], fun u _ => by simp [Det.init, atL, C.cAt, cntN], fun k => fun a ha => by omega, fun k v => by simp [Det.init, atL, C.cAt, cntN],
    fun o => ⟨rfl, rfl⟩, fun u o b _ => fun a ha => by omega⟩
structure Heard (c : List Int) (t : List Ev) (n T : Nat) (d d1 : Det) (k : Key) : Prop where
  thT : Rep t n (d1.th T) (fun a => Reach (dirR c t) a n)
  bT : Bnd t n (d1.th T)
  ownT : atL (d1.th T) (T : Int) = (cntN t (T : Int) n : Int)
  others : ∀ u, u ≠ T → d1.th u = d.th u
  kn : d1.kn = d.kn
  la : d1.la = d.la
  ct : ∀ o, d1.ct (3, o, 0) = (sendsN t o (n + 1) : Int) ∧ d1.ct (4, o, 0) = (takesN t o (n + 1) : Int)
  key : ((evA t n).f2 = 20 → k = (3, (evA t n).f3, (sendsN t (evA t n).f3 n : Int))) ∧ (takeB (evA t n) = true → k = (4, (evA t n).f3, (takesN t (evA t n).f3 n : Int)))
section
variable {c : List Int} {t : List Ev} {n T : Nat} {d : Det}
theorem VC.learned (h : VC c t n d) (h6 : Six t) (hn : n < t.length) (hT : T < 6) (l : List Int) (S : Nat → Prop) (hl : Rep t n l (fun a => ∃ b, b < n ∧ HB (dirR c t) a b ∧ S b)) (hB : Bnd t n l)
    (hS : ∀ b, b < n → (dirR c t b n = true ↔ toT t b (T : Int) ∨ S b)) : Rep t n (joinL (d.th T) l) (fun a => Reach (dirR c t) a n) ∧ Bnd t n (joinL (d.th T) l) ∧ atL (joinL (d.th T) l) (T : Int) = (cntN t (T : Int) n : Int) := by
  refine ⟨((h.thS T hT).join h6 (by omega) hl).congr fun a ha => ?_, (h.thB T hT).join hB, ?_⟩
  · rw [reach_last]
    constructor
    · rintro (⟨b, hb, hh, ht⟩ | ⟨b, hb, hh, hs⟩)
      · exact ⟨b, hb, hh, (hS b hb).2 (.inl ht)⟩
      · exact ⟨b, hb, hh, (hS b hb).2 (.inr hs)⟩
    · rintro ⟨b, hb, hh, hd⟩
      rcases (hS b hb).1 hd with ht | hs
      · exact .inl ⟨b, hb, hh, ht⟩
      · exact .inr ⟨b, hb, hh, hs⟩
  · rw [at_join, h.own T hT]
    have := hB T
    unfold mx
    split <;> omega
theorem VC.none (h : VC c t n d) (h6 : Six t) (hn : n < t.length) (hT : T < 6) (hS : ∀ b, b < n → (dirR c t b n = true ↔ toT t b (T : Int))) : Rep t n (d.th T) (fun a => Reach (dirR c t) a n) ∧ Bnd t n (d.th T) ∧ atL (d.th T) (T : Int) = (cntN t (T : Int) n : Int) := by
  refine ⟨(h.thS T hT).congr fun a ha => ?_, h.thB T hT, h.own T hT⟩
  rw [reach_last]
  constructor
  · rintro ⟨b, hb, hh, ht⟩; exact ⟨b, hb, hh, (hS b hb).2 ht⟩
  · rintro ⟨b, hb, hh, hd⟩; exact ⟨b, hb, hh, (hS b hb).1 hd⟩
theorem sendsN_le (t : List Ev) (o : Int) : ∀ n, sendsN t o n ≤ n
  | 0 => Nat.le_refl _
  | n + 1 => by
    have := sendsN_le t o n
    unfold sendsN
    split <;> omega
theorem takesN_le (t : List Ev) (o : Int) : ∀ n, takesN t o n ≤ n
  | 0 => Nat.le_refl _
  | n + 1 => by
    have := takesN_le t o n
    unfold takesN
    split <;> omega
theorem wrap_sub {a s : Nat} {r : Int} (ha : a ≤ 2000) (hs : s ≤ 2000) : wrap64 ((a : Int) + r) = (s : Int) ↔ wrap64 ((s : Int) - r) = (a : Int) := by
  unfold wrap64
  omega
theorem VC.hear (h : VC c t n d) (h6 : Six t) (hn : n < t.length) (hl : t.length ≤ 2000) (hT0 : (evA t n).f0 = (T : Int)) : Heard c t n T d (d.hear c (evA t n)).1 (d.hear c (evA t n)).2 := by
  have hT : T < 6 := by have := (h6 n hn).2; omega
  obtain ⟨e, he⟩ : ∃ e, evA t n = e := ⟨_, rfl⟩
  have hD : ∀ b, dirR c t b n = true ↔ toT t b (T : Int) ∨ ruleP c t b n := fun b => by rw [dirR_iff, hT0]
  have same : (∀ o, e.f2 ≠ 20 → sendsN t o (n + 1) = sendsN t o n) ∧ (takeB e = false → ∀ o, takesN t o (n + 1) = takesN t o n) := by
    refine ⟨fun o h2 => ?_, fun h2 o => ?_⟩
    · rw [sendsN, he, if_neg (by simp [h2])]; rfl
    · rw [takesN, he, if_neg (by simp [h2])]; rfl
  rw [he] at hT0 ⊢
  have mk0 : ∀ d1 : Det, ∀ k : Key, d1.kn = d.kn → d1.la = d.la → d1.ct = d.ct → e.f2 ≠ 20 → takeB e = false → (∀ u, u ≠ T → d1.th u = d.th u) → (Rep t n (d1.th T) (fun a => Reach (dirR c t) a n) ∧ Bnd t n (d1.th T) ∧ atL (d1.th T) (T : Int) = (cntN t (T : Int) n : Int)) → Heard c t n T d d1 k :=
    fun d1 k h1 h2 h3 h4 h5 h6 h7 => ⟨h7.1, h7.2.1, h7.2.2, h6, h1, h2, fun o => by rw [h3, same.1 o h4, same.2 h5 o]; exact h.ctS o, by rw [he]; exact ⟨fun hh => absurd hh h4, fun hh => by rw [h5] at hh; cases hh⟩⟩
  have learn1 : ∀ k : Key, (∀ b, b < n → (dirR c t b n = true ↔ toT t b (T : Int) ∨ tells t n b k)) → Rep t n ((d.learn T k).th T) (fun a => Reach (dirR c t) a n) ∧ Bnd t n ((d.learn T k).th T) ∧ atL ((d.learn T k).th T) (T : Int) = (cntN t (T : Int) n : Int) := fun k hk => by
    have e1 : (d.learn T k).th T = joinL (d.th T) (d.kn k) := up1_self _ _ _
    rw [e1]
    exact h.learned h6 hn hT _ (fun b => tells t n b k) (h.knS k) (h.knB k) hk
  have oth : ∀ k u, u ≠ T → (d.learn T k).th u = d.th u := fun k u hu => up1_ne _ _ hu
  unfold Det.hear
  rw [hT0, Int.toNat_natCast]
  by_cases c13 : (e.f2 == 13) = true
  · rw [if_pos c13]
    rw [beq_iff_eq] at c13
    have e1 : ((d.learn T (0, e.f3, 0)).learn T (1, e.f3, 0)).th T = joinL (joinL (d.th T) (d.kn (0, e.f3, 0))) (d.kn (1, e.f3, 0)) := by
      show up1 (up1 d.th T _) T _ T = _
      rw [up1_self]
      show joinL (up1 d.th T _ T) _ = _
      rw [up1_self]
      rfl
    refine mk0 _ _ rfl rfl rfl (by omega) (by simp [takeB, c13]) (fun u hu => (up1_ne _ _ hu).trans (up1_ne _ _ hu)) ?_
    have hk1 := (h.knS (1, e.f3, 0))
    have hb1 := (h.knB (1, e.f3, 0))
    have hk0 := (h.knS (0, e.f3, 0))
    have hb0 := (h.knB (0, e.f3, 0))
    rw [e1]
    have R := ((h.thS T hT).join h6 (by omega) hk0).join h6 (by omega) hk1
    refine ⟨R.congr fun a ha => ?_, ((h.thB T hT).join hb0).join hb1, ?_⟩
    · rw [reach_last]
      have key : ∀ b, b < n → (dirR c t b n = true ↔ (toT t b (T : Int) ∨ tells t n b (0, e.f3, 0)) ∨ tells t n b (1, e.f3, 0)) := fun b hb => by
        rw [hD]
        unfold ruleP tells
        rw [he]
        simp [c13, takeB]
        grind
      constructor
      · rintro ((⟨b, hb, hh, ht⟩ | ⟨b, hb, hh, ht⟩) | ⟨b, hb, hh, ht⟩)
        · exact ⟨b, hb, hh, (key b hb).2 (.inl (.inl ht))⟩
        · exact ⟨b, hb, hh, (key b hb).2 (.inl (.inr ht))⟩
        · exact ⟨b, hb, hh, (key b hb).2 (.inr ht)⟩
      · rintro ⟨b, hb, hh, hd⟩
        rcases (key b hb).1 hd with (ht | ht) | ht
        · exact .inl (.inl ⟨b, hb, hh, ht⟩)
        · exact .inl (.inr ⟨b, hb, hh, ht⟩)
        · exact .inr ⟨b, hb, hh, ht⟩
    · rw [at_join, at_join, h.own T hT]
      have q0 := hb0 T
      have q1 := hb1 T
      unfold mx
      split <;> split <;> omega
  rw [if_neg c13]
  by_cases c15 : (e.f2 == 15) = true
  · rw [if_pos c15]
    rw [beq_iff_eq] at c15
    refine mk0 _ _ rfl rfl rfl (by omega) (by simp [takeB, c15]) (oth _) (learn1 _ fun b hb => ?_)
    rw [hD]
    unfold ruleP tells
    rw [he]
    simp [c15, takeB]
    grind
  rw [if_neg c15]
  by_cases c17 : (e.f2 == 17 || e.f2 == 19) = true
  · rw [if_pos c17]
    rw [Bool.or_eq_true, beq_iff_eq, beq_iff_eq] at c17
    have et : takeB e = false := by unfold takeB; grind
    refine mk0 _ _ rfl rfl rfl (by omega) et (oth _) (learn1 _ fun b hb => ?_)
    rw [hD]
    unfold ruleP tells
    rw [he]
    simp [et]
    grind
  rw [if_neg c17]
  by_cases c20 : (e.f2 == 20) = true
  · rw [if_pos c20]
    rw [beq_iff_eq] at c20
    have et : takeB e = false := by simp [takeB, c20]
    have ec : d.ct (3, e.f3, 0) = (sendsN t e.f3 n : Int) := (h.ctS _).1
    rw [ec]
    have L := learn1 (4, e.f3, wrap64 ((sendsN t e.f3 n : Int) - roomL c e.f3)) fun b hb => by
      rw [hD]
      unfold ruleP tells
      rw [he]
      have w := wrap_sub (a := takesN t e.f3 b) (s := sendsN t e.f3 n) (r := roomL c e.f3) (by have := takesN_le t e.f3 b; omega) (by have := sendsN_le t e.f3 n; omega)
      simp [c20, et]
      rw [w]
      grind
    refine ⟨L.1, L.2.1, L.2.2, fun u hu => up1_ne _ _ hu, rfl, rfl, fun o => ?_, by rw [he]; exact ⟨fun _ => rfl, fun hh => by rw [et] at hh; cases hh⟩⟩
    have c1 : ((d.count 3 e.f3).learn T (4, e.f3, wrap64 ((sendsN t e.f3 n : Int) - roomL c e.f3))).ct = up1 d.ct (3, e.f3, 0) (d.ct (3, e.f3, 0) + 1) := rfl
    rw [c1]
    refine ⟨?_, ?_⟩
    · unfold up1
      rw [sendsN, he]
      by_cases ho : o = e.f3
      · subst ho
        rw [if_pos rfl, if_pos (by simp [c20]), ec]
        omega
      · rw [if_neg (by simpa using ho), if_neg (by simp; intro _ hh; exact ho hh.symm), (h.ctS o).1]
        omega
    · rw [up1_ne _ _ (by simp), same.2 et o]
      exact (h.ctS o).2
  rw [if_neg c20]
  by_cases c21 : (e.f2 == 21 || e.f2 == 22) = true
  · rw [if_pos c21]
    have c21' := c21
    rw [Bool.or_eq_true, beq_iff_eq, beq_iff_eq] at c21'
    by_cases m1 : (e.f5 == 1) = true
    · rw [if_pos m1]
      have et : takeB e = true := by unfold takeB; rw [c21, m1]; rfl
      rw [beq_iff_eq] at m1
      have ec : d.ct (4, e.f3, 0) = (takesN t e.f3 n : Int) := (h.ctS _).2
      rw [ec]
      have L := learn1 (3, e.f3, (takesN t e.f3 n : Int)) fun b hb => by
        rw [hD]
        unfold ruleP tells
        rw [he]
        simp [et, m1]
        grind
      refine ⟨L.1, L.2.1, L.2.2, fun u hu => up1_ne _ _ hu, rfl, rfl, fun o => ?_, by rw [he]; exact ⟨fun hh => by omega, fun _ => rfl⟩⟩
      have c1 : ((d.count 4 e.f3).learn T (3, e.f3, (takesN t e.f3 n : Int))).ct = up1 d.ct (4, e.f3, 0) (d.ct (4, e.f3, 0) + 1) := rfl
      rw [c1]
      refine ⟨?_, ?_⟩
      · rw [up1_ne _ _ (by simp), same.1 o (by omega)]
        exact (h.ctS o).1
      · unfold up1
        rw [takesN, he]
        by_cases ho : o = e.f3
        · subst ho
          rw [if_pos rfl, if_pos (by simp [et]), ec]
          omega
        · rw [if_neg (by simpa using ho), if_neg (by simp; intro _ hh; exact ho hh.symm), (h.ctS o).2]
          omega
    · rw [if_neg m1]
      have et : takeB e = false := by unfold takeB; simp at m1; simp [m1]
      by_cases m2 : (e.f5 == 2) = true
      · rw [if_pos m2]
        rw [beq_iff_eq] at m2
        refine mk0 _ _ rfl rfl rfl (by omega) et (oth _) (learn1 _ fun b hb => ?_)
        rw [hD]
        unfold ruleP tells
        rw [he]
        simp [et, m2]
        grind
      · rw [if_neg m2]
        rw [beq_iff_eq] at m2
        refine mk0 _ _ rfl rfl rfl (by omega) et (fun _ _ => rfl) (h.none h6 hn hT fun b hb => ?_)
        rw [hD]
        unfold ruleP
        rw [he]
        simp [et, m2]
        grind
  rw [if_neg c21]
  have et : takeB e = false := by unfold takeB; simp at c21; simp [c21]
  simp only [Bool.or_eq_true, beq_iff_eq] at c13 c15 c17 c20 c21
  by_cases c25 : (e.f2 == 25) = true
  · rw [if_pos c25]
    rw [beq_iff_eq] at c25
    refine mk0 _ _ rfl rfl rfl (by omega) et (oth _) (learn1 _ fun b hb => ?_)
    rw [hD]
    unfold ruleP tells
    rw [he]
    simp [et, c25]
    grind
  rw [if_neg c25]
  rw [beq_iff_eq] at c25
  by_cases c26 : (e.f2 == 26) = true
  · rw [if_pos c26]
    rw [beq_iff_eq] at c26
    by_cases m0 : (e.f5 == 0) = true
    · rw [if_pos m0]
      rw [beq_iff_eq] at m0
      refine mk0 _ _ rfl rfl rfl (by omega) et (oth _) (learn1 _ fun b hb => ?_)
      rw [hD]
      unfold ruleP tells
      rw [he]
      simp [et, c26, m0]
      grind
    · rw [if_neg m0]
      rw [beq_iff_eq] at m0
      refine mk0 _ _ rfl rfl rfl (by omega) et (fun _ _ => rfl) (h.none h6 hn hT fun b hb => ?_)
      rw [hD]
      unfold ruleP
      rw [he]
      simp [et, c26, m0]
      try grind
  rw [if_neg c26]
  rw [beq_iff_eq] at c26
  refine mk0 _ _ rfl rfl rfl (by omega) et (fun _ _ => rfl) (h.none h6 hn hT fun b hb => ?_)
  rw [hD]
  unfold ruleP
  rw [he]
  simp [et]
  grind
end
end Go.Proofs.Ytblnimopffhocaa.Pure
