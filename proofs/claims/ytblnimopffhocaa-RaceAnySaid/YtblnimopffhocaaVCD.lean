/- What the detector tells is what the document's races are. -/
import Derived.Test.YtblnimopffhocaaVCC
namespace Go.Proofs.Ytblnimopffhocaa.Pure
open Go.RowKit Go.Proofs.Ytblnimopffhocaa.P Go.Proofs.YtblnimopffhocaaW.PrintWords Go.Proofs.YtblnimopffhocaaW.PrintLast Go.Proofs.YtblnimopffhocaaX
set_option linter.unusedVariables false
abbrev Rc := S55
def conflB (a b : Ev) : Bool := ((a.f2 == 7 || a.f2 == 8) && (b.f2 == 7 || b.f2 == 8)) && (a.f3 == b.f3 && (a.f0 != b.f0 && (a.f2 == 8 || b.f2 == 8)))
def matchP (t : List Ev) (n u a : Nat) : Prop := (evA t a).f0 = (u : Int) ∧ conflB (evA t a) (evA t n) = true
def lastC (t : List Ev) (n u : Nat) : Nat → Int
  | 0 => -1
  | m + 1 => if ((evA t m).f0 == (u : Int) && conflB (evA t m) (evA t n)) = true then (m : Int) else lastC t n u m
theorem lastC_none (t : List Ev) (n u : Nat) : ∀ m, (∀ a, a < m → ¬ matchP t n u a) → lastC t n u m = -1
  | 0, _ => rfl
  | m + 1, h => by
    rw [lastC, if_neg]
    · exact lastC_none t n u m fun a ha => h a (by omega)
    · rw [Bool.and_eq_true, beq_iff_eq]
      exact h m (by omega)
theorem lastC_some (t : List Ev) (n u a : Nat) (hm : matchP t n u a) : ∀ m, a < m → (∀ a', a < a' → a' < m → ¬ matchP t n u a') → lastC t n u m = (a : Int)
  | m + 1, ha, h => by
    rw [lastC]
    by_cases ham : a = m
    · subst ham
      rw [if_pos]
      rw [Bool.and_eq_true, beq_iff_eq]
      exact hm
    · rw [if_neg]
      · exact lastC_some t n u a hm m (by omega) fun a' h1 h2 => h a' h1 (by omega)
      · rw [Bool.and_eq_true, beq_iff_eq]
        exact h m (by omega) (by omega)
def rfL (M : Nat → Nat → Bool) (t : List Ev) (n u : Nat) : List Rc := if (decide (0 ≤ lastC t n u n) && !M (lastC t n u n).toNat n) = true then [⟨lastC t n u n, (n : Int)⟩] else []
def rfs (M : Nat → Nat → Bool) (t : List Ev) (n : Nat) : Nat → List Rc
  | 0 => []
  | u + 1 => rfs M t n u ++ rfL M t n u
def refL (M : Nat → Nat → Bool) (t : List Ev) : Nat → List Rc
  | 0 => []
  | n + 1 => refL M t n ++ if touchB (evA t n) = true then rfs M t n 6 else []
section
variable {c : List Int} {t : List Ev} {n T : Nat} {d : Det} {M : Nat → Nat → Bool}
theorem look_ref (h6 : Six t) (hn : n < t.length) (hT0 : (evA t n).f0 = (T : Int)) (htb : touchB (evA t n) = true) (hM : ∀ a, a < n → (M a n = true ↔ Reach (dirR c t) a n)) (hR : Rep t (n + 1) (d.th T) (fun a => HB (dirR c t) a n))
    (hla : ∀ (u : Nat) (o : Int) (b : Bool), u < 6 → LaOk t n u o b (d.la ((u : Int), o, b))) (u : Nat) (hu : u < 6) : (d.look (evA t n) (n : Int) u).out = d.out ++ rfL M t n u := by
  obtain ⟨e, he⟩ : ∃ e, evA t n = e := ⟨_, rfl⟩
  by_cases huT : u = T
  · have hnone : lastC t n u n = -1 := lastC_none t n u n fun a ha hm => by
      have h1 := hm.1
      have h2 := hm.2
      unfold conflB at h2
      simp only [Bool.and_eq_true, bne_iff_ne] at h2
      exact h2.2.2.1 (by rw [h1, hT0, huT])
    unfold rfL
    rw [hnone, if_neg (by simp), List.append_nil]
    unfold Det.look
    rw [if_neg]
    simp only [Bool.and_eq_true, bne_iff_ne, not_and]
    intro _ h2
    exact absurd (by rw [hT0, huT]) h2
  ·
    have fin : ∀ r : (Int × Int) × Bool, d.latest u (evA t n) = r → (r.2 = false ∧ lastC t n u n = -1 ∨ ∃ a : Nat, a < n ∧ (evA t a).f0 = (u : Int) ∧ r = (((a : Int), (tau t a : Int)), true) ∧ lastC t n u n = (a : Int)) → (d.look (evA t n) (n : Int) u).out = d.out ++ rfL M t n u := fun r hr hx => by
      rcases hx with ⟨h1, h2⟩ | ⟨a, ha, hau, h1, h2⟩
      · unfold rfL
        rw [h2, if_neg (by simp), List.append_nil]
        unfold Det.look
        rw [hr, h1, if_neg (by simp)]
      · subst h1
        unfold rfL
        rw [h2, Int.toNat_natCast]
        unfold Det.look
        rw [hr, hT0, Int.toNat_natCast]
        have hrep := hR a (by omega)
        rw [hau] at hrep
        have hb : HB (dirR c t) a n ↔ Reach (dirR c t) a n := ⟨fun h => by rcases h with h | h; omega; exact h, .inr⟩
        have hrep' : Reach (dirR c t) a n ↔ (tau t a : Int) ≤ atL (d.th T) (u : Int) := hb.symm.trans hrep
        have hMa := hM a ha
        by_cases hm : M a n = true
        · rw [if_neg, if_neg (by simp [hm]), List.append_nil]
          have := hrep'.1 (hMa.1 hm)
          simp only [Bool.and_eq_true, bne_iff_ne, decide_eq_true_iff, not_and]
          intro _ _
          omega
        · have hno : ¬ (tau t a : Int) ≤ atL (d.th T) (u : Int) := fun h => hm (hMa.2 (hrep'.2 h))
          rw [if_pos, if_pos]
          · simp only [Bool.and_eq_true, decide_eq_true_iff, Bool.not_eq_true']
            exact ⟨by omega, by simpa using hm⟩
          · simp only [Bool.and_eq_true, bne_iff_ne, decide_eq_true_iff]
            exact ⟨trivial, by omega, by omega⟩
    have hst := hla u e.f3 true hu
    have hld := hla u e.f3 false hu
    have hmt : ∀ a, matchP t n u a ↔ (evA t a).f0 = (u : Int) ∧ (evA t a).f3 = e.f3 ∧ ((evA t a).f2 = 8 ∨ (e.f2 = 8 ∧ (evA t a).f2 = 7)) := fun a => by
      unfold matchP conflB
      rw [he]
      rw [he] at hT0 htb
      unfold touchB at htb
      simp only [Bool.and_eq_true, Bool.or_eq_true, beq_iff_eq, bne_iff_ne] at htb ⊢
      constructor
      · rintro ⟨h1, ⟨h2, h3⟩, h4, h5, h6⟩
        exact ⟨h1, h4, by omega⟩
      · rintro ⟨h1, h2, h3⟩
        exact ⟨h1, ⟨by omega, htb⟩, h2, by omega, by omega⟩
    refine fin _ rfl ?_
    unfold Det.latest
    simp only
    rw [he]
    cases h1 : d.la ((u : Int), e.f3, true) with
    | none =>
      rw [h1] at hst
      have hst' : ∀ a, a < n → ¬ ((evA t a).f0 = (u : Int) ∧ (evA t a).f3 = e.f3 ∧ (evA t a).f2 = 8) := fun a ha => by simpa using hst a ha
      cases h2 : d.la ((u : Int), e.f3, false) with
      | none =>
        rw [h2] at hld
        have hld' : ∀ a, a < n → ¬ ((evA t a).f0 = (u : Int) ∧ (evA t a).f3 = e.f3 ∧ (evA t a).f2 = 7) := fun a ha => by simpa using hld a ha
        left
        refine ⟨by simp, lastC_none t n u n fun a ha hm => ?_⟩
        have hm' := (hmt a).1 hm
        rcases hm'.2.2 with h | h
        · exact hst' a ha ⟨hm'.1, hm'.2.1, h⟩
        · exact hld' a ha ⟨hm'.1, hm'.2.1, h.2⟩
      | some y =>
        rw [h2] at hld
        obtain ⟨b, hb, rfl, hb2, hb3⟩ := hld
        simp only [if_neg Bool.false_ne_true] at hb2 hb3
        by_cases h8 : e.f2 = 8
        · right
          refine ⟨b, hb, hb2.1, by simp [h8], lastC_some t n u b ((hmt b).2 ⟨hb2.1, hb2.2.1, .inr ⟨h8, hb2.2.2⟩⟩) n hb fun a' h3 h4 hm => ?_⟩
          have hm' := (hmt a').1 hm
          rcases hm'.2.2 with h | h
          · exact hst' a' h4 ⟨hm'.1, hm'.2.1, h⟩
          · exact hb3 a' h3 h4 ⟨hm'.1, hm'.2.1, h.2⟩
        · left
          refine ⟨by simp [h8], lastC_none t n u n fun a ha hm => ?_⟩
          have hm' := (hmt a).1 hm
          rcases hm'.2.2 with h | h
          · exact hst' a ha ⟨hm'.1, hm'.2.1, h⟩
          · exact h8 h.1
    | some x =>
      rw [h1] at hst
      obtain ⟨a, ha, rfl, ha2, ha3⟩ := hst
      simp only [if_true] at ha2 ha3
      cases h2 : d.la ((u : Int), e.f3, false) with
      | none =>
        rw [h2] at hld
        have hld' : ∀ a, a < n → ¬ ((evA t a).f0 = (u : Int) ∧ (evA t a).f3 = e.f3 ∧ (evA t a).f2 = 7) := fun a ha => by simpa using hld a ha
        right
        refine ⟨a, ha, ha2.1, by simp, lastC_some t n u a ((hmt a).2 ⟨ha2.1, ha2.2.1, .inl ha2.2.2⟩) n ha fun a' h3 h4 hm => ?_⟩
        have hm' := (hmt a').1 hm
        rcases hm'.2.2 with h | h
        · exact ha3 a' h3 h4 ⟨hm'.1, hm'.2.1, h⟩
        · exact hld' a' h4 ⟨hm'.1, hm'.2.1, h.2⟩
      | some y =>
        rw [h2] at hld
        obtain ⟨b, hb, rfl, hb2, hb3⟩ := hld
        simp only [if_neg Bool.false_ne_true] at hb2 hb3
        right
        by_cases h8 : e.f2 = 8 ∧ a < b
        · refine ⟨b, hb, hb2.1, by simp [h8.1]; omega, lastC_some t n u b ((hmt b).2 ⟨hb2.1, hb2.2.1, .inr ⟨h8.1, hb2.2.2⟩⟩) n hb fun a' h3 h4 hm => ?_⟩
          have hm' := (hmt a').1 hm
          rcases hm'.2.2 with h | h
          · exact ha3 a' (by omega) h4 ⟨hm'.1, hm'.2.1, h⟩
          · exact hb3 a' h3 h4 ⟨hm'.1, hm'.2.1, h.2⟩
        · refine ⟨a, ha, ha2.1, ?_, lastC_some t n u a ((hmt a).2 ⟨ha2.1, ha2.2.1, .inl ha2.2.2⟩) n ha fun a' h3 h4 hm => ?_⟩
          · by_cases h9 : e.f2 = 8
            · have : ¬ a < b := fun h => h8 ⟨h9, h⟩
              simp [h9]
              omega
            · simp [h9]
          · have hm' := (hmt a').1 hm
            rcases hm'.2.2 with h | h
            · exact ha3 a' h3 h4 ⟨hm'.1, hm'.2.1, h⟩
            · have : ¬ a < b := fun h9 => h8 ⟨h.1, h9⟩
              exact hb3 a' (by omega) h4 ⟨hm'.1, hm'.2.1, h.2⟩
theorem looks_ref (h6 : Six t) (hn : n < t.length) (hT0 : (evA t n).f0 = (T : Int)) (htb : touchB (evA t n) = true) (hM : ∀ a, a < n → (M a n = true ↔ Reach (dirR c t) a n)) (hR : Rep t (n + 1) (d.th T) (fun a => HB (dirR c t) a n))
    (hla : ∀ (u : Nat) (o : Int) (b : Bool), u < 6 → LaOk t n u o b (d.la ((u : Int), o, b))) : ∀ m, m ≤ 6 → (d.looks (evA t n) (n : Int) m).out = d.out ++ rfs M t n m
  | 0, _ => by simp [Det.looks, rfs]
  | m + 1, hm => by
    obtain ⟨_, e2, _, _, e5⟩ := Det.looks_out d (evA t n) (n : Int) m
    show ((d.looks (evA t n) (n : Int) m).look (evA t n) (n : Int) m).out = _
    rw [look_ref (d := d.looks (evA t n) (n : Int) m) h6 hn hT0 htb hM (by rw [e2]; exact hR) (by rw [e5]; exact hla) m (by omega), looks_ref h6 hn hT0 htb hM hR hla m (by omega), rfs, List.append_assoc]
theorem LaOk.more {u : Nat} {o : Int} {b : Bool} {x : Option (Int × Int)} (h : LaOk t n u o b x) (hno : ¬ ((evA t n).f0 = (u : Int) ∧ (evA t n).f3 = o ∧ (evA t n).f2 = if b = true then 8 else 7)) : LaOk t (n + 1) u o b x := by
  cases x with
  | none =>
    intro a ha
    by_cases han : a = n
    · subst han; exact hno
    · exact h a (by omega)
  | some y =>
    obtain ⟨a, ha, rfl, h2, h3⟩ := h
    refine ⟨a, by omega, rfl, h2, fun a' h4 h5 => ?_⟩
    by_cases han : a' = n
    · subst han; exact hno
    · exact h3 a' h4 (by omega)
theorem VC.event (h : VC c t n d) (h6 : Six t) (hn : n < t.length) (hl : t.length ≤ 2000) (hM : ∀ a, a < n → (M a n = true ↔ Reach (dirR c t) a n)) :
    VC c t (n + 1) (d.event c (n : Int) (evA t n)) ∧ (d.event c (n : Int) (evA t n)).out = d.out ++ if touchB (evA t n) = true then rfs M t n 6 else [] := by
  obtain ⟨T, hT0⟩ := Int.eq_ofNat_of_zero_le (h6 n hn).1
  have hT : T < 6 := by have := (h6 n hn).2; omega
  have H := h.hear h6 hn hl hT0
  obtain ⟨d1, hd1⟩ : ∃ d1, (d.hear c (evA t n)).1 = d1 := ⟨_, rfl⟩
  obtain ⟨k, hk⟩ : ∃ k, (d.hear c (evA t n)).2 = k := ⟨_, rfl⟩
  have ho1 : d1.out = d.out := by rw [← hd1]; exact Det.hear_out d c _
  rw [hd1, hk] at H
  obtain ⟨q1, q2, q3⟩ := ticked h6 hn hl hT0 H.thT H.bT H.ownT
  unfold Det.event
  simp only
  rw [hd1, hk, hT0, Int.toNat_natCast, say_out]
  have hla2 : ∀ (u : Nat) (o : Int) (b : Bool), u < 6 → LaOk t n u o b ((d1.tick T).la ((u : Int), o, b)) := fun u o b hu => by
    have : (d1.tick T).la = d.la := H.la
    rw [this]
    exact h.laS u o b hu
  have hoth : ∀ u, u ≠ T → (d1.tick T).th u = d.th u := fun u hu => (up1_ne _ _ hu).trans (H.others u hu)
  cases htb : touchB (evA t n) with
  | false =>
    rw [if_neg (by decide), if_neg (by decide)]
    have hf : (evA t n).f2 ≠ 7 ∧ (evA t n).f2 ≠ 8 := by
      unfold touchB at htb
      rw [Bool.or_eq_false_iff, beq_eq_false_iff_ne, beq_eq_false_iff_ne] at htb
      exact htb
    refine ⟨VC.say h h6 hn ⟨q1, q2, q3, hoth, H.kn, H.ct, fun u o b hu => (hla2 u o b hu).more (by cases b <;> simp <;> omega)⟩ hT0 H.key, ?_⟩
    rw [List.append_nil]
    exact ho1
  | true =>
    rw [if_pos rfl, if_pos rfl]
    obtain ⟨_, e2, e3, e4, e5⟩ := Det.looks_out (d1.tick T) (evA t n) (n : Int) 6
    have hf : (evA t n).f2 = 7 ∨ (evA t n).f2 = 8 := by
      unfold touchB at htb
      rw [Bool.or_eq_true, beq_iff_eq, beq_iff_eq] at htb
      exact htb
    obtain ⟨d3, hd3⟩ : ∃ d3, ((d1.tick T).looks (evA t n) (n : Int) 6).mark (evA t n) (n : Int) = d3 := ⟨_, rfl⟩
    have m_th : d3.th = (d1.tick T).th := by rw [← hd3]; exact e2
    have m_kn : d3.kn = d1.kn := by rw [← hd3]; exact e3
    have m_ct : d3.ct = d1.ct := by rw [← hd3]; exact e4
    have m_la : d3.la = up1 d1.la ((T : Int), (evA t n).f3, (evA t n).f2 == 8) (some ((n : Int), (tau t n : Int))) := by
      rw [← hd3]
      unfold Det.mark
      rw [hT0, Int.toNat_natCast, e5, e2, q3]
      have : (tau t n : Int) = (cntN t (T : Int) (n + 1) : Int) := by unfold tau; rw [hT0]
      rw [this]
      rfl
    have m_out : d3.out = (d1.tick T).out ++ rfs M t n 6 := by rw [← hd3]; exact looks_ref h6 hn hT0 htb hM q1 hla2 6 (Nat.le_refl _)
    rw [hd3]
    refine ⟨VC.say h h6 hn ⟨by rw [m_th]; exact q1, by rw [m_th]; exact q2, by rw [m_th]; exact q3, fun u hu => by rw [m_th]; exact hoth u hu, m_kn.trans H.kn, fun o => by rw [m_ct]; exact H.ct o, fun u o b hu => ?_⟩ hT0 H.key, ?_⟩
    · rw [m_la]
      unfold up1
      split
      · rename_i heq
        simp only [Prod.mk.injEq] at heq
        obtain ⟨h1, h2, h3⟩ := heq
        refine ⟨n, by omega, rfl, ⟨by omega, h2.symm, ?_⟩, fun a' h4 h5 => by omega⟩
        cases b with
        | true => simp at h3; simp [h3]
        | false =>
          have : (evA t n).f2 ≠ 8 := by simpa using h3.symm
          simp
          omega
      · rename_i heq
        have hu2 := h.laS u o b hu
        rw [← H.la] at hu2
        refine hu2.more fun hh => heq ?_
        simp only [Prod.mk.injEq]
        refine ⟨by omega, hh.2.1.symm, ?_⟩
        cases b with
        | true => simp at hh; simp [hh.2.2]
        | false => simp at hh; simp [hh.2.2]
    · rw [m_out]
      show d1.out ++ _ = _
      rw [ho1]
theorem vc_run (h6 : Six t) (hl : t.length ≤ 2000) (hM : ∀ a n, a < n → n < t.length → (M a n = true ↔ Reach (dirR c t) a n)) : ∀ n, n ≤ t.length → VC c t n (runL c t n) ∧ (runL c t n).out = refL M t n
  | 0, _ => ⟨vc_start c t, rfl⟩
  | n + 1, hn => by
    obtain ⟨h1, h2⟩ := vc_run h6 hl hM n (by omega)
    obtain ⟨h3, h4⟩ := h1.event h6 (by omega) hl (fun a ha => hM a n ha (by omega))
    refine ⟨h3, h4.trans ?_⟩
    rw [h2]
    rfl
end
end Go.Proofs.Ytblnimopffhocaa.Pure
