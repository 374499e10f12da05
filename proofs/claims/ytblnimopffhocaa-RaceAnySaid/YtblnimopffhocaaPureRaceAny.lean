/- There is a race just if any two events that conflict are in no order; each that is told is such a pair. -/
import Derived.Test.YtblnimopffhocaaPureG
import Derived.Test.YtblnimopffhocaaPx6
namespace Go.Proofs.Ytblnimopffhocaa.Pure
open Go.RowKit Go.Proofs.Ytblnimopffhocaa.P Go.Proofs.YtblnimopffhocaaW.PrintWords Go.Proofs.YtblnimopffhocaaW.PrintLast Go.Proofs.YtblnimopffhocaaX
set_option linter.unusedVariables false
set_option linter.unusedSimpArgs false
def inAny (t : List Ev) (M : Nat → Nat → Bool) (j : Nat) : Nat → Bool
  | 0 => false
  | i + 1 => inAny t M j i || (conflB (evA t i) (evA t j) && !M i j)
def upAny (t : List Ev) (M : Nat → Nat → Bool) : Nat → Bool
  | 0 => false
  | j + 1 => upAny t M j || inAny t M j j
theorem inAny_iff (t : List Ev) (M : Nat → Nat → Bool) (j : Nat) : ∀ m, inAny t M j m = true ↔ ∃ i, i < m ∧ conflB (evA t i) (evA t j) = true ∧ M i j = false
  | 0 => by simp [inAny]
  | m + 1 => by
    rw [inAny, Bool.or_eq_true, inAny_iff t M j m, Bool.and_eq_true, Bool.not_eq_true']
    constructor
    · rintro (⟨i, h1, h2⟩ | h)
      · exact ⟨i, by omega, h2⟩
      · exact ⟨m, by omega, h⟩
    · rintro ⟨i, h1, h2⟩
      by_cases him : i = m
      · subst him; exact .inr h2
      · exact .inl ⟨i, by omega, h2⟩
theorem upAny_iff (t : List Ev) (M : Nat → Nat → Bool) : ∀ n, upAny t M n = true ↔ ∃ i j, i < j ∧ j < n ∧ conflB (evA t i) (evA t j) = true ∧ M i j = false
  | 0 => by simp [upAny]
  | n + 1 => by
    rw [upAny, Bool.or_eq_true, upAny_iff t M n, inAny_iff]
    constructor
    · rintro (⟨i, j, h1, h2, h3⟩ | ⟨i, h1, h2⟩)
      · exact ⟨i, j, h1, by omega, h3⟩
      · exact ⟨i, n, h1, by omega, h2⟩
    · rintro ⟨i, j, h1, h2, h3⟩
      by_cases hjn : j = n
      · subst hjn; exact .inr ⟨i, h1, h3⟩
      · exact .inl ⟨i, j, h1, by omega, h3⟩
theorem lastC_match (t : List Ev) (n u : Nat) : ∀ m, 0 ≤ lastC t n u m → ∃ a : Nat, a < m ∧ lastC t n u m = (a : Int) ∧ matchP t n u a
  | 0, h => by unfold lastC at h; omega
  | m + 1, h => by
    rw [lastC] at h ⊢
    split
    · rename_i hc
      rw [Bool.and_eq_true, beq_iff_eq] at hc
      exact ⟨m, by omega, rfl, hc⟩
    · rename_i hc
      rw [if_neg hc] at h
      obtain ⟨a, h1, h2, h3⟩ := lastC_match t n u m h
      exact ⟨a, by omega, h2, h3⟩
theorem lastC_ge (t : List Ev) (n u i : Nat) (hm : matchP t n u i) : ∀ m, i < m → (i : Int) ≤ lastC t n u m
  | m + 1, h => by
    rw [lastC]
    split
    · omega
    · rename_i hc
      by_cases him : i = m
      · subst him
        rw [Bool.and_eq_true, beq_iff_eq] at hc
        exact absurd hm hc
      · exact lastC_ge t n u i hm m (by omega)
section
variable {c : List Int} {t : List Ev} {M : Nat → Nat → Bool}
theorem mem_rfL {n u : Nat} {r : Rc} (h : r ∈ rfL M t n u) : ∃ a : Nat, r = ⟨(a : Int), (n : Int)⟩ ∧ a < n ∧ conflB (evA t a) (evA t n) = true ∧ M a n = false := by
  unfold rfL at h
  split at h
  · rename_i hc
    rw [Bool.and_eq_true, decide_eq_true_iff, Bool.not_eq_true'] at hc
    obtain ⟨a, h1, h2, h3⟩ := lastC_match t n u n hc.1
    rw [List.mem_singleton] at h
    rw [h2, Int.toNat_natCast] at hc
    exact ⟨a, by rw [h, h2], h1, h3.2, hc.2⟩
  · cases h
theorem mem_rfs {n : Nat} {r : Rc} : ∀ u, r ∈ rfs M t n u → ∃ a : Nat, r = ⟨(a : Int), (n : Int)⟩ ∧ a < n ∧ conflB (evA t a) (evA t n) = true ∧ M a n = false
  | 0, h => by cases h
  | u + 1, h => by
    rw [rfs] at h
    rcases List.mem_append.1 h with h | h
    · exact mem_rfs u h
    · exact mem_rfL h
theorem mem_refL {r : Rc} : ∀ n, r ∈ refL M t n → ∃ a b : Nat, r = ⟨(a : Int), (b : Int)⟩ ∧ a < b ∧ b < n ∧ conflB (evA t a) (evA t b) = true ∧ M a b = false
  | 0, h => by cases h
  | n + 1, h => by
    rw [refL] at h
    rcases List.mem_append.1 h with h | h
    · obtain ⟨a, b, h1, h2, h3, h4⟩ := mem_refL n h
      exact ⟨a, b, h1, h2, by omega, h4⟩
    · split at h
      · obtain ⟨a, h1, h2, h3⟩ := mem_rfs 6 h
        exact ⟨a, n, h1, h2, by omega, h3⟩
      · cases h
theorem rfs_mem {n u : Nat} {r : Rc} (h : r ∈ rfL M t n u) : ∀ m, u < m → r ∈ rfs M t n m
  | m + 1, hu => by
    rw [rfs]
    by_cases hum : u = m
    · subst hum; exact List.mem_append.2 (.inr h)
    · exact List.mem_append.2 (.inl (rfs_mem h m (by omega)))
theorem refL_mem {n : Nat} {r : Rc} (htb : touchB (evA t n) = true) (h : r ∈ rfs M t n 6) : ∀ m, n < m → r ∈ refL M t m
  | m + 1, hn => by
    rw [refL]
    by_cases hnm : n = m
    · subst hnm; rw [htb, if_pos rfl]; exact List.mem_append.2 (.inr h)
    · exact List.mem_append.2 (.inl (refL_mem htb h m (by omega)))
theorem any_ref (h6 : Six t) (hM : ∀ a n, M a n = true ↔ Reach (dirR c t) a n) : (decide (((refL M t t.length).length : Int) > 0)) = upAny t M t.length := by
  rw [Bool.eq_iff_iff, decide_eq_true_iff, upAny_iff]
  constructor
  · intro h
    obtain ⟨r, hr⟩ := List.exists_mem_of_length_pos (l := refL M t t.length) (by omega)
    obtain ⟨a, b, _, h1, h2, h3, h4⟩ := mem_refL _ hr
    exact ⟨a, b, h1, h2, h3, h4⟩
  · rintro ⟨i, j, h1, h2, h3, h4⟩
    obtain ⟨u, hu⟩ := Int.eq_ofNat_of_zero_le (h6 i (by omega)).1
    have hu6 : u < 6 := by have := (h6 i (by omega)).2; omega
    have hmi : matchP t j u i := ⟨hu, h3⟩
    have hge := lastC_ge t j u i hmi j h1
    obtain ⟨a, ha1, ha2, ha3⟩ := lastC_match t j u j (by omega)
    have hMa : M a j = false := by
      cases hm : M a j with
      | false => rfl
      | true =>
        have hr := (hM a j).1 hm
        have hri : Reach (dirR c t) i j := by
          by_cases hia : i = a
          · rw [hia]; exact hr
          · refine .more (show i < a by omega) ?_ hr
            rw [dirR_iff]
            exact .inl (.inl (by rw [hu, ha3.1]))
        have := (hM i j).2 hri
        rw [this] at h4
        cases h4
    have hmem : (⟨(a : Int), (j : Int)⟩ : Rc) ∈ rfL M t j u := by
      unfold rfL
      rw [ha2, Int.toNat_natCast, hMa, if_pos (by simp)]
      exact List.mem_singleton.2 rfl
    have htb : touchB (evA t j) = true := by
      unfold conflB at h3
      simp only [Bool.and_eq_true] at h3
      unfold touchB
      exact h3.1.2
    have := List.length_pos_of_mem (refL_mem htb (rfs_mem hmem 6 hu6) t.length h2)
    omega
end
section
variable (c : List Int) (t : List Ev) (M : Nat → Nat → Bool) (p0 p1 p2 p4 p5 : Int)
theorem any_inner (hl : t.length ≤ 2000) (j : Nat) (hj : j < t.length) (m : List Int) (hm : MarksOk c t j 0 m) (hM : ∀ a n, M a n = true ↔ Reach (dirR c t) a n) (K0 : Nat) : ∀ (d i k : Nat), i + d = j → d + 1 + K0 ≤ k →
    ∃ k', K0 ≤ k' ∧ interlocklaw08_RaceAny.l1 k t (upAny t M j || inAny t M j i) (j : Int) m (i : Int) p0 p1 p2 c p4 p5 = interlocklaw08_RaceAny.l0 k' t (upAny t M (j + 1)) ((j + 1 : Nat) : Int) p0 p1 p2 c p4 p5
  | 0, i, k, hi, hk => by
    obtain ⟨k, rfl⟩ : ∃ q, k = q + 1 := ⟨k - 1, by omega⟩
    obtain rfl : i = j := by omega
    exact ⟨k, by omega, by rw [interlocklaw08_RaceAny.l1, if_neg (by omega), w1 (by omega)]; rfl⟩
  | d + 1, i, k, hi, hk => by
    obtain ⟨k, rfl⟩ : ∃ q, k = q + 1 := ⟨k - 1, by omega⟩
    obtain ⟨k', hk1, e⟩ := any_inner hl j hj m hm hM K0 d (i + 1) k (by omega) (by omega)
    refine ⟨k', hk1, ?_⟩
    rw [← e, interlocklaw08_RaceAny.l1, if_pos (by omega), w1 (by omega), inAny]
    cases hb : (upAny t M j || inAny t M j i) with
    | true =>
      rw [if_pos rfl, ← Bool.or_assoc, hb, Bool.true_or]
    | false =>
      rw [if_neg (by decide), ← Bool.or_assoc, hb, Bool.false_or, if_pos (by omega), if_pos (by omega), if_pos (by omega), if_pos (by omega), rdE, rdE, conflict_eq, Option.bind_some]
      by_cases hc : conflB (evA t i) (evA t j) = true
      · rw [if_pos hc, if_pos (by rw [hm.len]; omega), hc, Bool.true_and, show rd m ((i : Nat) : Int) = m.getD i 0 from by unfold rd; rw [Int.toNat_natCast]]
        have e2 : (m.getD i 0 == 0) = !M i j := by
          by_cases hr : Reach (dirR c t) i j
          · rw [hm.yes i (by omega) (by omega) hr, (hM i j).2 hr]; rfl
          · have hf : M i j = false := by
              cases h : M i j with
              | false => rfl
              | true => exact absurd ((hM i j).1 h) hr
            rw [hm.no i (fun h => hr h.2.2), hf]; rfl
        rw [e2]
      · rw [if_neg hc]
        have : conflB (evA t i) (evA t j) = false := by simpa using hc
        rw [this, Bool.false_and]
def fuelA (L : Nat) (K : Nat) : Nat → Nat
  | 0 => K
  | d + 1 => fuelA L K d + (L + 5)
theorem fuelA_ge (L K : Nat) : ∀ d, K ≤ fuelA L K d
  | 0 => Nat.le_refl _
  | d + 1 => by have := fuelA_ge L K d; unfold fuelA; omega
theorem any_outer (hl : t.length ≤ 2000) (hM : ∀ a n, M a n = true ↔ Reach (dirR c t) a n) (K : Nat) (hK : fuelM t.length t.length + t.length + 40 ≤ K) : ∀ (d j k : Nat), j + d = t.length → fuelA t.length K d + 1 ≤ k →
    ∃ k', K ≤ k' ∧ interlocklaw08_RaceAny.l0 k t (upAny t M j) (j : Int) p0 p1 p2 c p4 p5 = (race_Find.f p0 p1 p2 c p4 p5 [] t).bind fun f => interlocklaw08_RaceAny.l2 k' t (upAny t M t.length) f 0 p0 p1 p2 c p4 p5
  | 0, j, k, hj, hk => by
    have h1 : K + 1 ≤ k := hk
    obtain ⟨k, rfl⟩ : ∃ q, k = q + 1 := ⟨k - 1, by omega⟩
    obtain rfl : j = t.length := by omega
    exact ⟨k, by omega, by rw [interlocklaw08_RaceAny.l0, if_neg (by omega)]⟩
  | d + 1, j, k, hj, hk => by
    have h1 : fuelA t.length K d + (t.length + 5) + 1 ≤ k := hk
    have h2 := fuelA_ge t.length K d
    obtain ⟨k, rfl⟩ : ∃ q, k = q + 1 := ⟨k - 1, by omega⟩
    obtain ⟨m, hm1, hm2⟩ := marks_eq p0 p1 p2 p4 p5 c [] t hl j k (by omega) (by omega)
    obtain ⟨k', hk1, e⟩ := any_inner c t M p0 p1 p2 p4 p5 hl j (by omega) m hm2 hM (fuelA t.length K d + 1) j 0 k (by omega) (by omega)
    obtain ⟨k2, hk2, e2⟩ := any_outer hl hM K hK d (j + 1) k' (by omega) hk1
    refine ⟨k2, hk2, ?_⟩
    rw [interlocklaw08_RaceAny.l0, if_pos (by omega), hm1, Option.bind_some, ← e2, ← e, inAny, Bool.or_false]
    rfl
theorem before_no (hl : t.length ≤ 2000) (i j k : Nat) (hij : i < j) (hj : j < t.length) (hr : ¬ Reach (dirR c t) i j) (hk : fuelM t.length t.length + t.length + 30 ≤ k) : interlockref07_Before.f k p0 p1 p2 c p4 p5 [] t (i : Int) (j : Int) = some false := by
  obtain ⟨m, hm1, hm2⟩ := marks_eq p0 p1 p2 p4 p5 c [] t hl j k hj hk
  unfold interlockref07_Before.f
  rw [if_neg (by omega), if_neg (by omega), if_neg (by omega), hm1, Option.bind_some, if_pos (by omega), if_pos (by rw [hm2.len]; omega), show rd m ((i : Nat) : Int) = m.getD i 0 from by unfold rd; rw [Int.toNat_natCast], hm2.no i (fun h => hr h.2.2)]
  rfl
theorem rd_race (f : List Rc) (i : Nat) (hi : i < f.length) : rd_T55 f (i : Int) = f[i] := by
  unfold rd_T55
  rw [Int.toNat_natCast, List.getD_eq_getElem?_getD, List.getElem?_eq_getElem hi]
  rfl
theorem any_last (hl : t.length ≤ 2000) (hM : ∀ a n, M a n = true ↔ Reach (dirR c t) a n) (f : List Rc) (hf : f = refL M t t.length) (h6 : Six t) (hfl : findL c t = f) : ∀ (d i k : Nat), i + d = f.length → fuelM t.length t.length + t.length + 40 + d ≤ k → f.length ≤ 100000 →
    interlocklaw08_RaceAny.l2 k t (upAny t M t.length) f (i : Int) p0 p1 p2 c p4 p5 = some true
  | 0, i, k, hi, hk, hfl2 => by
    obtain ⟨k, rfl⟩ : ∃ q, k = q + 1 := ⟨k - 1, by omega⟩
    have hany := any_ref (c := c) h6 hM
    rw [← hf] at hany
    rw [interlocklaw08_RaceAny.l2, if_neg (by omega), known_true, Option.bind_some, if_pos rfl, if_pos (by rw [hany]; simp)]
    unfold race_Racy.f race_Find.f
    rw [Option.bind_some, Option.bind_some, hfl, hany, beq_self_eq_true]
  | d + 1, i, k, hi, hk, hfl2 => by
    obtain ⟨k, rfl⟩ : ∃ q, k = q + 1 := ⟨k - 1, by omega⟩
    have nx := any_last hl hM f hf h6 hfl d (i + 1) k (by omega) (by omega) hfl2
    have hmem : f[i]'(by omega) ∈ refL M t t.length := by rw [← hf]; exact List.getElem_mem _
    obtain ⟨a, b, h1, h2, h3, h4, h5⟩ := mem_refL _ hmem
    have hr : ¬ Reach (dirR c t) a b := fun h => by rw [(hM a b).2 h] at h5; cases h5
    rw [interlocklaw08_RaceAny.l2, if_pos (by omega), if_pos (by omega), rd_race f i (by omega), h1]
    simp only
    rw [if_neg (by omega), if_neg (by omega), if_neg (by omega), if_pos (by omega), if_pos (by omega), if_pos (by omega), if_pos (by omega), rdE, rdE, conflict_eq, Option.bind_some, h4, if_pos rfl, before_no c t p0 p1 p2 p4 p5 hl a b k h2 h3 hr (by omega), Option.bind_some, if_neg (by decide), w1 (by omega)]
    exact nx
end
theorem fuelM_eq2 (L i : Nat) : fuelM L i = 40 + i * (2 * L + 20) := by
  induction i with
  | zero => unfold fuelM; omega
  | succ i ih => rw [fuelM, ih, Nat.add_mul]; omega
theorem fuelA_eq (L K i : Nat) : fuelA L K i = K + i * (L + 5) := by
  induction i with
  | zero => unfold fuelA; omega
  | succ i ih => rw [fuelA, ih, Nat.add_mul]; omega
def RaceAnyPure : Prop := ∀ (l0 : List (S61)), l0.length ≤ maxLen → rawWf l0 → ∃ k, interlocklaw08_RaceAny.f k l0 = some true
theorem RaceAny : RaceAnyPure := by
  intro l0 _ hw
  refine ⟨10000, ?_⟩
  obtain ⟨t, hT, hl, h3⟩ := trace_some l0 hw 9974
  unfold interlocklaw08_RaceAny.f
  rw [hT, Option.bind_some]
  have h6 : Six t := fun a ha => by
    have := getD_three h3 ha
    unfold Three at this
    unfold evA
    omega
  obtain ⟨M, hM⟩ : ∃ M : Nat → Nat → Bool, ∀ a n, M a n = true ↔ Reach (dirR [1, 1] t) a n := ⟨fun a n => @decide (Reach (dirR [1, 1] t) a n) (Classical.propDecidable _), fun a n => by simp⟩
  have hfl : findL [1, 1] t = refL M t t.length := by
    rw [find_run _ h3 (by omega)]
    exact (vc_run h6 (by omega) (fun a n _ _ => hM a n) t.length (Nat.le_refl _)).2
  have hlen := refL_len t M t.length
  have hfm : fuelM t.length t.length ≤ 40 + 25 * 70 := by
    rw [fuelM_eq2]
    have : t.length * (2 * t.length + 20) ≤ 25 * 70 := Nat.mul_le_mul hl (by omega)
    omega
  have hfa : fuelA t.length 3000 t.length ≤ 3000 + 25 * 30 := by
    rw [fuelA_eq]
    have : t.length * (t.length + 5) ≤ 25 * 30 := Nat.mul_le_mul hl (by omega)
    omega
  obtain ⟨k', hk', e⟩ := any_outer [1, 1] t M 0 0 0 0 0 (by omega) hM 3000 (by omega) t.length 0 10000 (by omega) (by omega)
  rw [upAny] at e
  refine Eq.trans e ?_
  unfold race_Find.f
  rw [Option.bind_some, hfl]
  exact any_last [1, 1] t M 0 0 0 0 0 (by omega) hM _ rfl h6 hfl (refL M t t.length).length 0 k' (by omega) (by omega) (by omega)
end Go.Proofs.Ytblnimopffhocaa.Pure
