/- The document's races, gone through: they are what the detector tells. -/
import Derived.Test.YtblnimopffhocaaPureF
import Derived.Test.YtblnimopffhocaaPx7
namespace Go.Proofs.Ytblnimopffhocaa.Pure
open Go.RowKit Go.Proofs.Ytblnimopffhocaa.P Go.Proofs.YtblnimopffhocaaW.PrintWords Go.Proofs.YtblnimopffhocaaW.PrintLast Go.Proofs.YtblnimopffhocaaX
set_option linter.unusedVariables false
set_option linter.unusedSimpArgs false
section
variable (a0 a1 a2 a4 a5 : Int) (c : List Int) (l6 : List (List S25)) (t : List Ev) (M : Nat → Nat → Bool)
theorem rfind3 (hl : t.length ≤ 2000) (j u : Nat) (hj : j < t.length) (m : List Int) (hm : MarksOk c t j 0 m) (hM : ∀ a, a < j → (M a j = true ↔ Reach (dirR c t) a j)) (out : List Rc) (ho : out.length ≤ 100000) (K0 : Nat) :
 ∀ (d i k : Nat), i + d = j → d + 1 + K0 ≤ k → ∃ k', K0 ≤ k' ∧ interlockref08_Find.l3 k t out (j : Int) m (u : Int) (lastC t j u i) (i : Int) a0 a1 a2 c a4 a5 l6 = interlockref08_Find.l2 k' t (out ++ rfL M t j u) (j : Int) m (wrap64 ((u : Int) + 1)) a0 a1 a2 c a4 a5 l6
 | 0, i, k, hi, hk => by
  obtain ⟨k, rfl⟩ : ∃ q, k = q + 1 := ⟨k - 1, by omega⟩
  obtain rfl : i = j := by omega
  refine ⟨k, by omega, ?_⟩
  have hlt := lastC_lt t i u i
  rw [interlockref08_Find.l3, if_neg (by omega)]
  unfold rfL
  by_cases h0 : lastC t i u i ≥ 0
  · obtain ⟨a, ha⟩ := Int.eq_ofNat_of_zero_le h0
    rw [ha] at hlt ⊢
    have hai : a < i := by omega
    rw [if_pos (by omega), if_pos (by omega), if_pos (by rw [hm.len]; omega), show rd m ((a : Nat) : Int) = m.getD a 0 from by unfold rd; rw [Int.toNat_natCast], Int.toNat_natCast]
    have hMa := hM a hai
    by_cases hr : Reach (dirR c t) a i
    · rw [hm.yes a (by omega) hai hr, if_neg (by decide), if_neg (by simp [hMa.2 hr]), List.append_nil]
    · have hf : M a i = false := by
       cases h : M a i with
       | false => rfl
       | true => exact absurd (hMa.1 h) hr
      rw [hm.no a (fun h => hr h.2.2), if_pos rfl, if_pos (by omega), if_pos (by simp [hf])]
  · rw [if_neg h0, if_neg (by simp; intro h; omega), List.append_nil]
 | d + 1, i, k, hi, hk => by
  obtain ⟨k, rfl⟩ : ∃ q, k = q + 1 := ⟨k - 1, by omega⟩
  obtain ⟨k', hk1, e⟩ := rfind3 hl j u hj m hm hM out ho K0 d (i + 1) k (by omega) (by omega)
  refine ⟨k', hk1, ?_⟩
  rw [← e, interlockref08_Find.l3, if_pos (by omega), if_pos (by omega), if_pos (by omega), rdE, rdE, w1 (by omega)]
  rw [lastC]
  by_cases h0 : (evA t i).f0 = (u : Int)
  · rw [if_pos h0, if_pos (by omega), if_pos (by omega), conflict_eq, Option.bind_some]
    by_cases hc : conflB (evA t i) (evA t j) = true
    · rw [if_pos hc, if_pos (by rw [Bool.and_eq_true, beq_iff_eq]; exact ⟨h0, hc⟩)]
    · rw [if_neg hc, if_neg (by rw [Bool.and_eq_true, beq_iff_eq]; exact fun h => hc h.2)]
  · rw [if_neg h0, if_neg (by rw [Bool.and_eq_true, beq_iff_eq]; exact fun h => h0 h.1)]
theorem rfs_len (t : List Ev) (M : Nat → Nat → Bool) (n : Nat) : ∀ u, (rfs M t n u).length ≤ u
 | 0 => Nat.le_refl _
 | u + 1 => by
  have := rfs_len t M n u
  have h2 : (rfL M t n u).length ≤ 1 := by unfold rfL; split <;> simp
  rw [rfs, List.length_append]
  omega
theorem rfind2 (hl : t.length ≤ 2000) (j : Nat) (hj : j < t.length) (m : List Int) (hm : MarksOk c t j 0 m) (hM : ∀ a, a < j → (M a j = true ↔ Reach (dirR c t) a j)) (out : List Rc) (ho : out.length + 6 ≤ 100000) (K0 : Nat) :
 ∀ (d u k : Nat), u + d = 6 → d * (j + 3) + 1 + K0 ≤ k → ∃ k', K0 ≤ k' ∧ interlockref08_Find.l2 k t (out ++ rfs M t j u) (j : Int) m (u : Int) a0 a1 a2 c a4 a5 l6 = interlockref08_Find.l1 k' t (out ++ rfs M t j 6) (wrap64 ((j : Int) + 1)) a0 a1 a2 c a4 a5 l6
 | 0, u, k, hu, hk => by
  obtain ⟨k, rfl⟩ : ∃ q, k = q + 1 := ⟨k - 1, by omega⟩
  obtain rfl : u = 6 := by omega
  exact ⟨k, by omega, by rw [interlockref08_Find.l2, if_neg (by decide)]⟩
 | d + 1, u, k, hu, hk => by
  have hmul : (d + 1) * (j + 3) = d * (j + 3) + (j + 3) := by rw [Nat.add_mul, Nat.one_mul]
  obtain ⟨G, hG⟩ : ∃ G, d * (j + 3) = G := ⟨_, rfl⟩
  rw [hmul, hG] at hk
  obtain ⟨k, rfl⟩ : ∃ q, k = q + 1 := ⟨k - 1, by omega⟩
  have hlen := rfs_len t M j u
  obtain ⟨k', hk1, e⟩ := rfind3 a0 a1 a2 a4 a5 c l6 t M hl j u hj m hm hM (out ++ rfs M t j u) (by rw [List.length_append]; omega) (G + 1 + K0) j 0 k (by omega) (by omega)
  obtain ⟨k2, hk2, e2⟩ := rfind2 hl j hj m hm hM out ho K0 d (u + 1) k' (by omega) (by rw [hG]; exact hk1)
  refine ⟨k2, hk2, ?_⟩
  rw [← e2, interlockref08_Find.l2, if_pos (by omega)]
  refine Eq.trans e ?_
  rw [w1 (by omega), List.append_assoc]
  rfl
def fuelR (L : Nat) : Nat → Nat
 | 0 => fuelM L L + L + 50
 | d + 1 => fuelR L d + (6 * (L + 3) + 10)
theorem fuelR_ge (L : Nat) : ∀ d, fuelM L L + L + 50 ≤ fuelR L d
 | 0 => Nat.le_refl _
 | d + 1 => by have := fuelR_ge L d; unfold fuelR; omega
theorem refL_len (t : List Ev) (M : Nat → Nat → Bool) : ∀ n, (refL M t n).length ≤ 6 * n
 | 0 => Nat.le_refl _
 | n + 1 => by
  have h1 := refL_len t M n
  have h2 := rfs_len t M n 6
  rw [refL, List.length_append]
  split
  · omega
  · simp; omega
theorem rfind1 (hl : t.length ≤ 2000) (hM : ∀ a j, a < j → j < t.length → (M a j = true ↔ Reach (dirR c t) a j)) : ∀ (d j k : Nat), j + d = t.length → fuelR t.length d ≤ k → interlockref08_Find.l1 k t (refL M t j) (j : Int) a0 a1 a2 c a4 a5 l6 = some (refL M t t.length)
 | 0, j, k, hj, hk => by
  have h1 := fuelR_ge t.length 0
  obtain ⟨k, rfl⟩ : ∃ q, k = q + 1 := ⟨k - 1, by omega⟩
  obtain rfl : j = t.length := by omega
  rw [interlockref08_Find.l1, if_neg (by omega)]
 | d + 1, j, k, hj, hk => by
  have h1 := fuelR_ge t.length d
  have hk' : fuelR t.length d + (6 * (t.length + 3) + 10) ≤ k := hk
  obtain ⟨k, rfl⟩ : ∃ q, k = q + 2 := ⟨k - 2, by omega⟩
  have nx := fun k hk => rfind1 hl hM d (j + 1) k (by omega) hk
  have hlen := refL_len t M j
  rw [interlockref08_Find.l1, if_pos (by omega), if_pos (by omega), rdE]
  have skip : touchB (evA t j) = false → interlockref08_Find.j2 (k + 1) t (refL M t j) (j : Int) true a0 a1 a2 c a4 a5 l6 = some (refL M t t.length) := fun h => by
   rw [interlockref08_Find.j2, if_pos rfl, w1 (by omega)]
   have e := nx k (by omega)
   rw [refL, h, if_neg (by decide), List.append_nil] at e
   exact e
  have go : touchB (evA t j) = true → interlockref08_Find.j2 (k + 1) t (refL M t j) (j : Int) false a0 a1 a2 c a4 a5 l6 = some (refL M t t.length) := fun h => by
   obtain ⟨m, hm1, hm2⟩ := marks_eq a0 a1 a2 a4 a5 c l6 t hl j k (by omega) (by omega)
   rw [interlockref08_Find.j2, if_neg (by decide), hm1, Option.bind_some]
   obtain ⟨k', hk1, e⟩ := rfind2 a0 a1 a2 a4 a5 c l6 t M hl j (by omega) m hm2 (fun a ha => hM a j ha (by omega)) (refL M t j) (by omega) (fuelR t.length d) 6 0 k (by omega) (by omega)
   rw [rfs, List.append_nil] at e
   refine Eq.trans e ?_
   rw [w1 (by omega)]
   have e2 := nx k' hk1
   rw [refL, h, if_pos rfl] at e2
   exact e2
  by_cases h7 : (evA t j).f2 = 7
  · rw [if_pos h7]
    exact go (by simp [touchB, h7])
  · rw [if_neg h7]
    by_cases h8 : (evA t j).f2 = 8
    · rw [show ((evA t j).f2 != 8) = false by simp [h8]]
      exact go (by simp [touchB, h8])
    · rw [show ((evA t j).f2 != 8) = true by simp [h8]]
      exact skip (by simp [touchB, h7, h8])
theorem rfind0 (hl : t.length ≤ 2000) (ho : t.any oddE = false) (hM : ∀ a j, a < j → j < t.length → (M a j = true ↔ Reach (dirR c t) a j)) : ∀ (d j k : Nat), j + d = t.length → fuelR t.length t.length + d + 1 ≤ k → interlockref08_Find.l0 k t (j : Int) a0 a1 a2 c a4 a5 l6 = some (refL M t t.length)
 | 0, j, k, hj, hk => by
  obtain ⟨k, rfl⟩ : ∃ q, k = q + 1 := ⟨k - 1, by omega⟩
  rw [interlockref08_Find.l0, if_neg (by omega)]
  exact rfind1 a0 a1 a2 a4 a5 c l6 t M hl hM t.length 0 k (by omega) (by omega)
 | d + 1, j, k, hj, hk => by
  obtain ⟨k, rfl⟩ : ∃ q, k = q + 1 := ⟨k - 1, by omega⟩
  have hod : oddE (evA t j) = false := by
   unfold evA
   rw [List.getD_eq_getElem?_getD, List.getElem?_eq_getElem (by omega)]
   simpa using List.any_eq_false.1 ho t[j] (List.getElem_mem _)
  unfold oddE at hod
  simp only [Bool.or_eq_false_iff, decide_eq_false_iff_not] at hod
  rw [interlockref08_Find.l0, if_pos (by omega), if_neg (by omega), if_pos (by omega), rdE, if_neg (by omega), if_neg (by omega), w1 (by omega)]
  exact rfind0 hl ho hM d (j + 1) k (by omega) (by omega)
theorem rfind_odd (hl : t.length ≤ 2000) (x : Nat) (hx : x < t.length) (hox : oddE (evA t x) = true) : ∀ (d j k : Nat), j + d = x → d + 1 ≤ k → interlockref08_Find.l0 k t (j : Int) a0 a1 a2 c a4 a5 l6 = some []
 | d, j, k, hj, hk => by
  obtain ⟨k, rfl⟩ : ∃ q, k = q + 1 := ⟨k - 1, by omega⟩
  rw [interlockref08_Find.l0, if_pos (by omega), if_neg (by omega), if_pos (by omega), rdE]
  by_cases h1 : (evA t j).f0 < 0
  · rw [if_pos h1]
  · rw [if_neg h1]
    by_cases h2 : (evA t j).f0 > 5
    · rw [if_pos h2]
    · rw [if_neg h2, w1 (by omega)]
      cases d with
      | zero =>
       obtain rfl : j = x := by omega
       unfold oddE at hox
       simp only [Bool.or_eq_true, decide_eq_true_eq] at hox
       omega
      | succ d => exact rfind_odd hl x hx hox d (j + 1) k (by omega) (by omega)
end
theorem rfind_eq (a0 a1 a2 a4 a5 : Int) (c : List Int) (l6 : List (List S25)) (t : List Ev) (hl : t.length ≤ 2000) (k : Nat) (hk : fuelR t.length t.length + t.length + 10 ≤ k) : interlockref08_Find.f k a0 a1 a2 c a4 a5 l6 t = some (findL c t) := by
 unfold interlockref08_Find.f
 have h1 := fuelR_ge t.length t.length
 cases ho : t.any oddE with
 | true =>
  obtain ⟨e, he, hoe⟩ := List.any_eq_true.1 ho
  obtain ⟨x, hx, rfl⟩ := List.getElem_of_mem he
  have hox : oddE (evA t x) = true := by
   unfold evA
   rw [List.getD_eq_getElem?_getD, List.getElem?_eq_getElem hx]
   exact hoe
  have h2 := rfind_odd a0 a1 a2 a4 a5 c l6 t hl x hx hox x 0 k (by omega) (by omega)
  rw [show ((0 : Nat) : Int) = 0 from rfl] at h2
  rw [h2]
  unfold findL
  rw [ho, Bool.or_true, if_pos rfl]
 | false =>
  have h6 : Six t := fun a ha => by
   have hod : oddE (evA t a) = false := by
    unfold evA
    rw [List.getD_eq_getElem?_getD, List.getElem?_eq_getElem ha]
    simpa using List.any_eq_false.1 ho t[a] (List.getElem_mem _)
   unfold oddE at hod
   simp only [Bool.or_eq_false_iff, decide_eq_false_iff_not] at hod
   omega
  obtain ⟨M, hM⟩ : ∃ M : Nat → Nat → Bool, ∀ a n, M a n = true ↔ Reach (dirR c t) a n := ⟨fun a n => @decide (Reach (dirR c t) a n) (Classical.propDecidable _), fun a n => by simp⟩
  have h2 := rfind0 a0 a1 a2 a4 a5 c l6 t M hl ho (fun a j _ _ => hM a j) t.length 0 k (by omega) (by omega)
  rw [show ((0 : Nat) : Int) = 0 from rfl] at h2
  rw [h2]
  unfold findL
  rw [ho, Bool.or_false, decide_eq_false (by omega), if_neg (by decide), (vc_run h6 hl (fun a n _ _ => hM a n) t.length (Nat.le_refl _)).2]
theorem same_loop (a b : List Rc) (hab : a = b) (hl : a.length ≤ 100000) (k : Nat) : ∀ d i : Nat, i + d = a.length → interlockref08_Same.l0 (k + d + 1) a b (i : Int) = some true
 | 0, i, h => by
  unfold interlockref08_Same.l0
  rw [if_neg (by omega)]
 | d + 1, i, h => by
  rw [show k + (d + 1) + 1 = (k + d + 1) + 1 from rfl, interlockref08_Same.l0, if_pos (by omega), if_pos (by omega), if_pos (by rw [← hab]; omega), if_neg (by rw [hab]; simp), show wrap64 ((i : Int) + 1) = ((i + 1 : Nat) : Int) from by unfold wrap64; omega]
  exact same_loop a b hab hl k d (i + 1) (by omega)
theorem same_refl (a : List Rc) (hl : a.length ≤ 100000) (k : Nat) (hk : a.length < k) : interlockref08_Same.f k a a = some true := by
 unfold interlockref08_Same.f
 rw [if_pos rfl]
 have := same_loop a a rfl hl (k - a.length - 1) a.length 0 (by omega)
 rw [show k - a.length - 1 + a.length + 1 = k by omega] at this
 exact this
theorem findL_len (c : List Int) (t : List Ev) (hl : t.length ≤ 2000) : (findL c t).length ≤ 6 * t.length := by
 unfold findL
 split
 · simp
 · rename_i h
   rw [Bool.or_eq_true, not_or] at h
   exact (runL_ok c t (by simpa using h.2) t.length (Nat.le_refl _)).out
end Go.Proofs.Ytblnimopffhocaa.Pure
