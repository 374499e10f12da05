/- Events behind change none of the races that there are. -/
import Derived.Test.YtblnimopffhocaaPx5
import Derived.Test.YtblnimopffhocaaPureR
namespace Go.Proofs.Ytblnimopffhocaa.Pure
open Go.RowKit Go.Proofs.Ytblnimopffhocaa.P Go.Proofs.YtblnimopffhocaaW.PrintWords Go.Proofs.YtblnimopffhocaaW.PrintLast Go.Proofs.YtblnimopffhocaaX
set_option linter.unusedVariables false

theorem same_loop (a b : List S55) (hab : a = b) (hl : a.length ≤ 1000) (k : Nat) : ∀ d i : Nat, i + d = a.length → interlockref08_Same.l0 (k + d + 1) a b (i : Int) = some true
  | 0, i, h => by
    unfold interlockref08_Same.l0
    rw [if_neg (by omega)]
  | d + 1, i, h => by
    rw [show k + (d + 1) + 1 = (k + d + 1) + 1 from rfl, interlockref08_Same.l0, if_pos (by omega), if_pos (by omega), if_pos (by rw [← hab]; omega), if_neg (by rw [hab]; simp), show wrap64 ((i : Int) + 1) = ((i + 1 : Nat) : Int) from by unfold wrap64; omega]
    exact same_loop a b hab hl k d (i + 1) (by omega)
theorem same_refl (a : List S55) (hl : a.length ≤ 1000) (k : Nat) (hk : a.length < k) : interlockref08_Same.f k a a = some true := by
  unfold interlockref08_Same.f
  rw [if_pos rfl]
  have := same_loop a a rfl hl (k - a.length - 1) a.length 0 (by omega)
  rw [show k - a.length - 1 + a.length + 1 = k by omega] at this
  exact this
def RaceFrontsPure : Prop := ∀ (l0 : List (S61)) (a1 : Int), l0.length ≤ maxLen → rawWf l0 → (Lit.int .u8 a1).wf = true → ∃ k, interlocklaw08_RaceFronts.f k l0 a1 = some true
theorem RaceFronts : RaceFrontsPure := by
  intro l a1 _ hw w1
  obtain ⟨t, hT, hl, h3⟩ := trace_some l hw 1000
  refine ⟨1026, ?_⟩
  obtain ⟨r0, r1⟩ := u8_range w1
  have hw1 : wrap64 a1 = a1 := by unfold wrap64; omega
  have hw2 : wrap64 ((t.length : Int) + 1) = ((t.length + 1 : Nat) : Int) := by unfold wrap64; omega
  have hm1 := Int.emod_nonneg a1 (b := ((t.length + 1 : Nat) : Int)) (by omega)
  have hm2 := Int.emod_lt_of_pos a1 (b := ((t.length + 1 : Nat) : Int)) (by omega)
  obtain ⟨n, hn⟩ : ∃ n : Nat, Int.tmod a1 ((t.length + 1 : Nat) : Int) = (n : Int) := by
    rw [Int.tmod_eq_emod_of_nonneg r0]
    exact ⟨_, (Int.toNat_of_nonneg hm1).symm⟩
  have hnl : n ≤ t.length := by rw [Int.tmod_eq_emod_of_nonneg r0] at hn; omega
  unfold interlocklaw08_RaceFronts.f race_Find.f
  rw [Option.bind_some, hT, Option.bind_some, hw1, hw2, hn, if_neg (by omega), if_pos (by omega), if_pos (by omega), Int.toNat_natCast]
  have h3' : ∀ e ∈ t.take n, Three e := fun e he => h3 e (List.mem_of_mem_take he)
  have hlt : (t.take n).length = n := by rw [List.length_take]; omega
  obtain ⟨x, hx1, hx2⟩ := run_grows [1, 2] t n (t.length - n)
  rw [show n + (t.length - n) = t.length by omega] at hx1
  have ea : findL [1, 2] (t.take n) = (runL [1, 2] t n).out := by rw [find_run _ h3' (by omega), hlt, run_take _ _ _ _ (Nat.le_refl _)]
  have eb : findL [1, 2] t = (runL [1, 2] t n).out ++ x := by rw [find_run _ h3 (by omega), hx1]
  have hok := (runL_ok [1, 2] t (three_odd h3) n hnl).out
  generalize (runL [1, 2] t n).out = a at ea eb hok
  rw [Option.bind_some, Option.bind_some, ea, eb]
  have hlen : (a ++ x).length = a.length + x.length := List.length_append
  rw [if_neg (by omega), if_pos (by omega), if_pos (by omega), Int.toNat_natCast, List.take_left', same_refl a (by omega) 1026 (by omega), Option.bind_some, if_pos rfl, known_true, Option.bind_some, if_pos rfl]
  · by_cases hxl : x.length = 0
    · rw [if_pos (by omega)]
    · rw [if_neg (by omega), if_pos (by omega)]
      have hmem : rd_T55 (a ++ x) (a.length : Int) ∈ x := by
        unfold rd_T55
        rw [Int.toNat_natCast, List.getD_eq_getElem?_getD, List.getElem?_append_right (Nat.le_refl _), Nat.sub_self, List.getElem?_eq_getElem (by omega)]
        exact List.getElem_mem _
      rw [decide_eq_true (hx2 _ hmem)]
  · rfl
end Go.Proofs.Ytblnimopffhocaa.Pure
