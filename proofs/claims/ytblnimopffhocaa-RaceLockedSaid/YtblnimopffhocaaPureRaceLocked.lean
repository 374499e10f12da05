/- Where each access is between locking and unlocking the same lock there are no races. -/
import Derived.Test.YtblnimopffhocaaPx4
import Derived.Test.YtblnimopffhocaaPureL
namespace Go.Proofs.Ytblnimopffhocaa.Pure
open Go.RowKit Go.Proofs.Ytblnimopffhocaa.P Go.Proofs.YtblnimopffhocaaW.PrintWords Go.Proofs.YtblnimopffhocaaW.PrintLast Go.Proofs.YtblnimopffhocaaX
set_option linter.unusedVariables false

def Trips (x : List S40) (m : Nat) : Prop := x.length = 3 * m ∧ ∀ q, q < m → ∃ (u : Nat) (lock : Bool), u < 3 ∧ Trip (x.getD (3 * q) z40) (x.getD (3 * q + 1) z40) (x.getD (3 * q + 2) z40) u lock
theorem Trips.more {x : List S40} {m : Nat} (h : Trips x m) {e1 e2 e3 : S40} {u : Nat} {lock : Bool} (hu : u < 3) (hT : Trip e1 e2 e3 u lock) : Trips (x ++ [e1, e2, e3]) (m + 1) := by
  obtain ⟨hl, h⟩ := h
  refine ⟨by rw [List.length_append, hl]; simp; omega, fun q hq => ?_⟩
  by_cases hqm : q < m
  · obtain ⟨u', lock', hu', hT'⟩ := h q hqm
    refine ⟨u', lock', hu', ?_⟩
    have old : ∀ j, j < 3 * m → (x ++ [e1, e2, e3]).getD j z40 = x.getD j z40 := fun j hj => by
      rw [List.getD_eq_getElem?_getD, List.getElem?_append_left (by omega), List.getD_eq_getElem?_getD]
    rw [old _ (by omega), old _ (by omega), old _ (by omega)]
    exact hT'
  · obtain rfl : q = m := by omega
    refine ⟨u, lock, hu, ?_⟩
    have new : ∀ j, (x ++ [e1, e2, e3]).getD (3 * q + j) z40 = [e1, e2, e3].getD j z40 := fun j => by
      rw [List.getD_eq_getElem?_getD, List.getElem?_append_right (by omega), hl, Nat.add_sub_cancel_left, List.getD_eq_getElem?_getD]
    have n0 := new 0
    have n1 := new 1
    have n2 := new 2
    rw [Nat.add_zero] at n0
    rw [n0, n1, n2]
    exact hT
theorem locked_loop (l : List S61) (hw : rawWf l) : ∀ (d i k : Nat) (x : List S40), i + d = min l.length 20 → 2 * d + 2 ≤ k → Trips x i → interlocklaw08_RaceLocked.l0 k l x (i : Int) = some true
  | 0, i, k, x, hi, hk, hx => by
    obtain ⟨k, rfl⟩ : ∃ m, k = m + 2 := ⟨k - 2, by omega⟩
    have e : interlocklaw08_RaceLocked.j1 (k + 1) l x (i : Int) false = some true := by
      rw [interlocklaw08_RaceLocked.j1, if_neg (by decide), known_true, Option.bind_some, if_pos rfl]
      unfold race_Find.f
      rw [Option.bind_some, locked_none _ x i hx.1 hx.2 (by omega)]
      rfl
    rw [interlocklaw08_RaceLocked.l0]
    by_cases h : (i : Int) < (l.length : Int)
    · rw [if_pos h, decide_eq_false (by omega), e]
    · rw [if_neg h, e]
  | d + 1, i, k, x, hi, hk, hx => by
    obtain ⟨k, rfl⟩ : ∃ m, k = m + 2 := ⟨k - 2, by omega⟩
    have hil : i < l.length := by omega
    have hr : rd_T61 l (i : Int) ∈ l := by
      unfold rd_T61
      rw [Int.toNat_natCast, List.getD_eq_getElem?_getD, List.getElem?_eq_getElem hil]
      exact List.getElem_mem hil
    have hm3 := mod3 (u8_range (hw _ hr).2)
    obtain ⟨u, hu⟩ := Int.eq_ofNat_of_zero_le hm3.1
    have hu3 : u < 3 := by omega
    rw [interlocklaw08_RaceLocked.l0, if_pos (by omega), decide_eq_true (by omega), interlocklaw08_RaceLocked.j1, if_pos rfl, if_pos (by omega), if_pos (by omega), show wrap64 ((i : Int) + 1) = ((i + 1 : Nat) : Int) from by unfold wrap64; omega, hu]
    have hxl := hx.1
    split
    · rw [Option.bind_some, if_pos (by simp; omega)]
      exact locked_loop l hw d (i + 1) k _ (by omega) (by omega) (hx.more hu3 (lock := true) ⟨rfl, rfl, rfl, .inr ⟨rfl, rfl⟩, rfl, rfl, rfl, rfl⟩)
    · rw [Option.bind_some, if_pos (by simp; omega)]
      exact locked_loop l hw d (i + 1) k _ (by omega) (by omega) (hx.more hu3 (lock := true) ⟨rfl, rfl, rfl, .inl rfl, rfl, rfl, rfl, rfl⟩)
def RaceLockedPure : Prop := ∀ (l0 : List (S61)), l0.length ≤ maxLen → rawWf l0 → ∃ k, interlocklaw08_RaceLocked.f k l0 = some true
theorem RaceLocked : RaceLockedPure := by
  intro l _ hw
  exact ⟨100, locked_loop l hw (min l.length 20) 0 100 [] (by omega) (by omega) ⟨rfl, fun q hq => by omega⟩⟩
end Go.Proofs.Ytblnimopffhocaa.Pure
