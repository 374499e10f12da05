/- Behind a lock for reading nothing is raced for, as long as none but locked ones write. -/
import Derived.Test.YtblnimopffhocaaPx2
import Derived.Test.YtblnimopffhocaaPureL
namespace Go.Proofs.Ytblnimopffhocaa.Pure
open Go.RowKit Go.Proofs.Ytblnimopffhocaa.P Go.Proofs.YtblnimopffhocaaW.PrintWords Go.Proofs.YtblnimopffhocaaW.PrintLast Go.Proofs.YtblnimopffhocaaX
set_option linter.unusedVariables false

def Trips (x : List S40) (m : Nat) : Prop := x.length = 3 * m ∧ ∀ q, q < m → ∃ (u : Nat) (lock : Bool), u < 3 ∧ Trip (x.getD (3 * q) z40) (x.getD (3 * q + 1) z40) (x.getD (3 * q + 2) z40) u lock
theorem Trips.more {x : List S40} {m : Nat} (h : Trips x m) {e1 e2 e3 : S40} {u : Nat} {lock : Bool} (hu : u < 3) (hT : Trip e1 e2 e3 u lock) : Trips (x ++ [e1, e2, e3]) (m + 1) := by
  obtain ⟨hl, h⟩ := h
  refine ⟨by rw [List.length_append, hl]; simp; omega, fun q hq => ?_⟩
  by_cases hqm : q < m
  · obtain ⟨u', lock', hu', hT'⟩ := h q hqm
    refine ⟨u', lock', hu', ?_⟩
    have old : ∀ j, j < 3 * m → (x ++ [e1, e2, e3]).getD j z40 = x.getD j z40 := fun j hj => by
      rw [List.getD_eq_getElem?_getD, List.getElem?_append_left (by omega), List.getD_eq_getElem?_getD]
    rw [old _ (by omega), old _ (by omega), old _ (by omega)]
    exact hT'
  · obtain rfl : q = m := by omega
    refine ⟨u, lock, hu, ?_⟩
    have new : ∀ j, (x ++ [e1, e2, e3]).getD (3 * q + j) z40 = [e1, e2, e3].getD j z40 := fun j => by
      rw [List.getD_eq_getElem?_getD, List.getElem?_append_right (by omega), hl, Nat.add_sub_cancel_left, List.getD_eq_getElem?_getD]
    have n0 := new 0
    have n1 := new 1
    have n2 := new 2
    rw [Nat.add_zero] at n0
    rw [n0, n1, n2]
    exact hT
theorem u8_mod {x : Int} (h : (Lit.int .u8 x).wf = true) : ∃ u : Nat, wrap64 (Int.tmod x 3) = (u : Int) ∧ u < 3 := by
  have hm3 := mod3 (u8_range h)
  obtain ⟨u, hu⟩ := Int.eq_ofNat_of_zero_le hm3.1
  exact ⟨u, hu, by omega⟩
theorem reads_loop (l : List Int) (b : List Bool) (hb : b.length ≤ maxLen) (hw : ∀ x ∈ l, (Lit.int .u8 x).wf = true) : ∀ (d i k : Nat) (x : List S40), i + d = min l.length 20 → 2 * d + 2 ≤ k → Trips x i → interlocklaw08_RaceReads.l0 k l b x (i : Int) = some true
  | 0, i, k, x, hi, hk, hx => by
    obtain ⟨k, rfl⟩ : ∃ m, k = m + 2 := ⟨k - 2, by omega⟩
    have e : interlocklaw08_RaceReads.j1 (k + 1) l b x (i : Int) false = some true := by
      rw [interlocklaw08_RaceReads.j1, if_neg (by decide), known_true, Option.bind_some, if_pos rfl]
      unfold race_Racy.f race_Find.f
      rw [Option.bind_some, Option.bind_some, locked_none _ x i hx.1 hx.2 (by omega)]
      rfl
    rw [interlocklaw08_RaceReads.l0]
    by_cases h : (i : Int) < (l.length : Int)
    · rw [if_pos h, decide_eq_false (by omega), e]
    · rw [if_neg h, e]
  | d + 1, i, k, x, hi, hk, hx => by
    obtain ⟨k, rfl⟩ : ∃ m, k = m + 2 := ⟨k - 2, by omega⟩
    have hil : i < l.length := by omega
    have hr : rd l (i : Int) ∈ l := by
      unfold rd
      rw [Int.toNat_natCast, List.getD_eq_getElem?_getD, List.getElem?_eq_getElem hil]
      exact List.getElem_mem hil
    obtain ⟨u, hu, hu3⟩ := u8_mod (hw _ hr)
    rw [interlocklaw08_RaceReads.l0, if_pos (by omega), decide_eq_true (by omega), interlocklaw08_RaceReads.j1, if_pos rfl, if_pos (by omega), if_pos (by omega), show wrap64 ((i : Int) + 1) = ((i + 1 : Nat) : Int) from by unfold wrap64; omega, hu]
    have hxl := hx.1
    have reading : Trip (⟨(u : Int), 0, 15, 0, 0, 0⟩ : S40) (⟨(u : Int), 0, 7, 0, 0, 0⟩ : S40) (⟨(u : Int), 0, 16, 0, 0, 0⟩ : S40) u false := ⟨rfl, rfl, rfl, .inl rfl, rfl, rfl, rfl, rfl⟩
    split
    · split
      · rw [Option.bind_some, if_pos (by simp; omega)]
        exact reads_loop l b hb hw d (i + 1) k _ (by omega) (by omega) (hx.more hu3 (lock := true) ⟨rfl, rfl, rfl, .inr ⟨rfl, rfl⟩, rfl, rfl, rfl, rfl⟩)
      · rw [Option.bind_some, if_pos (by simp; omega)]
        exact reads_loop l b hb hw d (i + 1) k _ (by omega) (by omega) (hx.more hu3 reading)
    · rw [Option.bind_some, if_pos (by simp; omega)]
      exact reads_loop l b hb hw d (i + 1) k _ (by omega) (by omega) (hx.more hu3 reading)
def RaceReadsPure : Prop := ∀ (l0 : List Int) (l1 : List Bool), l0.length ≤ maxLen → l1.length ≤ maxLen → (∀ x ∈ l0, (Lit.int .u8 x).wf = true) → ∃ k, interlocklaw08_RaceReads.f k l0 l1 = some true
theorem RaceReads : RaceReadsPure := by
  intro l b _ hb hw
  exact ⟨100, reads_loop l b hb hw (min l.length 20) 0 100 [] (by omega) (by omega) ⟨rfl, fun q hq => by omega⟩⟩
end Go.Proofs.Ytblnimopffhocaa.Pure
