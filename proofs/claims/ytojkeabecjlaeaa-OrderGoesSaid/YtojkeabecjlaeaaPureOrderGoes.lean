/- Of a Go: what is ahead of the first event of the thread that it began. -/
import Derived.Test.YtojkeabecjlaeaaPx1
namespace Go.Proofs.Ytojkeabecjlaeaa.Pure
open Go.RowKit Go.Proofs.Ytojkeabecjlaeaa.P Go.Proofs.YtojkeabecjlaeaaW.PrintWords Go.Proofs.YtojkeabecjlaeaaW.PrintLast Go.Proofs.YtojkeabecjlaeaaX
set_option linter.unusedVariables false

def stE : S24 := ⟨0, 0, 8, 0, 0, 0⟩
def tl3 : List S24 := [⟨0, 0, 12, 1, 0, 0⟩, ⟨0, 0, 8, 0, 0, 0⟩, ⟨1, 0, 7, 0, 0, 0⟩]
theorem known_true : interlocklaw07_known.f = some true := by decide +kernel
theorem goes_all : ∀ n, n < 8 → ∀ i, i < n + 3 → beforeI [] (List.replicate n stE ++ tl3) ((i : Nat) : Int) (wrap64 (((List.replicate n stE ++ tl3).length : Int) - 1)) = decide ((i : Int) ≤ (n : Int)) := by decide +kernel
theorem goes_end (a1 : Int) (n : Nat) (hn : n < 8) (h0 : 0 ≤ a1) (h1 : a1 < 256) : interlocklaw07_OrderGoes.l0 1 a1 (List.replicate n stE) (n : Int) (n : Int) = some true := by
  unfold interlocklaw07_OrderGoes.l0
  rw [if_neg (by omega)]
  show (if (List.replicate n stE).length + 3 < 2932031007402 then _ else none) = some true
  rw [if_pos (by rw [List.length_replicate]; omega)]
  show (if (((List.replicate n stE ++ tl3).length : Nat) : Int) = 0 then none else ((interlocklaw07_known.f).bind fun t136 => (if t136 = true then ((order_Before.f 0 0 0 ([] : List Int) 0 0 ([] : List (List (S34))) (List.replicate n stE ++ tl3) (Int.tmod (wrap64 (a1)) ((List.replicate n stE ++ tl3).length : Int)) (wrap64 (((List.replicate n stE ++ tl3).length : Int) - 1))).bind fun t137 => (some (t137 == (decide ((Int.tmod (wrap64 (a1)) ((List.replicate n stE ++ tl3).length : Int)) ≤ (n : Int)))))) else (some false)))) = some true
  have hl : (List.replicate n stE ++ tl3).length = n + 3 := by simp [tl3]
  have hw : wrap64 a1 = a1 := by unfold wrap64; omega
  obtain ⟨i, hi⟩ : ∃ i : Nat, Int.tmod (wrap64 a1) ((List.replicate n stE ++ tl3).length : Int) = (i : Int) := by
    rw [hw, hl, Int.tmod_eq_emod_of_nonneg h0]
    exact ⟨(a1 % ((n + 3 : Nat) : Int)).toNat, by rw [Int.toNat_of_nonneg (Int.emod_nonneg _ (by omega))]⟩
  have hlt : i < n + 3 := by
    rw [hw, hl, Int.tmod_eq_emod_of_nonneg h0] at hi
    have := Int.emod_lt_of_pos a1 (b := ((n + 3 : Nat) : Int)) (by omega)
    omega
  rw [hi, if_neg (by rw [hl]; omega), known_true]
  rw [Option.bind_some, if_pos rfl]
  unfold order_Before.f
  rw [if_pos (by rw [hl]; omega), goes_all n hn i hlt, Option.bind_some, beq_self_eq_true]
theorem goes_loop (a1 : Int) (h0 : 0 ≤ a1) (h1 : a1 < 256) (n : Nat) (hn : n < 8) : ∀ d m, m + d = n → interlocklaw07_OrderGoes.l0 (d + 1) a1 (List.replicate m stE) (n : Int) (m : Int) = some true
  | 0, m, h => by
    obtain rfl : m = n := by omega
    exact goes_end a1 m hn h0 h1
  | d + 1, m, h => by
    have ih := goes_loop a1 h0 h1 n hn d (m + 1) (by omega)
    rw [interlocklaw07_OrderGoes.l0, if_pos (by omega), if_pos (by rw [List.length_replicate]; omega), show wrap64 ((m : Int) + 1) = ((m + 1 : Nat) : Int) from by unfold wrap64; omega]
    rw [List.replicate_succ'] at ih
    exact ih
theorem u8_range {x : Int} (h : (Lit.int .u8 x).wf = true) : 0 ≤ x ∧ x ≤ 255 := by
  simp only [Lit.wf, Bool.and_eq_true, decide_eq_true_eq] at h
  have h1 := h.1
  have h2 := h.2
  simp [IntKind.min, IntKind.max, IntKind.signed, IntKind.bits] at h1 h2
  omega
theorem OrderGoes : interlocklaw07_OrderGoes.Pure := by
  intro a0 a1 w0 w1
  obtain ⟨r0, r1⟩ := u8_range w0
  obtain ⟨r2, r3⟩ := u8_range w1
  obtain ⟨n, hn⟩ : ∃ n : Nat, wrap64 (Int.tmod a0 8) = (n : Int) := by
    rw [Int.tmod_eq_emod_of_nonneg r0]
    exact ⟨(a0 % 8).toNat, by unfold wrap64; omega⟩
  have hlt : n < 8 := by
    rw [Int.tmod_eq_emod_of_nonneg r0] at hn
    unfold wrap64 at hn
    omega
  refine ⟨n + 1, ?_⟩
  unfold interlocklaw07_OrderGoes.f
  rw [hn]
  exact goes_loop a1 r2 (by omega) n hlt n 0 (by omega)
end Go.Proofs.Ytojkeabecjlaeaa.Pure
