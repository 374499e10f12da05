/- Arguments that are slices of uint8, or of bools: what the walk's contract asks of them. -/
import Derived.Test.YtblnimopffhocaaPx0
import Derived.ChangeSlices
import Derived.Deep.Grids
import Derived.ChangeArms
namespace Go.Proofs.Ytblnimopffhocaa.P
open Go.ChangeShapes Go.WideShapes Go.RowKit Go.Deep Go.Proofs.YtblnimopffhocaaW.PrintWords Go.Proofs.YtblnimopffhocaaW.PrintLast Go.Proofs.YtblnimopffhocaaW.PrintMore
set_option linter.unusedVariables false

theorem open_u8s {H : Type} {enc : TypeId × Value → H} {W : World} {A : Option Addr} {len cap : Nat} {d : DataW H} {p : List MemPlace} (h : DataW.Trod enc Try.prog W 0 (fun _ => true) true 22 (.slice A len cap) d p) :
    ∃ l : List Int, l.length = len ∧ len ≤ cap ∧ len ≤ maxLen ∧ Kd.C (Kd.int .u8) W A l.length l ∧ ∀ x ∈ l, (Lit.int .u8 x).wf = true := by
  obtain ⟨fuel, hf⟩ := h
  have h9 : maxLen = 9223372036854775807 := rfl
  rcases open_ints Try.underlying22 Try.underlying5 (by kernel_rfl) hf with ⟨hcs, _⟩ | ⟨a, l, c, zs, hcs, _, hl, hm, hz, _, hcell, hwz⟩
  · simp [Value.cells] at hcs
    obtain ⟨rfl, rfl, rfl⟩ := hcs
    exact ⟨[], rfl, Nat.le_refl _, Nat.zero_le _, Kd.C_nil _ _, fun x hx => by cases hx⟩
  · simp [Value.cells] at hcs
    obtain ⟨rfl, rfl, rfl⟩ := hcs
    rw [if_pos rfl] at hz
    have hlen : (zs.take len).length = len := by rw [List.length_take]; omega
    refine ⟨zs.take len, hlen, hl, by omega, ⟨rfl, by omega, fun _ => ⟨a, rfl, fun j x hj => ⟨[.int .u8 x], rfl, rfl, fun i u hu => ?_⟩⟩⟩, fun x hx => hwz x (List.mem_of_mem_take hx)⟩
    obtain ⟨hj1, hj2⟩ := List.getElem?_eq_some_iff.1 hj
    rcases i with _ | i
    · obtain rfl : Value.int .u8 x = u := by simpa using hu
      have h1 := hcell j (by omega)
      rw [List.getD_eq_getElem?_getD, List.getElem?_eq_getElem (by omega)] at h1
      rw [List.getElem_take] at hj2
      rw [Option.getD_some, hj2] at h1
      simpa [show (Kd.int .u8).sz = 1 from rfl] using h1
    · simp at hu
theorem open_bits {H : Type} {enc : TypeId × Value → H} {W : World} {A : Option Addr} {len cap : Nat} {d : DataW H} {p : List MemPlace} (h : DataW.Trod enc Try.prog W 0 (fun _ => true) true 38 (.slice A len cap) d p) :
    ∃ l : List Bool, l.length = len ∧ len ≤ cap ∧ len ≤ maxLen ∧ Kd.C Kd.bool W A l.length l := by
  obtain ⟨fuel, hf⟩ := h
  have h9 : maxLen = 9223372036854775807 := rfl
  rcases open_bools Try.underlying38 Try.underlying4 (by kernel_rfl) hf with ⟨hcs, _⟩ | ⟨a, l, c, B, hcs, _, hl, hm, _, hcell⟩
  · simp [Value.cells] at hcs
    obtain ⟨rfl, rfl, rfl⟩ := hcs
    exact ⟨[], rfl, Nat.le_refl _, Nat.zero_le _, Kd.C_nil _ _⟩
  · simp [Value.cells] at hcs
    obtain ⟨rfl, rfl, rfl⟩ := hcs
    have hlen : ((List.range len).map B).length = len := by simp
    refine ⟨(List.range len).map B, hlen, hl, by omega, ⟨rfl, by omega, fun _ => ⟨a, rfl, fun j x hj => ⟨[.bool x], rfl, rfl, fun i u hu => ?_⟩⟩⟩⟩
    obtain ⟨hj1, hj2⟩ := List.getElem?_eq_some_iff.1 hj
    rcases i with _ | i
    · obtain rfl : Value.bool x = u := by simpa using hu
      have h1 := hcell j (by omega)
      rw [List.getElem_map, List.getElem_range] at hj2
      rw [hj2] at h1
      simpa [show Kd.bool.sz = 1 from rfl] using h1
    · simp at hu
end Go.Proofs.Ytblnimopffhocaa.P
