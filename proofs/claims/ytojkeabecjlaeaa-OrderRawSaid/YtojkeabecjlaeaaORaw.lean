/- An argument that is a slice of structs of two uint8: what the walk's contract asks of it. -/
import Derived.Test.YtojkeabecjlaeaaPx0
import Derived.Deep.SlicePairs
import Derived.ChangeArms
namespace Go.Proofs.Ytojkeabecjlaeaa.P
open Go.ChangeShapes Go.WideShapes Go.RowKit Go.Deep Go.Proofs.YtojkeabecjlaeaaW.PrintWords Go.Proofs.YtojkeabecjlaeaaW.PrintLast Go.Proofs.YtojkeabecjlaeaaW.PrintMore
set_option linter.unusedVariables false
def rawWf (l : List S69) : Prop := ∀ x ∈ l, (Lit.int .u8 x.f0).wf = true ∧ (Lit.int .u8 x.f1).wf = true
def u8Of : Value → Int
  | .int _ n => n
  | _ => 0
theorem open_raws {H : Type} {enc : TypeId × Value → H} {W : World} {A : Option Addr} {len cap : Nat} {d : DataW H} {p : List MemPlace} (h : DataW.Trod enc Try.prog W 0 (fun _ => true) true 46 (.slice A len cap) d p) :
    ∃ l : List S69, l.length = len ∧ len ≤ cap ∧ len ≤ maxLen ∧ Kd.C k69 W A l.length l ∧ rawWf l := by
  obtain ⟨fuel, hf⟩ := h
  rcases open_slice_pairs Try.underlying46 Try.underlying69 (by kernel_rfl) rfl rfl (by kernel_rfl) (by kernel_rfl) hf with ⟨hcs, _⟩ | ⟨a, l, c, m, n, V0, V1, D0, D1, P0, P1, hcs, _, hl, hm, hmm, _, hx⟩
  · simp [Value.cells] at hcs
    obtain ⟨rfl, rfl, rfl⟩ := hcs
    exact ⟨[], rfl, Nat.le_refl _, Nat.zero_le _, Kd.C_nil _ _, fun x hx => by cases hx⟩
  · simp [Value.cells] at hcs
    obtain ⟨rfl, rfl, rfl⟩ := hcs
    have hlm : len ≤ m := by rw [hmm]; split <;> omega
    have key : ∀ i, i < len → V0 i = .int .u8 (u8Of (V0 i)) ∧ V1 i = .int .u8 (u8Of (V1 i)) ∧ (Lit.int .u8 (u8Of (V0 i))).wf = true ∧ (Lit.int .u8 (u8Of (V1 i))).wf = true := fun i hi => by
      obtain ⟨_, _, h0, h1⟩ := hx i (by omega)
      obtain ⟨n0, e0, _, w0⟩ := DataW.trod_int Try.underlying5 h0
      obtain ⟨n1, e1, _, w1⟩ := DataW.trod_int Try.underlying5 h1
      have e0' : V0 i = .int .u8 n0 := by injection e0
      have e1' : V1 i = .int .u8 n1 := by injection e1
      rw [e0', e1']
      exact ⟨rfl, rfl, w0, w1⟩
    refine ⟨(List.range len).map fun i => ⟨u8Of (V0 i), u8Of (V1 i)⟩, by simp, hl, by omega, ⟨rfl, ?_, fun _ => ⟨a, rfl, fun j x hj => ?_⟩⟩, fun x hx' => ?_⟩
    · have h9 : maxLen = 9223372036854775807 := rfl
      rw [List.length_map, List.length_range]
      omega
    · obtain ⟨hj1, hj2⟩ := List.getElem?_eq_some_iff.1 hj
      rw [List.length_map, List.length_range] at hj1
      rw [List.getElem_map, List.getElem_range] at hj2
      subst hj2
      obtain ⟨c0, c1, _, _⟩ := hx j (by omega)
      obtain ⟨k0, k1, _, _⟩ := key j hj1
      refine ⟨_, rfl, k69_mk W _, fun i u hu => ?_⟩
      match i, hu with
      | 0, hu =>
        obtain rfl : Value.int .u8 (u8Of (V0 j)) = u := by simpa using hu
        rw [← k0]
        exact c0
      | 1, hu =>
        obtain rfl : Value.int .u8 (u8Of (V1 j)) = u := by simpa using hu
        rw [← k1]
        exact c1
      | i + 2, hu => simp at hu
    · obtain ⟨i, hi, rfl⟩ := List.mem_map.1 hx'
      obtain ⟨_, _, h0, h1⟩ := key i (List.mem_range.1 hi)
      exact ⟨h0, h1⟩
end Go.Proofs.Ytojkeabecjlaeaa.P
