/- Arguments that are slices of events, or of whole numbers: what the walk's contract asks of them. -/
import Derived.Test.YtojkeabecjlaeaaPx0
import Derived.ChangeSlices
import Derived.Deep.Slices
import Derived.ChangeArms
namespace Go.Proofs.Ytojkeabecjlaeaa.P
open Go.ChangeShapes Go.WideShapes Go.RowKit Go.Deep Go.Proofs.YtojkeabecjlaeaaW.PrintWords Go.Proofs.YtojkeabecjlaeaaW.PrintLast Go.Proofs.YtojkeabecjlaeaaW.PrintMore
set_option linter.unusedVariables false
set_option linter.unusedSimpArgs false
theorem open_nums {H : Type} {enc : TypeId × Value → H} {W : World} {A : Option Addr} {len cap : Nat} {d : DataW H} {p : List MemPlace} (h : DataW.Trod enc Try.prog W 0 (fun _ => true) true 27 (.slice A len cap) d p) :
    ∃ l : List Int, l.length = len ∧ len ≤ cap ∧ len ≤ maxLen ∧ Kd.C (Kd.int .i64) W A l.length l ∧ ∀ x ∈ l, (Lit.int .i64 x).wf = true := by
  obtain ⟨fuel, hf⟩ := h
  have h9 : maxLen = 9223372036854775807 := rfl
  rcases open_ints Try.underlying27 Try.underlying3 (by kernel_rfl) hf with ⟨hcs, _⟩ | ⟨a, l, c, zs, hcs, _, hl, hm, hz, _, hcell, hwz⟩
  · simp [Value.cells] at hcs
    obtain ⟨rfl, rfl, rfl⟩ := hcs
    exact ⟨[], rfl, Nat.le_refl _, Nat.zero_le _, Kd.C_nil _ _, fun x hx => by cases hx⟩
  · simp [Value.cells] at hcs
    obtain ⟨rfl, rfl, rfl⟩ := hcs
    rw [if_pos rfl] at hz
    have hlen : (zs.take len).length = len := by rw [List.length_take]; omega
    refine ⟨zs.take len, hlen, hl, by omega, ⟨rfl, by omega, fun _ => ⟨a, rfl, fun j x hj => ⟨[.int .i64 x], rfl, rfl, fun i u hu => ?_⟩⟩⟩, fun x hx => hwz x (List.mem_of_mem_take hx)⟩
    obtain ⟨hj1, hj2⟩ := List.getElem?_eq_some_iff.1 hj
    rcases i with _ | i
    · obtain rfl : Value.int .i64 x = u := by simpa using hu
      have h1 := hcell j (by omega)
      rw [List.getD_eq_getElem?_getD, List.getElem?_eq_getElem (by omega)] at h1
      rw [List.getElem_take] at hj2
      rw [Option.getD_some, hj2] at h1
      simpa [show (Kd.int .i64).sz = 1 from rfl] using h1
    · simp at hu
theorem six_of {α : Type} {l : List α} (h : l.length = 6) : ∃ a b c d e f, l = [a, b, c, d, e, f] := by
  match l, h with
  | [a, b, c, d, e, f], _ => exact ⟨a, b, c, d, e, f, rfl⟩
instance : Inhabited S24 := ⟨z24⟩
theorem open_events {H : Type} {enc : TypeId × Value → H} {W : World} {A : Option Addr} {len cap : Nat} {d : DataW H} {p : List MemPlace} (h : DataW.Trod enc Try.prog W 0 (fun _ => true) true 22 (.slice A len cap) d p) :
    ∃ l : List S24, l.length = len ∧ len ≤ cap ∧ len ≤ maxLen ∧ Kd.C k24 W A l.length l := by
  obtain ⟨fuel, hf⟩ := h
  have h9 : maxLen = 9223372036854775807 := rfl
  rcases open_slice Try.underlying22 hf with ⟨hcs, _⟩ | ⟨a, l, c, m, n, D, Pl, hcs, _, hl, hm, hmm, _, hx⟩
  · simp [Value.cells] at hcs
    obtain ⟨rfl, rfl, rfl⟩ := hcs
    exact ⟨[], rfl, Nat.le_refl _, Nat.zero_le _, Kd.C_nil _ _⟩
  · simp [Value.cells] at hcs
    obtain ⟨rfl, rfl, rfl⟩ := hcs
    have hlm : len ≤ m := by rw [hmm]; split <;> omega
    have ce : Try.prog.cellsOf 24 = 6 := by kernel_rfl
    have c3 : Try.prog.cellsOf 3 = 1 := by kernel_rfl
    have c5 : Try.prog.cellsOf 5 = 1 := by kernel_rfl
    have each : ∀ i, i < len → ∃ e : S24, W.cell? (a.add (i * 6)) = some (.int .i64 e.f0) ∧ W.cell? (a.add (i * 6 + 1)) = some (.int .i64 e.f1) ∧ W.cell? (a.add (i * 6 + 2)) = some (.int .u8 e.f2) ∧ W.cell? (a.add (i * 6 + 3)) = some (.int .i64 e.f3) ∧ W.cell? (a.add (i * 6 + 4)) = some (.int .i64 e.f4) ∧ W.cell? (a.add (i * 6 + 5)) = some (.int .i64 e.f5) := by
      intro i hi
      obtain ⟨cs', h1, h2⟩ := hx i (by omega)
      rw [ce] at h1
      obtain ⟨_, hlen, hcell⟩ := World.cells?_some h1
      obtain ⟨xs, k, hk, hxy, _, hxl, hf'⟩ := DataW.trod_struct Try.underlying24 h2
      obtain ⟨y0, y1, y2, y3, y4, y5, rfl⟩ := six_of (l := xs) (by simpa using hxl)
      obtain ⟨v0, v1, v2, v3, v4, v5, rfl⟩ := six_of (l := cs') hlen
      have g0 := hf' 0 _ rfl
      have g1 := hf' 1 _ rfl
      have g2 := hf' 2 _ rfl
      have g3 := hf' 3 _ rfl
      have g4 := hf' 4 _ rfl
      have g5 := hf' 5 _ rfl
      simp [c3, c5] at g0 g1 g2 g3 g4 g5
      obtain ⟨n0, e0, _, _⟩ := DataW.trod_int Try.underlying3 g0
      obtain ⟨n1, e1, _, _⟩ := DataW.trod_int Try.underlying3 g1
      obtain ⟨n2, e2, _, _⟩ := DataW.trod_int Try.underlying5 g2
      obtain ⟨n3, e3, _, _⟩ := DataW.trod_int Try.underlying3 g3
      obtain ⟨n4, e4, _, _⟩ := DataW.trod_int Try.underlying3 g4
      obtain ⟨n5, e5, _, _⟩ := DataW.trod_int Try.underlying3 g5
      injection e0 with e0 _
      injection e1 with e1 _
      injection e2 with e2 _
      injection e3 with e3 _
      injection e4 with e4 _
      injection e5 with e5 _
      have k0 := hcell 0 (by omega)
      have k1 := hcell 1 (by omega)
      have k2 := hcell 2 (by omega)
      have k3 := hcell 3 (by omega)
      have k4 := hcell 4 (by omega)
      have k5 := hcell 5 (by omega)
      rw [Go.Deep.add_add] at k0 k1 k2 k3 k4 k5
      subst e0 e1 e2 e3 e4 e5
      exact ⟨⟨n0, n1, n2, n3, n4, n5⟩, by simpa using k0, by simpa using k1, by simpa using k2, by simpa using k3, by simpa using k4, by simpa using k5⟩
    obtain ⟨q, hq⟩ := choose_lt each
    refine ⟨(List.range len).map q, by simp, hl, by omega, ⟨rfl, by rw [List.length_map, List.length_range]; omega, fun _ => ⟨a, rfl, fun j x hj => ?_⟩⟩⟩
    obtain ⟨hj1, hj2⟩ := List.getElem?_eq_some_iff.1 hj
    rw [List.length_map, List.length_range] at hj1
    rw [List.getElem_map, List.getElem_range] at hj2
    subst hj2
    obtain ⟨k0, k1, k2, k3, k4, k5⟩ := hq j hj1
    refine ⟨_, rfl, k24_mk W _, fun i u hu => ?_⟩
    match i, hu with
    | 0, hu =>
      obtain rfl : Value.int .i64 (q j).f0 = u := by simpa using hu
      exact k0
    | 1, hu =>
      obtain rfl : Value.int .i64 (q j).f1 = u := by simpa using hu
      exact k1
    | 2, hu =>
      obtain rfl : Value.int .u8 (q j).f2 = u := by simpa using hu
      exact k2
    | 3, hu =>
      obtain rfl : Value.int .i64 (q j).f3 = u := by simpa using hu
      exact k3
    | 4, hu =>
      obtain rfl : Value.int .i64 (q j).f4 = u := by simpa using hu
      exact k4
    | 5, hu =>
      obtain rfl : Value.int .i64 (q j).f5 = u := by simpa using hu
      exact k5
    | i + 6, hu => simp at hu
end Go.Proofs.Ytojkeabecjlaeaa.P
