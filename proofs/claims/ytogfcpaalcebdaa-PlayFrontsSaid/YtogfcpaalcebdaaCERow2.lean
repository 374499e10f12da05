/- A law's arguments: slices of anything. -/
import Derived.Test.YtogfcpaalcebdaaCERow
import Derived.Test.YtogfcpaalcebdaaCEMake
namespace Go.Proofs.YtogfcpaalcebdaaE
open Go Go.RowKit Go.ChangeShapes Go.WideShapes Go.Deep
set_option linter.unusedVariables false
set_option linter.unusedSimpArgs false
theorem cell_none {W : World} {a : Addr} {v : Value} (h : W.cell? a = some v) : a.block < W.heap.size ∧ a = ⟨a.block, a.off, none⟩ := by
  unfold World.cell? at h
  split at h
  · rename_i cs ty fr hh
    refine ⟨(Array.getElem?_eq_some_iff.1 hh).1, ?_⟩
    obtain ⟨b, o, sp⟩ := a
    cases sp with
    | none => rfl
    | some x => simp at h
  · cases h
theorem open_slC {H : Type} {enc : TypeId × Value → H} {W : World} {A : Option Addr} {len cap s : Nat} {d : DataW H} {p : List MemPlace} {t e : TypeId} {R : List C → Prop} (hs : 0 < s) (ht : Try.prog.underlying t = some (.slice e)) (hn : Try.prog.cellsOf e = s)
    (each : ∀ (fuel : Nat) (cs : List Value) (y : DataW H × List MemPlace), cs.length = s → DataW.trod enc Try.prog W 0 (fun _ => true) true fuel e cs = some y → ∃ row : List C, row.length = s ∧ (∀ (j : Nat) x, row[j]? = some x → CR (gh0 W).kd W x (cs.getD j undef)) ∧ R row)
    (h : DataW.Trod enc Try.prog W 0 (fun _ => true) true t (.slice A len cap) d p) : ∃ rows : List (List C), CR (gh0 W).kd W (.ls rows) (.slice A len cap) ∧ rows.length = len ∧ len ≤ maxLen ∧ ∀ row ∈ rows, R row := by
  obtain ⟨fuel, hf⟩ := h
  rcases DataW.trod_slice ht hf with ⟨hcs, _⟩ | ⟨a, len', cap', elems, rest, n, _, hcs, _, hb, hl, hm, hlen, hel, _, _⟩
  · simp [Value.cells] at hcs
    obtain ⟨rfl, rfl, rfl⟩ := hcs
    exact ⟨[], .ls0 (Nat.zero_le _), rfl, Nat.zero_le _, fun row hr => by cases hr⟩
  simp [Value.cells] at hcs
  obtain ⟨rfl, rfl, rfl⟩ := hcs
  rw [hn] at hel
  have h1 : ∀ i, i < len → ∃ q : List Value × List C, q.1.length = s ∧ (∀ j, j < s → W.cell? ((a.add (i * s)).add j) = q.1[j]?) ∧ q.2.length = s ∧ (∀ (j : Nat) x, q.2[j]? = some x → CR (gh0 W).kd W x (q.1.getD j undef)) ∧ R q.2 := fun i hi => by
    have h2 := hel i hi
    have h3 : elems[i]? = some (elems[i]'(by omega)) := List.getElem?_eq_getElem _
    rw [h3] at h2
    obtain ⟨cs, h4, h5⟩ := Option.bind_eq_some_iff.1 h2
    obtain ⟨_, c2, c3⟩ := World.cells?_some h4
    obtain ⟨row, r1, r2, r3⟩ := each n cs _ c2 h5
    exact ⟨(cs, row), c2, c3, r1, r2, r3⟩
  obtain ⟨q, hq⟩ := choose_lt h1
  refine ⟨(List.range len).map fun i => (q i).2, ?_, by simp, by omega, fun row hr => ?_⟩
  · have hlen2 : ((List.range len).map fun i => (q i).2).length = len := by simp
    rcases Nat.eq_zero_or_pos len with h0 | h0
    · subst h0
      exact .ls0 hm
    have hg : ∀ i, i < len → ∀ j, j < s → W.cell? ((a.add (i * s)).add j) = some ((q i).1.getD j undef) := fun i hi j hj => by
      obtain ⟨g1, g2, _⟩ := hq i hi
      rw [g2 j hj, List.getD_eq_getElem?_getD, List.getElem?_eq_getElem (by omega)]
      rfl
    have hz : W.cell? a = some ((q 0).1.getD 0 undef) := by
      have := hg 0 h0 0 hs
      have e0 : (a.add (0 * s)).add 0 = a := by simp [Addr.add]
      rwa [e0] at this
    obtain ⟨hb1, hb2⟩ := cell_none hz
    have ha : ∀ i j, (a.add (i * s)).add j = ⟨a.block, a.off + i * s + j, none⟩ := fun i j => by
      rw [hb2, add_mk, add_mk]
    have key : CR (gh0 W).kd W (.ls ((List.range len).map fun i => (q i).2)) (.slice (some a) ((List.range len).map fun i => (q i).2).length cap) := by
      have hrow : ∀ (i : Nat) row, ((List.range len).map fun i => (q i).2)[i]? = some row → i < len ∧ row = (q i).2 := fun i row e => by
        rw [List.getElem?_map] at e
        by_cases hi : i < len
        · rw [List.getElem?_range hi] at e
          cases e
          exact ⟨hi, rfl⟩
        · rw [List.getElem?_eq_none (by simp; omega)] at e
          cases e
      refine .ls (s := s) (b := a.block) (o := a.off) (fun i j => (q i).1.getD j undef) (by rw [hlen2]; exact hl) hm (fun _ => ⟨?_, imm0 hb1⟩) (fun row hr => ?_) (fun i row j x e1 e2 => ?_) (fun i row j x e1 e2 => ?_)
      · rw [← hb2]
      · obtain ⟨i, hi, rfl⟩ := List.mem_map.1 hr
        exact (hq i (List.mem_range.1 hi)).2.2.1
      · obtain ⟨g1, rfl⟩ := hrow i row e1
        have hj : j < s := by rw [← (hq i g1).2.2.1]; exact (List.getElem?_eq_some_iff.1 e2).1
        rw [← ha]
        exact hg i g1 j hj
      · obtain ⟨g1, rfl⟩ := hrow i row e1
        exact (hq i g1).2.2.2.1 j x e2
    rw [hlen2] at key
    exact key
  · obtain ⟨i, hi, rfl⟩ := List.mem_map.1 hr
    exact (hq i (List.mem_range.1 hi)).2.2.2.2
theorem rows_of {α : Type} {f : α → C} {Q : α → Prop} : ∀ (rows : List (List C)), (∀ row ∈ rows, ∃ x, row = [f x] ∧ Q x) → ∃ l : List α, rows = l.map (fun x => [f x]) ∧ ∀ x ∈ l, Q x
  | [], _ => ⟨[], rfl, fun x hx => by cases hx⟩
  | r :: rs, h => by
    obtain ⟨x, rfl, hx⟩ := h r (by simp)
    obtain ⟨l, rfl, hl⟩ := rows_of rs fun r hr => h r (by simp [hr])
    exact ⟨x :: l, rfl, fun y hy => by
      rcases List.mem_cons.1 hy with rfl | hy
      · exact hx
      · exact hl y hy⟩
theorem open_rows8 {H : Type} {enc : TypeId × Value → H} {W : World} {A : Option Addr} {len cap : Nat} {d : DataW H} {p : List MemPlace} (h : DataW.Trod enc Try.prog W 0 (fun _ => true) true 28 (.slice A len cap) d p) :
    ∃ l : List (List Int), CR (gh0 W).kd W (.ls (encR l)) (.slice A len cap) ∧ (∀ r ∈ l, ∀ x ∈ r, 0 ≤ x ∧ x < 256) ∧ l.length ≤ 9223372036854775807 ∧ ∀ r ∈ l, r.length ≤ 9223372036854775807 := by
  obtain ⟨rows, h1, h2, h3, h4⟩ := open_slC (s := 1) (R := fun row => ∃ r : List Int, row = [.ls (encU r)] ∧ (∀ x ∈ r, 0 ≤ x ∧ x < 256) ∧ r.length ≤ 9223372036854775807) (by decide) Try.underlying28 (by kernel_rfl) (fun fuel cs y hl ht => by
    match cs, hl with
    | [v], _ =>
      have ht2 : DataW.Trod enc Try.prog W 0 (fun _ => true) true 22 v y.1 y.2 := ⟨fuel, by
        have : v.cells.toList = [v] := by
          rcases DataW.trod_slice Try.underlying22 ht with ⟨hcs, _⟩ | ⟨_, _, _, _, _, _, _, hcs, _⟩ <;> (cases hcs; rfl)
        rw [this]; exact ht⟩
      have hv : ∃ A len cap, v = .slice A len cap := by
        rcases DataW.trod_slice Try.underlying22 ht with ⟨hcs, _⟩ | ⟨_, _, _, _, _, _, _, hcs, _⟩ <;> (cases hcs; exact ⟨_, _, _, rfl⟩)
      obtain ⟨A', len', cap', rfl⟩ := hv
      obtain ⟨l, c1, c2⟩ := open_u8C ht2
      refine ⟨[.ls (encU l)], rfl, fun j x hj => ?_, l, rfl, fun x hx => u8_in (c2 x hx), ?_⟩
      · match j, hj with
        | 0, hj => cases hj; exact c1
      · cases c1 with
        | ls f hcap hmax => simp at hcap; have : maxLen = 9223372036854775807 := rfl; omega) h
  obtain ⟨l, rfl, hl⟩ := rows_of (f := fun r => C.ls (encU r)) (Q := fun r => (∀ x ∈ r, 0 ≤ x ∧ x < 256) ∧ r.length ≤ 9223372036854775807) rows fun row hr => by
    obtain ⟨r, rfl, h5, h6⟩ := h4 row hr
    exact ⟨r, rfl, h5, h6⟩
  refine ⟨l, h1, fun r hr => (hl r hr).1, ?_, fun r hr => (hl r hr).2⟩
  have : maxLen = 9223372036854775807 := rfl
  simp at h2
  omega
theorem vrl2 {G : Gh} {W : World} {x y : V} {v u : Value} (h : VR G W x v) (h2 : VR G W y u) : VRL G W [x, y] #[v, u] := ⟨rfl, fun j z hj => by
  match j, hj with
  | 0, hj => cases hj; exact h
  | 1, hj => cases hj; exact h2⟩
theorem vrl3 {G : Gh} {W : World} {x y z : V} {v u t : Value} (h : VR G W x v) (h2 : VR G W y u) (h3 : VR G W z t) : VRL G W [x, y, z] #[v, u, t] := ⟨rfl, fun j a hj => by
  match j, hj with
  | 0, hj => cases hj; exact h
  | 1, hj => cases hj; exact h2
  | 2, hj => cases hj; exact h3⟩
theorem vrl4 {G : Gh} {W : World} {x y z a : V} {v u t r : Value} (h : VR G W x v) (h2 : VR G W y u) (h3 : VR G W z t) (h4 : VR G W a r) : VRL G W [x, y, z, a] #[v, u, t, r] := ⟨rfl, fun j b hj => by
  match j, hj with
  | 0, hj => cases hj; exact h
  | 1, hj => cases hj; exact h2
  | 2, hj => cases hj; exact h3
  | 3, hj => cases hj; exact h4⟩
end Go.Proofs.YtogfcpaalcebdaaE
