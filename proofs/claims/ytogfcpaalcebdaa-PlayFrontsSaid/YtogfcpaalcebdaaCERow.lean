/- A law's arguments and its call, as the engine has them. -/
import Derived.Test.YtogfcpaalcebdaaCEState2
import Derived.Deep.Grids
import Derived.ChangeSlices
import Derived.ChangeArms
namespace Go.Proofs.YtogfcpaalcebdaaE
open Go Go.RowKit Go.ChangeShapes Go.WideShapes Go.Deep
set_option linter.unusedVariables false
set_option linter.unusedSimpArgs false
def gh0 (W : World) : Gh := ⟨fun _ => none, fun _ => 0, fun _ _ _ _ => none, fun b => if b < W.heap.size then .imm else .no, fun _ => 0⟩
theorem ok0 (W : World) : Ok (gh0 W) W [] where
  ob := fun id o h => by simp at h
  imm := fun b h => by
    unfold gh0 at h
    dsimp only at h
    split at h
    · assumption
    · cases h
  fresh := fun _ _ => rfl
  new := fun b h => by
    unfold gh0
    dsimp only
    rw [if_neg (by omega)]
  lt := fun id b o h => by cases h
  rlt := fun id i j v b o h => by cases h
  ver := ⟨0, fun _ _ _ _ _ => rfl⟩
  frl := fun _ _ _ _ _ => rfl
theorem imm0 {W : World} {b : Nat} (h : b < W.heap.size) : (gh0 W).kd b = .imm := by
  unfold gh0
  dsimp only
  rw [if_pos h]
theorem open_u8C {H : Type} {enc : TypeId × Value → H} {W : World} {A : Option Addr} {len cap : Nat} {d : DataW H} {p : List MemPlace} (h : DataW.Trod enc Try.prog W 0 (fun _ => true) true 22 (.slice A len cap) d p) :
    ∃ l : List Int, CR (gh0 W).kd W (.ls (l.map fun n => [.sc (.int .u8 n)])) (.slice A len cap) ∧ ∀ x ∈ l, (Lit.int .u8 x).wf = true := by
  obtain ⟨fuel, hf⟩ := h
  have h9 : maxLen = 9223372036854775807 := rfl
  rcases open_ints Try.underlying22 Try.underlying5 (by kernel_rfl) hf with ⟨hcs, _⟩ | ⟨a, l, c, zs, hcs, _, hl, hm, hz, _, hcell, hwz⟩
  · simp [Value.cells] at hcs
    obtain ⟨rfl, rfl, rfl⟩ := hcs
    exact ⟨[], .ls0 (Nat.zero_le _), fun x hx => by cases hx⟩
  · simp [Value.cells] at hcs
    obtain ⟨rfl, rfl, rfl⟩ := hcs
    rw [if_pos rfl] at hz
    have hlen : (zs.take len).length = len := by rw [List.length_take]; omega
    refine ⟨zs.take len, ?_, fun x hx => hwz x (List.mem_of_mem_take hx)⟩
    have key : CR (gh0 W).kd W (.ls ((zs.take len).map fun n => [.sc (.int .u8 n)])) (.slice (some a) ((zs.take len).map fun n => [C.sc (.int .u8 n)]).length cap) := by
      rcases Nat.eq_zero_or_pos len with h0 | h0
      · subst h0
        exact .ls0 hm
      have hat : ∀ i, i < len → W.cell? (a.add i) = some (.int .u8 (zs.getD i 0)) := fun i hi => hcell i (by omega)
      have h1 := hat 0 h0
      have hb : a.block < W.heap.size ∧ a = ⟨a.block, a.off, none⟩ := by
        have h2 : a.add 0 = a := by simp [Addr.add]
        rw [h2] at h1
        unfold World.cell? at h1
        split at h1
        · rename_i cs ty fr hh
          refine ⟨(Array.getElem?_eq_some_iff.1 hh).1, ?_⟩
          obtain ⟨b, o, sp⟩ := a
          cases sp with
          | none => rfl
          | some x => simp at h1
        · cases h1
      have hadd : ∀ i, a.add i = ⟨a.block, a.off + i, none⟩ := fun i => by rw [hb.2]; exact add_mk _ _ _
      have hrow : ∀ i row j x, ((zs.take len).map fun n => [C.sc (.int .u8 n)])[i]? = some row → row[j]? = some x → i < len ∧ j = 0 ∧ x = .sc (.int .u8 (zs.getD i 0)) := fun i row j x e1 e2 => by
        rw [List.getElem?_map] at e1
        cases hz2 : (zs.take len)[i]? with
        | none => rw [hz2] at e1; cases e1
        | some n =>
          rw [hz2] at e1
          cases e1
          have hi := (List.getElem?_eq_some_iff.1 hz2).1
          rw [hlen] at hi
          rw [List.getElem?_take, if_pos hi] at hz2
          cases j with
          | zero => cases e2; exact ⟨hi, rfl, by rw [List.getD_eq_getElem?_getD, hz2]; rfl⟩
          | succ j => cases e2
      refine .ls (s := 1) (b := a.block) (o := a.off) (fun i j => .int .u8 (zs.getD i 0)) (by rw [List.length_map, hlen]; exact hl) hm (fun _ => ⟨by rw [← hb.2], imm0 hb.1⟩) (fun row hr => by obtain ⟨n, _, rfl⟩ := List.mem_map.1 hr; rfl) (fun i row j x e1 e2 => ?_) (fun i row j x e1 e2 => ?_)
      · obtain ⟨q1, q2, q3⟩ := hrow i row j x e1 e2
        subst q2
        have := hat i q1
        rw [hadd i] at this
        rw [Nat.mul_one, Nat.add_zero]
        exact this
      · obtain ⟨q1, q2, q3⟩ := hrow i row j x e1 e2
        rw [q3]
        exact .sc rfl
    rw [List.length_map, hlen] at key
    exact key
theorem u8_in {x : Int} (h : (Lit.int .u8 x).wf = true) : 0 ≤ x ∧ x < 256 := by
  simp only [Lit.wf, Bool.and_eq_true, decide_eq_true_eq] at h
  have h1 := h.1
  have h2 := h.2
  simp [IntKind.min, IntKind.max, IntKind.signed, IntKind.bits] at h1 h2
  omega
theorem law_calls {f : FuncId} {args : List V} (h : Meets f args [] (pt (nB true) [] [])) {W : World} {vs : Array Value} (ha : VRL (gh0 W) W args vs) : Calls Try.prog f vs W fun e W' => e = .returned (.bool true) ∧ Below W.heap.size W W' := by
  refine (h (gh0 W) W vs (ok0 W) ha).mono fun e W' ⟨v, G', r, m', mv, h1, h2, h3, h4⟩ => ?_
  obtain ⟨h5, h6, h7⟩ := h2
  subst h5
  cases h4 with
  | c h4 =>
    cases h4
    refine ⟨h1, h3.tr.os, h3.tr.tape, h3.tr.output, h3.tr.size, fun b hb => (h3.tr.blk b hb (.inr (imm0 hb))).1⟩
theorem vrl1 {G : Gh} {W : World} {x : V} {v : Value} (h : VR G W x v) : VRL G W [x] #[v] := ⟨rfl, fun j y hj => by
  match j, hj with
  | 0, hj => cases hj; exact h⟩
end Go.Proofs.YtogfcpaalcebdaaE
