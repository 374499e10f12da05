/- (PureO, where OrderRaw is printed alone: Trace lies in x6.) What the laws of layer 7 that take raw events lean on. -/
import Derived.Test.YtojkeabecjlaeaaPx1
import Derived.Test.YtojkeabecjlaeaaPx6
import Derived.Test.YtojkeabecjlaeaaORaw
namespace Go.Proofs.Ytojkeabecjlaeaa.Pure
open Go.RowKit Go.Proofs.Ytojkeabecjlaeaa.P Go.Proofs.YtojkeabecjlaeaaW.PrintWords Go.Proofs.YtojkeabecjlaeaaW.PrintLast Go.Proofs.YtojkeabecjlaeaaX
set_option linter.unusedVariables false
theorem known_true : interlocklaw07_known.f = some true := by decide +kernel
theorem u8_range {x : Int} (h : (Lit.int .u8 x).wf = true) : 0 ≤ x ∧ x ≤ 255 := by
  simp only [Lit.wf, Bool.and_eq_true, decide_eq_true_eq] at h
  have h1 := h.1
  have h2 := h.2
  simp [IntKind.min, IntKind.max, IntKind.signed, IntKind.bits] at h1 h2
  omega
abbrev OPS : List Int := [7, 8, 12, 13, 14, 15, 16, 17, 18, 19, 20, 21, 22, 23, 24, 25, 26, 27, 7, 8, 20, 21, 9]
theorem trace_loop (l : List S69) (hw : rawWf l) (k : Nat) : ∀ (d i : Nat) (x4 : List S24), i + d = min l.length 25 → x4.length = i → ∃ t, interlocklaw07_Trace.l0 (k + d + 1) l OPS x4 (i : Int) = some t ∧ t.length ≤ 25
  | 0, i, x4, hi, hx => by
    refine ⟨x4, ?_, by omega⟩
    unfold interlocklaw07_Trace.l0
    by_cases h : (i : Int) < (l.length : Int)
    · rw [if_pos h, if_neg (by omega)]
    · rw [if_neg h]
  | d + 1, i, x4, hi, hx => by
    have hil : i < l.length := by omega
    have hr : rd_T69 l (i : Int) ∈ l := by
      unfold rd_T69
      rw [Int.toNat_natCast, List.getD_eq_getElem?_getD, List.getElem?_eq_getElem hil]
      exact List.getElem_mem hil
    obtain ⟨r0, r1⟩ := u8_range (hw _ hr).1
    have hww : wrap64 ((rd_T69 l (i : Int)).f0) = (rd_T69 l (i : Int)).f0 := by unfold wrap64; omega
    have hlen : ((OPS.length : Nat) : Int) = 23 := rfl
    rw [show k + (d + 1) + 1 = (k + d + 1) + 1 from rfl, interlocklaw07_Trace.l0, if_pos (by omega), if_pos (by omega), if_pos (by omega), if_neg (by rw [hlen]; omega), hww, hlen, Int.tmod_eq_emod_of_nonneg r0, if_pos (by omega), if_pos (by omega), if_pos (by omega),
      show wrap64 ((i : Int) + 1) = ((i + 1 : Nat) : Int) from by unfold wrap64; omega]
    exact trace_loop l hw k d (i + 1) _ (by omega) (by rw [List.length_append, List.length_singleton, hx])
theorem trace_some (l : List S69) (hw : rawWf l) (k : Nat) : ∃ t, interlocklaw07_Trace.f (k + 26) l = some t ∧ t.length ≤ 25 := by
  obtain ⟨t, h1, h2⟩ := trace_loop l hw (k + 25 - min l.length 25) (min l.length 25) 0 [] (by omega) rfl
  refine ⟨t, ?_, h2⟩
  unfold interlocklaw07_Trace.f
  rw [show k + 26 = k + 25 - min l.length 25 + min l.length 25 + 1 by omega]
  exact h1
section
variable {a0 a1 a2 a4 a5 : Int} {c : List Int} {l6 : List (List (S34))} {t : List S24}
theorem before_some (hl : t.length ≤ 25) (i j : Int) : order_Before.f a0 a1 a2 c a4 a5 l6 t i j = some (beforeI c t i j) := by
  unfold order_Before.f
  rw [if_pos (by omega)]
theorem direct_some (hl : t.length ≤ 25) (i j : Int) : order_Direct.f a0 a1 a2 c a4 a5 l6 t i j = some (directI c t i j) := by
  unfold order_Direct.f
  rw [if_pos (by omega)]
theorem past_some (hl : t.length ≤ 25) (j : Int) : order_Past.f a0 a1 a2 c a4 a5 l6 t j = some (pastI c t j) := by
  unfold order_Past.f
  rw [if_pos (by omega)]
end
end Go.Proofs.Ytojkeabecjlaeaa.Pure
