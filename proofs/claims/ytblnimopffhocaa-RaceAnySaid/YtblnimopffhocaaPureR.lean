/- What the laws of layer 8 lean on: the chapter's example, raw events, how what is told grows. -/
import Derived.Test.YtblnimopffhocaaPx2
import Derived.Test.YtblnimopffhocaaPx3
import Derived.Test.YtblnimopffhocaaORaw
namespace Go.Proofs.Ytblnimopffhocaa.Pure
open Go.RowKit Go.Proofs.Ytblnimopffhocaa.P Go.Proofs.YtblnimopffhocaaW.PrintWords Go.Proofs.YtblnimopffhocaaW.PrintLast Go.Proofs.YtblnimopffhocaaX
set_option linter.unusedVariables false
theorem known_true : interlocklaw08_known.f = some true := by decide +kernel
theorem u8_range {x : Int} (h : (Lit.int .u8 x).wf = true) : 0 ≤ x ∧ x ≤ 255 := by
  simp only [Lit.wf, Bool.and_eq_true, decide_eq_true_eq] at h
  have h1 := h.1
  have h2 := h.2
  simp [IntKind.min, IntKind.max, IntKind.signed, IntKind.bits] at h1 h2
  omega
def Three (e : S40) : Prop := 0 ≤ e.f0 ∧ e.f0 < 3
theorem mod3 {x : Int} (h : 0 ≤ x ∧ x ≤ 255) : 0 ≤ wrap64 (Int.tmod x 3) ∧ wrap64 (Int.tmod x 3) < 3 := by
  rw [Int.tmod_eq_emod_of_nonneg h.1]
  unfold wrap64
  omega
abbrev OPS : List Int := [7, 8, 12, 13, 14, 15, 16, 17, 18, 19, 20, 21, 22, 23, 24, 25, 26, 27, 7, 8, 20, 21, 9]
theorem trace_loop (l : List S61) (hw : rawWf l) (k : Nat) : ∀ (d i : Nat) (x4 : List S40), i + d = min l.length 25 → x4.length = i → (∀ e ∈ x4, Three e) → ∃ t, interlocklaw07_Trace.l0 (k + d + 1) l OPS x4 (i : Int) = some t ∧ t.length ≤ 25 ∧ ∀ e ∈ t, Three e
  | 0, i, x4, hi, hx, h3 => by
    refine ⟨x4, ?_, by omega, h3⟩
    unfold interlocklaw07_Trace.l0
    by_cases h : (i : Int) < (l.length : Int)
    · rw [if_pos h, if_neg (by omega)]
    · rw [if_neg h]
  | d + 1, i, x4, hi, hx, h3 => by
    have hil : i < l.length := by omega
    have hr : rd_T61 l (i : Int) ∈ l := by
      unfold rd_T61
      rw [Int.toNat_natCast, List.getD_eq_getElem?_getD, List.getElem?_eq_getElem hil]
      exact List.getElem_mem hil
    obtain ⟨r0, r1⟩ := u8_range (hw _ hr).1
    have hm3 := mod3 (u8_range (hw _ hr).2)
    have hww : wrap64 ((rd_T61 l (i : Int)).f0) = (rd_T61 l (i : Int)).f0 := by unfold wrap64; omega
    have hlen : ((OPS.length : Nat) : Int) = 23 := rfl
    rw [show k + (d + 1) + 1 = (k + d + 1) + 1 from rfl, interlocklaw07_Trace.l0, if_pos (by omega), if_pos (by omega), if_pos (by omega), if_neg (by rw [hlen]; omega), hww, hlen, Int.tmod_eq_emod_of_nonneg r0, if_pos (by omega), if_pos (by omega), if_pos (by omega),
      show wrap64 ((i : Int) + 1) = ((i + 1 : Nat) : Int) from by unfold wrap64; omega]
    refine trace_loop l hw k d (i + 1) _ (by omega) (by rw [List.length_append, List.length_singleton, hx]) fun e he => ?_
    rcases List.mem_append.1 he with h | h
    · exact h3 e h
    · rw [List.mem_singleton.1 h]
      exact hm3
theorem trace_some (l : List S61) (hw : rawWf l) (k : Nat) : ∃ t, interlocklaw07_Trace.f (k + 26) l = some t ∧ t.length ≤ 25 ∧ ∀ e ∈ t, Three e := by
  obtain ⟨t, h1, h2⟩ := trace_loop l hw (k + 25 - min l.length 25) (min l.length 25) 0 [] (by omega) rfl (by simp)
  refine ⟨t, ?_, h2⟩
  unfold interlocklaw07_Trace.f
  rw [show k + 26 = k + 25 - min l.length 25 + min l.length 25 + 1 by omega]
  exact h1
theorem three_odd {t : List S40} (h : ∀ e ∈ t, Three e) : t.any oddE = false := by
  rw [List.any_eq_false]
  intro e he
  obtain ⟨h1, h2⟩ := h e he
  unfold oddE
  simp only [Bool.or_eq_true, decide_eq_true_eq]
  omega
theorem find_run {t : List S40} (c : List Int) (h : ∀ e ∈ t, Three e) (hl : t.length ≤ 2000) : findL c t = (runL c t t.length).out := by
  unfold findL
  rw [three_odd h, decide_eq_false (by omega), if_neg (by decide)]
theorem getD_three {t : List S40} (h : ∀ e ∈ t, Three e) {n : Nat} (hn : n < t.length) : Three (t.getD n z40) := by
  rw [List.getD_eq_getElem?_getD, List.getElem?_eq_getElem hn]
  exact h _ (List.getElem_mem hn)
theorem say_out (d : Det) (e : S40) (k : Key) : (d.say e k).out = d.out := by
  unfold Det.say
  repeat' split
  all_goals rfl
theorem say_la (d : Det) (e : S40) (k : Key) : (d.say e k).la = d.la := by
  unfold Det.say
  repeat' split
  all_goals rfl
end Go.Proofs.Ytblnimopffhocaa.Pure
