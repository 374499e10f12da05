/- What the laws of layer 8 lean on: the chapter's example, raw events, how what is told grows. -/
import Derived.Test.YtblnimopffhocaaPx2
import Derived.Test.YtblnimopffhocaaPx3
import Derived.Test.YtblnimopffhocaaORaw
namespace Go.Proofs.Ytblnimopffhocaa.Pure
open Go.RowKit Go.Proofs.Ytblnimopffhocaa.P Go.Proofs.YtblnimopffhocaaW.PrintWords Go.Proofs.YtblnimopffhocaaW.PrintLast Go.Proofs.YtblnimopffhocaaX
set_option linter.unusedVariables false

theorem known_true : interlocklaw08_known.f = some true := by decide +kernel
theorem u8_range {x : Int} (h : (Lit.int .u8 x).wf = true) : 0 ≤ x ∧ x ≤ 255 := by
  simp only [Lit.wf, Bool.and_eq_true, decide_eq_true_eq] at h
  have h1 := h.1
  have h2 := h.2
  simp [IntKind.min, IntKind.max, IntKind.signed, IntKind.bits] at h1 h2
  omega
/-- A thread of three. -/
def Three (e : S40) : Prop := 0 ≤ e.f0 ∧ e.f0 < 3
theorem mod3 {x : Int} (h : 0 ≤ x ∧ x ≤ 255) : 0 ≤ wrap64 (Int.tmod x 3) ∧ wrap64 (Int.tmod x 3) < 3 := by
  rw [Int.tmod_eq_emod_of_nonneg h.1]
  unfold wrap64
  omega
abbrev OPS : List Int := [7, 8, 12, 13, 14, 15, 16, 17, 18, 19, 20, 21, 22, 23, 24, 25, 26, 27, 7, 8, 20, 21, 9]
theorem trace_loop (l : List S61) (hw : rawWf l) (k : Nat) : ∀ (d i : Nat) (x4 : List S40), i + d = min l.length 25 → x4.length = i → (∀ e ∈ x4, Three e) → ∃ t, interlocklaw07_Trace.l0 (k + d + 1) l OPS x4 (i : Int) = some t ∧ t.length ≤ 25 ∧ ∀ e ∈ t, Three e
  | 0, i, x4, hi, hx, h3 => by
    refine ⟨x4, ?_, by omega, h3⟩
    unfold interlocklaw07_Trace.l0
    by_cases h : (i : Int) < (l.length : Int)
    · rw [if_pos h, if_neg (by omega)]
    · rw [if_neg h]
  | d + 1, i, x4, hi, hx, h3 => by
    have hil : i < l.length := by omega
    have hr : rd_T61 l (i : Int) ∈ l := by
      unfold rd_T61
      rw [Int.toNat_natCast, List.getD_eq_getElem?_getD, List.getElem?_eq_getElem hil]
      exact List.getElem_mem hil
    obtain ⟨r0, r1⟩ := u8_range (hw _ hr).1
    have hm3 := mod3 (u8_range (hw _ hr).2)
    have hww : wrap64 ((rd_T61 l (i : Int)).f0) = (rd_T61 l (i : Int)).f0 := by unfold wrap64; omega
    have hlen : ((OPS.length : Nat) : Int) = 23 := rfl
    rw [show k + (d + 1) + 1 = (k + d + 1) + 1 from rfl, interlocklaw07_Trace.l0, if_pos (by omega), if_pos (by omega), if_pos (by omega), if_neg (by rw [hlen]; omega), hww, hlen, Int.tmod_eq_emod_of_nonneg r0, if_pos (by omega), if_pos (by omega), if_pos (by omega),
      show wrap64 ((i : Int) + 1) = ((i + 1 : Nat) : Int) from by unfold wrap64; omega]
    refine trace_loop l hw k d (i + 1) _ (by omega) (by rw [List.length_append, List.length_singleton, hx]) fun e he => ?_
    rcases List.mem_append.1 he with h | h
    · exact h3 e h
    · rw [List.mem_singleton.1 h]
      exact hm3
theorem trace_some (l : List S61) (hw : rawWf l) (k : Nat) : ∃ t, interlocklaw07_Trace.f (k + 26) l = some t ∧ t.length ≤ 25 ∧ ∀ e ∈ t, Three e := by
  obtain ⟨t, h1, h2⟩ := trace_loop l hw (k + 25 - min l.length 25) (min l.length 25) 0 [] (by omega) rfl (by simp)
  refine ⟨t, ?_, h2⟩
  unfold interlocklaw07_Trace.f
  rw [show k + 26 = k + 25 - min l.length 25 + min l.length 25 + 1 by omega]
  exact h1
theorem three_odd {t : List S40} (h : ∀ e ∈ t, Three e) : t.any oddE = false := by
  rw [List.any_eq_false]
  intro e he
  obtain ⟨h1, h2⟩ := h e he
  unfold oddE
  simp only [Bool.or_eq_true, decide_eq_true_eq]
  omega
theorem find_run {t : List S40} (c : List Int) (h : ∀ e ∈ t, Three e) (hl : t.length ≤ 2000) : findL c t = (runL c t t.length).out := by
  unfold findL
  rw [three_odd h, decide_eq_false (by omega), if_neg (by decide)]
theorem getD_three {t : List S40} (h : ∀ e ∈ t, Three e) {n : Nat} (hn : n < t.length) : Three (t.getD n z40) := by
  rw [List.getD_eq_getElem?_getD, List.getElem?_eq_getElem hn]
  exact h _ (List.getElem_mem hn)
/-- What is told grows at its end, by races whose second event is the one that is looked at. -/
theorem look_grows (d : Det) (e : S40) (i : Int) (u : Nat) : ∃ x : List S55, (d.look e i u).out = d.out ++ x ∧ ∀ r ∈ x, r.f1 = i := by
  unfold Det.look
  split
  · exact ⟨_, rfl, by simp⟩
  · exact ⟨[], by simp, by simp⟩
theorem looks_grows (d : Det) (e : S40) (i : Int) : ∀ m, ∃ x : List S55, (d.looks e i m).out = d.out ++ x ∧ ∀ r ∈ x, r.f1 = i
  | 0 => ⟨[], by simp [Det.looks], by simp⟩
  | m + 1 => by
    obtain ⟨x, h1, h2⟩ := looks_grows d e i m
    obtain ⟨y, k1, k2⟩ := look_grows (d.looks e i m) e i m
    refine ⟨x ++ y, ?_, fun r hr => ?_⟩
    · show ((d.looks e i m).look e i m).out = _
      rw [k1, h1, List.append_assoc]
    · rcases List.mem_append.1 hr with h | h
      · exact h2 r h
      · exact k2 r h
theorem say_out (d : Det) (e : S40) (k : Key) : (d.say e k).out = d.out := by
  unfold Det.say
  repeat' split
  all_goals rfl
theorem say_la (d : Det) (e : S40) (k : Key) : (d.say e k).la = d.la := by
  unfold Det.say
  repeat' split
  all_goals rfl
theorem hear_la (d : Det) (c : List Int) (e : S40) : (d.hear c e).1.la = d.la := by
  unfold Det.hear
  repeat' split
  all_goals rfl
theorem event_grows (d : Det) (c : List Int) (i : Int) (e : S40) : ∃ x : List S55, (d.event c i e).out = d.out ++ x ∧ ∀ r ∈ x, r.f1 = i := by
  unfold Det.event
  simp only
  rw [say_out]
  split
  · obtain ⟨x, h1, h2⟩ := looks_grows ((d.hear c e).1.tick e.f0.toNat) e i 6
    refine ⟨x, ?_, h2⟩
    show (((d.hear c e).1.tick e.f0.toNat).looks e i 6).out = _
    rw [h1]
    show (d.hear c e).1.out ++ x = _
    rw [Det.hear_out]
  · refine ⟨[], ?_, by simp⟩
    show (d.hear c e).1.out = _
    rw [Det.hear_out, List.append_nil]
theorem run_grows (c : List Int) (t : List S40) (i : Nat) : ∀ m, ∃ x : List S55, (runL c t (i + m)).out = (runL c t i).out ++ x ∧ ∀ r ∈ x, (i : Int) ≤ r.f1
  | 0 => ⟨[], by simp, by simp⟩
  | m + 1 => by
    obtain ⟨x, h1, h2⟩ := run_grows c t i m
    obtain ⟨y, k1, k2⟩ := event_grows (runL c t (i + m)) c ((i + m : Nat) : Int) (t.getD (i + m) z40)
    refine ⟨x ++ y, ?_, fun r hr => ?_⟩
    · exact k1.trans (by rw [h1, List.append_assoc])
    · rcases List.mem_append.1 hr with h | h
      · exact h2 r h
      · rw [k2 r h]; omega
theorem run_take (c : List Int) (t : List S40) (n : Nat) : ∀ i, i ≤ n → runL c (t.take n) i = runL c t i
  | 0, _ => rfl
  | i + 1, h => by
    show (runL c (t.take n) i).event c _ _ = (runL c t i).event c _ _
    rw [run_take c t n i (by omega)]
    congr 1
    rw [List.getD_eq_getElem?_getD, List.getElem?_take, if_pos (by omega), List.getD_eq_getElem?_getD]
/-- Nothing is told by an event for which no thread's last access is there but its own. -/
theorem looks_quiet (d : Det) (e : S40) (i : Int) (h : ∀ u, (d.latest u e).2 = false ∨ (u : Int) = e.f0 ∨ (d.latest u e).1.2 ≤ atL (d.th e.f0.toNat) (u : Int)) : ∀ m, d.looks e i m = d
  | 0 => rfl
  | m + 1 => by
    show (d.looks e i m).look e i m = d
    rw [looks_quiet d e i h m]
    unfold Det.look
    rw [if_neg]
    simp only [Bool.and_eq_true, bne_iff_ne, decide_eq_true_iff, not_and]
    intro h1 h2 h3
    rcases h m with h | h | h
    · rw [h] at h1; cases h1
    · exact h2 h
    · omega
end Go.Proofs.Ytblnimopffhocaa.Pure
