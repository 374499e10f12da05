/- Clocks that tell what is ahead: an event; what is told is what the document's races are. -/
import Derived.Test.YtblnimopffhocaaVCB
namespace Go.Proofs.Ytblnimopffhocaa.Pure
open Go.RowKit Go.Proofs.Ytblnimopffhocaa.P Go.Proofs.YtblnimopffhocaaW.PrintWords Go.Proofs.YtblnimopffhocaaW.PrintLast Go.Proofs.YtblnimopffhocaaX
set_option linter.unusedVariables false
section
variable {c : List Int} {t : List Ev} {n T : Nat} {d d1 : Det} {k : Key}
theorem toT_reach {b : Nat} (hb : b < n) (hT0 : (evA t n).f0 = (T : Int)) (h : toT t b (T : Int)) : dirR c t b n = true := by
  rw [dirR_iff, hT0]
  exact .inl h
theorem ticked (h6 : Six t) (hn : n < t.length) (hl : t.length ≤ 2000) (hT0 : (evA t n).f0 = (T : Int)) (hR : Rep t n (d1.th T) (fun a => Reach (dirR c t) a n)) (hB : Bnd t n (d1.th T)) (hO : atL (d1.th T) (T : Int) = (cntN t (T : Int) n : Int)) :
    Rep t (n + 1) ((d1.tick T).th T) (fun a => HB (dirR c t) a n) ∧ Bnd t (n + 1) ((d1.tick T).th T) ∧ atL ((d1.tick T).th T) (T : Int) = (cntN t (T : Int) (n + 1) : Int) := by
  have hT : T < 6 := by have := (h6 n hn).2; omega
  have hc := cntN_le t (T : Int) n
  have hcs : cntN t (T : Int) (n + 1) = cntN t (T : Int) n + 1 := by rw [cntN, if_pos hT0]
  have e : ∀ v : Nat, atL ((d1.tick T).th T) (v : Int) = if v = T then (cntN t (T : Int) n : Int) + 1 else atL (d1.th T) (v : Int) := fun v => by
    have e1 : (d1.tick T).th T = tickL (d1.th T) (T : Int) := up1_self _ _ _
    rw [e1, at_tick _ _ hT, hO]
    split
    · unfold wrap64; omega
    · rfl
  refine ⟨fun a ha => ?_, fun v => ?_, ?_⟩
  · obtain ⟨v, hv⟩ := Int.eq_ofNat_of_zero_le (h6 a (by omega)).1
    rw [hv, e]
    by_cases han : a = n
    · subst han
      have hvT : v = T := by omega
      rw [if_pos hvT, tau_eq, hT0]
      exact ⟨fun _ => by omega, fun _ => .inl rfl⟩
    · have hr := hR a (by omega)
      rw [hv] at hr
      have hb : HB (dirR c t) a n ↔ Reach (dirR c t) a n := ⟨fun h => by rcases h with h | h; exact absurd h han; exact h, .inr⟩
      show HB (dirR c t) a n ↔ _
      rw [hb]
      by_cases hvT : v = T
      · rw [if_pos hvT]
        subst hvT
        have h1 : Reach (dirR c t) a n := .one (by omega) (toT_reach (by omega) hT0 (.inl hv))
        have h2 := tau_eq t a
        rw [hv] at h2
        have h3 := cntN_mono t (v : Int) (show a ≤ n by omega)
        exact ⟨fun _ => by omega, fun _ => h1⟩
      · rw [if_neg hvT]
        exact hr
  · rw [e]
    have h1 := hB v
    have h2 := cntN_mono t (v : Int) (Nat.le_add_right n 1)
    split
    · rename_i hv; subst hv; omega
    · omega
  · rw [e, if_pos rfl, hcs]
    omega
theorem wrote_more (o : Int) (b : Nat) (hb : b < n) : wroteB t o b (n + 1) = (wroteB t o b n || (wrB (evA t n) && (evA t n).f3 == o)) := by
  unfold wroteB
  rw [List.range_succ, List.any_append]
  congr 1
  simp [hb]
theorem wrote_new (o : Int) : wroteB t o n (n + 1) = false := by
  unfold wroteB
  rw [List.any_eq_false]
  intro x hx
  have := List.mem_range.1 hx
  simp
  omega
theorem tells_old {b : Nat} (hb : b < n) (q : Key) : tells t (n + 1) b q ↔ tells t n b q ∧ ¬ (q.1 = 2 ∧ wrB (evA t n) = true ∧ (evA t n).f3 = q.2.1) := by
  unfold tells
  rw [wrote_more _ _ hb]
  simp only [Bool.or_eq_false_iff, Bool.and_eq_false_iff, beq_eq_false_iff_ne, ne_eq]
  constructor
  · rintro ⟨h1, h2⟩
    refine ⟨⟨h1, ?_⟩, ?_⟩
    · rcases h2 with h | h | h | h | h | h | h | h
      · exact .inl h
      · exact .inr (.inl h)
      · exact .inr (.inr (.inl ⟨h.1, h.2.1, h.2.2.1, h.2.2.2.1⟩))
      · exact .inr (.inr (.inr (.inl h)))
      · exact .inr (.inr (.inr (.inr (.inl h))))
      · exact .inr (.inr (.inr (.inr (.inr (.inl h)))))
      · exact .inr (.inr (.inr (.inr (.inr (.inr (.inl h))))))
      · exact .inr (.inr (.inr (.inr (.inr (.inr (.inr h))))))
    · rintro ⟨a1, a2, a3⟩
      rcases h2 with h | h | h | h | h | h | h | h
      · omega
      · omega
      · rcases h.2.2.2.2 with h9 | h9
        · rw [a2] at h9; cases h9
        · exact h9 (by omega)
      · omega
      · omega
      · omega
      · omega
      · omega
  · rintro ⟨⟨h1, h2⟩, h3⟩
    refine ⟨h1, ?_⟩
    rcases h2 with h | h | h | h | h | h | h | h
    · exact .inl h
    · exact .inr (.inl h)
    · refine .inr (.inr (.inl ⟨h.1, h.2.1, h.2.2.1, h.2.2.2, ?_⟩))
      by_cases hw : wrB (evA t n) = true
      · right
        intro h9
        exact h3 ⟨h.1, hw, by omega⟩
      · left
        simpa using hw
    · exact .inr (.inr (.inr (.inl h)))
    · exact .inr (.inr (.inr (.inr (.inl h))))
    · exact .inr (.inr (.inr (.inr (.inr (.inl h)))))
    · exact .inr (.inr (.inr (.inr (.inr (.inr (.inl h))))))
    · exact .inr (.inr (.inr (.inr (.inr (.inr (.inr h))))))
theorem kn_same (h6 : Six t) (hn : n < t.length) {q : Key} {l : List Int} (hR : Rep t n l (fun a => ∃ b, b < n ∧ HB (dirR c t) a b ∧ tells t n b q)) (hB : Bnd t n l) (hnew : ¬ tells t (n + 1) n q) (hold : ¬ (q.1 = 2 ∧ wrB (evA t n) = true ∧ (evA t n).f3 = q.2.1)) :
    Rep t (n + 1) l (fun a => ∃ b, b < n + 1 ∧ HB (dirR c t) a b ∧ tells t (n + 1) b q) := by
  refine hR.more h6 hn hB (fun a ha => ?_) ?_
  · constructor
    · rintro ⟨b, hb, hh, ht⟩
      exact ⟨b, by omega, hh, (tells_old hb q).2 ⟨ht, hold⟩⟩
    · rintro ⟨b, hb, hh, ht⟩
      by_cases hbn : b = n
      · subst hbn; exact absurd ht hnew
      · exact ⟨b, by omega, hh, ((tells_old (by omega) q).1 ht).1⟩
  · rintro ⟨b, hb, hh, ht⟩
    have := hh.le
    obtain rfl : b = n := by omega
    exact hnew ht
theorem kn_join (h6 : Six t) (hn : n < t.length) {q : Key} {l L : List Int} (hR : Rep t n l (fun a => ∃ b, b < n ∧ HB (dirR c t) a b ∧ tells t n b q)) (hB : Bnd t n l) (hL : Rep t (n + 1) L (fun a => HB (dirR c t) a n)) (hnew : tells t (n + 1) n q) (hold : ¬ (q.1 = 2 ∧ wrB (evA t n) = true ∧ (evA t n).f3 = q.2.1)) :
    Rep t (n + 1) (joinL l L) (fun a => ∃ b, b < n + 1 ∧ HB (dirR c t) a b ∧ tells t (n + 1) b q) := by
  have h1 : Rep t (n + 1) l (fun a => ∃ b, b < n ∧ HB (dirR c t) a b ∧ tells t n b q) := hR.more h6 hn hB (fun a ha => Iff.rfl) (by rintro ⟨b, hb, hh, _⟩; have := hh.le; omega)
  refine (h1.join h6 (by omega) hL).congr fun a ha => ?_
  constructor
  · rintro (⟨b, hb, hh, ht⟩ | hh)
    · exact ⟨b, by omega, hh, (tells_old hb q).2 ⟨ht, hold⟩⟩
    · exact ⟨n, by omega, hh, hnew⟩
  · rintro ⟨b, hb, hh, ht⟩
    by_cases hbn : b = n
    · subst hbn; exact .inr hh
    · exact .inl ⟨b, by omega, hh, ((tells_old (by omega) q).1 ht).1⟩
theorem kn_write {L' : List Int} (hL : Rep t (n + 1) L' (fun a => HB (dirR c t) a n)) {q : Key} (hnew : tells t (n + 1) n q) (hold : q.1 = 2 ∧ wrB (evA t n) = true ∧ (evA t n).f3 = q.2.1) :
    Rep t (n + 1) L' (fun a => ∃ b, b < n + 1 ∧ HB (dirR c t) a b ∧ tells t (n + 1) b q) := by
  refine hL.congr fun a ha => ?_
  constructor
  · intro hh; exact ⟨n, by omega, hh, hnew⟩
  · rintro ⟨b, hb, hh, ht⟩
    by_cases hbn : b = n
    · subst hbn; exact hh
    · exact absurd hold ((tells_old (by omega) q).1 ht).2
end
structure Mid2 (c : List Int) (t : List Ev) (n T : Nat) (d d3 : Det) : Prop where
  R : Rep t (n + 1) (d3.th T) (fun a => HB (dirR c t) a n)
  B : Bnd t (n + 1) (d3.th T)
  O : atL (d3.th T) (T : Int) = (cntN t (T : Int) (n + 1) : Int)
  others : ∀ u, u ≠ T → d3.th u = d.th u
  kn : d3.kn = d.kn
  ct : ∀ o, d3.ct (3, o, 0) = (sendsN t o (n + 1) : Int) ∧ d3.ct (4, o, 0) = (takesN t o (n + 1) : Int)
  la : ∀ (u : Nat) (o : Int) (b : Bool), u < 6 → LaOk t (n + 1) u o b (d3.la ((u : Int), o, b))
section
variable {c : List Int} {t : List Ev} {n T : Nat} {d d3 : Det} {k : Key}
theorem say_kn (h : VC c t n d) (h6 : Six t) (hn : n < t.length) (m : Mid2 c t n T d d3) (hT0 : (evA t n).f0 = (T : Int)) (hk : ((evA t n).f2 = 20 → k = (3, (evA t n).f3, (sendsN t (evA t n).f3 n : Int))) ∧ (takeB (evA t n) = true → k = (4, (evA t n).f3, (takesN t (evA t n).f3 n : Int)))) (q : Key) :
    Rep t (n + 1) ((d3.say (evA t n) k).kn q) (fun a => ∃ b, b < n + 1 ∧ HB (dirR c t) a b ∧ tells t (n + 1) b q) ∧ Bnd t (n + 1) ((d3.say (evA t n) k).kn q) := by
  have hq := h.knS q
  have hqb := h.knB q
  rw [← m.kn] at hq hqb
  obtain ⟨e, he⟩ : ∃ e, evA t n = e := ⟨_, rfl⟩
  have w0 := fun o => wrote_new (t := t) (n := n) o
  have TL : ∀ k0 : Key, tells t (n + 1) n k0 → (∀ q, tells t (n + 1) n q → q = k0) → wrB e = false → Rep t (n + 1) ((d3.tell T k0).kn q) (fun a => ∃ b, b < n + 1 ∧ HB (dirR c t) a b ∧ tells t (n + 1) b q) ∧ Bnd t (n + 1) ((d3.tell T k0).kn q) := fun k0 h1 h2 h3 => by
    have no : ¬ (q.1 = 2 ∧ wrB (evA t n) = true ∧ (evA t n).f3 = q.2.1) := by rw [he, h3]; rintro ⟨_, h, _⟩; cases h
    by_cases hqk : q = k0
    · subst hqk
      have e1 : (d3.tell T q).kn q = joinL (d3.kn q) (d3.th T) := up1_self _ _ _
      rw [e1]
      exact ⟨kn_join h6 hn hq hqb m.R h1 no, hqb.more.join m.B⟩
    · have e1 : (d3.tell T k0).kn q = d3.kn q := up1_ne _ _ hqk
      rw [e1]
      exact ⟨kn_same h6 hn hq hqb (fun hh => hqk (h2 q hh)) no, hqb.more⟩
  have NT : (∀ q, ¬ tells t (n + 1) n q) → wrB e = false → Rep t (n + 1) (d3.kn q) (fun a => ∃ b, b < n + 1 ∧ HB (dirR c t) a b ∧ tells t (n + 1) b q) ∧ Bnd t (n + 1) (d3.kn q) := fun h1 h3 =>
    ⟨kn_same h6 hn hq hqb (h1 q) (by rw [he, h3]; rintro ⟨_, h, _⟩; cases h), hqb.more⟩
  obtain ⟨q0, q1, q2⟩ := q
  rw [he] at hT0 hk ⊢
  unfold Det.say
  rw [hT0, Int.toNat_natCast]
  have uniq : ∀ (x y z : Int) (a b c' : Int), (x = a ∧ y = b ∧ z = c') → ((x, y, z) : Key) = (a, b, c') := fun x y z a b c' hh => by rw [hh.1, hh.2.1, hh.2.2]
  by_cases c12 : (e.f2 == 12) = true
  · rw [if_pos c12]
    rw [beq_iff_eq] at c12
    have nt := NT (fun q => by unfold tells; rw [he]; simp [c12, wrB, takeB]) (by simp [wrB, c12])
    split
    · exact nt
    · exact nt
  rw [if_neg c12]
  by_cases c14 : (e.f2 == 14) = true
  · rw [if_pos c14]
    rw [beq_iff_eq] at c14
    exact TL (0, e.f3, 0) (by unfold tells; rw [he]; simp [c14]) (fun q hh => by unfold tells at hh; rw [he] at hh; simp [c14, wrB, takeB] at hh; exact uniq _ _ _ _ _ _ ⟨hh.2.1, hh.1, hh.2.2⟩) (by simp [wrB, c14])
  rw [if_neg c14]
  by_cases c16 : (e.f2 == 16) = true
  · rw [if_pos c16]
    rw [beq_iff_eq] at c16
    exact TL (1, e.f3, 0) (by unfold tells; rw [he]; simp [c16]) (fun q hh => by unfold tells at hh; rw [he] at hh; simp [c16, wrB, takeB] at hh; exact uniq _ _ _ _ _ _ ⟨hh.2.1, hh.1, hh.2.2⟩) (by simp [wrB, c16])
  rw [if_neg c16]
  by_cases c18 : (e.f2 == 18 || e.f2 == 19) = true
  · rw [if_pos c18]
    have ew : wrB e = true := c18
    rw [Bool.or_eq_true, beq_iff_eq, beq_iff_eq] at c18
    have et : takeB e = false := by unfold takeB; grind
    have tn : ∀ q : Key, tells t (n + 1) n q ↔ q = (2, e.f3, 0) := fun q => by
      obtain ⟨x, y, z⟩ := q
      unfold tells
      rw [he, w0]
      simp only [et, ew, Prod.mk.injEq]
      constructor
      · rintro ⟨h1, h2⟩
        refine ⟨?_, h1, ?_⟩ <;> (rcases h2 with h | h | h | h | h | h | h | h <;> first | omega | (cases h.2.2))
      · rintro ⟨h1, h2, h3⟩
        exact ⟨h2, .inr (.inr (.inl ⟨h1, h3, trivial, trivial⟩))⟩
    by_cases hqk : ((q0, q1, q2) : Key) = (2, e.f3, 0)
    · rw [hqk]
      show Rep t (n + 1) (up1 d3.kn (2, e.f3, 0) (d3.th T) (2, e.f3, 0)) _ ∧ Bnd t (n + 1) (up1 d3.kn (2, e.f3, 0) (d3.th T) (2, e.f3, 0))
      rw [up1_self]
      exact ⟨kn_write m.R ((tn _).2 rfl) ⟨rfl, by rw [he]; exact ew, by rw [he]⟩, m.B⟩
    · show Rep t (n + 1) (up1 d3.kn (2, e.f3, 0) (d3.th T) (q0, q1, q2)) _ ∧ Bnd t (n + 1) (up1 d3.kn (2, e.f3, 0) (d3.th T) (q0, q1, q2))
      rw [up1_ne _ _ hqk]
      by_cases ho : q0 = 2 ∧ e.f3 = q1
      ·
        have hz : q2 ≠ 0 := fun hz => hqk (by rw [ho.1, ho.2, hz])
        have none1 : ∀ m' b, ¬ tells t m' b ((q0, q1, q2) : Key) := fun m' b hh => by
          unfold tells at hh
          simp only at hh
          rcases hh.2 with h | h | h | h | h | h | h | h <;> omega
        refine ⟨(hq.more h6 hn hqb (fun a ha => ?_) ?_), hqb.more⟩
        · exact ⟨fun ⟨b, _, _, ht⟩ => absurd ht (none1 _ _), fun ⟨b, _, _, ht⟩ => absurd ht (none1 _ _)⟩
        · rintro ⟨b, _, _, ht⟩; exact none1 _ _ ht
      · exact ⟨kn_same h6 hn hq hqb (fun hh => hqk ((tn _).1 hh)) (by rw [he]; rintro ⟨h1, _, h2⟩; exact ho ⟨h1, h2⟩), hqb.more⟩
  rw [if_neg c18]
  have ew : wrB e = false := by simpa [wrB] using c18
  by_cases c20 : (e.f2 == 20) = true
  · rw [if_pos c20]
    rw [beq_iff_eq] at c20
    rw [hk.1 c20]
    exact TL _ (by unfold tells; rw [he]; simp [c20]) (fun q hh => by unfold tells at hh; rw [he] at hh; simp [c20, wrB, takeB] at hh; exact uniq _ _ _ _ _ _ ⟨hh.2.1, hh.1, hh.2.2⟩) ew
  rw [if_neg c20]
  by_cases c21 : (e.f2 == 21 || e.f2 == 22) = true
  · rw [if_pos c21]
    have c21' := c21
    rw [Bool.or_eq_true, beq_iff_eq, beq_iff_eq] at c21'
    by_cases m1 : (e.f5 == 1) = true
    · rw [if_pos m1]
      have et : takeB e = true := by unfold takeB; rw [c21, m1]; rfl
      rw [hk.2 et]
      refine TL _ (by unfold tells; rw [he]; simp [et]) (fun q hh => ?_) ew
      unfold tells at hh
      rw [he] at hh
      simp only [ew, et] at hh
      refine uniq _ _ _ _ _ _ ⟨?_, hh.1, ?_⟩ <;> (rcases hh.2 with h | h | h | h | h | h | h | h <;> first | omega | (cases h.2.2.1) | exact h.2.1)
    · rw [if_neg m1]
      have et : takeB e = false := by unfold takeB; simp at m1; simp [m1]
      refine NT (fun q hh => ?_) ew
      unfold tells at hh
      rw [he] at hh
      simp only [ew, et] at hh
      rcases hh.2 with h | h | h | h | h | h | h | h <;> first | omega | (cases h.2.2.1) | (cases h.2.2)
  rw [if_neg c21]
  have et : takeB e = false := by unfold takeB; simp at c21; simp [c21]
  by_cases c23 : (e.f2 == 23) = true
  · rw [if_pos c23]
    rw [beq_iff_eq] at c23
    exact TL (5, e.f3, 0) (by unfold tells; rw [he]; simp [c23]) (fun q hh => by unfold tells at hh; rw [he] at hh; simp [c23, wrB, takeB] at hh; exact uniq _ _ _ _ _ _ ⟨hh.2.1, hh.1, hh.2.2⟩) ew
  rw [if_neg c23]
  by_cases c24 : (e.f2 == 24) = true
  · rw [if_pos c24]
    rw [beq_iff_eq] at c24
    by_cases m4 : e.f4 < 0
    · rw [if_pos m4]
      exact TL (6, e.f3, 0) (by unfold tells; rw [he]; simp [c24, m4]) (fun q hh => by unfold tells at hh; rw [he] at hh; simp [c24, wrB, takeB] at hh; exact uniq _ _ _ _ _ _ ⟨hh.2.1, hh.1, hh.2.2.1⟩) ew
    · rw [if_neg m4]
      exact NT (fun q hh => by unfold tells at hh; rw [he] at hh; simp [c24, wrB, takeB] at hh; omega) ew
  rw [if_neg c24]
  by_cases c27 : (e.f2 == 27) = true
  · rw [if_pos c27]
    rw [beq_iff_eq] at c27
    exact TL (7, e.f3, 0) (by unfold tells; rw [he]; simp [c27]) (fun q hh => by unfold tells at hh; rw [he] at hh; simp [c27, wrB, takeB] at hh; exact uniq _ _ _ _ _ _ ⟨hh.2.1, hh.1, hh.2.2⟩) ew
  rw [if_neg c27]
  simp only [Bool.or_eq_true, beq_iff_eq] at c12 c14 c16 c18 c20 c21 c23 c24 c27
  refine NT (fun q hh => ?_) ew
  unfold tells at hh
  rw [he] at hh
  simp only [ew, et] at hh
  rcases hh.2 with h | h | h | h | h | h | h | h <;> first | omega | (cases h.2.2.1) | (cases h.2.2)
theorem say_th (e : Ev) (k : Key) (hT0 : e.f0 = (T : Int)) (u : Nat) : (d3.say e k).th u = if e.f2 = 12 ∧ e.f3 = (u : Int) ∧ u < 6 then joinL (d3.th u) (d3.th T) else d3.th u := by
  unfold Det.say
  rw [hT0, Int.toNat_natCast]
  by_cases c12 : e.f2 = 12
  · rw [if_pos (by simp [c12])]
    by_cases ho : 0 ≤ e.f3 ∧ e.f3 < 6
    · rw [if_pos ho]
      show up1 d3.th _ _ u = _
      unfold up1
      by_cases hu : u = e.f3.toNat
      · rw [if_pos hu, if_pos ⟨c12, by omega, by omega⟩, ← hu]
      · rw [if_neg hu, if_neg (by rintro ⟨_, h1, _⟩; omega)]
    · rw [if_neg ho, if_neg (by rintro ⟨_, h1, h2⟩; omega)]
  · have e2 : (if e.f2 = 12 ∧ e.f3 = (u : Int) ∧ u < 6 then joinL (d3.th u) (d3.th T) else d3.th u) = d3.th u := if_neg (fun h => c12 h.1)
    rw [e2, if_neg (by simpa using c12)]
    repeat' split
    all_goals rfl
theorem say_ct (e : Ev) (k : Key) : (d3.say e k).ct = d3.ct := by
  unfold Det.say
  repeat' split
  all_goals rfl
theorem VC.say (h : VC c t n d) (h6 : Six t) (hn : n < t.length) (m : Mid2 c t n T d d3) (hT0 : (evA t n).f0 = (T : Int)) (hk : ((evA t n).f2 = 20 → k = (3, (evA t n).f3, (sendsN t (evA t n).f3 n : Int))) ∧ (takeB (evA t n) = true → k = (4, (evA t n).f3, (takesN t (evA t n).f3 n : Int)))) :
    VC c t (n + 1) (d3.say (evA t n) k) := by
  have hT : T < 6 := by have := (h6 n hn).2; omega
  have hkn := say_kn h h6 hn m hT0 hk
  have base : ∀ u : Nat, u < 6 → Rep t (n + 1) (d3.th u) (fun a => (∃ b, b < n ∧ HB (dirR c t) a b ∧ toT t b (u : Int)) ∨ ((u : Int) = (evA t n).f0 ∧ HB (dirR c t) a n)) ∧ Bnd t (n + 1) (d3.th u) ∧ atL (d3.th u) (u : Int) = (cntN t (u : Int) (n + 1) : Int) := fun u hu => by
    by_cases huT : u = T
    · subst huT
      refine ⟨m.R.congr fun a ha => ?_, m.B, m.O⟩
      constructor
      · intro hh; exact .inr ⟨hT0.symm, hh⟩
      · rintro (⟨b, hb, hh, ht⟩ | ⟨_, hh⟩)
        · exact .inr (reach_last.2 ⟨b, hb, hh, toT_reach hb hT0 ht⟩)
        · exact hh
    · rw [m.others u huT]
      refine ⟨(h.thS u hu).more h6 hn (h.thB u hu) (fun a ha => ?_) ?_, (h.thB u hu).more, ?_⟩
      · constructor
        · intro hh; exact .inl hh
        · rintro (hh | ⟨h1, _⟩)
          · exact hh
          · rw [hT0] at h1; omega
      · rintro (⟨b, hb, hh, _⟩ | ⟨h1, _⟩)
        · have := hh.le; omega
        · rw [hT0] at h1; omega
      · rw [h.own u hu, cntN, if_neg (by rw [hT0]; omega)]
        rfl
  have toN : ∀ u : Nat, toT t n (u : Int) ↔ (u : Int) = (evA t n).f0 ∨ ((evA t n).f2 = 12 ∧ (evA t n).f3 = (u : Int)) := fun u => by
    unfold toT
    constructor
    · rintro (h | h)
      · exact .inl h.symm
      · exact .inr h
    · rintro (h | h)
      · exact .inl h.symm
      · exact .inr h
  refine ⟨fun u hu => ?_, fun u hu => ?_, fun u hu => ?_, fun q => (hkn q).1, fun q => (hkn q).2, fun o => by rw [say_ct]; exact m.ct o, fun u o b hu => by rw [say_la]; exact m.la u o b hu⟩
  · rw [say_th _ _ hT0]
    obtain ⟨b1, b2, b3⟩ := base u hu
    by_cases hg : (evA t n).f2 = 12 ∧ (evA t n).f3 = (u : Int) ∧ u < 6
    · rw [if_pos hg]
      refine (b1.join h6 (by omega) m.R).congr fun a ha => ?_
      constructor
      · rintro ((⟨b, hb, hh, ht⟩ | ⟨h1, hh⟩) | hh)
        · exact ⟨b, by omega, hh, ht⟩
        · exact ⟨n, by omega, hh, (toN u).2 (.inl h1)⟩
        · exact ⟨n, by omega, hh, (toN u).2 (.inr ⟨hg.1, hg.2.1⟩)⟩
      · rintro ⟨b, hb, hh, ht⟩
        by_cases hbn : b = n
        · subst hbn; exact .inr hh
        · exact .inl (.inl ⟨b, by omega, hh, ht⟩)
    · rw [if_neg hg]
      refine b1.congr fun a ha => ?_
      constructor
      · rintro (⟨b, hb, hh, ht⟩ | ⟨h1, hh⟩)
        · exact ⟨b, by omega, hh, ht⟩
        · exact ⟨n, by omega, hh, (toN u).2 (.inl h1)⟩
      · rintro ⟨b, hb, hh, ht⟩
        by_cases hbn : b = n
        · subst hbn
          rcases (toN u).1 ht with h1 | h1
          · exact .inr ⟨h1, hh⟩
          · exact absurd ⟨h1.1, h1.2, hu⟩ hg
        · exact .inl ⟨b, by omega, hh, ht⟩
  · rw [say_th _ _ hT0]
    obtain ⟨b1, b2, b3⟩ := base u hu
    split
    · exact b2.join m.B
    · exact b2
  · rw [say_th _ _ hT0]
    obtain ⟨b1, b2, b3⟩ := base u hu
    split
    · rw [at_join, b3]
      have := m.B u
      unfold mx
      split <;> omega
    · exact b3
end
end Go.Proofs.Ytblnimopffhocaa.Pure
