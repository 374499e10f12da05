/- Accesses between locking and unlocking one lock: what is kept. -/
import Derived.Test.YtblnimopffhocaaPureR
namespace Go.Proofs.Ytblnimopffhocaa.Pure
open Go.RowKit Go.Proofs.Ytblnimopffhocaa.P Go.Proofs.YtblnimopffhocaaW.PrintWords Go.Proofs.YtblnimopffhocaaW.PrintLast Go.Proofs.YtblnimopffhocaaX
set_option linter.unusedVariables false

theorem at_join (a b : List Int) (j : Nat) : atL (joinL a b) (j : Int) = mx (atL a (j : Int)) (atL b (j : Int)) := C.cAt_byF mx rfl a b j
theorem at_tick (a : List Int) (t : Nat) (ht : t < 6) (j : Nat) : atL (tickL a (t : Int)) (j : Int) = if j = t then wrap64 (atL a (t : Int) + 1) else atL a (j : Int) := C.cAt_tick a t (by omega) j
abbrev K0 : Key := (0, 0, 0)
abbrev K1 : Key := (1, 0, 0)
/-- Clocks count no further than events. -/
structure Bd (n : Nat) (d : Det) : Prop where
  th : ∀ (u j : Nat), 0 ≤ atL (d.th u) (j : Int) ∧ atL (d.th u) (j : Int) ≤ (n : Int)
  kn : ∀ (k : Key) (j : Nat), 0 ≤ atL (d.kn k) (j : Int) ∧ atL (d.kn k) (j : Int) ≤ (n : Int)
section
variable {n : Nat} {d : Det}
theorem mx_le {a b c : Int} (h1 : a ≤ c) (h2 : b ≤ c) : mx a b ≤ c := by unfold mx; split <;> assumption
theorem le_mx_l (a b : Int) : a ≤ mx a b := by unfold mx; split <;> omega
theorem le_mx_r (a b : Int) : b ≤ mx a b := by unfold mx; split <;> omega
theorem Bd.learn (h : Bd n d) (t : Nat) (k : Key) : Bd n (d.learn t k) := by
  refine ⟨fun u j => ?_, h.kn⟩
  show 0 ≤ atL (up1 d.th t _ u) _ ∧ atL (up1 d.th t _ u) _ ≤ _
  unfold up1
  split
  · rw [at_join]
    have h1 := h.th t j
    have h2 := h.kn k j
    have h3 := le_mx_l (atL (d.th t) (j : Int)) (atL (d.kn k) (j : Int))
    exact ⟨by omega, mx_le h1.2 h2.2⟩
  · exact h.th u j
theorem Bd.tell (h : Bd n d) (t : Nat) (k : Key) : Bd n (d.tell t k) := by
  refine ⟨h.th, fun q j => ?_⟩
  show 0 ≤ atL (up1 d.kn k _ q) _ ∧ atL (up1 d.kn k _ q) _ ≤ _
  unfold up1
  split
  · rw [at_join]
    have h1 := h.th t j
    have h2 := h.kn k j
    have h3 := le_mx_l (atL (d.kn k) (j : Int)) (atL (d.th t) (j : Int))
    exact ⟨by omega, mx_le h2.2 h1.2⟩
  · exact h.kn q j
theorem tick_at (h : Bd n d) (hn : n ≤ 1000000) {t : Nat} (ht : t < 6) (j : Nat) : atL ((d.tick t).th t) (j : Int) = atL (d.th t) (j : Int) + if j = t then 1 else 0 := by
  show atL (up1 d.th t _ t) _ = _
  rw [up1_self, at_tick _ _ ht]
  have h1 := h.th t t
  split
  · rename_i hj
    subst hj
    unfold wrap64
    omega
  · omega
theorem Bd.tick (h : Bd n d) (hn : n ≤ 1000000) {t : Nat} (ht : t < 6) : Bd (n + 1) (d.tick t) := by
  refine ⟨fun u j => ?_, fun k j => by have h1 := h.kn k j; show 0 ≤ atL (d.kn k) _ ∧ atL (d.kn k) _ ≤ _; omega⟩
  by_cases hu : u = t
  · subst hu
    rw [tick_at h hn ht]
    have h1 := h.th u j
    split <;> omega
  · have e : (d.tick t).th u = d.th u := up1_ne _ _ hu
    rw [e]
    have h1 := h.th u j
    omega
theorem tick_le (h : Bd n d) (hn : n ≤ 1000000) {t : Nat} (ht : t < 6) (j : Nat) : atL (d.th t) (j : Int) ≤ atL ((d.tick t).th t) (j : Int) := by
  rw [tick_at h hn ht]
  split <;> omega
end
section
variable {n : Nat} {d : Det} {c : List Int} {i : Int} {e : S40} {t : Nat}
theorem ev_lock (h2 : e.f2 = 13) (h0 : e.f0 = (t : Int)) (h3 : e.f3 = 0) : d.event c i e = ((d.learn t K0).learn t K1).tick t := by
  simp [Det.event, Det.hear, Det.say, touchB, h2, h0, h3]
theorem ev_rlock (h2 : e.f2 = 15) (h0 : e.f0 = (t : Int)) (h3 : e.f3 = 0) : d.event c i e = (d.learn t K0).tick t := by
  simp [Det.event, Det.hear, Det.say, touchB, h2, h0, h3]
theorem ev_unlock (h2 : e.f2 = 14) (h0 : e.f0 = (t : Int)) (h3 : e.f3 = 0) : d.event c i e = (d.tick t).tell t K0 := by
  simp [Det.event, Det.hear, Det.say, touchB, h2, h0, h3]
theorem ev_runlock (h2 : e.f2 = 16) (h0 : e.f0 = (t : Int)) (h3 : e.f3 = 0) : d.event c i e = (d.tick t).tell t K1 := by
  simp [Det.event, Det.hear, Det.say, touchB, h2, h0, h3]
theorem ev_touch (h2 : e.f2 = 7 ∨ e.f2 = 8) (h0 : e.f0 = (t : Int)) : d.event c i e = ((d.tick t).looks e i 6).mark e i := by
  rcases h2 with h2 | h2
  · simp [Det.event, Det.hear, Det.say, touchB, h2, h0]
  · simp [Det.event, Det.hear, Det.say, touchB, h2, h0]
/-- What is kept between: nothing is told; each store is known by the lock, each load by it or by its readers. -/
structure Kept (n : Nat) (d : Det) : Prop where
  out : d.out = []
  bd : Bd n d
  st : ∀ (u : Nat) (o : Int) (x : Int × Int), d.la ((u : Int), o, true) = some x → x.2 ≤ atL (d.kn K0) (u : Int)
  ld : ∀ (u : Nat) (o : Int) (x : Int × Int), d.la ((u : Int), o, false) = some x → x.2 ≤ atL (d.kn K0) (u : Int) ∨ x.2 ≤ atL (d.kn K1) (u : Int)
/-- A thread knows what the lock knows. -/
def Cover (lock : Bool) (d : Det) (t : Nat) : Prop := ∀ u : Nat, atL (d.kn K0) (u : Int) ≤ atL (d.th t) (u : Int) ∧ (lock = true → atL (d.kn K1) (u : Int) ≤ atL (d.th t) (u : Int))
theorem acquire (h : Kept n d) (hn : n ≤ 1000000) (ht : t < 6) (lock : Bool) (h2 : e.f2 = if lock = true then 13 else 15) (h0 : e.f0 = (t : Int)) (h3 : e.f3 = 0) : Kept (n + 1) (d.event c i e) ∧ Cover lock (d.event c i e) t := by
  cases lock with
  | true =>
    rw [if_pos rfl] at h2
    rw [ev_lock h2 h0 h3]
    have hb := (h.bd.learn t K0).learn t K1
    refine ⟨⟨h.out, hb.tick hn ht, h.st, h.ld⟩, fun u => ?_⟩
    have h4 := tick_le hb hn ht u
    have h5 : atL (((d.learn t K0).learn t K1).th t) (u : Int) = mx (mx (atL (d.th t) (u : Int)) (atL (d.kn K0) (u : Int))) (atL (d.kn K1) (u : Int)) := by
      show atL (up1 (up1 d.th t _) t _ t) _ = _
      rw [up1_self, at_join]
      show mx (atL (up1 d.th t _ t) _) _ = _
      rw [up1_self, at_join]
      rfl
    have h6 := le_mx_r (atL (d.th t) (u : Int)) (atL (d.kn K0) (u : Int))
    have h7 := le_mx_l (mx (atL (d.th t) (u : Int)) (atL (d.kn K0) (u : Int))) (atL (d.kn K1) (u : Int))
    have h8 := le_mx_r (mx (atL (d.th t) (u : Int)) (atL (d.kn K0) (u : Int))) (atL (d.kn K1) (u : Int))
    rw [h5] at h4
    exact ⟨by show atL (d.kn K0) _ ≤ _; omega, fun _ => by show atL (d.kn K1) _ ≤ _; omega⟩
  | false =>
    rw [if_neg (by decide)] at h2
    rw [ev_rlock h2 h0 h3]
    have hb := h.bd.learn t K0
    refine ⟨⟨h.out, hb.tick hn ht, h.st, h.ld⟩, fun u => ⟨?_, fun hh => by cases hh⟩⟩
    have h4 := tick_le hb hn ht u
    have h5 : atL ((d.learn t K0).th t) (u : Int) = mx (atL (d.th t) (u : Int)) (atL (d.kn K0) (u : Int)) := by
      show atL (up1 d.th t _ t) _ = _
      rw [up1_self, at_join]
    have h6 := le_mx_r (atL (d.th t) (u : Int)) (atL (d.kn K0) (u : Int))
    rw [h5] at h4
    show atL (d.kn K0) _ ≤ _
    omega
/-- An access between: nothing is told; only its own last access is new. -/
theorem between (h : Kept n d) (hn : n ≤ 1000000) (ht : t < 6) {lock : Bool} (hc : Cover lock d t) (h2 : e.f2 = 7 ∨ lock = true ∧ e.f2 = 8) (h0 : e.f0 = (t : Int)) :
    ∃ d2, d.event c i e = d2 ∧ d2.out = [] ∧ Bd (n + 1) d2 ∧ d2.kn = d.kn ∧ ∃ x : Int × Int, x.2 ≤ atL (d2.th t) (t : Int) ∧ d2.la = up1 d.la ((t : Int), e.f3, e.f2 == 8) (some x) := by
  have hb := h.bd.tick hn ht
  have hl : ∀ m, (d.tick t).looks e i m = d.tick t := looks_quiet _ e i fun u => by
    have hcu := hc u
    have htk := tick_le h.bd hn ht u
    rw [h0, Int.toNat_natCast]
    by_cases h8 : (e.f2 == 8) = true
    · have hlk : lock = true := by
        rcases h2 with h | h
        · rw [beq_iff_eq] at h8; omega
        · exact h.1
      unfold Det.latest
      simp only
      split
      · rename_i hcond
        rw [Bool.and_eq_true, Bool.and_eq_true] at hcond
        obtain ⟨_, hw, _⟩ := hcond
        obtain ⟨x, hx⟩ := Option.isSome_iff_exists.1 hw
        right; right
        rw [hx]
        have := h.ld u e.f3 x hx
        have := hcu.2 hlk
        show x.2 ≤ _
        omega
      · cases hx : (d.tick t).la ((u : Int), e.f3, true) with
        | none => left; rfl
        | some x =>
          right; right
          have := h.st u e.f3 x hx
          show x.2 ≤ _
          omega
    · have h8' : (e.f2 == 8) = false := by simpa using h8
      unfold Det.latest
      simp only [h8', Bool.false_and, Bool.false_eq_true, if_false]
      cases hx : (d.tick t).la ((u : Int), e.f3, true) with
      | none => left; rfl
      | some x =>
        right; right
        have := h.st u e.f3 x hx
        show x.2 ≤ _
        omega
  refine ⟨_, ev_touch (by rcases h2 with h | h; exact .inl h; exact .inr h.2) h0, ?_, ?_, ?_, (i, atL ((d.tick t).th t) (t : Int)), ?_, ?_⟩
  · rw [hl]; exact h.out
  · rw [hl]; exact ⟨hb.th, hb.kn⟩
  · rw [hl]; rfl
  · rw [hl]; exact Int.le_refl _
  · rw [hl]
    unfold Det.mark
    rw [h0, Int.toNat_natCast]
    rfl
/-- Unlocking: what was done between is known by the lock, or by its readers. -/
theorem release {d2 : Det} (h : Kept n d) (hn : n ≤ 1000000) (ht : t < 6) (lock : Bool) (ho : d2.out = []) (hb2 : Bd (n + 1) d2) (hk : d2.kn = d.kn) {x : Int × Int} (hx : x.2 ≤ atL (d2.th t) (t : Int)) {o : Int} {b : Bool} (hla : d2.la = up1 d.la ((t : Int), o, b) (some x)) (hbl : b = true → lock = true)
    (h2 : e.f2 = if lock = true then 14 else 16) (h0 : e.f0 = (t : Int)) (h3 : e.f3 = 0) (hn1 : n + 1 ≤ 1000000) : Kept (n + 2) (d2.event c i e) := by
  have htk := fun u => tick_le hb2 hn1 ht u
  have hbt := hb2.tick hn1 ht
  have old : ∀ (u : Nat) (o' : Int) (b' : Bool) (y : Int × Int), up1 d.la ((t : Int), o, b) (some x) ((u : Int), o', b') = some y → (u = t ∧ b' = b ∧ y = x) ∨ d.la ((u : Int), o', b') = some y := fun u o' b' y hy => by
    unfold up1 at hy
    split at hy
    · rename_i he
      simp only [Prod.mk.injEq] at he
      exact .inl ⟨by omega, he.2.2, (Option.some.inj hy).symm⟩
    · exact .inr hy
  cases lock with
  | true =>
    rw [if_pos rfl] at h2
    rw [ev_unlock h2 h0 h3]
    have k0 : ∀ u : Nat, atL (d.kn K0) (u : Int) ≤ atL (((d2.tick t).tell t K0).kn K0) (u : Int) ∧ atL (d2.th t) (u : Int) ≤ atL (((d2.tick t).tell t K0).kn K0) (u : Int) := fun u => by
      have e1 : atL (((d2.tick t).tell t K0).kn K0) (u : Int) = mx (atL (d.kn K0) (u : Int)) (atL ((d2.tick t).th t) (u : Int)) := (congrArg (fun l => atL l (u : Int)) (up1_self d2.kn K0 (joinL (d2.kn K0) ((d2.tick t).th t)))).trans ((at_join _ _ u).trans (by rw [hk]))
      rw [e1]
      have h4 := le_mx_l (atL (d.kn K0) (u : Int)) (atL ((d2.tick t).th t) (u : Int))
      have h5 := le_mx_r (atL (d.kn K0) (u : Int)) (atL ((d2.tick t).th t) (u : Int))
      have := htk u
      exact ⟨h4, by omega⟩
    have k1 : ((d2.tick t).tell t K0).kn K1 = d.kn K1 := (up1_ne d2.kn (joinL (d2.kn K0) ((d2.tick t).th t)) (show K1 ≠ K0 by decide)).trans (by rw [hk])
    refine ⟨ho, hbt.tell t K0, fun u o' y hy => ?_, fun u o' y hy => ?_⟩
    · have hy' : up1 d.la ((t : Int), o, b) (some x) ((u : Int), o', true) = some y := by rw [← hla]; exact hy
      have := k0 u
      rcases old u o' true y hy' with ⟨rfl, _, rfl⟩ | hy
      · omega
      · have := h.st u o' y hy
        omega
    · have hy' : up1 d.la ((t : Int), o, b) (some x) ((u : Int), o', false) = some y := by rw [← hla]; exact hy
      have := k0 u
      rw [k1]
      rcases old u o' false y hy' with ⟨rfl, _, rfl⟩ | hy
      · left; omega
      · rcases h.ld u o' y hy with h9 | h9
        · left; omega
        · right; exact h9
  | false =>
    rw [if_neg (by decide)] at h2
    rw [ev_runlock h2 h0 h3]
    have k1 : ∀ u : Nat, atL (d.kn K1) (u : Int) ≤ atL (((d2.tick t).tell t K1).kn K1) (u : Int) ∧ atL (d2.th t) (u : Int) ≤ atL (((d2.tick t).tell t K1).kn K1) (u : Int) := fun u => by
      have e1 : atL (((d2.tick t).tell t K1).kn K1) (u : Int) = mx (atL (d.kn K1) (u : Int)) (atL ((d2.tick t).th t) (u : Int)) := (congrArg (fun l => atL l (u : Int)) (up1_self d2.kn K1 (joinL (d2.kn K1) ((d2.tick t).th t)))).trans ((at_join _ _ u).trans (by rw [hk]))
      rw [e1]
      have h4 := le_mx_l (atL (d.kn K1) (u : Int)) (atL ((d2.tick t).th t) (u : Int))
      have h5 := le_mx_r (atL (d.kn K1) (u : Int)) (atL ((d2.tick t).th t) (u : Int))
      have := htk u
      exact ⟨h4, by omega⟩
    have k0 : ((d2.tick t).tell t K1).kn K0 = d.kn K0 := (up1_ne d2.kn (joinL (d2.kn K1) ((d2.tick t).th t)) (show K0 ≠ K1 by decide)).trans (by rw [hk])
    refine ⟨ho, hbt.tell t K1, fun u o' y hy => ?_, fun u o' y hy => ?_⟩
    · have hy' : up1 d.la ((t : Int), o, b) (some x) ((u : Int), o', true) = some y := by rw [← hla]; exact hy
      rw [k0]
      rcases old u o' true y hy' with ⟨rfl, hb, rfl⟩ | hy
      · have := hbl hb.symm; cases this
      · exact h.st u o' y hy
    · have hy' : up1 d.la ((t : Int), o, b) (some x) ((u : Int), o', false) = some y := by rw [← hla]; exact hy
      have := k1 u
      rw [k0]
      rcases old u o' false y hy' with ⟨rfl, _, rfl⟩ | hy
      · right; omega
      · rcases h.ld u o' y hy with h9 | h9
        · left; exact h9
        · right; omega
end
/-- Three events: locked, an access, unlocked; or for reading. -/
structure Trip (e1 e2 e3 : S40) (t : Nat) (lock : Bool) : Prop where
  a2 : e1.f2 = if lock = true then 13 else 15
  a0 : e1.f0 = (t : Int)
  a3 : e1.f3 = 0
  b2 : e2.f2 = 7 ∨ lock = true ∧ e2.f2 = 8
  b0 : e2.f0 = (t : Int)
  c2 : e3.f2 = if lock = true then 14 else 16
  c0 : e3.f0 = (t : Int)
  c3 : e3.f3 = 0
theorem Kept.three {n : Nat} {d : Det} (h : Kept n d) (hn : n + 3 ≤ 1000000) {e1 e2 e3 : S40} {t : Nat} {lock : Bool} (ht : t < 6) (hT : Trip e1 e2 e3 t lock) (c : List Int) (i j k : Int) : Kept (n + 3) (((d.event c i e1).event c j e2).event c k e3) := by
  obtain ⟨h1, hc⟩ := acquire (c := c) (i := i) h (by omega) ht lock hT.a2 hT.a0 hT.a3
  obtain ⟨d2, e, ho, hb, hk, x, hx, hla⟩ := between (c := c) (i := j) h1 (by omega) ht hc hT.b2 hT.b0
  rw [e]
  exact release h1 (by omega) ht lock ho hb hk hx hla (fun hb8 => by
    rcases hT.b2 with h | h
    · rw [beq_iff_eq] at hb8; omega
    · exact h.1) hT.c2 hT.c0 hT.c3 (by omega)
theorem kept_start : Kept 0 Det.init := ⟨rfl, ⟨fun u j => by simp [Det.init, atL, C.cAt], fun k j => by simp [Det.init, atL, C.cAt]⟩, (fun u o x hx => by cases hx), (fun u o x hx => by cases hx)⟩
/-- All triples, one behind the other. -/
theorem kept_run (c : List Int) (t : List S40) (m : Nat) (hm : t.length = 3 * m) (h : ∀ q, q < m → ∃ (u : Nat) (lock : Bool), u < 6 ∧ Trip (t.getD (3 * q) z40) (t.getD (3 * q + 1) z40) (t.getD (3 * q + 2) z40) u lock) (hl : 3 * m ≤ 1000000) : ∀ q, q ≤ m → Kept (3 * q) (runL c t (3 * q))
  | 0, _ => kept_start
  | q + 1, hq => by
    obtain ⟨u, lock, hu, hT⟩ := h q (by omega)
    exact (kept_run c t m hm h hl q (by omega)).three (by omega) hu hT c _ _ _
theorem locked_none (c : List Int) (t : List S40) (m : Nat) (hm : t.length = 3 * m) (h : ∀ q, q < m → ∃ (u : Nat) (lock : Bool), u < 3 ∧ Trip (t.getD (3 * q) z40) (t.getD (3 * q + 1) z40) (t.getD (3 * q + 2) z40) u lock) (hl : 3 * m ≤ 2000) : findL c t = [] := by
  have h3 : ∀ e ∈ t, Three e := fun e he => by
    obtain ⟨j, hj, rfl⟩ := List.getElem_of_mem he
    have e1 : t[j] = t.getD j z40 := by rw [List.getD_eq_getElem?_getD, List.getElem?_eq_getElem hj]; rfl
    rw [e1]
    obtain ⟨u, lock, hu, hT⟩ := h (j / 3) (by omega)
    have hc : j = 3 * (j / 3) ∨ j = 3 * (j / 3) + 1 ∨ j = 3 * (j / 3) + 2 := by omega
    unfold Three
    rcases hc with hc | hc | hc
    · rw [hc, hT.a0]; omega
    · rw [hc, hT.b0]; omega
    · rw [hc, hT.c0]; omega
  rw [find_run c h3 (by omega), hm]
  exact (kept_run c t m hm (fun q hq => by obtain ⟨u, lock, hu, hT⟩ := h q hq; exact ⟨u, lock, by omega, hT⟩) (by omega) m (Nat.le_refl _)).out
end Go.Proofs.Ytblnimopffhocaa.Pure
