/- Accesses between locking and unlocking one lock: what is kept. -/
import Derived.Test.YtblnimopffhocaaPureR
namespace Go.Proofs.Ytblnimopffhocaa.Pure
open Go.RowKit Go.Proofs.Ytblnimopffhocaa.P Go.Proofs.YtblnimopffhocaaW.PrintWords Go.Proofs.YtblnimopffhocaaW.PrintLast Go.Proofs.YtblnimopffhocaaX
set_option linter.unusedVariables false
theorem at_join (a b : List Int) (j : Nat) : atL (joinL a b) (j : Int) = mx (atL a (j : Int)) (atL b (j : Int)) := C.cAt_byF mx rfl a b j
theorem at_tick (a : List Int) (t : Nat) (ht : t < 6) (j : Nat) : atL (tickL a (t : Int)) (j : Int) = if j = t then wrap64 (atL a (t : Int) + 1) else atL a (j : Int) := C.cAt_tick a t (by omega) j
abbrev K0 : Key := (0, 0, 0)
abbrev K1 : Key := (1, 0, 0)
structure Bd (n : Nat) (d : Det) : Prop where
  th : ∀ (u j : Nat), 0 ≤ atL (d.th u) (j : Int) ∧ atL (d.th u) (j : Int) ≤ (n : Int)
  kn : ∀ (k : Key) (j : Nat), 0 ≤ atL (d.kn k) (j : Int) ∧ atL (d.kn k) (j : Int) ≤ (n : Int)
section
variable {n : Nat} {d : Det}
theorem mx_le {a b c : Int} (h1 : a ≤ c) (h2 : b ≤ c) : mx a b ≤ c := by unfold mx; split <;> assumption
theorem le_mx_l (a b : Int) : a ≤ mx a b := by unfold mx; split <;> omega
theorem Bd.learn (h : Bd n d) (t : Nat) (k : Key) : Bd n (d.learn t k) := by
  refine ⟨fun u j => ?_, h.kn⟩
  show 0 ≤ atL (up1 d.th t _ u) _ ∧ atL (up1 d.th t _ u) _ ≤ _
  unfold up1
  split
  · rw [at_join]
    have h1 := h.th t j
    have h2 := h.kn k j
    have h3 := le_mx_l (atL (d.th t) (j : Int)) (atL (d.kn k) (j : Int))
    exact ⟨by omega, mx_le h1.2 h2.2⟩
  · exact h.th u j
theorem Bd.tell (h : Bd n d) (t : Nat) (k : Key) : Bd n (d.tell t k) := by
  refine ⟨h.th, fun q j => ?_⟩
  show 0 ≤ atL (up1 d.kn k _ q) _ ∧ atL (up1 d.kn k _ q) _ ≤ _
  unfold up1
  split
  · rw [at_join]
    have h1 := h.th t j
    have h2 := h.kn k j
    have h3 := le_mx_l (atL (d.kn k) (j : Int)) (atL (d.th t) (j : Int))
    exact ⟨by omega, mx_le h2.2 h1.2⟩
  · exact h.kn q j
theorem tick_at (h : Bd n d) (hn : n ≤ 1000000) {t : Nat} (ht : t < 6) (j : Nat) : atL ((d.tick t).th t) (j : Int) = atL (d.th t) (j : Int) + if j = t then 1 else 0 := by
  show atL (up1 d.th t _ t) _ = _
  rw [up1_self, at_tick _ _ ht]
  have h1 := h.th t t
  split
  · rename_i hj
    subst hj
    unfold wrap64
    omega
  · omega
theorem Bd.tick (h : Bd n d) (hn : n ≤ 1000000) {t : Nat} (ht : t < 6) : Bd (n + 1) (d.tick t) := by
  refine ⟨fun u j => ?_, fun k j => by have h1 := h.kn k j; show 0 ≤ atL (d.kn k) _ ∧ atL (d.kn k) _ ≤ _; omega⟩
  by_cases hu : u = t
  · subst hu
    rw [tick_at h hn ht]
    have h1 := h.th u j
    split <;> omega
  · have e : (d.tick t).th u = d.th u := up1_ne _ _ hu
    rw [e]
    have h1 := h.th u j
    omega
end
section
variable {n : Nat} {d : Det} {c : List Int} {i : Int} {e : S40} {t : Nat}
structure Kept (n : Nat) (d : Det) : Prop where
  out : d.out = []
  bd : Bd n d
  st : ∀ (u : Nat) (o : Int) (x : Int × Int), d.la ((u : Int), o, true) = some x → x.2 ≤ atL (d.kn K0) (u : Int)
  ld : ∀ (u : Nat) (o : Int) (x : Int × Int), d.la ((u : Int), o, false) = some x → x.2 ≤ atL (d.kn K0) (u : Int) ∨ x.2 ≤ atL (d.kn K1) (u : Int)
end
structure Trip (e1 e2 e3 : S40) (t : Nat) (lock : Bool) : Prop where
  a2 : e1.f2 = if lock = true then 13 else 15
  a0 : e1.f0 = (t : Int)
  a3 : e1.f3 = 0
  b2 : e2.f2 = 7 ∨ lock = true ∧ e2.f2 = 8
  b0 : e2.f0 = (t : Int)
  c2 : e3.f2 = if lock = true then 14 else 16
  c0 : e3.f0 = (t : Int)
  c3 : e3.f3 = 0
end Go.Proofs.Ytblnimopffhocaa.Pure
