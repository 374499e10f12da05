/- What the package race computes, as plain functions. -/
import Derived.Test.YtblnimopffhocaaPx0
import Derived.Test.YtblnimopffhocaaRClock
namespace Go.Proofs.Ytblnimopffhocaa.P
open Go.RowKit Go.Proofs.YtblnimopffhocaaW.PrintWords Go.Proofs.YtblnimopffhocaaW.PrintLast Go.Proofs.YtblnimopffhocaaW.PrintMore
set_option linter.unusedVariables false
abbrev Key := Int × Int × Int
abbrev Tch := Int × Int × Bool
def up1 {α β : Type} [DecidableEq α] (f : α → β) (x : α) (y : β) : α → β := fun z => if z = x then y else f z
def joinL (a b : List Int) : List Int := C.byF mx a b
def tickL (a : List Int) (i : Int) : List Int := C.tickS a i
def atL (a : List Int) (i : Int) : Int := C.cAt a i
structure Det where
  th : Nat → List Int
  kn : Key → List Int
  ct : Key → Int
  la : Tch → Option (Int × Int)
  out : List S55
def Det.init : Det := ⟨fun _ => [], fun _ => [], fun _ => 0, fun _ => none, []⟩
def Det.learn (d : Det) (t : Nat) (k : Key) : Det := { d with th := up1 d.th t (joinL (d.th t) (d.kn k)) }
def Det.tell (d : Det) (t : Nat) (k : Key) : Det := { d with kn := up1 d.kn k (joinL (d.kn k) (d.th t)) }
def Det.count (d : Det) (kd o : Int) : Det := { d with ct := up1 d.ct (kd, o, 0) (d.ct (kd, o, 0) + 1) }
def roomL (c : List Int) (o : Int) : Int := if o < 0 then 0 else if o ≥ (c.length : Int) then 0 else rd c o
def Det.hear (c : List Int) (d : Det) (e : S40) : Det × Key :=
  if (e.f2 == 13) = true then ((d.learn e.f0.toNat (0, e.f3, 0)).learn e.f0.toNat (1, e.f3, 0), (0, 0, 0))
  else if (e.f2 == 15) = true then (d.learn e.f0.toNat (0, e.f3, 0), (0, 0, 0))
  else if (e.f2 == 17 || e.f2 == 19) = true then (d.learn e.f0.toNat (2, e.f3, 0), (0, 0, 0))
  else if (e.f2 == 20) = true then ((d.count 3 e.f3).learn e.f0.toNat (4, e.f3, wrap64 (d.ct (3, e.f3, 0) - roomL c e.f3)), (3, e.f3, d.ct (3, e.f3, 0)))
  else if (e.f2 == 21 || e.f2 == 22) = true then
    if (e.f5 == 1) = true then ((d.count 4 e.f3).learn e.f0.toNat (3, e.f3, d.ct (4, e.f3, 0)), (4, e.f3, d.ct (4, e.f3, 0)))
    else if (e.f5 == 2) = true then (d.learn e.f0.toNat (5, e.f3, 0), (0, 0, 0)) else (d, (0, 0, 0))
  else if (e.f2 == 25) = true then (d.learn e.f0.toNat (6, e.f3, 0), (0, 0, 0))
  else if (e.f2 == 26) = true then (if (e.f5 == 0) = true then (d.learn e.f0.toNat (7, e.f3, 0), (0, 0, 0)) else (d, (0, 0, 0)))
  else (d, (0, 0, 0))
def Det.say (d : Det) (e : S40) (k : Key) : Det :=
  if (e.f2 == 12) = true then (if 0 ≤ e.f3 ∧ e.f3 < 6 then { d with th := up1 d.th e.f3.toNat (joinL (d.th e.f3.toNat) (d.th e.f0.toNat)) } else d)
  else if (e.f2 == 14) = true then d.tell e.f0.toNat (0, e.f3, 0)
  else if (e.f2 == 16) = true then d.tell e.f0.toNat (1, e.f3, 0)
  else if (e.f2 == 18 || e.f2 == 19) = true then { d with kn := up1 d.kn (2, e.f3, 0) (d.th e.f0.toNat) }
  else if (e.f2 == 20) = true then d.tell e.f0.toNat k
  else if (e.f2 == 21 || e.f2 == 22) = true then (if (e.f5 == 1) = true then d.tell e.f0.toNat k else d)
  else if (e.f2 == 23) = true then d.tell e.f0.toNat (5, e.f3, 0)
  else if (e.f2 == 24) = true then (if e.f4 < 0 then d.tell e.f0.toNat (6, e.f3, 0) else d)
  else if (e.f2 == 27) = true then d.tell e.f0.toNat (7, e.f3, 0)
  else d
def Det.latest (d : Det) (u : Nat) (e : S40) : (Int × Int) × Bool :=
  let a := (d.la ((u : Int), e.f3, true)).getD (0, 0)
  let is := (d.la ((u : Int), e.f3, true)).isSome
  let b := (d.la ((u : Int), e.f3, false)).getD (0, 0)
  let was := (d.la ((u : Int), e.f3, false)).isSome
  if (e.f2 == 8 && (was && (!is || decide (b.1 > a.1)))) = true then (b, true) else (a, is)
def Det.look (d : Det) (e : S40) (i : Int) (u : Nat) : Det :=
  if ((d.latest u e).2 && ((u : Int) != e.f0 && decide ((d.latest u e).1.2 > atL (d.th e.f0.toNat) (u : Int)))) = true then { d with out := d.out ++ [⟨(d.latest u e).1.1, i⟩] } else d
def Det.tick (d : Det) (t : Nat) : Det := { d with th := up1 d.th t (tickL (d.th t) (t : Int)) }
def touchB (e : S40) : Bool := e.f2 == 7 || e.f2 == 8
def Det.mark (d : Det) (e : S40) (i : Int) : Det := { d with la := up1 d.la (e.f0, e.f3, e.f2 == 8) (some (i, atL (d.th e.f0.toNat) e.f0)) }
def Det.looks (d : Det) (e : S40) (i : Int) : Nat → Det
  | 0 => d
  | n + 1 => (d.looks e i n).look e i n
def Det.event (c : List Int) (d : Det) (i : Int) (e : S40) : Det :=
  let h := d.hear c e
  let d2 := h.1.tick e.f0.toNat
  let d3 := if touchB e = true then (d2.looks e i 6).mark e i else d2
  d3.say e h.2
def runL (c : List Int) (t : List S40) : Nat → Det
  | 0 => Det.init
  | n + 1 => (runL c t n).event c (n : Int) (t.getD n z40)
def oddE (e : S40) : Bool := decide (e.f0 < 0) || decide (e.f0 ≥ 6)
def findL (c : List Int) (t : List S40) : List S55 := if (decide ((t.length : Int) > 2000) || t.any oddE) = true then [] else (runL c t t.length).out
structure Det.Ok (d : Det) (n : Nat) : Prop where
  th : ∀ u, (d.th u).length ≤ 6
  kn : ∀ k, (d.kn k).length ≤ 6
  ct : ∀ k, 0 ≤ d.ct k ∧ d.ct k ≤ (n : Int)
  out : d.out.length ≤ 6 * n
theorem joinL_le {a b : List Int} {n : Nat} (ha : a.length ≤ n) (hb : b.length ≤ n) : (joinL a b).length ≤ n := by
  unfold joinL
  rw [C.byF_length]
  unfold C.ln
  omega
theorem tickL_le {a : List Int} {t : Nat} (ha : a.length ≤ 6) (ht : t < 6) : (tickL a (t : Int)).length ≤ 6 := by
  unfold tickL
  rw [C.tickS_length a t (by omega)]
  omega
theorem up1_self {α β : Type} [DecidableEq α] (f : α → β) (x : α) (y : β) : up1 f x y x = y := by simp [up1]
theorem up1_ne {α β : Type} [DecidableEq α] (f : α → β) {x z : α} (y : β) (h : z ≠ x) : up1 f x y z = f z := by simp [up1, h]
theorem up1_all {α β : Type} [DecidableEq α] {f : α → β} {x : α} {y : β} {p : β → Prop} (hf : ∀ z, p (f z)) (hy : p y) (z : α) : p (up1 f x y z) := by
  unfold up1
  split
  · exact hy
  · exact hf z
theorem up6 {α : Type} [DecidableEq α] {f : α → List Int} {x : α} {y : List Int} (hf : ∀ z, (f z).length ≤ 6) (hy : y.length ≤ 6) (z : α) : (up1 f x y z).length ≤ 6 := up1_all (p := fun l : List Int => l.length ≤ 6) hf hy z
section
variable {d : Det} {n : Nat}
theorem Det.Ok.learn (h : d.Ok n) (t : Nat) (k : Key) : (d.learn t k).Ok n := ⟨up6 h.th (joinL_le (h.th t) (h.kn k)), h.kn, h.ct, h.out⟩
theorem Det.Ok.tell (h : d.Ok n) (t : Nat) (k : Key) : (d.tell t k).Ok n := ⟨h.th, up6 h.kn (joinL_le (h.kn k) (h.th t)), h.ct, h.out⟩
theorem Det.Ok.count (h : d.Ok n) (kd o : Int) : (d.count kd o).Ok (n + 1) :=
  ⟨h.th, h.kn, fun k => up1_all (p := fun x => 0 ≤ x ∧ x ≤ ((n + 1 : Nat) : Int)) (fun z => by have := h.ct z; omega) (by have := h.ct (kd, o, 0); omega) k, by have : (d.count kd o).out = d.out := rfl; rw [this]; have := h.out; omega⟩
theorem Det.Ok.more (h : d.Ok n) {m : Nat} (hm : n ≤ m) : d.Ok m := ⟨h.th, h.kn, fun k => by have := h.ct k; omega, by have := h.out; omega⟩
theorem Det.Ok.tick (h : d.Ok n) {t : Nat} (ht : t < 6) : (d.tick t).Ok n := ⟨up6 h.th (tickL_le (h.th t) ht), h.kn, h.ct, h.out⟩
theorem Det.Ok.hear (h : d.Ok n) (c : List Int) (e : S40) : (d.hear c e).1.Ok (n + 1) := by
  have hm := h.more (Nat.le_succ n)
  unfold Det.hear
  by_cases h0 : (e.f2 == 13) = true
  · rw [if_pos h0]
    exact (hm.learn _ _).learn _ _
  rw [if_neg h0]
  by_cases h1 : (e.f2 == 15) = true
  · rw [if_pos h1]
    exact hm.learn _ _
  rw [if_neg h1]
  by_cases h2 : (e.f2 == 17 || e.f2 == 19) = true
  · rw [if_pos h2]
    exact hm.learn _ _
  rw [if_neg h2]
  by_cases h3 : (e.f2 == 20) = true
  · rw [if_pos h3]
    exact (h.count _ _).learn _ _
  rw [if_neg h3]
  by_cases h4 : (e.f2 == 21 || e.f2 == 22) = true
  · rw [if_pos h4]
    by_cases m1 : (e.f5 == 1) = true
    · rw [if_pos m1]
      exact (h.count _ _).learn _ _
    rw [if_neg m1]
    by_cases m2 : (e.f5 == 2) = true
    · rw [if_pos m2]
      exact hm.learn _ _
    rw [if_neg m2]
    exact hm
  rw [if_neg h4]
  by_cases h5 : (e.f2 == 25) = true
  · rw [if_pos h5]
    exact hm.learn _ _
  rw [if_neg h5]
  by_cases h6 : (e.f2 == 26) = true
  · rw [if_pos h6]
    by_cases m1 : (e.f5 == 0) = true
    · rw [if_pos m1]
      exact hm.learn _ _
    rw [if_neg m1]
    exact hm
  rw [if_neg h6]
  exact hm
theorem Det.Ok.say (h : d.Ok n) (e : S40) (k : Key) : (d.say e k).Ok n := by
  unfold Det.say
  repeat' split
  all_goals first | exact h | exact h.tell _ _ | exact ⟨up6 h.th (joinL_le (h.th _) (h.th _)), h.kn, h.ct, h.out⟩ | exact ⟨h.th, up6 h.kn (h.th _), h.ct, h.out⟩
theorem Det.look_out (d : Det) (e : S40) (i : Int) (u : Nat) : ((d.look e i u).out.length ≤ d.out.length + 1) ∧ (d.look e i u).th = d.th ∧ (d.look e i u).kn = d.kn ∧ (d.look e i u).ct = d.ct ∧ (d.look e i u).la = d.la := by
  unfold Det.look
  split
  · exact ⟨by simp, rfl, rfl, rfl, rfl⟩
  · exact ⟨by omega, rfl, rfl, rfl, rfl⟩
theorem Det.looks_out (d : Det) (e : S40) (i : Int) : ∀ m, ((d.looks e i m).out.length ≤ d.out.length + m) ∧ (d.looks e i m).th = d.th ∧ (d.looks e i m).kn = d.kn ∧ (d.looks e i m).ct = d.ct ∧ (d.looks e i m).la = d.la
  | 0 => ⟨Nat.le_refl _, rfl, rfl, rfl, rfl⟩
  | m + 1 => by
    obtain ⟨h1, h2, h3, h4, h5⟩ := Det.looks_out d e i m
    obtain ⟨k1, k2, k3, k4, k5⟩ := Det.look_out (d.looks e i m) e i m
    exact ⟨by show ((d.looks e i m).look e i m).out.length ≤ _; omega, k2.trans h2, k3.trans h3, k4.trans h4, k5.trans h5⟩
theorem Det.Ok.mid (h : d.Ok (n + 1)) (ho : d.out.length ≤ 6 * n) (e : S40) (i : Int) : (if touchB e = true then (d.looks e i 6).mark e i else d).Ok (n + 1) := by
  split
  · obtain ⟨h1, h2, h3, h4, h5⟩ := Det.looks_out d e i 6
    exact ⟨by show ∀ u, ((d.looks e i 6).th u).length ≤ 6; rw [h2]; exact h.th, by show ∀ k, ((d.looks e i 6).kn k).length ≤ 6; rw [h3]; exact h.kn, by show ∀ k, 0 ≤ (d.looks e i 6).ct k ∧ (d.looks e i 6).ct k ≤ ((n + 1 : Nat) : Int); rw [h4]; exact h.ct, by show (d.looks e i 6).out.length ≤ _; omega⟩
  · exact h
theorem Det.hear_out (d : Det) (c : List Int) (e : S40) : (d.hear c e).1.out = d.out := by
  unfold Det.hear
  repeat' split
  all_goals rfl
theorem Det.Ok.event (h : d.Ok n) (c : List Int) (i : Int) (e : S40) (he : e.f0.toNat < 6) : (d.event c i e).Ok (n + 1) := by
  have h1 := (h.hear c e).tick he
  have ho : ((d.hear c e).1.tick e.f0.toNat).out.length ≤ 6 * n := by
    show (d.hear c e).1.out.length ≤ _
    rw [Det.hear_out]
    exact h.out
  exact (h1.mid ho e i).say e _
theorem runL_ok (c : List Int) (t : List S40) (ho : t.any oddE = false) : ∀ n, n ≤ t.length → (runL c t n).Ok n
  | 0, _ => ⟨by simp [runL, Det.init], by simp [runL, Det.init], by simp [runL, Det.init], by simp [runL, Det.init]⟩
  | n + 1, hn => by
    refine (runL_ok c t ho n (by omega)).event c _ _ ?_
    have h1 : oddE (t.getD n z40) = false := by
      rw [List.getD_eq_getElem?_getD, List.getElem?_eq_getElem (by omega)]
      have := List.any_eq_false.1 ho t[n] (List.getElem_mem _)
      simpa using this
    unfold oddE at h1
    simp only [Bool.or_eq_false_iff, decide_eq_false_iff_not] at h1
    omega
end
end Go.Proofs.Ytblnimopffhocaa.P
