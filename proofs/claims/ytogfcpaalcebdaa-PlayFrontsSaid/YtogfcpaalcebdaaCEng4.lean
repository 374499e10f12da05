/- Maps as functions from keys: what a map of the call's own holds, looked up, stored into, counted up. -/
import Derived.MapKept
import Derived.WideKeyRuns
import Derived.ChangeMaps4
import Derived.Lib.LazyBuf
import Derived.WalkKit
import Derived.Below
import Derived.Laws.AppendOwn
import Derived.Laws.OwnMore
import Derived.Laws.MakeOwn
import Derived.Laws.Tables
import Derived.Laws.Rows
import Derived.Laws.Slices
import Derived.Orders
import Derived.Great.BuildSlice
import Derived.Lib.MinMax
import Derived.RegionTactic
import Derived.Laws.StructEq
import Derived.Laws.Cover3
import Derived.ChangeKeysEq
namespace Go.Proofs.YtogfcpaalcebdaaE
open Go Go.ChangeMaps Go.MapKept Go.RowKit
set_option linter.unusedVariables false
set_option linter.unusedSimpArgs false
structure KL (P : Program) (kt : TypeId) {κ : Type} (enc : κ → Value) : Prop where
  inj : ∀ {x y : κ}, enc x = enc y → x = y
  check : ∀ (em : Bool) (w : World) (x : κ), (Instr.checkKey em 10000 kt (enc x)).run P w = .ok () w
  find : ∀ (w : World) (x : κ) (es : List MapEntry), (∀ e ∈ es, ∃ y, e.key = enc y) →
    ((Instr.findKey kt (enc x) es).run P w = .ok none w ∧ ∀ e ∈ es, e.key ≠ enc x) ∨ ∃ j e, (Instr.findKey kt (enc x) es).run P w = .ok (some (j, e.val)) w ∧ es[j]? = some e ∧ e.key = enc x
  stays : ∀ (w : World) (x : κ), (Instr.keyThatStays (enc x) (enc x)).run P w = .ok (enc x) w
def IsMap {κ : Type} (enc : κ → Value) (w : World) (b : Nat) (M : κ → Option Value) : Prop :=
  ∃ es clock, w.heap[b]? = some (.map es clock) ∧ Stamped es clock ∧ (∀ e ∈ es.toList, ∃ y, e.key = enc y) ∧ ∀ x v, M x = some v ↔ ∃ e ∈ es.toList, e.key = enc x ∧ e.val = v
def mupd {κ : Type} [DecidableEq κ] (M : κ → Option Value) (x : κ) (v : Value) : κ → Option Value := fun y => if y = x then some v else M y

section
variable {κ : Type} {enc : κ → Value} {P : Program} {kt et mt : TypeId} {w : World} {b : Nat} {M : κ → Option Value}
theorem IsMap.empty (w : World) (enc : κ → Value) : IsMap enc (w.alloc (.map #[] 0)) w.heap.size (fun _ => none) :=
  ⟨#[], 0, heap_alloc_new w _, ⟨by simp, by simp, by simp⟩, by simp, by simp⟩
theorem IsMap.move {w1 : World} (h : IsMap enc w b M) (hb : w1.heap[b]? = w.heap[b]?) : IsMap enc w1 b M := by
  obtain ⟨es, cl, h1, h2⟩ := h
  exact ⟨es, cl, hb.trans h1, h2⟩
theorem IsMap.lt (h : IsMap enc w b M) : b < w.heap.size := by
  obtain ⟨es, cl, h1, _⟩ := h
  exact (Array.getElem?_eq_some_iff.1 h1).1
theorem IsMap.below {w1 : World} (h : IsMap enc w b M) (hb : Below w.heap.size w w1) : IsMap enc w1 b M := h.move (hb.block b h.lt)
theorem IsMap.ne (h : IsMap enc w b M) {g : Nat} {cs : Array Value} {t : TypeId} {fr : Nat × Nat} (hg : w.heap[g]? = some (.cells cs t fr)) : b ≠ g := by
  obtain ⟨es, cl, h1, _⟩ := h
  rintro rfl
  rw [hg] at h1
  cases h1
theorem IsMap.far (h : IsMap enc w b M) {p : Addr} (hne : b ≠ p.block) (u : Value) : IsMap enc (w.setCell p u) b M := h.move (Below.heap_setCell w p u b hne)

theorem IsMap.found (K : KL P kt enc) (h : IsMap enc w b M) (x : κ) : ∃ es clock, w.heap[b]? = some (.map es clock) ∧
    (((Instr.findKey kt (enc x) es.toList).run P w = .ok none w ∧ M x = none) ∨ ∃ j e, (Instr.findKey kt (enc x) es.toList).run P w = .ok (some (j, e.val)) w ∧ es[j]? = some e ∧ e.key = enc x ∧ M x = some e.val) := by
  obtain ⟨es, cl, h1, h2, h3, h4⟩ := h
  refine ⟨es, cl, h1, ?_⟩
  rcases K.find w x es.toList h3 with ⟨hr, hn⟩ | ⟨j, e, hr, hj, hk⟩
  · refine .inl ⟨hr, ?_⟩
    cases hM : M x with
    | none => rfl
    | some v =>
      obtain ⟨e, he, hke, _⟩ := (h4 x v).1 hM
      exact absurd hke (hn e he)
  · have hj' : es[j]? = some e := by simpa using hj
    exact .inr ⟨j, e, hr, hj', hk, (h4 x e.val).2 ⟨e, List.mem_of_getElem? hj, hk, rfl⟩⟩
theorem lookup_run (K : KL P kt enc) (hm : P.underlying mt = some (.map kt et)) (z : Value) (hz : ∀ w, (zeroValue et).run P w = .ok z w) (h : IsMap enc w b M) (x : κ) :
    (Instr.lookup mt (.map (some b)) (enc x) false).run P w = .ok ((M x).getD z) w := by
  obtain ⟨es, cl, h1, h2⟩ := h.found K x
  rcases h2 with ⟨hr, hM⟩ | ⟨j, e, hr, hj, hk, hM⟩
  · simp [Instr.lookup, run_underlying hm, MapKept.run_getObj_map h1, K.check, hr, hz, hM, Result.andThen]
  · simp [Instr.lookup, run_underlying hm, MapKept.run_getObj_map h1, K.check, hr, hM, Result.andThen]
theorem lookup_ok_run (K : KL P kt enc) (hm : P.underlying mt = some (.map kt et)) (z : Value) (hz : ∀ w, (zeroValue et).run P w = .ok z w) (h : IsMap enc w b M) (x : κ) :
    (Instr.lookup mt (.map (some b)) (enc x) true).run P w = .ok (.tuple #[(M x).getD z, .bool (M x).isSome]) w := by
  obtain ⟨es, cl, h1, h2⟩ := h.found K x
  rcases h2 with ⟨hr, hM⟩ | ⟨j, e, hr, hj, hk, hM⟩
  · simp [Instr.lookup, run_underlying hm, MapKept.run_getObj_map h1, K.check, hr, hz, hM, Result.andThen]
  · simp [Instr.lookup, run_underlying hm, MapKept.run_getObj_map h1, K.check, hr, hM, Result.andThen]
end
section
variable {κ : Type} [DecidableEq κ] {enc : κ → Value} {P : Program} {kt et mt : TypeId} {w : World} {b : Nat} {M : κ → Option Value}
theorem IsMap.pushed (K : KL P kt enc) {es : Array MapEntry} {cl : Nat} (hs : Stamped es cl) (h3 : ∀ e ∈ es.toList, ∃ y, e.key = enc y) (h4 : ∀ x v, M x = some v ↔ ∃ e ∈ es.toList, e.key = enc x ∧ e.val = v) (x : κ) (hM : M x = none) (v : Value) :
    Stamped (es.push { key := enc x, val := v, born := cl }) (cl + 1) ∧ (∀ e ∈ (es.push { key := enc x, val := v, born := cl }).toList, ∃ y, e.key = enc y) ∧
    ∀ y u, mupd M x v y = some u ↔ ∃ e ∈ (es.push { key := enc x, val := v, born := cl }).toList, e.key = enc y ∧ e.val = u := by
  have hn : ∀ e ∈ es.toList, e.key ≠ enc x := fun e he hk => by
    have := (h4 x e.val).2 ⟨e, he, hk, rfl⟩
    rw [hM] at this
    cases this
  refine ⟨stamped_push hs hn, ?_, ?_⟩
  · intro e he
    simp only [Array.toList_push, List.mem_append, List.mem_singleton] at he
    rcases he with he | rfl
    · exact h3 e he
    · exact ⟨x, rfl⟩
  · intro y u
    simp only [Array.toList_push, List.mem_append, List.mem_singleton]
    unfold mupd
    by_cases hy : y = x
    · subst hy
      rw [if_pos rfl]
      constructor
      · intro h
        exact ⟨_, .inr rfl, rfl, Option.some.inj h⟩
      · rintro ⟨e, he | rfl, hk, hv⟩
        · exact absurd hk (hn e he)
        · rw [← hv]
    · rw [if_neg hy, h4]
      constructor
      · rintro ⟨e, he, h⟩
        exact ⟨e, .inl he, h⟩
      · rintro ⟨e, he | rfl, hk, hv⟩
        · exact ⟨e, he, hk, hv⟩
        · exact absurd (K.inj hk).symm hy
theorem nodup_at {α β : Type} {f : α → β} {l : List α} (h : (l.map f).Nodup) {i j : Nat} {a c : α} (hi : l[i]? = some a) (hj : l[j]? = some c) (he : f a = f c) : i = j := by
  obtain ⟨hi1, hi2⟩ := List.getElem?_eq_some_iff.1 hi
  obtain ⟨hj1, hj2⟩ := List.getElem?_eq_some_iff.1 hj
  refine (List.getElem_inj (h := h) (h₀ := by simpa using hi1) (h₁ := by simpa using hj1)).1 ?_
  simp only [List.getElem_map, hi2, hj2, he]
theorem IsMap.turned (K : KL P kt enc) {es : Array MapEntry} {cl : Nat} (hs : Stamped es cl) (h3 : ∀ e ∈ es.toList, ∃ y, e.key = enc y) (h4 : ∀ x v, M x = some v ↔ ∃ e ∈ es.toList, e.key = enc x ∧ e.val = v) (x : κ) {j : Nat} {e : MapEntry} (hj : es[j]? = some e) (hk : e.key = enc x) (v : Value)
    (F : MapEntry → MapEntry) (hF : F e = { e with key := enc x, val := v }) (hb : ∀ e', (F e').born = e'.born) :
    Stamped (es.modify j F) cl ∧ (∀ e ∈ (es.modify j F).toList, ∃ y, e.key = enc y) ∧ ∀ y u, mupd M x v y = some u ↔ ∃ e ∈ (es.modify j F).toList, e.key = enc y ∧ e.val = u := by
  have hkey : ∀ e', es[j]? = some e' → (F e').key = e'.key := fun e' he' => by
    rw [hj] at he'
    cases he'
    rw [hF]
    exact hk.symm
  have hjl : es.toList[j]? = some e := by simpa using hj
  have hget : ∀ i : Nat, (es.modify j F).toList[i]? = if i = j then (es.toList[i]?).map F else es.toList[i]? := fun i => by
    rw [Array.toList_modify, List.getElem?_modify]
    by_cases hi : j = i
    · subst hi; simp
    · simp [hi, Ne.symm hi]
  have hmem : ∀ e', e' ∈ (es.modify j F).toList ↔ e' = F e ∨ ∃ i, i ≠ j ∧ es.toList[i]? = some e' := fun e' => by
    rw [List.mem_iff_getElem?]
    constructor
    · rintro ⟨i, hi⟩
      rw [hget] at hi
      by_cases hij : i = j
      · subst hij
        rw [if_pos rfl, hjl] at hi
        exact .inl (Option.some.inj hi).symm
      · rw [if_neg hij] at hi
        exact .inr ⟨i, hij, hi⟩
    · rintro (rfl | ⟨i, hij, hi⟩)
      · exact ⟨j, by rw [hget, if_pos rfl, hjl]; rfl⟩
      · exact ⟨i, by rw [hget, if_neg hij]; exact hi⟩
  refine ⟨stamped_modify hs _ _ (fun e' _ => hb e') (fun e' _ he' => hkey e' he'), ?_, ?_⟩
  · intro e' he'
    rcases (hmem e').1 he' with rfl | ⟨i, _, hi⟩
    · exact ⟨x, by rw [hF]⟩
    · exact h3 e' (List.mem_of_getElem? hi)
  · intro y u
    unfold mupd
    by_cases hy : y = x
    · subst hy
      rw [if_pos rfl]
      constructor
      · intro h
        exact ⟨F e, (hmem _).2 (.inl rfl), by rw [hF], by rw [hF]; exact Option.some.inj h⟩
      · rintro ⟨e', he', hk', hv'⟩
        rcases (hmem e').1 he' with rfl | ⟨i, hij, hi⟩
        · rw [hF] at hv'
          rw [← hv']
        · exact absurd (nodup_at hs.2.2 hi hjl (hk'.trans hk.symm)) hij
    · rw [if_neg hy, h4]
      constructor
      · rintro ⟨e', he', hk', hv'⟩
        obtain ⟨i, hi⟩ := List.mem_iff_getElem?.1 he'
        have hij : i ≠ j := by
          rintro rfl
          rw [hjl] at hi
          cases hi
          exact hy (K.inj (hk'.symm.trans hk))
        exact ⟨e', (hmem e').2 (.inr ⟨i, hij, hi⟩), hk', hv'⟩
      · rintro ⟨e', he', hk', hv'⟩
        rcases (hmem e').1 he' with rfl | ⟨i, hij, hi⟩
        · rw [hF] at hk'
          exact absurd (K.inj hk').symm hy
        · exact ⟨e', List.mem_of_getElem? hi, hk', hv'⟩
theorem heap_setBlock {w : World} {b : Nat} {o o' : Obj} (h : w.heap[b]? = some o) : (setBlock w b o').heap[b]? = some o' := by
  unfold setBlock
  exact (heap_set h).1
theorem heap_setBlock_ne {w : World} {b k : Nat} {o' : Obj} (h : k ≠ b) : (setBlock w b o').heap[k]? = w.heap[k]? := by
  unfold setBlock
  simp only [Array.getElem?_setIfInBounds]
  rw [if_neg (Ne.symm h)]
theorem setBlock_size {w : World} {b : Nat} {o' : Obj} : (setBlock w b o').heap.size = w.heap.size := by simp [setBlock]
theorem setBlock_below {w W : World} {b : Nat} {o' : Obj} {B : Nat} (h : Below B w W) (hb : B ≤ b) : Below B w (setBlock W b o') :=
  ⟨h.os, h.tape, h.output, by rw [setBlock_size]; exact h.size, fun i hi => by rw [heap_setBlock_ne (by omega)]; exact h.block i hi⟩
theorem mapUpdate_run (K : KL P kt enc) (hm : P.underlying mt = some (.map kt et)) (h : IsMap enc w b M) (x : κ) (v : Value) :
    ∃ o, (Instr.mapUpdate mt (.map (some b)) (enc x) v).run P w = .ok () (setBlock w b o) ∧ ∀ w2 : World, w2.heap[b]? = some o → IsMap enc w2 b (mupd M x v) := by
  obtain ⟨es, cl, h1, h2, h3, h4⟩ := h
  rcases K.find w x es.toList h3 with ⟨hr, hn⟩ | ⟨j, e, hr, hj, hk⟩
  · have hM : M x = none := by
      cases hM : M x with
      | none => rfl
      | some u =>
        obtain ⟨e, he, hke, _⟩ := (h4 x u).1 hM
        exact absurd hke (hn e he)
    refine ⟨.map (es.push { key := enc x, val := v, born := cl }) (cl + 1), ?_, fun w2 hw2 => ?_⟩
    · simp [Instr.mapUpdate, run_underlying hm, MapKept.run_getObj_map h1, K.check, hr, MapKept.run_setObj_map _ h1, Result.andThen, setBlock]
    · obtain ⟨q1, q2, q3⟩ := IsMap.pushed K h2 h3 h4 x hM v
      exact ⟨_, _, hw2, q1, q2, q3⟩
  · have hj' : es[j]? = some e := by simpa using hj
    refine ⟨.map (es.modify j fun e => { e with key := enc x, val := v }) cl, ?_, fun w2 hw2 => ?_⟩
    · simp [Instr.mapUpdate, run_underlying hm, MapKept.run_getObj_map h1, K.check, hr, hj', hk, K.stays, MapKept.run_setObj_map _ h1, Result.andThen, setBlock]
    · obtain ⟨q1, q2, q3⟩ := IsMap.turned K h2 h3 h4 x hj' hk v (fun e => { e with key := enc x, val := v }) rfl (fun _ => rfl)
      exact ⟨_, _, hw2, q1, q2, q3⟩
end
section
variable {P : Program} {kt : TypeId}
theorem int_kl {q : IntKind} (hk : P.underlying kt = some (.int q)) : KL P kt (fun n : Int => Value.int q n) := by
  refine ⟨fun h => by injection h, fun em w x => MapKept.run_checkKey hk (by simp [IsKey]) em 9999, ?_, fun w x => run_keyThatStays (by simp [IsKey] : IsKey (.int q) _)⟩
  intro w x es hes
  have hks : ∀ y ∈ es, IsKey (.int q) y.key := fun y hy => by
    obtain ⟨n, hn⟩ := hes y hy
    rw [hn]
    simp [IsKey]
  rcases findNow_spec (k := Value.int q x) (by simp [IsKey]) es 0 hks with ⟨h1, h2⟩ | ⟨j, e, h1, h2, h3⟩
  · exact .inl ⟨MapKept.run_findKey hk h1, h2⟩
  · exact .inr ⟨j, e, by simpa using MapKept.run_findKey hk h1, h2, h3⟩
end
end Go.Proofs.YtogfcpaalcebdaaE
/- An engine for walks: values and memory as plain data, and what they stand for. -/
namespace Go.Proofs.YtogfcpaalcebdaaE
open Go Go.RowKit
set_option linter.unusedVariables false
set_option linter.unusedSimpArgs false

inductive C where
  | sc (v : Value)
  | ls (es : List (List C))
inductive D where
  | p (x : C)
  | ow (r : List C) (ver : Nat)
  | no
inductive V where
  | any
  | c (x : C)
  | nl
  | ic (es : List (List C))
  | ptr (id k off : Nat)
  | at (cs : List C)
  | sl (id s off len : Nat) (cl : Bool)
  | rw (id i j ver off len : Nat)
  | rp (id i j ver k : Nat)
  | agg (cs : List V)
  | tup (vs : List V)
  | fn (f : Nat) (caps : List V)
  | mp (id : Nat)
  | bb
inductive Ob where
  | box (cs : List V)
  | arr (s : Nat) (es : List (List C))
  | arw (s : Nat) (es : List (List D))
  | mp (l : List (Int × Int))
  | abs (P : (Nat → Prop) → (Nat → Prop) → (Nat → Nat) → Nat → World → Prop)
inductive Kd where
  | no | imm | ob (id : Nat) | rw (id i j ver : Nat)
deriving DecidableEq
structure Gh where
  loc : Nat → Option (Nat × Nat)
  wd : Nat → Nat
  rl : Nat → Nat → Nat → Nat → Option (Nat × Nat)
  kd : Nat → Kd
  sz : Nat → Nat

def Plain : Value → Bool
  | .int _ _ => true
  | .bool _ => true
  | .string _ => true
  | .pointer none => true
  | .nilFunc => true
  | .nilIface => true
  | _ => false
theorem Plain.one {v : Value} (h : Plain v = true) : v.oneCell' = true := by
  cases v <;> first | rfl | (simp [Plain] at h; done)

inductive CR (kd : Nat → Kd) (w : World) : C → Value → Prop
  | sc {v : Value} (h : Plain v = true) : CR kd w (.sc v) v
  | ls {es : List (List C)} {ao : Option Addr} {cap s b o : Nat} (f : Nat → Nat → Value) (hcap : es.length ≤ cap) (hmax : cap ≤ maxLen)
      (hao : 0 < es.length → ao = some ⟨b, o, none⟩ ∧ kd b = .imm) (hs : ∀ row ∈ es, row.length = s)
      (hc : ∀ i row j x, es[i]? = some row → row[j]? = some x → w.cell? ⟨b, o + i * s + j, none⟩ = some (f i j))
      (hr : ∀ i row j x, es[i]? = some row → row[j]? = some x → CR kd w x (f i j)) : CR kd w (.ls es) (.slice ao es.length cap)
theorem CR.one {kd : Nat → Kd} {w : World} {x : C} {v : Value} (h : CR kd w x v) : v.oneCell' = true := by
  cases h with
  | sc h => exact Plain.one h
  | ls => rfl
theorem CR.mono {kd kd' : Nat → Kd} {w w' : World} {x : C} {v : Value} (h : CR kd w x v) (hk : ∀ b, kd b = .imm → kd' b = .imm ∧ w'.heap[b]? = w.heap[b]?) : CR kd' w' x v := by
  induction h with
  | sc h => exact .sc h
  | @ls es ao cap s b o f hcap hmax hao hs hc hr ih =>
    refine .ls f hcap hmax (fun h0 => ⟨(hao h0).1, (hk b (hao h0).2).1⟩) hs (fun i row j x h1 h2 => ?_) ih
    have h0 : 0 < es.length := by
      have := (List.getElem?_eq_some_iff.1 h1).1
      omega
    rw [← hc i row j x h1 h2]
    exact World.cell?_of_block (hk b (hao h0).2).2

inductive VR (G : Gh) (w : World) : V → Value → Prop
  | any {v : Value} : VR G w .any v
  | c {x : C} {v : Value} (h : CR G.kd w x v) : VR G w (.c x) v
  | nl : VR G w .nl (.slice none 0 0)
  | ic {es : List (List C)} {ao : Option Addr} (h : CR G.kd w (.ls es) (.slice ao es.length es.length)) : VR G w (.ic es) (.slice ao es.length es.length)
  | ptr {id k off b o : Nat} (h : G.loc id = some (b, o)) : VR G w (.ptr id k off) (.pointer (some ⟨b, o + k * G.wd id + off, none⟩))
  | at {cs : List C} {b o : Nat} (f : Nat → Value) (hk : G.kd b = .imm) (hc : ∀ j x, cs[j]? = some x → w.cell? ⟨b, o + j, none⟩ = some (f j) ∧ CR G.kd w x (f j)) : VR G w (.at cs) (.pointer (some ⟨b, o, none⟩))
  | sl {id s off len cap : Nat} {cl : Bool} {ao : Option Addr} (hl : len ≤ cap) (hcl : cl = true → cap = len) (hm : cap ≤ maxLen)
      (h : 0 < cap → ∃ b o, G.loc id = some (b, o) ∧ G.wd id = s ∧ ao = some ⟨b, o + off * s, none⟩ ∧ o + (off + cap) * s ≤ G.sz b) : VR G w (.sl id s off len cl) (.slice ao len cap)
  | rw {id i j ver off len cap : Nat} {ao : Option Addr} (hl : len ≤ cap) (hm : cap ≤ maxLen)
      (h : 0 < cap → ∃ b o, G.rl id i j ver = some (b, o) ∧ ao = some ⟨b, o + off, none⟩ ∧ o + (off + cap) ≤ G.sz b) : VR G w (.rw id i j ver off len) (.slice ao len cap)
  | rp {id i j ver k b o : Nat} (h : G.rl id i j ver = some (b, o)) : VR G w (.rp id i j ver k) (.pointer (some ⟨b, o + k, none⟩))
  | agg {cs : List V} {vs : Array Value} (hl : cs.length = vs.size) (h1 : ∀ v ∈ vs, v.oneCell' = true) (h : ∀ j x, cs[j]? = some x → VR G w x (vs.getD j undef)) : VR G w (.agg cs) (.agg vs)
  | tup {cs : List V} {vs : Array Value} (hl : cs.length = vs.size) (h : ∀ j x, cs[j]? = some x → VR G w x (vs.getD j undef)) : VR G w (.tup cs) (.tuple vs)
  | fn {f : Nat} {cs : List V} {vs : Array Value} (hl : cs.length = vs.size) (h : ∀ j x, cs[j]? = some x → VR G w x (vs.getD j undef)) : VR G w (.fn f cs) (.func (.func f) #[] vs)
  | mp {id b : Nat} (h : G.loc id = some (b, 0)) : VR G w (.mp id) (.map (some b))
  | bb {b : Bool} : VR G w .bb (.bool b)

structure Ext (G : Gh) (w : World) (G' : Gh) (w' : World) : Prop where
  loc : ∀ id b o, G.loc id = some (b, o) → G'.loc id = some (b, o) ∧ G'.wd id = G.wd id ∧ G'.sz b = G.sz b
  rl : ∀ id i j ver b o, G.rl id i j ver = some (b, o) → G'.rl id i j ver = some (b, o) ∧ G'.sz b = G.sz b
  imm : ∀ b, G.kd b = .imm → G'.kd b = .imm ∧ w'.heap[b]? = w.heap[b]?
theorem Ext.refl (G : Gh) (w : World) : Ext G w G w := ⟨fun _ _ _ h => ⟨h, rfl, rfl⟩, fun _ _ _ _ _ _ h => ⟨h, rfl⟩, fun _ h => ⟨h, rfl⟩⟩
theorem Ext.trans {G G' G2 : Gh} {w w' w2 : World} (h : Ext G w G' w') (k : Ext G' w' G2 w2) : Ext G w G2 w2 := by
  refine ⟨fun id b o e => ?_, fun id i j ver b o e => ?_, fun b e => ?_⟩
  · obtain ⟨a1, a2, a3⟩ := h.loc id b o e
    obtain ⟨b1, b2, b3⟩ := k.loc id b o a1
    exact ⟨b1, b2.trans a2, b3.trans a3⟩
  · obtain ⟨a1, a3⟩ := h.rl id i j ver b o e
    obtain ⟨b1, b3⟩ := k.rl id i j ver b o a1
    exact ⟨b1, b3.trans a3⟩
  · obtain ⟨a1, a2⟩ := h.imm b e
    obtain ⟨b1, b2⟩ := k.imm b a1
    exact ⟨b1, b2.trans a2⟩
theorem VR.mono {G G' : Gh} {w w' : World} {x : V} {v : Value} (h : VR G w x v) (e : Ext G w G' w') : VR G' w' x v := by
  induction h with
  | any => exact .any
  | c h => exact .c (h.mono e.imm)
  | nl => exact .nl
  | ic h => exact .ic (h.mono e.imm)
  | @ptr id k off b o h =>
    obtain ⟨h1, h2, _⟩ := e.loc _ _ _ h
    rw [← h2]
    exact .ptr h1
  | @«at» cs b o f hk hc =>
    exact .at f (e.imm b hk).1 fun j x hj => ⟨by rw [← (hc j x hj).1]; exact World.cell?_of_block (e.imm b hk).2, (hc j x hj).2.mono e.imm⟩
  | sl hl hcl hm h =>
    refine .sl hl hcl hm fun h0 => ?_
    obtain ⟨b, o, h1, h2, h3, h4⟩ := h h0
    obtain ⟨a1, a2, a3⟩ := e.loc _ _ _ h1
    exact ⟨b, o, a1, a2.trans h2, h3, by rw [a3]; exact h4⟩
  | rw hl hm h =>
    refine .rw hl hm fun h0 => ?_
    obtain ⟨b, o, h1, h2, h3⟩ := h h0
    obtain ⟨a1, a3⟩ := e.rl _ _ _ _ _ _ h1
    exact ⟨b, o, a1, h2, by rw [a3]; exact h3⟩
  | rp h => exact .rp (e.rl _ _ _ _ _ _ h).1
  | agg hl h1 h ih => exact .agg hl h1 ih
  | tup hl h ih => exact .tup hl ih
  | fn hl h ih => exact .fn hl ih
  | mp h => exact .mp (e.loc _ _ _ h).1
  | bb => exact .bb

def DR (G : Gh) (w : World) (id i j : Nat) : D → Value → Prop
  | .p x, v => CR G.kd w x v
  | .no, v => v.oneCell' = true
  | .ow r ver, v => ∃ ao cap, v = .slice ao r.length cap ∧ r.length ≤ cap ∧ cap ≤ maxLen ∧ ((cap = 0 ∧ G.rl id i j ver = none) ∨ ∃ b o Cs ty, G.rl id i j ver = some (b, o) ∧ ao = some ⟨b, o, none⟩ ∧ G.kd b = .rw id i j ver ∧
      w.heap[b]? = some (.cells Cs ty (0, 0)) ∧ G.sz b = Cs.size ∧ o + cap ≤ Cs.size ∧ (∀ v ∈ Cs, v.oneCell' = true) ∧ ∀ k x, r[k]? = some x → CR G.kd w x (Cs.getD (o + k) undef))
theorem DR.one {G : Gh} {w : World} {id i j : Nat} {x : D} {v : Value} (h : DR G w id i j x v) : v.oneCell' = true := by
  cases x with
  | p x => exact CR.one h
  | ow r ver => obtain ⟨ao, cap, rfl, _⟩ := h; rfl
  | no => exact h
structure Blk (G : Gh) (w : World) (id b o n : Nat) (R : Nat → Value → Prop) : Prop where
  loc : G.loc id = some (b, o)
  kd : G.kd b = .ob id
  ex : ∃ Cs ty, w.heap[b]? = some (.cells Cs ty (0, 0)) ∧ G.sz b = Cs.size ∧ o + n ≤ Cs.size ∧ (∀ v ∈ Cs, v.oneCell' = true) ∧ ∀ j, j < n → R j (Cs.getD (o + j) undef)
def mget : List (Int × Int) → Int → Option Int
  | [], _ => none
  | (x, v) :: r, k => if k = x then some v else mget r k
def mgetV (l : List (Int × Int)) (k : Int) : Option Value := (mget l k).map fun v => .int .i64 v
def OR (G : Gh) (w : World) (id : Nat) : Ob → Prop
  | .box cs => ∃ b, Blk G w id b 0 cs.length (fun j v => ∀ x, cs[j]? = some x → VR G w x v)
  | .arr s es => G.wd id = s ∧ (∀ row ∈ es, row.length = s) ∧ ((G.loc id = none ∧ es = []) ∨ ∃ b o, Blk G w id b o (es.length * s) (fun n v => ∀ i row j x, n = i * s + j → es[i]? = some row → row[j]? = some x → CR G.kd w x v))
  | .arw s es => G.wd id = s ∧ (∀ row ∈ es, row.length = s) ∧ ((G.loc id = none ∧ es = []) ∨ ∃ b o, Blk G w id b o (es.length * s) (fun n v => ∀ i row j x, n = i * s + j → es[i]? = some row → row[j]? = some x → DR G w id i j x v))
  | .mp l => ∃ b, G.loc id = some (b, 0) ∧ G.kd b = .ob id ∧ IsMap (fun n : Int => Value.int .u8 n) w b (mgetV l)
  | .abs P => ∃ (b : Nat) (own : Nat → Prop), G.loc id = some (b, 0) ∧ (∀ c, own c → G.kd c = .ob id) ∧ ∀ (imm : Nat → Prop) (sz : Nat → Nat) (w' : World), (∀ c, G.kd c = .imm → imm c) → (∀ c, c < w.heap.size → sz c = G.sz c) →
      (∀ c, (own c ∨ G.kd c = .imm) → w'.heap[c]? = w.heap[c]?) → w.heap.size ≤ w'.heap.size → P imm own sz b w'
structure Ok (G : Gh) (w : World) (m : List (Option Ob)) : Prop where
  ob : ∀ id o, m[id]? = some (some o) → OR G w id o
  imm : ∀ b, G.kd b = .imm → b < w.heap.size
  fresh : ∀ id, m.length ≤ id → G.loc id = none
  new : ∀ b, w.heap.size ≤ b → G.kd b = .no
  lt : ∀ id b o, G.loc id = some (b, o) → b < w.heap.size
  rlt : ∀ id i j v b o, G.rl id i j v = some (b, o) → b < w.heap.size
  ver : ∃ n, ∀ id i j v, n ≤ v → G.rl id i j v = none
  frl : ∀ id, G.loc id = none → ∀ i j v, G.rl id i j v = none
end Go.Proofs.YtogfcpaalcebdaaE
/- An engine for walks: the table of types; operations that only compute. -/
namespace Go.Proofs.YtogfcpaalcebdaaE
open Go Go.RowKit
set_option linter.unusedVariables false
set_option linter.unusedSimpArgs false

inductive TD where
  | int (k : IntKind)
  | bool
  | str
  | ptr
  | slc (e : TypeId)
  | arr (n : Nat) (e : TypeId)
  | st (fs : List (Nat × TypeId))
  | oth
structure TI where
  n : Nat
  by_ : Nat
  ag : Bool
  td : TD
  zv : Value
abbrev Tab := List (Nat × TI)
def look (T : Tab) (t : TypeId) : Option TI := match T with
  | [] => none
  | (u, i) :: r => bif Nat.beq t u then some i else look r t
def TDok : TD → TypeDesc → Prop
  | .int k, .int k' => k = k'
  | .bool, .bool => True
  | .str, .string => True
  | .ptr, .pointer _ => True
  | .slc e, .slice e' => e = e'
  | .arr n e, .array n' e' => n = n' ∧ e = e'
  | .st fs, .struct fields => fields.toList.map (fun f => (f.offset, f.type)) = fs
  | .oth, _ => True
  | _, _ => False
def aggD : TypeDesc → Bool
  | .struct _ => true
  | .array _ _ => true
  | _ => false
def nilS : Value → Bool
  | .slice none n c => Nat.beq n 0 && Nat.beq c 0
  | _ => false
theorem nilS_eq {v : Value} (h : nilS v = true) : v = .slice none 0 0 := by
  unfold nilS at h
  split at h
  · simp only [Bool.and_eq_true] at h
    rw [Nat.eq_of_beq_eq_true h.1, Nat.eq_of_beq_eq_true h.2]
  · cases h
def ofCell (v : Value) : V := bif nilS v then .nl else bif Plain v then .c (.sc v) else .any
def ofV : Value → V
  | .agg cs => bif cs.toList.all (·.oneCell') then .agg (cs.toList.map ofCell) else .any
  | v => ofCell v
def zcell (v : Value) : Bool := nilS v || Plain v
structure TOk1 (P : Program) (t : TypeId) (i : TI) : Prop where
  ex : ∃ d info, P.underlying t = some d ∧ P.info? t = some info ∧ info.size = i.n ∧ info.bytes = i.by_ ∧ info.zero = some i.zv ∧ TDok i.td d ∧ i.ag = aggD d
  sz : i.zv.cells.size = i.n
  pos : 0 < i.n
  z : ∀ v ∈ i.zv.cells, zcell v = true
  eq : ∀ fs, i.td = .st fs → P.stoodInHeld t = false ∧ P.eqGuardType P.depth t = false ∧ ∃ fields, P.underlying t = some (.struct fields) ∧ ∀ f ∈ fields.toList, (f.name == "_") = false
def TOk (P : Program) (T : Tab) : Prop := ∀ t i, look T t = some i → TOk1 P t i

theorem one_of_zcell {v : Value} (h : zcell v = true) : v.oneCell' = true := by
  unfold zcell at h
  rw [Bool.or_eq_true] at h
  rcases h with h | h
  · rw [nilS_eq h]; rfl
  · exact Plain.one h
section
variable {P : Program} {T : Tab} {G : Gh} {w : World}
theorem ofCell_sound (v : Value) : VR G w (ofCell v) v := by
  unfold ofCell
  cases h0 : nilS v with
  | true => rw [nilS_eq h0]; exact .nl
  | false => cases h : Plain v with
    | true => exact .c (.sc h)
    | false => exact .any
theorem getD_toList (cs : Array Value) (j : Nat) : cs.toList.getD j undef = cs.getD j undef := by simp
theorem ofV_sound (v : Value) : VR G w (ofV v) v := by
  unfold ofV
  split
  · rename_i cs
    cases hone : cs.toList.all (·.oneCell') with
    | false => exact .any
    | true =>
    rw [List.all_eq_true] at hone
    refine .agg (by simp) (fun u hu => hone u (Array.mem_toList_iff.2 hu)) fun j x hj => ?_
    rw [List.getElem?_map] at hj
    cases hc : cs.toList[j]? with
    | none => rw [hc] at hj; cases hj
    | some u =>
      rw [hc] at hj
      cases hj
      have : cs.getD j undef = u := by rw [← getD_toList, List.getD_eq_getElem?_getD, hc]; rfl
      rw [this]
      exact ofCell_sound u
  · exact ofCell_sound v

def ev (A : Nat → V) : Operand → V
  | .tmp t => A t
  | .const v => ofV v
  | .func f => .fn f []
  | .global _ => .any

/-! ### Address arithmetic -/
theorem add_mk (b o n : Nat) : (⟨b, o, none⟩ : Addr).add n = ⟨b, o + n, none⟩ := by
  unfold Addr.add
  by_cases h : n = 0
  · subst h; simp
  · simp [h]
theorem TOk1.und {t : TypeId} {i : TI} (h : TOk1 P t i) : ∃ d, P.underlying t = some d ∧ TDok i.td d ∧ i.ag = aggD d := by
  obtain ⟨d, info, h1, _, _, _, _, h2, h3⟩ := h.ex
  exact ⟨d, h1, h2, h3⟩
theorem TOk1.size {t : TypeId} {i : TI} (h : TOk1 P t i) (w : World) : (sizeOf t).run P w = .ok i.n w := by
  obtain ⟨d, info, _, h1, h2, _⟩ := h.ex
  simp [sizeOf, typeInfo, h1, h2]
theorem TOk1.isAgg {t : TypeId} {i : TI} (h : TOk1 P t i) (w : World) : (isAgg t).run P w = .ok i.ag w := by
  obtain ⟨d, h1, _, h3⟩ := h.und
  rw [h3]
  unfold Go.isAgg
  rw [Sem.run_bind, run_underlying h1]
  cases d <;> rfl
theorem TOk1.slc {t e : TypeId} {i : TI} (h : TOk1 P t i) (hd : i.td = .slc e) : P.underlying t = some (.slice e) := by
  obtain ⟨d, h1, h2, _⟩ := h.und
  rw [hd] at h2
  cases d <;> simp only [TDok] at h2
  subst h2
  exact h1
theorem TOk1.arr {t e : TypeId} {n : Nat} {i : TI} (h : TOk1 P t i) (hd : i.td = .arr n e) : P.underlying t = some (.array n e) := by
  obtain ⟨d, h1, h2, _⟩ := h.und
  rw [hd] at h2
  cases d <;> simp only [TDok] at h2
  obtain ⟨rfl, rfl⟩ := h2
  exact h1
theorem TOk1.st {t : TypeId} {fs : List (Nat × TypeId)} {i : TI} (h : TOk1 P t i) (hd : i.td = .st fs) : ∃ fields, P.underlying t = some (.struct fields) ∧ fields.toList.map (fun f => (f.offset, f.type)) = fs := by
  obtain ⟨d, h1, h2, _⟩ := h.und
  rw [hd] at h2
  cases d <;> simp only [TDok] at h2
  exact ⟨_, h1, h2⟩
theorem TOk1.int {t : TypeId} {k : IntKind} {i : TI} (h : TOk1 P t i) (hd : i.td = .int k) : P.underlying t = some (.int k) := by
  obtain ⟨d, h1, h2, _⟩ := h.und
  rw [hd] at h2
  cases d <;> simp only [TDok] at h2
  subst h2
  exact h1
theorem TOk1.str {t : TypeId} {i : TI} (h : TOk1 P t i) (hd : i.td = .str) : P.underlying t = some .string := by
  obtain ⟨d, h1, h2, _⟩ := h.und
  rw [hd] at h2
  cases d <;> simp only [TDok] at h2
  exact h1
theorem TOk1.ptr {t : TypeId} {i : TI} (h : TOk1 P t i) (hd : i.td = .ptr) : ∃ e, P.underlying t = some (.pointer e) := by
  obtain ⟨d, h1, h2, _⟩ := h.und
  rw [hd] at h2
  cases d <;> simp only [TDok] at h2
  exact ⟨_, h1⟩
theorem TOk1.bool {t : TypeId} {i : TI} (h : TOk1 P t i) (hd : i.td = .bool) : P.underlying t = some .bool := by
  obtain ⟨d, h1, h2, _⟩ := h.und
  rw [hd] at h2
  cases d <;> simp only [TDok] at h2
  exact h1

/-! ### fieldAddr, field -/
def pFieldAddr (T : Tab) (s : TypeId) (x : V) (f : Nat) : Option V :=
  match look T s with
  | some { td := .st fs, .. } => match fs[f]? with
    | some (o, ft) => match look T ft with
      | some _ => match x with
        | .ptr id k off => some (.ptr id k (off + o))
        | .at cs => some (.at (cs.drop o))
        | _ => none
      | none => none
    | none => none
  | _ => none
theorem fieldAddr_sound (hT : TOk P T) {s f : Nat} {x y : V} {v : Value} (h : VR G w x v) (he : pFieldAddr T s x f = some y) :
    ∃ u, (Instr.fieldAt s v f).run P w = .ok u w ∧ VR G w y u := by
  unfold pFieldAddr at he
  split at he
  · rename_i n by_ ag fs zv hs
    split at he
    · rename_i o ft hf
      split at he
      · rename_i fi hfi
        obtain ⟨fields, hu, hm⟩ := (hT s _ hs).st rfl
        have hfd : ∃ fd, fields[f]? = some fd ∧ fd.offset = o ∧ fd.type = ft := by
          rw [← hm, List.getElem?_map] at hf
          cases hq : fields.toList[f]? with
          | none => rw [hq] at hf; cases hf
          | some fd =>
            rw [hq] at hf
            simp only [Option.map_some, Option.some.injEq, Prod.mk.injEq] at hf
            exact ⟨fd, by simpa using hq, hf.1, hf.2⟩
        obtain ⟨fd, hq, rfl, rfl⟩ := hfd
        have hz := (hT _ _ hfi).size w
        have hp := (hT _ _ hfi).pos
        have run : ∀ b o', (Instr.fieldAt s (.pointer (some ⟨b, o', none⟩)) f).run P w = .ok (.pointer (some ⟨b, o' + fd.offset, none⟩)) w := fun b o' => by
          simp [Instr.fieldAt, run_underlying hu, hq, Instr.sureAddr, fieldPlace, hz, Nat.ne_of_gt hp, add_mk]
        split at he
        · cases he
          cases h with
          | ptr h =>
            refine ⟨_, run _ _, ?_⟩
            rw [Nat.add_assoc]
            exact .ptr h
        · cases he
          cases h with
          | «at» g hk hc =>
            refine ⟨_, run _ _, .at (fun j => g (fd.offset + j)) hk fun j x hj => ?_⟩
            rw [List.getElem?_drop] at hj
            rw [Nat.add_assoc]
            exact hc _ _ hj
        · cases he
      · cases he
    · cases he
  · cases he

def pPart (i : TI) (cs : List V) (off : Nat) : Option V :=
  match i.ag with
  | true => bif Nat.ble (off + i.n) cs.length then some (.agg ((cs.drop off).take i.n)) else none
  | false => cs[off]?
theorem getD_mem {cs : Array Value} {j : Nat} (h : j < cs.size) : cs.getD j undef ∈ cs := by
  have : cs.getD j undef = cs[j] := by simp [h]
  rw [this]
  exact Array.getElem_mem h
theorem part_sound {t : TypeId} {i : TI} (hi : TOk1 P t i) {cs : List V} {vs : Array Value} {off : Nat} {y : V} (hl : cs.length = vs.size) (h1 : ∀ v ∈ vs, v.oneCell' = true)
    (h : ∀ j x, cs[j]? = some x → VR G w x (vs.getD j undef)) (he : pPart i cs off = some y) : ∃ u, (part t vs off).run P w = .ok u w ∧ VR G w y u := by
  unfold pPart at he
  split at he
  · rename_i hag
    cases hb : Nat.ble (off + i.n) cs.length with
    | false => rw [hb] at he; cases he
    | true =>
      rw [hb] at he
      cases he
      have hle : off + i.n ≤ cs.length := Nat.le_of_ble_eq_true hb
      refine ⟨.agg (vs.extract off (off + i.n)), ?_, .agg ?_ (fun v hv => ?_) (fun j x hj => ?_)⟩
      · simp [part, hi.isAgg, hi.size, hag]
      · simp; omega
      · rw [Array.mem_extract_iff_getElem] at hv
        obtain ⟨k, hk, rfl⟩ := hv
        exact h1 _ (Array.getElem_mem _)
      · rw [List.getElem?_take] at hj
        split at hj
        · rename_i hji
          rw [List.getElem?_drop] at hj
          have := h _ _ hj
          have e : (vs.extract off (off + i.n)).getD j undef = vs.getD (off + j) undef := by
            simp only [Array.getD_eq_getD_getElem?, Array.getElem?_extract]
            rw [if_pos (by omega)]
          rw [e]
          exact this
        · cases hj
  · rename_i hag
    have hlt : off < vs.size := by rw [← hl]; exact (List.getElem?_eq_some_iff.1 he).1
    refine ⟨vs.getD off undef, ?_, h _ _ he⟩
    simp [part, hi.isAgg, hag, hlt]
def pField (T : Tab) (s : TypeId) (x : V) (f : Nat) : Option V :=
  match look T s with
  | some { td := .st fs, .. } => match fs[f]? with
    | some (o, ft) => match look T ft with
      | some fi => match x with
        | .agg cs => pPart fi cs o
        | _ => none
      | none => none
    | none => none
  | _ => none
theorem field_sound (hT : TOk P T) {s f : Nat} {x y : V} {v : Value} (h : VR G w x v) (he : pField T s x f = some y) :
    ∃ u, (Instr.field s v f).run P w = .ok u w ∧ VR G w y u := by
  unfold pField at he
  split at he
  · rename_i n by_ ag fs zv hs
    split at he
    · rename_i o ft hf
      split at he
      · rename_i fi hfi
        obtain ⟨fields, hu, hm⟩ := (hT s _ hs).st rfl
        have hfd : ∃ fd, fields[f]? = some fd ∧ fd.offset = o ∧ fd.type = ft := by
          rw [← hm, List.getElem?_map] at hf
          cases hq : fields.toList[f]? with
          | none => rw [hq] at hf; cases hf
          | some fd =>
            rw [hq] at hf
            simp only [Option.map_some, Option.some.injEq, Prod.mk.injEq] at hf
            exact ⟨fd, by simpa using hq, hf.1, hf.2⟩
        obtain ⟨fd, hq, rfl, rfl⟩ := hfd
        split at he
        · cases h with
          | agg hl h1 h =>
            obtain ⟨u, hr, hv⟩ := part_sound (hT _ _ hfi) hl h1 h he
            refine ⟨u, ?_, hv⟩
            simp [Instr.field, run_underlying hu, hq, asAgg, hr]
        · cases he
      · cases he
    · cases he
  · cases he

/-! ### indexAddr, index -/
def pIdx (i : TI) (es : List (List C)) (n : Int) : Option V :=
  match Int.decLt n 0 with
  | .isTrue _ => none
  | .isFalse _ => match es[n.toNat]? with
    | some row => bif Nat.beq row.length i.n then some (.at row) else none
    | none => none
def pIndexAddr (T : Tab) (t : TypeId) (x ix : V) : Option V :=
  match look T t, ix with
  | some { td := .slc e, .. }, .c (.sc (.int _ n)) => match look T e with
    | some ei => match x with
      | .c (.ls es) => pIdx ei es n
      | .ic es => pIdx ei es n
      | .sl id s off len _ => if 0 ≤ n ∧ n < (len : Int) ∧ s = ei.n then some (.ptr id (off + n.toNat) 0) else none
      | .rw id i j ver off len => if 0 ≤ n ∧ n < (len : Int) ∧ ei.n = 1 then some (.rp id i j ver (off + n.toNat)) else none
      | _ => none
    | none => none
  | some { td := .arr m e, .. }, .c (.sc (.int _ n)) => match look T e with
    | some ei => match x with
      | .ptr id k off => if 0 ≤ n ∧ n < (m : Int) then some (.ptr id k (off + n.toNat * ei.n)) else none
      | .at cs => if 0 ≤ n ∧ n < (m : Int) then some (.at (cs.drop (n.toNat * ei.n))) else none
      | _ => none
    | none => none
  | _, _ => none
theorem idx_sound {e t : TypeId} {ei : TI} (hu : P.underlying t = some (.slice e)) (hei : TOk1 P e ei) {es : List (List C)} {ao : Option Addr} {cap : Nat} {k : IntKind} {n : Int} {y : V}
    (h : CR G.kd w (.ls es) (.slice ao es.length cap)) (he : pIdx ei es n = some y) : ∃ u, (Instr.indexAt t (.slice ao es.length cap) (.int k n)).run P w = .ok u w ∧ VR G w y u := by
  unfold pIdx at he
  split at he
  · cases he
  · rename_i h0
    split at he
    · rename_i row hrow
      cases hb : Nat.beq row.length ei.n with
      | false => rw [hb] at he; cases he
      | true =>
        rw [hb] at he
        cases he
        have hlen : row.length = ei.n := Nat.eq_of_beq_eq_true hb
        have hlt := (List.getElem?_eq_some_iff.1 hrow).1
        cases h with
        | @ls _ _ _ s b o f hcap hmax hao hs hc hr =>
          obtain ⟨rfl, hk⟩ := hao (by omega)
          have hss : s = ei.n := by rw [← hlen]; exact (hs row (List.mem_of_getElem? hrow)).symm
          subst hss
          refine ⟨.pointer (some ⟨b, o + n.toNat * ei.n, none⟩), ?_, .at (fun j => f n.toNat j) hk fun j x hj => ⟨?_, hr _ _ _ _ hrow hj⟩⟩
          · have e1 : (0 : Int) ≤ n ∧ n < (es.length : Int) := ⟨by omega, by omega⟩
            simp [Instr.indexAt, run_underlying hu, asIntOf, e1, hei.size, add_mk]
          · exact hc _ _ _ _ hrow hj
    · cases he
theorem idxS_sound {e t : TypeId} {ei : TI} (hu : P.underlying t = some (.slice e)) (hei : TOk1 P e ei) {id s off len : Nat} {cl : Bool} {v : Value} {k : IntKind} {n : Int}
    (h : VR G w (.sl id s off len cl) v) (h0 : 0 ≤ n) (h1 : n < (len : Int)) (h2 : s = ei.n) : ∃ u, (Instr.indexAt t v (.int k n)).run P w = .ok u w ∧ VR G w (.ptr id (off + n.toNat) 0) u := by
  subst h2
  cases h with
  | sl hl hcl hm h =>
    obtain ⟨b, o, hloc, hwd, rfl, _⟩ := h (by omega)
    refine ⟨.pointer (some ⟨b, o + off * ei.n + n.toNat * ei.n, none⟩), ?_, ?_⟩
    · simp [Instr.indexAt, run_underlying hu, asIntOf, h0, h1, hei.size, add_mk]
    · have := VR.ptr (G := G) (w := w) (k := off + n.toNat) (off := 0) hloc
      rw [hwd, Nat.add_mul, ← Nat.add_assoc, Nat.add_zero] at this
      exact this
theorem idxR_sound {e t : TypeId} {ei : TI} (hu : P.underlying t = some (.slice e)) (hei : TOk1 P e ei) {id i j ver off len : Nat} {v : Value} {k : IntKind} {n : Int}
    (h : VR G w (.rw id i j ver off len) v) (h0 : 0 ≤ n) (h1 : n < (len : Int)) (h2 : ei.n = 1) : ∃ u, (Instr.indexAt t v (.int k n)).run P w = .ok u w ∧ VR G w (.rp id i j ver (off + n.toNat)) u := by
  cases h with
  | rw hl hm h =>
    obtain ⟨b, o, hloc, rfl, _⟩ := h (by omega)
    refine ⟨.pointer (some ⟨b, o + off + n.toNat, none⟩), ?_, ?_⟩
    · simp [Instr.indexAt, run_underlying hu, asIntOf, h0, h1, hei.size, add_mk, h2]
    · have := VR.rp (G := G) (w := w) (k := off + n.toNat) hloc
      rw [← Nat.add_assoc] at this
      exact this
theorem indexAddr_sound (hT : TOk P T) {t : TypeId} {x ix y : V} {v iv : Value} (h : VR G w x v) (hi : VR G w ix iv) (he : pIndexAddr T t x ix = some y) :
    ∃ u, (Instr.indexAt t v iv).run P w = .ok u w ∧ VR G w y u := by
  unfold pIndexAddr at he
  split at he
  · rename_i n_ by_ ag e zv k n hs
    split at he
    · rename_i ei hei
      have hu := (hT t _ hs).slc rfl
      have hei := hT e _ hei
      cases hi with
      | c hi =>
      cases hi with
      | sc hi =>
      split at he
      · cases h with
        | c h =>
        generalize hv : v = v' at h
        cases h with
        | ls f hcap hmax hao hs hc hr => subst hv; exact idx_sound hu hei (.ls f hcap hmax hao hs hc hr) he
      · cases h with
        | ic h => exact idx_sound hu hei h he
      · split at he
        · rename_i hn
          cases he
          exact idxS_sound hu hei h hn.1 hn.2.1 hn.2.2
        · cases he
      · split at he
        · rename_i hn
          cases he
          exact idxR_sound hu hei h hn.1 hn.2.1 hn.2.2
        · cases he
      · cases he
    · cases he
  · rename_i n_ by_ ag m e zv k n hs
    split at he
    · rename_i ei hei
      have hu := (hT t _ hs).arr rfl
      have hei := hT e _ hei
      have run : ∀ b o, 0 ≤ n ∧ n < (m : Int) → (Instr.indexAt t (.pointer (some ⟨b, o, none⟩)) (.int k n)).run P w = .ok (.pointer (some ⟨b, o + n.toNat * ei.n, none⟩)) w := fun b o hn => by
        simp [Instr.indexAt, run_underlying hu, asIntOf, hn, hei.size, add_mk, Instr.sureAddr]
      cases hi with
      | c hi =>
      cases hi with
      | sc hi =>
      split at he
      · split at he
        · rename_i hn
          cases he
          cases h with
          | ptr h =>
            refine ⟨_, run _ _ hn, ?_⟩
            rw [Nat.add_assoc]
            exact .ptr h
        · cases he
      · split at he
        · rename_i hn
          cases he
          cases h with
          | «at» g hk hc =>
            refine ⟨_, run _ _ hn, .at (fun j => g (n.toNat * ei.n + j)) hk fun j x hj => ?_⟩
            rw [List.getElem?_drop] at hj
            rw [Nat.add_assoc]
            exact hc _ _ hj
        · cases he
      · cases he
    · cases he
  · cases he
def pIndex (T : Tab) (t : TypeId) (x ix : V) : Option V :=
  match look T t, ix, x with
  | some { td := .arr m e, .. }, .c (.sc (.int _ n)), .agg cs => match look T e with
    | some ei => if 0 ≤ n ∧ n < (m : Int) then pPart ei cs (n.toNat * ei.n) else none
    | none => none
  | _, _, _ => none
theorem index_sound (hT : TOk P T) {t : TypeId} {x ix y : V} {v iv : Value} (h : VR G w x v) (hi : VR G w ix iv) (he : pIndex T t x ix = some y) :
    ∃ u, (Instr.index t v iv).run P w = .ok u w ∧ VR G w y u := by
  unfold pIndex at he
  split at he
  · rename_i n_ by_ ag m e zv k n cs hs
    split at he
    · rename_i ei hei
      split at he
      · rename_i hn
        have hu := (hT t _ hs).arr rfl
        cases hi with
        | c hi =>
        cases hi with
        | sc hi =>
        cases h with
        | agg hl h1 h =>
          obtain ⟨u, hr, hv⟩ := part_sound (hT _ _ hei) hl h1 h he
          refine ⟨u, ?_, hv⟩
          simp [Instr.index, run_underlying hu, asIntOf, hn, (hT _ _ hei).size, hr]
      · cases he
    · cases he
  · cases he

/-! ### slices of slices -/
def pBound (x : Option V) (d : Nat) : Option Nat :=
  match x with
  | none => some d
  | some (.c (.sc (.int _ n))) => if 0 ≤ n then some n.toNat else none
  | _ => none
def pSlice (T : Tab) (t : TypeId) (x : V) (lo hi mx : Option V) : Option V :=
  match look T t with
  | some { td := .slc e, .. } => match look T e with
    | some ei => match x with
      | .c (.ls es) => match pBound lo 0, pBound hi es.length with
        | some l, some h => match mx with
          | none => if l ≤ h ∧ h ≤ es.length ∧ (l = 0 ∨ ∀ row ∈ es, row.length = ei.n) then some (.c (.ls ((es.drop l).take (h - l)))) else none
          | some _ => match pBound mx 0 with
            | some m => if l ≤ h ∧ h = m ∧ m ≤ es.length ∧ hi.isSome = true ∧ (l = 0 ∨ ∀ row ∈ es, row.length = ei.n) then some (.ic ((es.drop l).take (h - l))) else none
            | none => none
        | _, _ => none
      | .nl => match pBound lo 0, pBound hi 0, pBound mx 0 with
        | some 0, some 0, some 0 => if mx.isSome = true → hi.isSome = true then some .nl else none
        | _, _, _ => none
      | .sl id s off len cl => match pBound lo 0, pBound hi len with
        | some l, some h => match mx with
          | none => if l ≤ h ∧ h ≤ len ∧ s = ei.n then some (.sl id s (off + l) (h - l) false) else none
          | some _ => match pBound mx 0 with
            | some m => if l ≤ h ∧ h = m ∧ m ≤ len ∧ hi.isSome = true ∧ s = ei.n then some (.sl id s (off + l) (h - l) true) else none
            | none => none
        | _, _ => none
      | .rw id i j ver off len => match pBound lo 0, pBound hi len, mx with
        | some l, some h, none => if l ≤ h ∧ h ≤ len ∧ ei.n = 1 then some (.rw id i j ver (off + l) (h - l)) else none
        | _, _, _ => none
      | _ => none
    | none => none
  | _ => none
def BV (G : Gh) (w : World) : Option V → Option Value → Prop
  | none, none => True
  | some x, some v => VR G w x v
  | _, _ => False
theorem bound_run {x : Option V} {v : Option Value} (h : BV G w x v) {d n : Nat} (he : pBound x d = some n) (hx : x.isSome = true) {y : Nat} (hy : n ≤ y) (code : BoundsCode) :
    ∃ u, v = some u ∧ (Instr.sliceBound u y code).run P w = .ok n w := by
  cases x with
  | none => cases hx
  | some x =>
    cases v with
    | none => exact h.elim
    | some v =>
      unfold pBound at he
      split at he
      · rename_i q; cases q
      · rename_i k z hxx
        cases hxx
        cases h with
        | c h =>
        cases h with
        | sc h =>
        split at he
        · rename_i h0
          cases he
          exact ⟨_, rfl, run_sliceBound w k z y code h0 (by omega)⟩
        · cases he
      · cases he
theorem bound_none {v : Option Value} (h : BV G w none v) : v = none := by
  cases v with
  | none => rfl
  | some v => exact h.elim
theorem bounds_run {lo hi : Option V} {lov hiv : Option Value} (hlo : BV G w lo lov) (hhi : BV G w hi hiv) {len cap l h : Nat} (h1 : pBound lo 0 = some l) (h2 : pBound hi len = some h)
    (hlh : l ≤ h) (hh : h ≤ len) (hlc : len ≤ cap) : (Instr.sliceBounds true len cap lov hiv none).run P w = .ok (l, h, cap) w := by
  have hH : (hiv = none ∧ h = len) ∨ ∃ u, hiv = some u ∧ (Instr.sliceBound u cap .sliceAcap).run P w = .ok h w := by
    cases hi with
    | none => cases h2; exact .inl ⟨bound_none hhi, rfl⟩
    | some x => exact .inr (bound_run (P := P) hhi h2 rfl (y := cap) (by omega) .sliceAcap)
  have hL : (lov = none ∧ l = 0) ∨ ∃ u, lov = some u ∧ (Instr.sliceBound u h .sliceB).run P w = .ok l w := by
    cases lo with
    | none => cases h1; exact .inl ⟨bound_none hlo, rfl⟩
    | some x => exact .inr (bound_run (P := P) hlo h1 rfl (y := h) hlh .sliceB)
  unfold Instr.sliceBounds
  rcases hH with ⟨rfl, rfl⟩ | ⟨u, rfl, hr⟩ <;> rcases hL with ⟨rfl, rfl⟩ | ⟨u', rfl, hr'⟩ <;> simp [*]
theorem bounds_run3 {lo hi mx : Option V} {lov hiv mxv : Option Value} (hlo : BV G w lo lov) (hhi : BV G w hi hiv) (hmx : BV G w mx mxv) {len cap l h m d : Nat} (h1 : pBound lo 0 = some l) (h2 : pBound hi len = some h) (h3 : pBound mx d = some m)
    (hlh : l ≤ h) (hm : h ≤ m) (hmc : m ≤ cap) (i1 : hi.isSome = true) (i2 : mx.isSome = true) : (Instr.sliceBounds true len cap lov hiv mxv).run P w = .ok (l, h, m) w := by
  obtain ⟨um, rfl, hr3⟩ := bound_run (P := P) hmx h3 i2 (y := cap) hmc .slice3Acap
  obtain ⟨uh, rfl, hr2⟩ := bound_run (P := P) hhi h2 i1 (y := m) hm .slice3B
  unfold Instr.sliceBounds
  cases lo with
  | none =>
    rw [bound_none hlo]
    cases h1
    simp [hr3, hr2]
  | some x =>
    obtain ⟨ul, rfl, hr1⟩ := bound_run (P := P) hlo h1 rfl (y := h) hlh .slice3C
    simp [hr3, hr2, hr1]
theorem sliceAt_run {t e : TypeId} {ei : TI} (hu : P.underlying t = some (.slice e)) (hei : TOk1 P e ei) {ao : Option Addr} {len cap l h m : Nat} {lov hiv mxv : Option Value}
    (hb : (Instr.sliceBounds true len cap lov hiv mxv).run P w = .ok (l, h, m) w) :
    (Instr.sliceAt t (.slice ao len cap) lov hiv mxv).run P w = .ok (.slice (if m = l then ao else ao.map (·.add (l * ei.n))) (h - l) (m - l)) w := by
  simp [Instr.sliceAt, Instr.slice, run_underlying hu, hb, hei.size]
theorem CR.sub {kd : Nat → Kd} {es : List (List C)} {ao : Option Addr} {cap l h m n : Nat} (hr : CR kd w (.ls es) (.slice ao es.length cap)) (hlh : l ≤ h) (hh : h ≤ es.length) (hm : h ≤ m) (hmc : m ≤ cap) (hn : l = 0 ∨ ∀ row ∈ es, row.length = n) :
    CR kd w (.ls ((es.drop l).take (h - l))) (.slice (if m = l then ao else ao.map (·.add (l * n))) ((es.drop l).take (h - l)).length (m - l)) := by
  have hlen : ((es.drop l).take (h - l)).length = h - l := by simp; omega
  cases hr with
  | @ls _ _ _ s b o f hcap hmax hao hs hc hr =>
    have hsub : ∀ i row, ((es.drop l).take (h - l))[i]? = some row → es[l + i]? = some row := fun i row hi => by
      rw [List.getElem?_take] at hi
      split at hi
      · rw [List.getElem?_drop] at hi; exact hi
      · cases hi
    have e : l * n = l * s ∨ es = [] := by
      rcases hn with rfl | hn
      · left; simp
      · cases es with
        | nil => right; rfl
        | cons row r => left; rw [← hn row (by simp), hs row (by simp)]
    refine .ls (s := s) (b := b) (o := o + l * s) (fun i j => f (l + i) j) (by omega) (by omega) (fun h0 => ?_) (fun row hr' => hs row ?_) (fun i row j x h1 h2 => ?_) (fun i row j x h1 h2 => hr _ _ _ _ (hsub _ _ h1) h2)
    · obtain ⟨rfl, hk⟩ := hao (by omega)
      rw [if_neg (by omega)]
      rcases e with e | rfl
      · exact ⟨by simp [add_mk, e], hk⟩
      · simp at h0
    · exact List.mem_of_mem_drop (List.mem_of_mem_take hr')
    · rw [← hc _ _ _ _ (hsub _ _ h1) h2, Nat.add_mul]
      congr 2
      omega
end
end Go.Proofs.YtogfcpaalcebdaaE
/- An engine for walks: operations that only compute, the rest; all of them under one name. -/
namespace Go.Proofs.YtogfcpaalcebdaaE
open Go Go.RowKit
set_option linter.unusedVariables false
set_option linter.unusedSimpArgs false
section
variable {P : Program} {T : Tab} {G : Gh} {w : World}

theorem slice_sound (hT : TOk P T) {t : TypeId} {x y : V} {lo hi mx : Option V} {v : Value} {lov hiv mxv : Option Value} (h : VR G w x v) (hlo : BV G w lo lov) (hhi : BV G w hi hiv) (hmx : BV G w mx mxv)
    (he : pSlice T t x lo hi mx = some y) : ∃ u, (Instr.sliceAt t v lov hiv mxv).run P w = .ok u w ∧ VR G w y u := by
  unfold pSlice at he
  split at he
  · rename_i n_ by_ ag e zv hs
    have hu := (hT t _ hs).slc rfl
    split at he
    · rename_i ei hei
      have hei := hT e _ hei
      split at he
      · rename_i es
        split at he
        · rename_i l h' hl hh
          cases h with
          | c hc =>
          cases hc with
          | @ls _ ao cap s b o f hcap hmax hao hs' hc hr =>
          have hcr : CR G.kd w (.ls es) (.slice ao es.length cap) := .ls f hcap hmax hao hs' hc hr
          split at he
          · split at he
            · rename_i hn
              cases he
              have hm0 := bound_none hmx
              subst hm0
              have hlen : ((es.drop l).take (h' - l)).length = h' - l := by simp; omega
              have hsub := hcr.sub hn.1 hn.2.1 (Nat.le_trans hn.2.1 hcap) (Nat.le_refl _) hn.2.2
              rw [hlen] at hsub
              exact ⟨_, sliceAt_run hu hei (bounds_run hlo hhi hl hh hn.1 hn.2.1 hcap), .c hsub⟩
            · cases he
          · split at he
            · rename_i m hm
              split at he
              · rename_i hn
                cases he
                obtain ⟨n1, rfl, n3, n4, n5⟩ := hn
                have hlen : ((es.drop l).take (h' - l)).length = h' - l := by simp; omega
                have hsub := hcr.sub n1 n3 (Nat.le_refl _) (Nat.le_trans n3 hcap) n5
                rw [hlen] at hsub
                refine ⟨_, sliceAt_run hu hei (bounds_run3 hlo hhi hmx hl hh hm n1 (Nat.le_refl _) (Nat.le_trans n3 hcap) n4 rfl), ?_⟩
                have q := VR.ic (G := G) (w := w) (es := (es.drop l).take (h' - l)) (ao := if h' = l then ao else ao.map (·.add (l * ei.n))) (by rw [hlen]; exact hsub)
                rw [hlen] at q
                exact q
              · cases he
            · cases he
        · cases he
      · split at he
        · rename_i hl hh hm
          split at he
          · rename_i hn
            cases he
            cases h with
            | nl =>
              refine ⟨.slice none 0 0, ?_, .nl⟩
              cases mx with
              | none =>
                have hm0 := bound_none hmx
                subst hm0
                have := sliceAt_run (w := w) hu hei (ao := none) (bounds_run (cap := 0) hlo hhi hl hh (Nat.le_refl _) (Nat.le_refl _) (Nat.le_refl _))
                simpa using this
              | some q =>
                have := sliceAt_run (w := w) hu hei (ao := none) (bounds_run3 (cap := 0) hlo hhi hmx hl hh hm (Nat.le_refl _) (Nat.le_refl _) (Nat.le_refl _) (hn rfl) rfl)
                simpa using this
          · cases he
        · cases he
      · rename_i id s off len cl
        split at he
        · rename_i l h' hl hh
          cases h with
          | @sl _ _ _ _ cap _ ao hlc hcl hmax hloc =>
          have loc : ∀ m, m ≤ cap → 0 < m - l → l ≤ m → s = ei.n → ∃ b o, G.loc id = some (b, o) ∧ G.wd id = s ∧ (if m = l then ao else ao.map (·.add (l * ei.n))) = some ⟨b, o + (off + l) * s, none⟩ ∧ o + (off + l + (m - l)) * s ≤ G.sz b := fun m hm h0 hlm hse => by
            obtain ⟨b, o, h1, h2, h3, h4⟩ := hloc (by omega)
            refine ⟨b, o, h1, h2, ?_, ?_⟩
            · rw [if_neg (by omega), h3, hse]
              simp [add_mk, Nat.add_mul, Nat.add_assoc]
            · refine Nat.le_trans ?_ h4
              have : (off + l + (m - l)) * s ≤ (off + cap) * s := Nat.mul_le_mul_right _ (by omega)
              omega
          split at he
          · split at he
            · rename_i hn
              cases he
              obtain ⟨n1, n2, n3⟩ := hn
              have hm0 := bound_none hmx
              subst hm0
              exact ⟨_, sliceAt_run hu hei (bounds_run hlo hhi hl hh n1 n2 hlc), .sl (by omega) (fun q => by cases q) (by omega) fun h0 => loc cap (Nat.le_refl _) h0 (by omega) n3⟩
            · cases he
          · split at he
            · rename_i m hm
              split at he
              · rename_i hn
                cases he
                obtain ⟨n1, rfl, n3, n4, n5⟩ := hn
                exact ⟨_, sliceAt_run hu hei (bounds_run3 hlo hhi hmx hl hh hm n1 (Nat.le_refl _) (by omega) n4 rfl), .sl (by omega) (fun q => rfl) (by omega) fun h0 => loc h' (by omega) h0 (by omega) n5⟩
              · cases he
            · cases he
        · cases he
      · rename_i id i j ver off len
        split at he
        · rename_i l h' hl hh
          split at he
          · rename_i hn
            cases he
            cases h with
            | @rw _ _ _ _ _ _ cap ao hlc hmax hloc =>
            obtain ⟨n1, n2, n3⟩ := hn
            have hm0 := bound_none hmx
            subst hm0
            refine ⟨_, sliceAt_run hu hei (bounds_run hlo hhi hl hh n1 n2 hlc), .rw (by omega) (by omega) fun h0 => ?_⟩
            obtain ⟨b, o, h1, h3, h4⟩ := hloc (by omega)
            refine ⟨b, o, h1, ?_, by omega⟩
            rw [if_neg (by omega), h3, n3]
            simp [add_mk, Nat.add_assoc]
          · cases he
        · cases he
      · cases he
    · cases he
  · cases he

/-! ### numbers and truths -/
def bo (b : Bool) : V := .c (.sc (.bool b))
def nu (k : IntKind) (n : Int) : V := .c (.sc (.int k n))
theorem VR.bo (b : Bool) : VR G w (bo b) (.bool b) := .c (.sc rfl)
theorem VR.nu (k : IntKind) (n : Int) : VR G w (nu k n) (.int k n) := .c (.sc rfl)
def intBin (op : BinOp) (k : IntKind) (a b : Int) : Option V :=
  match op with
  | .add => some (nu k (k.wrap (a + b)))
  | .sub => some (nu k (k.wrap (a - b)))
  | .mul => some (nu k (k.wrap (a * b)))
  | .quo => if b = 0 then none else some (nu k (k.wrap (a.tdiv b)))
  | .rem => if b = 0 then none else some (nu k (a.tmod b))
  | .eql => some (bo (a == b))
  | .neq => some (bo (a != b))
  | .lss => some (bo (decide (a < b)))
  | .leq => some (bo (decide (a ≤ b)))
  | .gtr => some (bo (decide (a > b)))
  | .geq => some (bo (decide (a ≥ b)))
  | .and => some (nu k (k.wrap ((BitVec.ofInt k.bits a &&& BitVec.ofInt k.bits b).toNat : Int)))
  | .or => some (nu k (k.wrap ((BitVec.ofInt k.bits a ||| BitVec.ofInt k.bits b).toNat : Int)))
  | .xor => some (nu k (k.wrap ((BitVec.ofInt k.bits a ^^^ BitVec.ofInt k.bits b).toNat : Int)))
  | .andNot => some (nu k (k.wrap ((BitVec.ofInt k.bits a &&& ~~~(BitVec.ofInt k.bits b)).toNat : Int)))
  | _ => none
theorem intBin_sound {op : BinOp} {t : TypeId} {k : IntKind} {a b : Int} {y : V} (he : intBin op k a b = some y) : ∃ u, (binOp op t (.int k a) (.int k b)).run P w = .ok u w ∧ VR G w y u := by
  cases op <;> simp only [intBin] at he <;> first
    | (split at he; exact absurd he (by simp); rename_i h0; cases he; exact ⟨_, by simp [binOp, Op.intDiv, h0] <;> rfl, .nu _ _⟩)
    | (cases he; exact ⟨_, by simp [binOp, Op.intArith, Op.intCmp, Op.intBits] <;> rfl, by first | exact .bo _ | exact .nu _ _⟩)
    | (cases he; exact ⟨_, by simp only [binOp, ne_eq, not_true, if_false]; rfl, by first | exact .bo _ | exact .nu _ _⟩)
    | (cases he; done)
def ptrNil : V → Option Bool
  | .ptr _ _ _ => some false
  | .at _ => some false
  | .rp _ _ _ _ _ => some false
  | .c (.sc (.pointer none)) => some true
  | _ => none
theorem ptrNil_sound {x : V} {v : Value} {b : Bool} (h : VR G w x v) (he : ptrNil x = some b) : (∃ a, v = .pointer a ∧ a.isNone = b) := by
  unfold ptrNil at he
  split at he
  · cases he; cases h; exact ⟨_, rfl, rfl⟩
  · cases he; cases h; exact ⟨_, rfl, rfl⟩
  · cases he; cases h; exact ⟨_, rfl, rfl⟩
  · cases he
    cases h with
    | c h => cases h; exact ⟨_, rfl, rfl⟩
  · cases he
def eqF (T : Tab) : List (Nat × TypeId) → List V → List V → Option Bool
  | [], _, _ => some true
  | (off, ty) :: r, xs, ys => match look T ty with
    | some { td := .int _, .. } => match xs[off]?, ys[off]? with
      | some (.c (.sc (.int k1 a))), some (.c (.sc (.int k2 b))) => if k1 = k2 then (match eqF T r xs ys with
        | some q => some (a == b && q)
        | none => none) else none
      | _, _ => none
    | _ => none
def eqB (T : Tab) (t : TypeId) (x y : V) : Option Bool :=
  match x, y with
  | .agg xs, .agg ys => match look T t with
    | some { td := .st fs, .. } => eqF T fs xs ys
    | _ => none
  | .c (.sc (.bool a)), .c (.sc (.bool b)) => match look T t with
    | some { td := .bool, .. } => some (a == b)
    | _ => none
  | _, _ => match look T t with
    | some { td := .ptr, .. } => match ptrNil x, ptrNil y with
      | some true, some b => some b
      | some a, some true => some a
      | _, _ => none
    | _ => none
theorem run_equal_bool {t : TypeId} (hu : P.underlying t = some .bool) (a b : Bool) : (Op.equal t (.bool a) (.bool b)).run P w = .ok (a == b) w := by
  unfold Op.equal
  rw [show Op.maxDepth = 9999 + 1 from rfl]
  unfold Op.equalIn
  simp [run_underlying hu]
theorem run_equal_ptr_l {t e : TypeId} (hu : P.underlying t = some (.pointer e)) (a : Option Addr) : (Op.equal t (.pointer none) (.pointer a)).run P w = .ok a.isNone w := by
  unfold Op.equal
  rw [show Op.maxDepth = 9999 + 1 from rfl]
  unfold Op.equalIn
  cases a <;> simp [run_underlying hu]
theorem run_equal_ptr_r {t e : TypeId} (hu : P.underlying t = some (.pointer e)) (a : Option Addr) : (Op.equal t (.pointer a) (.pointer none)).run P w = .ok a.isNone w := by
  unfold Op.equal
  rw [show Op.maxDepth = 9999 + 1 from rfl]
  unfold Op.equalIn
  cases a <;> simp [run_underlying hu]
theorem getD_get {vs : Array Value} {j : Nat} {n : Nat} (h : n = vs.size) (hj : j < n) : vs[j]? = some (vs.getD j undef) := by
  have : j < vs.size := by omega
  simp [this]
theorem eqF_sound (hT : TOk P T) {xs ys : List V} {vs us : Array Value} (hl : xs.length = vs.size) (hl2 : ys.length = us.size) (h1 : ∀ j x, xs[j]? = some x → VR G w x (vs.getD j undef)) (h2 : ∀ j x, ys[j]? = some x → VR G w x (us.getD j undef)) (d : Nat) :
    ∀ (fields : List Field), (∀ f ∈ fields, (f.name == "_") = false) → ∀ (b : Bool), eqF T (fields.map fun f => (f.offset, f.type)) xs ys = some b → (Op.eqFields (d + 1) vs us fields).run P w = .ok b w
  | [], _, b, he => by
    simp only [List.map_nil, eqF, Option.some.injEq] at he
    subst he
    simp [Op.eqFields]
  | f :: r, hn, b, he => by
    simp only [List.map_cons, eqF] at he
    split at he
    · rename_i hs
      split at he
      · rename_i k1 na k2 nb ha hb
        split at he
        · rename_i hk
          split at he
          · rename_i q hq
            cases he
            have hint := (hT _ _ hs).int rfl
            have hpk : P.plainKey f.type = true := by unfold Program.plainKey; rw [hint]
            have ha' := h1 _ _ ha
            have hb' := h2 _ _ hb
            have ga := getD_get hl ((List.getElem?_eq_some_iff.1 ha).1)
            have gb := getD_get hl2 ((List.getElem?_eq_some_iff.1 hb).1)
            generalize vs.getD f.offset undef = v0 at ha' ga
            generalize us.getD f.offset undef = u0 at hb' gb
            cases ha' with
            | c ha' => cases ha' with
              | sc =>
              cases hb' with
              | c hb' => cases hb' with
                | sc =>
                subst hk
                have hrec := eqF_sound hT hl hl2 h1 h2 d r (fun g hg => hn g (by simp [hg])) q hq
                have hn' : f.name ≠ "_" := by simpa using hn f (by simp)
                rw [Op.eqFields]
                simp only [if_pos hn', Sem.run_bind, run_part_plain w hpk ga, run_part_plain w hpk gb, run_equalIn_int w d f.type _ _ _ _ hint, Result.andThen_ok]
                cases (na == nb)
                · simp
                · simpa using hrec
          · cases he
        · cases he
      · cases he
    · cases he
theorem eqB_sound (hT : TOk P T) {t : TypeId} {x y : V} {v u : Value} {b : Bool} (hx : VR G w x v) (hy : VR G w y u) (he : eqB T t x y = some b) :
    (Op.equal t v u).run P w = .ok b w ∧ ((∃ a c, v = .bool a ∧ u = .bool c) ∨ (∃ a c, v = .pointer a ∧ u = .pointer c) ∨ (∃ a c, v = .agg a ∧ u = .agg c ∧ P.eqGuardType P.depth t = false)) := by
  unfold eqB at he
  split at he
  · cases hx with
    | agg hl ho h1 =>
    cases hy with
    | agg hl2 ho2 h2 =>
    split at he
    · rename_i hs
      obtain ⟨e1, e2, fields, e3, e4⟩ := (hT t _ hs).eq _ rfl
      obtain ⟨fields', e5, e6⟩ := (hT t _ hs).st rfl
      rw [e3] at e5
      cases e5
      rw [← e6] at he
      have hf : P.fieldsOf t = fields := by simp [Program.fieldsOf, e3]
      refine ⟨?_, .inr (.inr ⟨_, _, rfl, rfl, e2⟩)⟩
      unfold Op.equal
      rw [show Op.maxDepth = 9998 + 1 + 1 from rfl, run_equalIn_struct (P := P) w (9998 + 1) t _ _ (by rw [hf]; exact e3) e1, hf]
      exact eqF_sound hT hl hl2 h1 h2 9998 _ e4 b he
    · cases he
  · cases hx with
    | c hx => cases hx with
      | sc =>
      cases hy with
      | c hy => cases hy with
        | sc =>
        split at he
        · rename_i hs
          cases he
          exact ⟨run_equal_bool ((hT t _ hs).bool rfl) _ _, .inl ⟨_, _, rfl, rfl⟩⟩
        · cases he
  · split at he
    · rename_i hs
      obtain ⟨e, hu⟩ := (hT t _ hs).ptr rfl
      split at he
      · rename_i h1 h2
        cases he
        obtain ⟨a1, rfl, e1⟩ := ptrNil_sound hx h1
        obtain ⟨a2, rfl, e2⟩ := ptrNil_sound hy h2
        cases a1 with
        | some a => simp at e1
        | none => exact ⟨by rw [run_equal_ptr_l hu, e2], .inr (.inl ⟨_, _, rfl, rfl⟩)⟩
      · rename_i h1 h2
        cases he
        obtain ⟨a1, rfl, e1⟩ := ptrNil_sound hx h1
        obtain ⟨a2, rfl, e2⟩ := ptrNil_sound hy h2
        cases a2 with
        | some a => simp at e2
        | none => exact ⟨by rw [run_equal_ptr_r hu, e1], .inr (.inl ⟨_, _, rfl, rfl⟩)⟩
      · cases he
    · cases he
def slNil (T : Tab) (t : TypeId) (x y : V) : Option V :=
  match look T t with
  | some { td := .slc _, .. } => match y with
    | .nl => match x with
      | .nl => some (bo true)
      | .sl _ _ _ len _ => if 0 < len then some (bo false) else some .bb
      | .rw _ _ _ _ _ len => if 0 < len then some (bo false) else some .bb
      | .c (.ls es) => if 0 < es.length then some (bo false) else some .bb
      | _ => none
    | _ => none
  | _ => none
theorem slNil_sound (hT : TOk P T) {t : TypeId} {x y z : V} {v u : Value} (hx : VR G w x v) (hy : VR G w y u) (he : slNil T t x y = some z) :
    ∃ ao n c, v = .slice ao n c ∧ u = .slice none 0 0 ∧ (Op.equal t v u).run P w = .ok ao.isNone w ∧ VR G w z (.bool ao.isNone) ∧ (z = .bb ∨ z = bo ao.isNone) := by
  unfold slNil at he
  split at he
  · rename_i hs
    have hu := (hT _ _ hs).slc rfl
    split at he
    · cases hy
      split at he
      · cases he
        cases hx
        exact ⟨_, _, _, rfl, rfl, run_equal_slice_nil w t _ _ _ _ hu, .bo _, .inr rfl⟩
      · split at he
        · rename_i h0
          cases he
          cases hx with
          | sl hl hcl hm h =>
            obtain ⟨b, o, h1, h2, h3, h4⟩ := h (by omega)
            subst h3
            exact ⟨_, _, _, rfl, rfl, run_equal_slice_nil w t _ _ _ _ hu, .bo _, .inr rfl⟩
        · cases he
          cases hx with
          | sl hl hcl hm h => exact ⟨_, _, _, rfl, rfl, run_equal_slice_nil w t _ _ _ _ hu, .bb, .inl rfl⟩
      · split at he
        · rename_i h0
          cases he
          cases hx with
          | rw hl hm h =>
            obtain ⟨b, o, h1, h2, h3⟩ := h (by omega)
            subst h2
            exact ⟨_, _, _, rfl, rfl, run_equal_slice_nil w t _ _ _ _ hu, .bo _, .inr rfl⟩
        · cases he
          cases hx with
          | rw hl hm h => exact ⟨_, _, _, rfl, rfl, run_equal_slice_nil w t _ _ _ _ hu, .bb, .inl rfl⟩
      · split at he
        · rename_i h0
          cases he
          cases hx with
          | c hx => cases hx with
            | ls f hcap hmax hao hs hc hr =>
              have := (hao h0).1
              subst this
              exact ⟨_, _, _, rfl, rfl, run_equal_slice_nil w t _ _ _ _ hu, .bo _, .inr rfl⟩
        · cases he
          cases hx with
          | c hx => cases hx with
            | ls f hcap hmax hao hs hc hr => exact ⟨_, _, _, rfl, rfl, run_equal_slice_nil w t _ _ _ _ hu, .bb, .inl rfl⟩
      · cases he
    · cases he
  · cases he
def pBin (T : Tab) (op : BinOp) (t : TypeId) (x y : V) : Option V :=
  match x, y with
  | .c (.sc (.int k a)), .c (.sc (.int k' b)) => if k = k' then intBin op k a b else none
  | _, _ => match op with
    | .eql => match eqB T t x y with
      | some b => some (bo b)
      | none => slNil T t x y
    | .neq => match eqB T t x y with
      | some b => some (bo (!b))
      | none => none
    | _ => none
theorem bin_sound (hT : TOk P T) {op : BinOp} {t : TypeId} {ox oy : Operand} {x y z : V} {v u : Value} (hx : VR G w x v) (hy : VR G w y u) (he : pBin T op t x y = some z) :
    ∃ r, (do eqGuard op t ox oy v u; binOp op t v u : Sem Value).run P w = .ok r w ∧ VR G w z r := by
  unfold pBin at he
  split at he
  · split at he
    · rename_i hk
      cases hx with
      | c hx => cases hx with
        | sc =>
        cases hy with
        | c hy => cases hy with
          | sc =>
          subst hk
          obtain ⟨r, hr, hv⟩ := intBin_sound (P := P) (G := G) (w := w) (t := t) he
          refine ⟨r, ?_, hv⟩
          cases op <;> simp [eqGuard, hr]
    · cases he
  · split at he
    · split at he
      · rename_i b hb
        cases he
        obtain ⟨hr, h2⟩ := eqB_sound hT hx hy hb
        refine ⟨_, ?_, .bo b⟩
        rcases h2 with ⟨a, c, rfl, rfl⟩ | ⟨a, c, rfl, rfl⟩ | ⟨a, c, rfl, rfl, hg⟩
        · simp [eqGuard, binOp, hr]
        · simp [eqGuard, binOp, hr]
        · simp [eqGuard, binOp, hr, hg]
      · obtain ⟨ao, n, c, rfl, rfl, hr, hv, _⟩ := slNil_sound hT hx hy he
        exact ⟨_, by simp [eqGuard, binOp, hr], hv⟩
    · split at he
      · rename_i b hb
        cases he
        obtain ⟨hr, h2⟩ := eqB_sound hT hx hy hb
        refine ⟨_, ?_, .bo (!b)⟩
        rcases h2 with ⟨a, c, rfl, rfl⟩ | ⟨a, c, rfl, rfl⟩ | ⟨a, c, rfl, rfl, hg⟩
        · simp [eqGuard, binOp, hr]
        · simp [eqGuard, binOp, hr]
        · simp [eqGuard, binOp, hr, hg]
      · cases he
    · cases he
def pUn (op : UnOp) (x : V) : Option V :=
  match op, x with
  | .not, .c (.sc (.bool b)) => some (bo (!b))
  | .neg, .c (.sc (.int k n)) => some (nu k (k.wrap (0 - n)))
  | _, _ => none
theorem un_sound {op : UnOp} {x y : V} {v : Value} (h : VR G w x v) (he : pUn op x = some y) : ∃ u, (Op.unary op v).run P w = .ok u w ∧ VR G w y u := by
  unfold pUn at he
  split at he
  · cases he
    cases h with
    | c h => cases h; exact ⟨_, by simp [Op.unary] <;> rfl, .bo _⟩
  · cases he
    cases h with
    | c h => cases h; exact ⟨_, by simp [Op.unary, Op.intArith] <;> rfl, .nu _ _⟩
  · cases he
def pConv (T : Tab) (src dst : TypeId) (x : V) : Option V :=
  match look T src, look T dst, x with
  | some _, some { td := .int k, .. }, .c (.sc (.int _ n)) => some (nu k (k.wrap n))
  | _, _, _ => none
theorem conv_sound (hT : TOk P T) {src dst : TypeId} {x y : V} {v : Value} (h : VR G w x v) (he : pConv T src dst x = some y) : ∃ u, (convert src dst v).run P w = .ok u w ∧ VR G w y u := by
  unfold pConv at he
  split at he
  · rename_i si n by_ ag k zv k' z h1 h2
    cases he
    obtain ⟨d, hd, _⟩ := (hT _ _ h1).und
    have hu := (hT _ _ h2).int rfl
    cases h with
    | c h => cases h; exact ⟨_, by simp [convert, run_underlying hd, run_underlying hu, Conv.intToInt] <;> rfl, .nu _ _⟩
  · cases he
def pNil (x : V) : Option V :=
  match x with
  | .ptr id k off => some (.ptr id k off)
  | .at cs => some (.at cs)
  | .rp id i j ver k => some (.rp id i j ver k)
  | .fn f cs => some (.fn f cs)
  | _ => none
def pPick (c x y : V) : Option V :=
  match c with
  | .c (.sc (.bool t)) => match t with
    | true => some x
    | false => some y
  | _ => none
theorem pick_sound {c x y z : V} {cv v u : Value} (hc : VR G w c cv) (hx : VR G w x v) (hy : VR G w y u) (he : pPick c x y = some z) : ∃ b, cv = .bool b ∧ VR G w z (if b then v else u) := by
  unfold pPick at he
  split at he
  · cases hc with
    | c hc =>
      cases hc
      split at he
      · cases he; exact ⟨_, rfl, hx⟩
      · cases he; exact ⟨_, rfl, hy⟩
  · cases he
def pExt (x : V) (i : Nat) : Option V :=
  match x with
  | .tup vs => vs[i]?
  | _ => none
theorem ext_sound {x y : V} {i : Nat} {v : Value} (h : VR G w x v) (he : pExt x i = some y) : ∃ u, (Instr.extract v i).run P w = .ok u w ∧ VR G w y u := by
  unfold pExt at he
  split at he
  · cases h with
    | @tup _ vs hl h =>
      have hlt : i < vs.size := by rw [← hl]; exact (List.getElem?_eq_some_iff.1 he).1
      have := h _ _ he
      have e : vs.getD i undef = vs[i] := by simp [hlt]
      rw [e] at this
      exact ⟨vs[i], by simp [Instr.extract, hlt], this⟩
  · cases he
def pLen (T : Tab) (ts : Array TypeId) (x : V) : Option V :=
  match ts.toList with
  | t :: _ => match look T t with
    | some { td := .slc _, .. } => match x with
      | .c (.ls es) => some (nu .i64 (es.length : Int))
      | .ic es => some (nu .i64 (es.length : Int))
      | .nl => some (nu .i64 0)
      | .sl _ _ _ len _ => some (nu .i64 (len : Int))
      | .rw _ _ _ _ _ len => some (nu .i64 (len : Int))
      | _ => none
    | some { td := .arr n _, .. } => some (nu .i64 (n : Int))
    | some { td := .str, .. } => match x with
      | .c (.sc (.string s)) => some (nu .i64 (s.size : Int))
      | _ => none
    | _ => none
  | _ => none
theorem len_sound (hT : TOk P T) {ts : Array TypeId} {ty : TypeId} {x y : V} {v : Value} (h : VR G w x v) (he : pLen T ts x = some y) : ∃ u, (Builtin.len_ ts ty #[v]).run P w = .ok u w ∧ VR G w y u := by
  unfold pLen at he
  split at he
  · rename_i t r ht
    have h0 : ts[0]? = some t := by rw [← Array.getElem?_toList, ht]; rfl
    split at he
    · rename_i hs
      have hu := (hT _ _ hs).slc rfl
      have run : ∀ ao n c, (Builtin.len_ ts ty #[.slice ao n c]).run P w = .ok (.int .i64 (n : Int)) w := fun ao n c => by
        simp [Builtin.len_, h0, run_underlying hu, goInt]
      split at he
      · cases he
        cases h with
        | c h => cases h; exact ⟨_, run _ _ _, .nu _ _⟩
      · cases he; cases h; exact ⟨_, run _ _ _, .nu _ _⟩
      · cases he; cases h; exact ⟨_, run _ _ _, .nu _ _⟩
      · cases he; cases h; exact ⟨_, run _ _ _, .nu _ _⟩
      · cases he; cases h; exact ⟨_, run _ _ _, .nu _ _⟩
      · cases he
    · rename_i hs
      have hu := (hT _ _ hs).arr rfl
      cases he
      exact ⟨_, by simp [Builtin.len_, h0, run_underlying hu, goInt] <;> rfl, .nu _ _⟩
    · rename_i hs
      have hu := (hT _ _ hs).str rfl
      split at he
      · cases he
        cases h with
        | c h => cases h; exact ⟨_, by simp [Builtin.len_, h0, run_underlying hu, goInt] <;> rfl, .nu _ _⟩
      · cases he
    · cases he
  · cases he
def pMM (mx : Bool) (xs : List V) : Option V :=
  match xs with
  | [.c (.sc (.int k a)), .c (.sc (.int _ b))] => some (nu k (match mx with | true => max a b | false => min a b))
  | _ => none
theorem mm_sound {mx : Bool} {ts : Array TypeId} {ty : TypeId} {xs : List V} {vs : Array Value} {y : V} (hl : xs.length = vs.size) (h : ∀ j x, xs[j]? = some x → VR G w x (vs.getD j undef)) (he : pMM mx xs = some y) :
    ∃ u, ((match mx with | true => Builtin.max_ ts ty vs | false => Builtin.min_ ts ty vs) : Sem Value).run P w = .ok u w ∧ VR G w y u := by
  unfold pMM at he
  split at he
  · rename_i k a k' b
    cases he
    have h0 := h 0 _ rfl
    have h1 := h 1 _ rfl
    have e : vs = #[.int k a, .int k' b] := by
      have hs : vs.size = 2 := by rw [← hl]; rfl
      obtain ⟨l⟩ := vs
      match l, hs with
      | [p, q], _ =>
        cases h0 with
        | c h0 => cases h0
                  cases h1 with
                  | c h1 => generalize hq : (#[Value.int k a, q] : Array Value).getD 1 undef = q' at h1
                            cases h1
                            simp at hq
                            rw [hq]
    subst e
    cases mx
    · exact ⟨_, Lib.run_min_ints w ts ty k k' a b, .nu _ _⟩
    · exact ⟨_, Lib.run_max_ints w ts ty k k' a b, .nu _ _⟩
  · cases he
end
end Go.Proofs.YtogfcpaalcebdaaE
/- An engine for walks: struct and array values that are built; all operations that only compute. -/
namespace Go.Proofs.YtogfcpaalcebdaaE
open Go Go.RowKit
set_option linter.unusedVariables false
set_option linter.unusedSimpArgs false

def cellsV : V → Option (List V)
  | .agg cs => some cs
  | .any => none
  | .tup _ => none
  | x => some [x]
structure LR (G : Gh) (w : World) (xs : List V) (vs : Array Value) : Prop where
  len : xs.length = vs.size
  one : ∀ v ∈ vs, v.oneCell' = true
  rel : ∀ j x, xs[j]? = some x → VR G w x (vs.getD j undef)
section
variable {P : Program} {T : Tab} {G : Gh} {w : World}
theorem cells_of_one {v : Value} (h : v.oneCell' = true) : v.cells = #[v] := by cases v <;> first | rfl | cases h
theorem LR.single {x : V} {v : Value} (h : VR G w x v) (h1 : v.oneCell' = true) : LR G w [x] v.cells := by
  rw [cells_of_one h1]
  refine ⟨rfl, fun u hu => ?_, fun j y hj => ?_⟩
  · simp at hu; rw [hu]; exact h1
  · cases j with
    | zero => cases hj; exact h
    | succ j => cases hj
theorem LR.of {x : V} {v : Value} {xs : List V} (h : VR G w x v) (he : cellsV x = some xs) : LR G w xs v.cells := by
  cases x <;> simp only [cellsV] at he <;> cases he
  case agg => cases h with | agg hl h1 h => exact ⟨hl, h1, h⟩
  case c => exact LR.single h (by cases h with | c h => exact h.one)
  all_goals (refine LR.single h ?_; cases h <;> rfl)
def putL (cs : List V) (off : Nat) (xs : List V) : List V := cs.take off ++ (xs ++ cs.drop (off + xs.length))
theorem putL_get {cs xs : List V} {off : Nat} (h : off + xs.length ≤ cs.length) (j : Nat) : (putL cs off xs)[j]? = if off ≤ j ∧ j < off + xs.length then xs[j - off]? else cs[j]? := by
  unfold putL
  have ht : (cs.take off).length = off := by simp; omega
  by_cases h1 : j < off
  · rw [List.getElem?_append_left (by omega), if_neg (by omega), List.getElem?_take, if_pos h1]
  · rw [List.getElem?_append_right (by omega), ht]
    by_cases h2 : j < off + xs.length
    · rw [List.getElem?_append_left (by omega), if_pos ⟨by omega, h2⟩]
    · rw [List.getElem?_append_right (by omega), if_neg (by omega), List.getElem?_drop]
      congr 1
      omega
theorem putL_len {cs xs : List V} {off : Nat} (h : off + xs.length ≤ cs.length) : (putL cs off xs).length = cs.length := by
  unfold putL
  simp
  omega
theorem fold_get (off : Nat) : ∀ (l : List Value) (k : Nat) (cells : Array Value), off + k + l.length ≤ cells.size →
    ((l.zipIdx k).foldl (fun cs (x : Value × Nat) => cs.setIfInBounds (off + x.2) x.1) cells).size = cells.size ∧
    ∀ j, ((l.zipIdx k).foldl (fun cs (x : Value × Nat) => cs.setIfInBounds (off + x.2) x.1) cells)[j]? = if off + k ≤ j ∧ j < off + k + l.length then l[j - (off + k)]? else cells[j]?
  | [], k, cells, _ => by
    refine ⟨rfl, fun j => ?_⟩
    rw [if_neg (by simp)]
    rfl
  | v :: l, k, cells, h => by
    simp only [List.zipIdx_cons, List.foldl_cons]
    simp only [List.length_cons] at h
    obtain ⟨h1, h2⟩ := fold_get off l (k + 1) (cells.setIfInBounds (off + k) v) (by simp; omega)
    refine ⟨by rw [h1]; simp, fun j => ?_⟩
    rw [h2 j]
    simp only [List.length_cons]
    by_cases ha : off + k = j
    · subst ha
      rw [if_neg (by omega), if_pos (by omega), Nat.sub_self, Array.getElem?_setIfInBounds_self_of_lt (by omega)]
      rfl
    · by_cases hb : off + (k + 1) ≤ j ∧ j < off + (k + 1) + l.length
      · rw [if_pos hb, if_pos (by omega)]
        have e : j - (off + k) = (j - (off + (k + 1))) + 1 := by omega
        rw [e, List.getElem?_cons_succ]
      · rw [if_neg hb, if_neg (by omega)]
        rw [Array.getElem?_setIfInBounds_ne ha]
theorem fold_arr (off : Nat) (vs cells : Array Value) (h : off + vs.size ≤ cells.size) :
    (vs.zipIdx.foldl (fun cs (x : Value × Nat) => cs.setIfInBounds (off + x.2) x.1) cells).size = cells.size ∧
    ∀ j, (vs.zipIdx.foldl (fun cs (x : Value × Nat) => cs.setIfInBounds (off + x.2) x.1) cells)[j]? = if off ≤ j ∧ j < off + vs.size then vs[j - off]? else cells[j]? := by
  have hh := fold_get off vs.toList 0 cells (by simpa using h)
  rw [← Array.foldl_toList, Array.toList_zipIdx]
  refine ⟨hh.1, fun j => ?_⟩
  rw [hh.2 j]
  simp
theorem LR.put {cs xs : List V} {cells vs : Array Value} {off : Nat} (h : LR G w cs cells) (hx : LR G w xs vs) (hle : off + xs.length ≤ cs.length) :
    LR G w (putL cs off xs) (vs.zipIdx.foldl (fun cs (x : Value × Nat) => cs.setIfInBounds (off + x.2) x.1) cells) := by
  obtain ⟨h1, h2⟩ := fold_arr off vs cells (by rw [← hx.len, ← h.len]; exact hle)
  refine ⟨by rw [putL_len hle, h1, h.len], fun v hv => ?_, fun j x hj => ?_⟩
  · obtain ⟨j, hj, rfl⟩ := Array.getElem_of_mem hv
    have e := h2 j
    rw [Array.getElem?_eq_getElem hj] at e
    split at e
    · exact hx.one _ (Array.mem_of_getElem? e.symm)
    · exact h.one _ (Array.mem_of_getElem? e.symm)
  · rw [putL_get hle] at hj
    have e : ∀ (A : Array Value) (k : Nat), A.getD k undef = (A[k]?).getD undef := fun A k => by simp
    rw [e, h2 j, ← hx.len]
    split at hj
    · rename_i hc
      rw [if_pos hc, ← e]
      exact hx.rel _ _ hj
    · rename_i hc
      rw [if_neg hc, ← e]
      exact h.rel _ _ hj
def fillV (pl : List (Nat × Nat)) : List V → List (Nat × V) → Option (List V)
  | cs, [] => some cs
  | cs, (i, x) :: r => match pl[i]? with
    | some (off, n) => match cellsV x with
      | some xs => bif Nat.beq xs.length n && Nat.ble (off + n) cs.length then fillV pl (putL cs off xs) r else none
      | none => none
    | none => none
theorem fill_sound {pl : List (Nat × Nat)} {place : Nat → Option (Nat × Nat)} (hp : ∀ i q, pl[i]? = some q → place i = some q) (ρ : Operand → V) (r : Operand → Value) (h : ∀ x, VR G w (ρ x) (r x)) :
    ∀ (ps : List (Nat × Operand)) (cs cs' : List V) (cells : Array Value), LR G w cs cells → fillV pl cs (ps.map fun (i, x) => (i, ρ x)) = some cs' →
      ∃ cells', Instr.fill place cells (ps.map fun (i, x) => (i, r x)) = some cells' ∧ LR G w cs' cells'
  | [], cs, cs', cells, hl, he => by
    simp only [List.map_nil, fillV, Option.some.injEq] at he
    subst he
    exact ⟨cells, rfl, hl⟩
  | (i, x) :: ps, cs, cs', cells, hl, he => by
    simp only [List.map_cons, fillV] at he
    split at he
    · rename_i off n hi
      split at he
      · rename_i xs hx
        cases hb : (Nat.beq xs.length n && Nat.ble (off + n) cs.length) with
        | false => rw [hb] at he; cases he
        | true =>
          rw [hb] at he
          rw [Bool.and_eq_true] at hb
          have b1 := Nat.eq_of_beq_eq_true hb.1
          have b2 := Nat.le_of_ble_eq_true hb.2
          have hxs := LR.of (h x) hx
          have hle : off + xs.length ≤ cs.length := by omega
          obtain ⟨cells', h1, h2⟩ := fill_sound hp ρ r h ps _ _ _ (hl.put hxs hle) he
          refine ⟨cells', ?_, h2⟩
          simp only [List.map_cons, Instr.fill, hp i _ hi]
          rw [if_neg]
          · exact h1
          · rw [← hxs.len, b1, ← hl.len]
            simp
            omega
      · cases he
    · cases he
def placesS (T : Tab) : List (Nat × TypeId) → Option (List (Nat × Nat))
  | [] => some []
  | (o, t) :: r => match look T t with
    | some i => match placesS T r with
      | some l => some ((o, i.n) :: l)
      | none => none
    | none => none
theorem placesS_sound (hT : TOk P T) : ∀ (fields : List Field) (l : List (Nat × Nat)), placesS T (fields.map fun f => (f.offset, f.type)) = some l → fields.mapM (fun f => (P.info? f.type).map fun i => (f.offset, i.size)) = some l
  | [], l, h => by simp only [List.map_nil, placesS, Option.some.injEq] at h; subst h; rfl
  | f :: fs, l, h => by
    simp only [List.map_cons, placesS] at h
    split at h
    · rename_i i hi
      split at h
      · rename_i l' hl
        cases h
        obtain ⟨d, info, _, h1, h2, _⟩ := (hT _ _ hi).ex
        rw [List.mapM_cons, placesS_sound hT fs l' hl, h1]
        simp [h2]
      · cases h
    · cases h
def zerosV (i : TI) : List V := i.zv.cells.toList.map ofCell
theorem zerosV_LR {t : TypeId} {i : TI} (hi : TOk1 P t i) : LR G w (zerosV i) i.zv.cells := by
  refine ⟨by simp [zerosV], fun v hv => one_of_zcell (hi.z v hv), fun j x hj => ?_⟩
  unfold zerosV at hj
  rw [List.getElem?_map] at hj
  cases hc : i.zv.cells.toList[j]? with
  | none => rw [hc] at hj; cases hj
  | some u =>
    rw [hc] at hj
    cases hj
    have : i.zv.cells.getD j undef = u := by rw [← getD_toList, List.getD_eq_getElem?_getD, hc]; rfl
    rw [this]
    exact ofCell_sound u
def rowPl (n s : Nat) : List (Nat × Nat) := (List.range n).map fun i => (i * s, s)
theorem rowPl_get {n s i : Nat} {q : Nat × Nat} (h : (rowPl n s)[i]? = some q) : q = (i * s, s) ∧ i < n := by
  unfold rowPl at h
  rw [List.getElem?_map] at h
  cases hc : (List.range n)[i]? with
  | none => rw [hc] at h; cases h
  | some u =>
    rw [hc] at h
    cases h
    have := List.getElem?_eq_some_iff.1 hc
    obtain ⟨h1, h2⟩ := this
    simp at h1 h2
    subst h2
    exact ⟨rfl, h1⟩
def pBuild (T : Tab) (t : TypeId) (ps : List (Nat × V)) : Option V :=
  match look T t with
  | some i => match i.td with
    | .st fs => match placesS T fs with
      | some pl => match fillV pl (zerosV i) ps with
        | some cs => some (.agg cs)
        | none => none
      | none => none
    | .arr n e => match look T e with
      | some ei => match fillV (rowPl n ei.n) (zerosV i) ps with
        | some cs => some (.agg cs)
        | none => none
      | none => none
    | _ => none
  | none => none
theorem build_sound (hT : TOk P T) {t : TypeId} {ps : Array (Nat × Operand)} {ρ : Operand → V} {r : Operand → Value} (h : ∀ x, VR G w (ρ x) (r x)) {y : V} (he : pBuild T t (ps.toList.map fun (i, x) => (i, ρ x)) = some y) :
    ∃ u, (Instr.build t (ps.map fun (i, x) => (i, r x))).run P w = .ok u w ∧ VR G w y u := by
  have hz : ∀ {cs cells}, LR G w cs cells → VR G w (.agg cs) (.agg cells) := fun h => .agg h.len h.one h.rel
  have key : ∀ cells, P.built t (ps.toList.map fun (i, x) => (i, r x)) = some cells → (Instr.build t (ps.map fun (i, x) => (i, r x))).run P w = .ok (.agg cells) w := fun cells hc =>
    run_build w t _ cells (by rw [Array.toList_map]; exact hc)
  unfold pBuild at he
  split at he
  · rename_i i hi
    have hi' := hT _ _ hi
    obtain ⟨d, info, hu0, hinfo, hsz, hby, hzv, _⟩ := hi'.ex
    split at he
    · rename_i fs hs
      obtain ⟨fields, hu, hm⟩ := hi'.st hs
      split at he
      · rename_i pl hpl
        split at he
        · rename_i cs hcs
          cases he
          rw [← hm] at hpl
          have hmap := placesS_sound hT _ _ hpl
          obtain ⟨cells', h1, h2⟩ := fill_sound (pl := pl) (place := (pl.toArray[·]?)) (fun i q hq => by simpa using hq) ρ r h ps.toList _ _ _ (zerosV_LR hi') hcs
          exact ⟨_, key cells' (by unfold Program.built; simp only [hinfo, hu, hzv, hmap]; exact h1), hz h2⟩
        · cases he
      · cases he
    · rename_i n e hs
      have hu := hi'.arr hs
      split at he
      · rename_i ei hei
        split at he
        · rename_i cs hcs
          cases he
          obtain ⟨_, einfo, _, hei2, hes, _⟩ := (hT _ _ hei).ex
          obtain ⟨cells', h1, h2⟩ := fill_sound (pl := rowPl n ei.n) (place := fun i => some (i * ei.n, ei.n)) (fun i q hq => by rw [(rowPl_get hq).1]) ρ r h ps.toList _ _ _ (zerosV_LR hi') hcs
          exact ⟨_, key cells' (by unfold Program.built; simp only [hinfo, hu, hzv, hei2, hes]; exact h1), hz h2⟩
        · cases he
      · cases he
    · cases he
  · cases he

/-! ### all operations that only compute -/
def optV (ρ : Operand → V) : Option Operand → Option V
  | none => none
  | some x => some (ρ x)
def pCall (T : Tab) (c : Call) (ρ : Operand → V) : Option V :=
  match c.callee with
  | .builtin b => match b with
    | .len => match c.args.toList with
      | [x] => pLen T c.argTypes (ρ x)
      | _ => none
    | .min => pMM false (c.args.toList.map ρ)
    | .max => pMM true (c.args.toList.map ρ)
    | _ => none
  | _ => none
def pure1 (T : Tab) (op : Op) (ρ : Operand → V) : Option V :=
  match op with
  | .move x => some (ρ x)
  | .assign x => some (ρ x)
  | .pick c a b => pPick (ρ c) (ρ a) (ρ b)
  | .build t ps => pBuild T t (ps.toList.map fun (i, x) => (i, ρ x))
  | .nilCheck x => pNil (ρ x)
  | .binOp op t x y _ => pBin T op t (ρ x) (ρ y)
  | .unOp op _ x => pUn op (ρ x)
  | .convert s d x => pConv T s d (ρ x)
  | .makeFunc fn first caps => match fn with
    | .func f => bif Nat.beq first.size 0 then some (.fn f (caps.toList.map ρ)) else none
    | _ => none
  | .slice t x lo hi mx => pSlice T t (ρ x) (optV ρ lo) (optV ρ hi) (optV ρ mx)
  | .fieldAddr s x f => pFieldAddr T s (ρ x) f
  | .field s x f => pField T s (ρ x) f
  | .indexAddr t x i => pIndexAddr T t (ρ x) (ρ i)
  | .index t x i => pIndex T t (ρ x) (ρ i)
  | .extract x i => pExt (ρ x) i
  | .call c => pCall T c ρ
  | _ => none
theorem BV_opt {ρ : Operand → V} {r : Operand → Value} (h : ∀ x, VR G w (ρ x) (r x)) (o : Option Operand) : BV G w (optV ρ o) (o.map r) := by
  cases o with
  | none => trivial
  | some x => exact h x
theorem caps_rel {ρ : Operand → V} {r : Operand → Value} (h : ∀ x, VR G w (ρ x) (r x)) (l : Array Operand) : ∀ j x, (l.toList.map ρ)[j]? = some x → VR G w x ((l.map r).getD j undef) := by
  intro j x hj
  rw [List.getElem?_map] at hj
  cases hc : l.toList[j]? with
  | none => rw [hc] at hj; cases hj
  | some u =>
    rw [hc] at hj
    cases hj
    have e : (l.map r).getD j undef = r u := by
      rw [Array.getD_eq_getD_getElem?, Array.getElem?_map]
      rw [Array.getElem?_toList] at hc
      rw [hc]
      rfl
    rw [e]
    exact h u
theorem run_v {s : Sem Value} {u : Value} {w' : World} (h : s.run P w = .ok u w') : (do pure (.value (← s)) : Sem Next).run P w = .ok (.value u) w' := by
  rw [Sem.run_bind, h]; rfl
theorem pure1_sound (hT : TOk P T) {o : Oper} {ρ : Operand → V} {r : Operand → Value} (h : ∀ x, VR G w (ρ x) (r x)) {y : V} (he : pure1 T o.op ρ = some y) :
    ∃ u, (execOp r o).run P w = .ok (.value u) w ∧ VR G w y u := by
  obtain ⟨dst, op, type, pos, after, guard⟩ := o
  cases op <;> simp only [pure1] at he <;> try (cases he; done)
  case move x => cases he; exact ⟨_, rfl, h x⟩
  case assign x => cases he; exact ⟨_, rfl, h x⟩
  case pick c a b =>
    obtain ⟨t, ht, hv⟩ := pick_sound (h c) (h a) (h b) he
    refine ⟨_, ?_, hv⟩
    simp [execOp, ht, asBool]
  case build t ps =>
    obtain ⟨u, hr, hv⟩ := build_sound hT h he
    exact ⟨u, run_v hr, hv⟩
  case nilCheck x =>
    have hx := h x
    unfold pNil at he
    simp only [execOp]
    generalize r x = v at hx
    split at he
    · rename_i e; rw [e] at hx; cases he; cases hx with | ptr hl => exact ⟨_, rfl, .ptr hl⟩
    · rename_i e; rw [e] at hx; cases he; cases hx with | «at» g hk hc => exact ⟨_, rfl, .at g hk hc⟩
    · rename_i e; rw [e] at hx; cases he; cases hx with | rp hl => exact ⟨_, rfl, .rp hl⟩
    · rename_i e; rw [e] at hx; cases he; cases hx with | fn hl hc => exact ⟨_, rfl, .fn hl hc⟩
    · cases he
  case binOp op t x y ty =>
    obtain ⟨u, hr, hv⟩ := bin_sound hT (ox := x) (oy := y) (h x) (h y) he
    exact ⟨u, run_v hr, hv⟩
  case unOp op t x =>
    obtain ⟨u, hr, hv⟩ := un_sound (h x) he
    exact ⟨u, run_v hr, hv⟩
  case convert s d x =>
    obtain ⟨u, hr, hv⟩ := conv_sound hT (h x) he
    exact ⟨u, run_v hr, hv⟩
  case makeFunc fn first caps =>
    split at he
    · rename_i f'
      cases hb : Nat.beq first.size 0 with
      | false => rw [hb] at he; cases he
      | true =>
        rw [hb] at he
        cases he
        have : first = #[] := Array.eq_empty_of_size_eq_zero (Nat.eq_of_beq_eq_true hb)
        subst this
        exact ⟨.func (.func f') #[] (caps.map r), by simp [execOp, Instr.makeFunc], .fn (by simp) (caps_rel h caps)⟩
    · cases he
  case slice t x lo hi mx =>
    obtain ⟨u, hr, hv⟩ := slice_sound hT (h x) (BV_opt h lo) (BV_opt h hi) (BV_opt h mx) he
    exact ⟨u, run_v hr, hv⟩
  case fieldAddr s x f =>
    obtain ⟨u, hr, hv⟩ := fieldAddr_sound hT (h x) he
    exact ⟨u, run_v hr, hv⟩
  case field s x f =>
    obtain ⟨u, hr, hv⟩ := field_sound hT (h x) he
    exact ⟨u, run_v hr, hv⟩
  case indexAddr t x i =>
    obtain ⟨u, hr, hv⟩ := indexAddr_sound hT (h x) (h i) he
    exact ⟨u, run_v hr, hv⟩
  case index t x i =>
    obtain ⟨u, hr, hv⟩ := index_sound hT (h x) (h i) he
    exact ⟨u, run_v hr, hv⟩
  case extract x i =>
    obtain ⟨u, hr, hv⟩ := ext_sound (h x) he
    exact ⟨u, run_v hr, hv⟩
  case call c =>
    obtain ⟨callee, args, ats⟩ := c
    unfold pCall at he
    dsimp only at he
    split at he
    · split at he
      · split at he
        · rename_i x hx
          obtain ⟨u, hr, hv⟩ := len_sound hT (ty := type) (h x) he
          have ha : args = #[x] := by rw [← Array.toArray_toList (xs := args), hx]
          subst ha
          refine ⟨u, ?_, hv⟩
          simp only [execOp, resolve, Sem.run_bind, Sem.run_pure, Result.andThen_ok, invoke, builtin, List.map_toArray, List.map_cons, List.map_nil]
          rw [hr]
          rfl
        · cases he
      · obtain ⟨u, hr, hv⟩ := mm_sound (P := P) (ts := ats) (ty := type) (vs := args.map r) (by simp) (caps_rel h args) he
        refine ⟨u, ?_, hv⟩
        simp only [execOp, resolve, Sem.run_bind, Sem.run_pure, Result.andThen_ok, invoke, builtin]
        rw [hr]
        rfl
      · obtain ⟨u, hr, hv⟩ := mm_sound (P := P) (ts := ats) (ty := type) (vs := args.map r) (by simp) (caps_rel h args) he
        refine ⟨u, ?_, hv⟩
        simp only [execOp, resolve, Sem.run_bind, Sem.run_pure, Result.andThen_ok, invoke, builtin]
        rw [hr]
        rfl
      · cases he
    · cases he
end
end Go.Proofs.YtogfcpaalcebdaaE
