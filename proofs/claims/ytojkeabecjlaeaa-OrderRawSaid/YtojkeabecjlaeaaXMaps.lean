/- Maps as functions from keys: what a map of the call's own holds, looked up, stored into, counted up. -/
import Derived.MapKept
import Derived.WideKeyRuns
import Derived.ChangeMaps4
import Derived.Lib.LazyBuf
import Derived.Test.YtojkeabecjlaeaaWWords
namespace Go.Proofs.YtojkeabecjlaeaaX
open Go.ChangeMaps Go.MapKept Go.RowKit
set_option linter.unusedVariables false
set_option linter.unusedSimpArgs false
structure KL (P : Program) (kt : TypeId) {κ : Type} (enc : κ → Value) : Prop where
  inj : ∀ {x y : κ}, enc x = enc y → x = y
  check : ∀ (em : Bool) (w : World) (x : κ), (Instr.checkKey em 10000 kt (enc x)).run P w = .ok () w
  find : ∀ (w : World) (x : κ) (es : List MapEntry), (∀ e ∈ es, ∃ y, e.key = enc y) →
    ((Instr.findKey kt (enc x) es).run P w = .ok none w ∧ ∀ e ∈ es, e.key ≠ enc x) ∨ ∃ j e, (Instr.findKey kt (enc x) es).run P w = .ok (some (j, e.val)) w ∧ es[j]? = some e ∧ e.key = enc x
  stays : ∀ (w : World) (x : κ), (Instr.keyThatStays (enc x) (enc x)).run P w = .ok (enc x) w
def IsMap {κ : Type} (enc : κ → Value) (w : World) (b : Nat) (M : κ → Option Value) : Prop :=
  ∃ es clock, w.heap[b]? = some (.map es clock) ∧ Stamped es clock ∧ (∀ e ∈ es.toList, ∃ y, e.key = enc y) ∧ ∀ x v, M x = some v ↔ ∃ e ∈ es.toList, e.key = enc x ∧ e.val = v
def upd {κ : Type} [DecidableEq κ] (M : κ → Option Value) (x : κ) (v : Value) : κ → Option Value := fun y => if y = x then some v else M y
section
variable {κ : Type} {enc : κ → Value} {P : Program} {kt et mt : TypeId} {w : World} {b : Nat} {M : κ → Option Value}
theorem IsMap.move {w1 : World} (h : IsMap enc w b M) (hb : w1.heap[b]? = w.heap[b]?) : IsMap enc w1 b M := by
  obtain ⟨es, cl, h1, h2⟩ := h
  exact ⟨es, cl, hb.trans h1, h2⟩
theorem IsMap.lt (h : IsMap enc w b M) : b < w.heap.size := by
  obtain ⟨es, cl, h1, _⟩ := h
  exact (Array.getElem?_eq_some_iff.1 h1).1
theorem IsMap.below {w1 : World} (h : IsMap enc w b M) (hb : Below w.heap.size w w1) : IsMap enc w1 b M := h.move (hb.block b h.lt)
theorem IsMap.ne (h : IsMap enc w b M) {g : Nat} {cs : Array Value} {t : TypeId} {fr : Nat × Nat} (hg : w.heap[g]? = some (.cells cs t fr)) : b ≠ g := by
  obtain ⟨es, cl, h1, _⟩ := h
  rintro rfl
  rw [hg] at h1
  cases h1
theorem IsMap.far (h : IsMap enc w b M) {p : Addr} (hne : b ≠ p.block) (u : Value) : IsMap enc (w.setCell p u) b M := h.move (Below.heap_setCell w p u b hne)
theorem IsMap.found (K : KL P kt enc) (h : IsMap enc w b M) (x : κ) : ∃ es clock, w.heap[b]? = some (.map es clock) ∧
    (((Instr.findKey kt (enc x) es.toList).run P w = .ok none w ∧ M x = none) ∨ ∃ j e, (Instr.findKey kt (enc x) es.toList).run P w = .ok (some (j, e.val)) w ∧ es[j]? = some e ∧ e.key = enc x ∧ M x = some e.val) := by
  obtain ⟨es, cl, h1, h2, h3, h4⟩ := h
  refine ⟨es, cl, h1, ?_⟩
  rcases K.find w x es.toList h3 with ⟨hr, hn⟩ | ⟨j, e, hr, hj, hk⟩
  · refine .inl ⟨hr, ?_⟩
    cases hM : M x with
    | none => rfl
    | some v =>
      obtain ⟨e, he, hke, _⟩ := (h4 x v).1 hM
      exact absurd hke (hn e he)
  · have hj' : es[j]? = some e := by simpa using hj
    exact .inr ⟨j, e, hr, hj', hk, (h4 x e.val).2 ⟨e, List.mem_of_getElem? hj, hk, rfl⟩⟩
theorem lookup_run (K : KL P kt enc) (hm : P.underlying mt = some (.map kt et)) (z : Value) (hz : ∀ w, (zeroValue et).run P w = .ok z w) (h : IsMap enc w b M) (x : κ) :
    (Instr.lookup mt (.map (some b)) (enc x) false).run P w = .ok ((M x).getD z) w := by
  obtain ⟨es, cl, h1, h2⟩ := h.found K x
  rcases h2 with ⟨hr, hM⟩ | ⟨j, e, hr, hj, hk, hM⟩
  · simp [Instr.lookup, run_underlying hm, MapKept.run_getObj_map h1, K.check, hr, hz, hM, Result.andThen]
  · simp [Instr.lookup, run_underlying hm, MapKept.run_getObj_map h1, K.check, hr, hM, Result.andThen]
theorem lookup_ok_run (K : KL P kt enc) (hm : P.underlying mt = some (.map kt et)) (z : Value) (hz : ∀ w, (zeroValue et).run P w = .ok z w) (h : IsMap enc w b M) (x : κ) :
    (Instr.lookup mt (.map (some b)) (enc x) true).run P w = .ok (.tuple #[(M x).getD z, .bool (M x).isSome]) w := by
  obtain ⟨es, cl, h1, h2⟩ := h.found K x
  rcases h2 with ⟨hr, hM⟩ | ⟨j, e, hr, hj, hk, hM⟩
  · simp [Instr.lookup, run_underlying hm, MapKept.run_getObj_map h1, K.check, hr, hz, hM, Result.andThen]
  · simp [Instr.lookup, run_underlying hm, MapKept.run_getObj_map h1, K.check, hr, hM, Result.andThen]
end
section
variable {κ : Type} [DecidableEq κ] {enc : κ → Value} {P : Program} {kt et mt : TypeId} {w : World} {b : Nat} {M : κ → Option Value}
theorem IsMap.pushed (K : KL P kt enc) {es : Array MapEntry} {cl : Nat} (hs : Stamped es cl) (h3 : ∀ e ∈ es.toList, ∃ y, e.key = enc y) (h4 : ∀ x v, M x = some v ↔ ∃ e ∈ es.toList, e.key = enc x ∧ e.val = v) (x : κ) (hM : M x = none) (v : Value) :
    Stamped (es.push { key := enc x, val := v, born := cl }) (cl + 1) ∧ (∀ e ∈ (es.push { key := enc x, val := v, born := cl }).toList, ∃ y, e.key = enc y) ∧
    ∀ y u, upd M x v y = some u ↔ ∃ e ∈ (es.push { key := enc x, val := v, born := cl }).toList, e.key = enc y ∧ e.val = u := by
  have hn : ∀ e ∈ es.toList, e.key ≠ enc x := fun e he hk => by
    have := (h4 x e.val).2 ⟨e, he, hk, rfl⟩
    rw [hM] at this
    cases this
  refine ⟨stamped_push hs hn, ?_, ?_⟩
  · intro e he
    simp only [Array.toList_push, List.mem_append, List.mem_singleton] at he
    rcases he with he | rfl
    · exact h3 e he
    · exact ⟨x, rfl⟩
  · intro y u
    simp only [Array.toList_push, List.mem_append, List.mem_singleton]
    unfold upd
    by_cases hy : y = x
    · subst hy
      rw [if_pos rfl]
      constructor
      · intro h
        exact ⟨_, .inr rfl, rfl, Option.some.inj h⟩
      · rintro ⟨e, he | rfl, hk, hv⟩
        · exact absurd hk (hn e he)
        · rw [← hv]
    · rw [if_neg hy, h4]
      constructor
      · rintro ⟨e, he, h⟩
        exact ⟨e, .inl he, h⟩
      · rintro ⟨e, he | rfl, hk, hv⟩
        · exact ⟨e, he, hk, hv⟩
        · exact absurd (K.inj hk).symm hy
theorem nodup_at {α β : Type} {f : α → β} {l : List α} (h : (l.map f).Nodup) {i j : Nat} {a c : α} (hi : l[i]? = some a) (hj : l[j]? = some c) (he : f a = f c) : i = j := by
  obtain ⟨hi1, hi2⟩ := List.getElem?_eq_some_iff.1 hi
  obtain ⟨hj1, hj2⟩ := List.getElem?_eq_some_iff.1 hj
  refine (List.getElem_inj (h := h) (h₀ := by simpa using hi1) (h₁ := by simpa using hj1)).1 ?_
  simp only [List.getElem_map, hi2, hj2, he]
theorem IsMap.turned (K : KL P kt enc) {es : Array MapEntry} {cl : Nat} (hs : Stamped es cl) (h3 : ∀ e ∈ es.toList, ∃ y, e.key = enc y) (h4 : ∀ x v, M x = some v ↔ ∃ e ∈ es.toList, e.key = enc x ∧ e.val = v) (x : κ) {j : Nat} {e : MapEntry} (hj : es[j]? = some e) (hk : e.key = enc x) (v : Value)
    (F : MapEntry → MapEntry) (hF : F e = { e with key := enc x, val := v }) (hb : ∀ e', (F e').born = e'.born) :
    Stamped (es.modify j F) cl ∧ (∀ e ∈ (es.modify j F).toList, ∃ y, e.key = enc y) ∧ ∀ y u, upd M x v y = some u ↔ ∃ e ∈ (es.modify j F).toList, e.key = enc y ∧ e.val = u := by
  have hkey : ∀ e', es[j]? = some e' → (F e').key = e'.key := fun e' he' => by
    rw [hj] at he'
    cases he'
    rw [hF]
    exact hk.symm
  have hjl : es.toList[j]? = some e := by simpa using hj
  have hget : ∀ i : Nat, (es.modify j F).toList[i]? = if i = j then (es.toList[i]?).map F else es.toList[i]? := fun i => by
    rw [Array.toList_modify, List.getElem?_modify]
    by_cases hi : j = i
    · subst hi; simp
    · simp [hi, Ne.symm hi]
  have hmem : ∀ e', e' ∈ (es.modify j F).toList ↔ e' = F e ∨ ∃ i, i ≠ j ∧ es.toList[i]? = some e' := fun e' => by
    rw [List.mem_iff_getElem?]
    constructor
    · rintro ⟨i, hi⟩
      rw [hget] at hi
      by_cases hij : i = j
      · subst hij
        rw [if_pos rfl, hjl] at hi
        exact .inl (Option.some.inj hi).symm
      · rw [if_neg hij] at hi
        exact .inr ⟨i, hij, hi⟩
    · rintro (rfl | ⟨i, hij, hi⟩)
      · exact ⟨j, by rw [hget, if_pos rfl, hjl]; rfl⟩
      · exact ⟨i, by rw [hget, if_neg hij]; exact hi⟩
  refine ⟨stamped_modify hs _ _ (fun e' _ => hb e') (fun e' _ he' => hkey e' he'), ?_, ?_⟩
  · intro e' he'
    rcases (hmem e').1 he' with rfl | ⟨i, _, hi⟩
    · exact ⟨x, by rw [hF]⟩
    · exact h3 e' (List.mem_of_getElem? hi)
  · intro y u
    unfold upd
    by_cases hy : y = x
    · subst hy
      rw [if_pos rfl]
      constructor
      · intro h
        exact ⟨F e, (hmem _).2 (.inl rfl), by rw [hF], by rw [hF]; exact Option.some.inj h⟩
      · rintro ⟨e', he', hk', hv'⟩
        rcases (hmem e').1 he' with rfl | ⟨i, hij, hi⟩
        · rw [hF] at hv'
          rw [← hv']
        · exact absurd (nodup_at hs.2.2 hi hjl (hk'.trans hk.symm)) hij
    · rw [if_neg hy, h4]
      constructor
      · rintro ⟨e', he', hk', hv'⟩
        obtain ⟨i, hi⟩ := List.mem_iff_getElem?.1 he'
        have hij : i ≠ j := by
          rintro rfl
          rw [hjl] at hi
          cases hi
          exact hy (K.inj (hk'.symm.trans hk))
        exact ⟨e', (hmem e').2 (.inr ⟨i, hij, hi⟩), hk', hv'⟩
      · rintro ⟨e', he', hk', hv'⟩
        rcases (hmem e').1 he' with rfl | ⟨i, hij, hi⟩
        · rw [hF] at hk'
          exact absurd (K.inj hk').symm hy
        · exact ⟨e', List.mem_of_getElem? hi, hk', hv'⟩
theorem heap_setBlock {w : World} {b : Nat} {o o' : Obj} (h : w.heap[b]? = some o) : (setBlock w b o').heap[b]? = some o' := by
  unfold setBlock
  exact (heap_set h).1
theorem heap_setBlock_ne {w : World} {b k : Nat} {o' : Obj} (h : k ≠ b) : (setBlock w b o').heap[k]? = w.heap[k]? := by
  unfold setBlock
  simp only [Array.getElem?_setIfInBounds]
  rw [if_neg (Ne.symm h)]
theorem setBlock_size {w : World} {b : Nat} {o' : Obj} : (setBlock w b o').heap.size = w.heap.size := by simp [setBlock]
theorem setBlock_below {w W : World} {b : Nat} {o' : Obj} {B : Nat} (h : Below B w W) (hb : B ≤ b) : Below B w (setBlock W b o') :=
  ⟨h.os, h.tape, h.output, by rw [setBlock_size]; exact h.size, fun i hi => by rw [heap_setBlock_ne (by omega)]; exact h.block i hi⟩
theorem mapUpdate_run (K : KL P kt enc) (hm : P.underlying mt = some (.map kt et)) (h : IsMap enc w b M) (x : κ) (v : Value) :
    ∃ o, (Instr.mapUpdate mt (.map (some b)) (enc x) v).run P w = .ok () (setBlock w b o) ∧ ∀ w2 : World, w2.heap[b]? = some o → IsMap enc w2 b (upd M x v) := by
  obtain ⟨es, cl, h1, h2, h3, h4⟩ := h
  rcases K.find w x es.toList h3 with ⟨hr, hn⟩ | ⟨j, e, hr, hj, hk⟩
  · have hM : M x = none := by
      cases hM : M x with
      | none => rfl
      | some u =>
        obtain ⟨e, he, hke, _⟩ := (h4 x u).1 hM
        exact absurd hke (hn e he)
    refine ⟨.map (es.push { key := enc x, val := v, born := cl }) (cl + 1), ?_, fun w2 hw2 => ?_⟩
    · simp [Instr.mapUpdate, run_underlying hm, MapKept.run_getObj_map h1, K.check, hr, MapKept.run_setObj_map _ h1, Result.andThen, setBlock]
    · obtain ⟨q1, q2, q3⟩ := IsMap.pushed K h2 h3 h4 x hM v
      exact ⟨_, _, hw2, q1, q2, q3⟩
  · have hj' : es[j]? = some e := by simpa using hj
    refine ⟨.map (es.modify j fun e => { e with key := enc x, val := v }) cl, ?_, fun w2 hw2 => ?_⟩
    · simp [Instr.mapUpdate, run_underlying hm, MapKept.run_getObj_map h1, K.check, hr, hj', hk, K.stays, MapKept.run_setObj_map _ h1, Result.andThen, setBlock]
    · obtain ⟨q1, q2, q3⟩ := IsMap.turned K h2 h3 h4 x hj' hk v (fun e => { e with key := enc x, val := v }) rfl (fun _ => rfl)
      exact ⟨_, _, hw2, q1, q2, q3⟩
theorem findIdx_born {es : Array MapEntry} {cl : Nat} (hs : Stamped es cl) {j : Nat} {e : MapEntry} (hj : es[j]? = some e) : es.findIdx? (fun x => (x.born : Int) == (e.born : Int)) = some j := by
  have hjl : es.toList[j]? = some e := by simpa using hj
  cases hf : es.findIdx? (fun x => (x.born : Int) == (e.born : Int)) with
  | none =>
    rw [Array.findIdx?_eq_none_iff] at hf
    have := hf e (by rw [← Array.mem_toList_iff]; exact List.mem_of_getElem? hjl)
    simp at this
  | some i =>
    rw [Array.findIdx?_eq_some_iff_getElem] at hf
    obtain ⟨hi, hb, _⟩ := hf
    have hb' : es[i].born = e.born := by have := beq_iff_eq.1 hb; omega
    have hil : es.toList[i]? = some es[i] := by simp [hi]
    rw [nodup_at hs.2.1 hil hjl hb']
theorem entryStore_at (K : KL P kt enc) {es : Array MapEntry} {cl : Nat} (hs : Stamped es cl) (h3 : ∀ e ∈ es.toList, ∃ y, e.key = enc y) {M' : κ → Option Value} (h4 : ∀ x v, M' x = some v ↔ ∃ e ∈ es.toList, e.key = enc x ∧ e.val = v) (x : κ) {j : Nat} {e : MapEntry} (hj : es[j]? = some e) (hk : e.key = enc x) (w2 : World) (hw : w2.heap[b]? = some (.map es cl)) (val : Value) :
    ∃ o2, (Instr.entryStore mt (.map (some b)) (goInt e.born) val).run P w2 = .ok () (setBlock w2 b o2) ∧ ∀ w3 : World, w3.heap[b]? = some o2 → IsMap enc w3 b (upd M' x val) := by
  refine ⟨.map (es.modify j fun e => { e with val := val }) cl, ?_, fun w3 hw3 => ?_⟩
  · have hf := findIdx_born hs hj
    simp [Instr.entryStore, MapKept.run_getObj_map hw, asInt, goInt, asIntOf, hf, MapKept.run_setObj_map _ hw, Result.andThen, setBlock]
  · obtain ⟨q1, q2, q3⟩ := IsMap.turned K hs h3 h4 x hj hk val (fun e => { e with val := val }) (by rw [← hk]) (fun _ => rfl)
    exact ⟨_, _, hw3, q1, q2, q3⟩
theorem upd_upd (x : κ) (u v : Value) : upd (upd M x u) x v = upd M x v := by
  funext y
  unfold upd
  split <;> rfl
theorem mapEntry_run (K : KL P kt enc) (hm : P.underlying mt = some (.map kt et)) (z : Value) (hz : ∀ w, (zeroValue et).run P w = .ok z w) (h : IsMap enc w b M) (x : κ) :
    ∃ o st, (Instr.mapEntry mt (.map (some b)) (enc x)).run P w = .ok (.tuple #[(M x).getD z, goInt st]) (setBlock w b o) ∧
      (∀ w2 : World, w2.heap[b]? = some o → IsMap enc w2 b (upd M x ((M x).getD z))) ∧
      ∀ (w2 : World) (val : Value), w2.heap[b]? = some o → ∃ o2, (Instr.entryStore mt (.map (some b)) (goInt st) val).run P w2 = .ok () (setBlock w2 b o2) ∧ ∀ w3 : World, w3.heap[b]? = some o2 → IsMap enc w3 b (upd M x val) := by
  obtain ⟨es, cl, h1, h2, h3, h4⟩ := h
  rcases K.find w x es.toList h3 with ⟨hr, hn⟩ | ⟨j, e, hr, hj, hk⟩
  · have hM : M x = none := by
      cases hM : M x with
      | none => rfl
      | some u =>
        obtain ⟨e, he, hke, _⟩ := (h4 x u).1 hM
        exact absurd hke (hn e he)
    refine ⟨.map (es.push { key := enc x, val := z, born := cl }) (cl + 1), cl, ?_, fun w2 hw2 => ?_, fun w2 val hw2 => ?_⟩
    · simp [Instr.mapEntry, run_underlying hm, MapKept.run_getObj_map h1, K.check, hr, hz, hM, MapKept.run_setObj_map _ h1, Result.andThen, setBlock]
    · obtain ⟨q1, q2, q3⟩ := IsMap.pushed K h2 h3 h4 x hM z
      rw [hM]
      exact ⟨_, _, hw2, q1, q2, q3⟩
    · obtain ⟨q1, q2, q3⟩ := IsMap.pushed K h2 h3 h4 x hM z
      obtain ⟨o2, ho, hw3⟩ := entryStore_at (mt := mt) (P := P) K q1 q2 q3 x (j := es.size) (e := { key := enc x, val := z, born := cl }) (by simp) rfl w2 hw2 val
      exact ⟨o2, ho, fun w3 h => by rw [← upd_upd (M := M) x z val]; exact hw3 w3 h⟩
  · have hj' : es[j]? = some e := by simpa using hj
    have hM : M x = some e.val := (h4 x e.val).2 ⟨e, List.mem_of_getElem? hj, hk, rfl⟩
    refine ⟨.map (es.modify j fun e => { e with key := enc x }) cl, e.born, ?_, fun w2 hw2 => ?_, fun w2 val hw2 => ?_⟩
    · simp [Instr.mapEntry, run_underlying hm, MapKept.run_getObj_map h1, K.check, hr, hj', hk, K.stays, hM, MapKept.run_setObj_map _ h1, Result.andThen, setBlock]
    · obtain ⟨q1, q2, q3⟩ := IsMap.turned K h2 h3 h4 x hj' hk e.val (fun e => { e with key := enc x }) rfl (fun _ => rfl)
      rw [hM]
      exact ⟨_, _, hw2, q1, q2, q3⟩
    · obtain ⟨q1, q2, q3⟩ := IsMap.turned K h2 h3 h4 x hj' hk e.val (fun e => { e with key := enc x }) rfl (fun _ => rfl)
      obtain ⟨o2, ho, hw3⟩ := entryStore_at (mt := mt) (P := P) K q1 q2 q3 x (j := j) (e := { e with key := enc x }) (by rw [Array.getElem?_modify, hj']; simp) rfl w2 hw2 val
      exact ⟨o2, ho, fun w3 h => by rw [← upd_upd (M := M) x e.val val]; exact hw3 w3 h⟩
end
section
variable {P : Program} {kt : TypeId}
theorem int_kl {q : IntKind} (hk : P.underlying kt = some (.int q)) : KL P kt (fun n : Int => Value.int q n) := by
  refine ⟨fun h => by injection h, fun em w x => MapKept.run_checkKey hk (by simp [IsKey]) em 9999, ?_, fun w x => run_keyThatStays (by simp [IsKey] : IsKey (.int q) _)⟩
  intro w x es hes
  have hks : ∀ y ∈ es, IsKey (.int q) y.key := fun y hy => by
    obtain ⟨n, hn⟩ := hes y hy
    rw [hn]
    simp [IsKey]
  rcases findNow_spec (k := Value.int q x) (by simp [IsKey]) es 0 hks with ⟨h1, h2⟩ | ⟨j, e, h1, h2, h3⟩
  · exact .inl ⟨MapKept.run_findKey hk h1, h2⟩
  · exact .inr ⟨j, e, by simpa using MapKept.run_findKey hk h1, h2, h3⟩
theorem agg_kl {κ : Type} [DecidableEq κ] {enc : κ → Value} (hinj : ∀ {x y : κ}, enc x = enc y → x = y) (hwide : (match P.underlying kt with | some (.array _ _) | some (.struct _) => true | _ => false) = true)
    (hcheck : ∀ (em : Bool) (w : World) (x : κ), (Instr.checkKey em 10000 kt (enc x)).run P w = .ok () w) (heq : ∀ (w : World) (x y : κ), (Op.equal kt (enc x) (enc y)).run P w = .ok (decide (x = y)) w)
    (hsame : ∀ x : κ, Instr.sameBits 10000 (enc x) (enc x) = true) : KL P kt enc := by
  refine ⟨hinj, hcheck, ?_, fun w x => by simp [Instr.keyThatStays, hsame x]⟩
  intro w x es hes
  rw [run_findKey_eq w hwide]
  have key : ∀ (l : List MapEntry) (i : Nat), (∀ e ∈ l, ∃ y, e.key = enc y) → ((Instr.findAsking kt (enc x) l i).run P w = .ok none w ∧ ∀ e ∈ l, e.key ≠ enc x) ∨ ∃ j e, (Instr.findAsking kt (enc x) l i).run P w = .ok (some (i + j, e.val)) w ∧ l[j]? = some e ∧ e.key = enc x := by
    intro l
    induction l with
    | nil => intro i _; exact .inl ⟨by simp [Instr.findAsking], by simp⟩
    | cons e l ih =>
      intro i h
      obtain ⟨y, hy⟩ := h e (by simp)
      by_cases hxy : x = y
      · refine .inr ⟨0, e, ?_, rfl, by rw [hy, hxy]⟩
        simp [Instr.findAsking, hy, heq, hxy, Result.andThen]
      · have hrun : (Instr.findAsking kt (enc x) (e :: l) i).run P w = (Instr.findAsking kt (enc x) l (i + 1)).run P w := by
          simp [Instr.findAsking, hy, heq, hxy, Result.andThen]
        rw [hrun]
        rcases ih (i + 1) (fun e he => h e (by simp [he])) with ⟨h1, h2⟩ | ⟨j, e', h1, h2, h3⟩
        · refine .inl ⟨h1, fun e' he' => ?_⟩
          rcases List.mem_cons.1 he' with rfl | he'
          · rw [hy]; exact fun h => hxy (hinj h).symm
          · exact h2 e' he'
        · exact .inr ⟨j + 1, e', by rw [h1, show i + 1 + j = i + (j + 1) by omega], by simpa using h2, h3⟩
  rcases key es 0 hes with h | ⟨j, e, h1, h2, h3⟩
  · exact .inl h
  · exact .inr ⟨j, e, by simpa using h1, h2, h3⟩
end
end Go.Proofs.YtojkeabecjlaeaaX
