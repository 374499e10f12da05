/- An engine for walks: memory: what stays; loads and stores. -/
import Derived.Test.YtogfcpaalcebdaaCEng4
namespace Go.Proofs.YtogfcpaalcebdaaE
open Go Go.RowKit
set_option linter.unusedVariables false
set_option linter.unusedSimpArgs false

structure Tr (G0 : Gh) (w0 : World) (G : Gh) (w : World) : Prop where
  os : w.os = w0.os
  tape : w.tape = w0.tape
  output : w.output = w0.output
  size : w0.heap.size ≤ w.heap.size
  blk : ∀ b, b < w0.heap.size → (G0.kd b = .no ∨ G0.kd b = .imm) → w.heap[b]? = w0.heap[b]? ∧ G.kd b = G0.kd b
  sz : ∀ b, b < w0.heap.size → G.sz b = G0.sz b
theorem Tr.refl (G : Gh) (w : World) : Tr G w G w := ⟨rfl, rfl, rfl, Nat.le_refl _, fun _ _ _ => ⟨rfl, rfl⟩, fun _ _ => rfl⟩
theorem Tr.trans {G0 G G' : Gh} {w0 w w' : World} (h : Tr G0 w0 G w) (k : Tr G w G' w') : Tr G0 w0 G' w' :=
  ⟨k.os.trans h.os, k.tape.trans h.tape, k.output.trans h.output, Nat.le_trans h.size k.size, fun b hb hk => by
    obtain ⟨h1, h2⟩ := h.blk b hb hk
    obtain ⟨k1, k2⟩ := k.blk b (Nat.lt_of_lt_of_le hb h.size) (by rw [h2]; exact hk)
    exact ⟨k1.trans h1, k2.trans h2⟩, fun b hb => (k.sz b (Nat.lt_of_lt_of_le hb h.size)).trans (h.sz b hb)⟩
structure Adv (G : Gh) (w : World) (G' : Gh) (w' : World) : Prop where
  ext : Ext G w G' w'
  tr : Tr G w G' w'
theorem Adv.refl (G : Gh) (w : World) : Adv G w G w := ⟨.refl _ _, .refl _ _⟩
theorem Adv.trans {G G' G2 : Gh} {w w' w2 : World} (h : Adv G w G' w') (k : Adv G' w' G2 w2) : Adv G w G2 w2 := ⟨h.ext.trans k.ext, h.tr.trans k.tr⟩
def Own (G : Gh) (id b : Nat) : Prop := G.kd b = .ob id ∨ ∃ i j v, G.kd b = .rw id i j v
def live (m : List (Option Ob)) (id : Nat) : Prop := ∃ o, m[id]? = some (some o)
section
variable {P : Program} {T : Tab} {G G' : Gh} {w w' : World} {m : List (Option Ob)}
theorem Blk.mono {id b o n : Nat} {R R' : Nat → Value → Prop} (h : Blk G w id b o n R) (e : Ext G w G' w') (hk : G'.kd b = G.kd b ∧ w'.heap[b]? = w.heap[b]?) (hR : ∀ j v, j < n → R j v → R' j v) : Blk G' w' id b o n R' := by
  obtain ⟨h1, h2, Cs, ty, h3, h4, h5, h6, h7⟩ := h
  obtain ⟨a1, a2, a3⟩ := e.loc _ _ _ h1
  exact ⟨a1, hk.1.trans h2, Cs, ty, hk.2.trans h3, a3.trans h4, h5, h6, fun j hj => hR _ _ hj (h7 j hj)⟩
theorem DR.mono {id i j : Nat} {x : D} {v : Value} (h : DR G w id i j x v) (e : Ext G w G' w') (hk : ∀ b ver, G.kd b = .rw id i j ver → G'.kd b = G.kd b ∧ w'.heap[b]? = w.heap[b]?) (hr : ∀ ver, G.rl id i j ver = none → G'.rl id i j ver = none) : DR G' w' id i j x v := by
  cases x with
  | p x => exact CR.mono h e.imm
  | no => exact h
  | ow r ver =>
    obtain ⟨ao, cap, rfl, h1, h2, h3⟩ := h
    refine ⟨ao, cap, rfl, h1, h2, ?_⟩
    rcases h3 with h3 | ⟨b, o, Cs, ty, a1, a2, a3, a4, a5, a6, a7, a8⟩
    · exact .inl ⟨h3.1, hr _ h3.2⟩
    · obtain ⟨b1, b2⟩ := e.rl _ _ _ _ _ _ a1
      obtain ⟨c1, c2⟩ := hk b _ a3
      exact .inr ⟨b, o, Cs, ty, b1, a2, c1.trans a3, c2.trans a4, b2.trans a5, a6, a7, fun k x hx => (a8 k x hx).mono e.imm⟩
theorem OR.mono {id : Nat} {ob : Ob} (h : OR G w id ob) (e : Ext G w G' w') (hk : ∀ b, Own G id b → G'.kd b = G.kd b ∧ w'.heap[b]? = w.heap[b]?) (hl : G.loc id = none → G'.loc id = none) (hw : G'.wd id = G.wd id) (hrn : ∀ i j ver, G.rl id i j ver = none → G'.rl id i j ver = none) (hs : w.heap.size ≤ w'.heap.size ∧ ∀ b, b < w.heap.size → G'.sz b = G.sz b) : OR G' w' id ob := by
  cases ob with
  | box cs =>
    obtain ⟨b, h⟩ := h
    exact ⟨b, h.mono e (hk b (.inl h.kd)) fun j v _ hv x hx => (hv x hx).mono e⟩
  | arr s es =>
    obtain ⟨h1, h2, h3⟩ := h
    refine ⟨hw.trans h1, h2, ?_⟩
    rcases h3 with ⟨h3, h4⟩ | ⟨b, o, h⟩
    · exact .inl ⟨hl h3, h4⟩
    · exact .inr ⟨b, o, h.mono e (hk b (.inl h.kd)) fun j v _ hv i row j x a1 a2 a3 => (hv i row j x a1 a2 a3).mono e.imm⟩
  | arw s es =>
    obtain ⟨h1, h2, h3⟩ := h
    refine ⟨hw.trans h1, h2, ?_⟩
    rcases h3 with ⟨h3, h4⟩ | ⟨b, o, h⟩
    · exact .inl ⟨hl h3, h4⟩
    · exact .inr ⟨b, o, h.mono e (hk b (.inl h.kd)) fun j v _ hv i row j x a1 a2 a3 => (hv i row j x a1 a2 a3).mono e (fun b ver q => hk b (.inr ⟨_, _, _, q⟩)) (hrn i j)⟩
  | mp l =>
    obtain ⟨b, h1, h2, h3⟩ := h
    exact ⟨b, (e.loc _ _ _ h1).1, (hk b (.inl h2)).1.trans h2, h3.move (hk b (.inl h2)).2⟩
  | abs P =>
    obtain ⟨b, own, h1, h2, h3⟩ := h
    refine ⟨b, own, (e.loc _ _ _ h1).1, fun c hc => (hk c (.inl (h2 c hc))).1.trans (h2 c hc), fun imm sz w2 i1 i2 i3 i4 => h3 imm sz w2 (fun c hc => i1 c (e.imm c hc).1) (fun c hc => (i2 c (by omega)).trans (hs.2 c hc)) (fun c hc => ?_) (Nat.le_trans hs.1 i4)⟩
    rcases hc with hc | hc
    · exact (i3 c (.inl hc)).trans (hk c (.inl (h2 c hc))).2
    · exact (i3 c (.inr (e.imm c hc).1)).trans (e.imm c hc).2
theorem Ok.put (h : Ok G w m) {id : Nat} {ob : Option Ob} (hid : id < m.length) (e : Adv G w G' w') (hk : ∀ b id2, id2 ≠ id → live m id2 → Own G id2 b → G'.kd b = G.kd b ∧ w'.heap[b]? = w.heap[b]?)
    (hl : ∀ id2, id2 ≠ id → G'.loc id2 = G.loc id2 ∧ G'.wd id2 = G.wd id2 ∧ G'.rl id2 = G.rl id2) (hi : ∀ b, G'.kd b = .imm → b < w'.heap.size) (hn : ∀ b, w'.heap.size ≤ b → G'.kd b = .no) (hlt : ∀ id b o, G'.loc id = some (b, o) → b < w'.heap.size) (hrl : ∀ id i j v b o, G'.rl id i j v = some (b, o) → b < w'.heap.size) (hver : ∃ n, ∀ id i j v, n ≤ v → G'.rl id i j v = none) (hfr : G'.loc id = none → ∀ i j v, G'.rl id i j v = none) (ho : ∀ o, ob = some o → OR G' w' id o) : Ok G' w' (m.set id ob) := by
  refine ⟨fun id2 o h2 => ?_, hi, fun id2 h2 => ?_, hn, hlt, hrl, hver, fun id2 h2 => ?_⟩
  · rw [List.getElem?_set] at h2
    by_cases hne : id = id2
    · subst hne
      rw [if_pos rfl, if_pos hid] at h2
      exact ho o (Option.some.inj h2)
    · rw [if_neg hne] at h2
      exact (h.ob id2 o h2).mono e.ext (fun b hb => hk b id2 (Ne.symm hne) ⟨o, h2⟩ hb) (fun q => (hl id2 (Ne.symm hne)).1.trans q) (hl id2 (Ne.symm hne)).2.1 (fun i j ver q => by rw [(hl id2 (Ne.symm hne)).2.2]; exact q) ⟨e.tr.size, e.tr.sz⟩
  · rw [List.length_set] at h2
    rw [(hl id2 (by omega)).1]
    exact h.fresh id2 h2
  · by_cases hne : id2 = id
    · subst hne
      exact hfr h2
    · rw [(hl id2 hne).2.2]
      exact h.frl id2 ((hl id2 hne).1.symm.trans h2)
theorem Ok.kill (h : Ok G w m) (id : Nat) : Ok G w (m.set id none) := by
  by_cases hid : id < m.length
  · exact h.put hid (.refl _ _) (fun _ _ _ _ _ => ⟨rfl, rfl⟩) (fun _ _ => ⟨rfl, rfl, rfl⟩) h.imm h.new h.lt h.rlt h.ver (h.frl _) (fun o q => by cases q)
  · rw [List.set_eq_of_length_le (by omega)]; exact h
theorem Ok.drew (h : Ok G w m) : Ok G w.drew m :=
  ⟨fun id o h2 => (h.ob id o h2).mono (G' := G) (w' := w.drew) ⟨fun _ _ _ q => ⟨q, rfl, rfl⟩, fun _ _ _ _ _ _ q => ⟨q, rfl⟩, fun _ q => ⟨q, rfl⟩⟩ (fun _ _ => ⟨rfl, rfl⟩) (fun q => q) rfl (fun _ _ _ q => q) ⟨Nat.le_refl _, fun _ _ => rfl⟩, h.imm, h.fresh, h.new, h.lt, h.rlt, h.ver, h.frl⟩
theorem Adv.drew (G : Gh) (w : World) : Adv G w G w.drew := ⟨⟨fun _ _ _ q => ⟨q, rfl, rfl⟩, fun _ _ _ _ _ _ q => ⟨q, rfl⟩, fun _ q => ⟨q, rfl⟩⟩, ⟨rfl, rfl, rfl, Nat.le_refl _, fun _ _ _ => ⟨rfl, rfl⟩, fun _ _ => rfl⟩⟩
theorem Adv.setCell {b j : Nat} (hk : G.kd b ≠ .no ∧ G.kd b ≠ .imm) (v : Value) : Adv G w G (w.setCell ⟨b, j, none⟩ v) := by
  refine ⟨⟨fun _ _ _ q => ⟨q, rfl, rfl⟩, fun _ _ _ _ _ _ q => ⟨q, rfl⟩, fun b' q => ⟨q, Below.heap_setCell w _ v b' fun e => ?_⟩⟩, ⟨rfl, rfl, rfl, by simp, fun b' _ q => ⟨Below.heap_setCell w _ v b' fun e => ?_, rfl⟩, fun _ _ => rfl⟩⟩
  · subst e; exact hk.2 q
  · subst e
    rcases q with q | q
    · exact hk.1 q
    · exact hk.2 q

/-! ### loads -/
def obGet (m : List (Option Ob)) (id : Nat) : Option Ob :=
  match m[id]? with
  | some (some o) => some o
  | _ => none
theorem obGet_some {id : Nat} {o : Ob} (h : obGet m id = some o) : m[id]? = some (some o) := by
  unfold obGet at h
  split at h
  · rename_i q; rw [q, h]
  · cases h
def get1 (m : List (Option Ob)) (id k off : Nat) : Option V :=
  match obGet m id with
  | some (.box cs) => match k with
    | 0 => cs[off]?
    | _ + 1 => none
  | some (.arr s es) => match es[k]? with
    | some row => match row[off]? with
      | some x => some (.c x)
      | none => none
    | none => none
  | some (.arw s es) => match es[k]? with
    | some row => match row[off]? with
      | some (.p x) => some (.c x)
      | some (.ow r ver) => some (.rw id k off ver 0 r.length)
      | _ => none
    | none => none
  | _ => none
def getR (m : List (Option Ob)) (id i j ver k : Nat) : Option V :=
  match obGet m id with
  | some (.arw s es) => match es[i]? with
    | some row => match row[j]? with
      | some (.ow r ver') => if ver = ver' then match r[k]? with
        | some x => some (.c x)
        | none => none
        else none
      | _ => none
    | none => none
  | _ => none
def getN (m : List (Option Ob)) (id k off : Nat) : Nat → Option (List V)
  | 0 => some []
  | n + 1 => match get1 m id k off with
    | some x => match getN m id k (off + 1) n with
      | some l => some (x :: l)
      | none => none
    | none => none
theorem Blk.cell {id b o n : Nat} {R : Nat → Value → Prop} (h : Blk G w id b o n R) {j : Nat} (hj : j < n) : ∃ u, w.cell? ⟨b, o + j, none⟩ = some u ∧ u.oneCell' = true ∧ R j u ∧ w.frozen? ⟨b, o + j, none⟩ = false := by
  obtain ⟨h1, h2, Cs, ty, h3, h4, h5, h6, h7⟩ := h
  have hlt : o + j < Cs.size := by omega
  refine ⟨Cs.getD (o + j) undef, ?_, h6 _ (getD_mem hlt), h7 j hj, frozen_of_row w b _ Cs ty h3⟩
  rw [cell_of_row w b _ Cs ty _ h3]
  simp [hlt]
theorem idx_lt {s i j n : Nat} (hj : j < s) (hi : i < n) : i * s + j < n * s := by
  have : (i + 1) * s ≤ n * s := Nat.mul_le_mul_right _ hi
  rw [Nat.add_mul, Nat.one_mul] at this
  omega
theorem idx_inj {s i j i' j' : Nat} (hj : j < s) (hj' : j' < s) (h : i * s + j = i' * s + j') : i = i' ∧ j = j' := by
  have h1 : (i * s + j) / s = i := by rw [Nat.mul_comm, Nat.mul_add_div (by omega), Nat.div_eq_of_lt hj]; omega
  have h2 : (i' * s + j') / s = i' := by rw [Nat.mul_comm, Nat.mul_add_div (by omega), Nat.div_eq_of_lt hj']; omega
  have : i = i' := by rw [← h1, ← h2, h]
  subst this
  exact ⟨rfl, by omega⟩
theorem get1_sound (hok : Ok G w m) {id k off b o : Nat} {x : V} (hl : G.loc id = some (b, o)) (h : get1 m id k off = some x) : ∃ u, w.cell? ⟨b, o + k * G.wd id + off, none⟩ = some u ∧ u.oneCell' = true ∧ VR G w x u := by
  unfold get1 at h
  split at h
  · rename_i cs hg
    obtain ⟨b', hb⟩ := hok.ob id _ (obGet_some hg)
    have e := hb.loc
    rw [hl] at e
    cases e
    split at h
    · obtain ⟨u, h1, h2, h3, _⟩ := hb.cell (j := off) (List.getElem?_eq_some_iff.1 h).1
      exact ⟨u, by simpa using h1, h2, h3 _ h⟩
    · cases h
  · rename_i s es hg
    obtain ⟨hw, hr, h3⟩ := hok.ob id _ (obGet_some hg)
    rcases h3 with ⟨h3, _⟩ | ⟨b', o', hb⟩
    · rw [hl] at h3; cases h3
    have e := hb.loc
    rw [hl] at e
    cases e
    split at h
    · rename_i row hrow
      split at h
      · rename_i y hy
        cases h
        have hj : off < s := by rw [← hr row (List.mem_of_getElem? hrow)]; exact (List.getElem?_eq_some_iff.1 hy).1
        obtain ⟨u, h1, h2, h3, _⟩ := hb.cell (j := k * s + off) (idx_lt hj (List.getElem?_eq_some_iff.1 hrow).1)
        exact ⟨u, by rw [hw, Nat.add_assoc]; exact h1, h2, .c (h3 _ _ _ _ rfl hrow hy)⟩
      · cases h
    · cases h
  · rename_i s es hg
    obtain ⟨hw, hr, h3⟩ := hok.ob id _ (obGet_some hg)
    rcases h3 with ⟨h3, _⟩ | ⟨b', o', hb⟩
    · rw [hl] at h3; cases h3
    have e := hb.loc
    rw [hl] at e
    cases e
    split at h
    · rename_i row hrow
      have hj : off < row.length → off < s := fun q => by rw [← hr row (List.mem_of_getElem? hrow)]; exact q
      split at h
      · rename_i y hy
        cases h
        obtain ⟨u, h1, h2, h3, _⟩ := hb.cell (j := k * s + off) (idx_lt (hj (List.getElem?_eq_some_iff.1 hy).1) (List.getElem?_eq_some_iff.1 hrow).1)
        exact ⟨u, by rw [hw, Nat.add_assoc]; exact h1, h2, .c (h3 _ _ _ _ rfl hrow hy)⟩
      · rename_i r ver hy
        cases h
        obtain ⟨u, h1, h2, h3, _⟩ := hb.cell (j := k * s + off) (idx_lt (hj (List.getElem?_eq_some_iff.1 hy).1) (List.getElem?_eq_some_iff.1 hrow).1)
        refine ⟨u, by rw [hw, Nat.add_assoc]; exact h1, h2, ?_⟩
        obtain ⟨ao, cap, rfl, q1, q2, q3⟩ := h3 _ _ _ _ rfl hrow hy
        refine .rw q1 q2 fun h0 => ?_
        rcases q3 with q3 | ⟨b2, o2, Cs, ty, a1, a2, a3, a4, a5, a6, a7⟩
        · omega
        · exact ⟨b2, o2, a1, a2, by omega⟩
      · cases h
    · cases h
  · cases h
theorem getR_sound (hok : Ok G w m) {id i j ver k b o : Nat} {x : V} (hl : G.rl id i j ver = some (b, o)) (h : getR m id i j ver k = some x) : ∃ u, w.cell? ⟨b, o + k, none⟩ = some u ∧ u.oneCell' = true ∧ VR G w x u := by
  unfold getR at h
  split at h
  · rename_i s es hg
    obtain ⟨hw, hr, h3⟩ := hok.ob id _ (obGet_some hg)
    split at h
    · rename_i row hrow
      split at h
      · rename_i r ver' hy
        split at h
        · rename_i hv
          subst hv
          split at h
          · rename_i y hk
            cases h
            rcases h3 with ⟨_, h3⟩ | ⟨b', o', hb⟩
            · rw [h3] at hrow; cases hrow
            have hj : j < s := by rw [← hr row (List.mem_of_getElem? hrow)]; exact (List.getElem?_eq_some_iff.1 hy).1
            obtain ⟨u, h1, h2, h3, _⟩ := hb.cell (j := i * s + j) (idx_lt hj (List.getElem?_eq_some_iff.1 hrow).1)
            obtain ⟨ao, cap, rfl, q1, q2, q3⟩ := h3 _ _ _ _ rfl hrow hy
            have hklt := (List.getElem?_eq_some_iff.1 hk).1
            rcases q3 with q3 | ⟨b2, o2, Cs, ty, a1, a2, a3, a4, a5, a6, a7, a8⟩
            · omega
            · rw [hl] at a1
              cases a1
              have hlt : o + k < Cs.size := by omega
              refine ⟨Cs.getD (o + k) undef, ?_, a7 _ (getD_mem hlt), .c (a8 _ _ hk)⟩
              rw [cell_of_row w b _ Cs ty _ a4]
              simp [hlt]
          · cases h
        · cases h
      · cases h
    · cases h
  · cases h
def aLoad (T : Tab) (m : List (Option Ob)) (t : TypeId) (x : V) : Option V :=
  match look T t with
  | some i => match i.ag with
    | true => match x with
      | .ptr id k off => match getN m id k off i.n with
        | some l => some (.agg l)
        | none => none
      | .at cs => if i.n ≤ cs.length then some (.agg ((cs.take i.n).map .c)) else none
      | _ => none
    | false => match x with
      | .ptr id k off => get1 m id k off
      | .at cs => match cs with
        | x :: _ => some (.c x)
        | [] => none
      | .rp id i j ver k => getR m id i j ver k
      | _ => none
  | none => none
theorem getN_sound (hok : Ok G w m) {id k b o : Nat} (hl : G.loc id = some (b, o)) : ∀ (n off : Nat) (l : List V), getN m id k off n = some l → l.length = n ∧
    ∃ f : Nat → Value, ∀ j, j < n → w.cell? ⟨b, o + k * G.wd id + off + j, none⟩ = some (f j) ∧ (f j).oneCell' = true ∧ ∀ x, l[j]? = some x → VR G w x (f j)
  | 0, off, l, h => by
    simp only [getN, Option.some.injEq] at h
    subst h
    exact ⟨rfl, fun _ => undef, fun j hj => absurd hj (by omega)⟩
  | n + 1, off, l, h => by
    unfold getN at h
    split at h
    · rename_i x hx
      split at h
      · rename_i l' hl'
        cases h
        obtain ⟨u, h1, h2, h3⟩ := get1_sound hok hl hx
        obtain ⟨e, f, hf⟩ := getN_sound hok hl n (off + 1) l' hl'
        refine ⟨by simp [e], fun j => match j with | 0 => u | j + 1 => f j, fun j hj => ?_⟩
        cases j with
        | zero => exact ⟨h1, h2, fun y hy => by cases hy; exact h3⟩
        | succ j =>
          obtain ⟨a1, a2, a3⟩ := hf j (by omega)
          refine ⟨?_, a2, fun y hy => a3 y (by simpa using hy)⟩
          rw [← a1]
          congr 2
          omega
      · cases h
    · cases h
theorem run_loadAgg {t : TypeId} {i : TI} (hi : TOk1 P t i) (hag : i.ag = true) {b o : Nat} (f : Nat → Value) (h : ∀ j, j < i.n → w.cell? ⟨b, o + j, none⟩ = some (f j)) :
    (Instr.loadAt t (.pointer (some ⟨b, o, none⟩))).run P w = .ok (.agg ((List.range i.n).map f).toArray) w := by
  have hc := run_loadCells (P := P) w ⟨b, o, none⟩ i.n f (fun j hj => by rw [add_mk]; exact h j hj)
  simp [Instr.loadAt, Instr.sureAddr, loadVar, hi.isAgg, hag, hi.size, hc]
theorem run_load1 {t : TypeId} {i : TI} (hi : TOk1 P t i) (hag : i.ag = false) {a : Addr} {u : Value} (h : w.cell? a = some u) :
    (Instr.loadAt t (.pointer (some a))).run P w = .ok u w := by
  simp [Instr.loadAt, Instr.sureAddr, loadVar, hi.isAgg, hag, h]
theorem load_sound (hT : TOk P T) (hok : Ok G w m) {t : TypeId} {x y : V} {v : Value} (h : VR G w x v) (he : aLoad T m t x = some y) : ∃ u, (Instr.loadAt t v).run P w = .ok u w ∧ VR G w y u := by
  have aggR : ∀ (n : Nat) (l : List V) (f : Nat → Value), l.length = n → (∀ j, j < n → (f j).oneCell' = true ∧ ∀ x, l[j]? = some x → VR G w x (f j)) → VR G w (.agg l) (.agg ((List.range n).map f).toArray) := fun n l f hl hf => by
    refine .agg (by simp [hl]) (fun v hv => ?_) fun j x hj => ?_
    · simp at hv
      obtain ⟨j, hj, rfl⟩ := hv
      exact (hf j hj).1
    · have hlt : j < n := by rw [← hl]; exact (List.getElem?_eq_some_iff.1 hj).1
      have : ((List.range n).map f).toArray.getD j undef = f j := by simp [hlt]
      rw [this]
      exact (hf j hlt).2 x hj
  unfold aLoad at he
  split at he
  · rename_i i hi
    have hi := hT _ _ hi
    split at he
    · rename_i hag
      split at he
      · split at he
        · rename_i l hl
          cases he
          cases h with
          | ptr h =>
            obtain ⟨e, f, hf⟩ := getN_sound hok h _ _ _ hl
            exact ⟨_, run_loadAgg hi hag f fun j hj => (hf j hj).1, aggR _ _ _ e fun j hj => (hf j hj).2⟩
        · cases he
      · split at he
        · rename_i hn
          cases he
          cases h with
          | «at» g hk hc =>
            have hget : ∀ j, j < i.n → ∃ x, _ := fun j hj => (⟨_, List.getElem?_eq_getElem (Nat.lt_of_lt_of_le hj hn)⟩ : ∃ x, _ = some x)
            refine ⟨_, run_loadAgg hi hag g fun j hj => ?_, aggR _ _ _ (by simp; omega) fun j hj => ?_⟩
            · obtain ⟨x, hx⟩ := hget j hj
              exact (hc j x hx).1
            · obtain ⟨x, hx⟩ := hget j hj
              refine ⟨(hc j x hx).2.one, fun y hy => ?_⟩
              rw [List.getElem?_map, List.getElem?_take, if_pos hj, hx] at hy
              cases hy
              exact .c (hc j x hx).2
        · cases he
      · cases he
    · rename_i hag
      split at he
      · cases h with
        | ptr h =>
          obtain ⟨u, h1, h2, h3⟩ := get1_sound hok h he
          exact ⟨u, run_load1 hi hag h1, h3⟩
      · split at he
        · cases he
          cases h with
          | «at» g hk hc =>
            obtain ⟨h1, h2⟩ := hc 0 _ rfl
            exact ⟨_, run_load1 hi hag (by simpa using h1), .c h2⟩
        · cases he
      · cases h with
        | rp h =>
          obtain ⟨u, h1, h2, h3⟩ := getR_sound hok h he
          exact ⟨u, run_load1 hi hag h1, h3⟩
      · cases he
  · cases he
end
end Go.Proofs.YtogfcpaalcebdaaE
/- An engine for walks: stores; new objects; what stops changing. -/
namespace Go.Proofs.YtogfcpaalcebdaaE
open Go Go.RowKit
set_option linter.unusedVariables false
set_option linter.unusedSimpArgs false
section
variable {P : Program} {T : Tab} {G G' : Gh} {w w' : World} {m m' : List (Option Ob)}
def toC : V → Option C
  | .c x => some x
  | .nl => some (.ls [])
  | .ic es => some (.ls es)
  | _ => none
theorem toC_sound {x : V} {v : Value} {y : C} (h : VR G w x v) (he : toC x = some y) : CR G.kd w y v := by
  cases x <;> simp only [toC] at he <;> cases he
  · cases h with | c h => exact h
  · cases h with | nl => exact .ls (es := []) (s := 0) (b := 0) (o := 0) (fun _ _ => undef) (Nat.le_refl _) (Nat.zero_le _) (fun q => absurd q (by simp)) (fun _ q => absurd q (by simp)) (fun i row j x q => by simp at q) (fun i row j x q => by simp at q)
  · cases h with | ic h => exact h
def store1 (m : List (Option Ob)) (id k off : Nat) (x : V) : Option (List (Option Ob)) :=
  match obGet m id with
  | some (.box cs) => match k with
    | 0 => bif Nat.blt off cs.length then some (m.set id (some (.box (cs.set off x)))) else none
    | _ + 1 => none
  | some (.arr s es) => match toC x with
    | some y => match es[k]? with
      | some row => bif Nat.blt off row.length then some (m.set id (some (.arr s (es.set k (row.set off y))))) else none
      | none => none
    | none => none
  | some (.arw s es) => match toC x with
    | some y => match es[k]? with
      | some row => bif Nat.blt off row.length then some (m.set id (some (.arw s (es.set k (row.set off (.p y)))))) else none
      | none => none
    | none => none
  | _ => none
theorem blt_eq {a b : Nat} {α : Type} {x : α} {y : Option α} (h : (bif Nat.blt a b then y else none) = some x) : a < b ∧ y = some x := by
  cases hb : Nat.blt a b with
  | false => rw [hb] at h; cases h
  | true => rw [hb] at h; exact ⟨Nat.le_of_ble_eq_true hb, h⟩
theorem Blk.store {id b o n : Nat} {R R' : Nat → Value → Prop} (h : Blk G w id b o n R) {j : Nat} (hj : j < n) {v : Value} (hv : v.oneCell' = true) (hR : R' j v) (hR2 : ∀ k u, k < n → k ≠ j → R k u → R' k u) : Blk G (w.setCell ⟨b, o + j, none⟩ v) id b o n R' := by
  obtain ⟨h1, h2, Cs, ty, h3, h4, h5, h6, h7⟩ := h
  refine ⟨h1, h2, Cs.setIfInBounds (o + j) v, ty, heap_setCell_same w b (o + j) Cs ty v h3, by simpa using h4, by simpa using h5, fun u hu => ?_, fun k hk => ?_⟩
  · obtain ⟨q, hq, rfl⟩ := Array.getElem_of_mem hu
    rw [Array.getElem_setIfInBounds (by simpa using hq)]
    split
    · exact hv
    · exact h6 _ (Array.getElem_mem (by simpa using hq))
  · by_cases e : k = j
    · subst e
      have : (Cs.setIfInBounds (o + k) v).getD (o + k) undef = v := by
        have : o + k < Cs.size := by omega
        simp [this]
      rw [this]
      exact hR
    · have : (Cs.setIfInBounds (o + j) v).getD (o + k) undef = Cs.getD (o + k) undef := by
        simp only [Array.getD_eq_getD_getElem?]
        rw [Array.getElem?_setIfInBounds_ne (by omega)]
      rw [this]
      exact hR2 k _ hk e (h7 k hk)
theorem Blk.own {id b o n : Nat} {R : Nat → Value → Prop} (h : Blk G w id b o n R) : G.kd b ≠ .no ∧ G.kd b ≠ .imm := by rw [h.kd]; exact ⟨by simp, by simp⟩
theorem Ok.setOb (hok : Ok G w m) {id b o n : Nat} {R : Nat → Value → Prop} (h : Blk G w id b o n R) (hid : id < m.length) {j : Nat} {v : Value} {ob : Ob} (ho : OR G (w.setCell ⟨b, j, none⟩ v) id ob) : Ok G (w.setCell ⟨b, j, none⟩ v) (m.set id (some ob)) := by
  have hadv := Adv.setCell (w := w) (j := j) h.own v
  refine hok.put hid hadv (fun b2 id2 hne hl hown => ⟨rfl, Below.heap_setCell w _ v b2 fun e => ?_⟩) (fun _ _ => ⟨rfl, rfl, rfl⟩) (fun b hb => by simp; exact hok.imm b hb) (fun b hb => hok.new b (by simpa using hb)) (fun i b o q => by simp; exact hok.lt i b o q) (fun i j k v b o q => by simp; exact hok.rlt i j k v b o q) hok.ver (hok.frl _) (fun o' q => by cases q; exact ho)
  subst e
  rcases hown with q | ⟨_, _, _, q⟩
  · rw [h.kd] at q; cases q; exact hne rfl
  · rw [h.kd] at q; cases q
theorem live_lt {id : Nat} {o : Ob} (h : m[id]? = some (some o)) : id < m.length := (List.getElem?_eq_some_iff.1 h).1
theorem row_set {α : Type} {es : List (List α)} {k off : Nat} {row : List α} {y : α} {s : Nat} (h : ∀ r ∈ es, r.length = s) (hrow : es[k]? = some row) : ∀ r ∈ es.set k (row.set off y), r.length = s := by
  intro r hr
  rcases List.mem_or_eq_of_mem_set hr with hr | rfl
  · exact h r hr
  · rw [List.length_set]; exact h row (List.mem_of_getElem? hrow)
theorem set_get {α : Type} {es : List (List α)} {k off i j : Nat} {row r : List α} {x y : α} (hrow : es[k]? = some row) (hne : ¬ (i = k ∧ j = off)) (h1 : (es.set k (row.set off y))[i]? = some r) (h2 : r[j]? = some x) : ∃ r', es[i]? = some r' ∧ r'[j]? = some x := by
  rw [List.getElem?_set] at h1
  split at h1
  · rename_i e
    subst e
    rw [if_pos (List.getElem?_eq_some_iff.1 hrow).1] at h1
    cases h1
    rw [List.getElem?_set, if_neg (fun e => hne ⟨rfl, e.symm⟩)] at h2
    exact ⟨row, hrow, h2⟩
  · exact ⟨r, h1, h2⟩
theorem set_same {α : Type} {es : List (List α)} {k off : Nat} {row r : List α} {x y : α} (hrow : es[k]? = some row) (h1 : (es.set k (row.set off y))[k]? = some r) (h2 : r[off]? = some x) : x = y := by
  rw [List.getElem?_set, if_pos rfl, if_pos (List.getElem?_eq_some_iff.1 hrow).1] at h1
  cases h1
  rw [List.getElem?_set, if_pos rfl] at h2
  split at h2
  · cases h2; rfl
  · cases h2
theorem store1_sound (hok : Ok G w m) {id k off b o : Nat} {x : V} {v : Value} (hl : G.loc id = some (b, o)) (hx : VR G w x v) (hv : v.oneCell' = true) (h : store1 m id k off x = some m') :
    (∃ u, w.cell? ⟨b, o + k * G.wd id + off, none⟩ = some u) ∧ w.frozen? ⟨b, o + k * G.wd id + off, none⟩ = false ∧ Ok G (w.setCell ⟨b, o + k * G.wd id + off, none⟩ v) m' ∧ Adv G w G (w.setCell ⟨b, o + k * G.wd id + off, none⟩ v) := by
  unfold store1 at h
  split at h
  · rename_i cs hg
    have hm := obGet_some hg
    obtain ⟨b', hb⟩ := hok.ob id _ hm
    have e := hb.loc
    rw [hl] at e
    cases e
    split at h
    · obtain ⟨hlt, h⟩ := blt_eq h
      cases h
      obtain ⟨u, h1, h2, h3, h4⟩ := hb.cell (j := off) hlt
      rw [Nat.zero_mul, Nat.add_zero]
      have hadv := Adv.setCell (w := w) (j := 0 + off) hb.own v
      refine ⟨⟨u, h1⟩, h4, hok.setOb hb (live_lt hm) ⟨b, ?_⟩, hadv⟩
      have := hb.store (R' := fun j v' => ∀ y, (cs.set off x)[j]? = some y → VR G (w.setCell ⟨b, 0 + off, none⟩ v) y v') hlt hv (fun y hy => ?_) (fun j u hj hne hu y hy => ?_)
      · rw [← List.length_set (i := off) (a := x)] at this
        exact this
      · rw [List.getElem?_set, if_pos rfl, if_pos hlt] at hy
        cases hy
        exact hx.mono hadv.ext
      · rw [List.getElem?_set, if_neg (Ne.symm hne)] at hy
        exact (hu y hy).mono hadv.ext
    · cases h
  · rename_i s es hg
    have hm := obGet_some hg
    obtain ⟨hw, hr, h3⟩ := hok.ob id _ hm
    rcases h3 with ⟨h3, _⟩ | ⟨b', o', hb⟩
    · rw [hl] at h3; cases h3
    have e := hb.loc
    rw [hl] at e
    cases e
    split at h
    · rename_i y hy
      split at h
      · rename_i row hrow
        obtain ⟨hlt, h⟩ := blt_eq h
        cases h
        have hklt := (List.getElem?_eq_some_iff.1 hrow).1
        have hoff : off < s := by rw [← hr row (List.mem_of_getElem? hrow)]; exact hlt
        have hj := idx_lt hoff hklt
        obtain ⟨u, h1, h2, h3, h4⟩ := hb.cell (j := k * s + off) hj
        rw [hw, Nat.add_assoc]
        have hadv := Adv.setCell (w := w) (j := o + (k * s + off)) hb.own v
        refine ⟨⟨u, h1⟩, h4, hok.setOb hb (live_lt hm) ⟨hw, row_set hr hrow, .inr ⟨b, o, ?_⟩⟩, hadv⟩
        rw [List.length_set]
        refine hb.store hj hv (fun i r j x' e1 e2 e3 => ?_) (fun n u hn hne hu i r j x' e1 e2 e3 => ?_)
        · have hj' : j < s := by rw [← row_set hr hrow r (List.mem_of_getElem? e2)]; exact (List.getElem?_eq_some_iff.1 e3).1
          obtain ⟨rfl, rfl⟩ := idx_inj hoff hj' e1
          rw [set_same hrow e2 e3]
          exact (toC_sound hx hy).mono hadv.ext.imm
        · obtain ⟨r', a1, a2⟩ := set_get hrow (fun q => hne (by rw [e1, q.1, q.2])) e2 e3
          exact (hu i r' j x' e1 a1 a2).mono hadv.ext.imm
      · cases h
    · cases h
  · rename_i s es hg
    have hm := obGet_some hg
    obtain ⟨hw, hr, h3⟩ := hok.ob id _ hm
    rcases h3 with ⟨h3, _⟩ | ⟨b', o', hb⟩
    · rw [hl] at h3; cases h3
    have e := hb.loc
    rw [hl] at e
    cases e
    split at h
    · rename_i y hy
      split at h
      · rename_i row hrow
        obtain ⟨hlt, h⟩ := blt_eq h
        cases h
        have hklt := (List.getElem?_eq_some_iff.1 hrow).1
        have hoff : off < s := by rw [← hr row (List.mem_of_getElem? hrow)]; exact hlt
        have hj := idx_lt hoff hklt
        obtain ⟨u, h1, h2, h3, h4⟩ := hb.cell (j := k * s + off) hj
        rw [hw, Nat.add_assoc]
        have hadv := Adv.setCell (w := w) (j := o + (k * s + off)) hb.own v
        refine ⟨⟨u, h1⟩, h4, hok.setOb hb (live_lt hm) ⟨hw, row_set hr hrow, .inr ⟨b, o, ?_⟩⟩, hadv⟩
        rw [List.length_set]
        refine hb.store hj hv (fun i r j x' e1 e2 e3 => ?_) (fun n u hn hne hu i r j x' e1 e2 e3 => ?_)
        · have hj' : j < s := by rw [← row_set hr hrow r (List.mem_of_getElem? e2)]; exact (List.getElem?_eq_some_iff.1 e3).1
          obtain ⟨rfl, rfl⟩ := idx_inj hoff hj' e1
          rw [set_same hrow e2 e3]
          exact (toC_sound hx hy).mono hadv.ext.imm
        · obtain ⟨r', a1, a2⟩ := set_get hrow (fun q => hne (by rw [e1, q.1, q.2])) e2 e3
          refine (hu i r' j x' e1 a1 a2).mono hadv.ext (fun b2 ver hown => ⟨rfl, Below.heap_setCell w _ v b2 fun e => ?_⟩) (fun _ q => q)
          subst e
          have := hb.kd
          rw [hown] at this
          cases this
      · cases h
    · cases h
  · cases h
def storeN (m : List (Option Ob)) (id k off : Nat) : List V → Option (List (Option Ob))
  | [] => some m
  | x :: r => match store1 m id k off x with
    | some m' => storeN m' id k (off + 1) r
    | none => none
theorem storeN_sound {id k b o : Nat} (hl : G.loc id = some (b, o)) : ∀ (xs : List V) (vs : List Value) (off i : Nat) (w : World) (m m' : List (Option Ob)), Ok G w m → xs.length = vs.length → (∀ (j : Nat) (x : V) (v : Value), xs[j]? = some x → vs[j]? = some v → VR G w x v ∧ v.oneCell' = true) → storeN m id k (off + i) xs = some m' →
    ∃ w', (storeCells ⟨b, o + k * G.wd id + off, none⟩ vs i).run P w = .ok () w' ∧ Ok G w' m' ∧ Adv G w G w'
  | [], vs, off, i, w, m, m', hok, hlen, hx, h => by
    cases h
    cases vs with
    | nil => exact ⟨w, rfl, hok, .refl _ _⟩
    | cons v vs => cases hlen
  | x :: xs, vs, off, i, w, m, m', hok, hlen, hx, h => by
    cases vs with
    | nil => cases hlen
    | cons v vs =>
      unfold storeN at h
      split at h
      · rename_i m1 h1
        obtain ⟨hv, ho⟩ := hx 0 x v rfl rfl
        obtain ⟨⟨u, a1⟩, a2, a3, a4⟩ := store1_sound hok hl hv ho h1
        obtain ⟨w', b1, b2, b3⟩ := storeN_sound hl xs vs off (i + 1) _ m1 m' a3 (by simpa using hlen) (fun j x v e1 e2 => ⟨(hx (j + 1) x v e1 e2).1.mono a4.ext, (hx (j + 1) x v e1 e2).2⟩) h
        refine ⟨w', ?_, b2, a4.trans b3⟩
        have e : (⟨b, o + k * G.wd id + off, none⟩ : Addr).add i = ⟨b, o + k * G.wd id + (off + i), none⟩ := by rw [add_mk, Nat.add_assoc]
        have hs : (store ((⟨b, o + k * G.wd id + off, none⟩ : Addr).add i) v).run P w = .ok () (w.setCell ⟨b, o + k * G.wd id + (off + i), none⟩ v) := by
          rw [e, run_store P w _ v _ ho, a1, a2]
          rfl
        simp only [storeCells, Sem.run_bind, hs, Result.andThen_ok, b1]
      · cases h
def storeR (m : List (Option Ob)) (id i j ver k : Nat) (x : V) : Option (List (Option Ob)) :=
  match obGet m id with
  | some (.arw s es) => match es[i]? with
    | some row => match row[j]? with
      | some (.ow r ver') => match toC x with
        | some y => if ver = ver' ∧ k < r.length then some (m.set id (some (.arw s (es.set i (row.set j (.ow (r.set k y) ver)))))) else none
        | none => none
      | _ => none
    | none => none
  | _ => none
theorem storeR_sound (hok : Ok G w m) {id i j ver k b o : Nat} {x : V} {v : Value} (hl : G.rl id i j ver = some (b, o)) (hx : VR G w x v) (hv : v.oneCell' = true) (h : storeR m id i j ver k x = some m') :
    (∃ u, w.cell? ⟨b, o + k, none⟩ = some u) ∧ w.frozen? ⟨b, o + k, none⟩ = false ∧ Ok G (w.setCell ⟨b, o + k, none⟩ v) m' ∧ Adv G w G (w.setCell ⟨b, o + k, none⟩ v) := by
  unfold storeR at h
  split at h
  · rename_i s es hg
    have hm := obGet_some hg
    obtain ⟨hw, hr, h3⟩ := hok.ob id _ hm
    split at h
    · rename_i row hrow
      split at h
      · rename_i r ver' hy
        split at h
        · rename_i y hc
          split at h
          · rename_i hcond
            cases h
            obtain ⟨rfl, hk⟩ := hcond
            rcases h3 with ⟨_, h3⟩ | ⟨b', o', hb⟩
            · rw [h3] at hrow; cases hrow
            have hj : j < s := by rw [← hr row (List.mem_of_getElem? hrow)]; exact (List.getElem?_eq_some_iff.1 hy).1
            have hi := (List.getElem?_eq_some_iff.1 hrow).1
            obtain ⟨u0, c1, c2, c3, c4⟩ := hb.cell (j := i * s + j) (idx_lt hj hi)
            obtain ⟨ao, cap, rfl, q1, q2, q3⟩ := c3 _ _ _ _ rfl hrow hy
            rcases q3 with q3 | ⟨b2, o2, Cs, ty, a1, a2, a3, a4, a5, a6, a7, a8⟩
            · omega
            rw [hl] at a1
            cases a1
            have hlt : o + k < Cs.size := by omega
            have hown : G.kd b ≠ .no ∧ G.kd b ≠ .imm := by rw [a3]; exact ⟨by simp, by simp⟩
            have hadv := Adv.setCell (w := w) (j := o + k) hown v
            have hbb : b ≠ b' := by rintro rfl; rw [hb.kd] at a3; cases a3
            refine ⟨⟨Cs.getD (o + k) undef, by rw [cell_of_row w b _ Cs ty _ a4]; simp [hlt]⟩, frozen_of_row w b _ Cs ty a4, ?_, hadv⟩
            refine hok.put (live_lt hm) hadv (fun b3 id2 hne hl2 hown2 => ⟨rfl, Below.heap_setCell w _ v b3 fun e => ?_⟩) (fun _ _ => ⟨rfl, rfl, rfl⟩) (fun b hb => by simp; exact hok.imm b hb) (fun b hb => hok.new b (by simpa using hb)) (fun i b o q => by simp; exact hok.lt i b o q) (fun i j k v b o q => by simp; exact hok.rlt i j k v b o q) hok.ver (hok.frl _) (fun o' q => ?_)
            · subst e
              rcases hown2 with q | ⟨_, _, _, q⟩
              · rw [a3] at q; cases q
              · rw [a3] at q; cases q; exact hne rfl
            · cases q
              refine ⟨hw, row_set hr hrow, .inr ⟨b', o', ?_⟩⟩
              rw [List.length_set]
              refine hb.mono hadv.ext ⟨rfl, Below.heap_setCell w _ v b' (Ne.symm hbb)⟩ fun n u hn hu i' r' j' x' e1 e2 e3 => ?_
              by_cases hij : i' = i ∧ j' = j
              · obtain ⟨rfl, rfl⟩ := hij
                rw [set_same hrow e2 e3]
                have hD := hu _ _ _ _ e1 hrow hy
                obtain ⟨ao, cap', rfl, p1, p2, p3⟩ := hD
                refine ⟨ao, cap', by rw [List.length_set], by rw [List.length_set]; exact p1, p2, ?_⟩
                rcases p3 with p3 | ⟨b3, o3, Cs3, ty3, d1, d2, d3, d4, d5, d6, d7, d8⟩
                · exact .inl p3
                · rw [hl] at d1
                  cases d1
                  rw [a4] at d4
                  cases d4
                  refine .inr ⟨b, o, Cs.setIfInBounds (o + k) v, ty, hl, d2, d3, heap_setCell_same w b (o + k) Cs ty v a4, by simpa using d5, by simpa using d6, fun u hu => ?_, fun k' x hx' => ?_⟩
                  · obtain ⟨q, hq, rfl⟩ := Array.getElem_of_mem hu
                    rw [Array.getElem_setIfInBounds (by simpa using hq)]
                    split
                    · exact hv
                    · exact d7 _ (Array.getElem_mem (by simpa using hq))
                  · rw [List.getElem?_set] at hx'
                    split at hx'
                    · rename_i e
                      subst e
                      cases hx'
                      have : (Cs.setIfInBounds (o + k) v).getD (o + k) undef = v := by simp [hlt]
                      rw [this]
                      exact (toC_sound hx hc).mono hadv.ext.imm
                    · rename_i e
                      have : (Cs.setIfInBounds (o + k) v).getD (o + k') undef = Cs.getD (o + k') undef := by
                        simp only [Array.getD_eq_getD_getElem?]
                        rw [Array.getElem?_setIfInBounds_ne (by omega)]
                      rw [this]
                      exact (d8 _ _ hx').mono hadv.ext.imm
              · obtain ⟨r2, p1, p2⟩ := set_get hrow hij e2 e3
                refine (hu _ _ _ _ e1 p1 p2).mono hadv.ext (fun b3 ver3 hown3 => ⟨rfl, Below.heap_setCell w _ v b3 fun e => ?_⟩) (fun _ q => q)
                subst e
                rw [a3] at hown3
                cases hown3
                exact hij ⟨rfl, rfl⟩
          · cases h
        · cases h
      · cases h
    · cases h
  · cases h
def aStore (T : Tab) (m : List (Option Ob)) (t : TypeId) (a x : V) : Option (List (Option Ob)) :=
  match look T t with
  | some i => match cellsV x with
    | some xs => bif Nat.beq xs.length i.n then (match a with
      | .ptr id k off => storeN m id k off xs
      | .rp id i j ver k => match xs with
        | [y] => storeR m id i j ver k y
        | _ => none
      | _ => none) else none
    | none => none
  | none => none
theorem store_sound (hT : TOk P T) (hok : Ok G w m) {t : TypeId} {a x : V} {av v : Value} (ha : VR G w a av) (hx : VR G w x v) (he : aStore T m t a x = some m') :
    ∃ w', (Instr.storeAt t av v).run P w = .ok () w' ∧ Ok G w' m' ∧ Adv G w G w' := by
  unfold aStore at he
  split at he
  · rename_i i hi
    have hi := hT _ _ hi
    split at he
    · rename_i xs hxs
      have hL := LR.of hx hxs
      cases hb : Nat.beq xs.length i.n with
      | false => rw [hb] at he; cases he
      | true =>
        rw [hb] at he
        have hlen := Nat.eq_of_beq_eq_true hb
        have hsz : v.cells.size = i.n := by rw [← hL.len, hlen]
        have run : ∀ b o w', (storeCells ⟨b, o, none⟩ v.cells.toList 0).run P w = .ok () w' → (Instr.storeAt t (.pointer (some ⟨b, o, none⟩)) v).run P w = .ok () w' := fun b o w' hr => by
          simp [Instr.storeAt, Instr.sureAddr, storeVar, hi.size, hsz]
          exact hr
        have hrel : ∀ j y u, xs[j]? = some y → v.cells.toList[j]? = some u → VR G w y u ∧ u.oneCell' = true := fun j y u e1 e2 => by
          have h2 : v.cells.getD j undef = u := by rw [← getD_toList, List.getD_eq_getElem?_getD, e2]; rfl
          have h1 := hL.rel j y e1
          rw [h2] at h1
          exact ⟨h1, hL.one u (Array.mem_toList_iff.1 (List.mem_of_getElem? e2))⟩
        simp only [cond_true] at he
        split at he
        · cases ha with
          | ptr hl =>
            obtain ⟨w', h1, h2, h3⟩ := storeN_sound (P := P) hl xs v.cells.toList _ 0 w m m' hok (by rw [hL.len]; simp) hrel he
            exact ⟨w', run _ _ _ h1, h2, h3⟩
        · split at he
          · rename_i y
            cases ha with
            | rp hl =>
              have h1 : ∃ u, v.cells.toList = [u] := by
                have : v.cells.toList.length = 1 := by rw [Array.length_toList, ← hL.len]; rfl
                match v.cells.toList, this with
                | [u], _ => exact ⟨u, rfl⟩
              obtain ⟨u, hu⟩ := h1
              obtain ⟨r1, r2⟩ := hrel 0 y u rfl (by rw [hu]; rfl)
              obtain ⟨⟨u0, a1⟩, a2, a3, a4⟩ := storeR_sound hok hl r1 r2 he
              refine ⟨_, run _ _ _ ?_, a3, a4⟩
              rw [hu]
              simp only [storeCells, Sem.run_bind, add_mk, Nat.add_zero, run_store P w _ u _ r2, a1, a2]
              rfl
          · cases he
        · cases he
    · cases he
  · cases he
end
end Go.Proofs.YtogfcpaalcebdaaE
/- An engine for walks: new objects; what stops changing; append. -/
namespace Go.Proofs.YtogfcpaalcebdaaE
open Go Go.RowKit
set_option linter.unusedVariables false
set_option linter.unusedSimpArgs false
def upd {α : Type} (f : Nat → α) (i : Nat) (x : α) : Nat → α := fun j => if j = i then x else f j
theorem upd_self {α : Type} (f : Nat → α) (i : Nat) (x : α) : upd f i x i = x := by simp [upd]
theorem upd_ne {α : Type} {f : Nat → α} {i j : Nat} {x : α} (h : j ≠ i) : upd f i x j = f j := by simp [upd, h]
def newG (G : Gh) (id b s n : Nat) : Gh := { G with loc := upd G.loc id (some (b, 0)), wd := upd G.wd id s, kd := upd G.kd b (.ob id), sz := upd G.sz b n }
section
variable {P : Program} {T : Tab} {G G' : Gh} {w w' : World} {m m' : List (Option Ob)}
theorem adv_new (hok : Ok G w m) {id s : Nat} (hf : G.loc id = none) (Cs : Array Value) (ty : TypeId) : Adv G w (newG G id w.heap.size s Cs.size) (w.alloc (.cells Cs ty)) := by
  refine ⟨⟨fun i b o q => ?_, fun i j k v b o q => ?_, fun b q => ?_⟩, ⟨rfl, rfl, rfl, by simp, fun b hb q => ?_, fun b hb => upd_ne (by omega)⟩⟩
  · have h1 : i ≠ id := by rintro rfl; rw [hf] at q; cases q
    have h2 : b ≠ w.heap.size := by have := hok.lt i b o q; omega
    exact ⟨by simp only [newG, upd_ne h1]; exact q, by simp only [newG, upd_ne h1], by simp only [newG, upd_ne h2]⟩
  · have h2 : b ≠ w.heap.size := by have := hok.rlt i j k v b o q; omega
    exact ⟨q, by simp only [newG, upd_ne h2]⟩
  · have h2 := hok.imm b q
    exact ⟨by simp only [newG, upd_ne (show b ≠ w.heap.size by omega)]; exact q, Below.heap_alloc w _ b h2⟩
  · exact ⟨Below.heap_alloc w _ b hb, by simp only [newG, upd_ne (show b ≠ w.heap.size by omega)]⟩
theorem Ok.alloc (hok : Ok G w m) {id s : Nat} (hid : id < m.length) (hf : G.loc id = none) (Cs : Array Value) (ty : TypeId) {ob : Ob} (ho : OR (newG G id w.heap.size s Cs.size) (w.alloc (.cells Cs ty)) id ob) :
    Ok (newG G id w.heap.size s Cs.size) (w.alloc (.cells Cs ty)) (m.set id (some ob)) := by
  have hadv := adv_new hok (s := s) hf Cs ty
  refine hok.put hid hadv (fun b id2 hne hl hown => ?_) (fun id2 hne => ⟨by simp only [newG, upd_ne hne], by simp only [newG, upd_ne hne], rfl⟩) (fun b q => ?_) (fun b hb => ?_) (fun i b o q => ?_) (fun i j k v b o q => ?_) hok.ver (fun q => by rw [show (newG G id w.heap.size s Cs.size).loc id = _ from upd_self _ _ _] at q; cases q) (fun o q => by cases q; exact ho)
  · have hb : b < w.heap.size := by
      rcases Nat.lt_or_ge b w.heap.size with h | h
      · exact h
      · have := hok.new b h
        rcases hown with q | ⟨_, _, _, q⟩ <;> rw [this] at q <;> cases q
    exact ⟨by simp only [newG, upd_ne (show b ≠ w.heap.size by omega)], Below.heap_alloc w _ b hb⟩
  · simp only [newG, upd] at q
    split at q
    · cases q
    · have := hok.imm b q
      simp
      omega
  · simp at hb
    simp only [newG, upd_ne (show b ≠ w.heap.size by omega)]
    exact hok.new b (by omega)
  · simp only [newG, upd] at q
    simp
    split at q
    · cases q; omega
    · have := hok.lt i b o q; omega
  · have := hok.rlt i j k v b o q
    simp
    omega
theorem blk_new {id s : Nat} (G : Gh) (w : World) (Cs : Array Value) (ty : TypeId) {R : Nat → Value → Prop} (h1 : ∀ v ∈ Cs, v.oneCell' = true) {n : Nat} (hn : n ≤ Cs.size) (hR : ∀ j, j < n → R j (Cs.getD j undef)) :
    Blk (newG G id w.heap.size s Cs.size) (w.alloc (.cells Cs ty)) id w.heap.size 0 n R :=
  ⟨upd_self _ _ _, upd_self _ _ _, Cs, ty, heap_alloc_new w _, upd_self _ _ _, by omega, h1, fun j hj => by rw [Nat.zero_add]; exact hR j hj⟩
theorem Ok.box (hok : Ok G w m) {id : Nat} (hid : id < m.length) (hf : G.loc id = none) {xs : List V} {Cs : Array Value} (h : LR G w xs Cs) (ty : TypeId) :
    Ok (newG G id w.heap.size 0 Cs.size) (w.alloc (.cells Cs ty)) (m.set id (some (.box xs))) := by
  have hadv := adv_new hok (s := 0) hf Cs ty
  refine hok.alloc hid hf Cs ty ⟨w.heap.size, ?_⟩
  rw [h.len]
  exact blk_new G w Cs ty h.one (Nat.le_refl _) fun j hj x hx => (h.rel j x hx).mono hadv.ext
theorem ptr_new (G : Gh) (w : World) (id b s n : Nat) : VR (newG G id b s n) w (.ptr id 0 0) (.pointer (some ⟨b, 0, none⟩)) := by
  have := VR.ptr (G := newG G id b s n) (w := w) (id := id) (k := 0) (off := 0) (b := b) (o := 0) (upd_self _ _ _)
  simpa using this
theorem Ok.arr (hok : Ok G w m) {id s : Nat} (hid : id < m.length) (hf : G.loc id = none) {es : List (List C)} {Cs : Array Value} (h1 : ∀ v ∈ Cs, v.oneCell' = true) (hs : ∀ row ∈ es, row.length = s) (hn : es.length * s ≤ Cs.size)
    (h : ∀ i row j x, es[i]? = some row → row[j]? = some x → CR G.kd w x (Cs.getD (i * s + j) undef)) (ty : TypeId) :
    Ok (newG G id w.heap.size s Cs.size) (w.alloc (.cells Cs ty)) (m.set id (some (.arr s es))) := by
  have hadv := adv_new hok (s := s) hf Cs ty
  refine hok.alloc hid hf Cs ty ⟨upd_self _ _ _, hs, .inr ⟨w.heap.size, 0, ?_⟩⟩
  exact blk_new G w Cs ty h1 hn fun j hj i row j' x e e2 e3 => by subst e; exact (h i row j' x e2 e3).mono hadv.ext.imm
theorem Ok.arw (hok : Ok G w m) {id s : Nat} (hid : id < m.length) (hf : G.loc id = none) {es : List (List C)} {Cs : Array Value} (h1 : ∀ v ∈ Cs, v.oneCell' = true) (hs : ∀ row ∈ es, row.length = s) (hn : es.length * s ≤ Cs.size)
    (h : ∀ i row j x, es[i]? = some row → row[j]? = some x → CR G.kd w x (Cs.getD (i * s + j) undef)) (ty : TypeId) :
    Ok (newG G id w.heap.size s Cs.size) (w.alloc (.cells Cs ty)) (m.set id (some (.arw s (es.map (·.map .p))))) := by
  have hadv := adv_new hok (s := s) hf Cs ty
  refine hok.alloc hid hf Cs ty ⟨upd_self _ _ _, fun row hr => ?_, .inr ⟨w.heap.size, 0, ?_⟩⟩
  · obtain ⟨r, hr', rfl⟩ := List.mem_map.1 hr
    rw [List.length_map]; exact hs r hr'
  · rw [List.length_map]
    refine blk_new G w Cs ty h1 hn fun j hj i row j' x e e2 e3 => ?_
    subst e
    rw [List.getElem?_map] at e2
    cases hq : es[i]? with
    | none => rw [hq] at e2; cases e2
    | some r =>
      rw [hq] at e2
      cases e2
      rw [List.getElem?_map] at e3
      cases hq2 : r[j']? with
      | none => rw [hq2] at e3; cases e3
      | some y =>
        rw [hq2] at e3
        cases e3
        exact (h i r j' y hq hq2).mono hadv.ext.imm
theorem Ok.arwD (hok : Ok G w m) {id s : Nat} (hid : id < m.length) (hf : G.loc id = none) {es : List (List D)} {Cs : Array Value} (h1 : ∀ v ∈ Cs, v.oneCell' = true) (hs : ∀ row ∈ es, row.length = s) (hn : es.length * s ≤ Cs.size) (ty : TypeId)
    (h : ∀ i row j x, es[i]? = some row → row[j]? = some x → DR (newG G id w.heap.size s Cs.size) (w.alloc (.cells Cs ty)) id i j x (Cs.getD (i * s + j) undef)) :
    Ok (newG G id w.heap.size s Cs.size) (w.alloc (.cells Cs ty)) (m.set id (some (.arw s es))) := by
  refine hok.alloc hid hf Cs ty ⟨upd_self _ _ _, hs, .inr ⟨w.heap.size, 0, ?_⟩⟩
  exact blk_new G w Cs ty h1 hn fun j hj i row j' x e e2 e3 => by subst e; exact h i row j' x e2 e3
theorem sl_new (G : Gh) (w : World) (id b s n len cap : Nat) (cl : Bool) (hl : len ≤ cap) (hcl : cl = true → cap = len) (hm : cap ≤ maxLen) (hn : cap * s ≤ n) : VR (newG G id b s n) w (.sl id s 0 len cl) (.slice (some ⟨b, 0, none⟩) len cap) :=
  .sl hl hcl hm fun _ => ⟨b, 0, upd_self _ _ _, upd_self _ _ _, by simp, by rw [show (newG G id b s n).sz b = n from upd_self _ _ _]; simpa using hn⟩

/-! ### alloc, box -/
theorem alloc_sound (hT : TOk P T) (hok : Ok G w m) {t : TypeId} {i : TI} (hi : look T t = some i) {id : Nat} (hid : id < m.length) (hf : G.loc id = none) :
    ∃ v w' G', (Instr.alloc t true (.tuple #[])).run P w = .ok v w' ∧ Ok G' w' (m.set id (some (.box (zerosV i)))) ∧ Adv G w G' w' ∧ VR G' w' (.ptr id 0 0) v ∧ (∀ j, j ≠ id → G'.loc j = G.loc j) := by
  have hi' := hT _ _ hi
  obtain ⟨d, info, _, h1, _, _, h2, _⟩ := hi'.ex
  refine ⟨_, _, _, ?_, hok.box hid hf (zerosV_LR hi') t, adv_new hok (s := 0) hf i.zv.cells t, ptr_new _ _ _ _ _ _, fun j hj => upd_ne hj⟩
  simp [Instr.alloc, zeroValue, typeInfo, h1, h2, newVar, newRow]
theorem box_sound (hok : Ok G w m) {t : TypeId} {x : V} {v : Value} {xs : List V} (hx : VR G w x v) (hc : cellsV x = some xs) {id : Nat} (hid : id < m.length) (hf : G.loc id = none) :
    ∃ u w' G', (Instr.box t v).run P w = .ok u w' ∧ Ok G' w' (m.set id (some (.box xs))) ∧ Adv G w G' w' ∧ VR G' w' (.ptr id 0 0) u ∧ (∀ j, j ≠ id → G'.loc j = G.loc j) := by
  refine ⟨_, _, _, ?_, hok.box hid hf (LR.of hx hc) t, adv_new hok (s := 0) hf v.cells t, ptr_new _ _ _ _ _ _, fun j hj => upd_ne hj⟩
  simp [Instr.box, newVar, newRow]

/-! ### make -/
def zerosC (i : TI) : List C := i.zv.cells.toList.map fun v => bif nilS v then .ls [] else .sc v
theorem CR.ls0 {kd : Nat → Kd} {ao : Option Addr} {cap : Nat} (h : cap ≤ maxLen) : CR kd w (.ls []) (.slice ao 0 cap) :=
  .ls (es := []) (s := 0) (b := 0) (o := 0) (fun _ _ => undef) (Nat.zero_le _) h (fun q => absurd q (by simp)) (fun _ q => absurd q (by simp)) (fun i row j x q => by simp at q) (fun i row j x q => by simp at q)
theorem zerosC_rel {t : TypeId} {i : TI} (hi : TOk1 P t i) (kd : Nat → Kd) : (zerosC i).length = i.n ∧ ∀ (j : Nat) x, (zerosC i)[j]? = some x → CR kd w x (i.zv.cells.getD j undef) := by
  refine ⟨by simp [zerosC, hi.sz], fun j x hj => ?_⟩
  unfold zerosC at hj
  rw [List.getElem?_map] at hj
  cases hc : i.zv.cells.toList[j]? with
  | none => rw [hc] at hj; cases hj
  | some u =>
    rw [hc] at hj
    cases hj
    have e : i.zv.cells.getD j undef = u := by rw [← getD_toList, List.getD_eq_getElem?_getD, hc]; rfl
    rw [e]
    have hz := hi.z u (Array.mem_toList_iff.1 (List.mem_of_getElem? hc))
    cases h0 : nilS u with
    | true => rw [nilS_eq h0]; exact .ls0 (Nat.zero_le _)
    | false =>
      unfold zcell at hz
      rw [h0] at hz
      show CR kd w (bif nilS u then .ls [] else .sc u) u
      rw [h0]
      exact .sc hz
theorem made_get (z : Array Value) (n k : Nat) (hk : k < n) (hz : 0 < z.size) : (madeCells z n).getD k undef = z.getD (k % z.size) undef := by
  have h : k % z.size < z.size := Nat.mod_lt _ hz
  simp [madeCells, hk, h]
theorem made_one (z : Array Value) (n : Nat) (hz : 0 < z.size) (h : ∀ v ∈ z, v.oneCell' = true) : ∀ v ∈ madeCells z n, v.oneCell' = true := by
  intro v hv
  obtain ⟨k, hk, rfl⟩ := Array.getElem_of_mem hv
  have hk' : k < n := by simpa [madeCells] using hk
  have e := made_get z n k hk' hz
  have h2 : (madeCells z n).getD k undef = (madeCells z n)[k] := by simp [hk]
  rw [← h2, e]
  exact h _ (getD_mem (Nat.mod_lt _ hz))
def zerosD (i : TI) : List D := i.zv.cells.toList.map fun v => bif nilS v then .ow [] 0 else .p (.sc v)
def hasNil (i : TI) : Bool := i.zv.cells.toList.any nilS
theorem zerosD_rel {t : TypeId} {i : TI} (hi : TOk1 P t i) {id k : Nat} (hrl : ∀ i j v, G.rl id i j v = none) : (zerosD i).length = i.n ∧ ∀ (j : Nat) x, (zerosD i)[j]? = some x → DR G w id k j x (i.zv.cells.getD j undef) := by
  refine ⟨by simp [zerosD, hi.sz], fun j x hj => ?_⟩
  unfold zerosD at hj
  rw [List.getElem?_map] at hj
  cases hc : i.zv.cells.toList[j]? with
  | none => rw [hc] at hj; cases hj
  | some u =>
    rw [hc] at hj
    cases hj
    have e : i.zv.cells.getD j undef = u := by rw [← getD_toList, List.getD_eq_getElem?_getD, hc]; rfl
    rw [e]
    have hz := hi.z u (Array.mem_toList_iff.1 (List.mem_of_getElem? hc))
    cases h0 : nilS u with
    | true => rw [nilS_eq h0]; exact ⟨none, 0, rfl, Nat.le_refl _, Nat.zero_le _, .inl ⟨rfl, hrl _ _ _⟩⟩
    | false =>
      unfold zcell at hz
      rw [h0] at hz
      show DR G w id k j (bif nilS u then .ow [] 0 else .p (.sc u)) u
      rw [h0]
      exact .sc hz
def madeOb (i : TI) (n : Nat) (rows : Bool) : Ob :=
  match rows with
  | false => .arr i.n (List.replicate n (zerosC i))
  | true => .arw i.n (List.replicate n (zerosD i))
theorem make_sound (hT : TOk P T) (hok : Ok G w m) {t e : TypeId} {ti i : TI} (ht : look T t = some ti) (hd : ti.td = .slc e) (hi : look T e = some i) {kl kc : IntKind} {l c : Int} (h0 : 0 ≤ l) (hlc : l ≤ c) (hb : c * (i.by_ : Int) ≤ 140737488355328) (h63 : c ≤ 9223372036854775807)
    {id : Nat} (hid : id < m.length) (hf : G.loc id = none) (rows : Bool) :
    ∃ v w' G', (Instr.makeSlice t (.int kl l) (.int kc c)).run P w = .ok v w' ∧ Ok G' w' (m.set id (some (madeOb i l.toNat rows))) ∧ Adv G w G' w' ∧ VR G' w' (.sl id i.n 0 l.toNat false) v ∧ (∀ j, j ≠ id → G'.loc j = G.loc j) := by
  have hi' := hT _ _ hi
  obtain ⟨d, info, _, h1, hsz, hby, h2, _⟩ := hi'.ex
  have hu := (hT _ _ ht).slc hd
  have hz : 0 < i.zv.cells.size := by rw [hi'.sz]; exact hi'.pos
  have hzo : ∀ v ∈ i.zv.cells, v.oneCell' = true := fun v hv => one_of_zcell (hi'.z v hv)
  obtain ⟨zl, zr⟩ := zerosC_rel (w := w) hi' G.kd
  have hrun := run_make (P := P) w t e info i.zv hu h1 h2 kl kc l c h0 hlc (by rw [hby]; rw [Int.mul_comm]; omega) h63
  rw [hsz] at hrun
  have hle : l.toNat * i.n ≤ c.toNat * i.n := Nat.mul_le_mul_right _ (by omega)
  have hrel : ∀ a row j x, (List.replicate l.toNat (zerosC i))[a]? = some row → row[j]? = some x → CR G.kd w x ((madeCells i.zv.cells (c.toNat * i.n)).getD (a * i.n + j) undef) := fun a row j x e1 e2 => by
    have ha := (List.getElem?_eq_some_iff.1 e1).1
    rw [List.length_replicate] at ha
    have hr : row = zerosC i := by
      rw [List.getElem?_replicate, if_pos ha] at e1
      exact (Option.some.inj e1).symm
    subst hr
    have hj : j < i.n := by rw [← zl]; exact (List.getElem?_eq_some_iff.1 e2).1
    have hlt := idx_lt hj ha
    rw [made_get _ _ _ (by omega) hz, hi'.sz, Nat.mul_comm, Nat.mul_add_mod, Nat.mod_eq_of_lt hj]
    exact zr j x e2
  have hrows : ∀ row ∈ List.replicate l.toNat (zerosC i), row.length = i.n := fun row hr => by rw [List.eq_of_mem_replicate hr]; exact zl
  have hn : (List.replicate l.toNat (zerosC i)).length * i.n ≤ (madeCells i.zv.cells (c.toNat * i.n)).size := by rw [List.length_replicate, size_madeCells]; exact hle
  have hsl := sl_new G (w.alloc (.cells (madeCells i.zv.cells (c.toNat * i.n)) e)) id w.heap.size i.n (madeCells i.zv.cells (c.toNat * i.n)).size l.toNat c.toNat false (by omega) (by simp) (by simp only [maxLen]; omega) (by rw [size_madeCells]; exact Nat.le_refl _)
  refine ⟨_, _, _, hrun, ?_, adv_new hok (s := i.n) hf _ e, hsl, fun j hj => upd_ne hj⟩
  cases rows
  · exact hok.arr hid hf (made_one _ _ hz hzo) hrows hn hrel e
  · obtain ⟨dl, _⟩ := zerosD_rel (G := newG G id w.heap.size i.n (madeCells i.zv.cells (c.toNat * i.n)).size) (w := w.alloc (.cells (madeCells i.zv.cells (c.toNat * i.n)) e)) hi' (id := id) (k := 0) (hok.frl id hf)
    refine hok.arwD hid hf (made_one _ _ hz hzo) (fun row hr => by rw [List.eq_of_mem_replicate hr]; exact dl) (by rw [List.length_replicate, size_madeCells]; exact hle) e fun a row j x e1 e2 => ?_
    have ha := (List.getElem?_eq_some_iff.1 e1).1
    rw [List.length_replicate] at ha
    have hr : row = zerosD i := by
      rw [List.getElem?_replicate, if_pos ha] at e1
      exact (Option.some.inj e1).symm
    subst hr
    have hj : j < i.n := by rw [← dl]; exact (List.getElem?_eq_some_iff.1 e2).1
    have hlt := idx_lt hj ha
    rw [made_get _ _ _ (by omega) hz, hi'.sz, Nat.mul_add_mod', Nat.mod_eq_of_lt hj]
    exact (zerosD_rel (G := newG G id w.heap.size i.n (madeCells i.zv.cells (c.toNat * i.n)).size) (w := w.alloc (.cells (madeCells i.zv.cells (c.toNat * i.n)) e)) (k := a) hi' (fun i j v => hok.frl id hf i j v)).2 j x e2

/-! ### slice literals -/
def toCs : List V → Option (List C)
  | [] => some []
  | x :: r => match toC x with
    | some y => match toCs r with
      | some l => some (y :: l)
      | none => none
    | none => none
def chunk (s : Nat) : Nat → List C → List (List C)
  | 0, _ => []
  | n + 1, l => l.take s :: chunk s n (l.drop s)
theorem toCs_get : ∀ (xs : List V) (l : List C), toCs xs = some l → l.length = xs.length ∧ ∀ (j : Nat) y, l[j]? = some y → ∃ x, xs[j]? = some x ∧ toC x = some y
  | [], l, h => by cases h; exact ⟨rfl, fun j y q => by simp at q⟩
  | x :: r, l, h => by
    unfold toCs at h
    split at h
    · rename_i y hy
      split at h
      · rename_i l' hl
        cases h
        obtain ⟨h1, h2⟩ := toCs_get r l' hl
        refine ⟨by simp [h1], fun j z hz => ?_⟩
        cases j with
        | zero => cases hz; exact ⟨x, rfl, hy⟩
        | succ j => exact h2 j z (by simpa using hz)
      · cases h
    · cases h
theorem chunk_get (s : Nat) : ∀ (n : Nat) (l : List C) (i : Nat) (row : List C), (chunk s n l)[i]? = some row → i < n ∧ row = (l.drop (i * s)).take s
  | 0, l, i, row, h => by simp [chunk] at h
  | n + 1, l, i, row, h => by
    unfold chunk at h
    cases i with
    | zero => cases h; exact ⟨by omega, by simp⟩
    | succ i =>
      obtain ⟨h1, h2⟩ := chunk_get s n (l.drop s) i row (by simpa using h)
      refine ⟨by omega, ?_⟩
      rw [h2, List.drop_drop]
      congr 2
      rw [Nat.add_mul, Nat.one_mul, Nat.add_comm]
theorem chunk_len (s : Nat) : ∀ (n : Nat) (l : List C), (chunk s n l).length = n
  | 0, _ => rfl
  | n + 1, l => by simp [chunk, chunk_len s n]
def pLit (T : Tab) (t : TypeId) (len : Nat) (ps : List (Nat × V)) : Option (Nat × List (List C)) :=
  match look T t with
  | some { td := .slc e, .. } => match look T e with
    | some i => match len with
      | 0 => match ps with
        | [] => some (i.n, [])
        | _ :: _ => none
      | _ + 1 => bif Nat.ble (len * i.n) 16777216 then (match fillV (rowPl len i.n) ((List.replicate len (zerosV i)).flatten) ps with
        | some cs => match toCs cs with
          | some l => some (i.n, chunk i.n len l)
          | none => none
        | none => none) else none
    | none => none
  | _ => none
theorem zeros_LR {t : TypeId} {i : TI} (hi : TOk1 P t i) (n : Nat) : LR G w ((List.replicate n (zerosV i)).flatten) (madeCells i.zv.cells (n * i.n)) := by
  have hz : 0 < i.zv.cells.size := by rw [hi.sz]; exact hi.pos
  have hL := zerosV_LR (G := G) (w := w) hi
  have hlen : (zerosV i).length = i.n := by rw [hL.len, hi.sz]
  have hfl : ∀ n, ((List.replicate n (zerosV i)).flatten).length = n * i.n := fun n => by
    induction n with
    | zero => simp
    | succ n ih => simp only [List.replicate_succ, List.flatten_cons, List.length_append, ih, hlen, Nat.add_mul, Nat.one_mul]; omega
  have hget : ∀ n j x, ((List.replicate n (zerosV i)).flatten)[j]? = some x → (zerosV i)[j % i.n]? = some x := fun n => by
    induction n with
    | zero => intro j x h; simp at h
    | succ n ih =>
      intro j x h
      rw [List.replicate_succ, List.flatten_cons] at h
      by_cases hj : j < i.n
      · rw [List.getElem?_append_left (by omega)] at h
        rw [Nat.mod_eq_of_lt hj]; exact h
      · rw [List.getElem?_append_right (by omega), hlen] at h
        have := ih _ _ h
        rw [Nat.mod_eq_sub_mod (by omega)]
        exact this
  refine ⟨by rw [hfl, size_madeCells], made_one _ _ hz hL.one, fun j x hj => ?_⟩
  have hlt : j < n * i.n := by rw [← hfl]; exact (List.getElem?_eq_some_iff.1 hj).1
  rw [made_get _ _ _ hlt hz, hi.sz]
  exact hL.rel _ _ (hget n j x hj)
theorem lit_sound (hT : TOk P T) (hok : Ok G w m) {t : TypeId} {len s : Nat} {ps : Array (Nat × Operand)} {ρ : Operand → V} {r : Operand → Value} (h : ∀ x, VR G w (ρ x) (r x)) {es : List (List C)} (he : pLit T t len (ps.toList.map fun (i, x) => (i, ρ x)) = some (s, es))
    {id : Nat} (hid : id < m.length) (hf : G.loc id = none) (rows : Bool) :
    ∃ v w' G', (Instr.buildSlice t len (ps.map fun (i, x) => (i, r x))).run P w = .ok v w' ∧ Ok G' w' (m.set id (some (match rows with | false => .arr s es | true => .arw s (es.map (·.map .p))))) ∧ Adv G w G' w' ∧ VR G' w' (.sl id s 0 len true) v ∧ (∀ j, j ≠ id → G'.loc j = G.loc j) := by
  unfold pLit at he
  split at he
  · rename_i n_ by_ ag e zv hs
    split at he
    · rename_i i hi
      have hi' := hT _ _ hi
      obtain ⟨d, info, _, h1, hsz, hby, h2, _⟩ := hi'.ex
      have hu := (hT _ _ hs).slc rfl
      split at he
      · split at he
        · rename_i hps
          cases he
          have hps' : ps = #[] := by simpa using hps
          subst hps'
          refine ⟨.slice (some ⟨w.heap.size, 0, none⟩) 0 0, w.alloc (.cells #[] e), _, ?_, ?_, adv_new hok (s := i.n) hf #[] e, sl_new G (w.alloc (.cells #[] e)) id w.heap.size i.n 0 0 0 true (Nat.le_refl _) (fun _ => rfl) (Nat.zero_le _) (by simp), fun j hj => upd_ne hj⟩
          · simp [Instr.buildSlice, run_underlying hu, sizeOf, typeInfo, zeroValue, h1, h2, Instr.fill, newRow]
            have e0 : Array.map (fun _ => (default : Value)) (Array.range 0) = #[] := by simp [Array.range]
            rw [e0]
          · cases rows
            · exact hok.arr hid hf (es := []) (by simp) (by simp) (by simp) (fun _ _ _ _ q => by simp at q) e
            · exact hok.arw hid hf (es := []) (by simp) (by simp) (by simp) (fun _ _ _ _ q => by simp at q) e
        · cases he
      · rename_i len'
        cases hb : Nat.ble ((len' + 1) * i.n) 16777216 with
        | false => rw [hb] at he; cases he
        | true =>
          rw [hb] at he
          have hle := Nat.le_of_ble_eq_true hb
          simp only [cond_true] at he
          split at he
          · rename_i cs hcs
            split at he
            · rename_i l hl
              cases he
              obtain ⟨cells', f1, f2⟩ := fill_sound (pl := rowPl (len' + 1) i.n) (place := fun k => some (k * i.n, i.n)) (fun k q hq => by rw [(rowPl_get hq).1]) ρ r h ps.toList _ _ _ (zeros_LR hi' (len' + 1)) hcs
              have hcslen : cells'.size = (len' + 1) * i.n := by
                have hq : ∀ (ps : List (Nat × V)) (a b : List V), fillV (rowPl (len' + 1) i.n) a ps = some b → b.length = a.length := by
                  intro ps
                  induction ps with
                  | nil => intro a b q; cases q; rfl
                  | cons p ps ih =>
                    intro a b q
                    obtain ⟨pi, px⟩ := p
                    simp only [fillV] at q
                    split at q
                    · split at q
                      · rename_i off n _ _ xs _
                        cases hbb : (Nat.beq xs.length n && Nat.ble (off + n) a.length) with
                        | false => rw [hbb] at q; cases q
                        | true =>
                          rw [hbb] at q
                          rw [Bool.and_eq_true] at hbb
                          have b1 := Nat.eq_of_beq_eq_true hbb.1
                          have b2 := Nat.le_of_ble_eq_true hbb.2
                          rw [ih _ _ q, putL_len (by omega)]
                      · cases q
                    · cases q
                rw [← f2.len, hq _ _ _ hcs, (zeros_LR (G := G) (w := w) hi' (len' + 1)).len, size_madeCells]
              have hrun := run_buildSlice (P := P) w t e (len' + 1) (ps.map fun (i, x) => (i, r x)) cells' info i.zv hu h1 h2 (by rw [hsz]; omega) (by rw [hsz]; have := hi'.pos; have : 0 < (len' + 1) * i.n := Nat.mul_pos (by omega) this; omega) (by
                rw [hsz, Array.toList_map]
                exact f1)
              obtain ⟨c1, c2⟩ := toCs_get cs l hl
              have hll : l.length = (len' + 1) * i.n := by rw [c1, f2.len, hcslen]
              have hrows : ∀ row ∈ chunk i.n (len' + 1) l, row.length = i.n := fun row hr => by
                obtain ⟨a, ha, rfl⟩ := List.getElem_of_mem hr
                obtain ⟨q1, q2⟩ := chunk_get i.n (len' + 1) l a _ (List.getElem?_eq_getElem ha)
                rw [q2, List.length_take, List.length_drop, hll]
                have : (a + 1) * i.n ≤ (len' + 1) * i.n := Nat.mul_le_mul_right _ q1
                rw [Nat.add_mul a, Nat.one_mul] at this
                omega
              have hrel : ∀ a row j x, (chunk i.n (len' + 1) l)[a]? = some row → row[j]? = some x → CR G.kd w x (cells'.getD (a * i.n + j) undef) := fun a row j x e1 e2 => by
                obtain ⟨q1, rfl⟩ := chunk_get i.n (len' + 1) l a row e1
                rw [List.getElem?_take] at e2
                split at e2
                · rw [List.getElem?_drop] at e2
                  obtain ⟨y, hy, hc⟩ := c2 _ _ e2
                  exact toC_sound (f2.rel _ _ hy) hc
                · cases e2
              have hn : (chunk i.n (len' + 1) l).length * i.n ≤ cells'.size := by rw [chunk_len, hcslen]; exact Nat.le_refl _
              have hsl := sl_new G (w.alloc (.cells cells' e)) id w.heap.size i.n cells'.size (len' + 1) (len' + 1) true (Nat.le_refl _) (fun _ => rfl) (by simp only [maxLen]; have : (len' + 1) * 1 ≤ (len' + 1) * i.n := Nat.mul_le_mul_left _ hi'.pos; omega) (by rw [hcslen]; exact Nat.le_refl _)
              refine ⟨_, _, _, hrun, ?_, adv_new hok (s := i.n) hf _ e, hsl, fun j hj => upd_ne hj⟩
              cases rows
              · exact hok.arr hid hf f2.one hrows hn hrel e
              · exact hok.arw hid hf f2.one hrows hn hrel e
            · cases he
          · cases he
    · cases he
  · cases he
end
end Go.Proofs.YtogfcpaalcebdaaE
/- An engine for walks: what stops changing; a row that becomes an array of its own; append. -/
namespace Go.Proofs.YtogfcpaalcebdaaE
open Go Go.RowKit
set_option linter.unusedVariables false
set_option linter.unusedSimpArgs false
section
variable {P : Program} {T : Tab} {G G' : Gh} {w w' : World} {m m' : List (Option Ob)}
theorem adv_kd {b : Nat} {k : Kd} (h1 : G.kd b ≠ .no) (h2 : G.kd b ≠ .imm) : Adv G w { G with kd := upd G.kd b k } w := by
  refine ⟨⟨fun _ _ _ q => ⟨q, rfl, rfl⟩, fun _ _ _ _ _ _ q => ⟨q, rfl⟩, fun b' q => ⟨?_, rfl⟩⟩, ⟨rfl, rfl, rfl, Nat.le_refl _, fun b' _ q => ⟨rfl, ?_⟩, fun _ _ => rfl⟩⟩
  · have : b' ≠ b := by rintro rfl; exact h2 q
    show upd G.kd b k b' = _
    rw [upd_ne this]; exact q
  · have : b' ≠ b := by
      rintro rfl
      rcases q with q | q
      · exact h1 q
      · exact h2 q
    exact upd_ne this
theorem blk_size {id b o n : Nat} {R : Nat → Value → Prop} (h : Blk G w id b o n R) : b < w.heap.size := by
  obtain ⟨_, _, Cs, ty, h3, _⟩ := h
  exact (Array.getElem?_eq_some_iff.1 h3).1
theorem frz_sound (hok : Ok G w m) {id s : Nat} {es : List (List C)} (hm : m[id]? = some (some (.arr s es))) :
    ∃ G', Ok G' w (m.set id none) ∧ Adv G w G' w ∧ (∀ j, G'.loc j = G.loc j) ∧ ∀ off len cl v, off + len ≤ es.length → VR G w (.sl id s off len cl) v → CR G'.kd w (.ls ((es.drop off).take len)) v := by
  obtain ⟨hw, hr, h3⟩ := hok.ob id _ hm
  have hlen : ∀ off len, off + len ≤ es.length → ((es.drop off).take len).length = len := fun off len h => by simp; omega
  rcases h3 with ⟨hl, he⟩ | ⟨b, o, hb⟩
  · refine ⟨G, hok.kill id, .refl _ _, fun _ => rfl, fun off len cl v hle hv => ?_⟩
    subst he
    cases hv with
    | @sl _ _ _ _ cap _ ao h1 h2 h3 h4 =>
      simp at hle
      obtain ⟨rfl, rfl⟩ := hle
      exact .ls0 h3
  · have hadv := adv_kd (w := w) (k := .imm) hb.own.1 hb.own.2
    refine ⟨{ G with kd := upd G.kd b .imm }, ?_, hadv, fun _ => rfl, fun off len cl v hle hv => ?_⟩
    · refine hok.put (live_lt hm) hadv (fun b2 id2 hne hl hown => ⟨?_, rfl⟩) (fun _ _ => ⟨rfl, rfl, rfl⟩) (fun b2 q => ?_) (fun b2 q => ?_) hok.lt hok.rlt hok.ver (hok.frl _) (fun o q => by cases q)
      · have : b2 ≠ b := by
          rintro rfl
          rcases hown with q | ⟨_, _, _, q⟩ <;> rw [hb.kd] at q <;> cases q
          exact hne rfl
        exact upd_ne this
      · by_cases e : b2 = b
        · subst e; exact blk_size hb
        · simp only [upd_ne e] at q; exact hok.imm b2 q
      · have := blk_size hb
        simp only [upd_ne (show b2 ≠ b by omega)]
        exact hok.new b2 q
    · cases hv with
      | @sl _ _ _ _ cap _ ao h1 h2 h3 h4 =>
        have q := hlen off len hle
        have : CR (upd G.kd b .imm) w (.ls ((es.drop off).take len)) (.slice ao ((es.drop off).take len).length cap) := by
          have hbl := hb.loc
          obtain ⟨_, _, Cs, ty, a3, a4, a5, a6, a7⟩ := hb
          have hsub : ∀ (i : Nat) row, ((es.drop off).take len)[i]? = some row → es[off + i]? = some row := fun i row hi => by
            rw [List.getElem?_take] at hi
            split at hi
            · rw [List.getElem?_drop] at hi; exact hi
            · cases hi
          refine .ls (s := s) (b := b) (o := o + off * s) (fun i j => Cs.getD (o + ((off + i) * s + j)) undef) (by rw [q]; exact h1) h3 (fun h0 => ?_) (fun row hr' => hr row (List.mem_of_mem_drop (List.mem_of_mem_take hr'))) (fun i row j x e1 e2 => ?_) (fun i row j x e1 e2 => ?_)
          · rw [q] at h0
            obtain ⟨b', o', c1, c2, c3, c4⟩ := h4 (by omega)
            rw [hbl] at c1
            cases c1
            exact ⟨c3, upd_self _ _ _⟩
          · have hj : j < s := by rw [← hr row (List.mem_of_getElem? (hsub _ _ e1))]; exact (List.getElem?_eq_some_iff.1 e2).1
            have hi := (List.getElem?_eq_some_iff.1 (hsub _ _ e1)).1
            have hlt := idx_lt hj hi
            have e : o + off * s + i * s + j = o + ((off + i) * s + j) := by rw [Nat.add_mul]; omega
            rw [e, cell_of_row w b _ Cs ty _ a3]
            have : o + ((off + i) * s + j) < Cs.size := by omega
            simp [this]
          · have hj : j < s := by rw [← hr row (List.mem_of_getElem? (hsub _ _ e1))]; exact (List.getElem?_eq_some_iff.1 e2).1
            have hi := (List.getElem?_eq_some_iff.1 (hsub _ _ e1)).1
            exact (a7 _ (idx_lt hj hi) _ _ _ _ rfl (hsub _ _ e1) e2).mono hadv.ext.imm
        rw [q] at this
        exact this
end
end Go.Proofs.YtogfcpaalcebdaaE
/- An engine for walks: a row that becomes an array of its own; append. -/
namespace Go.Proofs.YtogfcpaalcebdaaE
open Go Go.RowKit
set_option linter.unusedVariables false
set_option linter.unusedSimpArgs false
section
variable {P : Program} {T : Tab} {G G' : Gh} {w w' : World} {m m' : List (Option Ob)}
def detach (m : List (Option Ob)) (nid id i j ver : Nat) : Option (List (Option Ob)) :=
  match obGet m id with
  | some (.arw s es) => match es[i]? with
    | some row => match row[j]? with
      | some (.ow r ver') => if ver = ver' ∧ nid ≠ id ∧ nid < m.length then some ((m.set id (some (.arw s (es.set i (row.set j .no))))).set nid (some (.arr 1 (r.map fun x => [x])))) else none
      | _ => none
    | none => none
  | _ => none
theorem wrap_get {r : List C} {i j : Nat} {row : List C} {x : C} (h1 : (r.map fun x => [x])[i]? = some row) (h2 : row[j]? = some x) : j = 0 ∧ r[i]? = some x := by
  rw [List.getElem?_map] at h1
  cases hq : r[i]? with
  | none => rw [hq] at h1; cases h1
  | some y =>
    rw [hq] at h1
    cases h1
    cases j with
    | zero => cases h2; exact ⟨rfl, rfl⟩
    | succ j => cases h2
theorem detach_sound (hok : Ok G w m) {nid id i j ver : Nat} (hf : G.loc nid = none) (h : detach m nid id i j ver = some m') :
    ∃ G', Ok G' w m' ∧ Adv G w G' w ∧ (∀ k, k ≠ nid → G'.loc k = G.loc k) ∧ ∀ off len v, VR G w (.rw id i j ver off len) v → VR G' w (.sl nid 1 off len false) v := by
  unfold detach at h
  split at h
  · rename_i s es hg
    have hm := obGet_some hg
    obtain ⟨hw, hr, h3⟩ := hok.ob id _ hm
    split at h
    · rename_i row hrow
      split at h
      · rename_i r ver' hy
        split at h
        · rename_i hcond
          cases h
          obtain ⟨rfl, hne, hnl⟩ := hcond
          rcases h3 with ⟨_, h3⟩ | ⟨b', o', hb⟩
          · rw [h3] at hrow; cases hrow
          have hj : j < s := by rw [← hr row (List.mem_of_getElem? hrow)]; exact (List.getElem?_eq_some_iff.1 hy).1
          have hi := (List.getElem?_eq_some_iff.1 hrow).1
          obtain ⟨u0, c1, c2, c3, c4⟩ := hb.cell (j := i * s + j) (idx_lt hj hi)
          obtain ⟨ao, cap, rfl, q1, q2, q3⟩ := c3 _ _ _ _ rfl hrow hy
          have h1len : ∀ row ∈ r.map (fun x => [x]), row.length = 1 := fun row hr => by obtain ⟨x, _, rfl⟩ := List.mem_map.1 hr; rfl
          have hlive := live_lt hm
          have harw : ∀ (G1 : Gh), Ext G w G1 w → (∀ b, G.kd b = .ob id → G1.kd b = G.kd b) → (∀ b i' j' ver', ¬ (i' = i ∧ j' = j) → G.kd b = .rw id i' j' ver' → G1.kd b = G.kd b) → (∀ i' j' ver', G.rl id i' j' ver' = none → G1.rl id i' j' ver' = none) → G1.wd id = G.wd id → OR G1 w id (.arw s (es.set i (row.set j .no))) := fun G1 he hk1 hk2 hrn hwd => by
            refine ⟨hwd.trans hw, row_set hr hrow, .inr ⟨b', o', ?_⟩⟩
            rw [List.length_set]
            refine hb.mono he ⟨hk1 b' hb.kd, rfl⟩ fun n u hn hu i' r' j' x' e1 e2 e3 => ?_
            by_cases hij : i' = i ∧ j' = j
            · obtain ⟨rfl, rfl⟩ := hij
              rw [set_same hrow e2 e3]
              exact DR.one (hu _ _ _ _ e1 hrow hy)
            · obtain ⟨r2, p1, p2⟩ := set_get hrow hij e2 e3
              exact (hu _ _ _ _ e1 p1 p2).mono he (fun b ver' q => ⟨hk2 b i' j' ver' hij q, rfl⟩) (hrn i' j')
          have hm2 : ((m.set id none).set nid (some (.arr 1 (r.map fun x => [x])))).set id (some (.arw s (es.set i (row.set j .no)))) = (m.set id (some (.arw s (es.set i (row.set j .no))))).set nid (some (.arr 1 (r.map fun x => [x]))) := by
            rw [List.set_comm _ _ hne, List.set_set, List.set_comm _ _ (Ne.symm hne)]
          rcases q3 with ⟨q3, q4⟩ | ⟨b2, o2, Cs, ty, a1, a2, a3, a4, a5, a6, a7, a8⟩
          · have hr0 : r = [] := List.eq_nil_of_length_eq_zero (by omega)
            subst hr0
            have hext : Ext G w { G with wd := upd G.wd nid 1 } w := ⟨fun id2 b o q => ⟨q, upd_ne (by rintro rfl; rw [hf] at q; cases q), rfl⟩, fun _ _ _ _ _ _ q => ⟨q, rfl⟩, fun _ q => ⟨q, rfl⟩⟩
            refine ⟨{ G with wd := upd G.wd nid 1 }, ?_, ⟨hext, ⟨rfl, rfl, rfl, Nat.le_refl _, fun _ _ _ => ⟨rfl, rfl⟩, fun _ _ => rfl⟩⟩, fun _ _ => rfl, fun off len v hv => ?_⟩
            · rw [← hm2]
              have k1 := (hok.kill id).put (id := nid) (ob := some (.arr 1 (([] : List C).map fun x => [x]))) (G' := { G with wd := upd G.wd nid 1 }) (w' := w) (by simpa using hnl) ⟨hext, ⟨rfl, rfl, rfl, Nat.le_refl _, fun _ _ _ => ⟨rfl, rfl⟩, fun _ _ => rfl⟩⟩ (fun _ _ _ _ _ => ⟨rfl, rfl⟩) (fun id2 hn => ⟨rfl, upd_ne hn, rfl⟩) hok.imm hok.new hok.lt hok.rlt hok.ver (hok.frl _) (fun o q => by cases q; exact ⟨upd_self _ _ _, by simp, .inl ⟨hf, rfl⟩⟩)
              exact k1.put (by simpa using hlive) (.refl _ _) (fun _ _ _ _ _ => ⟨rfl, rfl⟩) (fun _ _ => ⟨rfl, rfl, rfl⟩) hok.imm hok.new hok.lt hok.rlt hok.ver (hok.frl _) (fun o q => by cases q; exact harw _ hext (fun _ _ => rfl) (fun _ _ _ _ _ _ => rfl) (fun _ _ _ q => q) (upd_ne (Ne.symm hne)))
            · cases hv with
              | @rw _ _ _ _ _ _ cap2 ao2 p1 p2 p3 =>
                refine .sl p1 (fun q => by cases q) p2 (fun hc => ?_)
                obtain ⟨b3, o3, d1, _⟩ := p3 hc
                rw [q4] at d1
                cases d1
          · have hown : G.kd b2 ≠ .no ∧ G.kd b2 ≠ .imm := by rw [a3]; exact ⟨by simp, by simp⟩
            have hb2 : b2 < w.heap.size := (Array.getElem?_eq_some_iff.1 a4).1
            have hkdadv := adv_kd (w := w) (k := .ob nid) hown.1 hown.2
            have hext : Ext G w { G with loc := upd G.loc nid (some (b2, o2)), wd := upd G.wd nid 1, kd := upd G.kd b2 (.ob nid) } w :=
              ⟨fun id2 b o q => by
                have : id2 ≠ nid := by rintro rfl; rw [hf] at q; cases q
                exact ⟨by simp only [upd_ne this]; exact q, by simp only [upd_ne this], rfl⟩, fun _ _ _ _ _ _ q => ⟨q, rfl⟩, hkdadv.ext.imm⟩
            have hlt : ∀ id3 b o, upd G.loc nid (some (b2, o2)) id3 = some (b, o) → b < w.heap.size := fun id3 b o q => by
              by_cases e : id3 = nid
              · subst e; rw [upd_self] at q; cases q; exact hb2
              · rw [upd_ne e] at q; exact hok.lt id3 b o q
            have himm : ∀ b, upd G.kd b2 (.ob nid) b = .imm → b < w.heap.size := fun b q => by
              by_cases e : b = b2
              · subst e; exact hb2
              · rw [upd_ne e] at q; exact hok.imm b q
            have hnew : ∀ b, w.heap.size ≤ b → upd G.kd b2 (.ob nid) b = .no := fun b q => by
              rw [upd_ne (show b ≠ b2 by omega)]; exact hok.new b q
            refine ⟨{ G with loc := upd G.loc nid (some (b2, o2)), wd := upd G.wd nid 1, kd := upd G.kd b2 (.ob nid) }, ?_, ⟨hext, ⟨rfl, rfl, rfl, Nat.le_refl _, hkdadv.tr.blk, fun _ _ => rfl⟩⟩, fun k hk => upd_ne hk, fun off len v hv => ?_⟩
            · rw [← hm2]
              have k1 := (hok.kill id).put (id := nid) (ob := some (.arr 1 (r.map fun x => [x]))) (G' := { G with loc := upd G.loc nid (some (b2, o2)), wd := upd G.wd nid 1, kd := upd G.kd b2 (.ob nid) }) (w' := w) (by simpa using hnl) ⟨hext, ⟨rfl, rfl, rfl, Nat.le_refl _, hkdadv.tr.blk, fun _ _ => rfl⟩⟩ (fun b id2 hn hl hown2 => ?_) (fun id2 hn => ⟨upd_ne hn, upd_ne hn, rfl⟩) himm hnew hlt hok.rlt hok.ver (fun q => absurd ((upd_self G.loc nid (some (b2, o2))).symm.trans q) (by simp)) (fun o q => ?_)
              · refine k1.put (by simpa using hlive) (.refl _ _) (fun _ _ _ _ _ => ⟨rfl, rfl⟩) (fun _ _ => ⟨rfl, rfl, rfl⟩) himm hnew hlt hok.rlt hok.ver (fun q => hok.frl _ ((upd_ne (f := G.loc) (x := some (b2, o2)) (Ne.symm hne)).symm.trans q)) (fun o q => by
                  cases q
                  refine harw _ hext (fun b q => upd_ne ?_) (fun b i' j' ver' hij q => upd_ne ?_) (fun _ _ _ q => q) (upd_ne (Ne.symm hne))
                  · rintro rfl; rw [a3] at q; cases q
                  · rintro rfl; rw [a3] at q; cases q; exact hij ⟨rfl, rfl⟩)
              · refine ⟨upd_ne ?_, rfl⟩
                rintro rfl
                have hne2 : id2 ≠ id := by
                  rintro rfl
                  obtain ⟨o, ho⟩ := hl
                  rw [List.getElem?_set, if_pos rfl] at ho
                  split at ho <;> cases ho
                rcases hown2 with q | ⟨_, _, _, q⟩ <;> rw [a3] at q <;> cases q
                exact hne2 rfl
              · cases q
                refine ⟨upd_self _ _ _, h1len, .inr ⟨b2, o2, upd_self _ _ _, upd_self _ _ _, Cs, ty, a4, a5, by simp; omega, a7, fun k hk i' r' j' x' e1 e2 e3 => ?_⟩⟩
                obtain ⟨rfl, hx⟩ := wrap_get e2 e3
                subst e1
                have := (a8 _ _ hx).mono hext.imm
                simpa using this
            · cases hv with
              | @rw _ _ _ _ _ _ cap2 ao2 p1 p2 p3 =>
                refine .sl p1 (fun q => by cases q) p2 (fun hc => ?_)
                obtain ⟨b3, o3, d1, d2, d3⟩ := p3 hc
                rw [a1] at d1
                cases d1
                exact ⟨b2, o2, upd_self _ _ _, upd_self _ _ _, by simpa using d2, by simpa using d3⟩
        · cases h
      · cases h
    · cases h
  · cases h
end
end Go.Proofs.YtogfcpaalcebdaaE
