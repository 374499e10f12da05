/- An engine for walks: what is told otherwise; a function's contract. -/
import Derived.Test.YtogfcpaalcebdaaCEng21
namespace Go.Proofs.YtogfcpaalcebdaaE
open Go Go.RowKit
set_option linter.unusedVariables false
set_option linter.unusedSimpArgs false
/-! ### fewer objects, by other names -/
def renD (L : List Nat) (x : V) : V :=
  match ren (fun id => posOf id L) x with
  | some y => y
  | none => .any
def cmp (L : List Nat) (mc : List (Option Ob)) (s : St) : St := ⟨fun t => renD L (s.A t), mc⟩
def keepL (k : Nat) (mv L : List Nat) : Bool := Nat.ble k L.length && (List.range k).all fun j => (posOf j mv).isSome || (match L[j]? with
  | some i => Nat.beq i j
  | none => false)
def nodupL : List Nat → Bool
  | [] => true
  | x :: r => r.all (fun y => !Nat.beq x y) && nodupL r
theorem nodupL_ok : ∀ {l : List Nat}, nodupL l = true → l.Nodup
  | [], _ => .nil
  | x :: r, h => by
    simp only [nodupL, Bool.and_eq_true, List.all_eq_true] at h
    refine List.nodup_cons.2 ⟨fun hx => ?_, nodupL_ok h.2⟩
    have := h.1 x hx
    simp at this
section
variable {E : Env} {k : Nat} {mv : List Nat} {G G' G0 : Gh} {w w' w0 : World} {s s' : St} {a : Act}
theorem cmp_rel {L : List Nat} {mc : List (Option Ob)} (hL : nodupL L = true) (hk : keepL k mv L = true) (hf : footM s.m (fun id => posOf id L) L = some mc) (hr : Rel E.N G w s a) :
    Rel E.N (callG G L) w (cmp L mc s) a ∧ Tr G w (callG G L) w ∧ Kp k mv G (callG G L) ∧ k ≤ mc.length := by
  have hN := nodupL_ok hL
  have hR := call_ren G L
  have hkeep : ∀ j, j < k → j ∉ mv → L[j]? = some j := fun j hj hm => by
    unfold keepL at hk
    simp only [Bool.and_eq_true, List.all_eq_true] at hk
    have := hk.2 j (List.mem_range.2 hj)
    simp only [Bool.or_eq_true] at this
    rcases this with h | h
    · cases hp : posOf j mv with
      | none => rw [hp] at h; cases h
      | some p => exact absurd (List.mem_of_getElem? (posOf_some hp)) hm
    · cases hq : L[j]? with
      | none => rw [hq] at h; cases h
      | some i => rw [hq] at h; rw [Nat.eq_of_beq_eq_true h]
  refine ⟨⟨call_ok hr.ok hN hf, fun t => ?_, hr.n, hr.df⟩, ⟨rfl, rfl, rfl, Nat.le_refl _, fun b hb q => ⟨rfl, ?_⟩, fun _ _ => rfl⟩, fun j hj hm => ?_, ?_⟩
  · show VR (callG G L) w (renD L (s.A t)) _
    unfold renD
    split
    · rename_i y hy
      exact hR.vr (hr.fr t) hy
    · exact .any
  · rcases q with q | q <;> simp only [callG, q]
  · have := hkeep j hj hm
    simp only [callG, this]
    exact ⟨trivial, fun _ _ _ => trivial, fun _ _ _ _ _ h => h⟩
  · rw [(footM_get hf).1]
    unfold keepL at hk
    simp only [Bool.and_eq_true] at hk
    exact Nat.le_of_ble_eq_true hk.1
theorem Gst.cmp {L : List Nat} {mc : List (Option Ob)} (hL : nodupL L = true) (hk : keepL k mv L = true) (hf : footM s.m (fun id => posOf id L) L = some mc) : Gst E k mv s (cmp L mc s) := fun G w a hr => by
  obtain ⟨h1, h2, h3, h4⟩ := cmp_rel (E := E) (a := a) hL hk hf hr
  exact ⟨_, h1, h2, h3, fun _ => h4⟩
end
/-! ### an array stops changing -/
mutual
def frzV (id s : Nat) (es : List (List C)) : V → V
  | .sl i s' off len cl => bif Nat.beq i id && Nat.beq s' s && Nat.ble (off + len) es.length then .c (.ls ((es.drop off).take len)) else .sl i s' off len cl
  | .agg cs => .agg (frzL id s es cs)
  | .tup cs => .tup (frzL id s es cs)
  | x => x
def frzL (id s : Nat) (es : List (List C)) : List V → List V
  | [] => []
  | x :: r => frzV id s es x :: frzL id s es r
end
def frzO (id s : Nat) (es : List (List C)) : Option Ob → Option Ob
  | some (.box cs) => some (.box (frzL id s es cs))
  | o => o
def frz (id : Nat) (s : St) : Option St :=
  match obGet s.m id with
  | some (.arr n es) => some ⟨fun t => frzV id n es (s.A t), (s.m.set id none).map (frzO id n es)⟩
  | _ => none
theorem frzL_get {id s : Nat} {es : List (List C)} : ∀ {xs : List V}, (frzL id s es xs).length = xs.length ∧ ∀ (j : Nat), (frzL id s es xs)[j]? = (xs[j]?).map (frzV id s es)
  | [] => ⟨rfl, fun j => by simp [frzL]⟩
  | x :: r => by
    obtain ⟨h1, h2⟩ := frzL_get (id := id) (s := s) (es := es) (xs := r)
    refine ⟨by simp [frzL, h1], fun j => ?_⟩
    cases j with
    | zero => simp [frzL]
    | succ j => simpa [frzL] using h2 j
theorem obGet_eq {m : List (Option Ob)} {id : Nat} {o : Ob} (h : obGet m id = some o) : m[id]? = some (some o) := by
  unfold obGet at h
  split at h
  · rename_i o' ho; cases h; exact ho
  · cases h
section
variable {E : Env} {k : Nat} {mv : List Nat} {G G' G0 : Gh} {w w' w0 : World} {s s' : St} {a : Act}
theorem frzV_sound {id n : Nat} {es : List (List C)} (he : Ext G w G' w) (hz : ∀ off len cl v, off + len ≤ es.length → VR G w (.sl id n off len cl) v → CR G'.kd w (.ls ((es.drop off).take len)) v) {x : V} {v : Value} (h : VR G w x v) : VR G' w (frzV id n es x) v := by
  have same : ∀ {x : V}, VR G w x v → frzV id n es x = x → VR G' w (frzV id n es x) v := fun h e => by rw [e]; exact h.mono he
  induction h with
  | any => exact .any
  | c h => exact .c (h.mono he.imm)
  | nl => exact .nl
  | ic h => exact .ic (h.mono he.imm)
  | ptr h => exact (VR.ptr h).mono he
  | «at» f hk hc => exact (VR.at f hk hc).mono he
  | @sl i s' off len cap cl ao hl hcl hm h =>
    have hv : VR G w (.sl i s' off len cl) (.slice ao len cap) := .sl hl hcl hm h
    unfold frzV
    cases hb : (Nat.beq i id && Nat.beq s' n && Nat.ble (off + len) es.length) with
    | false => exact hv.mono he
    | true =>
      simp only [Bool.and_eq_true] at hb
      obtain ⟨⟨h1, h2⟩, h3⟩ := hb
      rw [Nat.eq_of_beq_eq_true h1, Nat.eq_of_beq_eq_true h2] at hv
      exact .c (hz off len cl _ (Nat.le_of_ble_eq_true h3) hv)
  | rw hl hm h => exact (VR.rw hl hm h).mono he
  | rp h => exact (VR.rp h).mono he
  | @agg cs vs hl h1 h ih =>
    obtain ⟨q1, q2⟩ := frzL_get (id := id) (s := n) (es := es) (xs := cs)
    refine .agg (q1.trans hl) h1 fun j x hj => ?_
    rw [q2 j] at hj
    cases hc : cs[j]? with
    | none => rw [hc] at hj; cases hj
    | some y => rw [hc] at hj; cases hj; exact ih j y hc fun h e => by rw [e]; exact h.mono he
  | @tup cs vs hl h ih =>
    obtain ⟨q1, q2⟩ := frzL_get (id := id) (s := n) (es := es) (xs := cs)
    refine .tup (q1.trans hl) fun j x hj => ?_
    rw [q2 j] at hj
    cases hc : cs[j]? with
    | none => rw [hc] at hj; cases hj
    | some y => rw [hc] at hj; cases hj; exact ih j y hc fun h e => by rw [e]; exact h.mono he
  | fn hl h ih => exact (VR.fn hl h).mono he
  | mp h => exact (VR.mp h).mono he
  | bb => exact .bb
theorem Gst.frzA {id : Nat} {s' : St} (h : frz id s = some s') : ∀ G w a, Rel E.N G w s a → ∃ G', Rel E.N G' w s' a ∧ Adv G w G' w ∧ (∀ j, G'.loc j = G.loc j) ∧ (k ≤ s.m.length → k ≤ s'.m.length) := by
  intro G w a hr
  unfold Go.Proofs.YtogfcpaalcebdaaE.frz at h
  split at h
  · rename_i n es ho
    cases h
    have ho := obGet_eq ho
    obtain ⟨G', h1, h2, h3, h4⟩ := frz_sound hr.ok ho
    refine ⟨G', ⟨⟨fun id2 o q => ?_, h1.imm, fun j hj => h1.fresh j (by simpa using hj), h1.new, h1.lt, h1.rlt, h1.ver, h1.frl⟩, fun t => frzV_sound h2.ext h4 (hr.fr t), hr.n, hr.df⟩, h2, h3, fun q => ?_⟩
    · have q : ((s.m.set id none).map (frzO id n es))[id2]? = some (some o) := q
      rw [List.getElem?_map] at q
      cases hm : (s.m.set id none)[id2]? with
      | none => rw [hm] at q; cases q
      | some z =>
        rw [hm] at q
        have q : frzO id n es z = some o := Option.some.inj q
        cases z with
        | none => cases q
        | some o0 =>
          have hO := h1.ob id2 o0 hm
          cases o0 with
          | box cs =>
            cases q
            obtain ⟨b, g1, g2, Cs, ty, g3, g4, g5, g6, g7⟩ := hO
            have hne : id2 ≠ id := by
              rintro rfl
              rw [List.getElem?_set, if_pos rfl] at hm
              split at hm <;> cases hm
            have hm0 : s.m[id2]? = some (some (.box cs)) := by
              rw [List.getElem?_set, if_neg (Ne.symm hne)] at hm
              exact hm
            obtain ⟨b', k1, k2, Cs', ty', k3, k4, k5, k6, k7⟩ := hr.ok.ob id2 _ hm0
            rw [h3, k1] at g1
            cases g1
            rw [k3] at g3
            cases g3
            obtain ⟨q1, q2⟩ := frzL_get (id := id) (s := n) (es := es) (xs := cs)
            refine ⟨b, by rw [h3]; exact k1, g2, Cs, ty, k3, g4, by rw [q1]; exact g5, g6, fun j hj x hx => ?_⟩
            rw [q2 j] at hx
            cases hc : cs[j]? with
            | none => rw [hc] at hx; cases hx
            | some y =>
              rw [hc] at hx
              cases hx
              exact frzV_sound h2.ext h4 (k7 j (by rw [q1] at hj; exact hj) y hc)
          | arr _ _ => cases q; exact hO
          | arw _ _ => cases q; exact hO
          | mp _ => cases q; exact hO
          | abs _ => cases q; exact hO
    · simpa using q
  · cases h
theorem Gst.frz {id : Nat} {s' : St} (h : frz id s = some s') : Gst E k mv s s' := fun G w a hr => by
  obtain ⟨G', h1, h2, h3, h4⟩ := Gst.frzA (k := k) h G w a hr
  exact ⟨G', h1, h2.tr, fun j _ _ => ⟨h3 j, fun b o q => (h2.ext.loc _ _ _ q).2.1, fun i c v b o q => (h2.ext.rl _ _ _ _ _ _ q).1⟩, h4⟩
theorem Gfa.frz {id : Nat} {s' : St} (h : frz id s = some s') : Gfa E s s' := by
  intro G w a hr
  have hg := h
  unfold Go.Proofs.YtogfcpaalcebdaaE.frz at h
  split at h
  · rename_i n es ho
    obtain ⟨G', h1, h2, h3, h4⟩ := frz_sound hr.ok (obGet_eq ho)
    obtain ⟨G2, q1, q2, q3, q4⟩ := Gst.frzA (k := 0) hg G w a hr
    cases h
    exact ⟨G2, q1, q2, q3, by simp⟩
  · cases h
def nlV : V → V
  | .nl => .c (.ls [])
  | .agg cs => .agg (nlL cs)
  | x => x
where nlL : List V → List V
  | [] => []
  | x :: r => nlV x :: nlL r
theorem nlL_get : ∀ {xs : List V}, (nlV.nlL xs).length = xs.length ∧ ∀ (j : Nat), (nlV.nlL xs)[j]? = (xs[j]?).map nlV
  | [] => ⟨rfl, fun j => by simp [nlV.nlL]⟩
  | x :: r => by
    obtain ⟨h1, h2⟩ := nlL_get (xs := r)
    refine ⟨by simp [nlV.nlL, h1], fun j => ?_⟩
    cases j with
    | zero => simp [nlV.nlL]
    | succ j => simpa [nlV.nlL] using h2 j
theorem nlV_sound {x : V} {v : Value} (h : VR G w x v) : VR G w (nlV x) v := by
  induction h with
  | nl => exact .c (.ls0 (Nat.zero_le _))
  | @agg cs vs hl h1 h ih =>
    obtain ⟨q1, q2⟩ := nlL_get (xs := cs)
    unfold nlV
    refine .agg (q1.trans hl) h1 fun j x hj => ?_
    rw [q2 j] at hj
    cases hc : cs[j]? with
    | none => rw [hc] at hj; cases hj
    | some y => rw [hc] at hj; cases hj; exact ih j y hc
  | any => exact .any
  | c h => exact .c h
  | ic h => exact .ic h
  | ptr h => exact .ptr h
  | «at» f hk hc => exact .at f hk hc
  | sl hl hcl hm h => exact .sl hl hcl hm h
  | rw hl hm h => exact .rw hl hm h
  | rp h => exact .rp h
  | tup hl h ih => exact .tup hl h
  | fn hl h ih => exact .fn hl h
  | mp h => exact .mp h
  | bb => exact .bb
theorem Gfa.nl : Gfa E s ⟨fun t => nlV (s.A t), s.m⟩ := fun G w a hr => ⟨G, ⟨hr.ok, fun t => nlV_sound (hr.fr t), hr.n, hr.df⟩, .refl _ _, fun _ => rfl, rfl⟩
theorem Gfa.gst {s' : St} (h : Gfa E s s') : Gst E k mv s s' := fun G w a hr => by
  obtain ⟨G', h1, h2, h3, h4⟩ := h G w a hr
  exact ⟨G', h1, h2.tr, fun j _ _ => ⟨h3 j, fun b o q => (h2.ext.loc _ _ _ q).2.1, fun i c v b o q => (h2.ext.rl _ _ _ _ _ _ q).1⟩, fun q => by rw [h4]; exact q⟩
theorem Gst.emp {t sz : Nat} (ht : s.A t = .nl) : Gst E k mv s ⟨fun u => if u = t then .sl s.m.length sz 0 0 false else s.A u, s.m ++ [some (.arr sz [])]⟩ := fun G w a hr => by
  obtain ⟨p1, p2⟩ := pad_rel (n := 1) hr
  obtain ⟨u1, u2⟩ := p2 s.m.length (Nat.le_refl _) (by omega)
  obtain ⟨h1, h2⟩ := p1.ok.none (s := sz) u1 u2
  refine ⟨_, ⟨?_, fun u => ?_, hr.n, hr.df⟩, h2.tr, fun j hj _ => ⟨rfl, fun b o q => (h2.ext.loc _ _ _ q).2.1, fun i c v b o q => (h2.ext.rl _ _ _ _ _ _ q).1⟩, fun q => by rw [List.length_append]; exact Nat.le_trans q (Nat.le_add_right _ _)⟩
  · have e : (pad s 1).m.set s.m.length (some (.arr sz [])) = s.m ++ [some (.arr sz [])] := by
      show (s.m ++ [none]).set s.m.length _ = _
      simp
    rw [e] at h1
    exact h1
  · show VR _ w (if u = t then V.sl s.m.length sz 0 0 false else s.A u) _
    have hu := hr.fr u
    by_cases e : u = t
    · subst e
      rw [ht] at hu
      rw [if_pos rfl]
      generalize a.tmps.getD u undef = v at hu
      cases hu
      exact .sl (Nat.le_refl _) (fun q => by cases q) (Nat.zero_le _) (fun q => absurd q (by omega))
    · rw [if_neg e]
      exact hu.mono h2.ext
theorem Gst.empB {id j sz : Nat} {cs : List V} (hb : s.m[id]? = some (some (.box cs))) (hj : cs[j]? = some .nl) : Gst E k mv s ⟨s.A, s.m.set id (some (.box (cs.set j (.sl s.m.length sz 0 0 false)))) ++ [some (.arr sz [])]⟩ := fun G w a hr => by
  obtain ⟨p1, p2⟩ := pad_rel (n := 1) hr
  obtain ⟨u1, u2⟩ := p2 s.m.length (Nat.le_refl _) (by omega)
  obtain ⟨h1, h2⟩ := p1.ok.none (s := sz) u1 u2
  have hid := (List.getElem?_eq_some_iff.1 hb).1
  have e : (pad s 1).m.set s.m.length (some (.arr sz [])) = s.m ++ [some (.arr sz [])] := by
    show (s.m ++ [none]).set s.m.length _ = _
    simp
  rw [e] at h1
  refine ⟨_, ⟨?_, fun u => (hr.fr u).mono h2.ext, hr.n, hr.df⟩, h2.tr, fun j hj _ => ⟨rfl, fun b o q => (h2.ext.loc _ _ _ q).2.1, fun i c v b o q => (h2.ext.rl _ _ _ _ _ _ q).1⟩, fun q => by rw [List.length_append, List.length_set]; exact Nat.le_trans q (Nat.le_add_right _ _)⟩
  have e2 : s.m.set id (some (Ob.box (cs.set j (.sl s.m.length sz 0 0 false)))) ++ [some (Ob.arr sz [])] = (s.m ++ [some (Ob.arr sz [])]).set id (some (Ob.box (cs.set j (.sl s.m.length sz 0 0 false)))) := by
    rw [List.set_append_left _ _ hid]
  rw [e2]
  have hm : (s.m ++ [some (Ob.arr sz [])])[id]? = some (some (.box cs)) := by rw [List.getElem?_append_left hid]; exact hb
  refine h1.put (live_lt hm) (.refl _ _) (fun _ _ _ _ _ => ⟨rfl, rfl⟩) (fun _ _ => ⟨rfl, rfl, rfl⟩) h1.imm h1.new h1.lt h1.rlt h1.ver (h1.frl _) (fun o q => ?_)
  cases q
  obtain ⟨b, hB⟩ := h1.ob id _ hm
  refine ⟨b, ?_⟩
  obtain ⟨k1, k2, Cs, ty, k3, k4, k5, k6, k7⟩ := hB
  refine ⟨k1, k2, Cs, ty, k3, k4, by rw [List.length_set]; exact k5, k6, fun i hi x hx => ?_⟩
  rw [List.length_set] at hi
  rw [List.getElem?_set] at hx
  by_cases e : j = i
  · subst e
    rw [if_pos rfl, if_pos hi] at hx
    cases hx
    have := k7 j hi _ hj
    generalize Cs.getD (0 + j) undef = v at this
    cases this
    exact .sl (Nat.le_refl _) (fun q => by cases q) (Nat.zero_le _) (fun q => absurd q (by omega))
  · rw [if_neg e] at hx
    exact k7 i hi x hx
end
/-! ### a function's contract -/
def resV (T : Tab) (s : St) : ResultVar → Option V
  | .tmp t => some (s.A t)
  | .cell a t => aLoad T s.m t (s.A a)
def resL (T : Tab) (s : St) : List ResultVar → Option (List V)
  | [] => some []
  | r :: l => match resV T s r with
    | some x => match resL T s l with
      | some xs => some (x :: xs)
      | none => none
    | none => none
def resA (T : Tab) (rs : List ResultVar) (s : St) : Option V :=
  match resL T s rs with
  | some [x] => some x
  | some l => some (.tup l)
  | none => none
def lastA (E : Env) (k : Nat) (mv : List Nat) (rs : List ResultVar) (Post : V → List (Option Ob) → Prop) (s : St) : Prop :=
  ∃ r, resA E.T rs s = some r ∧ (Post r s.m ∨ ∃ L mc, nodupL L = true ∧ keepL k mv L = true ∧ footM s.m (fun id => posOf id L) L = some mc ∧ Post (renD L r) mc)
def endA (E : Env) (k : Nat) (mv : List Nat) (rs : List ResultVar) (Post : V → List (Option Ob) → Prop) : Exit → St → Prop
  | .normal, s => Gq E k mv (lastA E k mv rs Post) s
  | .ret, s => Gq E k mv (lastA E k mv rs Post) s
  | _, _ => False
def start (args : List V) (m : List (Option Ob)) : St := ⟨fun t => args.getD t .any, m⟩
section
variable {E : Env} {k : Nat} {mv : List Nat} {G G' G0 : Gh} {w w' w0 : World} {s s' : St} {a : Act}
theorem load_ptr {T : Tab} {m : List (Option Ob)} {t : TypeId} {x y : V} {v : Value} (h : VR G w x v) (he : aLoad T m t x = some y) : ∃ ad, v = .pointer (some ad) := by
  unfold aLoad at he
  split at he
  · split at he
    · split at he
      · cases h; exact ⟨_, rfl⟩
      · cases h; exact ⟨_, rfl⟩
      · cases he
    · split at he
      · cases h; exact ⟨_, rfl⟩
      · cases h; exact ⟨_, rfl⟩
      · cases h; exact ⟨_, rfl⟩
      · cases he
  · cases he
theorem resV_sound (hE : EnvOk E) (hr : Rel E.N G w s a) {r : ResultVar} {x : V} (h : resV E.T s r = some x) :
    ∃ v, (match r with
      | .tmp t => pure (a.tmps.getD t undef)
      | .cell q t => do loadVar t (← asAddr (a.tmps.getD q undef)) : Sem Value).run E.P w = .ok v w ∧ VR G w x v := by
  cases r with
  | tmp t => cases h; exact ⟨_, rfl, hr.fr t⟩
  | cell q t =>
    obtain ⟨u, h1, h2⟩ := load_sound (P := E.P) hE.T hr.ok (hr.fr q) h
    obtain ⟨ad, h3⟩ := load_ptr (hr.fr q) h
    refine ⟨u, ?_, h2⟩
    dsimp only
    rw [h3] at h1 ⊢
    exact h1
def resM (tmps : Array Value) : ResultVar → Sem Value
  | .tmp t => pure (tmps.getD t undef)
  | .cell q t => do loadVar t (← asAddr (tmps.getD q undef))
theorem resV_sound' (hE : EnvOk E) (hr : Rel E.N G w s a) {r : ResultVar} {x : V} (h : resV E.T s r = some x) : ∃ v, (resM a.tmps r).run E.P w = .ok v w ∧ VR G w x v := by
  obtain ⟨v, h1, h2⟩ := resV_sound hE hr h
  refine ⟨v, ?_, h2⟩
  cases r <;> exact h1
theorem resL_sound (hE : EnvOk E) (hr : Rel E.N G w s a) : ∀ (l : List ResultVar) (xs : List V), resL E.T s l = some xs → ∃ vs : List Value, (l.mapM (resM a.tmps)).run E.P w = .ok vs w ∧ xs.length = vs.length ∧ ∀ (j : Nat) x, xs[j]? = some x → ∃ v, vs[j]? = some v ∧ VR G w x v
  | [], xs, h => by cases h; exact ⟨[], rfl, rfl, fun j x q => by simp at q⟩
  | r :: l, xs, h => by
    unfold resL at h
    split at h
    · rename_i x hx
      split at h
      · rename_i ys hys
        cases h
        obtain ⟨v, h1, h2⟩ := resV_sound' hE hr hx
        obtain ⟨vs, g1, g2, g3⟩ := resL_sound hE hr l ys hys
        refine ⟨v :: vs, ?_, by simp [g2], fun j y hj => ?_⟩
        · rw [List.mapM_cons, Sem.run_bind, h1, Result.andThen_ok, Sem.run_bind, g1]
          rfl
        · cases j with
          | zero => cases hj; exact ⟨v, rfl, h2⟩
          | succ j => exact g3 j y (by simpa using hj)
      · cases h
    · cases h
theorem results_sound (hE : EnvOk E) (hr : Rel E.N G w s a) {fn : Func} {x : V} (h : resA E.T fn.results.toList s = some x) : ∃ v, (results fn a.tmps).run E.P w = .ok v w ∧ VR G w x v := by
  have hm : ∀ l, resL E.T s fn.results.toList = some l → ∃ vs : List Value, (results fn a.tmps).run E.P w = .ok (if h : vs.toArray.size = 1 then vs.toArray[0] else .tuple vs.toArray) w ∧ l.length = vs.length ∧ ∀ (j : Nat) x, l[j]? = some x → ∃ v, vs[j]? = some v ∧ VR G w x v := fun l hl => by
    obtain ⟨vs, h1, h2, h3⟩ := resL_sound hE hr _ _ hl
    refine ⟨vs, ?_, h2, h3⟩
    have e : results fn a.tmps = (do
      let vs ← fn.results.mapM (resM a.tmps)
      pure (if h : vs.size = 1 then vs[0] else .tuple vs)) := by
      unfold results
      congr 1
    rw [e, Array.mapM_eq_mapM_toList, Sem.run_bind, map_eq_pure_bind, Sem.run_bind, h1]
    rfl
  unfold resA at h
  split at h
  · rename_i y hy
    cases h
    obtain ⟨vs, h1, h2, h3⟩ := hm _ hy
    obtain ⟨v, g1, g2⟩ := h3 0 x rfl
    match vs, h2, g1, h1 with
    | [u], _, g1, h1 => cases g1; exact ⟨v, h1, g2⟩
  · rename_i l hne hl
    cases h
    obtain ⟨vs, h1, h2, h3⟩ := hm _ hl
    have hn : ¬ vs.toArray.size = 1 := by
      intro q
      match l, h2 with
      | [y], _ => exact hne y rfl
      | [], h2 => simp at q h2; omega
      | _ :: _ :: _, h2 => simp at q h2; omega
    rw [dif_neg hn] at h1
    refine ⟨_, h1, .tup (by simpa using h2) fun j x hj => ?_⟩
    obtain ⟨v, g1, g2⟩ := h3 j x hj
    have : vs.toArray.getD j undef = v := by
      rw [Array.getD_eq_getD_getElem?, List.getElem?_toArray, g1]; rfl
    rw [this]
    exact g2
  · cases h
theorem entry_sound (hE : EnvOk E) (hm : E.P.follows .mixedOrders = true) {f : FuncId} {fn : Func} {c : Code} (hf : E.P.funcs[f]? = some fn) (hb : fn.body = some c) (hN : E.N = fn.ntmps) {args : List V} {m : List (Option Ob)} (hle : args.length ≤ fn.ntmps) {Post : V → List (Option Ob) → List Nat → Prop} {mv : List Nat}
    (h : Awp E m.length mv c (endA E m.length mv fn.results.toList fun r m' => Post r m' mv) (start args m)) (G : Gh) (w : World) (vs : Array Value) (hok : Ok G w m) (hargs : VRL G w args vs) :
    Calls E.P f vs w fun e w' => ∃ v G' r m' mv, e = .returned v ∧ Post r m' mv ∧ Fin G w m G' w' m' mv ∧ VR G' w' r v := by
  refine calls_of_wp hf hb (wp_mono (Awp_sound (G0 := G) (w0 := w) hE hm c h ⟨hok, fun t => ?_, ?_, rfl⟩ (.refl _ _) (.refl _ _ _) (Nat.le_refl _)) fun e a' w' hq => ?_)
  · show VR G w (args.getD t .any) ((vs ++ Array.replicate (fn.ntmps - vs.size) undef).getD t undef)
    rw [List.getD_eq_getElem?_getD]
    cases hq : args[t]? with
    | none => exact .any
    | some x =>
      have hlt : t < vs.size := by rw [← hargs.1]; exact (List.getElem?_eq_some_iff.1 hq).1
      have : (vs ++ Array.replicate (fn.ntmps - vs.size) undef).getD t undef = vs.getD t undef := by
        simp only [Array.getD_eq_getD_getElem?]
        rw [Array.getElem?_append_left hlt]
      rw [this]
      exact hargs.2 t x hq
  · show (vs ++ Array.replicate (fn.ntmps - vs.size) undef).size = E.N
    have := hargs.1
    rw [hN]
    simp
    omega
  · obtain ⟨G', s', a1, a2, a3, a4, a5⟩ := hq
    have key : Gq E m.length mv (lastA E m.length mv fn.results.toList fun r m' => Post r m' mv) s' → a'.defers = [] ∧ ∃ v, (results fn a'.tmps).run E.P w' = .ok v w' ∧ ∃ v2 G' r m' mv, Ending.returned v = .returned v2 ∧ Post r m' mv ∧ Fin G w m G' w' m' mv ∧ VR G' w' r v2 := fun q => by
      obtain ⟨G2, s2, ⟨r, b6, b7⟩, b2, b3, b4, b5⟩ := q.out a2 a3 a4 a5
      obtain ⟨v, c1, c2⟩ := results_sound hE b2 b6
      refine ⟨b2.df, v, c1, ?_⟩
      rcases b7 with b7 | ⟨L, mc, d1, d2, d3, d4⟩
      · exact ⟨v, G2, r, s2.m, mv, rfl, b7, ⟨b2.ok, b3, b5, b4⟩, c2⟩
      · obtain ⟨e1, e2, e3, e4⟩ := cmp_rel (E := E) (k := m.length) (mv := mv) d1 d2 d3 b2
        refine ⟨v, callG G2 L, renD L r, mc, mv, rfl, d4, ⟨e1.ok, b3.trans e2, e4, b4.trans e3⟩, ?_⟩
        unfold renD
        split
        · rename_i y hy
          exact (call_ren G2 L).vr c2 hy
        · exact .any
    cases e with
    | normal => exact key a1
    | ret => exact key a1
    | _ => exact a1.elim
end
end Go.Proofs.YtogfcpaalcebdaaE
/- An engine for walks: rules for telling statements by `simp`. -/
namespace Go.Proofs.YtogfcpaalcebdaaE
open Go Go.RowKit
set_option linter.unusedVariables false
set_option linter.unusedSimpArgs false
abbrev Mem2 := List (Option Ob)
def up (A : Nat → V) (d : Nat) (v : V) : Nat → V := fun t => bif Nat.beq t d then v else A t
theorem up_get {A : Nat → V} {d t : Nat} {v : V} : up A d v t = if t = d then v else A t := by
  unfold up
  by_cases e : t = d
  · subst e; simp
  · rw [if_neg e]
    have : Nat.beq t d = false := by
      cases hb : Nat.beq t d with
      | false => rfl
      | true => exact absurd (Nat.eq_of_beq_eq_true hb) e
    rw [this]; rfl
theorem blt_dec (a b : Nat) : Nat.blt a b = decide (a < b) := by
  cases h : Nat.blt a b with
  | true => rw [Nat.blt_eq] at h; simp [h]
  | false =>
    have : ¬ a < b := fun q => by rw [← Nat.blt_eq, h] at q; cases q
    simp [this]
theorem ble_dec (a b : Nat) : Nat.ble a b = decide (a ≤ b) := by
  cases h : Nat.ble a b with
  | true => have := Nat.le_of_ble_eq_true h; simp [this]
  | false =>
    have : ¬ a ≤ b := fun q => by rw [Nat.ble_eq_true_of_le q] at h; cases h
    simp [this]
theorem beq_dec (a b : Nat) : Nat.beq a b = decide (a = b) := by
  cases h : Nat.beq a b with
  | true => have := Nat.eq_of_beq_eq_true h; simp [this]
  | false =>
    have : ¬ a = b := fun q => by subst q; simp at h
    simp [this]
section
variable {E : Env} {k : Nat} {mv : List Nat} {ops : List Oper} {K : St → Prop} {r : List Oper} {nid : Nat} {A : Nat → V} {m : Mem2} {d : Nat} {op : Op} {ty : TypeId} {pos : String} {aft : Array Edge} {g : Option (Nat × Bool)}
def WV (E : Env) (ops : List Oper) (K : St → Prop) (r : List Oper) (nid : Nat) (A : Nat → V) (m : Mem2) (d : Nat) (o : Option V) : Prop := ∃ v, o = some v ∧ Wl E ops K r nid ⟨up A d v, m⟩
theorem WV_some {x : V} : WV E ops K r nid A m d (some x) = Wl E ops K r nid ⟨up A d x, m⟩ := propext ⟨fun ⟨v, h, q⟩ => by cases h; exact q, fun h => ⟨x, rfl, h⟩⟩
theorem WV_ite {c : Prop} [Decidable c] {o : Option V} : WV E ops K r nid A m d (if c then o else none) = (c ∧ WV E ops K r nid A m d o) := by
  by_cases h : c
  · rw [if_pos h]; exact propext ⟨fun q => ⟨h, q⟩, fun q => q.2⟩
  · rw [if_neg h]; exact propext ⟨fun q => (by obtain ⟨v, q, _⟩ := q; cases q), fun q => absurd q.1 h⟩
def WS (E : Env) (ops : List Oper) (K : St → Prop) (r : List Oper) (nid : Nat) (A : Nat → V) (o : Option Mem2) : Prop := ∃ m, o = some m ∧ Wl E ops K r nid ⟨A, m⟩
theorem WS_some {m : Mem2} : WS E ops K r nid A (some m) = Wl E ops K r nid ⟨A, m⟩ := propext ⟨fun ⟨v, h, q⟩ => by cases h; exact q, fun h => ⟨m, rfl, h⟩⟩
def WC (E : Env) (ops : List Oper) (K : St → Prop) (r : List Oper) (nid : Nat) (A : Nat → V) (d : Nat) (f : V) (xs : List V) (m : Mem2) : Prop := WCall E f xs m fun v m' => Wl E ops K r nid ⟨up A d v, m'⟩
def WC0 (E : Env) (ops : List Oper) (K : St → Prop) (r : List Oper) (nid : Nat) (A : Nat → V) (f : V) (xs : List V) (m : Mem2) : Prop := WCall E f xs m fun v m' => Wl E ops K r nid ⟨A, m'⟩
def WG (E : Env) (ops : List Oper) (K : St → Prop) (r : List Oper) (nid : Nat) (A : Nat → V) (m : Mem2) (d : Nat) (op : Op) (ty : TypeId) (pos : String) (aft : Array Edge) (t : Option Bool) (b : Bool) : Prop := ∃ x, t = some x ∧ (x = b → Wl E ops K (⟨some d, op, ty, pos, aft, none⟩ :: r) nid ⟨A, m⟩) ∧ (x ≠ b → Wl E ops K r (nid + need ⟨some d, op, ty, pos, aft, none⟩) ⟨up A d (.tup []), m⟩)
theorem WG_br {x b : Bool} (h1 : x = b → Wl E ops K (⟨some d, op, ty, pos, aft, none⟩ :: r) nid ⟨A, m⟩) (h2 : x = !b → Wl E ops K r (nid + need ⟨some d, op, ty, pos, aft, none⟩) ⟨up A d (.tup []), m⟩) : WG E ops K r nid A m d op ty pos aft (some x) b := ⟨x, rfl, h1, fun h => h2 (by cases x <;> cases b <;> simp_all)⟩
theorem WG_tt : WG E ops K r nid A m d op ty pos aft (some true) true = Wl E ops K (⟨some d, op, ty, pos, aft, none⟩ :: r) nid ⟨A, m⟩ := propext ⟨fun ⟨x, h, h1, _⟩ => by cases h; exact h1 rfl, fun h => ⟨_, rfl, fun _ => h, fun h => absurd rfl h⟩⟩
theorem WG_ff : WG E ops K r nid A m d op ty pos aft (some false) false = Wl E ops K (⟨some d, op, ty, pos, aft, none⟩ :: r) nid ⟨A, m⟩ := propext ⟨fun ⟨x, h, h1, _⟩ => by cases h; exact h1 rfl, fun h => ⟨_, rfl, fun _ => h, fun h => absurd rfl h⟩⟩
theorem WG_tf : WG E ops K r nid A m d op ty pos aft (some true) false = Wl E ops K r (nid + need ⟨some d, op, ty, pos, aft, none⟩) ⟨up A d (.tup []), m⟩ := propext ⟨fun ⟨x, h, _, h1⟩ => by cases h; exact h1 (by simp), fun h => ⟨_, rfl, fun h => (by cases h), fun _ => h⟩⟩
theorem WG_ft : WG E ops K r nid A m d op ty pos aft (some false) true = Wl E ops K r (nid + need ⟨some d, op, ty, pos, aft, none⟩) ⟨up A d (.tup []), m⟩ := propext ⟨fun ⟨x, h, _, h1⟩ => by cases h; exact h1 (by simp), fun h => ⟨_, rfl, fun h => (by cases h), fun _ => h⟩⟩
theorem wl_end {s : St} : Wl E ops K [] nid s = K s := rfl
theorem wl_pick {x y z : Operand} : Wl E ops K (⟨some d, .pick x y z, ty, pos, aft, none⟩ :: r) nid ⟨A, m⟩ = WV E ops K r nid A m d (pPick (ev A x) (ev A y) (ev A z)) := rfl
theorem wl_move {x : Operand} : Wl E ops K (⟨some d, .move x, ty, pos, aft, none⟩ :: r) nid ⟨A, m⟩ = WV E ops K r nid A m d (some (ev A x)) := rfl
theorem wl_assign {x : Operand} : Wl E ops K (⟨some d, .assign x, ty, pos, aft, none⟩ :: r) nid ⟨A, m⟩ = WV E ops K r nid A m d (some (ev A x)) := rfl
theorem wl_build {t : TypeId} {ps : Array (Nat × Operand)} : Wl E ops K (⟨some d, .build t ps, ty, pos, aft, none⟩ :: r) nid ⟨A, m⟩ = WV E ops K r nid A m d (pBuild E.T t (ps.toList.map fun (i, x) => (i, ev A x))) := rfl
theorem wl_nil {x : Operand} : Wl E ops K (⟨some d, .nilCheck x, ty, pos, aft, none⟩ :: r) nid ⟨A, m⟩ = WV E ops K r nid A m d (pNil (ev A x)) := rfl
theorem wl_bin {b : BinOp} {t u : TypeId} {x y : Operand} : Wl E ops K (⟨some d, .binOp b t x y u, ty, pos, aft, none⟩ :: r) nid ⟨A, m⟩ = WV E ops K r nid A m d (pBin E.T b t (ev A x) (ev A y)) := rfl
theorem wl_un {b : UnOp} {t : TypeId} {x : Operand} : Wl E ops K (⟨some d, .unOp b t x, ty, pos, aft, none⟩ :: r) nid ⟨A, m⟩ = WV E ops K r nid A m d (pUn b (ev A x)) := rfl
theorem wl_conv {t u : TypeId} {x : Operand} : Wl E ops K (⟨some d, .convert t u x, ty, pos, aft, none⟩ :: r) nid ⟨A, m⟩ = WV E ops K r nid A m d (pConv E.T t u (ev A x)) := rfl
theorem wl_slice {t : TypeId} {x : Operand} {l h q : Option Operand} : Wl E ops K (⟨some d, .slice t x l h q, ty, pos, aft, none⟩ :: r) nid ⟨A, m⟩ = WV E ops K r nid A m d (pSlice E.T t (ev A x) (optV (ev A) l) (optV (ev A) h) (optV (ev A) q)) := rfl
theorem wl_fa {t : TypeId} {x : Operand} {f : Nat} : Wl E ops K (⟨some d, .fieldAddr t x f, ty, pos, aft, none⟩ :: r) nid ⟨A, m⟩ = WV E ops K r nid A m d (pFieldAddr E.T t (ev A x) f) := rfl
theorem wl_fl {t : TypeId} {x : Operand} {f : Nat} : Wl E ops K (⟨some d, .field t x f, ty, pos, aft, none⟩ :: r) nid ⟨A, m⟩ = WV E ops K r nid A m d (pField E.T t (ev A x) f) := rfl
theorem wl_ia {t : TypeId} {x y : Operand} : Wl E ops K (⟨some d, .indexAddr t x y, ty, pos, aft, none⟩ :: r) nid ⟨A, m⟩ = WV E ops K r nid A m d (pIndexAddr E.T t (ev A x) (ev A y)) := rfl
theorem wl_ix {t : TypeId} {x y : Operand} : Wl E ops K (⟨some d, .index t x y, ty, pos, aft, none⟩ :: r) nid ⟨A, m⟩ = WV E ops K r nid A m d (pIndex E.T t (ev A x) (ev A y)) := rfl
theorem wl_ext {x : Operand} {i : Nat} : Wl E ops K (⟨some d, .extract x i, ty, pos, aft, none⟩ :: r) nid ⟨A, m⟩ = WV E ops K r nid A m d (pExt (ev A x) i) := rfl
theorem wl_len {x : Operand} {ts : Array TypeId} : Wl E ops K (⟨some d, .call ⟨.builtin .len, #[x], ts⟩, ty, pos, aft, none⟩ :: r) nid ⟨A, m⟩ = WV E ops K r nid A m d (pLen E.T ts (ev A x)) := rfl
theorem wl_min {x y : Operand} {ts : Array TypeId} : Wl E ops K (⟨some d, .call ⟨.builtin .min, #[x, y], ts⟩, ty, pos, aft, none⟩ :: r) nid ⟨A, m⟩ = WV E ops K r nid A m d (pMM false [ev A x, ev A y]) := rfl
theorem wl_max {x y : Operand} {ts : Array TypeId} : Wl E ops K (⟨some d, .call ⟨.builtin .max, #[x, y], ts⟩, ty, pos, aft, none⟩ :: r) nid ⟨A, m⟩ = WV E ops K r nid A m d (pMM true [ev A x, ev A y]) := rfl
theorem wl_load {t : TypeId} {x : Operand} : Wl E ops K (⟨some d, .load t x, ty, pos, aft, none⟩ :: r) nid ⟨A, m⟩ = WV E ops K r nid A m d (aLoad E.T m t (ev A x)) := rfl
theorem wl_call {f : Operand} {args : Array Operand} {ts : Array TypeId} : Wl E ops K (⟨some d, .call ⟨.value f, args, ts⟩, ty, pos, aft, none⟩ :: r) nid ⟨A, m⟩ = WC E ops K r nid A d (ev A f) (args.toList.map (ev A)) m := rfl
theorem wl_call0 {f : Operand} {args : Array Operand} {ts : Array TypeId} : Wl E ops K (⟨none, .call ⟨.value f, args, ts⟩, ty, pos, aft, none⟩ :: r) nid ⟨A, m⟩ = WC0 E ops K r nid A (ev A f) (args.toList.map (ev A)) m := rfl
theorem wl_store {t : TypeId} {x y : Operand} (h : WS E ops K r nid A (aStore E.T m t (ev A x) (ev A y))) : Wl E ops K (⟨none, .store t x y, ty, pos, aft, none⟩ :: r) nid ⟨A, m⟩ := .inl h
theorem wl_alloc {t : TypeId} {i : TI} (h : look E.T t = some i) (h2 : Wl E ops K r (nid + 1) ⟨up A d (.ptr nid 0 0), m.set nid (some (.box (zerosV i)))⟩) : Wl E ops K (⟨some d, .alloc t, ty, pos, aft, none⟩ :: r) nid ⟨A, m⟩ := ⟨i, h, h2⟩
theorem wl_box {t : TypeId} {x : Operand} {xs : List V} (h : cellsV (ev A x) = some xs) (h2 : Wl E ops K r (nid + 1) ⟨up A d (.ptr nid 0 0), m.set nid (some (.box xs))⟩) : Wl E ops K (⟨some d, .box t x, ty, pos, aft, none⟩ :: r) nid ⟨A, m⟩ := ⟨xs, h, h2⟩
theorem wl_g {j : Nat} {b : Bool} : Wl E ops K (⟨some d, op, ty, pos, aft, some (j, b)⟩ :: r) nid ⟨A, m⟩ = WG E ops K r nid A m d op ty pos aft (guardV ops A j b) b := by
  cases op <;> rfl
/-! ### where the order is open -/
variable {lw nn ii : Nat} {qs : List Nat} {rr : List Nu}
def RV (E : Env) (lw : Nat) (qs : List Nat) (ops : List Oper) (K : St → Prop) (rr : List Nu) (A : Nat → V) (m : Mem2) (d : Nat) (o : Option V) : Prop := ∃ v, o = some v ∧ Wr E lw qs ops K rr ⟨up A d v, m⟩
theorem RV_some {x : V} : RV E lw qs ops K rr A m d (some x) = Wr E lw qs ops K rr ⟨up A d x, m⟩ := propext ⟨fun ⟨v, h, q⟩ => by cases h; exact q, fun h => ⟨x, rfl, h⟩⟩
theorem RV_ite {c : Prop} [Decidable c] {o : Option V} : RV E lw qs ops K rr A m d (if c then o else none) = (c ∧ RV E lw qs ops K rr A m d o) := by
  by_cases h : c
  · rw [if_pos h]; exact propext ⟨fun q => ⟨h, q⟩, fun q => q.2⟩
  · rw [if_neg h]; exact propext ⟨fun q => (by obtain ⟨v, q, _⟩ := q; cases q), fun q => absurd q.1 h⟩
def RS (E : Env) (lw : Nat) (qs : List Nat) (ops : List Oper) (K : St → Prop) (rr : List Nu) (A : Nat → V) (o : Option Mem2) : Prop := ∃ m, o = some m ∧ Wr E lw qs ops K rr ⟨A, m⟩
theorem RS_some {m : Mem2} : RS E lw qs ops K rr A (some m) = Wr E lw qs ops K rr ⟨A, m⟩ := propext ⟨fun ⟨v, h, q⟩ => by cases h; exact q, fun h => ⟨m, rfl, h⟩⟩
def RQ (E : Env) (lw : Nat) (qs : List Nat) (ops : List Oper) (K : St → Prop) (rr : List Nu) (A : Nat → V) (d : Nat) (f : V) (xs : List V) (m : Mem2) : Prop := WCallQ E lw f xs m fun v m' => Wr E lw qs ops K rr ⟨up A d v, m'⟩
def RC (E : Env) (lw : Nat) (qs : List Nat) (ops : List Oper) (K : St → Prop) (rr : List Nu) (A : Nat → V) (d : Nat) (f : V) (xs : List V) (m : Mem2) : Prop := WCall E f xs m fun v m' => Wr E lw qs ops K rr ⟨up A d v, m'⟩
def RC0 (E : Env) (lw : Nat) (qs : List Nat) (ops : List Oper) (K : St → Prop) (rr : List Nu) (A : Nat → V) (f : V) (xs : List V) (m : Mem2) : Prop := WCall E f xs m fun v m' => Wr E lw qs ops K rr ⟨A, m'⟩
def RG (E : Env) (lw : Nat) (qs : List Nat) (ops : List Oper) (K : St → Prop) (rr : List Nu) (ii nn : Nat) (A : Nat → V) (m : Mem2) (d : Nat) (op : Op) (ty : TypeId) (pos : String) (aft : Array Edge) (t : Option Bool) (b : Bool) : Prop := ∃ x, t = some x ∧ (x = b → Wr E lw qs ops K ((ii, ⟨some d, op, ty, pos, aft, none⟩, nn) :: rr) ⟨A, m⟩) ∧ (x ≠ b → Wr E lw qs ops K rr ⟨up A d (.tup []), m⟩)
theorem RG_br {x b : Bool} (h1 : x = b → Wr E lw qs ops K ((ii, ⟨some d, op, ty, pos, aft, none⟩, nn) :: rr) ⟨A, m⟩) (h2 : x = !b → Wr E lw qs ops K rr ⟨up A d (.tup []), m⟩) : RG E lw qs ops K rr ii nn A m d op ty pos aft (some x) b := ⟨x, rfl, h1, fun h => h2 (by cases x <;> cases b <;> simp_all)⟩
theorem RG_tt : RG E lw qs ops K rr ii nn A m d op ty pos aft (some true) true = Wr E lw qs ops K ((ii, ⟨some d, op, ty, pos, aft, none⟩, nn) :: rr) ⟨A, m⟩ := propext ⟨fun ⟨x, h, h1, _⟩ => by cases h; exact h1 rfl, fun h => ⟨_, rfl, fun _ => h, fun h => absurd rfl h⟩⟩
theorem RG_ff : RG E lw qs ops K rr ii nn A m d op ty pos aft (some false) false = Wr E lw qs ops K ((ii, ⟨some d, op, ty, pos, aft, none⟩, nn) :: rr) ⟨A, m⟩ := propext ⟨fun ⟨x, h, h1, _⟩ => by cases h; exact h1 rfl, fun h => ⟨_, rfl, fun _ => h, fun h => absurd rfl h⟩⟩
theorem RG_tf : RG E lw qs ops K rr ii nn A m d op ty pos aft (some true) false = Wr E lw qs ops K rr ⟨up A d (.tup []), m⟩ := propext ⟨fun ⟨x, h, _, h1⟩ => by cases h; exact h1 (by simp), fun h => ⟨_, rfl, fun h => (by cases h), fun _ => h⟩⟩
theorem RG_ft : RG E lw qs ops K rr ii nn A m d op ty pos aft (some false) true = Wr E lw qs ops K rr ⟨up A d (.tup []), m⟩ := propext ⟨fun ⟨x, h, _, h1⟩ => by cases h; exact h1 (by simp), fun h => ⟨_, rfl, fun h => (by cases h), fun _ => h⟩⟩
theorem wr_end {s : St} : Wr E lw qs ops K [] s = K s := rfl
theorem wr_pick {x y z : Operand} : Wr E lw qs ops K ((ii, ⟨some d, .pick x y z, ty, pos, aft, none⟩, nn) :: rr) ⟨A, m⟩ = RV E lw qs ops K rr A m d (pPick (ev A x) (ev A y) (ev A z)) := rfl
theorem wr_move {x : Operand} : Wr E lw qs ops K ((ii, ⟨some d, .move x, ty, pos, aft, none⟩, nn) :: rr) ⟨A, m⟩ = RV E lw qs ops K rr A m d (some (ev A x)) := rfl
theorem wr_assign {x : Operand} : Wr E lw qs ops K ((ii, ⟨some d, .assign x, ty, pos, aft, none⟩, nn) :: rr) ⟨A, m⟩ = RV E lw qs ops K rr A m d (some (ev A x)) := rfl
theorem wr_build {t : TypeId} {ps : Array (Nat × Operand)} : Wr E lw qs ops K ((ii, ⟨some d, .build t ps, ty, pos, aft, none⟩, nn) :: rr) ⟨A, m⟩ = RV E lw qs ops K rr A m d (pBuild E.T t (ps.toList.map fun (i, x) => (i, ev A x))) := rfl
theorem wr_nil {x : Operand} : Wr E lw qs ops K ((ii, ⟨some d, .nilCheck x, ty, pos, aft, none⟩, nn) :: rr) ⟨A, m⟩ = RV E lw qs ops K rr A m d (pNil (ev A x)) := rfl
theorem wr_bin {b : BinOp} {t u : TypeId} {x y : Operand} : Wr E lw qs ops K ((ii, ⟨some d, .binOp b t x y u, ty, pos, aft, none⟩, nn) :: rr) ⟨A, m⟩ = RV E lw qs ops K rr A m d (pBin E.T b t (ev A x) (ev A y)) := rfl
theorem wr_un {b : UnOp} {t : TypeId} {x : Operand} : Wr E lw qs ops K ((ii, ⟨some d, .unOp b t x, ty, pos, aft, none⟩, nn) :: rr) ⟨A, m⟩ = RV E lw qs ops K rr A m d (pUn b (ev A x)) := rfl
theorem wr_conv {t u : TypeId} {x : Operand} : Wr E lw qs ops K ((ii, ⟨some d, .convert t u x, ty, pos, aft, none⟩, nn) :: rr) ⟨A, m⟩ = RV E lw qs ops K rr A m d (pConv E.T t u (ev A x)) := rfl
theorem wr_slice {t : TypeId} {x : Operand} {l h q : Option Operand} : Wr E lw qs ops K ((ii, ⟨some d, .slice t x l h q, ty, pos, aft, none⟩, nn) :: rr) ⟨A, m⟩ = RV E lw qs ops K rr A m d (pSlice E.T t (ev A x) (optV (ev A) l) (optV (ev A) h) (optV (ev A) q)) := rfl
theorem wr_fa {t : TypeId} {x : Operand} {f : Nat} : Wr E lw qs ops K ((ii, ⟨some d, .fieldAddr t x f, ty, pos, aft, none⟩, nn) :: rr) ⟨A, m⟩ = RV E lw qs ops K rr A m d (pFieldAddr E.T t (ev A x) f) := rfl
theorem wr_fl {t : TypeId} {x : Operand} {f : Nat} : Wr E lw qs ops K ((ii, ⟨some d, .field t x f, ty, pos, aft, none⟩, nn) :: rr) ⟨A, m⟩ = RV E lw qs ops K rr A m d (pField E.T t (ev A x) f) := rfl
theorem wr_ia {t : TypeId} {x y : Operand} : Wr E lw qs ops K ((ii, ⟨some d, .indexAddr t x y, ty, pos, aft, none⟩, nn) :: rr) ⟨A, m⟩ = RV E lw qs ops K rr A m d (pIndexAddr E.T t (ev A x) (ev A y)) := rfl
theorem wr_ix {t : TypeId} {x y : Operand} : Wr E lw qs ops K ((ii, ⟨some d, .index t x y, ty, pos, aft, none⟩, nn) :: rr) ⟨A, m⟩ = RV E lw qs ops K rr A m d (pIndex E.T t (ev A x) (ev A y)) := rfl
theorem wr_ext {x : Operand} {i : Nat} : Wr E lw qs ops K ((ii, ⟨some d, .extract x i, ty, pos, aft, none⟩, nn) :: rr) ⟨A, m⟩ = RV E lw qs ops K rr A m d (pExt (ev A x) i) := rfl
theorem wr_len {x : Operand} {ts : Array TypeId} : Wr E lw qs ops K ((ii, ⟨some d, .call ⟨.builtin .len, #[x], ts⟩, ty, pos, aft, none⟩, nn) :: rr) ⟨A, m⟩ = RV E lw qs ops K rr A m d (pLen E.T ts (ev A x)) := rfl
theorem wr_min {x y : Operand} {ts : Array TypeId} : Wr E lw qs ops K ((ii, ⟨some d, .call ⟨.builtin .min, #[x, y], ts⟩, ty, pos, aft, none⟩, nn) :: rr) ⟨A, m⟩ = RV E lw qs ops K rr A m d (pMM false [ev A x, ev A y]) := rfl
theorem wr_max {x y : Operand} {ts : Array TypeId} : Wr E lw qs ops K ((ii, ⟨some d, .call ⟨.builtin .max, #[x, y], ts⟩, ty, pos, aft, none⟩, nn) :: rr) ⟨A, m⟩ = RV E lw qs ops K rr A m d (pMM true [ev A x, ev A y]) := rfl
theorem wr_load {t : TypeId} {x : Operand} : Wr E lw qs ops K ((ii, ⟨some d, .load t x, ty, pos, aft, none⟩, nn) :: rr) ⟨A, m⟩ = RV E lw qs ops K rr A m d (bif lowB lw (ev A x) then aLoad E.T m t (ev A x) else none) := by
  apply propext
  show (∃ v, (lowB lw (ev A x) = true ∧ aLoad E.T m t (ev A x) = some v) ∧ Wr E lw qs ops K rr ⟨up A d v, m⟩) ↔ _
  cases lowB lw (ev A x) with
  | true => exact ⟨fun ⟨v, h, q⟩ => ⟨v, h.2, q⟩, fun ⟨v, h, q⟩ => ⟨v, ⟨rfl, h⟩, q⟩⟩
  | false => exact ⟨fun ⟨v, h, q⟩ => (by cases h.1), fun ⟨v, h, q⟩ => (by cases h)⟩
theorem wr_call {f : FuncId} {args : Array Operand} {ts : Array TypeId} : Wr E lw qs ops K ((ii, ⟨some d, .call ⟨.value (.func f), args, ts⟩, ty, pos, aft, none⟩, nn) :: rr) ⟨A, m⟩ = bif qs.elem f then RQ E lw qs ops K rr A d (.fn f []) (args.toList.map (ev A)) m else RC E lw qs ops K rr A d (.fn f []) (args.toList.map (ev A)) m := rfl
theorem wr_call0 {f : FuncId} {args : Array Operand} {ts : Array TypeId} (hq : qs.elem f = false) (h : RC0 E lw qs ops K rr A (.fn f []) (args.toList.map (ev A)) m) : Wr E lw qs ops K ((ii, ⟨none, .call ⟨.value (.func f), args, ts⟩, ty, pos, aft, none⟩, nn) :: rr) ⟨A, m⟩ := by
  show (bif qs.elem f then _ else _)
  rw [hq]
  exact h
theorem wr_g {j : Nat} {b : Bool} : Wr E lw qs ops K ((ii, ⟨some d, op, ty, pos, aft, some (j, b)⟩, nn) :: rr) ⟨A, m⟩ = RG E lw qs ops K rr ii nn A m d op ty pos aft (guardV ops A j b) b := by
  cases op <;> rfl
theorem wr_store {t : TypeId} {x y : Operand} (h : RS E lw qs ops K rr A (aStore E.T m t (ev A x) (ev A y))) : Wr E lw qs ops K ((ii, ⟨none, .store t x y, ty, pos, aft, none⟩, nn) :: rr) ⟨A, m⟩ := .inl h
theorem wr_alloc {t : TypeId} {i : TI} (h : look E.T t = some i) (h2 : Wr E lw qs ops K rr ⟨up A d (.ptr nn 0 0), m.set nn (some (.box (zerosV i)))⟩) : Wr E lw qs ops K ((ii, ⟨some d, .alloc t, ty, pos, aft, none⟩, nn) :: rr) ⟨A, m⟩ := ⟨i, h, h2⟩
theorem wr_box {t : TypeId} {x : Operand} {xs : List V} (h : cellsV (ev A x) = some xs) (h2 : Wr E lw qs ops K rr ⟨up A d (.ptr nn 0 0), m.set nn (some (.box xs))⟩) : Wr E lw qs ops K ((ii, ⟨some d, .box t x, ty, pos, aft, none⟩, nn) :: rr) ⟨A, m⟩ := ⟨xs, h, h2⟩
/-! ### code -/
def Kont (K P : St → Prop) : Prop := ∀ s, P s → K s
theorem kont {K P : St → Prop} {s : St} (h : Kont K P) (hp : P s) : K s := h s hp
theorem Awp_reg {id : Nat} {o : Array Oper} {Q : Exit → St → Prop} {s : St} (h1 : dstOk E.N o.toList = true) (h : ∀ K : St → Prop, Kont K (Q .normal) → Wl E o.toList K o.toList s.m.length (pad s (needs o.toList))) : Awp E k mv (.region id o false) Q s := ⟨[], h1, h _ fun _ h => h⟩
theorem Awp_regS (cuts : List Nat) {id : Nat} {o : Array Oper} {Q : Exit → St → Prop} {s : St} (h1 : dstOk E.N o.toList = true) (h : ∀ K : St → Prop, Kont K (Q .normal) → Wls E o.toList K cuts o.toList s.m.length (pad s (needs o.toList))) : Awp E k mv (.region id o false) Q s := ⟨cuts, h1, h _ fun _ h => h⟩
theorem wls_cons {n : Nat} {c : List Nat} {l : List Oper} {s : St} (h : ∀ K' : St → Prop, Kont K' (fun s1 => ∃ s2, Gfa E s1 s2 ∧ Wls E ops K c (l.drop n) (nid + needs (l.take n)) s2) → Wl E ops K' (l.take n) nid s) : Wls E ops K (n :: c) l nid s := h _ fun _ h => h
theorem wls_nil {l : List Oper} {s : St} (h : Wl E ops K l nid s) : Wls E ops K [] l nid s := h
theorem Awp_regD {id : Nat} {o : Array Oper} {Q : Exit → St → Prop} {s : St} (qs : List Nat) (h1 : dstOk E.N o.toList = true) (h2 : okDraw qs o = true) (h : ∀ K : St → Prop, Kont K (Q .normal) → Wr E s.m.length qs o.toList K (numb o.toList 0 s.m.length) (pad s (needs o.toList))) : Awp E k mv (.region id o true) Q s := ⟨qs, h1, h2, h _ fun _ h => h⟩
theorem Awp_sq {x y : Code} {Q : Exit → St → Prop} {s : St} (h : ∀ K : St → Prop, Kont K (Awp E k mv y Q) → Awp E k mv x (thenA K Q) s) : Awp E k mv (.seq x y) Q s := Awp_mono x (thenA_mono (fun s q => Gq.here q) fun _ _ q => q) (h _ fun _ h => h)
theorem Awp_sqG {x y : Code} {Q : Exit → St → Prop} {s : St} (h : ∀ K : St → Prop, Kont K (Gq E k mv (Awp E k mv y Q)) → Awp E k mv x (thenA K Q) s) : Awp E k mv (.seq x y) Q s := h _ fun _ h => h
theorem Awp_if {c : Operand} {x y : Code} {Q : Exit → St → Prop} {s : St} {t : Bool} (h : ev s.A c = bo t) (h1 : t = true → Awp E k mv x Q s) (h2 : t = false → Awp E k mv y Q s) : Awp E k mv (.cond c x y) Q s := .inl ⟨t, h, h1, h2⟩
theorem Awp_ifT {c : Operand} {x y : Code} {Q : Exit → St → Prop} {s : St} (h : ev s.A c = bo true) (h1 : Awp E k mv x Q s) : Awp E k mv (.cond c x y) Q s := .inl ⟨true, h, fun _ => h1, fun h => (by cases h)⟩
theorem Awp_ifF {c : Operand} {x y : Code} {Q : Exit → St → Prop} {s : St} (h : ev s.A c = bo false) (h1 : Awp E k mv y Q s) : Awp E k mv (.cond c x y) Q s := .inl ⟨false, h, fun h => (by cases h), fun _ => h1⟩
theorem Awp_ifB {c : Operand} {x y : Code} {Q : Exit → St → Prop} {s : St} (h : ev s.A c = .bb) (h1 : Awp E k mv x Q s) (h2 : Awp E k mv y Q s) : Awp E k mv (.cond c x y) Q s := .inr ⟨h, h1, h2⟩
theorem Awp_loop {c : Code} {Q : Exit → St → Prop} {s : St} (I : St → Prop) (μ : St → Nat) (h1 : Gq E k mv I s) (h2 : ∀ s, I s → Awp E k mv c (thenA (Gq E k mv fun s' => I s' ∧ μ s' < μ s) Q) s) : Awp E k mv (.loop c) Q s := ⟨I, μ, h1, h2⟩
theorem Awp_skip {Q : Exit → St → Prop} {s : St} (h : Q .normal s) : Awp E k mv .skip Q s := h
theorem Awp_ret {Q : Exit → St → Prop} {s : St} (h : Q .ret s) : Awp E k mv .ret Q s := h
theorem Awp_exit {id : Nat} {Q : Exit → St → Prop} {s : St} (h : Q (.exit id) s) : Awp E k mv (.exit id) Q s := h
theorem Awp_block {id : Nat} {c : Code} {Q : Exit → St → Prop} {s : St} (h : Awp E k mv c (blockA id Q) s) : Awp E k mv (.block id c) Q s := h
theorem Awp_scope {c : Code} {Q : Exit → St → Prop} {s : St} (h : Awp E k mv c (noGo Q) s) : Awp E k mv (.scope c) Q s := h
theorem Awp_label {l : Nat} {Q : Exit → St → Prop} {s : St} (h : Q .normal s) : Awp E k mv (.label l) Q s := h
theorem noGo_n {Q : Exit → St → Prop} {s : St} (h : Q .normal s) : noGo Q .normal s := h
theorem noGo_r {Q : Exit → St → Prop} {s : St} (h : Q .ret s) : noGo Q .ret s := h
theorem noGo_e {Q : Exit → St → Prop} {s : St} {i : Nat} (h : Q (.exit i) s) : noGo Q (.exit i) s := h
theorem thenA_n {K : St → Prop} {Q : Exit → St → Prop} {s : St} (h : K s) : thenA K Q .normal s := h
theorem thenA_r {K : St → Prop} {Q : Exit → St → Prop} {s : St} (h : Q .ret s) : thenA K Q .ret s := h
theorem thenA_e {K : St → Prop} {Q : Exit → St → Prop} {s : St} {i : Nat} (h : Q (.exit i) s) : thenA K Q (.exit i) s := h
theorem blockA_n {Q : Exit → St → Prop} {s : St} {id : Nat} (h : Q .normal s) : blockA id Q .normal s := h
theorem blockA_r {Q : Exit → St → Prop} {s : St} {id : Nat} (h : Q .ret s) : blockA id Q .ret s := h
theorem blockA_e {Q : Exit → St → Prop} {s : St} {id : Nat} (h : Q .normal s) : blockA id Q (.exit id) s := by unfold blockA; dsimp only; rw [if_pos rfl]; exact h
theorem blockA_o {Q : Exit → St → Prop} {s : St} {id i : Nat} (hn : Nat.beq i id = false) (h : Q (.exit i) s) : blockA id Q (.exit i) s := by
  unfold blockA
  dsimp only
  rw [if_neg (by rintro rfl; simp at hn)]; exact h
theorem endA_r {rs : List ResultVar} {Post : V → List (Option Ob) → Prop} {s : St} {x : V} (h : resA E.T rs s = some x) (hp : Post x s.m) : endA E k mv rs Post .ret s := .here ⟨x, h, .inl hp⟩
theorem endA_rL {rs : List ResultVar} {Post : V → List (Option Ob) → Prop} {s : St} {x y : V} (L : List Nat) {mc : Mem2} (h : resA E.T rs s = some x) (h1 : nodupL L = true) (h2 : keepL k mv L = true) (h3 : footM s.m (fun id => posOf id L) L = some mc) (h4 : ren (fun id => posOf id L) x = some y) (hp : Post y mc) : endA E k mv rs Post .ret s :=
  .here ⟨x, h, .inr ⟨L, mc, h1, h2, h3, by unfold renD; rw [h4]; exact hp⟩⟩
theorem endA_nL {rs : List ResultVar} {Post : V → List (Option Ob) → Prop} {s : St} {x y : V} (L : List Nat) {mc : Mem2} (h : resA E.T rs s = some x) (h1 : nodupL L = true) (h2 : keepL k mv L = true) (h3 : footM s.m (fun id => posOf id L) L = some mc) (h4 : ren (fun id => posOf id L) x = some y) (hp : Post y mc) : endA E k mv rs Post .normal s :=
  .here ⟨x, h, .inr ⟨L, mc, h1, h2, h3, by unfold renD; rw [h4]; exact hp⟩⟩
theorem endA_n {rs : List ResultVar} {Post : V → List (Option Ob) → Prop} {s : St} {x : V} (h : resA E.T rs s = some x) (hp : Post x s.m) : endA E k mv rs Post .normal s := .here ⟨x, h, .inl hp⟩
end
end Go.Proofs.YtogfcpaalcebdaaE
/- An engine for walks: objects with objects within, told as one. -/
namespace Go.Proofs.YtogfcpaalcebdaaE
open Go Go.RowKit
set_option linter.unusedVariables false
set_option linter.unusedSimpArgs false
def subP (mc : Mem2) (imm own : Nat → Prop) (sz : Nat → Nat) (b : Nat) (w : World) : Prop := ∃ G, Ok G w mc ∧ G.loc 0 = some (b, 0) ∧ G.sz = sz ∧ (∀ c, G.kd c = .imm → imm c) ∧ ∀ c, G.kd c ≠ .imm → G.kd c ≠ .no → own c
def sub (mc : Mem2) : Ob := .abs (subP mc)
section
variable {G G' : Gh} {w w' : World} {m mc : Mem2}
theorem Own.kd {G : Gh} {id c : Nat} (h : Own G id c) : G.kd c ≠ .imm ∧ G.kd c ≠ .no := by
  rcases h with h | ⟨i, j, v, h⟩ <;> rw [h] <;> exact ⟨by simp, by simp⟩
theorem Own.one {G : Gh} {i j c : Nat} (h : Own G i c) (h2 : Own G j c) : i = j := by
  rcases h with h | ⟨_, _, _, h⟩ <;> rcases h2 with h2 | ⟨_, _, _, h2⟩ <;> rw [h] at h2 <;> cases h2 <;> rfl
def OwnL (G : Gh) (L : List Nat) (c : Nat) : Prop := ∃ id, id ∈ L ∧ Own G id c
def killL (m : Mem2) : List Nat → Mem2
  | [] => m
  | id :: r => killL (m.set id none) r
theorem killL_len {m : Mem2} : ∀ {L : List Nat}, (killL m L).length = m.length
  | [] => rfl
  | id :: r => by unfold killL; rw [killL_len]; exact List.length_set
theorem killL_ok (h : Ok G w m) : ∀ {L : List Nat}, Ok G w (killL m L) := by
  intro L
  induction L generalizing m with
  | nil => exact h
  | cons id r ih => exact ih (h.kill id)
theorem killL_live {m : Mem2} {j : Nat} : ∀ {L : List Nat}, live (killL m L) j → live m j ∧ j ∉ L := by
  intro L
  induction L generalizing m with
  | nil => exact fun h => ⟨h, by simp⟩
  | cons id r ih =>
    intro h
    obtain ⟨⟨o, h1⟩, h2⟩ := ih h
    rw [List.getElem?_set] at h1
    by_cases e : id = j
    · subst e
      rw [if_pos rfl] at h1
      split at h1 <;> cases h1
    · rw [if_neg e] at h1
      exact ⟨⟨o, h1⟩, by simp [Ne.symm e, h2]⟩
def foldO (m mc : Mem2) (r : Nat) (L : List Nat) : Mem2 := (killL m L).set r (some (sub mc))
theorem fold_ok (hok : Ok G w m) {r : Nat} {L : List Nat} (hL : (r :: L).Nodup) (hf : footM m (fun id => posOf id (r :: L)) (r :: L) = some mc) {cs : List V} (hb : m[r]? = some (some (.box cs))) :
    ∃ G', Ok G' w (foldO m mc r (r :: L)) ∧ Adv G w G' w ∧ G'.loc = G.loc ∧ G'.wd = G.wd ∧ G'.rl = G.rl ∧ G'.sz = G.sz ∧ ∀ c, G'.kd c = .imm → G.kd c = .imm := by
  obtain ⟨b, hB⟩ := hok.ob _ _ hb
  have hcl := call_ok hok hL hf
  let kd' : Nat → Kd := fun c => open Classical in if OwnL G (r :: L) c then .ob r else G.kd c
  have hk1 : ∀ c, OwnL G (r :: L) c → kd' c = .ob r := fun c h => if_pos h
  have hk2 : ∀ c, ¬ OwnL G (r :: L) c → kd' c = G.kd c := fun c h => if_neg h
  have hkO : ∀ c, OwnL G (r :: L) c → G.kd c ≠ .imm ∧ G.kd c ≠ .no := fun c ⟨id, _, h⟩ => h.kd
  have himm : ∀ c, kd' c = .imm ↔ G.kd c = .imm := fun c => by
    by_cases h : OwnL G (r :: L) c
    · rw [hk1 c h]; exact ⟨fun q => (by cases q), fun q => absurd q (hkO c h).1⟩
    · rw [hk2 c h]
  have hno : ∀ c, kd' c = .no ↔ G.kd c = .no := fun c => by
    by_cases h : OwnL G (r :: L) c
    · rw [hk1 c h]; exact ⟨fun q => (by cases q), fun q => absurd q (hkO c h).2⟩
    · rw [hk2 c h]
  let G' : Gh := { G with kd := kd' }
  have hadv : Adv G w G' w := ⟨⟨fun _ _ _ q => ⟨q, rfl, rfl⟩, fun _ _ _ _ _ _ q => ⟨q, rfl⟩, fun c q => ⟨(himm c).2 q, rfl⟩⟩, ⟨rfl, rfl, rfl, Nat.le_refl _, fun c _ q => ⟨rfl, by
    rcases q with q | q
    · exact ((hno c).2 q).trans q.symm
    · exact ((himm c).2 q).trans q.symm⟩, fun _ _ => rfl⟩⟩
  have hr : r < m.length := live_lt hb
  refine ⟨G', ?_, hadv, rfl, rfl, rfl, rfl, fun c q => (himm c).1 q⟩
  refine (killL_ok hok (L := r :: L)).put (by rw [killL_len]; exact hr) hadv (fun c id2 hne hl hown => ⟨hk2 c fun ⟨id, h1, h2⟩ => ?_, rfl⟩) (fun _ _ => ⟨rfl, rfl, rfl⟩) (fun c q => hok.imm c ((himm c).1 q)) (fun c q => (hno c).2 (hok.new c q)) hok.lt hok.rlt hok.ver (fun q => hok.frl _ q) (fun o q => ?_)
  · obtain ⟨_, h3⟩ := killL_live hl
    rw [Own.one h2 hown] at h1
    exact h3 h1
  · cases q
    refine ⟨b, OwnL G (r :: L), hB.loc, fun c h => hk1 c h, fun imm sz w' i1 i2 i3 i4 => ?_⟩
    refine ⟨{ callG G (r :: L) with sz := sz }, ?_, ?_, rfl, fun c q => i1 c ((himm c).2 ?_), fun c q1 q2 => ?_⟩
    · have hcl2 : ∀ c, (callG G (r :: L)).kd c = .imm → w'.heap[c]? = w.heap[c]? := fun c q => i3 c (.inr ((himm c).2 (by
        simp only [callG] at q
        split at q
        · split at q <;> cases q
        · split at q <;> cases q
        · exact q)))
      have hown2 : ∀ c, (callG G (r :: L)).kd c ≠ .imm → (callG G (r :: L)).kd c ≠ .no → OwnL G (r :: L) c := fun c q1 q2 => by
        simp only [callG] at q1 q2
        split at q1
        · rename_i id hid
          simp only [hid] at q2
          cases hp : posOf id (r :: L) with
          | none => rw [hp] at q2; exact absurd rfl q2
          | some p => exact ⟨id, List.mem_of_getElem? (posOf_some hp), .inl hid⟩
        · rename_i id i k v hid
          simp only [hid] at q2
          cases hp : posOf id (r :: L) with
          | none => rw [hp] at q2; exact absurd rfl q2
          | some p => exact ⟨id, List.mem_of_getElem? (posOf_some hp), .inr ⟨_, _, _, hid⟩⟩
        · rename_i h1 h2
          simp only [] at q2
          exfalso
          cases hkd : G.kd c with
          | no => rw [hkd] at q2; exact q2 rfl
          | imm => exact q1 hkd
          | ob id => exact h1 _ hkd
          | rw id i j v => exact h2 _ _ _ _ hkd
      have hext : Ext (callG G (r :: L)) w { callG G (r :: L) with sz := sz } w' := ⟨fun id b o q => ⟨q, rfl, i2 b (hcl.lt _ _ _ q)⟩, fun id i j v b o q => ⟨q, i2 b (hcl.rlt _ _ _ _ _ _ q)⟩, fun c q => ⟨q, hcl2 c q⟩⟩
      refine ⟨fun id o q => (hcl.ob id o q).mono hext (fun c hc => ⟨rfl, i3 c (.inl (hown2 c hc.kd.1 hc.kd.2))⟩) (fun q => q) rfl (fun _ _ _ q => q) ⟨i4, i2⟩, fun c q => Nat.lt_of_lt_of_le (hcl.imm c q) i4, hcl.fresh, fun c q => hcl.new c (Nat.le_trans i4 q), fun id b o q => Nat.lt_of_lt_of_le (hcl.lt _ _ _ q) i4, fun id i j v b o q => Nat.lt_of_lt_of_le (hcl.rlt _ _ _ _ _ _ q) i4, hcl.ver, hcl.frl⟩
    · exact hB.loc
    · simp only [callG] at q
      split at q
      · split at q <;> cases q
      · split at q <;> cases q
      · exact q
    · simp only [callG] at q1 q2
      split at q1
      · rename_i id hid
        simp only [hid] at q2
        cases hp : posOf id (r :: L) with
        | none => rw [hp] at q2; exact absurd rfl q2
        | some p => exact ⟨id, List.mem_of_getElem? (posOf_some hp), .inl hid⟩
      · rename_i id i k v hid
        simp only [hid] at q2
        cases hp : posOf id (r :: L) with
        | none => rw [hp] at q2; exact absurd rfl q2
        | some p => exact ⟨id, List.mem_of_getElem? (posOf_some hp), .inr ⟨_, _, _, hid⟩⟩
      · rename_i h1 h2
        simp only [] at q2
        exfalso
        cases hkd : G.kd c with
        | no => rw [hkd] at q2; exact q2 rfl
        | imm => exact q1 hkd
        | ob id => exact h1 _ hkd
        | rw id i j v => exact h2 _ _ _ _ hkd
def no0 (i : Nat) : Option Nat := if i = 0 then none else some i
theorem unfold_ok {ob : Ob} (hok : Ok G w [some ob]) {b : Nat} {own : Nat → Prop} (h1 : G.loc 0 = some (b, 0)) (h2 : ∀ c, own c → G.kd c = .ob 0) (h3 : subP mc (fun c => G.kd c = .imm) own G.sz b w) {cs : List V} (hb : mc[0]? = some (some (.box cs))) (h0 : ∀ (j : Nat) o, mc[j]? = some (some o) → renOb no0 o = some o) :
    ∃ G', Ok G' w mc ∧ Tr G w G' w ∧ G'.loc 0 = G.loc 0 ∧ G'.wd 0 = G.wd 0 ∧ G'.rl 0 = G.rl 0 ∧ G'.sz = G.sz ∧ (∀ c, G.kd c = .imm → G'.kd c = .imm) := by
  obtain ⟨G2, k1, k2, k3, k4, k5⟩ := h3
  let kd' : Nat → Kd := fun c => open Classical in if G.kd c = .imm then .imm else G2.kd c
  have hi : ∀ c, kd' c = .imm ↔ G.kd c = .imm := fun c => by
    by_cases q : G.kd c = .imm
    · exact ⟨fun _ => q, fun _ => if_pos q⟩
    · have : kd' c = G2.kd c := if_neg q
      rw [this]
      exact ⟨fun p => k4 c p, fun p => absurd p q⟩
  have ho : ∀ c, G2.kd c ≠ .imm → G2.kd c ≠ .no → kd' c = G2.kd c := fun c q1 q2 => if_neg (by rw [h2 c (k5 c q1 q2)]; simp)
  let G' : Gh := { loc := G2.loc, wd := upd G2.wd 0 (G.wd 0), rl := fun i => if i = 0 then G.rl 0 else G2.rl i, kd := kd', sz := G.sz }
  have hren : Ren no0 G2 G' := by
    refine ⟨fun id id' q => ?_, fun id id' c q p => ?_, fun id id' c i j v q p => ?_, fun c q => (hi c).2 (k4 c q), k3.symm⟩ <;> (unfold no0 at q; split at q) <;> cases q
    · rename_i hne
      exact ⟨rfl, upd_ne hne, if_neg hne⟩
    · exact (ho c (by rw [p]; simp) (by rw [p]; simp)).trans p
    · exact (ho c (by rw [p]; simp) (by rw [p]; simp)).trans p
  have hloc0 : G2.loc 0 = G.loc 0 := k2.trans h1.symm
  refine ⟨G', ⟨fun j o q => ?_, fun c q => hok.imm c ((hi c).1 q), k1.fresh, fun c q => ?_, k1.lt, fun id i j v b o q => ?_, ?_, fun id q i j v => ?_⟩, ⟨rfl, rfl, rfl, Nat.le_refl _, fun c hc q => ⟨rfl, ?_⟩, fun _ _ => rfl⟩, hloc0, upd_self G2.wd 0 (G.wd 0), show (if (0 : Nat) = 0 then G.rl 0 else G2.rl 0) = G.rl 0 from if_pos rfl, rfl, fun c q => (hi c).2 q⟩
  · have hO := k1.ob j o q
    have he := h0 j o q
    by_cases hj : j = 0
    · subst hj
      rw [hb] at q
      cases q
      simp only [renOb] at he
      cases hq : renL no0 cs with
      | none => rw [hq] at he; cases he
      | some ys =>
        rw [hq] at he
        cases he
        obtain ⟨_, b2⟩ := renL_get hq
        obtain ⟨b', g1, g2, Cs, ty, g3, g4, g5, g6, g7⟩ := hO
        refine ⟨b', g1, (ho b' (by rw [g2]; simp) (by rw [g2]; simp)).trans g2, Cs, ty, g3, by rw [← g4, k3], g5, g6, fun i hi x hx => ?_⟩
        obtain ⟨x', c1, c2⟩ := b2 i x hx
        exact hren.vr (g7 i hi x' c1) c2
    · exact hren.or (show no0 j = some j from if_neg hj) he hO
  · have hn := k1.new c q
    show kd' c = .no
    by_cases p : G.kd c = .imm
    · have := hok.imm c p
      omega
    · exact (if_neg p).trans hn
  · have q : (if id = 0 then G.rl 0 else G2.rl id) i j v = some (b, o) := q
    by_cases e : id = 0
    · rw [if_pos e] at q; exact hok.rlt _ _ _ _ _ _ q
    · rw [if_neg e] at q; exact k1.rlt _ _ _ _ _ _ q
  · obtain ⟨n1, hn1⟩ := hok.ver
    obtain ⟨n2, hn2⟩ := k1.ver
    refine ⟨max n1 n2, fun id i j v hv => ?_⟩
    show (if id = 0 then G.rl 0 else G2.rl id) i j v = none
    by_cases e : id = 0
    · rw [if_pos e]; exact hn1 _ _ _ _ (by omega)
    · rw [if_neg e]; exact hn2 _ _ _ _ (by omega)
  · show (if id = 0 then G.rl 0 else G2.rl id) i j v = none
    by_cases e : id = 0
    · subst e
      have q : G2.loc 0 = none := q
      rw [k2] at q
      cases q
    · rw [if_neg e]; exact k1.frl id q i j v
  · show kd' c = G.kd c
    rcases q with q | q
    · rw [q]
      by_cases p : G2.kd c = .imm
      · have : G.kd c = .imm := k4 c p
        rw [q] at this
        cases this
      · by_cases p2 : G2.kd c = .no
        · exact (if_neg (by rw [q]; simp)).trans p2
        · have := h2 c (k5 c p p2)
          rw [q] at this
          cases this
    · rw [q]; exact (hi c).2 q
theorem vr_none {x y : V} {v : Value} (hx : VR G w x v) (hr : ren (fun _ => none) x = some y) (hi : ∀ c, G.kd c = .imm → G'.kd c = .imm) (hs : G'.sz = G.sz) : VR G' w y v :=
  Ren.vr (ρ := fun _ => none) ⟨fun _ _ q => (by cases q), fun _ _ _ q => (by cases q), fun _ _ _ _ _ _ q => (by cases q), hi, hs⟩ hx hr
theorem vrl_none {xs ys : List V} {vs : Array Value} (hx : VRL G w xs vs) (hr : renL (fun _ => none) xs = some ys) (hi : ∀ c, G.kd c = .imm → G'.kd c = .imm) (hs : G'.sz = G.sz) : VRL G' w ys vs := by
  obtain ⟨a1, a2⟩ := renL_get hr
  refine ⟨a1.trans hx.1, fun j y hj => ?_⟩
  obtain ⟨x, b1, b2⟩ := a2 j y hj
  exact vr_none (hx.2 j x b1) b2 hi hs
theorem vrl_sub {xs : List V} {vs : Array Value} (hx : VRL G w (.ptr 0 0 0 :: xs) vs) (hr : renL (fun _ => none) xs = some xs) (hi : ∀ c, G.kd c = .imm → G'.kd c = .imm) (hs : G'.sz = G.sz) (hl : G'.loc 0 = G.loc 0) : VRL G' w (.ptr 0 0 0 :: xs) vs := by
  obtain ⟨a1, a2⟩ := renL_get hr
  refine ⟨hx.1, fun j y hj => ?_⟩
  cases j with
  | zero =>
    cases hj
    have := hx.2 0 _ rfl
    generalize vs.getD 0 undef = v at this
    cases this with
    | ptr h =>
      have q := VR.ptr (w := w) (k := 0) (off := 0) (hl.trans h)
      simpa using q
  | succ j =>
    obtain ⟨x, b1, b2⟩ := a2 j y hj
    have b1' : xs[j]? = some y := hj
    rw [b1'] at b1
    cases b1
    exact vr_none (hx.2 (j + 1) y hj) b2 hi hs
theorem posOf0 (L : List Nat) : posOf 0 (0 :: L) = some 0 := rfl
theorem Tr.callG (G : Gh) (w : World) (L : List Nat) : Tr G w (callG G L) w := ⟨rfl, rfl, rfl, Nat.le_refl _, fun b hb q => ⟨rfl, by rcases q with q | q <;> simp only [YtogfcpaalcebdaaE.callG, q]⟩, fun _ _ => rfl⟩
theorem foldO_at {m mc : Mem2} {r : Nat} {L : List Nat} (h : r < m.length) : (foldO m mc r L)[r]? = some (some (sub mc)) := by
  unfold foldO
  rw [List.getElem?_set, if_pos rfl, if_pos (by rw [killL_len]; exact h)]
def CallOk (P : Program) (f : FuncId) (args : List V) (m : Mem2) (Post : V → Mem2 → List Nat → Prop) : Prop := ∀ (G : Gh) (w : World) (vs : Array Value), Ok G w m → VRL G w args vs →
  Calls P f vs w fun e w' => ∃ v G' r m' mv, e = .returned v ∧ Post r m' mv ∧ Fin G w m G' w' m' mv ∧ VR G' w' r v
structure FoldTo (m' : Mem2) (r : Nat) (L : List Nat) (mc : Mem2) : Prop where
  box : ∃ cs, m'[r]? = some (some (.box cs))
  nd : (r :: L).Nodup
  foot : footM m' (fun id => posOf id (r :: L)) (r :: L) = some mc
theorem foot_one {m mc : Mem2} {r : Nat} {L : List Nat} (h : r < m.length) : footM (foldO m mc r L) (fun id => posOf id [r]) [r] = some [some (sub mc)] := by
  have : obGet (foldO m mc r L) r = some (sub mc) := by unfold obGet; rw [foldO_at h]
  unfold footM
  rw [this]
  rfl
def absP (Q : Mem2 → Prop) (imm own : Nat → Prop) (sz : Nat → Nat) (b : Nat) (w : World) : Prop := ∃ mc, Q mc ∧ subP mc imm own sz b w
@[reducible] def absO (Q : Mem2 → Prop) : Ob := .abs (absP Q)
theorem ok_abs {Q : Mem2 → Prop} (h : Ok G w [some (sub mc)]) (hQ : Q mc) : Ok G w [some (absO Q)] := by
  refine ⟨fun id o q => ?_, h.imm, h.fresh, h.new, h.lt, h.rlt, h.ver, h.frl⟩
  match id, q with
  | 0, q =>
    cases q
    obtain ⟨b, own, a1, a2, a3⟩ := h.ob 0 _ rfl
    exact ⟨b, own, a1, a2, fun imm sz w' i1 i2 i3 i4 => ⟨mc, hQ, a3 imm sz w' i1 i2 i3 i4⟩⟩
theorem conv_sub {P : Program} {f : FuncId} {xs : List V} {Q : Mem2 → Prop} {Post2 : V → Mem2 → List Nat → Prop} (hx : renL (fun _ => none) xs = some xs)
    (h : ∀ mc, Q mc → (∃ cs, mc[0]? = some (some (.box cs))) ∧ (∀ (j : Nat) o, mc[j]? = some (some o) → renOb no0 o = some o) ∧ ∃ Post, CallOk P f (.ptr 0 0 0 :: xs) mc Post ∧
      ∀ r m' mv, Post r m' mv → 0 ∉ mv ∧ ren (fun _ => none) r = some r ∧ ∃ L mc' Q', FoldTo m' 0 L mc' ∧ Q' mc' ∧ Post2 r [some (absO Q')] []) : CallOk P f (.ptr 0 0 0 :: xs) [some (absO Q)] Post2 := by
  intro G w vs hok hargs
  obtain ⟨b, own, u1, u2, u3⟩ := hok.ob 0 _ rfl
  obtain ⟨mc, hQ, u4⟩ := u3 (fun c => G.kd c = .imm) G.sz w (fun _ q => q) (fun _ _ => rfl) (fun _ _ => rfl) (Nat.le_refl _)
  obtain ⟨⟨cs, hb⟩, h0, Post, h, hp⟩ := h mc hQ
  obtain ⟨G1, a1, a2, a3, a4, a5, a6, a7⟩ := unfold_ok hok u1 u2 u4 hb h0
  refine (h G1 w vs a1 (vrl_sub hargs hx a7 a6 a3)).mono fun e w' ⟨v, G2, r, m', mv, h1, h2, h3, h4⟩ => ?_
  obtain ⟨q1, q2, L, mc', Q', ⟨⟨cs', c1⟩, c2, c3⟩, hQ', q3⟩ := hp r m' mv h2
  obtain ⟨G3, d1, d2, d3, d4, d5, d6, d7⟩ := fold_ok h3.ok c2 c3 c1
  have hlt := live_lt c1
  have hm0 : 0 < mc.length := live_lt hb
  refine ⟨v, callG G3 [0], r, [some (absO Q')], [], h1, q3, ⟨ok_abs (call_ok d1 (by simp) (foot_one hlt)) hQ', a2.trans (h3.tr.trans (d2.tr.trans (.callG _ _ _))), Nat.le_refl _, fun j hj _ => ?_⟩, vr_none h4 q2 (fun c q => ?_) (show G3.sz = G2.sz from d6)⟩
  · have hj0 : j = 0 := by
      have : j < 1 := hj
      omega
    subst hj0
    obtain ⟨k1, k2, k3⟩ := h3.kept 0 hm0 q1
    refine ⟨?_, fun b o q => ?_, fun i k v b o q => ?_⟩
    · show G3.loc 0 = _
      rw [d3, k1, a3]
    · show G3.wd 0 = _
      rw [d4, k2 b o (a3.trans q), a4]
    · show G3.rl 0 i k v = _
      rw [d5]
      exact k3 i k v b o (by rw [a5]; exact q)
  · have := (d2.ext.imm c q).1
    simp only [callG, this]
theorem conv_new {P : Program} {f : FuncId} {xs : List V} {Post Post2 : V → Mem2 → List Nat → Prop} (h : CallOk P f xs [] Post)
    (hp : ∀ r m' mv, Post r m' mv → (ren (fun _ => none) r = some r ∧ Post2 r [] []) ∨ (r = .ptr 0 0 0 ∧ ∃ L mc' Q', FoldTo m' 0 L mc' ∧ Q' mc' ∧ Post2 (.ptr 0 0 0) [some (absO Q')] [])) : CallOk P f xs [] Post2 := by
  intro G w vs hok hargs
  refine (h G w vs hok hargs).mono fun e w' ⟨v, G2, r, m', mv, h1, h2, h3, h4⟩ => ?_
  rcases hp r m' mv h2 with ⟨q1, q2⟩ | ⟨rfl, L, mc', Q', ⟨⟨cs', c1⟩, c2, c3⟩, hQ', q3⟩
  · exact ⟨v, callG G2 [], r, [], [], h1, q2, ⟨call_ok h3.ok (by simp) rfl, h3.tr.trans (.callG _ _ _), Nat.le_refl _, fun j hj => absurd hj (Nat.not_lt_zero _)⟩, vr_none h4 q1 (fun c q => by simp only [callG, q]) rfl⟩
  · obtain ⟨G3, d1, d2, d3, d4, d5, d6, d7⟩ := fold_ok h3.ok c2 c3 c1
    have hlt := live_lt c1
    refine ⟨v, callG G3 [0], .ptr 0 0 0, [some (absO Q')], [], h1, q3, ⟨ok_abs (call_ok d1 (by simp) (foot_one hlt)) hQ', h3.tr.trans (d2.tr.trans (.callG _ _ _)), Nat.zero_le _, fun j hj => absurd hj (Nat.not_lt_zero _)⟩, ?_⟩
    exact (call_ren G3 [0]).vr (h4.mono d2.ext) (y := .ptr 0 0 0) rfl
end
end Go.Proofs.YtogfcpaalcebdaaE
