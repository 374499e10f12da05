/- An engine for walks: one operation. -/
import Derived.Test.YtogfcpaalcebdaaCEng15
namespace Go.Proofs.YtogfcpaalcebdaaE
open Go Go.RowKit Go.ChangeMaps Go.MapKept
set_option linter.unusedVariables false
set_option linter.unusedSimpArgs false
structure Env where
  P : Program
  T : Tab
  N : Nat
  S : Spec
structure EnvOk (E : Env) : Prop where
  T : TOk E.P E.T
  S : SpecOk E.P E.S
  fn : ∀ f args m Post, E.S f args m Post → ∃ fn, E.P.funcs[f]? = some fn ∧ (fn.name == "runtime.NumGoroutine") = false ∧ fn.body.isSome = true
structure St where
  A : Nat → V
  m : List (Option Ob)
def St.put (s : St) (d : Option Tmp) (v : V) : St :=
  match d with
  | some d => ⟨fun t => bif Nat.beq t d then v else s.A t, s.m⟩
  | none => s
def St.mem (s : St) (m : List (Option Ob)) : St := ⟨s.A, m⟩
structure Rel (N : Nat) (G : Gh) (w : World) (s : St) (a : Act) : Prop where
  ok : Ok G w s.m
  fr : ∀ t, VR G w (s.A t) (a.tmps.getD t undef)
  n : a.tmps.size = N
  df : a.defers = []
section
variable {P : Program} {T : Tab} {N : Nat} {G G' : Gh} {w w' : World} {s s' : St} {a : Act} {m : List (Option Ob)}
theorem Rel.ev (h : Rel N G w s a) (x : Operand) : VR G w (ev s.A x) (a.eval x) := by
  cases x with
  | tmp t => exact h.fr t
  | const v => exact ofV_sound v
  | global g => exact .any
  | func f => exact .fn (by rfl) (fun j x q => by simp at q)
theorem Rel.put {d : Option Tmp} {v : V} {u : Value} (h : Rel N G w s a) (hd : ∀ t, d = some t → t < N) (hv : VR G w v u) : Rel N G w (s.put d v) (a.put d u) := by
  cases d with
  | none => exact h
  | some d =>
    have hlt := hd d rfl
    refine ⟨h.ok, fun t => ?_, by simp [Act.put, h.n], h.df⟩
    show VR G w (bif Nat.beq t d then v else s.A t) ((a.tmps.setIfInBounds d u).getD t undef)
    by_cases e : t = d
    · subst e
      have : (a.tmps.setIfInBounds t u).getD t undef = u := by simp [h.n, hlt]
      rw [this, show Nat.beq t t = true from by simp]
      exact hv
    · have e1 : Nat.beq t d = false := by
        cases hb : Nat.beq t d with
        | false => rfl
        | true => exact absurd (Nat.eq_of_beq_eq_true hb) e
      have : (a.tmps.setIfInBounds d u).getD t undef = a.tmps.getD t undef := by
        simp only [Array.getD_eq_getD_getElem?]
        rw [Array.getElem?_setIfInBounds_ne (Ne.symm e)]
      rw [this, e1]
      exact h.fr t
theorem Rel.mem {m : List (Option Ob)} (h : Rel N G w s a) (hok : Ok G' w' m) (hadv : Adv G w G' w') : Rel N G' w' (s.mem m) a := ⟨hok, fun t => (h.fr t).mono hadv.ext, h.n, h.df⟩
theorem Rel.drew (h : Rel N G w s a) : Rel N G w.drew s a := ⟨h.ok.drew, fun t => (h.fr t).mono (Adv.drew G w).ext, h.n, h.df⟩
end
def need (o : Oper) : Nat :=
  match o.op with
  | .alloc _ => 1
  | .box _ _ => 1
  | .makeSlice _ _ _ => 1
  | .buildSlice _ _ _ => 1
  | .call c => match c.callee with
    | .builtin .append => 2
    | _ => 0
  | .makeMap _ _ => 1
  | _ => 0
def MapT (P : Program) (t : TypeId) : Prop := ∃ kt et, P.underlying t = some (.map kt et) ∧ P.underlying kt = some (.int .u8) ∧ ∀ w, (zeroValue et).run P w = .ok (.int .i64 0) w
def WStore (E : Env) (t : TypeId) (a x : V) (m : List (Option Ob)) (K : List (Option Ob) → Prop) : Prop :=
  (∃ m', aStore E.T m t a x = some m' ∧ K m') ∨
  ∃ id k off s es row y r m1 ti, a = .ptr id k off ∧ look E.T t = some ti ∧ ti.n = 1 ∧ m[id]? = some (some (.arw s es)) ∧ es[k]? = some row ∧ row[off]? = some y ∧ rowOf m id k off x y = some (r.map (fun x => [x]), m1) ∧ ∀ ver, K (m1.set id (some (.arw s (es.set k (row.set off (.ow r ver))))))
def WMake (E : Env) (t : TypeId) (l c : V) (m : List (Option Ob)) (nid : Nat) (K : V → List (Option Ob) → Prop) : Prop :=
  ∃ ti e i kl kc l' c' rows, look E.T t = some ti ∧ ti.td = .slc e ∧ look E.T e = some i ∧ l = nu kl l' ∧ c = nu kc c' ∧ 0 ≤ l' ∧ l' ≤ c' ∧ c' * (i.by_ : Int) ≤ 140737488355328 ∧ c' ≤ 9223372036854775807 ∧
    K (.sl nid i.n 0 l'.toNat false) (m.set nid (some (madeOb i l'.toNat rows)))
def WLit (E : Env) (t : TypeId) (n : Nat) (ps : List (Nat × V)) (m : List (Option Ob)) (nid : Nat) (K : V → List (Option Ob) → Prop) : Prop :=
  (∃ (si : Nat) (es : List (List C)) (rows : Bool), pLit E.T t n ps = some (si, es) ∧ K (.sl nid si 0 n true) (m.set nid (some (match rows with | false => Ob.arr si es | true => Ob.arw si (es.map (·.map .p)))))) ∨ ∃ (si : Nat) (es : List (List C)), pLit E.T t n ps = some (si, es) ∧ K (.c (.ls es)) (m.set nid none)
def WApp1 (E : Env) (t : TypeId) (x y : V) (m : List (Option Ob)) (nid : Nat) (K : V → List (Option Ob) → Prop) : Prop :=
  ∃ ti e i base rows m1, look E.T t = some ti ∧ ti.td = .slc e ∧ look E.T e = some i ∧ dstR m i.n x = some (base, m1) ∧ srcR m y = some rows ∧ (∀ row ∈ rows, row.length = i.n) ∧ (∀ row ∈ base, row.length = i.n) ∧
    (base.length + rows.length) * i.by_ ≤ 140737488355328 ∧ base.length + rows.length ≤ 9223372036854775807 ∧ (rows ≠ [] ∨ base = [] ∨ ∃ id s off len, x = .sl id s off len false) ∧
    K (.sl nid i.n 0 (base.length + rows.length) false) (m1.set nid (some (.arr i.n (base ++ rows))))
def WApp (E : Env) (ts : Array TypeId) (xs : List V) (m : List (Option Ob)) (nid : Nat) (K : V → List (Option Ob) → Prop) : Prop :=
  ∃ t x y, ts = #[t, t] ∧ xs = [x, y] ∧ (WApp1 E t x y m nid K ∨ ∃ id i j ver off len m0, x = .rw id i j ver off len ∧ detach m (nid + 1) id i j ver = some m0 ∧ WApp1 E t (.sl (nid + 1) 1 off len false) y m0 nid K)
def WCall (E : Env) (f : V) (xs : List V) (m : List (Option Ob)) (K : V → List (Option Ob) → Prop) : Prop :=
  ∃ fid caps L mc argsc Post, f = .fn fid caps ∧ L.Nodup ∧ footM m (fun id => posOf id L) L = some mc ∧ renL (fun id => posOf id L) (xs ++ caps) = some argsc ∧ E.S fid argsc mc Post ∧ (∃ r mc' mv, Post r mc' mv) ∧
    ∀ r mc' mv, Post r mc' mv → mv.Nodup ∧ (∀ j ∈ mv, j < L.length) ∧ ∃ m2 r2, backM L mv m mc' = some m2 ∧ ren (back L (newIds L mv mc'.length) m.length) r = some r2 ∧ K r2 m2
def X (E : Env) (o : Oper) (nid : Nat) (A : Nat → V) (m : List (Option Ob)) (k : V → List (Option Ob) → Prop) : Prop :=
  match o.op with
  | .load t x => ∃ v, aLoad E.T m t (ev A x) = some v ∧ k v m
  | .store t a x => WStore E t (ev A a) (ev A x) m fun m' => k .any m'
  | .alloc e => ∃ i, look E.T e = some i ∧ k (.ptr nid 0 0) (m.set nid (some (.box (zerosV i))))
  | .box e x => ∃ xs, cellsV (ev A x) = some xs ∧ k (.ptr nid 0 0) (m.set nid (some (.box xs)))
  | .makeSlice t l c => WMake E t (ev A l) (ev A c) m nid k
  | .buildSlice t n ps => WLit E t n (ps.toList.map fun (i, x) => (i, ev A x)) m nid k
  | .call c => match c.callee with
    | .builtin b => match b with
      | .append => WApp E c.argTypes (c.args.toList.map (ev A)) m nid k
      | _ => ∃ v, pure1 E.T o.op (ev A) = some v ∧ k v m
    | .value f => WCall E (ev A f) (c.args.toList.map (ev A)) m k
    | _ => False
  | .makeMap t r => r = none ∧ k (.mp nid) (m.set nid (some (.mp [])))
  | .insert t x y z => ∃ id a b l, ev A x = .mp id ∧ ev A y = nu .u8 a ∧ ev A z = nu .i64 b ∧ MapT E.P t ∧ obGet m id = some (.mp l) ∧ k .any (m.set id (some (.mp ((a, b) :: l))))
  | .lookup t x y b => b = true ∧ ∃ id a l, ev A x = .mp id ∧ ev A y = nu .u8 a ∧ MapT E.P t ∧ obGet m id = some (.mp l) ∧ k (.tup [nu .i64 ((mget l a).getD 0), bo (mget l a).isSome]) m
  | _ => ∃ v, pure1 E.T o.op (ev A) = some v ∧ k v m
def Wc (E : Env) (o : Oper) (nid : Nat) (K : St → Prop) (s : St) : Prop := X E o nid s.A s.m fun v m' => K ((s.mem m').put o.dst v)
theorem pLit_len {T : Tab} {t : TypeId} {n s : Nat} {ps : List (Nat × V)} {es : List (List C)} (h : pLit T t n ps = some (s, es)) : es.length = n := by
  unfold pLit at h
  split at h
  · split at h
    · split at h
      · split at h
        · cases h; rfl
        · cases h
      · rename_i len'
        cases hb : Nat.ble ((len' + 1) * _) 16777216 with
        | false => rw [hb] at h; cases h
        | true =>
          rw [hb] at h
          dsimp only [cond_true] at h
          split at h
          · split at h
            · cases h; exact chunk_len _ _ _
            · cases h
          · cases h
    · cases h
  · cases h
def Nx (N : Nat) (G : Gh) (w : World) (s : St) (nid n : Nat) (K : St → Prop) (a' : Act) (w' : World) : Prop :=
  ∃ G' s', K s' ∧ Rel N G' w' s' a' ∧ Adv G w G' w' ∧ (∀ j, j < s.m.length → (j < nid ∨ nid + n ≤ j) → G'.loc j = G.loc j) ∧ s.m.length ≤ s'.m.length
section
variable {E : Env} {G G' : Gh} {w w' : World} {s s' : St} {a : Act} {Q : Exit → Act → World → Prop}
theorem wp_val {o : Oper} {K : Act → World → Prop} {v : Value} {w' : World} (h : (execOp a.eval o).run E.P w = .ok (.value v) w') (hk : K (a.put o.dst v) w') : o.wp E.P a w K Q := by
  unfold Oper.wp
  rw [h]
  exact hk
theorem wp_skip' {o : Oper} {K : Act → World → Prop} {w' : World} (h : (execOp a.eval o).run E.P w = .ok .skip w') (hk : K (a.put o.dst undef) w') : o.wp E.P a w K Q := by
  unfold Oper.wp
  rw [h]
  exact hk
theorem run_u {P : Program} {s : Sem Unit} (h : s.run P w = .ok () w') : (do s; pure .skip : Sem Next).run P w = .ok .skip w' := by
  rw [Sem.run_bind, h]; rfl
theorem len_aStore {T : Tab} {m m' : List (Option Ob)} {t : TypeId} {x y : V} (h : aStore T m t x y = some m') : m'.length = m.length := by
  have h1 : ∀ {m m' : List (Option Ob)} {id k off x}, store1 m id k off x = some m' → m'.length = m.length := fun {m m' id k off x} h => by
    unfold store1 at h
    split at h
    · split at h
      · obtain ⟨_, h⟩ := blt_eq h; cases h; simp
      · cases h
    · split at h
      · split at h
        · obtain ⟨_, h⟩ := blt_eq h; cases h; simp
        · cases h
      · cases h
    · split at h
      · split at h
        · obtain ⟨_, h⟩ := blt_eq h; cases h; simp
        · cases h
      · cases h
    · cases h
  have h2 : ∀ (xs : List V) (m m' : List (Option Ob)) (id k off : Nat), storeN m id k off xs = some m' → m'.length = m.length := fun xs => by
    induction xs with
    | nil => intro m m' id k off h; cases h; rfl
    | cons x r ih =>
      intro m m' id k off h
      unfold storeN at h
      split at h
      · rename_i m1 q; rw [ih _ _ _ _ _ h, h1 q]
      · cases h
  unfold aStore at h
  split at h
  · split at h
    · rename_i i _ _ xs _
      cases hb : Nat.beq xs.length i.n with
      | false => rw [hb] at h; cases h
      | true =>
        rw [hb] at h
        simp only [cond_true] at h
        split at h
        · exact h2 _ _ _ _ _ _ h
        · split at h
          · unfold storeR at h
            split at h
            · split at h
              · split at h
                · split at h
                  · split at h
                    · cases h; simp
                    · cases h
                  · cases h
                · cases h
              · cases h
            · cases h
          · cases h
        · cases h
    · cases h
  · cases h
theorem len_dst {m m1 : List (Option Ob)} {n : Nat} {x : V} {base : List (List C)} (h : dstR m n x = some (base, m1)) : m1.length = m.length := by
  unfold dstR at h
  split at h
  · cases h; rfl
  · cases h; rfl
  · split at h
    · split at h
      · split at h
        · cases h; rfl
        · cases h
      · split at h
        · cases h; simp
        · cases h
    · cases h
  · cases h
theorem len_rowOf {m m1 : List (Option Ob)} {id k off : Nat} {x : V} {y : D} {r : List (List C)} (h : rowOf m id k off x y = some (r, m1)) : m1.length = m.length := by
  unfold rowOf at h
  split at h
  · split at h
    · split at h
      · cases h; simp
      · cases h
    · cases h
  · split at h
    · split at h
      · cases h; rfl
      · cases h
    · cases h
  · cases h
theorem len_detach {m m1 : List (Option Ob)} {nid id i j ver : Nat} (h : detach m nid id i j ver = some m1) : m1.length = m.length := by
  unfold detach at h
  split at h
  · split at h
    · split at h
      · split at h
        · cases h; simp
        · cases h
      · cases h
    · cases h
  · cases h
theorem app1_sound (hE : EnvOk E) {m : List (Option Ob)} (hok : Ok G w m) {t ty : TypeId} {x y : V} {v u : Value} (hx : VR G w x v) (hy : VR G w y u) {nid : Nat} (hid : nid < m.length) (hf : G.loc nid = none) {K : V → List (Option Ob) → Prop} (h : WApp1 E t x y m nid K) :
    ∃ r w' G' r2 m2, (Builtin.append_ #[t, t] ty #[v, u]).run E.P w = .ok r w' ∧ K r2 m2 ∧ Ok G' w' m2 ∧ Adv G w G' w' ∧ VR G' w' r2 r ∧ (∀ j, j ≠ nid → G'.loc j = G.loc j) ∧ m2.length = m.length := by
  obtain ⟨ti, e, i, base, rows, m1, h1, h2, h3, h4, h5, h6, h7, h8, h9, h10, hK⟩ := h
  obtain ⟨r, w', G', q1, q2, q3, q4, q5⟩ := append_sound hE.T hok (ty := ty) h1 h2 h3 hx hy h4 h5 h6 h7 h8 h9 h10 hid hf
  exact ⟨r, w', G', _, _, q1, hK, q2, q3, q4, q5, by simp [len_dst h4]⟩
theorem nx {N : Nat} {o : Oper} {nid n : Nat} {K : St → Prop} {v : V} {u : Value} {m2 : List (Option Ob)} (hr : Rel N G w s a) (hd : ∀ t, o.dst = some t → t < N) (hok : Ok G' w' m2) (hadv : Adv G w G' w') (hv : VR G' w' v u) (hl : ∀ j, j < s.m.length → (j < nid ∨ nid + n ≤ j) → G'.loc j = G.loc j) (hlen : s.m.length ≤ m2.length) (hK : K ((s.mem m2).put o.dst v)) :
    Nx N G w s nid n K (a.put o.dst u) w' := by
  refine ⟨G', _, hK, (hr.mem hok hadv).put hd hv, hadv, hl, ?_⟩
  have : ∀ (s : St) (d : Option Tmp) (v : V), (s.put d v).m = s.m := fun s d v => by cases d <;> rfl
  rw [this]
  exact hlen
theorem mk_run {P : Program} (t : TypeId) (w : World) : (Instr.makeMap t none).run P w = .ok (.map (some w.heap.size)) (w.alloc (.map #[] 0)) := by simp [Instr.makeMap]
theorem mk_sound {m : List (Option Ob)} (hok : Ok G w m) {id : Nat} (hid : id < m.length) (hf : G.loc id = none) :
    Ok (newG G id w.heap.size 0 0) (w.alloc (.map #[] 0)) (m.set id (some (.mp []))) ∧ Adv G w (newG G id w.heap.size 0 0) (w.alloc (.map #[] 0)) ∧ VR (newG G id w.heap.size 0 0) (w.alloc (.map #[] 0)) (.mp id) (.map (some w.heap.size)) ∧ ∀ j, j ≠ id → (newG G id w.heap.size 0 0).loc j = G.loc j := by
  have hadv : Adv G w (newG G id w.heap.size 0 0) (w.alloc (.map #[] 0)) := by
    refine ⟨⟨fun i b o q => ?_, fun i j k v b o q => ?_, fun b q => ?_⟩, ⟨rfl, rfl, rfl, by simp, fun b hb q => ?_, fun b hb => upd_ne (by omega)⟩⟩
    · have h1 : i ≠ id := by rintro rfl; rw [hf] at q; cases q
      have h2 : b ≠ w.heap.size := by have := hok.lt i b o q; omega
      exact ⟨by simp only [newG, upd_ne h1]; exact q, by simp only [newG, upd_ne h1], by simp only [newG, upd_ne h2]⟩
    · have h2 : b ≠ w.heap.size := by have := hok.rlt i j k v b o q; omega
      exact ⟨q, by simp only [newG, upd_ne h2]⟩
    · have h2 := hok.imm b q
      exact ⟨by simp only [newG, upd_ne (show b ≠ w.heap.size by omega)]; exact q, Below.heap_alloc w _ b h2⟩
    · exact ⟨Below.heap_alloc w _ b hb, by simp only [newG, upd_ne (show b ≠ w.heap.size by omega)]⟩
  refine ⟨?_, hadv, .mp (upd_self _ _ _), fun j hj => upd_ne hj⟩
  refine hok.put hid hadv (fun b id2 hne hl hown => ?_) (fun id2 hne => ⟨by simp only [newG, upd_ne hne], by simp only [newG, upd_ne hne], rfl⟩) (fun b q => ?_) (fun b hb => ?_) (fun i b o q => ?_) (fun i j k v b o q => ?_) hok.ver (fun q => by rw [show (newG G id w.heap.size 0 0).loc id = _ from upd_self _ _ _] at q; cases q) (fun o q => by cases q; exact ⟨w.heap.size, upd_self _ _ _, upd_self _ _ _, IsMap.empty _ _⟩)
  · have hb : b < w.heap.size := by
      rcases Nat.lt_or_ge b w.heap.size with h | h
      · exact h
      · have := hok.new b h
        rcases hown with q | ⟨_, _, _, q⟩ <;> rw [this] at q <;> cases q
    exact ⟨by simp only [newG, upd_ne (show b ≠ w.heap.size by omega)], Below.heap_alloc w _ b hb⟩
  · simp only [newG, upd] at q
    split at q
    · cases q
    · have := hok.imm b q
      simp
      omega
  · simp at hb
    simp only [newG, upd_ne (show b ≠ w.heap.size by omega)]
    exact hok.new b (by omega)
  · simp only [newG, upd] at q
    simp
    split at q
    · cases q; omega
    · have := hok.lt i b o q; omega
  · have := hok.rlt i j k v b o q
    simp
    omega
theorem nu_eq {k : IntKind} {n : Int} {v : Value} (hq : VR G w (nu k n) v) : v = .int k n := by
  cases hq with
  | c hq => cases hq; rfl
theorem ins_sound {P : Program} {m : List (Option Ob)} (hok : Ok G w m) {t : TypeId} (ht : MapT P t) {id : Nat} {l : List (Int × Int)} {ka vb : Int} {x y z : Value} (hm : m[id]? = some (some (.mp l))) (hx : VR G w (.mp id) x) (hy : VR G w (nu .u8 ka) y) (hz : VR G w (nu .i64 vb) z) :
    ∃ w', (Instr.mapUpdate t x y z).run P w = .ok () w' ∧ Ok G w' (m.set id (some (.mp ((ka, vb) :: l)))) ∧ Adv G w G w' := by
  obtain ⟨kt, et, t1, t2, t3⟩ := ht
  rw [nu_eq hy, nu_eq hz]
  cases hx with
  | @mp _ b hl =>
  obtain ⟨b', h1, h2, h3⟩ := hok.ob id _ hm
  have e0 : b' = b := by rw [hl] at h1; cases h1; rfl
  rw [e0] at h2 h3
  obtain ⟨o, q1, q2⟩ := mapUpdate_run (P := P) (mt := t) (int_kl t2) t1 h3 ka (.int .i64 vb)
  have hb := h3.lt
  have hadv : Adv G w G (setBlock w b o) := by
    refine ⟨⟨fun _ _ _ q => ⟨q, rfl, rfl⟩, fun _ _ _ _ _ _ q => ⟨q, rfl⟩, fun b' q => ⟨q, heap_setBlock_ne ?_⟩⟩, ⟨rfl, rfl, rfl, by rw [setBlock_size]; exact Nat.le_refl _, fun b' _ q => ⟨heap_setBlock_ne ?_, rfl⟩, fun _ _ => rfl⟩⟩
    · rintro rfl; rw [h2] at q; cases q
    · rintro rfl
      rcases q with q | q <;> rw [h2] at q <;> cases q
  refine ⟨_, q1, ?_, hadv⟩
  refine hok.put (live_lt hm) hadv (fun b2 id2 hne hl2 hown => ⟨rfl, heap_setBlock_ne ?_⟩) (fun _ _ => ⟨rfl, rfl, rfl⟩) (fun b q => by rw [setBlock_size]; exact hok.imm b q) (fun b q => hok.new b (by rw [setBlock_size] at q; exact q)) (fun i b o q => by rw [setBlock_size]; exact hok.lt i b o q) (fun i j k v b o q => by rw [setBlock_size]; exact hok.rlt i j k v b o q) hok.ver (hok.frl _) (fun o' q => ?_)
  · rintro rfl
    rcases hown with q | ⟨_, _, _, q⟩ <;> rw [h2] at q <;> cases q
    exact hne rfl
  · cases q
    refine ⟨b, hl, h2, ?_⟩
    have e : mgetV ((ka, vb) :: l) = mupd (mgetV l) ka (.int .i64 vb) := by
      funext k
      unfold mgetV mupd
      rw [mget]
      by_cases hk : k = ka
      · rw [if_pos hk, if_pos hk]; rfl
      · rw [if_neg hk, if_neg hk]
    rw [e]
    refine q2 _ ?_
    obtain ⟨es, cl, h4, _⟩ := h3
    exact heap_setBlock h4
theorem look_sound {P : Program} {m : List (Option Ob)} (hok : Ok G w m) {t : TypeId} (ht : MapT P t) {id : Nat} {l : List (Int × Int)} {ka : Int} {x y : Value} (hm : m[id]? = some (some (.mp l))) (hx : VR G w (.mp id) x) (hy : VR G w (nu .u8 ka) y) :
    ∃ u, (Instr.lookup t x y true).run P w = .ok u w ∧ VR G w (.tup [nu .i64 ((mget l ka).getD 0), bo (mget l ka).isSome]) u := by
  obtain ⟨kt, et, t1, t2, t3⟩ := ht
  rw [nu_eq hy]
  cases hx with
  | mp hl =>
  obtain ⟨b, h1, h2, h3⟩ := hok.ob id _ hm
  rw [hl] at h1
  cases h1
  refine ⟨_, lookup_ok_run (P := P) (mt := t) (int_kl t2) t1 _ t3 h3 ka, ?_⟩
  refine .tup rfl fun j x hj => ?_
  unfold mgetV
  match j, hj with
  | 0, hj => cases hj; cases mget l ka <;> exact .nu _ _
  | 1, hj => cases hj; cases mget l ka <;> exact .bo _
theorem Wc_sound (hE : EnvOk E) {o : Oper} {nid : Nat} {K : St → Prop} (hr : Rel E.N G w s a) (hd : ∀ t, o.dst = some t → t < E.N) (hU : ∀ j, nid ≤ j → j < nid + need o → j < s.m.length ∧ G.loc j = none) (h : Wc E o nid K s) :
    o.wp E.P a w (Nx E.N G w s nid (need o) K) Q := by
  have hev : ∀ x, VR G w (ev s.A x) (a.eval x) := hr.ev
  have pureCase : (∃ v, pure1 E.T o.op (ev s.A) = some v ∧ K (s.put o.dst v)) → o.wp E.P a w (Nx E.N G w s nid (need o) K) Q := fun ⟨v, h1, h2⟩ => by
    obtain ⟨u, q1, q2⟩ := pure1_sound hE.T hev h1
    exact wp_val q1 (nx hr hd hr.ok (.refl _ _) q2 (fun _ _ _ => rfl) (Nat.le_refl _) h2)
  unfold Wc X at h
  split at h
  · rename_i t x ho
    obtain ⟨v, h1, h2⟩ := h
    obtain ⟨u, q1, q2⟩ := load_sound hE.T hr.ok (hev x) h1
    exact wp_val (by unfold execOp; rw [ho]; exact run_v q1) (nx hr hd hr.ok (.refl _ _) q2 (fun _ _ _ => rfl) (Nat.le_refl _) h2)
  · rename_i t x y ho
    rcases h with ⟨m', h1, h2⟩ | ⟨id, k, off, sz, es, row, y', r, m1, ti, e1, e2, e3, e4, e5, e6, e7, h2⟩
    · obtain ⟨w', q1, q2, q3⟩ := store_sound hE.T hr.ok (hev x) (hev y) h1
      refine wp_skip' (w' := w') (by unfold execOp; rw [ho]; exact run_u q1) ?_
      exact nx hr hd q2 q3 .any (fun _ _ _ => rfl) (by rw [len_aStore h1]; exact Nat.le_refl _) h2
    · have hx := hev x
      rw [e1] at hx
      obtain ⟨ver, w', G', q1, q2, q3, q4⟩ := stRow_sound hE.T hr.ok e2 e3 e4 e5 e6 hx (hev y) e7
      refine wp_skip' (w' := w') (by unfold execOp; rw [ho]; exact run_u q1) ?_
      exact nx hr hd q2 q3 .any (fun j _ _ => q4 j) (by simp [len_rowOf e7]) (h2 ver)
  · rename_i e ho
    obtain ⟨i, h1, h2⟩ := h
    have hn : need o = 1 := by simp [need, ho]
    obtain ⟨u1, u2⟩ := hU nid (Nat.le_refl _) (by omega)
    obtain ⟨v, w', G', q1, q2, q3, q4, q5⟩ := alloc_sound hE.T hr.ok h1 u1 u2
    exact wp_val (by unfold execOp; rw [ho]; exact run_v q1) (nx hr hd q2 q3 q4 (fun j _ hj => q5 j (by omega)) (by simp) h2)
  · rename_i e x ho
    obtain ⟨xs, h1, h2⟩ := h
    have hn : need o = 1 := by simp [need, ho]
    obtain ⟨u1, u2⟩ := hU nid (Nat.le_refl _) (by omega)
    obtain ⟨v, w', G', q1, q2, q3, q4, q5⟩ := box_sound (P := E.P) hr.ok (t := e) (hev x) h1 u1 u2
    exact wp_val (by unfold execOp; rw [ho]; exact run_v q1) (nx hr hd q2 q3 q4 (fun j _ hj => q5 j (by omega)) (by simp) h2)
  · rename_i t l c ho
    obtain ⟨ti, e, i, kl, kc, l', c', rows, h1, h2, h3, h4, h5, h6, h7, h8, h9, hK⟩ := h
    have hn : need o = 1 := by simp [need, ho]
    obtain ⟨u1, u2⟩ := hU nid (Nat.le_refl _) (by omega)
    have hl := hev l
    have hc := hev c
    rw [h4] at hl
    rw [h5] at hc
    obtain ⟨v, w', G', q1, q2, q3, q4, q5⟩ := make_sound hE.T hr.ok h1 h2 h3 (kl := kl) (kc := kc) h6 h7 h8 h9 u1 u2 rows
    have hnu : ∀ {k : IntKind} {n : Int} {v : Value}, VR G w (nu k n) v → v = .int k n := fun hq => by
      cases hq with
      | c hq => cases hq; rfl
    refine wp_val (by unfold execOp; rw [ho]; dsimp only; rw [hnu hl, hnu hc]; exact run_v q1) (nx hr hd q2 q3 q4 (fun j _ hj => q5 j (by omega)) (by simp) hK)
  · rename_i t n ps ho
    have hn : need o = 1 := by simp [need, ho]
    obtain ⟨u1, u2⟩ := hU nid (Nat.le_refl _) (by omega)
    rcases h with ⟨si, es, rows, h1, hK⟩ | ⟨si, es, h1, hK⟩
    · obtain ⟨v, w', G', q1, q2, q3, q4, q5⟩ := lit_sound hE.T hr.ok (ρ := ev s.A) (r := a.eval) hev h1 u1 u2 rows
      exact wp_val (by unfold execOp; rw [ho]; exact run_v q1) (nx hr hd q2 q3 q4 (fun j _ hj => q5 j (by omega)) (by simp) hK)
    · obtain ⟨v, w', G', q1, q2, q3, q4, q5⟩ := lit_sound hE.T hr.ok (ρ := ev s.A) (r := a.eval) hev h1 u1 u2 false
      have hl := pLit_len h1
      obtain ⟨G2, p1, p2, p3, p4⟩ := frz_sound q2 (id := nid) (s := si) (es := es) (by rw [List.getElem?_set, if_pos rfl, if_pos u1])
      rw [List.set_set] at p1
      have hc := p4 0 n true v (by omega) q4
      rw [List.drop_zero, List.take_of_length_le (by omega)] at hc
      exact wp_val (by unfold execOp; rw [ho]; exact run_v q1) (nx hr hd p1 (q3.trans p2) (.c hc) (fun j _ hj => (p3 j).trans (q5 j (by omega))) (by simp) hK)
  · rename_i c ho
    obtain ⟨callee, args, ats⟩ := c
    dsimp only at h
    split at h
    · rename_i b
      split at h
      · obtain ⟨t, x, y, e1, e2, h⟩ := h
        subst e1
        have hn : need o = 2 := by simp [need, ho]
        have ha : ∃ ox oy, args = #[ox, oy] ∧ ev s.A ox = x ∧ ev s.A oy = y := by
          obtain ⟨l⟩ := args
          match l, e2 with
          | [ox, oy], e2 => simp at e2; exact ⟨ox, oy, rfl, e2.1, e2.2⟩
        obtain ⟨ox, oy, rfl, rfl, rfl⟩ := ha
        have run : ∀ r w', (Builtin.append_ #[t, t] o.type #[a.eval ox, a.eval oy]).run E.P w = .ok r w' → (execOp a.eval o).run E.P w = .ok (.value r) w' := fun r w' hq => by
          unfold execOp
          rw [ho]
          simp only [resolve, Sem.run_bind, Sem.run_pure, Result.andThen_ok, invoke, builtin, List.map_toArray, List.map_cons, List.map_nil]
          rw [hq]
          rfl
        rcases h with h | ⟨id, i, j, ver, off, len, m0, e3, e4, h⟩
        · obtain ⟨u1, u2⟩ := hU nid (Nat.le_refl _) (by omega)
          obtain ⟨r, w', G', r2, m2, q1, q2, q3, q4, q5, q6, q7⟩ := app1_sound hE hr.ok (ty := o.type) (hev ox) (hev oy) u1 u2 h
          exact wp_val (run _ _ q1) (nx hr hd q3 q4 q5 (fun j _ hj => q6 j (by omega)) (by omega) q2)
        · obtain ⟨u1, u2⟩ := hU nid (Nat.le_refl _) (by omega)
          obtain ⟨u3, u4⟩ := hU (nid + 1) (by omega) (by omega)
          obtain ⟨G0, d1, d2, d3, d4⟩ := detach_sound hr.ok u4 e4
          have hx := hev ox
          rw [e3] at hx
          have hlen := len_detach e4
          obtain ⟨r, w', G', r2, m2, q1, q2, q3, q4, q5, q6, q7⟩ := app1_sound hE d1 (ty := o.type) (d4 _ _ _ hx) ((hev oy).mono d2.ext) (by omega) (by rw [d3 nid (by omega)]; exact u2) h
          exact wp_val (run _ _ q1) (nx hr hd q3 (d2.trans q4) q5 (fun j _ hj => by rw [q6 j (by omega), d3 j (by omega)]) (by omega) q2)
      · exact pureCase h
    · rename_i f
      obtain ⟨fid, caps, L, mc, argsc, Post, e1, e2, e3, e4, e5, e6, e7⟩ := h
      obtain ⟨fn, f1, f2, f3⟩ := hE.fn _ _ _ _ e5
      have hf := hev f
      rw [e1] at hf
      generalize hfv : a.eval f = fv at hf
      cases hf with
      | @fn _ _ cs hcl hcs =>
      have hargs : VRL G w (args.toList.map (ev s.A) ++ caps) (args.map a.eval ++ cs) := by
        refine ⟨by simp [hcl], fun j x hj => ?_⟩
        by_cases hlt : j < args.size
        · rw [List.getElem?_append_left (by simpa using hlt)] at hj
          have := caps_rel (G := G) (w := w) hev args j x hj
          have e : (args.map a.eval ++ cs).getD j undef = (args.map a.eval).getD j undef := by
            simp only [Array.getD_eq_getD_getElem?]
            rw [Array.getElem?_append_left (by simpa using hlt)]
          rw [e]
          exact this
        · rw [List.getElem?_append_right (by simpa using Nat.le_of_not_lt hlt)] at hj
          simp only [List.length_map, Array.length_toList] at hj
          have e : (args.map a.eval ++ cs).getD j undef = cs.getD (j - args.size) undef := by
            simp only [Array.getD_eq_getD_getElem?]
            rw [Array.getElem?_append_right (by simpa using Nat.le_of_not_lt hlt)]
            simp
          rw [e]
          exact hcs _ _ hj
      have hcall := call_sound hE.S hr.ok hargs e2 e3 e4 e5 (K := fun r2 m2 => K ((s.mem m2).put o.dst r2)) e7
      have hrun : (execOp a.eval o).run E.P w = .ok (.enter fid (args.map a.eval ++ cs)) w := by
        unfold execOp
        rw [ho]
        have hb : ¬ fn.body = none := by
          intro hq
          rw [hq] at f3
          cases f3
        have f2' : ¬ fn.name = "runtime.NumGoroutine" := by simpa using f2
        simp [resolve, Deferred.ofValue, invoke, hfv, callFunc, f1, f2', hb]
      unfold Oper.wp
      rw [hrun, Oper.upon_enter]
      refine hcall.mono fun e w' hq => ?_
      obtain ⟨v, G2, r2, m2, rfl, k1, k2, k3, k4, k5, k6⟩ := hq
      exact nx hr hd k2 k4 k3 (fun j hj _ => k5 j hj) k6 k1
    · exact h.elim
  · rename_i t r ho
    obtain ⟨rfl, h2⟩ := h
    have hn : need o = 1 := by simp [need, ho]
    obtain ⟨u1, u2⟩ := hU nid (Nat.le_refl _) (by omega)
    obtain ⟨q2, q3, q4, q5⟩ := mk_sound hr.ok u1 u2
    exact wp_val (by unfold execOp; rw [ho]; exact run_v (mk_run _ _)) (nx hr hd q2 q3 q4 (fun j _ hj => q5 j (by omega)) (by simp) h2)
  · rename_i t x y z ho
    obtain ⟨id, ka, vb, l, e1, e2, e3, ht, ho2, h2⟩ := h
    have hx := hev x
    have hy := hev y
    have hz := hev z
    rw [e1] at hx
    rw [e2] at hy
    rw [e3] at hz
    obtain ⟨w', q1, q2, q3⟩ := ins_sound hr.ok ht (obGet_some ho2) hx hy hz
    refine wp_skip' (w' := w') (by unfold execOp; rw [ho]; exact run_u q1) ?_
    exact nx hr hd q2 q3 .any (fun _ _ _ => rfl) (by simp) h2
  · rename_i t x y b ho
    obtain ⟨rfl, id, ka, l, e1, e2, ht, ho2, h2⟩ := h
    have hx := hev x
    have hy := hev y
    rw [e1] at hx
    rw [e2] at hy
    obtain ⟨u, q1, q2⟩ := look_sound hr.ok ht (obGet_some ho2) hx hy
    exact wp_val (by unfold execOp; rw [ho]; exact run_v q1) (nx hr hd hr.ok (.refl _ _) q2 (fun _ _ _ => rfl) (Nat.le_refl _) h2)
  · exact pureCase h
end
end Go.Proofs.YtogfcpaalcebdaaE
/- An engine for walks: a statement: its operations in the order of the text. -/
namespace Go.Proofs.YtogfcpaalcebdaaE
open Go Go.RowKit
set_option linter.unusedVariables false
set_option linter.unusedSimpArgs false
def guardV (ops : List Oper) (A : Nat → V) (j : Nat) (want : Bool) : Option Bool :=
  match ops[j]? with
  | some o => match o.dst with
    | some t => match A t with
      | .c (.sc (.bool b)) => some b
      | .tup [] => some (!want)
      | _ => none
    | none => none
  | none => none
def Xg (E : Env) (ops : List Oper) (o : Oper) (nid : Nat) (A : Nat → V) (m : List (Option Ob)) (k : V → List (Option Ob) → Prop) : Prop :=
  match o.guard with
  | none => X E o nid A m k
  | some (j, want) => ∃ t, guardV ops A j want = some t ∧ (t = want → X E o nid A m k) ∧ (t ≠ want → k (.tup []) m)
def Wg (E : Env) (ops : List Oper) (o : Oper) (nid : Nat) (K : St → Prop) (s : St) : Prop := Xg E ops o nid s.A s.m fun v m' => K ((s.mem m').put o.dst v)
def Wl (E : Env) (ops : List Oper) (K : St → Prop) : List Oper → Nat → St → Prop
  | [], _ => K
  | o :: r, nid => Wg E ops o nid (Wl E ops K r (nid + need o))
def needs : List Oper → Nat
  | [] => 0
  | o :: r => need o + needs r
def dstOk (N : Nat) : List Oper → Bool
  | [] => true
  | o :: r => (match o.dst with
    | some t => Nat.blt t N
    | none => true) && dstOk N r
section
variable {E : Env} {G G' : Gh} {w w' : World} {s s' : St} {a : Act} {Q : Exit → Act → World → Prop}
theorem X_mono {o : Oper} {nid : Nat} {A : Nat → V} {m : List (Option Ob)} {k k' : V → List (Option Ob) → Prop} (hk : ∀ v m', k v m' → k' v m') (h : X E o nid A m k) : X E o nid A m k' := by
  unfold X at h ⊢
  split at h
  · obtain ⟨v, h1, h2⟩ := h; exact ⟨v, h1, hk _ _ h2⟩
  · rcases h with ⟨m', h1, h2⟩ | ⟨id, k, off, sz, es, row, y', r, m1, ti, e1, e2, e3, e4, e5, e6, e7, h2⟩
    · exact .inl ⟨m', h1, hk _ _ h2⟩
    · exact .inr ⟨id, k, off, sz, es, row, y', r, m1, ti, e1, e2, e3, e4, e5, e6, e7, fun ver => hk _ _ (h2 ver)⟩
  · obtain ⟨v, h1, h2⟩ := h; exact ⟨v, h1, hk _ _ h2⟩
  · obtain ⟨v, h1, h2⟩ := h; exact ⟨v, h1, hk _ _ h2⟩
  · obtain ⟨ti, e, i, kl, kc, l', c', rows, h1, h2, h3, h4, h5, h6, h7, h8, h9, hK⟩ := h
    exact ⟨ti, e, i, kl, kc, l', c', rows, h1, h2, h3, h4, h5, h6, h7, h8, h9, hk _ _ hK⟩
  · rcases h with ⟨si, es, rows, h1, hK⟩ | ⟨si, es, h1, hK⟩
    · exact .inl ⟨si, es, rows, h1, hk _ _ hK⟩
    · exact .inr ⟨si, es, h1, hk _ _ hK⟩
  · split at h
    · split at h
      · have app1 : ∀ {t x y m nid}, WApp1 E t x y m nid k → WApp1 E t x y m nid k' := fun {t x y m nid} h => by
          obtain ⟨ti, e, i, base, rows, m1, h1, h2, h3, h4, h5, h6, h7, h8, h9, h10, hK⟩ := h
          exact ⟨ti, e, i, base, rows, m1, h1, h2, h3, h4, h5, h6, h7, h8, h9, h10, hk _ _ hK⟩
        obtain ⟨t, x, y, e1, e2, h⟩ := h
        refine ⟨t, x, y, e1, e2, ?_⟩
        rcases h with h | ⟨id, i, j, ver, off, len, m0, e3, e4, h⟩
        · exact .inl (app1 h)
        · exact .inr ⟨id, i, j, ver, off, len, m0, e3, e4, app1 h⟩
      · obtain ⟨v, h1, h2⟩ := h; exact ⟨v, h1, hk _ _ h2⟩
    · obtain ⟨fid, caps, L, mc, argsc, Post, e1, e2, e3, e4, e5, e6, e7⟩ := h
      refine ⟨fid, caps, L, mc, argsc, Post, e1, e2, e3, e4, e5, e6, fun r mc' mv hp => ?_⟩
      obtain ⟨q1, q2, m2, r2, q3, q4, q5⟩ := e7 r mc' mv hp
      exact ⟨q1, q2, m2, r2, q3, q4, hk _ _ q5⟩
    · exact h
  · exact ⟨h.1, hk _ _ h.2⟩
  · obtain ⟨id, a, b, l, h1, h2, h3, h4, h5, h6⟩ := h; exact ⟨id, a, b, l, h1, h2, h3, h4, h5, hk _ _ h6⟩
  · obtain ⟨h0, id, a, l, h1, h2, h3, h4, h5⟩ := h; exact ⟨h0, id, a, l, h1, h2, h3, h4, hk _ _ h5⟩
  · obtain ⟨v, h1, h2⟩ := h; exact ⟨v, h1, hk _ _ h2⟩
theorem Xg_mono {ops : List Oper} {o : Oper} {nid : Nat} {A : Nat → V} {m : List (Option Ob)} {k k' : V → List (Option Ob) → Prop} (hk : ∀ v m', k v m' → k' v m') (h : Xg E ops o nid A m k) : Xg E ops o nid A m k' := by
  unfold Xg at h ⊢
  split at h
  · exact X_mono hk h
  · obtain ⟨t, h1, h2, h3⟩ := h
    exact ⟨t, h1, fun q => X_mono hk (h2 q), fun q => hk _ _ (h3 q)⟩
theorem guard_sound {N : Nat} {ops : Array Oper} {j : Nat} {t want : Bool} (hr : Rel N G w s a) (h : guardV ops.toList s.A j want = some t) : yielded ops a.tmps j = some t ∨ (yielded ops a.tmps j = none ∧ t = !want) := by
  unfold guardV at h
  split at h
  · rename_i o ho
    split at h
    · rename_i d hd
      split at h
      · rename_i b hb
        cases h
        have hv := hr.fr d
        rw [hb] at hv
        have e : a.tmps.getD d undef = .bool t := by
          generalize a.tmps.getD d undef = v at hv
          cases hv with
          | c hv => cases hv; rfl
        have hlt : a.tmps[d]? = some (.bool t) := by
          rw [Array.getD_eq_getD_getElem?] at e
          cases hq : a.tmps[d]? with
          | none => rw [hq] at e; cases e
          | some v => rw [hq] at e; simp at e; rw [e]
        have ho' : ops[j]? = some o := by rw [← Array.getElem?_toList]; exact ho
        exact .inl (by simp [yielded, ho', hd, hlt])
      · rename_i hb
        cases h
        have hv := hr.fr d
        rw [hb] at hv
        have ho' : ops[j]? = some o := by rw [← Array.getElem?_toList]; exact ho
        refine .inr ⟨?_, rfl⟩
        cases hq : a.tmps[d]? with
        | none => simp [yielded, ho', hd, hq]
        | some v =>
          have e : a.tmps.getD d undef = v := by rw [Array.getD_eq_getD_getElem?, hq]; rfl
          rw [e] at hv
          cases hv with
          | tup hl hh => simp [yielded, ho', hd, hq]
      · cases h
    · cases h
  · cases h
theorem Wg_sound (hE : EnvOk E) {ops : Array Oper} {i : Nat} {o : Oper} (ho : ops[i]? = some o) {nid : Nat} {K : St → Prop} (hr : Rel E.N G w s a) (hd : ∀ t, o.dst = some t → t < E.N) (hU : ∀ j, nid ≤ j → j < nid + need o → j < s.m.length ∧ G.loc j = none) (h : Wg E ops.toList o nid K s) :
    wpOp E.P ops Q i (Nx E.N G w s nid (need o) K) a w := by
  unfold wpOp
  rw [ho]
  dsimp only
  unfold Wg Xg at h
  split at h
  · rename_i hg
    rw [if_pos (by unfold Region.wanted; rw [hg])]
    exact .inl (Wc_sound hE hr hd hU h)
  · rename_i j want hg
    obtain ⟨t, h1, h2, h3⟩ := h
    have hy := guard_sound hr h1
    by_cases e : t = want
    · have hy : yielded ops a.tmps j = some t := hy.resolve_right fun q => by rw [e] at q; cases want <;> simp at q
      rw [if_pos (by unfold Region.wanted; rw [hg]; simp [hy, e])]
      exact .inl (Wc_sound hE hr hd hU (h2 e))
    · rw [if_neg (by unfold Region.wanted; rw [hg]; rcases hy with hy | hy <;> simp [hy, e])]
      exact nx hr hd hr.ok (.refl _ _) (.tup rfl fun j x q => by simp at q) (fun _ _ _ => rfl) (Nat.le_refl _) (h3 e)
theorem wpOps_cons' {P : Program} {ops : Array Oper} (i : Nat) (rest : List Nat) (a : Act) (w : World) (h : wpOp P ops Q i (wpOps P ops Q rest) a w) : wpOps P ops Q (i :: rest) a w := by rw [wpOps_cons]; exact h
theorem Wl_sound (hE : EnvOk E) {ops : Array Oper} {lo : Nat} {K : St → Prop} : ∀ (l : List Oper) (i nid : Nat) (G : Gh) (w : World) (s : St) (a : Act), ops.toList.drop i = l → Rel E.N G w s a → dstOk E.N l = true → (∀ j, nid ≤ j → j < nid + needs l → j < s.m.length ∧ G.loc j = none) → Wl E ops.toList K l nid s →
    lo ≤ nid → lo ≤ s.m.length →
    (∀ G' w' s' a', K s' → Rel E.N G' w' s' a' → Adv G w G' w' → (∀ j, j < lo → G'.loc j = G.loc j) → lo ≤ s'.m.length → Q .normal a' w') → wpOps E.P ops Q (List.range' i l.length) a w
  | [], i, nid, G, w, s, a, hl, hr, hd, hU, h, _, hlm, hQ => hQ G w s a h hr (.refl _ _) (fun _ _ => rfl) hlm
  | o :: r, i, nid, G, w, s, a, hl, hr, hd, hU, h, hlo, hlm, hQ => by
    simp only [dstOk, Bool.and_eq_true] at hd
    have ho : ops[i]? = some o := by
      rw [← Array.getElem?_toList]
      have : (ops.toList.drop i)[0]? = some o := by rw [hl]; rfl
      rwa [List.getElem?_drop, Nat.add_zero] at this
    have hl' : ops.toList.drop (i + 1) = r := by
      rw [← List.drop_drop, hl]; rfl
    rw [List.length_cons, List.range'_succ]
    refine wpOps_cons' _ _ _ _ (wpOp_mono (fun a' w' hn => ?_) (Wg_sound hE ho hr (fun t ht => by have := hd.1; rw [ht] at this; exact Nat.le_of_ble_eq_true this) (fun j h1 h2 => hU j h1 (by simp only [needs]; omega)) h))
    obtain ⟨G', s', k1, k2, k3, k4, k5⟩ := hn
    exact Wl_sound hE r (i + 1) (nid + need o) G' w' s' a' hl' k2 hd.2 (fun j h1 h2 => by
      obtain ⟨u1, u2⟩ := hU j (by omega) (by simp only [needs]; omega)
      exact ⟨by omega, by rw [k4 j u1 (.inr h1)]; exact u2⟩) k1 (by omega) (by omega) fun G2 w2 s2 a2 e1 e2 e3 e4 e5 => hQ G2 w2 s2 a2 e1 e2 (k3.trans e3) (fun j hj => (e4 j hj).trans (k4 j (by omega) (.inl (by omega)))) e5
theorem Wl_sound2 (hE : EnvOk E) {ops : Array Oper} {lo : Nat} {K : St → Prop} : ∀ (l t : List Oper) (i nid : Nat) (G : Gh) (w : World) (s : St) (a : Act) (m : Nat), ops.toList.drop i = l ++ t → Rel E.N G w s a → dstOk E.N l = true → (∀ j, nid ≤ j → j < nid + needs l → j < s.m.length ∧ G.loc j = none) → Wl E ops.toList K l nid s →
    lo ≤ nid → lo ≤ s.m.length →
    (∀ G' w' s' a', K s' → Rel E.N G' w' s' a' → Adv G w G' w' → (∀ j, j < lo → G'.loc j = G.loc j) → (∀ j, j < s.m.length → nid + needs l ≤ j → G'.loc j = G.loc j) → s.m.length ≤ s'.m.length → wpOps E.P ops Q (List.range' (i + l.length) m) a' w') → wpOps E.P ops Q (List.range' i (l.length + m)) a w
  | [], t, i, nid, G, w, s, a, m, hl, hr, hd, hU, h, _, hlm, hQ => by
    have := hQ G w s a h hr (.refl _ _) (fun _ _ => rfl) (fun _ _ _ => rfl) (Nat.le_refl _)
    simpa using this
  | o :: r, t, i, nid, G, w, s, a, m, hl, hr, hd, hU, h, hlo, hlm, hQ => by
    simp only [dstOk, Bool.and_eq_true] at hd
    have ho : ops[i]? = some o := by
      rw [← Array.getElem?_toList]
      have : (ops.toList.drop i)[0]? = some o := by rw [hl]; rfl
      rwa [List.getElem?_drop, Nat.add_zero] at this
    have hl' : ops.toList.drop (i + 1) = r ++ t := by
      rw [← List.drop_drop, hl]; rfl
    rw [List.length_cons, show r.length + 1 + m = (r.length + m) + 1 by omega, List.range'_succ]
    refine wpOps_cons' _ _ _ _ (wpOp_mono (fun a' w' hn => ?_) (Wg_sound hE ho hr (fun t ht => by have := hd.1; rw [ht] at this; exact Nat.le_of_ble_eq_true this) (fun j h1 h2 => hU j h1 (by simp only [needs]; omega)) h))
    obtain ⟨G', s', k1, k2, k3, k4, k5⟩ := hn
    refine Wl_sound2 (lo := lo) hE r t (i + 1) (nid + need o) G' w' s' a' m hl' k2 hd.2 (fun j h1 h2 => by
      obtain ⟨u1, u2⟩ := hU j (by omega) (by simp only [needs]; omega)
      exact ⟨by omega, by rw [k4 j u1 (.inr h1)]; exact u2⟩) k1 (by omega) (by omega) fun G2 w2 s2 a2 e1 e2 e3 e4 e6 e5 => ?_
    have := hQ G2 w2 s2 a2 e1 e2 (k3.trans e3) (fun j hj => (e4 j hj).trans (k4 j (by omega) (.inl (by omega)))) (fun j hj hj2 => by
      simp only [needs] at hj2
      rw [e6 j (by omega) (by omega), k4 j hj (.inr (by omega))]) (by omega)
    rwa [List.length_cons, show i + (r.length + 1) = i + 1 + r.length by omega] at this
def Gfa (E : Env) (s s' : St) : Prop := ∀ G w a, Rel E.N G w s a → ∃ G', Rel E.N G' w s' a ∧ Adv G w G' w ∧ (∀ j, G'.loc j = G.loc j) ∧ s'.m.length = s.m.length
def Wls (E : Env) (ops : List Oper) (K : St → Prop) : List Nat → List Oper → Nat → St → Prop
  | [], l, nid, s => Wl E ops K l nid s
  | n :: c, l, nid, s => Wl E ops (fun s1 => ∃ s2, Gfa E s1 s2 ∧ Wls E ops K c (l.drop n) (nid + needs (l.take n)) s2) (l.take n) nid s
theorem Wls_mono {ops : List Oper} {K K' : St → Prop} (hK : ∀ s, K s → K' s) (mono : ∀ (K K' : St → Prop), (∀ s, K s → K' s) → ∀ (l : List Oper) (nid : Nat) (s : St), Wl E ops K l nid s → Wl E ops K' l nid s) : ∀ (c : List Nat) (l : List Oper) (nid : Nat) (s : St), Wls E ops K c l nid s → Wls E ops K' c l nid s
  | [], l, nid, s, h => mono _ _ hK l nid s h
  | n :: c, l, nid, s, h => mono _ _ (fun s1 ⟨s2, h1, h2⟩ => ⟨s2, h1, Wls_mono hK mono c _ _ _ h2⟩) _ nid s h
theorem dstOk_app {N : Nat} : ∀ {l : List Oper} (n : Nat), dstOk N l = true → dstOk N (l.take n) = true ∧ dstOk N (l.drop n) = true
  | [], n, h => by simp [dstOk]
  | o :: r, 0, h => ⟨rfl, h⟩
  | o :: r, n + 1, h => by
    simp only [dstOk, Bool.and_eq_true] at h
    obtain ⟨h1, h2⟩ := dstOk_app n h.2
    simp only [List.take_succ_cons, List.drop_succ_cons, dstOk, Bool.and_eq_true]
    exact ⟨⟨h.1, h1⟩, h2⟩
theorem needs_app : ∀ (l : List Oper) (n : Nat), needs (l.take n) + needs (l.drop n) = needs l
  | [], n => by simp [needs]
  | o :: r, 0 => by simp [needs]
  | o :: r, n + 1 => by
    have := needs_app r n
    simp only [List.take_succ_cons, List.drop_succ_cons, needs]
    omega
theorem Wls_sound (hE : EnvOk E) {ops : Array Oper} {lo : Nat} {K : St → Prop} : ∀ (c : List Nat) (l : List Oper) (i nid : Nat) (G : Gh) (w : World) (s : St) (a : Act), ops.toList.drop i = l → Rel E.N G w s a → dstOk E.N l = true → (∀ j, nid ≤ j → j < nid + needs l → j < s.m.length ∧ G.loc j = none) → Wls E ops.toList K c l nid s →
    lo ≤ nid → lo ≤ s.m.length →
    (∀ G' w' s' a', K s' → Rel E.N G' w' s' a' → Adv G w G' w' → (∀ j, j < lo → G'.loc j = G.loc j) → lo ≤ s'.m.length → Q .normal a' w') → wpOps E.P ops Q (List.range' i l.length) a w
  | [], l, i, nid, G, w, s, a, hl, hr, hd, hU, h, hlo, hlm, hQ => Wl_sound hE l i nid G w s a hl hr hd hU h hlo hlm hQ
  | n :: c, l, i, nid, G, w, s, a, hl, hr, hd, hU, h, hlo, hlm, hQ => by
    obtain ⟨d1, d2⟩ := dstOk_app n hd
    have hn := needs_app l n
    have e : l.length = (l.take n).length + (l.drop n).length := by rw [← List.length_append, List.take_append_drop]
    rw [e]
    refine Wl_sound2 (lo := lo) hE (l.take n) (l.drop n) i nid G w s a _ (by rw [hl, List.take_append_drop]) hr d1 (fun j h1 h2 => hU j h1 (by omega)) h hlo hlm fun G1 w1 s1 a1 ⟨s2, g1, g2⟩ e2 e3 e4 e5 e6 => ?_
    obtain ⟨G2, p1, p2, p3, p4⟩ := g1 G1 w1 a1 e2
    refine Wls_sound (lo := lo) hE c (l.drop n) (i + (l.take n).length) (nid + needs (l.take n)) G2 w1 s2 a1 ?_ p1 d2 (fun j h1 h2 => ?_) g2 (by omega) (by omega) fun G3 w3 s3 a3 q1 q2 q3 q4 q5 => hQ G3 w3 s3 a3 q1 q2 (e3.trans (p2.trans q3)) (fun j hj => by rw [q4 j hj, p3 j, e4 j hj]) q5
    · rw [← List.drop_drop, hl, List.length_take]
      by_cases hle : n ≤ l.length
      · rw [Nat.min_eq_left hle]
      · rw [Nat.min_eq_right (by omega), List.drop_eq_nil_of_le (Nat.le_refl _), List.drop_eq_nil_of_le (by omega)]
    · obtain ⟨u1, u2⟩ := hU j (by omega) (by omega)
      exact ⟨by omega, by rw [p3 j, e5 j u1 h1]; exact u2⟩
def pad (s : St) (n : Nat) : St := s.mem (s.m ++ List.replicate n none)
theorem pad_rel {N n : Nat} (hr : Rel N G w s a) : Rel N G w (pad s n) a ∧ ∀ j, s.m.length ≤ j → j < s.m.length + n → j < (pad s n).m.length ∧ G.loc j = none := by
  refine ⟨⟨⟨fun id o h => ?_, hr.ok.imm, fun id h => hr.ok.fresh id ?_, hr.ok.new, hr.ok.lt, hr.ok.rlt, hr.ok.ver, hr.ok.frl⟩, hr.fr, hr.n, hr.df⟩, fun j h1 h2 => ⟨?_, hr.ok.fresh j h1⟩⟩
  · have h : (s.m ++ List.replicate n none)[id]? = some (some o) := h
    by_cases hlt : id < s.m.length
    · rw [List.getElem?_append_left hlt] at h; exact hr.ok.ob id o h
    · rw [List.getElem?_append_right (by omega), List.getElem?_replicate] at h
      split at h <;> cases h
  · have h : (s.m ++ List.replicate n none).length ≤ id := h
    rw [List.length_append] at h; omega
  · show j < (s.m ++ List.replicate n none).length
    rw [List.length_append, List.length_replicate]; exact h2
theorem region_sound (hE : EnvOk E) {id : Nat} {ops : Array Oper} {K : St → Prop} (hr : Rel E.N G w s a) (hd : dstOk E.N ops.toList = true) {cuts : List Nat} (h : Wls E ops.toList K cuts ops.toList s.m.length (pad s (needs ops.toList)))
    (hQ : ∀ G' w' s' a', K s' → Rel E.N G' w' s' a' → Adv G w G' w' → (∀ j, j < s.m.length → G'.loc j = G.loc j) → s.m.length ≤ s'.m.length → Q .normal a' w') : (Code.region id ops false).wp E.P Q a w := by
  obtain ⟨p1, p2⟩ := pad_rel (n := needs ops.toList) hr
  refine wp_region ?_
  have := Wls_sound (Q := Q) hE cuts ops.toList 0 s.m.length G w (pad s (needs ops.toList)) a rfl p1 hd p2 h (Nat.le_refl _) (by simp [pad, St.mem]) hQ
  rw [List.range_eq_range']
  simpa using this
end
end Go.Proofs.YtogfcpaalcebdaaE
/- An engine for walks: which operations may come in either order. -/
namespace Go.Proofs.YtogfcpaalcebdaaE
open Go Go.RowKit
set_option linter.unusedVariables false
set_option linter.unusedSimpArgs false
abbrev Mem := List (Option Ob)
abbrev Tf := Mem → (V → Mem → Prop) → Prop
def IsP (F : Tf) : Prop := ∃ R : V → Prop, (∀ v v', R v → R v' → v = v') ∧ ∀ m k, F m k ↔ ∃ v, R v ∧ k v m
def IsL (lo : Nat) (F : Tf) : Prop := ∃ R : Mem → V → Prop, (∀ m v v', R m v → R m v' → v = v') ∧ (∀ m n ob v, lo ≤ n → (R (m.set n ob) v ↔ R m v)) ∧ ∀ m k, F m k ↔ ∃ v, R m v ∧ k v m
def IsN (n : Nat) (F : Tf) : Prop := ∃ R : V → Ob → Prop, (∀ v o v' o', R v o → R v' o' → v = v' ∧ o = o') ∧ ∀ m k, F m k ↔ ∃ v o, R v o ∧ k v (m.set n (some o))
def IsQ (lo : Nat) (F : Tf) : Prop := ∃ (ι : Type) (C : Mem → ι → Prop) (Po : ι → V → Prop), (∀ m n ob D, lo ≤ n → (C (m.set n ob) D ↔ C m D)) ∧ ∀ m k, F m k ↔ ∃ D, C m D ∧ (∃ r, Po D r) ∧ ∀ r, Po D r → k r m
structure IsH (F : Tf) : Prop where
  mono : ∀ m k k', (∀ v m', k v m' → k' v m') → F m k → F m k'
  ne : ∀ m k, F m k → ∃ v m', k v m'
theorem IsP.h {F : Tf} (h : IsP F) : IsH F := by
  obtain ⟨R, hu, hf⟩ := h
  refine ⟨fun m k k' hk q => ?_, fun m k q => ?_⟩
  · rw [hf] at q ⊢; obtain ⟨v, h1, h2⟩ := q; exact ⟨v, h1, hk _ _ h2⟩
  · rw [hf] at q; obtain ⟨v, h1, h2⟩ := q; exact ⟨v, m, h2⟩
theorem IsL.h {F : Tf} {lo : Nat} (h : IsL lo F) : IsH F := by
  obtain ⟨R, hu, hs, hf⟩ := h
  refine ⟨fun m k k' hk q => ?_, fun m k q => ?_⟩
  · rw [hf] at q ⊢; obtain ⟨v, h1, h2⟩ := q; exact ⟨v, h1, hk _ _ h2⟩
  · rw [hf] at q; obtain ⟨v, h1, h2⟩ := q; exact ⟨v, m, h2⟩
theorem IsN.h {F : Tf} {n : Nat} (h : IsN n F) : IsH F := by
  obtain ⟨R, hu, hf⟩ := h
  refine ⟨fun m k k' hk q => ?_, fun m k q => ?_⟩
  · rw [hf] at q ⊢; obtain ⟨v, o, h1, h2⟩ := q; exact ⟨v, o, h1, hk _ _ h2⟩
  · rw [hf] at q; obtain ⟨v, o, h1, h2⟩ := q; exact ⟨v, _, h2⟩
theorem IsQ.h {F : Tf} {lo : Nat} (h : IsQ lo F) : IsH F := by
  obtain ⟨ι, C, Po, hs, hf⟩ := h
  refine ⟨fun m k k' hk q => ?_, fun m k q => ?_⟩
  · rw [hf] at q ⊢; obtain ⟨D, h1, h2, h3⟩ := q; exact ⟨D, h1, h2, fun r hr => hk _ _ (h3 r hr)⟩
  · rw [hf] at q; obtain ⟨D, h1, ⟨r, h2⟩, h3⟩ := q; exact ⟨r, m, h3 r h2⟩
inductive Sw (lo : Nat) (Fi Fj : Tf) : Prop
  | pi (h : IsP Fi) (h2 : IsH Fj)
  | pj (h : IsH Fi) (h2 : IsP Fj)
  | ll (h : IsL lo Fi) (h2 : IsL lo Fj)
  | ln (n : Nat) (hn : lo ≤ n) (h : IsL lo Fi) (h2 : IsN n Fj)
  | nl (n : Nat) (hn : lo ≤ n) (h : IsN n Fi) (h2 : IsL lo Fj)
  | nn (n n' : Nat) (hn : n ≠ n') (h : IsN n Fi) (h2 : IsN n' Fj)
  | ql (h : IsQ lo Fi) (h2 : IsL lo Fj)
  | lq (h : IsL lo Fi) (h2 : IsQ lo Fj)
  | qn (n : Nat) (hn : lo ≤ n) (h : IsQ lo Fi) (h2 : IsN n Fj)
  | nq (n : Nat) (hn : lo ≤ n) (h : IsN n Fi) (h2 : IsQ lo Fj)
theorem Sw.swap {lo : Nat} {Fi Fj : Tf} (h : Sw lo Fi Fj) {m : Mem} {k : V → V → Mem → Prop} (hh : Fj m fun vj mj => Fi mj fun vi mi => k vi vj mi) : Fi m fun vi mi => Fj mi fun vj mj => k vi vj mj := by
  cases h with
  | pi h h2 =>
    obtain ⟨R, hu, hf⟩ := h
    have h3 : Fj m fun vj mj => ∃ v, R v ∧ k v vj mj := h2.mono _ _ _ (fun v m' q => by rwa [hf] at q) hh
    obtain ⟨_, _, v0, h4, _⟩ := h2.ne _ _ h3
    rw [hf]
    exact ⟨v0, h4, h2.mono _ _ _ (fun vj mj ⟨v, q1, q2⟩ => by rw [hu v0 v h4 q1]; exact q2) h3⟩
  | pj h h2 =>
    obtain ⟨R, hu, hf⟩ := h2
    rw [hf] at hh
    obtain ⟨vj, h3, h4⟩ := hh
    exact h.mono _ _ _ (fun vi mi q => by rw [hf]; exact ⟨vj, h3, q⟩) h4
  | ll h h2 =>
    obtain ⟨R, hu, hs, hf⟩ := h
    obtain ⟨R2, hu2, hs2, hf2⟩ := h2
    rw [hf2] at hh
    obtain ⟨vj, h3, h4⟩ := hh
    rw [hf] at h4
    obtain ⟨vi, h5, h6⟩ := h4
    rw [hf]
    exact ⟨vi, h5, by rw [hf2]; exact ⟨vj, h3, h6⟩⟩
  | ln n hn h h2 =>
    obtain ⟨R, hu, hs, hf⟩ := h
    obtain ⟨R2, hu2, hf2⟩ := h2
    rw [hf2] at hh
    obtain ⟨vj, o, h3, h4⟩ := hh
    rw [hf] at h4
    obtain ⟨vi, h5, h6⟩ := h4
    rw [hf]
    exact ⟨vi, (hs _ _ _ _ hn).1 h5, by rw [hf2]; exact ⟨vj, o, h3, h6⟩⟩
  | nl n hn h h2 =>
    obtain ⟨R, hu, hf⟩ := h
    obtain ⟨R2, hu2, hs2, hf2⟩ := h2
    rw [hf2] at hh
    obtain ⟨vj, h3, h4⟩ := hh
    rw [hf] at h4
    obtain ⟨vi, o, h5, h6⟩ := h4
    rw [hf]
    exact ⟨vi, o, h5, by rw [hf2]; exact ⟨vj, (hs2 _ _ _ _ hn).2 h3, h6⟩⟩
  | nn n n' hn h h2 =>
    obtain ⟨R, hu, hf⟩ := h
    obtain ⟨R2, hu2, hf2⟩ := h2
    rw [hf2] at hh
    obtain ⟨vj, o2, h3, h4⟩ := hh
    rw [hf] at h4
    obtain ⟨vi, o, h5, h6⟩ := h4
    rw [hf]
    exact ⟨vi, o, h5, by rw [hf2]; exact ⟨vj, o2, h3, by rw [List.set_comm _ _ hn]; exact h6⟩⟩
  | ql h h2 =>
    obtain ⟨ι, C, Po, hs, hf⟩ := h
    obtain ⟨R2, hu2, hs2, hf2⟩ := h2
    rw [hf2] at hh
    obtain ⟨vj, h3, h4⟩ := hh
    rw [hf] at h4
    obtain ⟨D, h5, h6, h7⟩ := h4
    rw [hf]
    exact ⟨D, h5, h6, fun r hr => by rw [hf2]; exact ⟨vj, h3, h7 r hr⟩⟩
  | lq h h2 =>
    obtain ⟨R, hu, hs, hf⟩ := h
    obtain ⟨ι, C, Po, hs2, hf2⟩ := h2
    rw [hf2] at hh
    obtain ⟨D, h3, ⟨r0, h4⟩, h5⟩ := hh
    have h6 := h5 r0 h4
    rw [hf] at h6
    obtain ⟨v0, h7, _⟩ := h6
    rw [hf]
    refine ⟨v0, h7, (hf2 _ _).2 ⟨D, h3, ⟨r0, h4⟩, fun r hr => ?_⟩⟩
    have := h5 r hr
    rw [hf] at this
    obtain ⟨v, q1, q2⟩ := this
    rw [hu _ v0 v h7 q1]
    exact q2
  | qn n hn h h2 =>
    obtain ⟨ι, C, Po, hs, hf⟩ := h
    obtain ⟨R2, hu2, hf2⟩ := h2
    rw [hf2] at hh
    obtain ⟨vj, o, h3, h4⟩ := hh
    rw [hf] at h4
    obtain ⟨D, h5, h6, h7⟩ := h4
    rw [hf]
    exact ⟨D, (hs _ _ _ _ hn).1 h5, h6, fun r hr => by rw [hf2]; exact ⟨vj, o, h3, h7 r hr⟩⟩
  | nq n hn h h2 =>
    obtain ⟨R, hu, hf⟩ := h
    obtain ⟨ι, C, Po, hs2, hf2⟩ := h2
    rw [hf2] at hh
    obtain ⟨D, h3, ⟨r0, h4⟩, h5⟩ := hh
    have h6 := h5 r0 h4
    rw [hf] at h6
    obtain ⟨v0, o0, h7, _⟩ := h6
    rw [hf]
    refine ⟨v0, o0, h7, (hf2 _ _).2 ⟨D, (hs2 _ _ _ _ hn).2 h3, ⟨r0, h4⟩, fun r hr => ?_⟩⟩
    have := h5 r hr
    rw [hf] at this
    obtain ⟨v, o, q1, q2⟩ := this
    obtain ⟨e1, e2⟩ := hu v0 o0 v o h7 q1
    rw [e1, e2]
    exact q2

/-! ### what each operation is -/
def lowB (lo : Nat) : V → Bool
  | .ptr id _ _ => Nat.blt id lo
  | .rp id _ _ _ _ => Nat.blt id lo
  | _ => true
def MakeR (E : Env) (t : TypeId) (l c : V) (nid : Nat) (v : V) (ob : Ob) : Prop :=
  ∃ ti e i kl kc l' c', look E.T t = some ti ∧ ti.td = .slc e ∧ look E.T e = some i ∧ l = nu kl l' ∧ c = nu kc c' ∧ 0 ≤ l' ∧ l' ≤ c' ∧ c' * (i.by_ : Int) ≤ 140737488355328 ∧ c' ≤ 9223372036854775807 ∧
    v = .sl nid i.n 0 l'.toNat false ∧ ob = madeOb i l'.toNat (hasNil i)
def WCallQ (E : Env) (lo : Nat) (f : V) (xs : List V) (m : Mem) (k : V → Mem → Prop) : Prop :=
  ∃ fid caps L mc argsc Post, f = .fn fid caps ∧ L.Nodup ∧ (∀ id ∈ L, id < lo) ∧ footM m (fun id => posOf id L) L = some mc ∧ renL (fun id => posOf id L) (xs ++ caps) = some argsc ∧ E.S fid argsc mc Post ∧ (∃ r, Post r mc []) ∧
    (∀ r mc' mv, Post r mc' mv → mc' = mc ∧ mv = [] ∧ ∃ r2, ren (fun j => L[j]?) r = some r2) ∧ ∀ r r2, Post r mc [] → ren (fun j => L[j]?) r = some r2 → k r2 m
def Xd (E : Env) (lo : Nat) (qs : List Nat) (o : Oper) (nid : Nat) (A : Nat → V) (m : Mem) (k : V → Mem → Prop) : Prop :=
  match o.op with
  | .load t x => ∃ v, (lowB lo (ev A x) = true ∧ aLoad E.T m t (ev A x) = some v) ∧ k v m
  | .makeSlice t l c => ∃ v ob, MakeR E t (ev A l) (ev A c) nid v ob ∧ k v (m.set nid (some ob))
  | .buildSlice t n ps => ∃ v ob, (∃ (si : Nat) (es : List (List C)), pLit E.T t n (ps.toList.map fun (i, x) => (i, ev A x)) = some (si, es) ∧ v = .sl nid si 0 n true ∧ ob = .arr si es) ∧ k v (m.set nid (some ob))
  | .call c => match c.callee with
    | .value f => match f with
      | .func g => bif qs.elem g then WCallQ E lo (ev A f) (c.args.toList.map (ev A)) m k else X E o nid A m k
      | _ => X E o nid A m k
    | _ => X E o nid A m k
  | _ => X E o nid A m k
inductive Cl where
  | p | l | n | q | h
deriving DecidableEq
def cls (qs : List Nat) (o : Oper) : Cl :=
  match o.op with
  | .load _ _ => .l
  | .store _ _ _ => .h
  | .alloc _ => .n
  | .box _ _ => .n
  | .makeSlice _ _ _ => .n
  | .buildSlice _ _ _ => .n
  | .call c => match c.callee with
    | .builtin b => match b with
      | .append => .h
      | _ => .p
    | .value f => match f with
      | .func g => bif qs.elem g then .q else .h
      | _ => .h
    | _ => .h
  | .makeMap _ _ => .h
  | .insert _ _ _ _ => .h
  | .lookup _ _ _ _ => .h
  | _ => .p
section
variable {E : Env}
theorem X_ne {o : Oper} {nid : Nat} {A : Nat → V} {m : Mem} {k : V → Mem → Prop} (h : X E o nid A m k) : ∃ v m', k v m' := by
  unfold X at h
  split at h
  · obtain ⟨v, h1, h2⟩ := h; exact ⟨_, _, h2⟩
  · rcases h with ⟨m', h1, h2⟩ | ⟨id, k, off, sz, es, row, y', r, m1, ti, e1, e2, e3, e4, e5, e6, e7, h2⟩
    · exact ⟨_, _, h2⟩
    · exact ⟨_, _, h2 0⟩
  · obtain ⟨v, h1, h2⟩ := h; exact ⟨_, _, h2⟩
  · obtain ⟨v, h1, h2⟩ := h; exact ⟨_, _, h2⟩
  · obtain ⟨ti, e, i, kl, kc, l', c', rows, h1, h2, h3, h4, h5, h6, h7, h8, h9, hK⟩ := h
    exact ⟨_, _, hK⟩
  · rcases h with ⟨si, es, rows, h1, hK⟩ | ⟨si, es, h1, hK⟩ <;> exact ⟨_, _, hK⟩
  · split at h
    · split at h
      · have app1 : ∀ {t x y m nid}, WApp1 E t x y m nid k → ∃ v m', k v m' := fun {t x y m nid} h => by
          obtain ⟨ti, e, i, base, rows, m1, h1, h2, h3, h4, h5, h6, h7, h8, h9, h10, hK⟩ := h
          exact ⟨_, _, hK⟩
        obtain ⟨t, x, y, e1, e2, h⟩ := h
        rcases h with h | ⟨id, i, j, ver, off, len, m0, e3, e4, h⟩
        · exact app1 h
        · exact app1 h
      · obtain ⟨v, h1, h2⟩ := h; exact ⟨_, _, h2⟩
    · obtain ⟨fid, caps, L, mc, argsc, Post, e1, e2, e3, e4, e5, ⟨r, mc', mv, hp⟩, e7⟩ := h
      obtain ⟨q1, q2, m2, r2, q3, q4, q5⟩ := e7 r mc' mv hp
      exact ⟨_, _, q5⟩
    · exact h.elim
  · exact ⟨_, _, h.2⟩
  · obtain ⟨id, a, b, l, h1, h2, h3, h4, h5, h6⟩ := h; exact ⟨_, _, h6⟩
  · obtain ⟨h0, id, a, l, h1, h2, h3, h4, h5⟩ := h; exact ⟨_, _, h5⟩
  · obtain ⟨v, h1, h2⟩ := h; exact ⟨_, _, h2⟩
theorem X_H {o : Oper} {nid : Nat} {A : Nat → V} : IsH (X E o nid A) := ⟨fun m k k' hk q => X_mono hk q, fun m k q => X_ne q⟩
mutual
theorem ren_back {ρ β : Nat → Option Nat} (h : ∀ i j, ρ i = some j → β j = some i) : ∀ (x y : V), ren ρ x = some y → ren β y = some x
  | .any, y, e => by simp only [ren, Option.some.injEq] at e; subst e; rfl
  | .c x, y, e => by simp only [ren, Option.some.injEq] at e; subst e; rfl
  | .nl, y, e => by simp only [ren, Option.some.injEq] at e; subst e; rfl
  | .bb, y, e => by simp only [ren, Option.some.injEq] at e; subst e; rfl
  | .ic es, y, e => by simp only [ren, Option.some.injEq] at e; subst e; rfl
  | .at cs, y, e => by simp only [ren, Option.some.injEq] at e; subst e; rfl
  | .ptr id k off, y, e => by
    simp only [ren] at e
    cases q : ρ id with
    | none => rw [q] at e; cases e
    | some j => rw [q] at e; cases e; simp only [ren, h _ _ q, Option.map_some]
  | .sl id s off len cl, y, e => by
    simp only [ren] at e
    cases q : ρ id with
    | none => rw [q] at e; cases e
    | some j => rw [q] at e; cases e; simp only [ren, h _ _ q, Option.map_some]
  | .rw id i j ver off len, y, e => by
    simp only [ren] at e
    cases q : ρ id with
    | none => rw [q] at e; cases e
    | some j => rw [q] at e; cases e; simp only [ren, h _ _ q, Option.map_some]
  | .rp id i j ver k, y, e => by
    simp only [ren] at e
    cases q : ρ id with
    | none => rw [q] at e; cases e
    | some j => rw [q] at e; cases e; simp only [ren, h _ _ q, Option.map_some]
  | .agg cs, y, e => by
    simp only [ren] at e
    cases q : renL ρ cs with
    | none => rw [q] at e; cases e
    | some l => rw [q] at e; cases e; simp only [ren, renL_back h cs l q, Option.map_some]
  | .tup cs, y, e => by
    simp only [ren] at e
    cases q : renL ρ cs with
    | none => rw [q] at e; cases e
    | some l => rw [q] at e; cases e; simp only [ren, renL_back h cs l q, Option.map_some]
  | .fn f cs, y, e => by
    simp only [ren] at e
    cases q : renL ρ cs with
    | none => rw [q] at e; cases e
    | some l => rw [q] at e; cases e; simp only [ren, renL_back h cs l q, Option.map_some]
  | .mp id, y, e => by
    simp only [ren] at e
    cases q : ρ id with
    | none => rw [q] at e; cases e
    | some j => rw [q] at e; cases e; simp only [ren, h _ _ q, Option.map_some]
theorem renL_back {ρ β : Nat → Option Nat} (h : ∀ i j, ρ i = some j → β j = some i) : ∀ (x y : List V), renL ρ x = some y → renL β y = some x
  | [], y, e => by simp only [renL, Option.some.injEq] at e; subst e; rfl
  | x :: r, y, e => by
    simp only [renL] at e
    split at e
    · rename_i a ha
      split at e
      · rename_i l hl
        cases e
        simp only [renL, ren_back h x a ha, renL_back h r l hl]
      · cases e
    · cases e
end
theorem renOb_back {ρ β : Nat → Option Nat} (h : ∀ i j, ρ i = some j → β j = some i) {o o' : Ob} (e : renOb ρ o = some o') : renOb β o' = some o := by
  cases o with
  | box cs =>
    simp only [renOb] at e
    cases q : renL ρ cs with
    | none => rw [q] at e; cases e
    | some l => rw [q] at e; cases e; simp only [renOb, renL_back h cs l q, Option.map_some]
  | arr s es => cases e; rfl
  | arw s es => cases e; rfl
  | mp l => cases e; rfl
  | abs P => cases e; rfl
theorem quiet_back {m mc : Mem} {L : List Nat} (hL : L.Nodup) (hm : footM m (fun id => posOf id L) L = some mc) : newIds L [] mc.length = [] ∧ backM L [] m mc = some m := by
  obtain ⟨h1, h2⟩ := footM_get hm
  have hn : newIds L [] mc.length = [] := by simp [newIds, h1]
  refine ⟨hn, ?_⟩
  have hb : back L [] m.length = fun j => L[j]? := by funext j; rfl
  have key : ∀ (r : Mem) (id0 : Nat), (∀ (i : Nat) o, r[i]? = some o → m[id0 + i]? = some o) → backA (fun j => L[j]?) L [] mc id0 r = some r := by
    intro r
    induction r with
    | nil => intro id0 _; rfl
    | cons o r ih =>
      intro id0 hr
      have hrest := ih (id0 + 1) (fun i o' hi => by
        have := hr (i + 1) o' (by simpa using hi)
        rwa [show id0 + (i + 1) = id0 + 1 + i by omega] at this)
      unfold backA
      rw [hrest]
      cases hp : posOf id0 L with
      | none => rfl
      | some j =>
        have hLj := posOf_some hp
        obtain ⟨o0, o', a1, a2, a3⟩ := h2 j id0 hLj
        have h0 := hr 0 o rfl
        rw [Nat.add_zero, a1] at h0
        cases h0
        have hg : mc.getD j none = some o' := by rw [List.getD_eq_getElem?_getD, a3]; rfl
        simp only [posOf, hg, renO, renOb_back (fun i j q => posOf_some q) a2]
  unfold backM
  rw [hn, hb, key m 0 (fun i o hi => by rwa [Nat.zero_add])]
  simp [backE]
theorem Xd_X {lo : Nat} {qs : List Nat} {o : Oper} {nid : Nat} {A : Nat → V} {m : Mem} {k : V → Mem → Prop} (h : Xd E lo qs o nid A m k) : X E o nid A m k := by
  obtain ⟨dst, op, type, pos, after, guard⟩ := o
  cases op <;> (try exact h)
  case load t x =>
    obtain ⟨v, ⟨_, h1⟩, h2⟩ := h
    exact ⟨v, h1, h2⟩
  case makeSlice t l c =>
    obtain ⟨v, ob, ⟨ti, e, i, kl, kc, l', c', h1, h2, h3, h4, h5, h6, h7, h8, h9, rfl, rfl⟩, hk⟩ := h
    exact ⟨ti, e, i, kl, kc, l', c', hasNil i, h1, h2, h3, h4, h5, h6, h7, h8, h9, hk⟩
  case buildSlice t n ps =>
    obtain ⟨v, ob, ⟨si, es, h1, rfl, rfl⟩, hk⟩ := h
    exact .inl ⟨si, es, false, h1, hk⟩
  case call c =>
    obtain ⟨callee, args, ats⟩ := c
    cases callee with
    | builtin b => exact h
    | invoke r n => exact h
    | value f =>
      cases f with
      | tmp t => exact h
      | const v => exact h
      | global g => exact h
      | func g =>
        simp only [Xd] at h
        cases hb : qs.elem g with
        | false => rw [hb] at h; exact h
        | true =>
          rw [hb] at h
          obtain ⟨fid, caps, L, mc, argsc, Post, e1, e2, e3, e4, e5, e6, ⟨r0, e7⟩, e8, e9⟩ := h
          obtain ⟨hn, hbk⟩ := quiet_back e2 e4
          refine ⟨fid, caps, L, mc, argsc, Post, e1, e2, e4, e5, e6, ⟨r0, mc, [], e7⟩, fun r mc' mv hp => ?_⟩
          obtain ⟨rfl, rfl, r2, hr2⟩ := e8 r mc' mv hp
          refine ⟨List.nodup_nil, (fun j q => by cases q), m, r2, hbk, ?_, e9 r r2 hp hr2⟩
          rw [hn]
          exact hr2
theorem low_set {lo n : Nat} {T : Tab} {m : Mem} {ob : Option Ob} {t : TypeId} {x : V} (hl : lowB lo x = true) (hn : lo ≤ n) : aLoad T (m.set n ob) t x = aLoad T m t x := by
  have hob : ∀ id, id < lo → obGet (m.set n ob) id = obGet m id := fun id hid => by
    unfold obGet
    rw [List.getElem?_set, if_neg (by omega)]
  have h1 : ∀ id k off, id < lo → get1 (m.set n ob) id k off = get1 m id k off := fun id k off hid => by unfold get1; rw [hob id hid]
  have h2 : ∀ (c id k off : Nat), id < lo → getN (m.set n ob) id k off c = getN m id k off c := fun c => by
    induction c with
    | zero => intro id k off _; rfl
    | succ c ih => intro id k off hid; unfold getN; rw [h1 id k off hid, ih id k (off + 1) hid]
  unfold aLoad
  cases x <;> first
    | rfl
    | (have hid := Nat.le_of_ble_eq_true hl; simp only [h1 _ _ _ hid, h2 _ _ _ _ hid]; done)
    | (have hid := Nat.le_of_ble_eq_true hl; simp only [getR, hob _ hid]; done)
theorem foot_set {n : Nat} {m : Mem} {ob : Option Ob} {ρ : Nat → Option Nat} : ∀ {L : List Nat}, (∀ id ∈ L, id < n) → footM (m.set n ob) ρ L = footM m ρ L
  | [], _ => rfl
  | id :: r, h => by
    have hid := h id (by simp)
    have hob : obGet (m.set n ob) id = obGet m id := by unfold obGet; rw [List.getElem?_set, if_neg (by omega)]
    unfold footM
    rw [hob, foot_set (L := r) fun i hi => h i (by simp [hi])]
theorem nu_inj {k k' : IntKind} {n n' : Int} (h : nu k n = nu k' n') : n = n' := by
  unfold nu at h
  cases h
  rfl
theorem form {lo : Nat} {qs : List Nat} {o : Oper} {nid : Nat} {A : Nat → V} : match cls qs o with
    | .p => IsP (Xd E lo qs o nid A)
    | .l => IsL lo (Xd E lo qs o nid A)
    | .n => IsN nid (Xd E lo qs o nid A)
    | .q => IsQ lo (Xd E lo qs o nid A)
    | .h => IsH (Xd E lo qs o nid A) := by
  obtain ⟨dst, op, type, pos, after, guard⟩ := o
  have hp : ∀ (op : Op) (o : Oper), IsP fun m k => ∃ v, pure1 E.T op (ev A) = some v ∧ k v m := fun op o => ⟨fun v => pure1 E.T op (ev A) = some v, fun v v' h1 h2 => by rw [h1] at h2; cases h2; rfl, fun m k => Iff.rfl⟩
  cases op <;> simp only [cls] <;> (try exact hp _ ⟨dst, .move (.tmp 0), type, pos, after, guard⟩)
  case load t x => exact ⟨fun m v => lowB lo (ev A x) = true ∧ aLoad E.T m t (ev A x) = some v, fun m v v' h1 h2 => by have := h1.2.symm.trans h2.2; cases this; rfl, fun m n ob v hn => ⟨fun q => ⟨q.1, by rw [← low_set q.1 hn]; exact q.2⟩, fun q => ⟨q.1, by rw [low_set q.1 hn]; exact q.2⟩⟩, fun m k => Iff.rfl⟩
  case store t x y =>
    have e : Xd E lo qs ⟨dst, .store t x y, type, pos, after, guard⟩ nid A = X E ⟨dst, .store t x y, type, pos, after, guard⟩ nid A := by funext m k; rfl
    rw [e]; exact X_H
  case makeMap t r =>
    have e : Xd E lo qs ⟨dst, .makeMap t r, type, pos, after, guard⟩ nid A = X E ⟨dst, .makeMap t r, type, pos, after, guard⟩ nid A := by funext m k; rfl
    rw [e]; exact X_H
  case insert t x y z =>
    have e : Xd E lo qs ⟨dst, .insert t x y z, type, pos, after, guard⟩ nid A = X E ⟨dst, .insert t x y z, type, pos, after, guard⟩ nid A := by funext m k; rfl
    rw [e]; exact X_H
  case lookup t x y z =>
    have e : Xd E lo qs ⟨dst, .lookup t x y z, type, pos, after, guard⟩ nid A = X E ⟨dst, .lookup t x y z, type, pos, after, guard⟩ nid A := by funext m k; rfl
    rw [e]; exact X_H
  case alloc e =>
    refine ⟨fun v ob => ∃ i, look E.T e = some i ∧ v = .ptr nid 0 0 ∧ ob = .box (zerosV i), ?_, fun m k => ⟨?_, ?_⟩⟩
    · rintro v o v' o' ⟨i, h1, rfl, rfl⟩ ⟨i', h1', rfl, rfl⟩
      rw [h1] at h1'; cases h1'; exact ⟨rfl, rfl⟩
    · rintro ⟨i, h1, h2⟩; exact ⟨_, _, ⟨i, h1, rfl, rfl⟩, h2⟩
    · rintro ⟨v, ob, ⟨i, h1, rfl, rfl⟩, h2⟩; exact ⟨i, h1, h2⟩
  case box e x =>
    refine ⟨fun v ob => ∃ xs, cellsV (ev A x) = some xs ∧ v = .ptr nid 0 0 ∧ ob = .box xs, ?_, fun m k => ⟨?_, ?_⟩⟩
    · rintro v o v' o' ⟨i, h1, rfl, rfl⟩ ⟨i', h1', rfl, rfl⟩
      rw [h1] at h1'; cases h1'; exact ⟨rfl, rfl⟩
    · rintro ⟨i, h1, h2⟩; exact ⟨_, _, ⟨i, h1, rfl, rfl⟩, h2⟩
    · rintro ⟨v, ob, ⟨i, h1, rfl, rfl⟩, h2⟩; exact ⟨i, h1, h2⟩
  case makeSlice t l c =>
    refine ⟨fun v ob => MakeR E t (ev A l) (ev A c) nid v ob, ?_, fun m k => Iff.rfl⟩
    rintro v o v' o' ⟨ti, e, i, kl, kc, l', c', h1, h2, h3, h4, h5, h6, h7, h8, h9, rfl, rfl⟩ ⟨ti2, e2, i2, kl2, kc2, l2, c2, g1, g2, g3, g4, g5, g6, g7, g8, g9, rfl, rfl⟩
    rw [h1] at g1
    cases g1
    rw [h2] at g2
    cases g2
    rw [h3] at g3
    cases g3
    have := nu_inj (h4.symm.trans g4)
    subst this
    exact ⟨rfl, rfl⟩
  case buildSlice t n ps =>
    refine ⟨fun v ob => ∃ (si : Nat) (es : List (List C)), pLit E.T t n (ps.toList.map fun (i, x) => (i, ev A x)) = some (si, es) ∧ v = .sl nid si 0 n true ∧ ob = .arr si es, ?_, fun m k => Iff.rfl⟩
    rintro v o v' o' ⟨si, es, h1, rfl, rfl⟩ ⟨si2, es2, h2, rfl, rfl⟩
    rw [h1] at h2; cases h2; exact ⟨rfl, rfl⟩
  case call c =>
    obtain ⟨callee, args, ats⟩ := c
    cases callee with
    | builtin b =>
      have e : Xd E lo qs ⟨dst, .call ⟨.builtin b, args, ats⟩, type, pos, after, guard⟩ nid A = X E ⟨dst, .call ⟨.builtin b, args, ats⟩, type, pos, after, guard⟩ nid A := by funext m k; rfl
      rw [e]
      cases b <;> first | exact X_H | exact hp (.call ⟨.builtin _, args, ats⟩) ⟨dst, .move (.tmp 0), type, pos, after, guard⟩
    | invoke r n =>
      have e : Xd E lo qs ⟨dst, .call ⟨.invoke r n, args, ats⟩, type, pos, after, guard⟩ nid A = X E ⟨dst, .call ⟨.invoke r n, args, ats⟩, type, pos, after, guard⟩ nid A := by funext m k; rfl
      rw [e]; exact X_H
    | value f =>
      cases f with
      | tmp t =>
        have e : Xd E lo qs ⟨dst, .call ⟨.value (.tmp t), args, ats⟩, type, pos, after, guard⟩ nid A = X E ⟨dst, .call ⟨.value (.tmp t), args, ats⟩, type, pos, after, guard⟩ nid A := by funext m k; rfl
        rw [e]; exact X_H
      | const v =>
        have e : Xd E lo qs ⟨dst, .call ⟨.value (.const v), args, ats⟩, type, pos, after, guard⟩ nid A = X E ⟨dst, .call ⟨.value (.const v), args, ats⟩, type, pos, after, guard⟩ nid A := by funext m k; rfl
        rw [e]; exact X_H
      | global g =>
        have e : Xd E lo qs ⟨dst, .call ⟨.value (.global g), args, ats⟩, type, pos, after, guard⟩ nid A = X E ⟨dst, .call ⟨.value (.global g), args, ats⟩, type, pos, after, guard⟩ nid A := by funext m k; rfl
        rw [e]; exact X_H
      | func g =>
        dsimp only
        cases hb : qs.elem g with
        | false =>
          have e : Xd E lo qs ⟨dst, .call ⟨.value (.func g), args, ats⟩, type, pos, after, guard⟩ nid A = X E ⟨dst, .call ⟨.value (.func g), args, ats⟩, type, pos, after, guard⟩ nid A := by
            funext m k
            simp only [Xd, hb, cond_false]
          rw [e]
          exact X_H
        | true =>
          refine ⟨Nat × List V × List Nat × Mem × List V × (V → Mem → List Nat → Prop), fun m D => ev A (.func g) = .fn D.1 D.2.1 ∧ D.2.2.1.Nodup ∧ (∀ id ∈ D.2.2.1, id < lo) ∧ footM m (fun id => posOf id D.2.2.1) D.2.2.1 = some D.2.2.2.1 ∧ renL (fun id => posOf id D.2.2.1) (args.toList.map (ev A) ++ D.2.1) = some D.2.2.2.2.1 ∧ E.S D.1 D.2.2.2.2.1 D.2.2.2.1 D.2.2.2.2.2 ∧ (∀ r mc' mv, D.2.2.2.2.2 r mc' mv → mc' = D.2.2.2.1 ∧ mv = [] ∧ ∃ r2, ren (fun j => D.2.2.1[j]?) r = some r2),
            fun D r2 => ∃ r, D.2.2.2.2.2 r D.2.2.2.1 [] ∧ ren (fun j => D.2.2.1[j]?) r = some r2, fun m n ob D hn => ?_, fun m k => ?_⟩
          · constructor
            · rintro ⟨a1, a2, a3, a4, a5⟩
              exact ⟨a1, a2, a3, by rw [← a4]; exact (foot_set fun id hid => Nat.lt_of_lt_of_le (a3 id hid) hn).symm, a5⟩
            · rintro ⟨a1, a2, a3, a4, a5⟩
              exact ⟨a1, a2, a3, by rw [← a4]; exact foot_set fun id hid => Nat.lt_of_lt_of_le (a3 id hid) hn, a5⟩
          · simp only [Xd, hb, cond_true]
            constructor
            · rintro ⟨fid, caps, L, mc, argsc, Post, e1, e2, e3, e4, e5, e6, ⟨r0, e7⟩, e8, e9⟩
              obtain ⟨_, _, r2, hr2⟩ := e8 r0 mc [] e7
              exact ⟨(fid, caps, L, mc, argsc, Post), ⟨e1, e2, e3, e4, e5, e6, e8⟩, ⟨r2, r0, e7, hr2⟩, fun r2 ⟨r, q1, q2⟩ => e9 r r2 q1 q2⟩
            · rintro ⟨⟨fid, caps, L, mc, argsc, Post⟩, ⟨e1, e2, e3, e4, e5, e6, e8⟩, ⟨r2, r0, e7, hr2⟩, e9⟩
              exact ⟨fid, caps, L, mc, argsc, Post, e1, e2, e3, e4, e5, e6, ⟨r0, e7⟩, e8, fun r r2 q1 q2 => e9 r2 ⟨r, q1, q2⟩⟩
end
end Go.Proofs.YtogfcpaalcebdaaE
