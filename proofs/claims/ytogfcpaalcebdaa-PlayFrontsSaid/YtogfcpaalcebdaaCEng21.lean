/- An engine for walks: a statement whose order is open. -/
import Derived.Test.YtogfcpaalcebdaaCEng18
import Derived.Scope
namespace Go.Proofs.YtogfcpaalcebdaaE
open Go Go.RowKit
set_option linter.unusedVariables false
set_option linter.unusedSimpArgs false
abbrev Nu := Nat × Oper × Nat
def Xgd (E : Env) (lo : Nat) (qs : List Nat) (ops : List Oper) (o : Oper) (nid : Nat) (A : Nat → V) (m : Mem) (k : V → Mem → Prop) : Prop :=
  match o.guard with
  | none => Xd E lo qs o nid A m k
  | some (j, want) => ∃ t, guardV ops A j want = some t ∧ (t = want → Xd E lo qs o nid A m k) ∧ (t ≠ want → k (.tup []) m)
def Wgd (E : Env) (lo : Nat) (qs : List Nat) (ops : List Oper) (o : Oper) (nid : Nat) (K : St → Prop) (s : St) : Prop := Xgd E lo qs ops o nid s.A s.m fun v m' => K ((s.mem m').put o.dst v)
def Wr (E : Env) (lo : Nat) (qs : List Nat) (ops : List Oper) (K : St → Prop) : List Nu → St → Prop
  | [] => K
  | x :: r => Wgd E lo qs ops x.2.1 x.2.2 (Wr E lo qs ops K r)
def swOk : Cl → Cl → Bool
  | .p, _ => true
  | _, .p => true
  | .h, _ => false
  | _, .h => false
  | .q, .q => false
  | _, _ => true
def formC (lo nid : Nat) : Cl → Tf → Prop
  | .p, F => IsP F
  | .l, F => IsL lo F
  | .n, F => IsN nid F
  | .q, F => IsQ lo F
  | .h, F => IsH F
section
variable {E : Env} {G G' : Gh} {w w' : World} {s s' : St} {a : Act} {Q : Exit → Act → World → Prop} {lo : Nat} {qs : List Nat}
theorem formC.h {lo nid : Nat} {c : Cl} {F : Tf} (h : formC lo nid c F) : IsH F := by
  cases c
  · exact IsP.h h
  · exact IsL.h h
  · exact IsN.h h
  · exact IsQ.h h
  · exact h
theorem form_guard {ops : List Oper} {o : Oper} {nid : Nat} {A : Nat → V} : IsP (Xgd E lo qs ops o nid A) ∨ formC lo nid (cls qs o) (Xgd E lo qs ops o nid A) := by
  cases hg : o.guard with
  | none =>
    have e : Xgd E lo qs ops o nid A = Xd E lo qs o nid A := by funext m k; unfold Xgd; rw [hg]
    rw [e]
    have := form (E := E) (lo := lo) (qs := qs) (o := o) (nid := nid) (A := A)
    right
    cases hc : cls qs o <;> rw [hc] at this <;> exact this
  | some jw =>
    obtain ⟨j, want⟩ := jw
    cases ht : guardV ops A j want with
    | none =>
      left
      refine ⟨fun _ => False, fun _ _ h => h.elim, fun m k => ⟨fun h => ?_, fun ⟨_, h, _⟩ => h.elim⟩⟩
      unfold Xgd at h
      rw [hg] at h
      obtain ⟨t, h1, _⟩ := h
      rw [ht] at h1
      cases h1
    | some t =>
      by_cases e : t = want
      · have e2 : Xgd E lo qs ops o nid A = Xd E lo qs o nid A := by
          funext m k
          unfold Xgd
          rw [hg]
          apply propext
          constructor
          · rintro ⟨t', h1, h2, _⟩
            rw [ht] at h1; cases h1
            exact h2 e
          · intro h
            exact ⟨t, ht, fun _ => h, fun q => absurd e q⟩
        rw [e2]
        have := form (E := E) (lo := lo) (qs := qs) (o := o) (nid := nid) (A := A)
        right
        cases hc : cls qs o <;> rw [hc] at this <;> exact this
      · left
        refine ⟨fun v => v = .tup [], fun v v' h1 h2 => h1.trans h2.symm, fun m k => ⟨fun h => ?_, fun h => ?_⟩⟩
        · unfold Xgd at h
          rw [hg] at h
          obtain ⟨t', h1, _, h3⟩ := h
          rw [ht] at h1; cases h1
          exact ⟨_, rfl, h3 e⟩
        · obtain ⟨v, rfl, h⟩ := h
          unfold Xgd
          rw [hg]
          exact ⟨t, ht, fun q => absurd q e, fun _ => h⟩
theorem Sw.of {ni nj : Nat} {ci cj : Cl} {Fi Fj : Tf} (hi : IsP Fi ∨ formC lo ni ci Fi) (hj : IsP Fj ∨ formC lo nj cj Fj) (h : swOk ci cj = true) (h1 : lo ≤ ni) (h2 : lo ≤ nj) (h3 : ci = .n → cj = .n → ni ≠ nj) : Sw lo Fi Fj := by
  have hH : ∀ {n : Nat} {c : Cl} {F : Tf}, (IsP F ∨ formC lo n c F) → IsH F := fun h => by
    rcases h with h | h
    · exact h.h
    · exact h.h
  have Hi := hH hi
  have Hj := hH hj
  rcases hi with hi | hi
  · exact .pi hi Hj
  rcases hj with hj | hj
  · exact .pj Hi hj
  cases ci <;> cases cj <;> simp only [swOk] at h <;> first
    | exact .pi hi Hj
    | exact .pj Hi hj
    | exact .ll hi hj
    | exact .ln nj h2 hi hj
    | exact .nl ni h1 hi hj
    | exact .nn ni nj (h3 rfl rfl) hi hj
    | exact .ql hi hj
    | exact .lq hi hj
    | exact .qn nj h2 hi hj
    | exact .nq ni h1 hi hj
    | cases h

/-! ### only what an operation looks at counts -/
theorem ev_congr {A A' : Nat → V} {x : Operand} (h : ∀ t, x = .tmp t → A t = A' t) : ev A x = ev A' x := by
  cases x with
  | tmp t => exact h t rfl
  | _ => rfl
theorem pure1_congr {T : Tab} {op : Op} {ρ ρ' : Operand → V} (h : ∀ x ∈ op.operands, ρ x = ρ' x) : pure1 T op ρ = pure1 T op ρ' := by
  have pairs : ∀ ps : Array (Nat × Operand), (∀ x ∈ (ps.toList.map (·.2)).toArray, ρ x = ρ' x) → (ps.toList.map fun (i, x) => (i, ρ x)) = (ps.toList.map fun (i, x) => (i, ρ' x)) := fun ps hp =>
    List.map_congr_left fun p hm => by
      obtain ⟨i, x⟩ := p
      simp only [hp x (by simp; exact ⟨i, by simpa using hm⟩)]
  have args : ∀ (xs : Array Operand), (∀ x ∈ xs, ρ x = ρ' x) → xs.toList.map ρ = xs.toList.map ρ' := fun xs hx => List.map_congr_left fun x hm => hx x (by simpa using hm)
  cases op <;> simp only [Op.operands] at h <;> simp only [pure1]
  case build t ps => rw [pairs ps h]
  case makeFunc f first caps => rw [args caps fun x hx => h x (by simp [hx])]
  case slice t x lo hi mx => cases lo <;> cases hi <;> cases mx <;> simp [optV] at h ⊢ <;> simp [h]
  case call c =>
    have ha := args c.args fun x hx => h x (by simp [Call.operands, hx])
    unfold pCall
    cases hc : c.callee with
    | builtin b =>
      cases b <;> simp only [ha]
      case len =>
        cases hl : c.args.toList with
        | nil => rfl
        | cons x r =>
          have hx : ρ x = ρ' x := h x (by
            have : x ∈ c.args := by rw [← Array.mem_toList_iff, hl]; simp
            simp [Call.operands, this])
          cases r with
          | nil => simp only [hx]
          | cons y r => rfl
    | _ => rfl
  all_goals (first | rfl | (simp at h; simp [h]; done))
theorem X_congr {o : Oper} {nid : Nat} {A A' : Nat → V} {m : Mem} {k : V → Mem → Prop} (h : ∀ x ∈ o.op.operands, ev A x = ev A' x) : X E o nid A m k = X E o nid A' m k := by
  have hp := pure1_congr (T := E.T) h
  have pairs : ∀ ps : Array (Nat × Operand), (∀ x ∈ (ps.toList.map (·.2)).toArray, ev A x = ev A' x) → (ps.toList.map fun (i, x) => (i, ev A x)) = (ps.toList.map fun (i, x) => (i, ev A' x)) := fun ps hp =>
    List.map_congr_left fun p hm => by
      obtain ⟨i, x⟩ := p
      simp only [hp x (by simp; exact ⟨i, by simpa using hm⟩)]
  have args : ∀ (xs : Array Operand), (∀ x ∈ xs, ev A x = ev A' x) → xs.toList.map (ev A) = xs.toList.map (ev A') := fun xs hx => List.map_congr_left fun x hm => hx x (by simpa using hm)
  obtain ⟨dst, op, type, pos, after, guard⟩ := o
  cases op <;> simp only [Op.operands] at h <;> simp only [X] <;> (try (rw [hp]; done)) <;> (try (simp at h; simp only [h]; done))
  case buildSlice t n ps => rw [pairs ps h]
  case call c =>
    have ha := args c.args fun x hx => h x (by simp [Call.operands, hx])
    cases hc : c.callee with
    | builtin b =>
      cases b <;> simp only [ha, hp]
    | value f =>
      have hf : ev A f = ev A' f := h f (by simp [Call.operands, hc])
      simp only [ha, hf]
    | _ => rfl
theorem Xd_congr {o : Oper} {nid : Nat} {A A' : Nat → V} {m : Mem} {k : V → Mem → Prop} (h : ∀ x ∈ o.op.operands, ev A x = ev A' x) : Xd E lo qs o nid A m k = Xd E lo qs o nid A' m k := by
  have hX := X_congr (E := E) (nid := nid) (m := m) (k := k) h
  have pairs : ∀ ps : Array (Nat × Operand), (∀ x ∈ (ps.toList.map (·.2)).toArray, ev A x = ev A' x) → (ps.toList.map fun (i, x) => (i, ev A x)) = (ps.toList.map fun (i, x) => (i, ev A' x)) := fun ps hp =>
    List.map_congr_left fun p hm => by
      obtain ⟨i, x⟩ := p
      simp only [hp x (by simp; exact ⟨i, by simpa using hm⟩)]
  have args : ∀ (xs : Array Operand), (∀ x ∈ xs, ev A x = ev A' x) → xs.toList.map (ev A) = xs.toList.map (ev A') := fun xs hx => List.map_congr_left fun x hm => hx x (by simpa using hm)
  obtain ⟨dst, op, type, pos, after, guard⟩ := o
  cases op <;> (try exact hX)
  case load t x =>
    have hx : ev A x = ev A' x := h x (by simp [Op.operands])
    simp only [Xd, hx]
  case makeSlice t l c =>
    have hl : ev A l = ev A' l := h l (by simp [Op.operands])
    have hc : ev A c = ev A' c := h c (by simp [Op.operands])
    simp only [Xd, hl, hc]
  case buildSlice t n ps =>
    simp only [Xd]
    rw [pairs ps h]
  case call c =>
    obtain ⟨callee, as, ats⟩ := c
    cases callee with
    | value f =>
      cases f with
      | func g =>
        have ha := args as fun x hx => h x (by simp [Op.operands, Call.operands, hx])
        simp only [Xd]
        cases hb : qs.elem g with
        | true => simp only [cond_true, ha]; rfl
        | false => simp only [cond_false]; exact hX
      | _ => exact hX
    | _ => exact hX
theorem Xgd_congr {ops : Array Oper} {o : Oper} {nid : Nat} {A A' : Nat → V} {m : Mem} {k : V → Mem → Prop} (h : ∀ t ∈ o.looksAt ops, A t = A' t) : Xgd E lo qs ops.toList o nid A m k = Xgd E lo qs ops.toList o nid A' m k := by
  have hx : ∀ x ∈ o.op.operands, ev A x = ev A' x := fun x hx => ev_congr fun t ht => h t (by
    subst ht
    exact List.mem_append_left _ (List.mem_filterMap.2 ⟨.tmp t, by simpa using hx, rfl⟩))
  have hd := Xd_congr (E := E) (lo := lo) (qs := qs) (nid := nid) (m := m) (k := k) hx
  unfold Xgd
  cases hg : o.guard with
  | none => exact hd
  | some jw =>
    obtain ⟨j, want⟩ := jw
    have hgv : guardV ops.toList A j want = guardV ops.toList A' j want := by
      unfold guardV
      cases ho : ops.toList[j]? with
      | none => rfl
      | some p =>
        dsimp only
        cases hp : p.dst with
        | none => rfl
        | some t =>
          have : A t = A' t := h t (by
            refine List.mem_append_right _ ?_
            rw [hg]
            rw [Array.getElem?_toList] at ho
            simp [ho, hp])
          simp only [this]
    simp only [hd, hgv]
theorem put_ne {s : St} {d : Option Tmp} {v : V} {t : Nat} (h : ∀ q, d = some q → t ≠ q) : (s.put d v).A t = s.A t := by
  cases d with
  | none => rfl
  | some d =>
    have hb : Nat.beq t d = false := by
      cases hb : Nat.beq t d with
      | false => rfl
      | true => exact absurd (Nat.eq_of_beq_eq_true hb) (h d rfl)
    show (bif Nat.beq t d then v else s.A t) = _
    rw [hb]; rfl
theorem put_swap {A : Nat → V} {m : Mem} {d e : Option Tmp} {v u : V} (h : ∀ q, d = some q → e ≠ some q) : ((⟨A, m⟩ : St).put d v).put e u = ((⟨A, m⟩ : St).put e u).put d v := by
  cases d with
  | none => rfl
  | some d =>
    cases e with
    | none => rfl
    | some e =>
      have hne : e ≠ d := fun q => h d rfl (by rw [q])
      show St.mk _ _ = St.mk _ _
      congr 1
      funext t
      show (bif Nat.beq t e then u else bif Nat.beq t d then v else A t) = (bif Nat.beq t d then v else bif Nat.beq t e then u else A t)
      cases h1 : Nat.beq t e with
      | false => rfl
      | true =>
        have h2 : Nat.beq t d = false := by
          cases hb : Nat.beq t d with
          | false => rfl
          | true => exact absurd ((Nat.eq_of_beq_eq_true h1).symm.trans (Nat.eq_of_beq_eq_true hb)) hne
        rw [h2]
        rfl
theorem put_m (s : St) (d : Option Tmp) (v : V) : (s.put d v).m = s.m := by cases d <;> rfl
theorem mem_put (s : St) (d : Option Tmp) (v : V) (m : Mem) : (s.put d v).mem m = (s.mem m).put d v := by cases d <;> rfl
theorem Wgd_swap {ops : Array Oper} {oi oj : Oper} {ni nj : Nat} {K : St → Prop} (hap : oi.apart ops oj = true) (hsw : swOk (cls qs oi) (cls qs oj) = true) (h1 : lo ≤ ni) (h2 : lo ≤ nj) (h3 : cls qs oi = .n → cls qs oj = .n → ni ≠ nj)
    (h : Wgd E lo qs ops.toList oj nj (Wgd E lo qs ops.toList oi ni K) s) : Wgd E lo qs ops.toList oi ni (Wgd E lo qs ops.toList oj nj K) s := by
  obtain ⟨p1, p2, p3⟩ := Oper.apart_spec hap
  have e1 : ∀ (vj : V) (mj : Mem), Wgd E lo qs ops.toList oi ni K ((s.mem mj).put oj.dst vj) = Xgd E lo qs ops.toList oi ni s.A mj fun vi mi => K (((⟨s.A, mi⟩ : St).put oi.dst vi).put oj.dst vj) := fun vj mj => by
    unfold Wgd
    rw [put_m]
    have hc := Xgd_congr (E := E) (lo := lo) (qs := qs) (ops := ops) (o := oi) (nid := ni) (A := ((s.mem mj).put oj.dst vj).A) (A' := s.A) (m := mj) (k := fun vi mi => K ((((s.mem mj).put oj.dst vj).mem mi).put oi.dst vi)) (fun t ht => by
      rw [put_ne fun q hq e => p3 q hq (by rw [← e]; exact ht)]; rfl)
    refine hc.trans ?_
    congr 1
    funext vi mi
    rw [mem_put]
    show K (((⟨s.A, mi⟩ : St).put oj.dst vj).put oi.dst vi) = _
    rw [put_swap fun q hq e => p2 q e hq]
  have e2 : ∀ (vi : V) (mi : Mem), Wgd E lo qs ops.toList oj nj K ((s.mem mi).put oi.dst vi) = Xgd E lo qs ops.toList oj nj s.A mi fun vj mj => K (((⟨s.A, mj⟩ : St).put oi.dst vi).put oj.dst vj) := fun vi mi => by
    unfold Wgd
    rw [put_m]
    have hc := Xgd_congr (E := E) (lo := lo) (qs := qs) (ops := ops) (o := oj) (nid := nj) (A := ((s.mem mi).put oi.dst vi).A) (A' := s.A) (m := mi) (k := fun vj mj => K ((((s.mem mi).put oi.dst vi).mem mj).put oj.dst vj)) (fun t ht => by
      rw [put_ne fun q hq e => p1 q hq (by rw [← e]; exact ht)]; rfl)
    refine hc.trans ?_
    congr 1
    funext vj mj
    rw [mem_put]
    rfl
  unfold Wgd at h ⊢
  have hs := Sw.of (lo := lo) (ni := ni) (nj := nj) (Fi := Xgd E lo qs ops.toList oi ni s.A) (Fj := Xgd E lo qs ops.toList oj nj s.A) form_guard form_guard hsw h1 h2 h3
  have e1' : (fun v m' => Wgd E lo qs ops.toList oi ni K ((s.mem m').put oj.dst v)) = fun vj mj => Xgd E lo qs ops.toList oi ni s.A mj fun vi mi => K (((⟨s.A, mi⟩ : St).put oi.dst vi).put oj.dst vj) := by funext vj mj; exact e1 vj mj
  have e2' : (fun v m' => Wgd E lo qs ops.toList oj nj K ((s.mem m').put oi.dst v)) = fun vi mi => Xgd E lo qs ops.toList oj nj s.A mi fun vj mj => K (((⟨s.A, mj⟩ : St).put oi.dst vi).put oj.dst vj) := by funext vi mi; exact e2 vi mi
  have h' : Xgd E lo qs ops.toList oj nj s.A s.m (fun v m' => Wgd E lo qs ops.toList oi ni K ((s.mem m').put oj.dst v)) := h
  rw [e1'] at h'
  have := hs.swap (k := fun vi vj mi => K (((⟨s.A, mi⟩ : St).put oi.dst vi).put oj.dst vj)) h'
  show Xgd E lo qs ops.toList oi ni s.A s.m (fun v m' => Wgd E lo qs ops.toList oj nj K ((s.mem m').put oi.dst v))
  rw [e2']
  exact this
theorem Wgd_mono {ops : List Oper} {o : Oper} {n : Nat} {K K' : St → Prop} (hk : ∀ s, K s → K' s) (h : Wgd E lo qs ops o n K s) : Wgd E lo qs ops o n K' s := by
  have hH : IsH (Xgd E lo qs ops o n s.A) := by
    rcases form_guard (E := E) (lo := lo) (qs := qs) (ops := ops) (o := o) (nid := n) (A := s.A) with h | h
    · exact h.h
    · exact h.h
  exact hH.mono _ _ _ (fun v m' q => hk _ q) h
theorem Wgd_Wg {ops : List Oper} {o : Oper} {n : Nat} {K : St → Prop} (h : Wgd E lo qs ops o n K s) : Wg E ops o n K s := by
  unfold Wgd Xgd at h
  unfold Wg Xg
  split at h
  · rename_i hg
    rw [hg]
    exact Xd_X h
  · rename_i j want hg
    rw [hg]
    obtain ⟨t, h1, h2, h3⟩ := h
    exact ⟨t, h1, fun q => Xd_X (h2 q), h3⟩
theorem Wr_first {ops : Array Oper} {x : Nu} {K : St → Prop} {l2 : List Nu} : ∀ (l1 : List Nu) (s : St), (∀ y ∈ l1, x.2.1.apart ops y.2.1 = true ∧ swOk (cls qs x.2.1) (cls qs y.2.1) = true ∧ lo ≤ x.2.2 ∧ lo ≤ y.2.2 ∧ (cls qs x.2.1 = .n → cls qs y.2.1 = .n → x.2.2 ≠ y.2.2)) →
    Wr E lo qs ops.toList K (l1 ++ x :: l2) s → Wgd E lo qs ops.toList x.2.1 x.2.2 (Wr E lo qs ops.toList K (l1 ++ l2)) s
  | [], s, _, h => h
  | y :: l1, s, hy, h => by
    obtain ⟨a1, a2, a3, a4, a5⟩ := hy y (by simp)
    refine Wgd_swap a1 a2 a3 a4 a5 (Wgd_mono (fun s' q => ?_) h)
    exact Wr_first l1 s' (fun z hz => hy z (by simp [hz])) q
end
end Go.Proofs.YtogfcpaalcebdaaE
/- An engine for walks: a statement whose order is open, whole. -/
namespace Go.Proofs.YtogfcpaalcebdaaE
open Go Go.RowKit
set_option linter.unusedVariables false
set_option linter.unusedSimpArgs false
def numb : List Oper → Nat → Nat → List Nu
  | [], _, _ => []
  | o :: r, i, n => (i, o, n) :: numb r (i + 1) (n + need o)
def pre1 (acc : List Nat) : List Edge → Nat
  | [] => 0
  | e :: r => bif Region.binds .any e then (2 ^ e.on ||| acc.getD e.on 0) ||| pre1 acc r else pre1 acc r
def pres : List Oper → List Nat → List Nat
  | [], acc => acc
  | o :: r, acc => pres r (acc ++ [pre1 acc o.after.toList])
def okPair (qs : List Nat) (ops : Array Oper) (ps : List Nat) (j : Nat) (oj : Oper) : List Nu → Bool
  | [] => true
  | (i, oi, _) :: r => ((ps.getD i 0).testBit j || (oi.apart ops oj && swOk (cls qs oi) (cls qs oj))) && okPair qs ops ps j oj r
def okPairs (qs : List Nat) (ops : Array Oper) (ps : List Nat) : List Nu → Bool
  | [] => true
  | (j, oj, _) :: r => okPair qs ops ps j oj r && okPairs qs ops ps r
def okEdges : List Nu → Bool
  | [] => true
  | (i, o, _) :: r => o.after.toList.all (fun e => !Region.binds .any e || Nat.blt e.on i) && okEdges r
def okDraw (qs : List Nat) (ops : Array Oper) : Bool := okEdges (numb ops.toList 0 0) && okPairs qs ops (pres ops.toList []) (numb ops.toList 0 0)
section
variable {E : Env} {G G' : Gh} {w w' : World} {s s' : St} {a : Act} {Q : Exit → Act → World → Prop} {lo : Nat} {qs : List Nat} {ops : Array Oper}
theorem pre1_bit {acc : List Nat} {j : Nat} : ∀ {l : List Edge}, (pre1 acc l).testBit j = true → ∃ e ∈ l, Region.binds .any e = true ∧ (j = e.on ∨ (acc.getD e.on 0).testBit j = true)
  | [], h => by simp [pre1] at h
  | e :: r, h => by
    unfold pre1 at h
    cases hb : Region.binds .any e with
    | false =>
      rw [hb] at h
      obtain ⟨e', h1, h2⟩ := pre1_bit (l := r) h
      exact ⟨e', List.mem_cons_of_mem _ h1, h2⟩
    | true =>
      rw [hb] at h
      simp only [cond_true, Nat.testBit_or, Bool.or_eq_true, Nat.testBit_two_pow] at h
      rcases h with (h | h) | h
      · exact ⟨e, List.mem_cons_self, hb, .inl (by simp at h; exact h.symm)⟩
      · exact ⟨e, List.mem_cons_self, hb, .inr h⟩
      · obtain ⟨e', h1, h2⟩ := pre1_bit (l := r) h
        exact ⟨e', List.mem_cons_of_mem _ h1, h2⟩
def Closed (ops : Array Oper) (L : Nat → Prop) : Prop := ∀ i o, ops[i]? = some o → L i → ∀ e ∈ o.after, Region.binds .any e = true → L e.on
theorem pres_len : ∀ (l : List Oper) (acc : List Nat), (pres l acc).length = acc.length + l.length
  | [], acc => rfl
  | o :: r, acc => by rw [pres, pres_len]; simp; omega
theorem pres_pre : ∀ (l : List Oper) (acc : List Nat) (i : Nat), i < acc.length → (pres l acc)[i]? = acc[i]?
  | [], acc, i, h => rfl
  | o :: r, acc, i, h => by
    rw [pres, pres_pre r _ i (by simp; omega), List.getElem?_append_left h]
theorem pres_good {L : Nat → Prop} (hL : Closed ops L) : ∀ (l : List Oper) (acc : List Nat), ops.toList.drop acc.length = l → (∀ i, i < acc.length → ∀ j, (acc.getD i 0).testBit j = true → L i → L j) →
    (∀ i, ∀ j, ((pres l acc).getD i 0).testBit j = true → L i → L j)
  | [], acc, hl, h => fun i j hj hi => by
    by_cases hlt : i < acc.length
    · exact h i hlt j hj hi
    · simp only [pres] at hj
      rw [List.getD_eq_getElem?_getD, List.getElem?_eq_none (by omega)] at hj
      simp at hj
  | o :: r, acc, hl, h => by
    have ho : ops[acc.length]? = some o := by
      rw [← Array.getElem?_toList]
      have : (ops.toList.drop acc.length)[0]? = some o := by rw [hl]; rfl
      rwa [List.getElem?_drop, Nat.add_zero] at this
    have hl' : ops.toList.drop (acc ++ [pre1 acc o.after.toList]).length = r := by
      rw [List.length_append, List.length_singleton, ← List.drop_drop, hl]; rfl
    refine pres_good hL r _ hl' fun i hi j hj hLi => ?_
    by_cases hlt : i < acc.length
    · rw [List.getD_eq_getElem?_getD, List.getElem?_append_left hlt, ← List.getD_eq_getElem?_getD] at hj
      exact h i hlt j hj hLi
    · have e : i = acc.length := by simp at hi; omega
      subst e
      rw [List.getD_eq_getElem?_getD, List.getElem?_append_right (by omega), Nat.sub_self] at hj
      obtain ⟨e, h1, h2, h3⟩ := pre1_bit hj
      have hon := hL _ o ho hLi e (Array.mem_toList_iff.1 h1) h2
      rcases h3 with rfl | h3
      · exact hon
      · by_cases hlt2 : e.on < acc.length
        · exact h e.on hlt2 j h3 hon
        · rw [List.getD_eq_getElem?_getD, List.getElem?_eq_none (by omega)] at h3
          simp at h3
theorem pres_at : ∀ (l : List Oper) (acc : List Nat) (i : Nat) (o : Oper), l[i]? = some o → ∃ acc', (pres l acc)[acc.length + i]? = some (pre1 acc' o.after.toList) ∧ ∀ q, acc'.getD q 0 = (pres l acc).getD q 0 ∨ acc'.getD q 0 = 0
  | [], acc, i, o, h => by simp at h
  | p :: r, acc, i, o, h => by
    cases i with
    | zero =>
      cases h
      refine ⟨acc, ?_, fun q => ?_⟩
      · rw [pres, Nat.add_zero, pres_pre r _ _ (by simp), List.getElem?_append_right (by omega), Nat.sub_self]
        rfl
      · by_cases hq : q < acc.length
        · left
          rw [pres, List.getD_eq_getElem?_getD, List.getD_eq_getElem?_getD, pres_pre r _ _ (by simp; omega), List.getElem?_append_left hq]
        · right
          rw [List.getD_eq_getElem?_getD, List.getElem?_eq_none (by omega)]
          rfl
    | succ i =>
      obtain ⟨acc', h1, h2⟩ := pres_at r (acc ++ [pre1 acc p.after.toList]) i o (by simpa using h)
      refine ⟨acc', ?_, h2⟩
      rw [pres, ← h1]
      congr 1
      simp
      omega
theorem numb_get : ∀ (l : List Oper) (i0 n0 : Nat) (k : Nat) (x : Nu), (numb l i0 n0)[k]? = some x → x.1 = i0 + k ∧ l[k]? = some x.2.1 ∧ n0 ≤ x.2.2 ∧ x.2.2 + need x.2.1 ≤ n0 + needs l
  | [], i0, n0, k, x, h => by simp [numb] at h
  | o :: r, i0, n0, k, x, h => by
    unfold numb at h
    cases k with
    | zero => cases h; exact ⟨rfl, rfl, Nat.le_refl _, by simp only [needs]; omega⟩
    | succ k =>
      obtain ⟨h1, h2, h3, h4⟩ := numb_get r (i0 + 1) (n0 + need o) k x (by simpa using h)
      exact ⟨by omega, by simpa using h2, by omega, by simp only [needs]; omega⟩
def Ord (x y : Nu) : Prop := x.1 < y.1 ∧ x.2.2 + need x.2.1 ≤ y.2.2
theorem numb_ord : ∀ (l : List Oper) (i0 n0 : Nat), (numb l i0 n0).Pairwise Ord
  | [], _, _ => .nil
  | o :: r, i0, n0 => by
    unfold numb
    refine .cons (fun y hy => ?_) (numb_ord r _ _)
    obtain ⟨k, hk⟩ := List.mem_iff_getElem?.1 hy
    obtain ⟨h1, _, h3, _⟩ := numb_get r _ _ k y hk
    exact ⟨by simp only; omega, h3⟩
theorem numb_len : ∀ (l : List Oper) (i0 n0 : Nat), (numb l i0 n0).length = l.length
  | [], _, _ => rfl
  | o :: r, i0, n0 => by simp [numb, numb_len r]
theorem okPair_get {ps : List Nat} {j : Nat} {oj : Oper} : ∀ {l : List Nu}, okPair qs ops ps j oj l = true → ∀ x ∈ l, (ps.getD x.1 0).testBit j = true ∨ (x.2.1.apart ops oj = true ∧ swOk (cls qs x.2.1) (cls qs oj) = true)
  | [], _, x, hx => by cases hx
  | (i, oi, n) :: r, h, x, hx => by
    simp only [okPair, Bool.and_eq_true, Bool.or_eq_true] at h
    rcases List.mem_cons.1 hx with rfl | hx
    · exact h.1
    · exact okPair_get h.2 x hx
theorem okPairs_get {ps : List Nat} : ∀ {l : List Nu}, okPairs qs ops ps l = true → l.Pairwise fun y x => (ps.getD x.1 0).testBit y.1 = true ∨ (x.2.1.apart ops y.2.1 = true ∧ swOk (cls qs x.2.1) (cls qs y.2.1) = true)
  | [], _ => .nil
  | (j, oj, n) :: r, h => by
    simp only [okPairs, Bool.and_eq_true] at h
    exact .cons (fun x hx => okPair_get h.1 x hx) (okPairs_get h.2)
theorem okEdges_get : ∀ {l : List Nu}, okEdges l = true → ∀ x ∈ l, ∀ e ∈ x.2.1.after, Region.binds .any e = true → e.on < x.1
  | [], _, x, hx => by cases hx
  | (i, o, n) :: r, h, x, hx => by
    simp only [okEdges, Bool.and_eq_true, List.all_eq_true, Bool.or_eq_true] at h
    rcases List.mem_cons.1 hx with rfl | hx
    · intro e he hb
      rcases h.1 e (Array.mem_toList_iff.2 he) with h2 | h2
      · rw [hb] at h2; cases h2
      · exact Nat.le_of_ble_eq_true h2
    · exact okEdges_get h.2 x hx
theorem cls_need {o : Oper} (h : cls qs o = .n) : 0 < need o := by
  unfold cls at h
  unfold need
  split at h <;> first
    | (cases h; done)
    | (rename_i e; rw [e]; exact Nat.one_pos)
    | (split at h
       · split at h <;> cases h
       · split at h
         · rename_i g _
           cases hb : qs.elem g <;> rw [hb] at h <;> cases h
         · cases h
       · cases h)
structure Left (E : Env) (ops : Array Oper) (lo : Nat) (G : Gh) (s : St) (l : List Nu) (listed : Array Bool) : Prop where
  sz : listed.size = ops.size
  mem : ∀ i, i < ops.size → (listed.getD i true = false ↔ ∃ o n, (i, o, n) ∈ l)
  op : ∀ x ∈ l, ops[x.1]? = some x.2.1 ∧ lo ≤ x.2.2
  ord : l.Pairwise Ord
  cl : Closed ops fun i => listed.getD i false = true
  U : ∀ x ∈ l, ∀ j, x.2.2 ≤ j → j < x.2.2 + need x.2.1 → j < s.m.length ∧ G.loc j = none
theorem getD_flip {listed : Array Bool} {i : Nat} (hi : i < listed.size) : (listed.getD i false = true ↔ ¬ listed.getD i true = false) := by
  simp [hi]
theorem draw_any (hE : EnvOk E) {K : St → Prop} (hd : dstOk E.N ops.toList = true) (hok : okDraw qs ops = true) : ∀ (fuel : Nat) (l : List Nu) (listed : Array Bool) (G : Gh) (w : World) (s : St) (a : Act), l.length ≤ fuel → (l.Pairwise fun y x => ((pres ops.toList []).getD x.1 0).testBit y.1 = true ∨ (x.2.1.apart ops y.2.1 = true ∧ swOk (cls qs x.2.1) (cls qs y.2.1) = true)) →
    Left E ops lo G s l listed → lo ≤ s.m.length → Rel E.N G w s a → Wr E lo qs ops.toList K l s → (∀ G' w' s' a', K s' → Rel E.N G' w' s' a' → Adv G w G' w' → (∀ j, j < lo → G'.loc j = G.loc j) → lo ≤ s'.m.length → Q .normal a' w') → wpAny E.P .any ops Q fuel listed a w := by
  have hdst : ∀ (i : Nat) (o : Oper), ops[i]? = some o → ∀ t, o.dst = some t → t < E.N := by
    have : ∀ (l : List Oper), dstOk E.N l = true → ∀ o ∈ l, ∀ t, o.dst = some t → t < E.N := fun l => by
      induction l with
      | nil => intro _ o ho; cases ho
      | cons p r ih =>
        intro h o ho t ht
        simp only [dstOk, Bool.and_eq_true] at h
        rcases List.mem_cons.1 ho with rfl | ho
        · have := h.1; rw [ht] at this; exact Nat.le_of_ble_eq_true this
        · exact ih h.2 o ho t ht
    intro i o ho
    exact this _ hd o (by rw [← Array.getElem?_toList] at ho; exact List.mem_of_getElem? ho)
  simp only [okDraw, Bool.and_eq_true] at hok
  have hedge : ∀ (i : Nat) (o : Oper), ops[i]? = some o → ∀ e ∈ o.after, Region.binds .any e = true → e.on < i := fun i o ho e he hb => by
    have hlt : i < (numb ops.toList 0 0).length := by rw [numb_len]; simpa using (Array.getElem?_eq_some_iff.1 ho).1
    obtain ⟨h1, h2, _⟩ := numb_get ops.toList 0 0 i _ (List.getElem?_eq_getElem hlt)
    rw [Nat.zero_add] at h1
    rw [Array.getElem?_toList, ho] at h2
    have := okEdges_get hok.1 _ (List.getElem_mem hlt) e (by rw [← Option.some.inj h2]; exact he) hb
    rw [h1] at this
    exact this
  -- nothing is left
  have done : ∀ (listed : Array Bool) (G : Gh) (s : St) (l : List Nu), Left E ops lo G s l listed → l = [] → Region.ready .any ops listed = [] := fun listed G s l hL hl => by
    subst hl
    rw [List.eq_nil_iff_forall_not_mem]
    intro i hi
    rw [mem_ready] at hi
    obtain ⟨h0, o, ho, _⟩ := hi
    obtain ⟨o', n, h⟩ := (hL.mem i (Array.getElem?_eq_some_iff.1 ho).1).1 h0
    cases h
  intro fuel
  induction fuel with
  | zero =>
    intro l listed G w s a hlen hpw hL hlm hr h hQ
    have hl : l = [] := List.eq_nil_of_length_eq_zero (by omega)
    subst hl
    exact ⟨done listed G s [] hL rfl, hQ G w s a h hr (.refl _ _) (fun _ _ => rfl) hlm⟩
  | succ fuel ih =>
    intro l listed G w s a hlen hpw hL hlm hr h hQ
    refine ⟨fun hrd => ?_, fun i hi => ?_⟩
    · cases l with
      | nil => exact hQ G w s a h hr (.refl _ _) (fun _ _ => rfl) hlm
      | cons x r =>
        exfalso
        obtain ⟨ho, _⟩ := hL.op x (by simp)
        have hlt := (Array.getElem?_eq_some_iff.1 ho).1
        have hun : listed.getD x.1 true = false := (hL.mem x.1 hlt).2 ⟨x.2.1, x.2.2, by simp⟩
        have : x.1 ∈ Region.ready .any ops listed := by
          rw [mem_ready]
          refine ⟨hun, x.2.1, ho, fun e he hb => ?_⟩
          have hon := hedge _ _ ho e he hb
          rw [getD_flip (by rw [hL.sz]; omega)]
          intro hq
          obtain ⟨o', n, hm⟩ := (hL.mem e.on (by omega)).1 hq
          rcases List.mem_cons.1 hm with e1 | hm
          · have : e.on = x.1 := by rw [← e1]
            omega
          · have := (List.pairwise_cons.1 hL.ord).1 _ hm
            have := this.1
            simp only at this
            omega
        rw [hrd] at this
        cases this
    · rw [mem_ready] at hi
      obtain ⟨h0, o, ho, hpre⟩ := hi
      have hlt := (Array.getElem?_eq_some_iff.1 ho).1
      obtain ⟨o', n, hm⟩ := (hL.mem i hlt).1 h0
      have ho' := (hL.op _ hm).1
      simp only at ho'
      rw [ho] at ho'
      cases ho'
      obtain ⟨l1, l2, rfl⟩ := List.append_of_mem hm
      -- what stands ahead of it in the text is not ahead of it by the edges
      have hfree : ∀ y ∈ l1, (i, o, n).2.1.apart ops y.2.1 = true ∧ swOk (cls qs (i, o, n).2.1) (cls qs y.2.1) = true ∧ lo ≤ (i, o, n).2.2 ∧ lo ≤ y.2.2 ∧ (cls qs (i, o, n).2.1 = .n → cls qs y.2.1 = .n → (i, o, n).2.2 ≠ y.2.2) := fun y hy => by
        have hp := (List.pairwise_append.1 hpw).2.2 y hy (i, o, n) (by simp)
        have hord := (List.pairwise_append.1 hL.ord).2.2 y hy (i, o, n) (by simp)
        have hny : ¬ listed.getD y.1 false = true := by
          obtain ⟨hoy, _⟩ := hL.op y (by simp [hy])
          have hlty := (Array.getElem?_eq_some_iff.1 hoy).1
          have hun : listed.getD y.1 true = false := (hL.mem y.1 hlty).2 ⟨y.2.1, y.2.2, by simp [hy]⟩
          rw [getD_flip (by rw [hL.sz]; omega)]
          simpa using hun
        rcases hp with hp | hp
        · exfalso
          -- all that is ahead of it is listed
          obtain ⟨acc', q1, q2⟩ := pres_at ops.toList [] i o (by rw [Array.getElem?_toList]; exact ho)
          rw [List.length_nil, Nat.zero_add] at q1
          simp only at hp
          rw [List.getD_eq_getElem?_getD, q1] at hp
          obtain ⟨e, e1, e2, e3⟩ := pre1_bit hp
          have hon := hpre e (Array.mem_toList_iff.1 e1) e2
          rcases e3 with e3 | e3
          · rw [e3] at hny; exact hny hon
          · rcases q2 e.on with q | q
            · rw [q] at e3
              exact hny (pres_good hL.cl ops.toList [] rfl (fun i hi => absurd hi (by simp)) e.on y.1 e3 hon)
            · rw [q] at e3; simp at e3
        · refine ⟨hp.1, hp.2, (hL.op (i, o, n) (by simp)).2, (hL.op y (by simp [hy])).2, fun c1 c2 e => ?_⟩
          have := cls_need c2
          have := hord.2
          simp only at this e
          omega
      have hfirst := Wr_first l1 s hfree h
      have hUx := hL.U (i, o, n) (by simp)
      refine wpOp_mono (fun a' w' hn => ?_) (Wg_sound hE ho hr (hdst i o ho) hUx (Wgd_Wg hfirst))
      obtain ⟨G', s', k1, k2, k3, k4, k5⟩ := hn
      have hsub : ∀ x, x ∈ l1 ++ l2 → x ∈ l1 ++ (i, o, n) :: l2 := fun x hx => by
        rcases List.mem_append.1 hx with h | h
        · exact List.mem_append_left _ h
        · exact List.mem_append_right _ (List.mem_cons_of_mem _ h)
      have hsl : (l1 ++ l2).Sublist (l1 ++ (i, o, n) :: l2) := List.Sublist.append (List.Sublist.refl _) (List.sublist_cons_self _ _)
      have hni : ∀ x ∈ l1 ++ l2, x.1 ≠ i := fun x hx e => by
        rcases List.mem_append.1 hx with h | h
        · have := ((List.pairwise_append.1 hL.ord).2.2 x h (i, o, n) (by simp)).1
          simp only at this; omega
        · have := ((List.pairwise_cons.1 (List.pairwise_append.1 hL.ord).2.1).1 x h).1
          simp only at this; omega
      refine ih (l1 ++ l2) (listed.setIfInBounds i true) G' w' s' a' ?_ (hpw.sublist hsl) ⟨by simpa using hL.sz, fun q hq => ?_, fun x hx => hL.op x (hsub x hx), hL.ord.sublist hsl, fun q p hp hq e he hb => ?_, fun x hx j h1 h2 => ?_⟩ (by omega) k2 k1 fun G2 w2 s2 a2 e1 e2 e3 e4 e5 => hQ G2 w2 s2 a2 e1 e2 (k3.trans e3) (fun j hj => (e4 j hj).trans (k4 j (by omega) (.inl (Nat.lt_of_lt_of_le hj (hL.op (i, o, n) (by simp)).2)))) e5
      · simp at hlen ⊢; omega
      · by_cases e : q = i
        · subst e
          constructor
          · intro hq2
            have : (listed.setIfInBounds q true).getD q true = true := by
              have : q < listed.size := by rw [hL.sz]; exact hq
              simp [this]
            rw [this] at hq2
            cases hq2
          · rintro ⟨o2, n2, hm2⟩
            exact absurd rfl (hni _ hm2)
        · rw [getD_set_ne true (Ne.symm e), hL.mem q hq]
          constructor
          · rintro ⟨o2, n2, hm2⟩
            refine ⟨o2, n2, ?_⟩
            rcases List.mem_append.1 hm2 with h | h
            · exact List.mem_append_left _ h
            · rcases List.mem_cons.1 h with h | h
              · cases h; exact absurd rfl e
              · exact List.mem_append_right _ h
          · rintro ⟨o2, n2, hm2⟩; exact ⟨o2, n2, hsub _ hm2⟩
      · by_cases e2 : q = i
        · subst e2
          rw [ho] at hp
          cases hp
          exact getD_set_true (hpre e he hb)
        · have hq' : listed.getD q false = true := by rw [← getD_set_ne false (Ne.symm e2)]; exact hq
          exact getD_set_true (hL.cl q p hp hq' e he hb)
      · obtain ⟨u1, u2⟩ := hL.U x (hsub x hx) j h1 h2
        refine ⟨by omega, ?_⟩
        have hside : j < n ∨ n + need o ≤ j := by
          rcases List.mem_append.1 hx with h | h
          · have := ((List.pairwise_append.1 hL.ord).2.2 x h (i, o, n) (by simp)).2
            simp only at this; left; omega
          · have := ((List.pairwise_cons.1 (List.pairwise_append.1 hL.ord).2.1).1 x h).2
            simp only at this; right; omega
        rw [k4 j u1 hside]
        exact u2
theorem draw_sound (hE : EnvOk E) (hm : E.P.follows .mixedOrders = true) {id : Nat} {K : St → Prop} (hr : Rel E.N G w s a) (hd : dstOk E.N ops.toList = true) (hok : okDraw qs ops = true)
    (h : Wr E s.m.length qs ops.toList K (numb ops.toList 0 s.m.length) (pad s (needs ops.toList))) (hQ : ∀ G' w' s' a', K s' → Rel E.N G' w' s' a' → Adv G w G' w' → (∀ j, j < s.m.length → G'.loc j = G.loc j) → s.m.length ≤ s'.m.length → Q .normal a' w') : (Code.region id ops true).wp E.P Q a w := by
  refine wp_region_any hm ?_
  have hr' : Rel E.N G w.drew s a := hr.drew
  obtain ⟨p1, p2⟩ := pad_rel (n := needs ops.toList) hr'
  have hshift : ∀ (l : List Oper) (i n n' : Nat), (numb l i n).map (fun x => (x.1, x.2.1)) = (numb l i n').map (fun x => (x.1, x.2.1)) := fun l => by
    induction l with
    | nil => intro i n n'; rfl
    | cons o r ih => intro i n n'; simp only [numb, List.map_cons]; rw [ih]
  have hok' := hok
  simp only [okDraw, Bool.and_eq_true] at hok'
  have hpw : (numb ops.toList 0 s.m.length).Pairwise fun y x => ((pres ops.toList []).getD x.1 0).testBit y.1 = true ∨ (x.2.1.apart ops y.2.1 = true ∧ swOk (cls qs x.2.1) (cls qs y.2.1) = true) := by
    have h0 := okPairs_get hok'.2
    have e := hshift ops.toList 0 0 s.m.length
    have h1 : ((numb ops.toList 0 0).map (fun x => (x.1, x.2.1))).Pairwise fun y x => ((pres ops.toList []).getD x.1 0).testBit y.1 = true ∨ (x.2.apart ops y.2 = true ∧ swOk (cls qs x.2) (cls qs y.2) = true) := List.pairwise_map.2 h0
    rw [e] at h1
    exact List.pairwise_map.1 h1
  refine draw_any (lo := s.m.length) (qs := qs) hE hd hok ops.size _ _ G w.drew (pad s (needs ops.toList)) a (by rw [numb_len]; simp) hpw ⟨by simp, fun i hi => ?_, fun x hx => ?_, numb_ord _ _ _, fun i o ho hL => ?_, fun x hx j h1 h2 => ?_⟩ (by simp [pad, St.mem]) p1 h fun G2 w2 s2 a2 e1 e2 e3 e4 e5 => hQ G2 w2 s2 a2 e1 e2 ((Adv.drew G w).trans e3) e4 e5
  · have e0 : (Array.replicate ops.size false).getD i true = false := by simp [hi]
    refine ⟨fun _ => ?_, fun _ => e0⟩
    have hlt : i < (numb ops.toList 0 s.m.length).length := by rw [numb_len]; simpa using hi
    obtain ⟨h1, h2, _⟩ := numb_get ops.toList 0 s.m.length i _ (List.getElem?_eq_getElem hlt)
    refine ⟨((numb ops.toList 0 s.m.length)[i]).2.1, ((numb ops.toList 0 s.m.length)[i]).2.2, ?_⟩
    have : (i, ((numb ops.toList 0 s.m.length)[i]).2.1, ((numb ops.toList 0 s.m.length)[i]).2.2) = (numb ops.toList 0 s.m.length)[i] := by
      rw [Nat.zero_add] at h1
      rw [Prod.ext_iff]
      exact ⟨h1.symm, rfl⟩
    rw [this]
    exact List.getElem_mem hlt
  · obtain ⟨k, hk⟩ := List.mem_iff_getElem?.1 hx
    obtain ⟨h1, h2, h3, _⟩ := numb_get ops.toList 0 s.m.length k x hk
    rw [Nat.zero_add] at h1
    exact ⟨by rw [h1, ← Array.getElem?_toList]; exact h2, h3⟩
  · exfalso
    by_cases hi : i < ops.size <;> simp [hi] at hL
  · obtain ⟨k, hk⟩ := List.mem_iff_getElem?.1 hx
    obtain ⟨h3, h4, h5, h6⟩ := numb_get ops.toList 0 s.m.length k x hk
    exact p2 j (by omega) (by omega)
end
end Go.Proofs.YtogfcpaalcebdaaE
/- An engine for walks: code, whole. -/
namespace Go.Proofs.YtogfcpaalcebdaaE
open Go Go.RowKit
set_option linter.unusedVariables false
set_option linter.unusedSimpArgs false
def Kp (k : Nat) (mv : List Nat) (G G' : Gh) : Prop := ∀ j, j < k → j ∉ mv → G'.loc j = G.loc j ∧ (∀ b o, G.loc j = some (b, o) → G'.wd j = G.wd j) ∧ ∀ i c v b o, G.rl j i c v = some (b, o) → G'.rl j i c v = some (b, o)
def Gst (E : Env) (k : Nat) (mv : List Nat) (s s' : St) : Prop := ∀ G w a, Rel E.N G w s a → ∃ G', Rel E.N G' w s' a ∧ Tr G w G' w ∧ Kp k mv G G' ∧ (k ≤ s.m.length → k ≤ s'.m.length)
def Gq (E : Env) (k : Nat) (mv : List Nat) (K : St → Prop) (s : St) : Prop := ∃ s', Gst E k mv s s' ∧ K s'
def thenA (n : St → Prop) (Q : Exit → St → Prop) : Exit → St → Prop
  | .normal, s => n s
  | e, s => Q e s
def blockA (id : Nat) (Q : Exit → St → Prop) : Exit → St → Prop
  | .exit i, s => if i = id then Q .normal s else Q (.exit i) s
  | e, s => Q e s
def noGo (Q : Exit → St → Prop) : Exit → St → Prop
  | .goto _, _ => False
  | e, s => Q e s
def Reg (E : Env) (ops : List Oper) (draw : Bool) (K : St → Prop) (s : St) : Prop :=
  match draw with
  | false => ∃ cuts, dstOk E.N ops = true ∧ Wls E ops K cuts ops s.m.length (pad s (needs ops))
  | true => ∃ qs, dstOk E.N ops = true ∧ okDraw qs ops.toArray = true ∧ Wr E s.m.length qs ops K (numb ops 0 s.m.length) (pad s (needs ops))
def Awp (E : Env) (k : Nat) (mv : List Nat) : Code → (Exit → St → Prop) → St → Prop
  | .skip, Q => Q .normal
  | .label _, Q => Q .normal
  | .exit id, Q => Q (.exit id)
  | .ret, Q => Q .ret
  | .region _ ops draw, Q => Reg E ops.toList draw (Q .normal)
  | .seq x y, Q => Awp E k mv x (thenA (Gq E k mv (Awp E k mv y Q)) Q)
  | .cond c x y, Q => fun s => (∃ t, ev s.A c = bo t ∧ (t = true → Awp E k mv x Q s) ∧ (t = false → Awp E k mv y Q s)) ∨ (ev s.A c = .bb ∧ Awp E k mv x Q s ∧ Awp E k mv y Q s)
  | .block id c, Q => Awp E k mv c (blockA id Q)
  | .scope c, Q => Awp E k mv c (noGo Q)
  | .loop c, Q => fun s => ∃ (I : St → Prop) (μ : St → Nat), Gq E k mv I s ∧ ∀ s, I s → Awp E k mv c (thenA (Gq E k mv fun s' => I s' ∧ μ s' < μ s) Q) s
  | _, _ => fun _ => False
section
variable {E : Env} {k : Nat} {mv : List Nat} {G G' G0 : Gh} {w w' w0 : World} {s s' : St} {a : Act}
theorem Kp.refl (k : Nat) (mv : List Nat) (G : Gh) : Kp k mv G G := fun _ _ _ => ⟨rfl, fun _ _ _ => rfl, fun _ _ _ _ _ h => h⟩
theorem Kp.trans {G2 : Gh} (h : Kp k mv G G') (h2 : Kp k mv G' G2) : Kp k mv G G2 := fun j hj hm => by
  obtain ⟨a1, a2, a3⟩ := h j hj hm
  obtain ⟨b1, b2, b3⟩ := h2 j hj hm
  exact ⟨b1.trans a1, fun b o q => (b2 b o (a1.trans q)).trans (a2 b o q), fun i c v b o q => b3 _ _ _ _ _ (a3 _ _ _ _ _ q)⟩
theorem Gst.refl (E : Env) (k : Nat) (mv : List Nat) (s : St) : Gst E k mv s s := fun G w a h => ⟨G, h, .refl _ _, .refl _ _ _, fun q => q⟩
theorem Gst.trans {s2 : St} (h : Gst E k mv s s') (h2 : Gst E k mv s' s2) : Gst E k mv s s2 := fun G w a hr => by
  obtain ⟨G1, a1, a2, a3, a4⟩ := h G w a hr
  obtain ⟨G2, b1, b2, b3, b4⟩ := h2 G1 w a a1
  exact ⟨G2, b1, a2.trans b2, a3.trans b3, fun q => b4 (a4 q)⟩
theorem Gq.here {K : St → Prop} (h : K s) : Gq E k mv K s := ⟨s, .refl _ _ _ _, h⟩
theorem thenA_mono {n n' : St → Prop} {Q Q' : Exit → St → Prop} (h1 : ∀ s, n s → n' s) (h2 : ∀ e s, Q e s → Q' e s) : ∀ e s, thenA n Q e s → thenA n' Q' e s := fun e s h => by
  cases e <;> first | exact h1 _ h | exact h2 _ _ h
theorem Wl_mono {ops : List Oper} {K K' : St → Prop} (hK : ∀ s, K s → K' s) : ∀ (l : List Oper) (nid : Nat) (s : St), Wl E ops K l nid s → Wl E ops K' l nid s
  | [], nid, s, h => hK s h
  | o :: r, nid, s, h => Xg_mono (fun v m' q => Wl_mono hK r _ _ q) h
theorem Wr_mono {lo : Nat} {qs : List Nat} {ops : List Oper} {K K' : St → Prop} (hK : ∀ s, K s → K' s) : ∀ (l : List Nu) (s : St), Wr E lo qs ops K l s → Wr E lo qs ops K' l s
  | [], s, h => hK s h
  | x :: r, s, h => Wgd_mono (fun s q => Wr_mono hK r s q) h
theorem Reg_mono {ops : List Oper} {draw : Bool} {K K' : St → Prop} (hK : ∀ s, K s → K' s) (h : Reg E ops draw K s) : Reg E ops draw K' s := by
  cases draw with
  | false =>
    obtain ⟨c, h1, h2⟩ := h
    exact ⟨c, h1, Wls_mono hK (fun K K' h => Wl_mono h) c _ _ _ h2⟩
  | true =>
    obtain ⟨qs, h1, h2, h3⟩ := h
    exact ⟨qs, h1, h2, Wr_mono hK _ _ h3⟩
theorem Gq_mono {K K' : St → Prop} (hK : ∀ s, K s → K' s) (h : Gq E k mv K s) : Gq E k mv K' s := by
  obtain ⟨s', h1, h2⟩ := h
  exact ⟨s', h1, hK _ h2⟩
theorem Awp_mono : ∀ (c : Code) {Q Q' : Exit → St → Prop} {s : St}, (∀ e s, Q e s → Q' e s) → Awp E k mv c Q s → Awp E k mv c Q' s
  | .skip, _, _, _, hQ, h => hQ _ _ h
  | .label _, _, _, _, hQ, h => hQ _ _ h
  | .exit _, _, _, _, hQ, h => hQ _ _ h
  | .ret, _, _, _, hQ, h => hQ _ _ h
  | .region _ _ _, _, _, _, hQ, h => Reg_mono (hQ _) h
  | .seq x y, _, _, _, hQ, h => Awp_mono x (thenA_mono (fun s q => Gq_mono (fun s q => Awp_mono y hQ q) q) hQ) h
  | .cond c x y, _, _, _, hQ, h => by
    rcases h with ⟨t, h1, h2, h3⟩ | ⟨h1, h2, h3⟩
    · exact .inl ⟨t, h1, fun q => Awp_mono x hQ (h2 q), fun q => Awp_mono y hQ (h3 q)⟩
    · exact .inr ⟨h1, Awp_mono x hQ h2, Awp_mono y hQ h3⟩
  | .block id c, Q, Q', _, hQ, h => Awp_mono c (fun e s q => by
    cases e with
    | exit i =>
      unfold blockA at q ⊢
      dsimp only at q ⊢
      split
      · rename_i e; rw [if_pos e] at q; exact hQ _ _ q
      · rename_i e; rw [if_neg e] at q; exact hQ _ _ q
    | _ => exact hQ _ _ q) h
  | .loop c, _, _, _, hQ, h => by
    obtain ⟨I, μ, h1, h2⟩ := h
    exact ⟨I, μ, h1, fun s hs => Awp_mono c (thenA_mono (fun _ q => q) hQ) (h2 s hs)⟩
  | .scope c, _, _, _, hQ, h => Awp_mono c (fun e s q => by
    cases e <;> first | exact hQ _ _ q | exact q.elim) h
  | .rangeFunc _ _ _ _, _, _, _, _, h => h.elim
  | .goto _, _, _, _, _, h => h.elim
theorem Awp_seq {x y : Code} {Q : Exit → St → Prop} (R : St → Prop) (h : Awp E k mv x (thenA (Gq E k mv R) Q) s) (h2 : ∀ s, R s → Awp E k mv y Q s) : Awp E k mv (.seq x y) Q s := Awp_mono x (thenA_mono (fun s q => Gq_mono h2 q) fun _ _ q => q) h
def Qc (E : Env) (k : Nat) (mv : List Nat) (G0 : Gh) (w0 : World) (Q : Exit → St → Prop) (e : Exit) (a : Act) (w : World) : Prop := ∃ G s, Q e s ∧ Rel E.N G w s a ∧ Tr G0 w0 G w ∧ Kp k mv G0 G ∧ k ≤ s.m.length
theorem least {p : Nat → Prop} (h : ∃ n, p n) : ∃ n, p n ∧ ∀ j, p j → n ≤ j := by
  obtain ⟨n, hn⟩ := h
  induction n using Nat.strongRecOn with
  | _ n ih =>
    by_cases q : ∃ j, j < n ∧ p j
    · obtain ⟨j, hj, hp⟩ := q
      exact ih j hj hp
    · refine ⟨n, hn, fun j hj => ?_⟩
      rcases Nat.lt_or_ge j n with h | h
      · exact absurd ⟨j, h, hj⟩ q
      · exact h
theorem Kp.of_adv (hk : k ≤ s.m.length) (h : Adv G w G' w') (hl : ∀ j, j < s.m.length → G'.loc j = G.loc j) : Kp k mv G G' := fun j hj _ => ⟨hl j (by omega), fun b o q => (h.ext.loc _ _ _ q).2.1, fun i c v b o q => (h.ext.rl _ _ _ _ _ _ q).1⟩
theorem Gq.out {K : St → Prop} (h : Gq E k mv K s) (hr : Rel E.N G w s a) (ht : Tr G0 w0 G w) (hk : Kp k mv G0 G) (hm : k ≤ s.m.length) : ∃ G' s', K s' ∧ Rel E.N G' w s' a ∧ Tr G0 w0 G' w ∧ Kp k mv G0 G' ∧ k ≤ s'.m.length := by
  obtain ⟨s', h1, h2⟩ := h
  obtain ⟨G', a1, a2, a3, a4⟩ := h1 G w a hr
  exact ⟨G', s', h2, a1, ht.trans a2, hk.trans a3, a4 hm⟩
theorem eval_bool {t : Bool} {c : Operand} (hr : Rel E.N G w s a) (h : ev s.A c = bo t) : a.eval c = .bool t := by
  have hv := hr.ev c
  rw [h] at hv
  generalize a.eval c = v at hv
  cases hv with
  | c hv => cases hv; rfl
theorem Awp_sound (hE : EnvOk E) (hm : E.P.follows .mixedOrders = true) : ∀ (c : Code) {Q : Exit → St → Prop} {G : Gh} {w : World} {s : St} {a : Act}, Awp E k mv c Q s → Rel E.N G w s a → Tr G0 w0 G w → Kp k mv G0 G → k ≤ s.m.length → c.wp E.P (Qc E k mv G0 w0 Q) a w
  | .skip, _, G, w, s, a, h, hr, ht, hk, hl => wp_skip ⟨G, s, h, hr, ht, hk, hl⟩
  | .label _, _, G, w, s, a, h, hr, ht, hk, hl => wp_label ⟨G, s, h, hr, ht, hk, hl⟩
  | .exit _, _, G, w, s, a, h, hr, ht, hk, hl => wp_exit ⟨G, s, h, hr, ht, hk, hl⟩
  | .ret, _, G, w, s, a, h, hr, ht, hk, hl => by
    exact wp_ret ⟨G, s, h, hr, ht, hk, hl⟩
  | .region id ops draw, Q, G, w, s, a, h, hr, ht, hk, hl => by
    cases draw with
    | false =>
      obtain ⟨c, h1, h2⟩ := h
      exact region_sound hE hr h1 h2 fun G' w' s' a' e1 e2 e3 e4 e5 => ⟨G', s', e1, e2, ht.trans e3.tr, hk.trans (.of_adv hl e3 e4), by omega⟩
    | true =>
      obtain ⟨qs, h1, h2, h3⟩ := h
      exact draw_sound hE hm hr h1 h2 h3 fun G' w' s' a' e1 e2 e3 e4 e5 => ⟨G', s', e1, e2, ht.trans e3.tr, hk.trans (.of_adv hl e3 e4), by omega⟩
  | .seq x y, Q, G, w, s, a, h, hr, ht, hk, hl => by
    refine wp_seq (wp_mono (Awp_sound hE hm x h hr ht hk hl) fun e a' w' hq => ?_)
    obtain ⟨G', s', a1, a2, a3, a4, a5⟩ := hq
    cases e with
    | normal =>
      obtain ⟨G2, s2, b1, b2, b3, b4, b5⟩ := Gq.out a1 a2 a3 a4 a5
      exact Awp_sound hE hm y b1 b2 b3 b4 b5
    | _ => exact ⟨G', s', a1, a2, a3, a4, a5⟩
  | .cond c x y, Q, G, w, s, a, h, hr, ht, hk, hl => by
    rcases h with ⟨t, h1, h2, h3⟩ | ⟨h1, h2, h3⟩
    · exact wp_cond_split (eval_bool hr h1) (fun q => Awp_sound hE hm x (h2 q) hr ht hk hl) (fun q => Awp_sound hE hm y (h3 q) hr ht hk hl)
    · have hv := hr.ev c
      rw [h1] at hv
      generalize hc : a.eval c = v at hv
      cases hv with
      | @bb b => exact wp_cond_split hc (fun q => Awp_sound hE hm x h2 hr ht hk hl) (fun q => Awp_sound hE hm y h3 hr ht hk hl)
  | .block id c, Q, G, w, s, a, h, hr, ht, hk, hl => by
    refine wp_block (wp_mono (Awp_sound hE hm c h hr ht hk hl) fun e a' w' hq => ?_)
    obtain ⟨G', s', a1, a2, a3, a4, a5⟩ := hq
    cases e with
    | exit i =>
      unfold blockA at a1
      dsimp only at a1
      unfold Exit.inBlock
      dsimp only
      by_cases e : i = id
      · rw [if_pos e] at a1 ⊢; exact ⟨G', s', a1, a2, a3, a4, a5⟩
      · rw [if_neg e] at a1 ⊢; exact ⟨G', s', a1, a2, a3, a4, a5⟩
    | _ => exact ⟨G', s', a1, a2, a3, a4, a5⟩
  | .loop c, Q, G, w, s, a, h, hr, ht, hk, hl => by
    obtain ⟨I, μ, h1, h2⟩ := h
    obtain ⟨G', s', a1, a2, a3, a4, a5⟩ := h1.out hr ht hk hl
    let p : Act → World → Nat → Prop := fun a w n => ∃ G s, I s ∧ Rel E.N G w s a ∧ Tr G0 w0 G w ∧ Kp k mv G0 G ∧ k ≤ s.m.length ∧ μ s = n
    let ν : Act → World → Nat := fun a w => open Classical in if h : ∃ n, p a w n then (least h).choose else 0
    have hν : ∀ a w (h : ∃ n, p a w n), p a w (ν a w) ∧ ∀ j, p a w j → ν a w ≤ j := fun a w h => by
      have e : ν a w = (least h).choose := dif_pos h
      rw [e]
      exact (least h).choose_spec
    refine wp_loop (fun a w => ∃ n, p a w n) ν ⟨_, G', s', a1, a2, a3, a4, a5, rfl⟩ fun a w hI => ?_
    obtain ⟨⟨G1, s1, b1, b2, b3, b4, b5, b6⟩, _⟩ := hν a w hI
    refine wp_mono (Awp_sound hE hm c (h2 s1 b1) b2 b3 b4 b5) fun e a' w' hq => ?_
    obtain ⟨G2, s2, c1, c2, c3, c4, c5⟩ := hq
    cases e with
    | normal =>
      obtain ⟨G3, s3, ⟨d1, d6⟩, d2, d3, d4, d5⟩ := Gq.out c1 c2 c3 c4 c5
      have hp : p a' w' (μ s3) := ⟨G3, s3, d1, d2, d3, d4, d5, rfl⟩
      refine ⟨⟨_, hp⟩, ?_⟩
      have := (hν a' w' ⟨_, hp⟩).2 _ hp
      omega
    | _ => exact ⟨G2, s2, c1, c2, c3, c4, c5⟩
  | .rangeFunc _ _ _ _, _, _, _, _, _, h, _, _, _, _ => h.elim
  | .scope c, Q, G, w, s, a, h, hr, ht, hk, hl => by
    refine wp_scope_straight (wp_mono (Awp_sound hE hm c h hr ht hk hl) fun e a' w' hq => ?_)
    obtain ⟨G', s', a1, a2, a3, a4, a5⟩ := hq
    cases e with
    | goto l => exact a1.elim
    | normal => exact ⟨G', s', a1, a2, a3, a4, a5⟩
    | exit i => exact ⟨G', s', a1, a2, a3, a4, a5⟩
    | ret => exact ⟨G', s', a1, a2, a3, a4, a5⟩
    | panic c => exact ⟨G', s', a1, a2, a3, a4, a5⟩
    | outgrown => exact ⟨G', s', a1, a2, a3, a4, a5⟩
  | .goto _, _, _, _, _, _, h, _, _, _, _ => h.elim
end
end Go.Proofs.YtogfcpaalcebdaaE
