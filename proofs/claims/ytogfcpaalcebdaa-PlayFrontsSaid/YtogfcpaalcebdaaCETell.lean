/- Calls with a state and the event's box. -/
import Derived.Test.YtogfcpaalcebdaaCESend
namespace Go.Proofs.YtogfcpaalcebdaaE
open Go Go.RowKit
set_option linter.unusedVariables false
set_option linter.unusedSimpArgs false
def L11 : List Nat := [0, 1, 2, 3, 4, 5, 6, 7, 8, 11]
theorem posOf11 : ∀ j, 12 ≤ j → posOf j L11 = none := fun j hj => by
  cases h : posOf j L11 with
  | none => rfl
  | some p =>
    have h1 := posOf_some h
    have : j ∈ L11 := List.mem_of_getElem? h1
    simp [L11] at this
    omega
theorem backA_out11 {β : Nat → Option Nat} {mv : List Nat} {mc : Mem2} : ∀ (r : Mem2) (id0 : Nat), 12 ≤ id0 → backA β L11 mv mc id0 r = some r
  | [], id0, h => rfl
  | o :: r, id0, h => by
    unfold backA
    rw [posOf11 id0 h]
    dsimp only
    rw [backA_out11 r (id0 + 1) (by omega)]
section
variable {E : Env} {σ σ' : Sg} {ext : Mem2} {b9 b10 : Option Ob} {cs cs' : List V} {f : FuncId} {xs xs' : List V} {k : V → Mem2 → Prop}
theorem foot_app {m : Mem2} {ρ : Nat → Option Nat} {i : Nat} {z : Mem2} (hm : footM m ρ [i] = some z) : ∀ (l : List Nat) (x : Mem2), footM m ρ l = some x → footM m ρ (l ++ [i]) = some (x ++ z)
  | [], x, hx => by cases hx; exact hm
  | a :: l, x, hx => by
    rw [List.cons_append]
    unfold footM at hx ⊢
    split at hx
    · rename_i o ho
      split at hx
      · rename_i o' ho'
        split at hx
        · rename_i l' hl'
          cases hx
          rw [foot_app hm l _ hl']
          rfl
        · cases hx
      · cases hx
    · cases hx
theorem foot11 (h : renL (fun id => posOf id L11) cs = some cs) : footM (M σ (b9 :: b10 :: some (.box cs) :: ext)) (fun id => posOf id L11) L11 = some (M σ [some (.box cs)]) := by
  have h9 : renOb (fun id => posOf id L11) (.box cs) = some (.box cs) := by
    unfold renOb; dsimp only; rw [h]; rfl
  have h1 : footM (M σ (b9 :: b10 :: some (.box cs) :: ext)) (fun id => posOf id L11) [11] = some [some (.box cs)] := by
    show (match renOb (fun id => posOf id L11) (.box cs) with
      | some o' => (match footM (M σ (b9 :: b10 :: some (.box cs) :: ext)) (fun id => posOf id L11) [] with
        | some l => some (some o' :: l)
        | none => none)
      | none => none) = _
    rw [h9]; rfl
  exact foot_app h1 [0, 1, 2, 3, 4, 5, 6, 7, 8] (M σ []) rfl
theorem back11 (h : renL (fun j => L11[j]?) cs' = some cs') : backM L11 [] (M σ (b9 :: b10 :: some (.box cs) :: ext)) (M σ' [some (.box cs')]) = some (M σ' (b9 :: b10 :: some (.box cs') :: ext)) := by
  have hβ : back L11 (newIds L11 [] (M σ' [some (.box cs')]).length) (M σ (b9 :: b10 :: some (.box cs) :: ext)).length = fun j => L11[j]? := rfl
  unfold backM
  rw [hβ]
  have h1 : backA (fun j => L11[j]?) L11 [] (M σ' [some (.box cs')]) 0 (M σ []) = some (M σ' []) := rfl
  have h9 : renO (fun j => L11[j]?) (some (.box cs')) = some (some (.box cs')) := by
    unfold renO renOb; dsimp only; rw [h]; rfl
  have h2 : backA (fun j => L11[j]?) L11 [] (M σ' [some (.box cs')]) 9 (b9 :: b10 :: some (.box cs) :: ext) = some (b9 :: b10 :: some (.box cs') :: ext) := by
    have h3 : backA (fun j => L11[j]?) L11 [] (M σ' [some (.box cs')]) 11 (some (.box cs) :: ext) = some (some (.box cs') :: ext) := by
      show (match renO (fun j => L11[j]?) (some (.box cs')) with
        | some o' => (match backA (fun j => L11[j]?) L11 [] (M σ' [some (.box cs')]) 12 ext with
          | some l => some (o' :: l)
          | none => none)
        | none => none) = _
      rw [h9, backA_out11 ext 12 (Nat.le_refl _)]
    show (match (match backA (fun j => L11[j]?) L11 [] (M σ' [some (.box cs')]) 11 (some (.box cs) :: ext) with
      | some l => some (b10 :: l)
      | none => none) with
      | some l => some (b9 :: l)
      | none => none) = _
    rw [h3]
  have h4 := backA_app (M σ []) (M σ' []) 0 h1 h2
  rw [show M σ (b9 :: b10 :: some (.box cs) :: ext) = M σ [] ++ (b9 :: b10 :: some (.box cs) :: ext) from rfl, h4]
  show some ((M σ' [] ++ (b9 :: b10 :: some (.box cs') :: ext)) ++ []) = _
  rw [List.append_nil]
  rfl
theorem call_e {P : V → Mem2 → Prop} (hS : E.S f xs' (M σ [some (.box cs)]) (pq P [])) (hx : renL (fun id => posOf id L11) xs = some xs') (hcs : renL (fun id => posOf id L11) cs = some cs) (hne : ∃ r a, P r a)
    (hP : ∀ r a, P r a → ∃ σ' cs', a = M σ' [some (.box cs')] ∧ renL (fun j => L11[j]?) cs' = some cs' ∧ ren (fun j => L11[j]?) r = some r ∧ k r (M σ' (b9 :: b10 :: some (.box cs') :: ext))) : WCall E (.fn f []) xs (M σ (b9 :: b10 :: some (.box cs) :: ext)) k := by
  obtain ⟨r0, a0, h0⟩ := hne
  refine ⟨f, [], L11, M σ [some (.box cs)], xs', _, rfl, by decide, foot11 hcs, by rw [List.append_nil]; exact hx, hS, ⟨r0, a0, _, h0, rfl⟩, fun r mc' mv ⟨h1, h3⟩ => ?_⟩
  subst h3
  obtain ⟨σ', cs', rfl, g1, g2, g3⟩ := hP r mc' h1
  exact ⟨.nil, fun j hj => (by cases hj), _, r, back11 g1, g2, g3⟩
end
end Go.Proofs.YtogfcpaalcebdaaE
/- What is told. -/
namespace Go.Proofs.YtogfcpaalcebdaaE
open Go Go.RowKit
set_option linter.unusedVariables false
set_option linter.unusedSimpArgs false
def MT (σ : Sg) (nn : Nat) (l : List Int) (ext : Mem2) : Mem2 := some (.box ((stBox σ).set 14 (.sl nn 1 0 l.length false))) :: some (.arr 6 (σ.th.map Th.enc)) :: some (.arr 1 (encI σ.vars)) :: some (.arr 1 (encI σ.atoms)) :: some (.arr 1 (encI σ.locks)) :: some (.arw 2 (σ.ch.map Ch.enc)) :: some (.arr 1 (encI σ.groups)) :: some (.arr 1 (encI σ.onces)) :: none :: ext
section
variable {σ : Sg} {ext : Mem2} {N : Nat} {S : Spec} {lw i1 i2 i3 i4 p n2 n3 n4 : Nat} {qs : List Nat} {rr : List Nu} {ops : List Oper} {K : St → Prop} {A : Nat → V} {d1 d2 d3 : Nat} {y1 y2 y3 y4 : TypeId} {p1 p2 p3 p4 : String} {a1 a2 a3 a4 : Array Edge} {x y q : Operand} {j : Nat} {v : Int}
theorem wr_tell (hx : ev A x = .sl 8 1 0 σ.told.length false) (hy : ev A y = .sl j 1 0 1 true) (hj : obGet (M σ ext) j = some (.arr 1 [[ci v]])) (hj8 : Nat.beq j 8 = false) (hq : ev A q = .ptr 0 0 0) (hlen : σ.told.length < 1000000) (hd : d1 ≠ d2 ∧ d1 ≠ d3 ∧ ∀ t, q = .tmp t → t ≠ d1)
    (hK : Wr (env N S) lw qs ops K rr ⟨up (up (up A d1 (.sl (p + 9) 1 0 (σ.told.length + 1) false)) d2 (.ptr 0 0 0)) d3 (.ptr 0 0 14), MT σ (p + 9) (σ.told ++ [v]) (ext.set p (some (.arr 1 (encI (σ.told ++ [v])))))⟩) :
    Wr (env N S) lw qs ops K ((i1, ⟨some d1, .call ⟨.builtin .append, #[x, y], #[23, 23]⟩, y1, p1, a1, none⟩, p + 9) :: (i2, ⟨some d2, .nilCheck q, y2, p2, a2, none⟩, n2) :: (i3, ⟨some d3, .fieldAddr 82 (.tmp d2) 8, y3, p3, a3, none⟩, n3) :: (i4, ⟨none, .store 23 (.tmp d3) (.tmp d1), y4, p4, a4, none⟩, n4) :: rr) ⟨A, M σ ext⟩ := by
  have hne : j ≠ 8 := by rintro rfl; simp at hj8
  show WApp (env N S) #[23, 23] [ev A x, ev A y] (M σ ext) (p + 9) _
  refine ⟨23, _, _, rfl, rfl, .inl ?_⟩
  refine ⟨ti23, 3, ti3, encI σ.told, [[ci v]], (M σ ext).set 8 none, lk23, rfl, lk3, ?_, ?_, ?_, ?_, ?_, ?_, .inl (by simp), ?_⟩
  · rw [hx]
    unfold dstR
    dsimp only
    rw [show obGet (M σ ext) 8 = some (.arr 1 (encI σ.told)) from rfl]
    dsimp only
    rw [if_pos ⟨by simp [encI], rfl, rfl⟩]
    rfl
  · rw [hy]
    unfold srcR
    dsimp only
    rw [hj]
    simp
  · intro row hrow
    simp at hrow
    subst hrow
    rfl
  · intro row hrow
    simp [encI] at hrow
    obtain ⟨a, _, rfl⟩ := hrow
    rfl
  · show ((encI σ.told).length + 1) * 8 ≤ 140737488355328
    simp [encI]
    omega
  · simp [encI]
    omega
  have hb : (encI σ.told).length + [[ci v]].length = σ.told.length + 1 := by simp [encI]
  rw [hb]
  have he : encI σ.told ++ [[ci v]] = encI (σ.told ++ [v]) := by simp [encI]
  rw [show ti3.n = 1 from rfl, he]
  let V1 : V := .sl (p + 9) 1 0 (σ.told.length + 1) false
  let m2 : Mem2 := ((M σ ext).set 8 none).set (p + 9) (some (.arr 1 (encI (σ.told ++ [v]))))
  show Wr (env N S) lw qs ops K _ ⟨up A d1 V1, m2⟩
  have hq' : ev (up A d1 V1) q = .ptr 0 0 0 := by
    cases q with
    | tmp t =>
      have := hd.2.2 t rfl
      show up A d1 V1 t = _
      rw [up_get, if_neg this]
      exact hq
    | const v => exact hq
    | func f => exact hq
    | global g => exact hq
  rw [wr_nil, hq']
  show RV (env N S) lw qs ops K _ (up A d1 V1) m2 d2 (some (.ptr 0 0 0))
  rw [RV_some, wr_fa]
  have e2 : ev (up (up A d1 V1) d2 (.ptr 0 0 0)) (.tmp d2) = .ptr 0 0 0 := by
    show up (up A d1 V1) d2 (.ptr 0 0 0) d2 = _
    rw [up_get, if_pos rfl]
  rw [e2]
  show RV (env N S) lw qs ops K _ _ m2 d3 (some (.ptr 0 0 14))
  rw [RV_some]
  refine wr_store ?_
  have e3 : ev (up (up (up A d1 V1) d2 (.ptr 0 0 0)) d3 (.ptr 0 0 14)) (.tmp d3) = .ptr 0 0 14 := by
    show up (up (up A d1 V1) d2 (.ptr 0 0 0)) d3 (.ptr 0 0 14) d3 = _
    rw [up_get, if_pos rfl]
  have e4 : ev (up (up (up A d1 V1) d2 (.ptr 0 0 0)) d3 (.ptr 0 0 14)) (.tmp d1) = V1 := by
    show up (up (up A d1 V1) d2 (.ptr 0 0 0)) d3 (.ptr 0 0 14) d1 = _
    rw [up_get, if_neg hd.2.1, up_get, if_neg hd.1, up_get, if_pos rfl]
  rw [e3, e4]
  have hs : aStore tab m2 23 (.ptr 0 0 14) V1 = some (MT σ (p + 9) (σ.told ++ [v]) (ext.set p (some (.arr 1 (encI (σ.told ++ [v])))))) := by
    refine stA lk23 rfl rfl ?_
    have hl : (σ.told ++ [v]).length = σ.told.length + 1 := by simp
    unfold MT
    rw [hl]
    rfl
  exact ⟨_, hs, hK⟩
end
def LT : List Nat := [0, 1, 2, 3, 4, 5, 6, 7, 13, 9, 10, 11]
def setTold (σ : Sg) (l : List Int) : Sg := { σ with told := l }
theorem foot_app2 {m : Mem2} {ρ : Nat → Option Nat} : ∀ (l l2 : List Nat) (x z : Mem2), footM m ρ l = some x → footM m ρ l2 = some z → footM m ρ (l ++ l2) = some (x ++ z)
  | [], l2, x, z, hx, hz => by cases hx; exact hz
  | a :: l, l2, x, z, hx, hz => by
    rw [List.cons_append]
    unfold footM at hx ⊢
    split at hx
    · rename_i o ho
      split at hx
      · rename_i o' ho'
        split at hx
        · rename_i l' hl'
          cases hx
          rw [foot_app2 l l2 _ _ hl' hz]
          rfl
        · cases hx
      · cases hx
    · cases hx
theorem footT {σ : Sg} {l : List Int} {c9 c10 c11 : List V} {x12 : Option Ob} {e : Mem2} (h9 : renL (fun id => posOf id LT) c9 = some c9) (h10 : renL (fun id => posOf id LT) c10 = some c10) (h11 : renL (fun id => posOf id LT) c11 = some c11) :
    footM (MT σ 13 l (some (.box c9) :: some (.box c10) :: some (.box c11) :: x12 :: some (.arr 1 (encI l)) :: e)) (fun id => posOf id LT) LT = some (M (setTold σ l) [some (.box c9), some (.box c10), some (.box c11)]) := by
  have hb : ∀ {c : List V}, renL (fun id => posOf id LT) c = some c → renOb (fun id => posOf id LT) (.box c) = some (.box c) := fun h => by unfold renOb; dsimp only; rw [h]; rfl
  have h1 : footM (MT σ 13 l (some (.box c9) :: some (.box c10) :: some (.box c11) :: x12 :: some (.arr 1 (encI l)) :: e)) (fun id => posOf id LT) [0, 1, 2, 3, 4, 5, 6, 7, 13] = some (M (setTold σ l) []) := rfl
  have h2 : footM (MT σ 13 l (some (.box c9) :: some (.box c10) :: some (.box c11) :: x12 :: some (.arr 1 (encI l)) :: e)) (fun id => posOf id LT) [9, 10, 11] = some [some (.box c9), some (.box c10), some (.box c11)] := by
    show (match renOb (fun id => posOf id LT) (.box c9) with
      | some o' => (match (match renOb (fun id => posOf id LT) (.box c10) with
        | some o' => (match (match renOb (fun id => posOf id LT) (.box c11) with
          | some o' => (match (some [] : Option Mem2) with
            | some l => some (some o' :: l)
            | none => none)
          | none => none) with
          | some l => some (some o' :: l)
          | none => none)
        | none => none) with
        | some l => some (some o' :: l)
        | none => none)
      | none => none) = _
    rw [hb h9, hb h10, hb h11]
  exact foot_app2 _ _ _ _ h1 h2
theorem tellG {E : Env} {σ : Sg} {l : List Int} {c9 c10 c11 : List V} {x12 : Option Ob} {e : Mem2} {A : Nat → V} (h9 : renL (fun id => posOf id LT) c9 = some c9) (h10 : renL (fun id => posOf id LT) c10 = some c10) (h11 : renL (fun id => posOf id LT) c11 = some c11) :
    Gst E 9 [8] ⟨A, MT σ 13 l (some (.box c9) :: some (.box c10) :: some (.box c11) :: x12 :: some (.arr 1 (encI l)) :: e)⟩ ⟨fun t => renD LT (A t), M (setTold σ l) [some (.box c9), some (.box c10), some (.box c11)]⟩ := Gst.cmp (L := LT) rfl rfl (footT h9 h10 h11)
end Go.Proofs.YtogfcpaalcebdaaE
