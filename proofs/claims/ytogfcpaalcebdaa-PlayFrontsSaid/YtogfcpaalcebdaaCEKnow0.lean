/- What the laws ask of states. -/
import Derived.Test.YtogfcpaalcebdaaCECopy
import Derived.Test.YtogfcpaalcebdaaCENew
import Derived.Test.YtogfcpaalcebdaaCEWalk7
import Derived.Test.YtogfcpaalcebdaaCEStat
namespace Go.Proofs.YtogfcpaalcebdaaE
open Go Go.RowKit
set_option linter.unusedVariables false
set_option linter.unusedSimpArgs false
set_option maxRecDepth 1000000
set_option maxHeartbeats 8000000
def stepP (σ : Sg) (k : Int) : V → Mem2 → Prop := fun r a => ∃ ver, if can σ k = true then r = .tup [.agg (goF σ k ver).2.cells, nB true] ∧ a = M (goF σ k ver).1 [] else r = .tup [.agg Evt.none.cells, nB false] ∧ a = M σ []
def newP (p : Prg) : V → Mem2 → Prop := fun r a => if soundF p = 0 then r = .ptr 0 0 0 ∧ a = M (initS p) [] else r = .c (.sc (.pointer none)) ∧ a = []
inductive SL : Spec
  | new (p : Prg) (hP : OkP p) : SL 29 [.agg p.cells] [] (pq (newP p) [])
  | step (σ : Sg) (k : Int) (hW : WF σ) (ht : σ.told.length < 1000000) (hch : ∀ c ∈ σ.ch, c.row.length < 1000000) : SL 30 [.ptr 0 0 0, nI k] (M σ []) (pq (stepP σ k) [8])
  | status (σ : Sg) (hW : WF σ) (hl : σ.th.length < 1000000) : SL 32 [.ptr 0 0 0] (M σ []) (pt (nU (statF σ)) (M σ []) [])
  | prints (σ : Sg) (hl : σ.told.length < 1000000) : SL 31 [.ptr 0 0 0] (M σ []) (pt (.c (.ls (encI σ.told))) (M σ []) [])
  | can (σ : Sg) (k : Int) (hW : WF σ) : SL 23 [.ptr 0 0 0, nI k] (M σ []) (pt (nB (can σ k)) (M σ []) [])
  | picks (c : List Int) (hw8 : ∀ x ∈ c, 0 ≤ x ∧ x < 256) : SL 13 [.c (.ls (encU c))] [] (pt (.c (.ls (encI (picksF c)))) [] [])
theorem SL_good : Good SL := by
  refine ⟨fun f a m P h => ?_, fun f a m P h => ?_⟩
  · cases h with
    | new p hP => exact new_m TG_good p hP
    | step σ k hW ht hch => exact step_m SB_good σ k hW ht hch
    | status σ hW hl => exact status_m SQ_good σ hW hl
    | prints σ hl => exact prints_m SP_good σ hl
    | can σ k hW => exact can_m SA_good σ k hW
    | picks c hw8 => exact picks_m Good.none c hw8
  · cases h with
    | new p hP => exact ⟨_, Try.func29, rfl, rfl⟩
    | step σ k hW ht hch => exact ⟨_, Try.func30, rfl, rfl⟩
    | status σ hW hl => exact ⟨_, Try.func32, rfl, rfl⟩
    | prints σ hl => exact ⟨_, Try.func31, rfl, rfl⟩
    | can σ k hW => exact ⟨_, Try.func23, rfl, rfl⟩
    | picks c hw8 => exact ⟨_, Try.func13, rfl, rfl⟩
section
variable {kk : Nat} {mv : List Nat} {E : Env} {σ : Sg} {m ext : Mem2} {xs : List V} {k : V → Mem2 → Prop} {f : FuncId} {K : St → Prop} {A : Nat → V} {cs c1 c2 c3 : List V}
def litAt (o : Array Oper) (k : Nat) : Bool :=
  match o[k]? with
  | some ⟨_, .buildSlice _ _ _, _, _, _, _⟩ => true
  | _ => false
theorem Awp_regL (k : Nat) (cuts : List Nat) {id : Nat} {o : Array Oper} {Q : Exit → St → Prop} {s : St} (hl : litAt o k = true) (h1 : dstOk E.N o.toList = true) (h : ∀ K : St → Prop, Kont K (Q .normal) → Wls E o.toList K cuts o.toList s.m.length (pad s (needs o.toList))) : Awp E kk mv (.region id o false) Q s := Awp_regS cuts h1 h
theorem Awp_regZ (k : Nat) (cuts : List Nat) {id : Nat} {o : Array Oper} {Q : Exit → St → Prop} {s : St} (hl : Nat.beq o.size k = true) (h1 : dstOk E.N o.toList = true) (h : ∀ K : St → Prop, Kont K (Q .normal) → Wls E o.toList K cuts o.toList s.m.length (pad s (needs o.toList))) : Awp E kk mv (.region id o false) Q s := Awp_regS cuts h1 h
theorem call_box (hS : E.S f xs (M σ []) (pt (.ptr 9 0 0) (M σ [some (.box cs)]) [])) (hx : renL (fun id => posOf id L9) xs = some xs) (hcs : cs.all isC = true) (hk : k (.ptr 9 0 0) (M σ [some (.box cs)])) : WCall E (.fn f []) xs (M σ []) k := by
  refine ⟨f, [], L9, M σ [], xs, _, rfl, by decide, foot9, by rw [List.append_nil]; exact hx, hS, ⟨_, _, _, rfl, rfl, rfl⟩, fun r mc' mv ⟨h1, h2, h3⟩ => ?_⟩
  subst h1 h2 h3
  refine ⟨.nil, fun j hj => (by cases hj), M σ [some (.box cs)], .ptr 9 0 0, ?_, rfl, hk⟩
  have h1 : backA (back L9 (newIds L9 [] (M σ [some (.box cs)]).length) (M σ []).length) L9 [] (M σ [some (.box cs)]) 0 (M σ []) = some (M σ []) := rfl
  unfold backM
  rw [h1]
  have h2 : backE (back L9 (newIds L9 [] (M σ [some (.box cs)]).length) (M σ []).length) (M σ [some (.box cs)]) [9] = some [some (.box cs)] := by
    unfold backE
    have h3 : renO (back L9 (newIds L9 [] (M σ [some (.box cs)]).length) (M σ []).length) ((M σ [some (.box cs)]).getD 9 none) = some (some (.box cs)) := by
      show renO _ (some (.box cs)) = _
      unfold renO renOb
      dsimp only
      rw [renL_c hcs]
      rfl
    rw [h3]
    rfl
  show (match backE (back L9 (newIds L9 [] (M σ [some (.box cs)]).length) (M σ []).length) (M σ [some (.box cs)]) [9] with
    | some e => some (M σ [] ++ e)
    | none => none) = _
  rw [h2]
  rfl
theorem bxC {ρ : Nat → Option Nat} (h : cs.all isC = true) : renOb ρ (.box cs) = some (.box cs) := by
  unfold renOb; dsimp only; rw [renL_c h]; rfl
theorem fbox {m : Mem2} {ρ : Nat → Option Nat} {i : Nat} {r : List Nat} {z : Mem2} (ho : obGet m i = some (.box cs)) (h : cs.all isC = true) (hr : footM m ρ r = some z) : footM m ρ (i :: r) = some (some (.box cs) :: z) := by
  unfold footM
  rw [ho]
  dsimp only
  rw [bxC h]
  dsimp only
  rw [hr]
theorem gq_k2 (h1 : c1.all isC = true) (h2 : c2.all isC = true) (hK : K ⟨fun t => renD [0, 1, 2, 3, 4, 5, 6, 7, 11, 9, 10] (A t), M σ [some (.box c1), some (.box c2)]⟩) : Gq E 0 [] K ⟨A, MT σ 11 σ.told [some (.box c1), some (.box c2), some (.arr 1 (encI σ.told))]⟩ :=
  ⟨_, Gst.cmp (L := [0, 1, 2, 3, 4, 5, 6, 7, 11, 9, 10]) rfl rfl (foot_app2 [0, 1, 2, 3, 4, 5, 6, 7, 11] [9, 10] (M σ []) [some (.box c1), some (.box c2)] rfl (fbox rfl h1 (fbox rfl h2 rfl))), hK⟩
theorem gq_k3 (h1 : c1.all isC = true) (h2 : c2.all isC = true) (h3 : c3.all isC = true) (hK : K ⟨fun t => renD [0, 1, 2, 3, 4, 5, 6, 7, 12, 9, 10, 11] (A t), M σ [some (.box c1), some (.box c2), some (.box c3)]⟩) : Gq E 0 [] K ⟨A, MT σ 12 σ.told [some (.box c1), some (.box c2), some (.box c3), some (.arr 1 (encI σ.told))]⟩ :=
  ⟨_, Gst.cmp (L := [0, 1, 2, 3, 4, 5, 6, 7, 12, 9, 10, 11]) rfl rfl (foot_app2 [0, 1, 2, 3, 4, 5, 6, 7, 12] [9, 10, 11] (M σ []) [some (.box c1), some (.box c2), some (.box c3)] rfl (fbox rfl h1 (fbox rfl h2 (fbox rfl h3 rfl)))), hK⟩
theorem gq_frz {s s' : St} (id : Nat) (h : frz id s = some s') (hK : K s') : Gq E kk mv K s := ⟨s', Gst.frz h, hK⟩
theorem gq_st2 {x0 x1 : Option Ob} (hK : K ⟨fun t => renD [2, 3, 4, 5, 6, 7, 8, 9, 10] (A t), M σ []⟩) : Gq E 0 [] K ⟨A, x0 :: x1 :: Msh 2 σ⟩ := ⟨_, Gst.cmp (L := [2, 3, 4, 5, 6, 7, 8, 9, 10]) rfl rfl rfl, hK⟩
theorem gq_st4 {x0 x1 x2 x3 : Option Ob} (hK : K ⟨fun t => renD [4, 5, 6, 7, 8, 9, 10, 11, 12] (A t), M σ []⟩) : Gq E 0 [] K ⟨A, x0 :: x1 :: x2 :: x3 :: Msh 4 σ⟩ := ⟨_, Gst.cmp (L := [4, 5, 6, 7, 8, 9, 10, 11, 12]) rfl rfl rfl, hK⟩
end
@[simp] theorem rs2 : renD [2, 3, 4, 5, 6, 7, 8, 9, 10] (.ptr 2 0 0) = .ptr 0 0 0 := rfl
@[simp] theorem rs4 : renD [4, 5, 6, 7, 8, 9, 10, 11, 12] (.ptr 4 0 0) = .ptr 0 0 0 := rfl
@[simp] theorem rk20 : renD [0, 1, 2, 3, 4, 5, 6, 7, 11, 9, 10] (.ptr 0 0 0) = .ptr 0 0 0 := rfl
@[simp] theorem rk29 : renD [0, 1, 2, 3, 4, 5, 6, 7, 11, 9, 10] (.ptr 9 0 0) = .ptr 9 0 0 := rfl
@[simp] theorem rk210 : renD [0, 1, 2, 3, 4, 5, 6, 7, 11, 9, 10] (.ptr 10 0 0) = .ptr 10 0 0 := rfl
@[simp] theorem rk30 : renD [0, 1, 2, 3, 4, 5, 6, 7, 12, 9, 10, 11] (.ptr 0 0 0) = .ptr 0 0 0 := rfl
@[simp] theorem rk39 : renD [0, 1, 2, 3, 4, 5, 6, 7, 12, 9, 10, 11] (.ptr 9 0 0) = .ptr 9 0 0 := rfl
@[simp] theorem rk310 : renD [0, 1, 2, 3, 4, 5, 6, 7, 12, 9, 10, 11] (.ptr 10 0 0) = .ptr 10 0 0 := rfl
@[simp] theorem rk311 : renD [0, 1, 2, 3, 4, 5, 6, 7, 12, 9, 10, 11] (.ptr 11 0 0) = .ptr 11 0 0 := rfl
theorem MT_set10 {σ : Sg} {n : Nat} {l : List Int} {x0 x1 y : Option Ob} {e : Mem2} : (MT σ n l (x0 :: x1 :: e)).set 10 y = MT σ n l (x0 :: y :: e) := rfl
theorem MT_set11 {σ : Sg} {n : Nat} {l : List Int} {x0 x1 x2 y : Option Ob} {e : Mem2} : (MT σ n l (x0 :: x1 :: x2 :: e)).set 11 y = MT σ n l (x0 :: x1 :: y :: e) := rfl
theorem st_MT10 {σ : Sg} {n : Nat} {l : List Int} {x0 : Option Ob} {cs xs : List V} {e : Mem2} (h : cs.length = 6) (hx : xs.length = 6) : aStore tab (MT σ n l (x0 :: some (.box cs) :: e)) 41 (.ptr 10 0 0) (.agg xs) = some (MT σ n l (x0 :: some (.box xs) :: e)) := stAll lk41 rfl hx rfl h
theorem st_MT11 {σ : Sg} {n : Nat} {l : List Int} {x0 x1 : Option Ob} {cs xs : List V} {e : Mem2} (h : cs.length = 6) (hx : xs.length = 6) : aStore tab (MT σ n l (x0 :: x1 :: some (.box cs) :: e)) 41 (.ptr 11 0 0) (.agg xs) = some (MT σ n l (x0 :: x1 :: some (.box xs) :: e)) := stAll lk41 rfl hx rfl h
theorem eqEv {a b c d e f a' b' c' d' e' f' : Int} : eqB tab 41 (.agg [nI a, nI b, nU c, nI d, nI e, nI f]) (.agg [nI a', nI b', nU c', nI d', nI e', nI f']) = some (a == a' && (b == b' && (c == c' && (d == d' && (e == e' && (f == f' && true)))))) := rfl
theorem be_02 {a b : Int} : pBuild tab 41 [(2, nU a)] = some (.agg [nI 0, nI 0, nU a, nI 0, nI 0, nI 0]) := rfl
theorem be_124 {a b c : Int} : pBuild tab 41 [(1, nI a), (2, nU b), (4, nI c)] = some (.agg [nI 0, nI a, nU b, nI 0, nI c, nI 0]) := rfl
theorem bins0 {a : Int} : pBuild tab 54 [(0, nU a)] = some (.agg [nU a, nI 0, nI 0, nI 0]) := rfl
theorem bins01 {a b : Int} : pBuild tab 54 [(0, nU a), (1, nI b)] = some (.agg [nU a, nI b, nI 0, nI 0]) := rfl
theorem bins02 {a b : Int} : pBuild tab 54 [(0, nU a), (2, nI b)] = some (.agg [nU a, nI 0, nI b, nI 0]) := rfl
theorem bprg6 {x : List (List C)} : pBuild tab 26 [(6, .c (.ls x))] = some (.agg [nI 0, nI 0, nI 0, .nl, nI 0, nI 0, .c (.ls x)]) := rfl
theorem bprg26 {a : Int} {x : List (List C)} : pBuild tab 26 [(2, nI a), (6, .c (.ls x))] = some (.agg [nI 0, nI 0, nI a, .nl, nI 0, nI 0, .c (.ls x)]) := rfl
theorem bprg56 {a : Int} {x : List (List C)} : pBuild tab 26 [(5, nI a), (6, .c (.ls x))] = some (.agg [nI 0, nI 0, nI 0, .nl, nI 0, nI a, .c (.ls x)]) := rfl
theorem bprg0 : pBuild tab 26 [] = some (.agg [nI 0, nI 0, nI 0, .nl, nI 0, nI 0, .nl]) := rfl
theorem eqpn {id k off : Nat} : eqB tab 61 (.ptr id k off) (.c (.sc (.pointer none))) = some false := rfl
theorem eqnn : eqB tab 61 (.c (.sc (.pointer none))) (.c (.sc (.pointer none))) = some true := rfl
end Go.Proofs.YtogfcpaalcebdaaE
