/- All states that StateLocks' program may come to. -/
import Derived.Test.YtjfgnpnlabklpaaCELocks
namespace Go.Proofs.YtjfgnpnlabklpaaE
open Go Go.RowKit
set_option linter.unusedVariables false
set_option linter.unusedSimpArgs false
set_option maxRecDepth 1000000
def mkL (x : Int × Int × Int × Bool × Bool × Int) : Sg := ⟨lp, [⟨true, x.1, [0, 0, 0, 0]⟩, ⟨x.2.2.2.1, x.2.1, [0, 0, 0, 0]⟩, ⟨x.2.2.2.2.1, x.2.2.1, [0, 0, 0, 0]⟩], [], [], [x.2.2.2.2.2], [], [], [], [], false⟩
def LLk : List (Int × Int × Int × Bool × Bool × Int) := [(0, 0, 0, false, false, 0), (1, 0, 0, true, false, 0), (2, 0, 0, true, true, 0), (1, 1, 0, true, false, -1), (2, 1, 0, true, true, -1), (1, 2, 0, true, false, 0), (2, 2, 0, true, true, 0), (1, 3, 0, true, false, 1), (2, 3, 0, true, true, 1), (1, 4, 0, true, false, 0), (2, 4, 0, true, true, 0), (3, 4, 0, true, true, 1), (2, 4, 1, true, true, -1), (2, 0, 1, true, true, -1), (2, 4, 2, true, true, 0), (3, 4, 2, true, true, 1), (2, 0, 2, true, true, 0), (2, 4, 3, true, true, 1), (3, 4, 3, true, true, 2), (2, 0, 3, true, true, 1), (2, 4, 4, true, true, 0), (3, 4, 4, true, true, 1), (2, 0, 4, true, true, 0), (3, 0, 4, true, true, 1), (2, 1, 4, true, true, -1), (2, 2, 4, true, true, 0), (3, 2, 4, true, true, 1), (2, 3, 4, true, true, 1), (3, 3, 4, true, true, 2), (4, 3, 4, true, true, 1), (3, 3, 0, true, true, 2), (4, 3, 0, true, true, 1), (4, 4, 0, true, true, 0), (5, 4, 0, true, true, -1), (4, 0, 0, true, true, 0), (4, 4, 1, true, true, -1), (4, 0, 1, true, true, -1), (4, 4, 2, true, true, 0), (5, 4, 2, true, true, -1), (4, 0, 2, true, true, 0), (4, 4, 3, true, true, 1), (4, 0, 3, true, true, 1), (4, 4, 4, true, true, 0), (5, 4, 4, true, true, -1), (4, 0, 4, true, true, 0), (5, 0, 4, true, true, -1), (4, 1, 4, true, true, -1), (4, 2, 4, true, true, 0), (4, 1, 0, true, true, -1), (4, 2, 0, true, true, 0), (5, 2, 0, true, true, -1), (4, 2, 1, true, true, -1), (4, 2, 2, true, true, 0), (5, 2, 2, true, true, -1), (4, 3, 2, true, true, 1), (4, 2, 3, true, true, 1), (4, 3, 3, true, true, 2), (6, 2, 2, true, true, 0), (2, 2, 2, true, true, 0), (6, 3, 2, true, true, 1), (6, 2, 3, true, true, 1), (2, 2, 3, true, true, 1), (6, 3, 3, true, true, 2), (6, 2, 4, true, true, 0), (6, 3, 4, true, true, 1), (6, 2, 0, true, true, 0), (6, 3, 0, true, true, 1), (6, 2, 1, true, true, -1), (2, 2, 1, true, true, -1), (6, 4, 0, true, true, 0), (6, 0, 0, true, true, 0), (6, 4, 1, true, true, -1), (6, 0, 1, true, true, -1), (6, 4, 2, true, true, 0), (6, 0, 2, true, true, 0), (6, 4, 3, true, true, 1), (6, 0, 3, true, true, 1), (6, 4, 4, true, true, 0), (6, 0, 4, true, true, 0), (6, 1, 4, true, true, -1), (6, 1, 0, true, true, -1), (6, 1, 2, true, true, -1), (2, 1, 2, true, true, -1), (2, 3, 3, true, true, 2), (3, 3, 3, true, true, 3), (3, 2, 3, true, true, 2), (2, 3, 2, true, true, 1), (3, 3, 2, true, true, 2), (3, 2, 2, true, true, 1), (5, 2, 4, true, true, -1), (5, 0, 0, true, true, -1), (5, 0, 2, true, true, -1), (4, 1, 2, true, true, -1), (3, 2, 0, true, true, 1), (3, 0, 0, true, true, 1), (3, 0, 3, true, true, 2), (3, 0, 2, true, true, 1)]
def eqS (a b : Sg) : Bool := decide (a.th = b.th) && (decide (a.locks = b.locks) && (decide (a.vars = b.vars) && (decide (a.atoms = b.atoms) && (decide (a.ch = b.ch) && (decide (a.groups = b.groups) && (decide (a.onces = b.onces) && (decide (a.told = b.told) && (decide (a.trapped = b.trapped) && decide (a.p = b.p)))))))))
theorem eqS_eq {a b : Sg} (h : eqS a b = true) : a = b := by
  unfold eqS at h
  simp only [Bool.and_eq_true, decide_eq_true_eq] at h
  obtain ⟨h1, h2, h3, h4, h5, h6, h7, h8, h9, h10⟩ := h
  cases a; cases b
  simp_all
def inL (s : Sg) : Bool := LLk.any fun x => eqS s (mkL x)
theorem inL_mem {s : Sg} (h : inL s = true) : ∃ x ∈ LLk, s = mkL x := by
  unfold inL at h
  obtain ⟨x, hx, h⟩ := List.any_eq_true.1 h
  exact ⟨x, hx, eqS_eq h⟩
def okL (x : Int × Int × Int × Bool × Bool × Int) : Bool :=
  ([0, 1, 2, 3] : List Int).all (fun k => inL (nextF (mkL x) k 0).1 && (decide ((insAt (mkL x) k).op ≠ 20) && (decide ((insAt (mkL x) k).op ≠ 21) && decide ((insAt (mkL x) k).op ≠ 22)))) &&
    (decide (aloneF (mkL x) 3 ≤ 1) && (decide (aloneF (mkL x) 3 = 1 → readsF (mkL x) 3 ≤ 0) && (decide (statF (mkL x) = 0) && (decide (0 ≤ x.1 ∧ x.1 ≤ 7) && (decide (0 ≤ x.2.1 ∧ x.2.1 ≤ 5) && decide (0 ≤ x.2.2.1 ∧ x.2.2.1 ≤ 5))))))
theorem all_okL : LLk.all okL = true := by decide +kernel
theorem init_L : inL (initS lp) = true := by decide +kernel
theorem l_fit : ∀ c ∈ lp.code, ∀ i ∈ c, ((i.op = 13 ∨ i.op = 14 ∨ i.op = 15 ∨ i.op = 16) → 0 ≤ i.a ∧ i.a < 1) ∧ (i.op = 12 → 0 ≤ i.a ∧ i.a < 3) ∧ (i.op = 10 → 0 ≤ i.a ∧ i.a ≤ 5) ∧ (i.op = 10 ∨ i.op = 12 ∨ i.op = 13 ∨ i.op = 14 ∨ i.op = 15 ∨ i.op = 16) ∧ 5 ≤ (c.length : Int) := by decide
theorem mkL_wf {x : Int × Int × Int × Bool × Bool × Int} (h0 : 0 ≤ x.1 ∧ x.1 ≤ 7) (h1 : 0 ≤ x.2.1 ∧ x.2.1 ≤ 5) (h2 : 0 ≤ x.2.2.1 ∧ x.2.2.1 ≤ 5) : WF (mkL x) := by
  refine ⟨rfl, rfl, fun k t c e1 e2 => ?_, fun k t e1 => ?_, fun c hc i hi => ?_, fun c hc i hi => ?_, fun c hc i hi => ?_⟩
  · match k, e1, e2 with
    | 0, e1, e2 => cases e1; cases e2; exact h0
    | 1, e1, e2 => cases e1; cases e2; exact h1
    | 2, e1, e2 => cases e1; cases e2; exact h2
  · match k, e1 with
    | 0, e1 => cases e1; rfl
    | 1, e1 => cases e1; rfl
    | 2, e1 => cases e1; rfl
  · obtain ⟨a1, a2, a3, a4, a5⟩ := l_fit c hc i hi
    exact ⟨fun h => a1 h, fun h => by omega, fun h => by omega, fun h => by omega, fun h => by omega, fun h => by omega⟩
  · obtain ⟨a1, a2, a3, a4, a5⟩ := l_fit c hc i hi
    exact ⟨fun h => by omega, fun h => by omega, fun h => by omega, fun h => by omega, fun h => a2 h⟩
  · obtain ⟨a1, a2, a3, a4, a5⟩ := l_fit c hc i hi
    exact ⟨fun h => by omega, fun h => by omega, fun h => by omega, fun h => by have := a3 h; omega, fun h => by omega⟩
def RL (s : Sg) : Prop := ∃ x ∈ LLk, s = mkL x
theorem RL_ok {s : Sg} (h : RL s) : ∃ x, s = mkL x ∧ okL x = true := by
  obtain ⟨x, hx, rfl⟩ := h
  exact ⟨x, rfl, List.all_eq_true.1 all_okL x hx⟩
theorem nextF_ver {σ : Sg} {k : Int} {ver : Nat} (h : (insAt σ k).op ≠ 20 ∧ (insAt σ k).op ≠ 21 ∧ (insAt σ k).op ≠ 22) : nextF σ k ver = nextF σ k 0 := by
  unfold nextF
  rw [goF_ver h]
theorem locks_all (c : List Int) (hc : ∀ x ∈ c, 0 ≤ x ∧ x < 256) : Meets 3 [.c (.ls (encU c))] [] (pt (nB true) [] []) := by
  refine locks_m SX_good c hc RL (inL_mem init_L) (fun σ h => ?_) (fun σ h => ?_) (fun σ k ver h hk => ?_) (fun σ h => ?_)
  · obtain ⟨x, rfl, hx⟩ := RL_ok h
    unfold okL at hx
    simp only [Bool.and_eq_true, decide_eq_true_eq] at hx
    exact mkL_wf hx.2.2.2.2.1 hx.2.2.2.2.2.1 hx.2.2.2.2.2.2
  · obtain ⟨x, rfl, hx⟩ := RL_ok h
    exact ⟨Nat.lt_of_le_of_lt (Nat.le_refl 0) (by decide), (fun c hc => (by cases hc)), rfl⟩
  · obtain ⟨x, rfl, hx⟩ := RL_ok h
    unfold okL at hx
    simp only [Bool.and_eq_true] at hx
    have hm : k ∈ ([0, 1, 2, 3] : List Int) := by
      have : k = 0 ∨ k = 1 ∨ k = 2 ∨ k = 3 := by omega
      simpa using this
    have h1 := List.all_eq_true.1 hx.1 k hm
    simp only [Bool.and_eq_true, decide_eq_true_eq] at h1
    rw [nextF_ver h1.2]
    exact inL_mem h1.1
  · obtain ⟨x, rfl, hx⟩ := RL_ok h
    unfold okL at hx
    simp only [Bool.and_eq_true, decide_eq_true_eq] at hx
    exact ⟨hx.2.1, hx.2.2.1, hx.2.2.2.1⟩
end Go.Proofs.YtjfgnpnlabklpaaE
