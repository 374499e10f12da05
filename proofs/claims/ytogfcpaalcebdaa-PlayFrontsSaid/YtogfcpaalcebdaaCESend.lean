/- The state's small functions, walked. -/
import Derived.Test.YtogfcpaalcebdaaCEProj
namespace Go.Proofs.YtogfcpaalcebdaaE
open Go Go.RowKit
set_option linter.unusedVariables false
set_option linter.unusedSimpArgs false
set_option maxRecDepth 1000000
theorem sign_m  {S : Spec} (hG : Good S) (b : Bool) : Meets 59 [nB b] ([]) (pt (nI (if b then 1 else 0)) ([]) ([])) := by
  refine meets hG Try.func59 rfl rfl ?_
  show Awp (env _ _) _ _ ((Try.f59).body.getD .skip) _ _
  unfold Try.f59
  dsimp only [Option.getD_some]
  unfold start
  generalize hQ : endA _ _ _ _ _ = Q
  repeat' (first
    | refine Awp_sq fun K hK => ?_
    | (refine Awp_reg rfl fun K hK => ?_; simp [*])
    | (refine Awp_regD [] rfl rfl fun K hK => ?_; simp [*])
    | (refine WG_br (fun h => ?_) (fun h => ?_) <;> (have h' := h; try simp at h'; simp [*]))
    | (refine RG_br (fun h => ?_) (fun h => ?_) <;> (have h' := h; try simp at h'; simp [*]))
    | refine And.intro (by omega) ?_
    | (refine wl_box rfl ?_; simp [*])
    | (refine wl_alloc rfl ?_; simp [*])
    | (refine wr_box rfl ?_; simp [*])
    | (refine wr_alloc rfl ?_; simp [*])
    | (refine wl_store ?_; simp [*])
    | (refine wr_store ?_; simp [*])
    | (show Wl _ _ _ _ _ _; simp [*])
    | (show Wr _ _ _ _ _ _ _; simp [*])
    | refine kont (by assumption) ?_
    | with_reducible refine thenA_n ?_
    | with_reducible refine thenA_r ?_
    | with_reducible refine thenA_e ?_
    | with_reducible refine blockA_n ?_
    | with_reducible refine blockA_r ?_
    | with_reducible refine blockA_e ?_
    | with_reducible refine blockA_o rfl ?_
    | refine Awp_ifT rfl ?_
    | refine Awp_ifF rfl ?_
    | (refine Awp_if rfl (fun h => ?_) (fun h => ?_) <;> ((have h' := h; try simp at h') <;> try (have h2 := h; simp only [decide_eq_false_iff_not] at h2)))
    | with_reducible refine Awp_ret ?_
    | with_reducible refine Awp_skip ?_
    | with_reducible refine Awp_exit ?_
    | with_reducible refine Awp_block ?_)
  all_goals (subst hQ; first | refine endA_r9 rfl rfl ⟨?_, ?_⟩ | refine endA_n9 rfl rfl ⟨?_, ?_⟩ | refine endA_r rfl ⟨?_, ?_⟩ | refine endA_n rfl ⟨?_, ?_⟩)
  all_goals (simp [*])

theorem there_m  {S : Spec} (hG : Good S) (σ : Sg) (k : Int) : Meets 33 [.ptr 0 0 0, nI k] (M σ []) (pt (nB (decide (0 ≤ k ∧ k < (σ.th.length : Int)))) (M σ []) ([])) := by
  refine meets hG Try.func33 rfl rfl ?_
  show Awp (env _ _) _ _ ((Try.f33).body.getD .skip) _ _
  unfold Try.f33
  dsimp only [Option.getD_some]
  unfold start
  generalize hQ : endA _ _ _ _ _ = Q
  repeat' (first
    | refine Awp_sq fun K hK => ?_
    | (refine Awp_reg rfl fun K hK => ?_; simp [*])
    | (refine Awp_regD [] rfl rfl fun K hK => ?_; simp [*])
    | (refine WG_br (fun h => ?_) (fun h => ?_) <;> (have h' := h; try simp at h'; simp [*]))
    | (refine RG_br (fun h => ?_) (fun h => ?_) <;> (have h' := h; try simp at h'; simp [*]))
    | refine And.intro (by omega) ?_
    | (refine wl_box rfl ?_; simp [*])
    | (refine wl_alloc rfl ?_; simp [*])
    | (refine wr_box rfl ?_; simp [*])
    | (refine wr_alloc rfl ?_; simp [*])
    | (refine wl_store ?_; simp [*])
    | (refine wr_store ?_; simp [*])
    | (show Wl _ _ _ _ _ _; simp [*])
    | (show Wr _ _ _ _ _ _ _; simp [*])
    | refine kont (by assumption) ?_
    | with_reducible refine thenA_n ?_
    | with_reducible refine thenA_r ?_
    | with_reducible refine thenA_e ?_
    | with_reducible refine blockA_n ?_
    | with_reducible refine blockA_r ?_
    | with_reducible refine blockA_e ?_
    | with_reducible refine blockA_o rfl ?_
    | refine Awp_ifT rfl ?_
    | refine Awp_ifF rfl ?_
    | (refine Awp_if rfl (fun h => ?_) (fun h => ?_) <;> ((have h' := h; try simp at h') <;> try (have h2 := h; simp only [decide_eq_false_iff_not] at h2)))
    | with_reducible refine Awp_ret ?_
    | with_reducible refine Awp_skip ?_
    | with_reducible refine Awp_exit ?_
    | with_reducible refine Awp_block ?_)
  all_goals (subst hQ; first | refine endA_r9 rfl rfl ⟨?_, ?_⟩ | refine endA_n9 rfl rfl ⟨?_, ?_⟩ | refine endA_r rfl ⟨?_, ?_⟩ | refine endA_n rfl ⟨?_, ?_⟩)
  all_goals (simp [*] <;> omega)

theorem ended_m  {S : Spec} (hG : Good S) (σ : Sg) (k : Int) (t : Th) (c : List Ins) (h0 : 0 ≤ k) (h1 : σ.th[k.toNat]? = some t) (h2 : σ.p.code[k.toNat]? = some c) (hk : k < (σ.th.length : Int)) : Meets 34 [.ptr 0 0 0, nI k] (M σ []) (pt (nB (decide ((c.length : Int) ≤ t.at_))) (M σ []) ([])) := by
  refine meets hG Try.func34 rfl rfl ?_
  show Awp (env _ _) _ _ ((Try.f34).body.getD .skip) _ _
  unfold Try.f34
  dsimp only [Option.getD_some]
  unfold start
  generalize hQ : endA _ _ _ _ _ = Q
  repeat' (first
    | refine Awp_sq fun K hK => ?_
    | (refine Awp_reg rfl fun K hK => ?_; simp [*])
    | (refine Awp_regD [] rfl rfl fun K hK => ?_; simp [*])
    | (refine WG_br (fun h => ?_) (fun h => ?_) <;> (have h' := h; try simp at h'; simp [*]))
    | (refine RG_br (fun h => ?_) (fun h => ?_) <;> (have h' := h; try simp at h'; simp [*]))
    | refine And.intro (by omega) ?_
    | (refine wl_box rfl ?_; simp [*])
    | (refine wl_alloc rfl ?_; simp [*])
    | (refine wr_box rfl ?_; simp [*])
    | (refine wr_alloc rfl ?_; simp [*])
    | (refine wl_store ?_; simp [*])
    | (refine wr_store ?_; simp [*])
    | (show Wl _ _ _ _ _ _; simp [*])
    | (show Wr _ _ _ _ _ _ _; simp [*])
    | refine kont (by assumption) ?_
    | with_reducible refine thenA_n ?_
    | with_reducible refine thenA_r ?_
    | with_reducible refine thenA_e ?_
    | with_reducible refine blockA_n ?_
    | with_reducible refine blockA_r ?_
    | with_reducible refine blockA_e ?_
    | with_reducible refine blockA_o rfl ?_
    | refine Awp_ifT rfl ?_
    | refine Awp_ifF rfl ?_
    | (refine Awp_if rfl (fun h => ?_) (fun h => ?_) <;> ((have h' := h; try simp at h') <;> try (have h2 := h; simp only [decide_eq_false_iff_not] at h2)))
    | with_reducible refine Awp_ret ?_
    | with_reducible refine Awp_skip ?_
    | with_reducible refine Awp_exit ?_
    | with_reducible refine Awp_block ?_)
  all_goals (subst hQ; first | refine endA_r9 rfl rfl ⟨?_, ?_⟩ | refine endA_n9 rfl rfl ⟨?_, ?_⟩ | refine endA_r rfl ⟨?_, ?_⟩ | refine endA_n rfl ⟨?_, ?_⟩)
  all_goals (simp [*])

theorem reg_m  {S : Spec} (hG : Good S) (σ : Sg) (k : Nat) (t : Th) (r : Int) (h1 : σ.th[k]? = some t) (x : Int) (hr : 0 ≤ r → r < 4 → t.regs[r.toNat]? = some x) : Meets 58 [.ptr 1 k 0, nI r] (M σ []) (pt (nI (if 0 ≤ r ∧ r < 4 then x else 0)) (M σ []) ([])) := by
  refine meets hG Try.func58 rfl rfl ?_
  show Awp (env _ _) _ _ ((Try.f58).body.getD .skip) _ _
  unfold Try.f58
  dsimp only [Option.getD_some]
  unfold start
  generalize hQ : endA _ _ _ _ _ = Q
  repeat' (first
    | refine Awp_sq fun K hK => ?_
    | (refine Awp_reg rfl fun K hK => ?_; simp [*])
    | (refine Awp_regD [] rfl rfl fun K hK => ?_; simp [*])
    | (refine WG_br (fun h => ?_) (fun h => ?_) <;> (have h' := h; try simp at h'; simp [*]))
    | (refine RG_br (fun h => ?_) (fun h => ?_) <;> (have h' := h; try simp at h'; simp [*]))
    | refine And.intro (by omega) ?_
    | (refine wl_box rfl ?_; simp [*])
    | (refine wl_alloc rfl ?_; simp [*])
    | (refine wr_box rfl ?_; simp [*])
    | (refine wr_alloc rfl ?_; simp [*])
    | (refine wl_store ?_; simp [*])
    | (refine wr_store ?_; simp [*])
    | (show Wl _ _ _ _ _ _; simp [*])
    | (show Wr _ _ _ _ _ _ _; simp [*])
    | refine kont (by assumption) ?_
    | with_reducible refine thenA_n ?_
    | with_reducible refine thenA_r ?_
    | with_reducible refine thenA_e ?_
    | with_reducible refine blockA_n ?_
    | with_reducible refine blockA_r ?_
    | with_reducible refine blockA_e ?_
    | with_reducible refine blockA_o rfl ?_
    | refine Awp_ifT rfl ?_
    | refine Awp_ifF rfl ?_
    | (refine Awp_if rfl (fun h => ?_) (fun h => ?_) <;> ((have h' := h; try simp at h') <;> try (have h2 := h; simp only [decide_eq_false_iff_not] at h2)))
    | with_reducible refine Awp_ret ?_
    | with_reducible refine Awp_skip ?_
    | with_reducible refine Awp_exit ?_
    | with_reducible refine Awp_block ?_)
  all_goals (subst hQ; first | refine endA_r9 rfl rfl ⟨?_, ?_⟩ | refine endA_n9 rfl rfl ⟨?_, ?_⟩ | refine endA_r rfl ⟨?_, ?_⟩ | refine endA_n rfl ⟨?_, ?_⟩)
  all_goals (simp [*] <;> omega)

end Go.Proofs.YtogfcpaalcebdaaE
/- The state's functions, walked. -/
namespace Go.Proofs.YtogfcpaalcebdaaE
open Go Go.RowKit
set_option linter.unusedVariables false
set_option linter.unusedSimpArgs false
set_option maxRecDepth 1000000
set_option maxHeartbeats 8000000
theorem blocked_m  {S : Spec} (hG : Good S) (σ : Sg) (i : Ins) (hF : Fit σ i) : Meets 35 [.ptr 0 0 0, .agg [nU i.op, nI i.a, nI i.b, nI i.c]] (M σ []) (pt (nB (blk σ i)) (M σ []) ([])) := by
  refine meets hG Try.func35 rfl rfl ?_
  show Awp (env _ _) _ _ ((Try.f35).body.getD .skip) _ _
  unfold Try.f35
  dsimp only [Option.getD_some]
  unfold start
  generalize hQ : endA _ _ _ _ _ = Q
  have f1 : i.op = 13 ∨ i.op = 15 → 0 ≤ i.a ∧ i.a < (σ.locks.length : Int) ∧ σ.locks[i.a.toNat]? = some (at0 σ.locks i.a) := fun h => by
    have := hF.l (by omega)
    exact ⟨this.1, this.2, at0_get this⟩
  have f2 : i.op = 20 → 0 ≤ i.a ∧ i.a < (σ.ch.length : Int) ∧ σ.ch[i.a.toNat]? = some (chAt σ.ch i.a) ∧ σ.p.chans[i.a.toNat]? = some (at0 σ.p.chans i.a) := fun h => by
    have := hF.s (by omega)
    exact ⟨this.1.1, this.1.2, chAt_get this.1, at0_get this.2⟩
  have f3 : i.op = 21 → 0 ≤ i.b ∧ i.b < (σ.ch.length : Int) ∧ σ.ch[i.b.toNat]? = some (chAt σ.ch i.b) := fun h => by
    have := hF.r (by omega)
    exact ⟨this.1, this.2, chAt_get this⟩
  have f4 : i.op = 25 → 0 ≤ i.a ∧ i.a < (σ.groups.length : Int) ∧ σ.groups[i.a.toNat]? = some (at0 σ.groups i.a) := fun h => by
    have := hF.g (by omega)
    exact ⟨this.1, this.2, at0_get this⟩
  have f5 : i.op = 26 → 0 ≤ i.b ∧ i.b < (σ.onces.length : Int) ∧ σ.onces[i.b.toNat]? = some (at0 σ.onces i.b) := fun h => by
    have := hF.o h
    exact ⟨this.1, this.2, at0_get this⟩
  repeat' (first
    | refine Awp_sq fun K hK => ?_
    | (refine Awp_reg rfl fun K hK => ?_; simp [*])
    | (refine Awp_regD [] rfl rfl fun K hK => ?_; simp [*])
    | (refine WG_br (fun h => ?_) (fun h => ?_) <;> (have h' := h; try simp at h'; simp [*]))
    | (refine RG_br (fun h => ?_) (fun h => ?_) <;> (have h' := h; try simp at h'; simp [*]))
    | refine And.intro (by omega) ?_
    | (refine wl_box rfl ?_; simp [*])
    | (refine wl_alloc rfl ?_; simp [*])
    | (refine wr_box rfl ?_; simp [*])
    | (refine wr_alloc rfl ?_; simp [*])
    | (refine wl_store ?_; simp [*])
    | (refine wr_store ?_; simp [*])
    | (show Wl _ _ _ _ _ _; simp [*])
    | (show Wr _ _ _ _ _ _ _; simp [*])
    | refine kont (by assumption) ?_
    | with_reducible refine thenA_n ?_
    | with_reducible refine thenA_r ?_
    | with_reducible refine thenA_e ?_
    | with_reducible refine blockA_n ?_
    | with_reducible refine blockA_r ?_
    | with_reducible refine blockA_e ?_
    | with_reducible refine blockA_o rfl ?_
    | refine Awp_ifT rfl ?_
    | refine Awp_ifF rfl ?_
    | (refine Awp_if rfl (fun h => ?_) (fun h => ?_) <;> ((have h' := h; try simp at h') <;> try (have h2 := h; simp only [decide_eq_false_iff_not] at h2)))
    | with_reducible refine Awp_ret ?_
    | with_reducible refine Awp_skip ?_
    | with_reducible refine Awp_exit ?_
    | with_reducible refine Awp_block ?_)
  all_goals (subst hQ; first | refine endA_r9 rfl rfl ⟨?_, ?_⟩ | refine endA_n9 rfl rfl ⟨?_, ?_⟩ | refine endA_r rfl ⟨?_, ?_⟩ | refine endA_n rfl ⟨?_, ?_⟩)
  all_goals (simp [*, blk])

theorem ended_m2 {S : Spec} (hG : Good S) (σ : Sg) (k : Int) (hW : WF σ) (hk : inR k σ.th.length) : Meets 34 [.ptr 0 0 0, nI k] (M σ []) (pt (nB (endd σ k)) (M σ []) []) := ended_m hG σ k _ _ hk.1 (thAt_get hk) (codeAt_get (hW.code hk)) hk.2
inductive SA : Spec
  | sign (b : Bool) : SA 59 [nB b] [] (pt (nI (if b then 1 else 0)) [] [])
  | there (σ : Sg) (k : Int) : SA 33 [.ptr 0 0 0, nI k] (M σ []) (pt (nB (decide (0 ≤ k ∧ k < (σ.th.length : Int)))) (M σ []) [])
  | ended (σ : Sg) (k : Int) (hW : WF σ) (hk : inR k σ.th.length) : SA 34 [.ptr 0 0 0, nI k] (M σ []) (pt (nB (endd σ k)) (M σ []) [])
  | reg (σ : Sg) (k : Nat) (t : Th) (r : Int) (h1 : σ.th[k]? = some t) (hr : t.regs.length = 4) : SA 58 [.ptr 1 k 0, nI r] (M σ []) (pt (nI (if 0 ≤ r ∧ r < 4 then at0 t.regs r else 0)) (M σ []) [])
  | blocked (σ : Sg) (i : Ins) (hF : Fit σ i) : SA 35 [.ptr 0 0 0, .agg [nU i.op, nI i.a, nI i.b, nI i.c]] (M σ []) (pt (nB (blk σ i)) (M σ []) [])
theorem Good.none : Good (fun _ _ _ _ => False) := ⟨fun _ _ _ _ h => h.elim, fun _ _ _ _ h => h.elim⟩
theorem SA_good : Good SA := by
  refine ⟨fun f a m P h => ?_, fun f a m P h => ?_⟩
  · cases h with
    | sign b => exact sign_m Good.none b
    | there σ k => exact there_m Good.none σ k
    | ended σ k hW hk => exact ended_m2 Good.none σ k hW hk
    | reg σ k t r h1 hr => exact reg_m Good.none σ k t r h1 _ fun h2 h3 => at0_get ⟨h2, by rw [hr]; exact h3⟩
    | blocked σ i hF => exact blocked_m Good.none σ i hF
  · cases h with
    | sign b => exact ⟨_, Try.func59, rfl, rfl⟩
    | there σ k => exact ⟨_, Try.func33, rfl, rfl⟩
    | ended σ k hW hk => exact ⟨_, Try.func34, rfl, rfl⟩
    | reg σ k t r h1 hr => exact ⟨_, Try.func58, rfl, rfl⟩
    | blocked σ i hF => exact ⟨_, Try.func35, rfl, rfl⟩
end Go.Proofs.YtogfcpaalcebdaaE
/- More of the state's functions, walked. -/
namespace Go.Proofs.YtogfcpaalcebdaaE
open Go Go.RowKit
set_option linter.unusedVariables false
set_option linter.unusedSimpArgs false
set_option maxRecDepth 1000000
set_option maxHeartbeats 8000000
theorem can_m  (hG : Good SA) (σ : Sg) (k : Int) (hW : WF σ) : Meets 23 [.ptr 0 0 0, nI k] (M σ []) (pt (nB (can σ k)) (M σ []) ([])) := by
  refine meets hG Try.func23 rfl rfl ?_
  show Awp (env _ _) _ _ ((Try.f23).body.getD .skip) _ _
  unfold Try.f23
  dsimp only [Option.getD_some]
  unfold start
  generalize hQ : endA _ _ _ _ _ = Q
  by_cases hk : inR k σ.th.length
  case neg =>
    have hk1 : (decide (0 ≤ k) && decide (k < (σ.th.length : Int))) = false := by
      unfold inR at hk
      simp; omega
    have hk2 : ¬ (0 ≤ k ∧ k < (σ.th.length : Int)) := hk
    simp only [Bool.and_eq_false_iff, decide_eq_false_iff_not] at hk1
    repeat' (first
      | refine Awp_sq fun K hK => ?_
      | (refine Awp_reg rfl fun K hK => ?_; simp [*])
      | (refine Awp_regD [] rfl rfl fun K hK => ?_; simp [*])
      | (refine WG_br (fun h => ?_) (fun h => ?_) <;> (have h' := h; try simp at h'; simp [*]))
      | (refine RG_br (fun h => ?_) (fun h => ?_) <;> (have h' := h; try simp at h'; simp [*]))
      | (apply call_q; (constructor <;> assumption); rfl; rfl; simp; simp [*])
      | (apply call_s; (constructor <;> assumption); rfl; rfl; simp [*])
      | (apply call_p; (constructor <;> assumption); rfl; rfl; simp [*])
      | (apply call_pq; (constructor <;> assumption); rfl; rfl; simp [*])
      | refine And.intro (by omega) ?_
      | (refine wl_box rfl ?_; simp [*])
      | (refine wl_alloc rfl ?_; simp [*])
      | (refine wr_box rfl ?_; simp [*])
      | (refine wr_alloc rfl ?_; simp [*])
      | (refine wl_store ?_; simp [*])
      | (refine wr_store ?_; simp [*])
      | (show Wl _ _ _ _ _ _; simp [*])
      | (show Wr _ _ _ _ _ _ _; simp [*])
      | refine kont (by assumption) ?_
      | with_reducible refine thenA_n ?_
      | with_reducible refine thenA_r ?_
      | with_reducible refine thenA_e ?_
      | with_reducible refine blockA_n ?_
      | with_reducible refine blockA_r ?_
      | with_reducible refine blockA_e ?_
      | with_reducible refine blockA_o rfl ?_
      | refine Awp_ifT rfl ?_
      | refine Awp_ifF rfl ?_
      | (refine Awp_if rfl (fun h => ?_) (fun h => ?_) <;> ((have h' := h; try simp at h') <;> try (have h2 := h; simp only [decide_eq_false_iff_not] at h2)))
      | with_reducible refine Awp_ret ?_
      | with_reducible refine Awp_skip ?_
      | with_reducible refine Awp_exit ?_
      | with_reducible refine Awp_block ?_)
    all_goals (subst hQ; first | refine endA_r9 rfl rfl ⟨?_, ?_⟩ | refine endA_n9 rfl rfl ⟨?_, ?_⟩)
    all_goals (simp [*, can])

  have h0 := hk.1
  have h1 := hk.2
  have h2 := thAt_get hk
  have h3 := codeAt_get (hW.code hk)
  have h4 := (hW.at0 hk).1
  by_cases he : endd σ k = true
  case pos =>
    repeat' (first
      | refine Awp_sq fun K hK => ?_
      | (refine Awp_reg rfl fun K hK => ?_; simp [*])
      | (refine Awp_regD [] rfl rfl fun K hK => ?_; simp [*])
      | (refine WG_br (fun h => ?_) (fun h => ?_) <;> (have h' := h; try simp at h'; simp [*]))
      | (refine RG_br (fun h => ?_) (fun h => ?_) <;> (have h' := h; try simp at h'; simp [*]))
      | (apply call_q; (constructor <;> assumption); rfl; rfl; simp; simp [*])
      | (apply call_s; (constructor <;> assumption); rfl; rfl; simp [*])
      | (apply call_p; (constructor <;> assumption); rfl; rfl; simp [*])
      | (apply call_pq; (constructor <;> assumption); rfl; rfl; simp [*])
      | refine And.intro (by omega) ?_
      | (refine wl_box rfl ?_; simp [*])
      | (refine wl_alloc rfl ?_; simp [*])
      | (refine wr_box rfl ?_; simp [*])
      | (refine wr_alloc rfl ?_; simp [*])
      | (refine wl_store ?_; simp [*])
      | (refine wr_store ?_; simp [*])
      | (show Wl _ _ _ _ _ _; simp [*])
      | (show Wr _ _ _ _ _ _ _; simp [*])
      | refine kont (by assumption) ?_
      | with_reducible refine thenA_n ?_
      | with_reducible refine thenA_r ?_
      | with_reducible refine thenA_e ?_
      | with_reducible refine blockA_n ?_
      | with_reducible refine blockA_r ?_
      | with_reducible refine blockA_e ?_
      | with_reducible refine blockA_o rfl ?_
      | refine Awp_ifT rfl ?_
      | refine Awp_ifF rfl ?_
      | (refine Awp_if rfl (fun h => ?_) (fun h => ?_) <;> ((have h' := h; try simp at h') <;> try (have h2 := h; simp only [decide_eq_false_iff_not] at h2)))
      | with_reducible refine Awp_ret ?_
      | with_reducible refine Awp_skip ?_
      | with_reducible refine Awp_exit ?_
      | with_reducible refine Awp_block ?_)
    all_goals (subst hQ; first | refine endA_r9 rfl rfl ⟨?_, ?_⟩ | refine endA_n9 rfl rfl ⟨?_, ?_⟩)
    all_goals (simp [*, can])

  replace he : endd σ k = false := by simpa using he
  have h5 := (hW.ins hk he).1
  have h6 : Fit σ (insAt σ k) := hW.fit _ (hW.ins hk he).2.2 _ (hW.ins hk he).2.1
  repeat' (first
    | refine Awp_sq fun K hK => ?_
    | (refine Awp_reg rfl fun K hK => ?_; simp [*])
    | (refine Awp_regD [35] rfl rfl fun K hK => ?_; simp [*])
    | (refine WG_br (fun h => ?_) (fun h => ?_) <;> (have h' := h; try simp at h'; simp [*]))
    | (refine RG_br (fun h => ?_) (fun h => ?_) <;> (have h' := h; try simp at h'; simp [*]))
    | (apply call_q; (constructor <;> assumption); rfl; rfl; simp; simp [*])
    | (apply call_s; (constructor <;> assumption); rfl; rfl; simp [*])
    | (apply call_p; (constructor <;> assumption); rfl; rfl; simp [*])
    | (apply call_pq; (constructor <;> assumption); rfl; rfl; simp [*])
    | refine And.intro (by omega) ?_
    | (refine wl_box rfl ?_; simp [*])
    | (refine wl_alloc rfl ?_; simp [*])
    | (refine wr_box rfl ?_; simp [*])
    | (refine wr_alloc rfl ?_; simp [*])
    | (refine wl_store ?_; simp [*])
    | (refine wr_store ?_; simp [*])
    | (show Wl _ _ _ _ _ _; simp [*])
    | (show Wr _ _ _ _ _ _ _; simp [*])
    | refine kont (by assumption) ?_
    | with_reducible refine thenA_n ?_
    | with_reducible refine thenA_r ?_
    | with_reducible refine thenA_e ?_
    | with_reducible refine blockA_n ?_
    | with_reducible refine blockA_r ?_
    | with_reducible refine blockA_e ?_
    | with_reducible refine blockA_o rfl ?_
    | refine Awp_ifT rfl ?_
    | refine Awp_ifF rfl ?_
    | (refine Awp_if rfl (fun h => ?_) (fun h => ?_) <;> ((have h' := h; try simp at h') <;> try (have h2 := h; simp only [decide_eq_false_iff_not] at h2)))
    | with_reducible refine Awp_ret ?_
    | with_reducible refine Awp_skip ?_
    | with_reducible refine Awp_exit ?_
    | with_reducible refine Awp_block ?_)
  all_goals (subst hQ; first | refine endA_r9 rfl rfl ⟨?_, ?_⟩ | refine endA_n9 rfl rfl ⟨?_, ?_⟩ | refine endA_r rfl ⟨?_, ?_⟩ | refine endA_n rfl ⟨?_, ?_⟩)
  all_goals (simp [*, can])

end Go.Proofs.YtogfcpaalcebdaaE
/- A thread's own steps, walked. -/
namespace Go.Proofs.YtogfcpaalcebdaaE
open Go Go.RowKit
set_option linter.unusedVariables false
set_option linter.unusedSimpArgs false
set_option maxRecDepth 1000000
set_option maxHeartbeats 8000000
theorem own_none {σ : Sg} {k : Nat} {t : Th} (h : σ.th[k]? = some t) : setTh σ k t = σ := by
  obtain ⟨h1, h2⟩ := List.getElem?_eq_some_iff.1 h
  unfold setTh
  subst h2
  simp
def ownT (t : Th) (i : Ins) : Th := (ownF t i).getD t

theorem own_m  (hG : Good SA) (σ : Sg) (k : Nat) (t : Th) (i : Ins) (n : Int) (h1 : σ.th[k]? = some t) (hr : t.regs.length = 4) (hF : Reg4 n i) : Meets 43 [.ptr 1 k 0, .agg [nU i.op, nI i.a, nI i.b, nI i.c]] (M σ []) (pt (nB (ownF t i).isSome) (M (setTh σ k (ownT t i)) []) ([])) := by
  refine meets hG Try.func43 rfl rfl ?_
  show Awp (env _ _) _ _ ((Try.f43).body.getD .skip) _ _
  unfold Try.f43
  dsimp only [Option.getD_some]
  unfold start
  generalize hQ : endA _ _ _ _ _ = Q
  have f1 : (i.op = 1 ∨ i.op = 2 ∨ i.op = 3 ∨ i.op = 4 ∨ i.op = 5 ∨ i.op = 6 ∨ i.op = 11) → 0 ≤ i.a ∧ i.a < 4 ∧ i.a.toNat < 4 ∧ t.regs[i.a.toNat]? = some (at0 t.regs i.a) := fun h => by
    have := hF.a (by omega)
    exact ⟨this.1, this.2, by omega, at0_get ⟨this.1, by omega⟩⟩
  repeat' (first
    | refine Awp_sq fun K hK => ?_
    | (refine Awp_reg rfl fun K hK => ?_; simp [*])
    | (refine Awp_regD [58, 59] rfl rfl fun K hK => ?_; simp [*])
    | (refine WG_br (fun h => ?_) (fun h => ?_) <;> (have h' := h; try simp at h'; simp [*]))
    | (refine RG_br (fun h => ?_) (fun h => ?_) <;> (have h' := h; try simp at h'; simp [*]))
    | (apply call_q; (constructor <;> assumption); rfl; rfl; simp; simp [*])
    | (apply call_s; (constructor <;> assumption); rfl; rfl; simp [*])
    | (apply call_p; (constructor <;> assumption); rfl; rfl; simp [*])
    | (apply call_pq; (constructor <;> assumption); rfl; rfl; simp [*])
    | refine And.intro (by omega) ?_
    | (refine wl_box rfl ?_; simp [*])
    | (refine wl_alloc rfl ?_; simp [*])
    | (refine wr_box rfl ?_; simp [*])
    | (refine wr_alloc rfl ?_; simp [*])
    | (refine wl_store ?_; simp [*])
    | (refine wr_store ?_; simp [*])
    | (show Wl _ _ _ _ _ _; simp [*])
    | (show Wr _ _ _ _ _ _ _; simp [*])
    | refine kont (by assumption) ?_
    | with_reducible refine thenA_n ?_
    | with_reducible refine thenA_r ?_
    | with_reducible refine thenA_e ?_
    | with_reducible refine blockA_n ?_
    | with_reducible refine blockA_r ?_
    | with_reducible refine blockA_e ?_
    | with_reducible refine blockA_o rfl ?_
    | refine Awp_ifT rfl ?_
    | refine Awp_ifF rfl ?_
    | (refine Awp_if rfl (fun h => ?_) (fun h => ?_) <;> ((have h' := h; try simp at h') <;> try (have h2 := h; simp only [decide_eq_false_iff_not] at h2)))
    | with_reducible refine Awp_ret ?_
    | with_reducible refine Awp_skip ?_
    | with_reducible refine Awp_exit ?_
    | with_reducible refine Awp_block ?_)
  all_goals (subst hQ; first | refine endA_r9 rfl rfl ⟨?_, ?_⟩ | refine endA_n9 rfl rfl ⟨?_, ?_⟩ | refine endA_r rfl ⟨?_, ?_⟩ | refine endA_n rfl ⟨?_, ?_⟩)
  all_goals (simp [*, ownF, ownT, rg, own_none] <;> congr)

end Go.Proofs.YtogfcpaalcebdaaE
/- What a step takes from others. -/
namespace Go.Proofs.YtogfcpaalcebdaaE
open Go Go.RowKit
set_option linter.unusedVariables false
set_option linter.unusedSimpArgs false
theorem setTh_two (σ : Sg) (k : Nat) (t u : Th) : setTh (setTh σ k t) k u = setTh σ k u := by simp [setTh]
def setR (t : Th) (r x : Int) : Th := { t with regs := t.regs.set r.toNat x }
theorem setR_len (t : Th) (r x : Int) : (setR t r x).regs.length = t.regs.length := by simp [setR]
def takeC (σ : Sg) (i : Ins) (v md : Int) (ver : Nat) : Sg × Int × Int :=
  match (chAt σ.ch i.b).row with
  | x :: r => (setCh σ i.b.toNat { chAt σ.ch i.b with row := r, ver := ver }, x, 1)
  | [] => if (chAt σ.ch i.b).closed then (σ, v, 2) else (σ, v, md)
def takeF (σ : Sg) (k : Nat) (t : Th) (i : Ins) (v md : Int) (ver : Nat) : Sg × Int × Int :=
  if i.op = 17 then (setTh σ k (setR t i.a (at0 σ.atoms i.b)), at0 σ.atoms i.b, md)
  else if i.op = 19 then (setTh (setAtom σ i.b.toNat (IntKind.i64.wrap (at0 σ.atoms i.b + at0 t.regs i.c))) k (setR t i.a (at0 σ.atoms i.b)), at0 σ.atoms i.b, md)
  else if i.op = 26 then (if at0 σ.onces i.b = 0 then (setTh (setOnce σ i.b.toNat 1) k (setR t i.a 1), v, 1) else (setTh σ k (setR t i.a md), v, md))
  else
    let q := takeC σ i v md ver
    if i.op = 22 then (setTh q.1 k (setR (setR t i.a q.2.1) i.c (if q.2.2 = 1 then 1 else 0)), q.2) else (setTh q.1 k (setR t i.a q.2.1), q.2)
theorem sl_rw {id i j ver off len : Nat} {n : Int} : pSlice tab 23 (.rw id i j ver off len) (some (nI n)) none none = if 0 ≤ n then (if n.toNat ≤ len then some (.rw id i j ver (off + n.toNat) (len - n.toNat)) else none) else none := by
  by_cases h : 0 ≤ n
  · rw [if_pos h]
    unfold pSlice
    rw [lk23]
    simp only [ti23, lk3, pBound, if_pos h]
    simp [ti3]
  · rw [if_neg h]
    unfold pSlice
    rw [lk23]
    simp only [ti23, lk3, pBound, if_neg h]
attribute [simp] sl_rw optV
end Go.Proofs.YtogfcpaalcebdaaE
/- What goes into a channel. -/
namespace Go.Proofs.YtogfcpaalcebdaaE
open Go Go.RowKit
set_option linter.unusedVariables false
set_option linter.unusedSimpArgs false
theorem collapse {α : Type} {l : List α} {a b c d z : α} {n : Nat} (h1 : l[n]? = some z) (h2 : l[n + 1]? = some z) (h5 : n ≠ 5) (h6 : n + 1 ≠ 5) : ((((((l.set 5 a).set (n + 1) b).set (n + 1) z).set n c).set n z).set 5 d) = l.set 5 d := by
  have l1 := (List.getElem?_eq_some_iff.1 h1).1
  have l2 := (List.getElem?_eq_some_iff.1 h2).1
  refine List.ext_getElem? fun i => ?_
  simp only [List.getElem?_set, List.length_set]
  by_cases e5 : 5 = i
  · subst e5; simp
  · rw [if_neg e5, if_neg e5]
    by_cases en : n = i
    · subst en
      rw [if_neg e5, h1]; simp [l1]
    · rw [if_neg en, if_neg en]
      by_cases em : n + 1 = i
      · subst em
        rw [if_neg e5, h2]; simp [l2]
      · rw [if_neg em, if_neg em, if_neg e5]
section
variable {σ : Sg} {ext : Mem2} {N : Nat} {S : Spec} {lw i1 i2 i3 i4 nn n2 n3 n4 : Nat} {qs : List Nat} {rr : List Nu} {ops : List Oper} {K : St → Prop} {A : Nat → V} {d1 d2 d3 : Nat} {y1 y2 y3 y4 : TypeId} {p1 p2 p3 p4 : String} {a1 a2 a3 a4 : Array Edge} {x y q : Operand} {k j : Nat} {c : Ch} {v : Int}
theorem wr_send (hx : ev A x = .rw 5 k 0 c.ver 0 c.row.length) (hy : ev A y = .sl j 1 0 1 true) (hj : obGet (M σ ext) j = some (.arr 1 [[ci v]])) (hq : ev A q = .ptr 5 k 0) (h : σ.ch[k]? = some c) (hn1 : (M σ ext)[nn]? = some none) (hn2 : (M σ ext)[nn + 1]? = some none) (hlen : c.row.length < 1000000) (hd : d1 ≠ d2 ∧ d1 ≠ d3 ∧ ∀ t, q = .tmp t → t ≠ d1)
    (hK : ∀ ver, Wr (env N S) lw qs ops K rr ⟨up (up (up A d1 (.sl nn 1 0 (c.row.length + 1) false)) d2 (.ptr 5 k 0)) d3 (.ptr 5 k 0), M (setCh σ k { c with row := c.row ++ [v], ver := ver }) ext⟩) :
    Wr (env N S) lw qs ops K ((i1, ⟨some d1, .call ⟨.builtin .append, #[x, y], #[23, 23]⟩, y1, p1, a1, none⟩, nn) :: (i2, ⟨some d2, .nilCheck q, y2, p2, a2, none⟩, n2) :: (i3, ⟨some d3, .fieldAddr 100 (.tmp d2) 0, y3, p3, a3, none⟩, n3) :: (i4, ⟨none, .store 23 (.tmp d3) (.tmp d1), y4, p4, a4, none⟩, n4) :: rr) ⟨A, M σ ext⟩ := by
  have hl1 : nn < (M σ ext).length := (List.getElem?_eq_some_iff.1 hn1).1
  have hl2 : nn + 1 < (M σ ext).length := (List.getElem?_eq_some_iff.1 hn2).1
  have h5 : nn ≠ 5 := by rintro rfl; cases hn1
  have h6 : nn + 1 ≠ 5 := by
    intro e
    have : nn = 4 := by omega
    subst this
    cases hn1
  have hj' := obGet_eq hj
  have hj5 : j ≠ 5 := by rintro rfl; cases hj'
  have hjn : j ≠ nn := by rintro rfl; rw [hn1] at hj'; cases hj'
  have hjn1 : j ≠ nn + 1 := by rintro rfl; rw [hn2] at hj'; cases hj'
  let a5 : Option Ob := some (.arw 2 ((σ.ch.map Ch.enc).set k (c.enc.set 0 .no)))
  let b5 : Option Ob := some (.arr 1 ((c.row.map ci).map fun x => [x]))
  let m0 := ((M σ ext).set 5 a5).set (nn + 1) b5
  have hes : (σ.ch.map Ch.enc)[k]? = some c.enc := by simp [h]
  have hdet : detach (M σ ext) (nn + 1) 5 k 0 c.ver = some m0 := by
    unfold detach
    rw [show obGet (M σ ext) 5 = some (.arw 2 (σ.ch.map Ch.enc)) from rfl]
    dsimp only
    rw [hes]
    show (if c.ver = c.ver ∧ nn + 1 ≠ 5 ∧ nn + 1 < (M σ ext).length then _ else _) = _
    rw [if_pos ⟨rfl, h6, hl2⟩]
  have hm0 : m0[nn + 1]? = some b5 := by
    show (((M σ ext).set 5 a5).set (nn + 1) b5)[nn + 1]? = _
    rw [List.getElem?_set, if_pos rfl, if_pos (by rw [List.length_set]; exact hl2)]
  have hm0j : m0[j]? = some (some (.arr 1 [[ci v]])) := by
    show (((M σ ext).set 5 a5).set (nn + 1) b5)[j]? = _
    rw [List.getElem?_set, if_neg (Ne.symm hjn1), List.getElem?_set, if_neg (Ne.symm hj5)]
    exact hj'
  let base : List (List C) := (c.row.map ci).map fun x => [x]
  have hb : base.length = c.row.length := by simp [base]
  show WApp (env N S) #[23, 23] [ev A x, ev A y] (M σ ext) nn _
  refine ⟨23, _, _, rfl, rfl, .inr ⟨5, k, 0, c.ver, 0, c.row.length, m0, hx, hdet, ?_⟩⟩
  refine ⟨ti23, 3, ti3, base, [[ci v]], m0.set (nn + 1) none, lk23, rfl, lk3, ?_, ?_, ?_, ?_, ?_, ?_, .inl (by simp), ?_⟩
  · unfold dstR
    have : obGet m0 (nn + 1) = some (.arr 1 base) := by unfold obGet; rw [hm0]
    dsimp only
    rw [this]
    dsimp only
    rw [if_pos ⟨by rw [hb]; omega, rfl, rfl⟩]
    rfl
  · rw [hy]
    unfold srcR
    have : obGet m0 j = some (.arr 1 [[ci v]]) := by unfold obGet; rw [hm0j]
    dsimp only
    rw [this]
    simp
  · intro row hrow
    simp at hrow
    subst hrow
    rfl
  · intro row hrow
    simp [base] at hrow
    obtain ⟨a, _, rfl⟩ := hrow
    rfl
  · rw [hb]
    show (c.row.length + 1) * 8 ≤ 140737488355328
    omega
  · rw [hb]
    simp only [List.length_singleton]
    omega
  let m2 := (m0.set (nn + 1) none).set nn (some (.arr 1 (base ++ [[ci v]])))
  show Wr (env N S) lw qs ops K _ ⟨up A d1 (.sl nn 1 0 (base.length + [[ci v]].length) false), m2⟩
  rw [hb]
  let V1 : V := .sl nn 1 0 (c.row.length + 1) false
  show Wr (env N S) lw qs ops K _ ⟨up A d1 V1, m2⟩
  have hq' : ev (up A d1 V1) q = .ptr 5 k 0 := by
    cases q with
    | tmp t =>
      have := hd.2.2 t rfl
      show up A d1 V1 t = _
      rw [up_get, if_neg this]
      exact hq
    | const v => exact hq
    | func f => exact hq
    | global g => exact hq
  rw [wr_nil, hq']
  show RV (env N S) lw qs ops K _ (up A d1 V1) m2 d2 (some (.ptr 5 k 0))
  rw [RV_some, wr_fa]
  have e2 : ev (up (up A d1 V1) d2 (.ptr 5 k 0)) (.tmp d2) = .ptr 5 k 0 := by
    show up (up A d1 V1) d2 (.ptr 5 k 0) d2 = _
    rw [up_get, if_pos rfl]
  rw [e2]
  show RV (env N S) lw qs ops K _ _ m2 d3 (some (.ptr 5 k 0))
  rw [RV_some]
  have e3 : ev (up (up (up A d1 V1) d2 (.ptr 5 k 0)) d3 (.ptr 5 k 0)) (.tmp d3) = .ptr 5 k 0 := by
    show up (up (up A d1 V1) d2 (.ptr 5 k 0)) d3 (.ptr 5 k 0) d3 = _
    rw [up_get, if_pos rfl]
  have e4 : ev (up (up (up A d1 V1) d2 (.ptr 5 k 0)) d3 (.ptr 5 k 0)) (.tmp d1) = V1 := by
    show up (up (up A d1 V1) d2 (.ptr 5 k 0)) d3 (.ptr 5 k 0) d1 = _
    rw [up_get, if_neg hd.2.1, up_get, if_neg hd.1, up_get, if_pos rfl]
  show WStore (env N S) 23 (ev (up (up (up A d1 V1) d2 (.ptr 5 k 0)) d3 (.ptr 5 k 0)) (.tmp d3)) (ev (up (up (up A d1 V1) d2 (.ptr 5 k 0)) d3 (.ptr 5 k 0)) (.tmp d1)) m2 fun m' => Wr (env N S) lw qs ops K rr ⟨up (up (up A d1 V1) d2 (.ptr 5 k 0)) d3 (.ptr 5 k 0), m'⟩
  rw [e3, e4]
  have g5 : m2[5]? = some a5 := by
    show ((m0.set (nn + 1) none).set nn _)[5]? = _
    rw [List.getElem?_set, if_neg h5, List.getElem?_set, if_neg h6]
    show (((M σ ext).set 5 a5).set (nn + 1) b5)[5]? = _
    rw [List.getElem?_set, if_neg h6, List.getElem?_set, if_pos rfl, if_pos (by simp [M])]
  have gn : m2[nn]? = some (some (.arr 1 (base ++ [[ci v]]))) := by
    show ((m0.set (nn + 1) none).set nn _)[nn]? = _
    rw [List.getElem?_set, if_pos rfl, if_pos (by simp [m0]; exact hl1)]
  have hkl : k < σ.ch.length := (List.getElem?_eq_some_iff.1 h).1
  refine .inr ⟨5, k, 0, 2, (σ.ch.map Ch.enc).set k (c.enc.set 0 .no), c.enc.set 0 .no, .no, (c.row ++ [v]).map ci, m2.set nn none, ti23, rfl, lk23, rfl, g5, ?_, rfl, ?_, fun ver => ?_⟩
  · rw [List.getElem?_set, if_pos rfl, if_pos (by simpa using hkl)]
  · unfold rowOf
    have : obGet m2 nn = some (.arr 1 (base ++ [[ci v]])) := by unfold obGet; rw [gn]
    show (match obGet m2 nn with
      | some (.arr s' es') => if nn ≠ 5 ∧ 1 = 1 ∧ s' = 1 ∧ 0 + (c.row.length + 1) ≤ es'.length then some ((es'.drop 0).take (c.row.length + 1), m2.set nn none) else none
      | _ => none) = _
    rw [this]
    dsimp only
    rw [if_pos ⟨h5, rfl, rfl, by simp [base]⟩]
    have : List.take (c.row.length + 1) (List.drop 0 (base ++ [[ci v]])) = ((c.row ++ [v]).map ci).map fun x => [x] := by
      rw [List.drop_zero, List.take_of_length_le (by simp [base])]
      simp [base]
    rw [this]
  · have hfin : (m2.set nn none).set 5 (some (.arw 2 (((σ.ch.map Ch.enc).set k (c.enc.set 0 .no)).set k ((c.enc.set 0 .no).set 0 (.ow ((c.row ++ [v]).map ci) ver))))) = M (setCh σ k { c with row := c.row ++ [v], ver := ver }) ext := by
      have := collapse (a := a5) (b := b5) (c := some (.arr 1 (base ++ [[ci v]]))) (d := some (.arw 2 (((σ.ch.map Ch.enc).set k (c.enc.set 0 .no)).set k ((c.enc.set 0 .no).set 0 (.ow ((c.row ++ [v]).map ci) ver))))) hn1 hn2 h5 h6
      refine this.trans ?_
      simp [M, setCh, stBox, Ch.enc, List.map_set]
    rw [hfin]
    exact hK ver
theorem lit1 {v : Int} : pLit tab 23 1 [(0, nI v)] = some (1, [[ci v]]) := rfl
theorem wr_lit1 {x : Operand} {v : Int} {m : Mem2} (hx : ev A x = nI v) (h : Wr (env N S) lw qs ops K rr ⟨up A d1 (.sl nn 1 0 1 true), m.set nn (some (.arr 1 [[ci v]]))⟩) : Wr (env N S) lw qs ops K ((i1, ⟨some d1, .buildSlice 23 1 #[(0, x)], y1, p1, a1, none⟩, nn) :: rr) ⟨A, m⟩ := by
  refine ⟨.sl nn 1 0 1 true, .arr 1 [[ci v]], ⟨1, [[ci v]], ?_, rfl, rfl⟩, h⟩
  show pLit tab 23 1 [(0, ev A x)] = _
  rw [hx]
  exact lit1
end
def giveF (σ : Sg) (t : Th) (i : Ins) (v : Int) (ver : Nat) : Sg × Int × Bool :=
  if i.op = 12 then (setTh σ i.a.toNat { thAt σ i.a with began := true }, v, !(thAt σ i.a).began)
  else if i.op = 13 then (setLock σ i.a.toNat (-1), v, true)
  else if i.op = 15 then (setLock σ i.a.toNat (IntKind.i64.wrap (at0 σ.locks i.a + 1)), v, true)
  else if i.op = 14 then (if at0 σ.locks i.a = -1 then (setLock σ i.a.toNat 0, v, true) else (σ, v, false))
  else if i.op = 16 then (if at0 σ.locks i.a < 1 then (σ, v, false) else (setLock σ i.a.toNat (IntKind.i64.wrap (at0 σ.locks i.a - 1)), v, true))
  else if i.op = 18 then (setAtom σ i.a.toNat (at0 t.regs i.b), at0 t.regs i.b, true)
  else if i.op = 20 then (if (chAt σ.ch i.a).closed then (σ, at0 t.regs i.b, false) else (setCh σ i.a.toNat { chAt σ.ch i.a with row := (chAt σ.ch i.a).row ++ [at0 t.regs i.b], ver := ver }, at0 t.regs i.b, true))
  else if i.op = 23 then (setCh σ i.a.toNat { chAt σ.ch i.a with closed := true }, v, !(chAt σ.ch i.a).closed)
  else if i.op = 24 then (if IntKind.i64.wrap (at0 σ.groups i.a + i.b) < 0 then (σ, i.b, false) else (setGroup σ i.a.toNat (IntKind.i64.wrap (at0 σ.groups i.a + i.b)), i.b, true))
  else if i.op = 27 then (if at0 σ.onces i.a = 1 then (setOnce σ i.a.toNat 2, v, true) else (σ, v, false))
  else (σ, v, true)
end Go.Proofs.YtogfcpaalcebdaaE
