/- What others know of, walked. -/
import Derived.Test.YtogfcpaalcebdaaCESend
import Derived.Test.YtogfcpaalcebdaaCEWalk5
namespace Go.Proofs.YtogfcpaalcebdaaE
open Go Go.RowKit
set_option linter.unusedVariables false
set_option linter.unusedSimpArgs false
set_option maxRecDepth 1000000
set_option maxHeartbeats 8000000
theorem give_m  (hG : Good SA) (σ : Sg) (k : Nat) (t : Th) (i : Ins) (n v md : Int) (x1 x2 x3 x4 : Int) (h1 : σ.th[k]? = some t) (hr : t.regs.length = 4) (hR : Reg4 n i) (hF : Fit σ i) (hF2 : Fit2 σ i) (hlen : (chAt σ.ch i.a).row.length < 1000000) : Meets 45 [.ptr 0 0 0, .ptr 1 k 0, .agg [nU i.op, nI i.a, nI i.b, nI i.c], .ptr 9 0 0] (M σ [some (.box [nI x1, nI x2, nU x3, nI x4, nI v, nI md])]) (pq (fun r a => ∃ ver, r = nB (giveF σ t i v ver).2.2 ∧ a = M (giveF σ t i v ver).1 [some (.box [nI x1, nI x2, nU x3, nI x4, nI (giveF σ t i v ver).2.1, nI md])]) ([])) := by
 refine meets_q hG Try.func45 rfl rfl ?_
 show Awp (env _ _) _ _ ((Try.f45).body.getD .skip) _ _
 unfold Try.f45
 dsimp only [Option.getD_some]
 unfold start
 generalize hQ : endA _ _ _ _ _ = Q
 have f1 : i.op = 13 ∨ i.op = 14 ∨ i.op = 15 ∨ i.op = 16 → 0 ≤ i.a ∧ i.a < (σ.locks.length : Int) ∧ i.a.toNat < σ.locks.length ∧ σ.locks[i.a.toNat]? = some (at0 σ.locks i.a) := fun h => by
  have := hF.l h
  exact ⟨this.1, this.2, by unfold inR at *; omega, at0_get this⟩
 have f2 : i.op = 20 ∨ i.op = 23 → 0 ≤ i.a ∧ i.a < (σ.ch.length : Int) ∧ σ.ch[i.a.toNat]? = some (chAt σ.ch i.a) := fun h => by
  have := (hF.s h).1
  exact ⟨this.1, this.2, chAt_get this⟩
 have f3 : i.op = 24 → 0 ≤ i.a ∧ i.a < (σ.groups.length : Int) ∧ i.a.toNat < σ.groups.length ∧ σ.groups[i.a.toNat]? = some (at0 σ.groups i.a) := fun h => by
  have := hF.g (by omega)
  exact ⟨this.1, this.2, by unfold inR at *; omega, at0_get this⟩
 have f4 : i.op = 27 → 0 ≤ i.a ∧ i.a < (σ.onces.length : Int) ∧ i.a.toNat < σ.onces.length ∧ σ.onces[i.a.toNat]? = some (at0 σ.onces i.a) := fun h => by
  have := hF.e h
  exact ⟨this.1, this.2, by unfold inR at *; omega, at0_get this⟩
 have f5 : i.op = 18 → 0 ≤ i.a ∧ i.a < (σ.atoms.length : Int) ∧ i.a.toNat < σ.atoms.length ∧ σ.atoms[i.a.toNat]? = some (at0 σ.atoms i.a) := fun h => by
  have := hF2.n h
  exact ⟨this.1, this.2, by unfold inR at *; omega, at0_get this⟩
 have f6 : i.op = 12 → 0 ≤ i.a ∧ i.a < (σ.th.length : Int) ∧ σ.th[i.a.toNat]? = some (thAt σ i.a) := fun h => by
  have := hF2.t h
  exact ⟨this.1, this.2, thAt_get this⟩
 have f7 : i.op = 18 ∨ i.op = 20 → 0 ≤ i.b ∧ i.b < 4 ∧ t.regs[i.b.toNat]? = some (at0 t.regs i.b) := fun h => by
  have := hR.b (by omega)
  exact ⟨this.1, this.2, at0_get ⟨this.1, by omega⟩⟩
 repeat' (first
 | refine Awp_sq fun K hK => ?_
 | (refine Awp_reg rfl fun K hK => ?_; simp [*])
 | (refine Awp_regD [] rfl rfl fun K hK => ?_; simp [*])
 | (refine WG_br (fun h => ?_) (fun h => ?_) <;> (have h' := h; try simp at h'; simp [*]))
 | (refine RG_br (fun h => ?_) (fun h => ?_) <;> (have h' := h; try simp at h'; simp [*]))
 | (apply call_q; (constructor <;> assumption); rfl; rfl; simp; simp [*])
 | (apply call_s; (constructor <;> assumption); rfl; rfl; simp [*])
 | (apply call_p; (constructor <;> assumption); rfl; rfl; simp [*])
 | (apply call_pq; (constructor <;> assumption); rfl; rfl; simp [*])
 | (refine wr_send rfl rfl rfl rfl (by simp [*]) rfl rfl (by assumption) ⟨by decide, by decide, fun t h => by cases h; decide⟩ (fun ver => ?_); simp [*])
 | (refine wr_lit1 rfl ?_; simp [*])
 | refine And.intro (by omega) ?_
 | (refine wl_box rfl ?_; simp [*])
 | (refine wl_alloc rfl ?_; simp [*])
 | (refine wr_box rfl ?_; simp [*])
 | (refine wr_alloc rfl ?_; simp [*])
 | (refine wl_store ?_; simp [*])
 | (refine wr_store ?_; simp [*])
 | (show Wl _ _ _ _ _ _; simp [*])
 | (show Wr _ _ _ _ _ _ _; simp [*])
 | refine kont (by assumption) ?_
 | with_reducible refine thenA_n ?_
 | with_reducible refine thenA_r ?_
 | with_reducible refine thenA_e ?_
 | with_reducible refine blockA_n ?_
 | with_reducible refine blockA_r ?_
 | with_reducible refine blockA_e ?_
 | with_reducible refine blockA_o rfl ?_
 | refine Awp_ifT rfl ?_
 | refine Awp_ifF rfl ?_
 | (refine Awp_if rfl (fun h => ?_) (fun h => ?_) <;> ((have h' := h; try simp at h') <;> try (have h2 := h; simp only [decide_eq_false_iff_not] at h2)))
 | with_reducible refine Awp_ret ?_
 | with_reducible refine Awp_skip ?_
 | with_reducible refine Awp_exit ?_
 | with_reducible refine Awp_block ?_)
 all_goals (subst hQ; first | refine endA_r10 rfl rfl rfl ?_ | refine endA_n10 rfl rfl rfl ?_)
 all_goals (first | exact ⟨ver, by simp [*, giveF], by simp [*, giveF]⟩ | exact ⟨0, by simp [*, giveF], by simp [*, giveF]⟩)

end Go.Proofs.YtogfcpaalcebdaaE
