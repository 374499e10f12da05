/- What a step takes from others, walked. -/
import Derived.Test.YtogfcpaalcebdaaCESend
namespace Go.Proofs.YtogfcpaalcebdaaE
open Go Go.RowKit
set_option linter.unusedVariables false
set_option linter.unusedSimpArgs false
set_option maxRecDepth 1000000
set_option maxHeartbeats 8000000
theorem take_m  (hG : Good SA) (σ : Sg) (k : Nat) (t : Th) (i : Ins) (n v md : Int) (x1 x2 x3 x4 : Int) (h1 : σ.th[k]? = some t) (hr : t.regs.length = 4) (hR : Reg4 n i) (hF : Fit σ i) (hF2 : Fit2 σ i) (hop : i.op = 17 ∨ i.op = 19 ∨ i.op = 21 ∨ i.op = 22 ∨ i.op = 26) : Meets 44 [.ptr 0 0 0, .ptr 1 k 0, .agg [nU i.op, nI i.a, nI i.b, nI i.c], .ptr 9 0 0] (M σ [some (.box [nI x1, nI x2, nU x3, nI x4, nI v, nI md])]) (pq (fun r a => r = .tup [] ∧ ∃ ver, a = M (takeF σ k t i v md ver).1 [some (.box [nI x1, nI x2, nU x3, nI x4, nI (takeF σ k t i v md ver).2.1, nI (takeF σ k t i v md ver).2.2])]) ([])) := by
 refine meets_q hG Try.func44 rfl rfl ?_
 show Awp (env _ _) _ _ ((Try.f44).body.getD .skip) _ _
 unfold Try.f44
 dsimp only [Option.getD_some]
 unfold start
 generalize hQ : endA _ _ _ _ _ = Q
 have fa : 0 ≤ i.a ∧ i.a < 4 := hR.a (by omega)
 have fa1 := fa.1
 have fa2 := fa.2
 have fa3 : i.a.toNat < 4 := by omega
 clear fa
 have f1 : i.op = 17 ∨ i.op = 19 → 0 ≤ i.b ∧ i.b < (σ.atoms.length : Int) ∧ i.b.toNat < σ.atoms.length ∧ σ.atoms[i.b.toNat]? = some (at0 σ.atoms i.b) := fun h => by
  have := hF2.m (by omega)
  exact ⟨this.1, this.2, by unfold inR at *; omega, at0_get this⟩
 have f2 : i.op = 26 → 0 ≤ i.b ∧ i.b < (σ.onces.length : Int) ∧ i.b.toNat < σ.onces.length ∧ σ.onces[i.b.toNat]? = some (at0 σ.onces i.b) := fun h => by
  have := hF.o h
  exact ⟨this.1, this.2, by unfold inR at *; omega, at0_get this⟩
 have f3 : i.op = 21 ∨ i.op = 22 → 0 ≤ i.b ∧ i.b < (σ.ch.length : Int) ∧ σ.ch[i.b.toNat]? = some (chAt σ.ch i.b) := fun h => by
  have := hF.r h
  exact ⟨this.1, this.2, chAt_get this⟩
 have f4 : i.op = 19 ∨ i.op = 22 → 0 ≤ i.c ∧ i.c < 4 ∧ i.c.toNat < 4 ∧ t.regs[i.c.toNat]? = some (at0 t.regs i.c) := fun h => by
  have := hR.c (by omega)
  exact ⟨this.1, this.2, by omega, at0_get ⟨this.1, by omega⟩⟩
 rcases hrow : (chAt σ.ch i.b).row with _ | ⟨x0, r0⟩
 repeat' (first
 | refine Awp_sq fun K hK => ?_
 | (refine Awp_reg rfl fun K hK => ?_; simp [*])
 | (refine Awp_regD [59] rfl rfl fun K hK => ?_; simp [*])
 | (refine WG_br (fun h => ?_) (fun h => ?_) <;> (have h' := h; try simp at h'; simp [*]))
 | (refine RG_br (fun h => ?_) (fun h => ?_) <;> (have h' := h; try simp at h'; simp [*]))
 | (apply call_q; (constructor <;> assumption); rfl; rfl; simp; simp [*])
 | (apply call_s; (constructor <;> assumption); rfl; rfl; simp [*])
 | (apply call_p; (constructor <;> assumption); rfl; rfl; simp [*])
 | (apply call_pq; (constructor <;> assumption); rfl; rfl; simp [*])
 | (refine wl_cut rfl rfl (by simp [*]) (by simp [*]; omega) (fun ver => ?_); simp [*])
 | (refine wr_cut rfl rfl (by simp [*]) (by simp [*]; omega) (fun ver => ?_); simp [*])
 | refine And.intro (by omega) ?_
 | (refine wl_box rfl ?_; simp [*])
 | (refine wl_alloc rfl ?_; simp [*])
 | (refine wr_box rfl ?_; simp [*])
 | (refine wr_alloc rfl ?_; simp [*])
 | (refine wl_store ?_; simp [*])
 | (refine wr_store ?_; simp [*])
 | (show Wl _ _ _ _ _ _; simp [*])
 | (show Wr _ _ _ _ _ _ _; simp [*])
 | refine kont (by assumption) ?_
 | with_reducible refine thenA_n ?_
 | with_reducible refine thenA_r ?_
 | with_reducible refine thenA_e ?_
 | with_reducible refine blockA_n ?_
 | with_reducible refine blockA_r ?_
 | with_reducible refine blockA_e ?_
 | with_reducible refine blockA_o rfl ?_
 | refine Awp_ifT rfl ?_
 | refine Awp_ifF rfl ?_
 | (refine Awp_if rfl (fun h => ?_) (fun h => ?_) <;> ((have h' := h; try simp at h') <;> try (have h2 := h; simp only [decide_eq_false_iff_not] at h2)))
 | with_reducible refine Awp_ret ?_
 | with_reducible refine Awp_skip ?_
 | with_reducible refine Awp_exit ?_
 | with_reducible refine Awp_block ?_)
 all_goals (subst hQ; first | refine endA_r10 rfl rfl rfl ?_ | refine endA_n10 rfl rfl rfl ?_)
 all_goals (first | (exfalso; omega) | exact ⟨rfl, ver, by simp [*, takeF, takeC, setR, setTh_two]⟩ | exact ⟨rfl, 0, by simp [*, takeF, takeC, setR, setTh_two]⟩)

end Go.Proofs.YtogfcpaalcebdaaE
