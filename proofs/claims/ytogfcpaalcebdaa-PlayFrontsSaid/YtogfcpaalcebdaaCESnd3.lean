/- What ir.Sound computes, walked. -/
import Derived.Test.YtogfcpaalcebdaaCESound
namespace Go.Proofs.YtogfcpaalcebdaaE
open Go Go.RowKit
set_option linter.unusedVariables false
set_option linter.unusedSimpArgs false
set_option maxRecDepth 1000000
set_option maxHeartbeats 8000000
theorem out_m {S : Spec} (hG : Good S) (n lo hi : Int) : Meets 52 [nI n, nI lo, nI hi] ([]) (pt (nB (outF n lo hi)) ([]) ([])) := by
 refine meets hG Try.func52 rfl rfl ?_
 show Awp (env _ _) _ _ ((Try.f52).body.getD .skip) _ _
 unfold Try.f52
 dsimp only [Option.getD_some]
 unfold start
 generalize hQ : endA _ _ _ _ _ = Q
 repeat' (first
 | refine Awp_sq fun K hK => ?_
 | (refine Awp_reg rfl fun K hK => ?_; simp [*, encI_len, cv53, shp0c, pExt, Prg.cells, ldQ, g1R, obQ, stQ, s1Q, ix3, ia3, ia28, bi3, bs0, bs01, bs02, bs012, bs013, bs014, bs0134, bs01234, bw1, bw2, bw3])
 | (refine Awp_regD [] rfl rfl fun K hK => ?_; simp [*, encI_len, cv53, shp0c, pExt, Prg.cells, ldQ, g1R, obQ, stQ, s1Q, ix3, ia3, ia28, bi3, bs0, bs01, bs02, bs012, bs013, bs014, bs0134, bs01234, bw1, bw2, bw3])
 | (refine WG_br (fun h => ?_) (fun h => ?_) <;> (have h' := h; try simp at h'; simp [*, encI_len, cv53, shp0c, pExt, Prg.cells, ldQ, g1R, obQ, stQ, s1Q, ix3, ia3, ia28, bi3, bs0, bs01, bs02, bs012, bs013, bs014, bs0134, bs01234, bw1, bw2, bw3]))
 | (refine RG_br (fun h => ?_) (fun h => ?_) <;> (have h' := h; try simp at h'; simp [*, encI_len, cv53, shp0c, pExt, Prg.cells, ldQ, g1R, obQ, stQ, s1Q, ix3, ia3, ia28, bi3, bs0, bs01, bs02, bs012, bs013, bs014, bs0134, bs01234, bw1, bw2, bw3]))
 | refine And.intro (by omega) ?_
 | (refine wl_box rfl ?_; simp [*, encI_len, cv53, shp0c, pExt, Prg.cells, ldQ, g1R, obQ, stQ, s1Q, ix3, ia3, ia28, bi3, bs0, bs01, bs02, bs012, bs013, bs014, bs0134, bs01234, bw1, bw2, bw3])
 | (refine wl_alloc rfl ?_; simp [*, encI_len, cv53, shp0c, pExt, Prg.cells, ldQ, g1R, obQ, stQ, s1Q, ix3, ia3, ia28, bi3, bs0, bs01, bs02, bs012, bs013, bs014, bs0134, bs01234, bw1, bw2, bw3])
 | (refine wr_box rfl ?_; simp [*, encI_len, cv53, shp0c, pExt, Prg.cells, ldQ, g1R, obQ, stQ, s1Q, ix3, ia3, ia28, bi3, bs0, bs01, bs02, bs012, bs013, bs014, bs0134, bs01234, bw1, bw2, bw3])
 | (refine wr_alloc rfl ?_; simp [*, encI_len, cv53, shp0c, pExt, Prg.cells, ldQ, g1R, obQ, stQ, s1Q, ix3, ia3, ia28, bi3, bs0, bs01, bs02, bs012, bs013, bs014, bs0134, bs01234, bw1, bw2, bw3])
 | (refine wl_store ?_; simp [*, encI_len, cv53, shp0c, pExt, Prg.cells, ldQ, g1R, obQ, stQ, s1Q, ix3, ia3, ia28, bi3, bs0, bs01, bs02, bs012, bs013, bs014, bs0134, bs01234, bw1, bw2, bw3])
 | (refine wr_store ?_; simp [*, encI_len, cv53, shp0c, pExt, Prg.cells, ldQ, g1R, obQ, stQ, s1Q, ix3, ia3, ia28, bi3, bs0, bs01, bs02, bs012, bs013, bs014, bs0134, bs01234, bw1, bw2, bw3])
 | (show Wl _ _ _ _ _ _; simp [*, encI_len, cv53, shp0c, pExt, Prg.cells, ldQ, g1R, obQ, stQ, s1Q, ix3, ia3, ia28, bi3, bs0, bs01, bs02, bs012, bs013, bs014, bs0134, bs01234, bw1, bw2, bw3])
 | (show Wr _ _ _ _ _ _ _; simp [*, encI_len, cv53, shp0c, pExt, Prg.cells, ldQ, g1R, obQ, stQ, s1Q, ix3, ia3, ia28, bi3, bs0, bs01, bs02, bs012, bs013, bs014, bs0134, bs01234, bw1, bw2, bw3])
 | refine kont (by assumption) ?_
 | with_reducible refine thenA_n ?_
 | with_reducible refine thenA_r ?_
 | with_reducible refine thenA_e ?_
 | with_reducible refine blockA_n ?_
 | with_reducible refine blockA_r ?_
 | with_reducible refine blockA_e ?_
 | with_reducible refine blockA_o rfl ?_
 | refine Awp_ifT rfl ?_
 | refine Awp_ifF rfl ?_
 | (refine Awp_if rfl (fun h => ?_) (fun h => ?_) <;> ((have h' := h; try simp at h') <;> try (have h2 := h; simp only [decide_eq_false_iff_not] at h2)))
 | with_reducible refine Awp_ret ?_
 | with_reducible refine Awp_skip ?_
 | with_reducible refine Awp_exit ?_
 | with_reducible refine Awp_block ?_)
 all_goals (subst hQ; first | refine endA_rL [] rfl rfl rfl rfl rfl ⟨?_, rfl⟩ | refine endA_nL [] rfl rfl rfl rfl rfl ⟨?_, rfl⟩)
 all_goals (simp [*, outF])

theorem long_m {S : Spec} (hG : Good S) (c : List Ins) : Meets 51 [.c (.ls (c.map Ins.enc))] ([]) (pt (nB (decide (60 < c.length))) ([]) ([])) := by
 refine meets hG Try.func51 rfl rfl ?_
 show Awp (env _ _) _ _ ((Try.f51).body.getD .skip) _ _
 unfold Try.f51
 dsimp only [Option.getD_some]
 unfold start
 generalize hQ : endA _ _ _ _ _ = Q
 repeat' (first
 | refine Awp_sq fun K hK => ?_
 | (refine Awp_reg rfl fun K hK => ?_; simp [*, encI_len, cv53, shp0c, pExt, Prg.cells, ldQ, g1R, obQ, stQ, s1Q, ix3, ia3, ia28, bi3, bs0, bs01, bs02, bs012, bs013, bs014, bs0134, bs01234, bw1, bw2, bw3])
 | (refine Awp_regD [] rfl rfl fun K hK => ?_; simp [*, encI_len, cv53, shp0c, pExt, Prg.cells, ldQ, g1R, obQ, stQ, s1Q, ix3, ia3, ia28, bi3, bs0, bs01, bs02, bs012, bs013, bs014, bs0134, bs01234, bw1, bw2, bw3])
 | (refine WG_br (fun h => ?_) (fun h => ?_) <;> (have h' := h; try simp at h'; simp [*, encI_len, cv53, shp0c, pExt, Prg.cells, ldQ, g1R, obQ, stQ, s1Q, ix3, ia3, ia28, bi3, bs0, bs01, bs02, bs012, bs013, bs014, bs0134, bs01234, bw1, bw2, bw3]))
 | (refine RG_br (fun h => ?_) (fun h => ?_) <;> (have h' := h; try simp at h'; simp [*, encI_len, cv53, shp0c, pExt, Prg.cells, ldQ, g1R, obQ, stQ, s1Q, ix3, ia3, ia28, bi3, bs0, bs01, bs02, bs012, bs013, bs014, bs0134, bs01234, bw1, bw2, bw3]))
 | refine And.intro (by omega) ?_
 | (refine wl_box rfl ?_; simp [*, encI_len, cv53, shp0c, pExt, Prg.cells, ldQ, g1R, obQ, stQ, s1Q, ix3, ia3, ia28, bi3, bs0, bs01, bs02, bs012, bs013, bs014, bs0134, bs01234, bw1, bw2, bw3])
 | (refine wl_alloc rfl ?_; simp [*, encI_len, cv53, shp0c, pExt, Prg.cells, ldQ, g1R, obQ, stQ, s1Q, ix3, ia3, ia28, bi3, bs0, bs01, bs02, bs012, bs013, bs014, bs0134, bs01234, bw1, bw2, bw3])
 | (refine wr_box rfl ?_; simp [*, encI_len, cv53, shp0c, pExt, Prg.cells, ldQ, g1R, obQ, stQ, s1Q, ix3, ia3, ia28, bi3, bs0, bs01, bs02, bs012, bs013, bs014, bs0134, bs01234, bw1, bw2, bw3])
 | (refine wr_alloc rfl ?_; simp [*, encI_len, cv53, shp0c, pExt, Prg.cells, ldQ, g1R, obQ, stQ, s1Q, ix3, ia3, ia28, bi3, bs0, bs01, bs02, bs012, bs013, bs014, bs0134, bs01234, bw1, bw2, bw3])
 | (refine wl_store ?_; simp [*, encI_len, cv53, shp0c, pExt, Prg.cells, ldQ, g1R, obQ, stQ, s1Q, ix3, ia3, ia28, bi3, bs0, bs01, bs02, bs012, bs013, bs014, bs0134, bs01234, bw1, bw2, bw3])
 | (refine wr_store ?_; simp [*, encI_len, cv53, shp0c, pExt, Prg.cells, ldQ, g1R, obQ, stQ, s1Q, ix3, ia3, ia28, bi3, bs0, bs01, bs02, bs012, bs013, bs014, bs0134, bs01234, bw1, bw2, bw3])
 | (show Wl _ _ _ _ _ _; simp [*, encI_len, cv53, shp0c, pExt, Prg.cells, ldQ, g1R, obQ, stQ, s1Q, ix3, ia3, ia28, bi3, bs0, bs01, bs02, bs012, bs013, bs014, bs0134, bs01234, bw1, bw2, bw3])
 | (show Wr _ _ _ _ _ _ _; simp [*, encI_len, cv53, shp0c, pExt, Prg.cells, ldQ, g1R, obQ, stQ, s1Q, ix3, ia3, ia28, bi3, bs0, bs01, bs02, bs012, bs013, bs014, bs0134, bs01234, bw1, bw2, bw3])
 | refine kont (by assumption) ?_
 | with_reducible refine thenA_n ?_
 | with_reducible refine thenA_r ?_
 | with_reducible refine thenA_e ?_
 | with_reducible refine blockA_n ?_
 | with_reducible refine blockA_r ?_
 | with_reducible refine blockA_e ?_
 | with_reducible refine blockA_o rfl ?_
 | refine Awp_ifT rfl ?_
 | refine Awp_ifF rfl ?_
 | (refine Awp_if rfl (fun h => ?_) (fun h => ?_) <;> ((have h' := h; try simp at h') <;> try (have h2 := h; simp only [decide_eq_false_iff_not] at h2)))
 | with_reducible refine Awp_ret ?_
 | with_reducible refine Awp_skip ?_
 | with_reducible refine Awp_exit ?_
 | with_reducible refine Awp_block ?_)
 all_goals (subst hQ; first | refine endA_rL [] rfl rfl rfl rfl rfl ⟨?_, rfl⟩ | refine endA_nL [] rfl rfl rfl rfl rfl ⟨?_, rfl⟩)
 all_goals (simp [*] <;> omega)

theorem math_m {S : Spec} (hG : Good S) (s : ByteArray) : Meets 67 [nS s] ([]) (pt (.agg [nS s, nU 2, nU 3, nU 3, nB true, nB false, nB false]) ([]) ([])) := by
 refine meets hG Try.func67 rfl rfl ?_
 show Awp (env _ _) _ _ ((Try.f67).body.getD .skip) _ _
 unfold Try.f67
 dsimp only [Option.getD_some]
 unfold start
 generalize hQ : endA _ _ _ _ _ = Q
 repeat' (first
 | refine Awp_sq fun K hK => ?_
 | (refine Awp_reg rfl fun K hK => ?_; simp [*, encI_len, cv53, shp0c, pExt, Prg.cells, ldQ, g1R, obQ, stQ, s1Q, ix3, ia3, ia28, bi3, bs0, bs01, bs02, bs012, bs013, bs014, bs0134, bs01234, bw1, bw2, bw3])
 | (refine Awp_regD [] rfl rfl fun K hK => ?_; simp [*, encI_len, cv53, shp0c, pExt, Prg.cells, ldQ, g1R, obQ, stQ, s1Q, ix3, ia3, ia28, bi3, bs0, bs01, bs02, bs012, bs013, bs014, bs0134, bs01234, bw1, bw2, bw3])
 | (refine WG_br (fun h => ?_) (fun h => ?_) <;> (have h' := h; try simp at h'; simp [*, encI_len, cv53, shp0c, pExt, Prg.cells, ldQ, g1R, obQ, stQ, s1Q, ix3, ia3, ia28, bi3, bs0, bs01, bs02, bs012, bs013, bs014, bs0134, bs01234, bw1, bw2, bw3]))
 | (refine RG_br (fun h => ?_) (fun h => ?_) <;> (have h' := h; try simp at h'; simp [*, encI_len, cv53, shp0c, pExt, Prg.cells, ldQ, g1R, obQ, stQ, s1Q, ix3, ia3, ia28, bi3, bs0, bs01, bs02, bs012, bs013, bs014, bs0134, bs01234, bw1, bw2, bw3]))
 | refine And.intro (by omega) ?_
 | (refine wl_box rfl ?_; simp [*, encI_len, cv53, shp0c, pExt, Prg.cells, ldQ, g1R, obQ, stQ, s1Q, ix3, ia3, ia28, bi3, bs0, bs01, bs02, bs012, bs013, bs014, bs0134, bs01234, bw1, bw2, bw3])
 | (refine wl_alloc rfl ?_; simp [*, encI_len, cv53, shp0c, pExt, Prg.cells, ldQ, g1R, obQ, stQ, s1Q, ix3, ia3, ia28, bi3, bs0, bs01, bs02, bs012, bs013, bs014, bs0134, bs01234, bw1, bw2, bw3])
 | (refine wr_box rfl ?_; simp [*, encI_len, cv53, shp0c, pExt, Prg.cells, ldQ, g1R, obQ, stQ, s1Q, ix3, ia3, ia28, bi3, bs0, bs01, bs02, bs012, bs013, bs014, bs0134, bs01234, bw1, bw2, bw3])
 | (refine wr_alloc rfl ?_; simp [*, encI_len, cv53, shp0c, pExt, Prg.cells, ldQ, g1R, obQ, stQ, s1Q, ix3, ia3, ia28, bi3, bs0, bs01, bs02, bs012, bs013, bs014, bs0134, bs01234, bw1, bw2, bw3])
 | (refine wl_store ?_; simp [*, encI_len, cv53, shp0c, pExt, Prg.cells, ldQ, g1R, obQ, stQ, s1Q, ix3, ia3, ia28, bi3, bs0, bs01, bs02, bs012, bs013, bs014, bs0134, bs01234, bw1, bw2, bw3])
 | (refine wr_store ?_; simp [*, encI_len, cv53, shp0c, pExt, Prg.cells, ldQ, g1R, obQ, stQ, s1Q, ix3, ia3, ia28, bi3, bs0, bs01, bs02, bs012, bs013, bs014, bs0134, bs01234, bw1, bw2, bw3])
 | (show Wl _ _ _ _ _ _; simp [*, encI_len, cv53, shp0c, pExt, Prg.cells, ldQ, g1R, obQ, stQ, s1Q, ix3, ia3, ia28, bi3, bs0, bs01, bs02, bs012, bs013, bs014, bs0134, bs01234, bw1, bw2, bw3])
 | (show Wr _ _ _ _ _ _ _; simp [*, encI_len, cv53, shp0c, pExt, Prg.cells, ldQ, g1R, obQ, stQ, s1Q, ix3, ia3, ia28, bi3, bs0, bs01, bs02, bs012, bs013, bs014, bs0134, bs01234, bw1, bw2, bw3])
 | refine kont (by assumption) ?_
 | with_reducible refine thenA_n ?_
 | with_reducible refine thenA_r ?_
 | with_reducible refine thenA_e ?_
 | with_reducible refine blockA_n ?_
 | with_reducible refine blockA_r ?_
 | with_reducible refine blockA_e ?_
 | with_reducible refine blockA_o rfl ?_
 | refine Awp_ifT rfl ?_
 | refine Awp_ifF rfl ?_
 | (refine Awp_if rfl (fun h => ?_) (fun h => ?_) <;> ((have h' := h; try simp at h') <;> try (have h2 := h; simp only [decide_eq_false_iff_not] at h2)))
 | with_reducible refine Awp_ret ?_
 | with_reducible refine Awp_skip ?_
 | with_reducible refine Awp_exit ?_
 | with_reducible refine Awp_block ?_)
 all_goals (subst hQ; first | refine endA_rL [] rfl rfl rfl rfl rfl ⟨?_, rfl⟩ | refine endA_nL [] rfl rfl rfl rfl rfl ⟨?_, rfl⟩)
 all_goals (simp [*])

theorem word_m {S : Spec} (hG : Good S) (s : ByteArray) (w : Int) (a r : Bool) : Meets 68 [nS s, nU w, nB a, nB r] ([]) (pt (.agg [nS s, nU w, nU 0, nU 0, nB false, nB a, nB r]) ([]) ([])) := by
 refine meets hG Try.func68 rfl rfl ?_
 show Awp (env _ _) _ _ ((Try.f68).body.getD .skip) _ _
 unfold Try.f68
 dsimp only [Option.getD_some]
 unfold start
 generalize hQ : endA _ _ _ _ _ = Q
 repeat' (first
 | refine Awp_sq fun K hK => ?_
 | (refine Awp_reg rfl fun K hK => ?_; simp [*, encI_len, cv53, shp0c, pExt, Prg.cells, ldQ, g1R, obQ, stQ, s1Q, ix3, ia3, ia28, bi3, bs0, bs01, bs02, bs012, bs013, bs014, bs0134, bs01234, bw1, bw2, bw3])
 | (refine Awp_regD [] rfl rfl fun K hK => ?_; simp [*, encI_len, cv53, shp0c, pExt, Prg.cells, ldQ, g1R, obQ, stQ, s1Q, ix3, ia3, ia28, bi3, bs0, bs01, bs02, bs012, bs013, bs014, bs0134, bs01234, bw1, bw2, bw3])
 | (refine WG_br (fun h => ?_) (fun h => ?_) <;> (have h' := h; try simp at h'; simp [*, encI_len, cv53, shp0c, pExt, Prg.cells, ldQ, g1R, obQ, stQ, s1Q, ix3, ia3, ia28, bi3, bs0, bs01, bs02, bs012, bs013, bs014, bs0134, bs01234, bw1, bw2, bw3]))
 | (refine RG_br (fun h => ?_) (fun h => ?_) <;> (have h' := h; try simp at h'; simp [*, encI_len, cv53, shp0c, pExt, Prg.cells, ldQ, g1R, obQ, stQ, s1Q, ix3, ia3, ia28, bi3, bs0, bs01, bs02, bs012, bs013, bs014, bs0134, bs01234, bw1, bw2, bw3]))
 | refine And.intro (by omega) ?_
 | (refine wl_box rfl ?_; simp [*, encI_len, cv53, shp0c, pExt, Prg.cells, ldQ, g1R, obQ, stQ, s1Q, ix3, ia3, ia28, bi3, bs0, bs01, bs02, bs012, bs013, bs014, bs0134, bs01234, bw1, bw2, bw3])
 | (refine wl_alloc rfl ?_; simp [*, encI_len, cv53, shp0c, pExt, Prg.cells, ldQ, g1R, obQ, stQ, s1Q, ix3, ia3, ia28, bi3, bs0, bs01, bs02, bs012, bs013, bs014, bs0134, bs01234, bw1, bw2, bw3])
 | (refine wr_box rfl ?_; simp [*, encI_len, cv53, shp0c, pExt, Prg.cells, ldQ, g1R, obQ, stQ, s1Q, ix3, ia3, ia28, bi3, bs0, bs01, bs02, bs012, bs013, bs014, bs0134, bs01234, bw1, bw2, bw3])
 | (refine wr_alloc rfl ?_; simp [*, encI_len, cv53, shp0c, pExt, Prg.cells, ldQ, g1R, obQ, stQ, s1Q, ix3, ia3, ia28, bi3, bs0, bs01, bs02, bs012, bs013, bs014, bs0134, bs01234, bw1, bw2, bw3])
 | (refine wl_store ?_; simp [*, encI_len, cv53, shp0c, pExt, Prg.cells, ldQ, g1R, obQ, stQ, s1Q, ix3, ia3, ia28, bi3, bs0, bs01, bs02, bs012, bs013, bs014, bs0134, bs01234, bw1, bw2, bw3])
 | (refine wr_store ?_; simp [*, encI_len, cv53, shp0c, pExt, Prg.cells, ldQ, g1R, obQ, stQ, s1Q, ix3, ia3, ia28, bi3, bs0, bs01, bs02, bs012, bs013, bs014, bs0134, bs01234, bw1, bw2, bw3])
 | (show Wl _ _ _ _ _ _; simp [*, encI_len, cv53, shp0c, pExt, Prg.cells, ldQ, g1R, obQ, stQ, s1Q, ix3, ia3, ia28, bi3, bs0, bs01, bs02, bs012, bs013, bs014, bs0134, bs01234, bw1, bw2, bw3])
 | (show Wr _ _ _ _ _ _ _; simp [*, encI_len, cv53, shp0c, pExt, Prg.cells, ldQ, g1R, obQ, stQ, s1Q, ix3, ia3, ia28, bi3, bs0, bs01, bs02, bs012, bs013, bs014, bs0134, bs01234, bw1, bw2, bw3])
 | refine kont (by assumption) ?_
 | with_reducible refine thenA_n ?_
 | with_reducible refine thenA_r ?_
 | with_reducible refine thenA_e ?_
 | with_reducible refine blockA_n ?_
 | with_reducible refine blockA_r ?_
 | with_reducible refine blockA_e ?_
 | with_reducible refine blockA_o rfl ?_
 | refine Awp_ifT rfl ?_
 | refine Awp_ifF rfl ?_
 | (refine Awp_if rfl (fun h => ?_) (fun h => ?_) <;> ((have h' := h; try simp at h') <;> try (have h2 := h; simp only [decide_eq_false_iff_not] at h2)))
 | with_reducible refine Awp_ret ?_
 | with_reducible refine Awp_skip ?_
 | with_reducible refine Awp_exit ?_
 | with_reducible refine Awp_block ?_)
 all_goals (subst hQ; first | refine endA_rL [] rfl rfl rfl rfl rfl ⟨?_, rfl⟩ | refine endA_nL [] rfl rfl rfl rfl rfl ⟨?_, rfl⟩)
 all_goals (simp [*])

inductive TA : Spec
 | out (n lo hi : Int) : TA 52 [nI n, nI lo, nI hi] ([]) (pt (nB (outF n lo hi)) [] [])
 | long (c : List Ins) : TA 51 [.c (.ls (c.map Ins.enc))] ([]) (pt (nB (decide (60 < c.length))) [] [])
 | math (s : ByteArray) : TA 67 [nS s] ([]) (pt (.agg [nS s, nU 2, nU 3, nU 3, nB true, nB false, nB false]) [] [])
 | word (s : ByteArray) (w : Int) (a r : Bool) : TA 68 [nS s, nU w, nB a, nB r] ([]) (pt (.agg [nS s, nU w, nU 0, nU 0, nB false, nB a, nB r]) [] [])
theorem TA_good : Good TA := by
 refine ⟨fun f a m P h => ?_, fun f a m P h => ?_⟩
 · cases h with
   | out n lo hi => exact out_m Good.none n lo hi
   | long c => exact long_m Good.none c
   | math s => exact math_m Good.none s
   | word s w a r => exact word_m Good.none s w a r
 · cases h with
   | out _ _ _ => exact ⟨_, Try.func52, rfl, rfl⟩
   | long _ => exact ⟨_, Try.func51, rfl, rfl⟩
   | math _ => exact ⟨_, Try.func67, rfl, rfl⟩
   | word _ _ _ _ => exact ⟨_, Try.func68, rfl, rfl⟩

end Go.Proofs.YtogfcpaalcebdaaE
/- What ir.Sound computes, walked. -/
namespace Go.Proofs.YtogfcpaalcebdaaE
open Go Go.RowKit
set_option linter.unusedVariables false
set_option linter.unusedSimpArgs false
set_option maxRecDepth 1000000
set_option maxHeartbeats 8000000
theorem cap_m (hG : Good TA) (n : Int) : Meets 55 [nI n] ([]) (pt (nB (outF n 1 3)) ([]) ([])) := by
 refine meets hG Try.func55 rfl rfl ?_
 show Awp (env _ _) _ _ ((Try.f55).body.getD .skip) _ _
 unfold Try.f55
 dsimp only [Option.getD_some]
 unfold start
 generalize hQ : endA _ _ _ _ _ = Q
 repeat' (first
 | refine Awp_sq fun K hK => ?_
 | (refine Awp_reg rfl fun K hK => ?_; simp [*, encI_len, cv53, shp0c, pExt, Prg.cells, ldQ, g1R, obQ, stQ, s1Q, ix3, ia3, ia28, bi3, bs0, bs01, bs02, bs012, bs013, bs014, bs0134, bs01234, bw1, bw2, bw3])
 | (refine Awp_regD [] rfl rfl fun K hK => ?_; simp [*, encI_len, cv53, shp0c, pExt, Prg.cells, ldQ, g1R, obQ, stQ, s1Q, ix3, ia3, ia28, bi3, bs0, bs01, bs02, bs012, bs013, bs014, bs0134, bs01234, bw1, bw2, bw3])
 | (refine WG_br (fun h => ?_) (fun h => ?_) <;> (have h' := h; try simp at h'; simp [*, encI_len, cv53, shp0c, pExt, Prg.cells, ldQ, g1R, obQ, stQ, s1Q, ix3, ia3, ia28, bi3, bs0, bs01, bs02, bs012, bs013, bs014, bs0134, bs01234, bw1, bw2, bw3]))
 | (refine RG_br (fun h => ?_) (fun h => ?_) <;> (have h' := h; try simp at h'; simp [*, encI_len, cv53, shp0c, pExt, Prg.cells, ldQ, g1R, obQ, stQ, s1Q, ix3, ia3, ia28, bi3, bs0, bs01, bs02, bs012, bs013, bs014, bs0134, bs01234, bw1, bw2, bw3]))
 | (apply call_p (TA.out _ _ _); rfl; rfl; simp [*, encI_len, cv53, shp0c, pExt, Prg.cells, ldQ, g1R, obQ, stQ, s1Q, ix3, ia3, ia28, bi3, bs0, bs01, bs02, bs012, bs013, bs014, bs0134, bs01234, bw1, bw2, bw3])
 | refine And.intro (by omega) ?_
 | (refine wl_box rfl ?_; simp [*, encI_len, cv53, shp0c, pExt, Prg.cells, ldQ, g1R, obQ, stQ, s1Q, ix3, ia3, ia28, bi3, bs0, bs01, bs02, bs012, bs013, bs014, bs0134, bs01234, bw1, bw2, bw3])
 | (refine wl_alloc rfl ?_; simp [*, encI_len, cv53, shp0c, pExt, Prg.cells, ldQ, g1R, obQ, stQ, s1Q, ix3, ia3, ia28, bi3, bs0, bs01, bs02, bs012, bs013, bs014, bs0134, bs01234, bw1, bw2, bw3])
 | (refine wr_box rfl ?_; simp [*, encI_len, cv53, shp0c, pExt, Prg.cells, ldQ, g1R, obQ, stQ, s1Q, ix3, ia3, ia28, bi3, bs0, bs01, bs02, bs012, bs013, bs014, bs0134, bs01234, bw1, bw2, bw3])
 | (refine wr_alloc rfl ?_; simp [*, encI_len, cv53, shp0c, pExt, Prg.cells, ldQ, g1R, obQ, stQ, s1Q, ix3, ia3, ia28, bi3, bs0, bs01, bs02, bs012, bs013, bs014, bs0134, bs01234, bw1, bw2, bw3])
 | (refine wl_store ?_; simp [*, encI_len, cv53, shp0c, pExt, Prg.cells, ldQ, g1R, obQ, stQ, s1Q, ix3, ia3, ia28, bi3, bs0, bs01, bs02, bs012, bs013, bs014, bs0134, bs01234, bw1, bw2, bw3])
 | (refine wr_store ?_; simp [*, encI_len, cv53, shp0c, pExt, Prg.cells, ldQ, g1R, obQ, stQ, s1Q, ix3, ia3, ia28, bi3, bs0, bs01, bs02, bs012, bs013, bs014, bs0134, bs01234, bw1, bw2, bw3])
 | (show Wl _ _ _ _ _ _; simp [*, encI_len, cv53, shp0c, pExt, Prg.cells, ldQ, g1R, obQ, stQ, s1Q, ix3, ia3, ia28, bi3, bs0, bs01, bs02, bs012, bs013, bs014, bs0134, bs01234, bw1, bw2, bw3])
 | (show Wr _ _ _ _ _ _ _; simp [*, encI_len, cv53, shp0c, pExt, Prg.cells, ldQ, g1R, obQ, stQ, s1Q, ix3, ia3, ia28, bi3, bs0, bs01, bs02, bs012, bs013, bs014, bs0134, bs01234, bw1, bw2, bw3])
 | refine kont (by assumption) ?_
 | with_reducible refine thenA_n ?_
 | with_reducible refine thenA_r ?_
 | with_reducible refine thenA_e ?_
 | with_reducible refine blockA_n ?_
 | with_reducible refine blockA_r ?_
 | with_reducible refine blockA_e ?_
 | with_reducible refine blockA_o rfl ?_
 | refine Awp_ifT rfl ?_
 | refine Awp_ifF rfl ?_
 | (refine Awp_if rfl (fun h => ?_) (fun h => ?_) <;> ((have h' := h; try simp at h') <;> try (have h2 := h; simp only [decide_eq_false_iff_not] at h2)))
 | with_reducible refine Awp_ret ?_
 | with_reducible refine Awp_skip ?_
 | with_reducible refine Awp_exit ?_
 | with_reducible refine Awp_block ?_)
 all_goals (subst hQ; first | refine endA_rL [] rfl rfl rfl rfl rfl ⟨?_, rfl⟩ | refine endA_nL [] rfl rfl rfl rfl rfl ⟨?_, rfl⟩)
 all_goals (simp [*])

theorem shapes_m (hG : Good TA) : Meets 66 [] ([]) (pt (.agg shC) ([]) ([])) := by
 refine meets hG Try.func66 rfl rfl ?_
 show Awp (env _ _) _ _ ((Try.f66).body.getD .skip) _ _
 unfold Try.f66
 dsimp only [Option.getD_some]
 unfold start
 generalize hQ : endA _ _ _ _ _ = Q
 repeat' (first
 | refine Awp_sq fun K hK => ?_
 | (refine Awp_reg rfl fun K hK => ?_; simp [*, encI_len, cv53, shp0c, pExt, Prg.cells, ldQ, g1R, obQ, stQ, s1Q, ix3, ia3, ia28, bi3, bs0, bs01, bs02, bs012, bs013, bs014, bs0134, bs01234, bw1, bw2, bw3])
 | (refine Awp_regD [] rfl rfl fun K hK => ?_; simp [*, encI_len, cv53, shp0c, pExt, Prg.cells, ldQ, g1R, obQ, stQ, s1Q, ix3, ia3, ia28, bi3, bs0, bs01, bs02, bs012, bs013, bs014, bs0134, bs01234, bw1, bw2, bw3])
 | (refine WG_br (fun h => ?_) (fun h => ?_) <;> (have h' := h; try simp at h'; simp [*, encI_len, cv53, shp0c, pExt, Prg.cells, ldQ, g1R, obQ, stQ, s1Q, ix3, ia3, ia28, bi3, bs0, bs01, bs02, bs012, bs013, bs014, bs0134, bs01234, bw1, bw2, bw3]))
 | (refine RG_br (fun h => ?_) (fun h => ?_) <;> (have h' := h; try simp at h'; simp [*, encI_len, cv53, shp0c, pExt, Prg.cells, ldQ, g1R, obQ, stQ, s1Q, ix3, ia3, ia28, bi3, bs0, bs01, bs02, bs012, bs013, bs014, bs0134, bs01234, bw1, bw2, bw3]))
 | (apply call_p (TA.math _); rfl; rfl; simp [*, encI_len, cv53, shp0c, pExt, Prg.cells, ldQ, g1R, obQ, stQ, s1Q, ix3, ia3, ia28, bi3, bs0, bs01, bs02, bs012, bs013, bs014, bs0134, bs01234, bw1, bw2, bw3])
 | (apply call_p (TA.word _ _ _ _); rfl; rfl; simp [*, encI_len, cv53, shp0c, pExt, Prg.cells, ldQ, g1R, obQ, stQ, s1Q, ix3, ia3, ia28, bi3, bs0, bs01, bs02, bs012, bs013, bs014, bs0134, bs01234, bw1, bw2, bw3])
 | (refine wv_eq (v := .agg shC) rfl ?_; simp [*, encI_len, cv53, shp0c, pExt, Prg.cells, ldQ, g1R, obQ, stQ, s1Q, ix3, ia3, ia28, bi3, bs0, bs01, bs02, bs012, bs013, bs014, bs0134, bs01234, bw1, bw2, bw3])
 | (refine wl_stAll rfl lk125 rfl rfl rfl rfl ?_; simp [*, encI_len, cv53, shp0c, pExt, Prg.cells, ldQ, g1R, obQ, stQ, s1Q, ix3, ia3, ia28, bi3, bs0, bs01, bs02, bs012, bs013, bs014, bs0134, bs01234, bw1, bw2, bw3])
 | refine And.intro (by omega) ?_
 | (refine wl_box rfl ?_; simp [*, encI_len, cv53, shp0c, pExt, Prg.cells, ldQ, g1R, obQ, stQ, s1Q, ix3, ia3, ia28, bi3, bs0, bs01, bs02, bs012, bs013, bs014, bs0134, bs01234, bw1, bw2, bw3])
 | (refine wl_alloc rfl ?_; simp [*, encI_len, cv53, shp0c, pExt, Prg.cells, ldQ, g1R, obQ, stQ, s1Q, ix3, ia3, ia28, bi3, bs0, bs01, bs02, bs012, bs013, bs014, bs0134, bs01234, bw1, bw2, bw3])
 | (refine wr_box rfl ?_; simp [*, encI_len, cv53, shp0c, pExt, Prg.cells, ldQ, g1R, obQ, stQ, s1Q, ix3, ia3, ia28, bi3, bs0, bs01, bs02, bs012, bs013, bs014, bs0134, bs01234, bw1, bw2, bw3])
 | (refine wr_alloc rfl ?_; simp [*, encI_len, cv53, shp0c, pExt, Prg.cells, ldQ, g1R, obQ, stQ, s1Q, ix3, ia3, ia28, bi3, bs0, bs01, bs02, bs012, bs013, bs014, bs0134, bs01234, bw1, bw2, bw3])
 | (refine wl_store ?_; simp [*, encI_len, cv53, shp0c, pExt, Prg.cells, ldQ, g1R, obQ, stQ, s1Q, ix3, ia3, ia28, bi3, bs0, bs01, bs02, bs012, bs013, bs014, bs0134, bs01234, bw1, bw2, bw3])
 | (refine wr_store ?_; simp [*, encI_len, cv53, shp0c, pExt, Prg.cells, ldQ, g1R, obQ, stQ, s1Q, ix3, ia3, ia28, bi3, bs0, bs01, bs02, bs012, bs013, bs014, bs0134, bs01234, bw1, bw2, bw3])
 | (show Wl _ _ _ _ _ _; simp [*, encI_len, cv53, shp0c, pExt, Prg.cells, ldQ, g1R, obQ, stQ, s1Q, ix3, ia3, ia28, bi3, bs0, bs01, bs02, bs012, bs013, bs014, bs0134, bs01234, bw1, bw2, bw3])
 | (show Wr _ _ _ _ _ _ _; simp [*, encI_len, cv53, shp0c, pExt, Prg.cells, ldQ, g1R, obQ, stQ, s1Q, ix3, ia3, ia28, bi3, bs0, bs01, bs02, bs012, bs013, bs014, bs0134, bs01234, bw1, bw2, bw3])
 | refine kont (by assumption) ?_
 | with_reducible refine thenA_n ?_
 | with_reducible refine thenA_r ?_
 | with_reducible refine thenA_e ?_
 | with_reducible refine blockA_n ?_
 | with_reducible refine blockA_r ?_
 | with_reducible refine blockA_e ?_
 | with_reducible refine blockA_o rfl ?_
 | refine Awp_ifT rfl ?_
 | refine Awp_ifF rfl ?_
 | (refine Awp_if rfl (fun h => ?_) (fun h => ?_) <;> ((have h' := h; try simp at h') <;> try (have h2 := h; simp only [decide_eq_false_iff_not] at h2)))
 | with_reducible refine Awp_ret ?_
 | with_reducible refine Awp_skip ?_
 | with_reducible refine Awp_exit ?_
 | with_reducible refine Awp_block ?_)
 all_goals (subst hQ; first | refine endA_rL [] rfl rfl rfl rfl rfl ⟨?_, rfl⟩ | refine endA_nL [] rfl rfl rfl rfl rfl ⟨?_, rfl⟩)
 all_goals (rfl)

theorem idxc_m (hG : Good TA) (l : List (List Ins)) (hl : l.length < 1000000) : Meets 63 [.c (.ls (l.map encC)), .fn 51 []] ([]) (pq (fun r a => a = [] ∧ ∃ n : Int, r = nI n ∧ decide (0 ≤ n) = l.any (fun x => decide (60 < x.length))) []) := by
 refine meets_q hG Try.func63 rfl rfl ?_
 show Awp (env _ _) _ _ ((Try.f63).body.getD .skip) _ _
 unfold Try.f63
 dsimp only [Option.getD_some]
 unfold start
 generalize hQ : endA _ _ _ _ _ = Q
 repeat' (first
 | refine Awp_sq fun K hK => ?_
 | (refine Awp_reg rfl fun K hK => ?_; simp [*, encI_len, cv53, shp0c, pExt, Prg.cells, ldQ, g1R, obQ, stQ, s1Q, ix3, ia3, ia28, bi3, bs0, bs01, bs02, bs012, bs013, bs014, bs0134, bs01234, bw1, bw2, bw3])
 | (refine Awp_regD [] rfl rfl fun K hK => ?_; simp [*, encI_len, cv53, shp0c, pExt, Prg.cells, ldQ, g1R, obQ, stQ, s1Q, ix3, ia3, ia28, bi3, bs0, bs01, bs02, bs012, bs013, bs014, bs0134, bs01234, bw1, bw2, bw3])
 | (refine WG_br (fun h => ?_) (fun h => ?_) <;> (have h' := h; try simp at h'; simp [*, encI_len, cv53, shp0c, pExt, Prg.cells, ldQ, g1R, obQ, stQ, s1Q, ix3, ia3, ia28, bi3, bs0, bs01, bs02, bs012, bs013, bs014, bs0134, bs01234, bw1, bw2, bw3]))
 | (refine RG_br (fun h => ?_) (fun h => ?_) <;> (have h' := h; try simp at h'; simp [*, encI_len, cv53, shp0c, pExt, Prg.cells, ldQ, g1R, obQ, stQ, s1Q, ix3, ia3, ia28, bi3, bs0, bs01, bs02, bs012, bs013, bs014, bs0134, bs01234, bw1, bw2, bw3]))
 | (apply call_p (TA.long _); rfl; rfl; simp [*, encI_len, cv53, shp0c, pExt, Prg.cells, ldQ, g1R, obQ, stQ, s1Q, ix3, ia3, ia28, bi3, bs0, bs01, bs02, bs012, bs013, bs014, bs0134, bs01234, bw1, bw2, bw3])
 | refine And.intro (by omega) ?_
 | (refine wl_box rfl ?_; simp [*, encI_len, cv53, shp0c, pExt, Prg.cells, ldQ, g1R, obQ, stQ, s1Q, ix3, ia3, ia28, bi3, bs0, bs01, bs02, bs012, bs013, bs014, bs0134, bs01234, bw1, bw2, bw3])
 | (refine wl_alloc rfl ?_; simp [*, encI_len, cv53, shp0c, pExt, Prg.cells, ldQ, g1R, obQ, stQ, s1Q, ix3, ia3, ia28, bi3, bs0, bs01, bs02, bs012, bs013, bs014, bs0134, bs01234, bw1, bw2, bw3])
 | (refine wr_box rfl ?_; simp [*, encI_len, cv53, shp0c, pExt, Prg.cells, ldQ, g1R, obQ, stQ, s1Q, ix3, ia3, ia28, bi3, bs0, bs01, bs02, bs012, bs013, bs014, bs0134, bs01234, bw1, bw2, bw3])
 | (refine wr_alloc rfl ?_; simp [*, encI_len, cv53, shp0c, pExt, Prg.cells, ldQ, g1R, obQ, stQ, s1Q, ix3, ia3, ia28, bi3, bs0, bs01, bs02, bs012, bs013, bs014, bs0134, bs01234, bw1, bw2, bw3])
 | (refine wl_store ?_; simp [*, encI_len, cv53, shp0c, pExt, Prg.cells, ldQ, g1R, obQ, stQ, s1Q, ix3, ia3, ia28, bi3, bs0, bs01, bs02, bs012, bs013, bs014, bs0134, bs01234, bw1, bw2, bw3])
 | (refine wr_store ?_; simp [*, encI_len, cv53, shp0c, pExt, Prg.cells, ldQ, g1R, obQ, stQ, s1Q, ix3, ia3, ia28, bi3, bs0, bs01, bs02, bs012, bs013, bs014, bs0134, bs01234, bw1, bw2, bw3])
 | (show Wl _ _ _ _ _ _; simp [*, encI_len, cv53, shp0c, pExt, Prg.cells, ldQ, g1R, obQ, stQ, s1Q, ix3, ia3, ia28, bi3, bs0, bs01, bs02, bs012, bs013, bs014, bs0134, bs01234, bw1, bw2, bw3])
 | (show Wr _ _ _ _ _ _ _; simp [*, encI_len, cv53, shp0c, pExt, Prg.cells, ldQ, g1R, obQ, stQ, s1Q, ix3, ia3, ia28, bi3, bs0, bs01, bs02, bs012, bs013, bs014, bs0134, bs01234, bw1, bw2, bw3])
 | refine kont (by assumption) ?_
 | with_reducible refine thenA_n ?_
 | with_reducible refine thenA_r ?_
 | with_reducible refine thenA_e ?_
 | with_reducible refine blockA_n ?_
 | with_reducible refine blockA_r ?_
 | with_reducible refine blockA_e ?_
 | with_reducible refine blockA_o rfl ?_
 | refine Awp_ifT rfl ?_
 | refine Awp_ifF rfl ?_
 | (refine Awp_if rfl (fun h => ?_) (fun h => ?_) <;> ((have h' := h; try simp at h') <;> try (have h2 := h; simp only [decide_eq_false_iff_not] at h2)))
 | with_reducible refine Awp_ret ?_
 | with_reducible refine Awp_skip ?_
 | with_reducible refine Awp_exit ?_
 | with_reducible refine Awp_block ?_)
 refine Awp_loop (fun s => ∃ j : Nat, j ≤ l.length ∧ (∀ x ∈ l.take j, decide (60 < x.length) = false) ∧ s.m = [] ∧ s.A 0 = .c (.ls (l.map encC)) ∧ s.A 1 = .fn 51 [] ∧ s.A 7 = nI l.length ∧ s.A 8 = nI j) (fun s => match s.A 8 with | .c (.sc (.int _ n)) => l.length - n.toNat | _ => 0) (Gq.here ⟨0, by simp⟩) (fun s hs => ?_)
 obtain ⟨A, m⟩ := s
 obtain ⟨j, hj, hp, hm, a0, a1, a7, a8⟩ := hs
 dsimp only at hm a0 a1 a7 a8
 subst hm
 by_cases hlt : j < l.length
 case neg =>
  have hlt' : ¬ ((j : Int) < (l.length : Int)) := by omega
  have hall : l.any (fun x => decide (60 < x.length)) = false := by
   have : l.take j = l := List.take_of_length_le (by omega)
   rw [this] at hp
   simpa using hp
  repeat' (first
  | refine Awp_sq fun K hK => ?_
  | (refine Awp_reg rfl fun K hK => ?_; simp [*, encI_len, cv53, shp0c, pExt, Prg.cells, ldQ, g1R, obQ, stQ, s1Q, ix3, ia3, ia28, bi3, bs0, bs01, bs02, bs012, bs013, bs014, bs0134, bs01234, bw1, bw2, bw3])
  | (refine Awp_regD [] rfl rfl fun K hK => ?_; simp [*, encI_len, cv53, shp0c, pExt, Prg.cells, ldQ, g1R, obQ, stQ, s1Q, ix3, ia3, ia28, bi3, bs0, bs01, bs02, bs012, bs013, bs014, bs0134, bs01234, bw1, bw2, bw3])
  | (refine WG_br (fun h => ?_) (fun h => ?_) <;> (have h' := h; try simp at h'; simp [*, encI_len, cv53, shp0c, pExt, Prg.cells, ldQ, g1R, obQ, stQ, s1Q, ix3, ia3, ia28, bi3, bs0, bs01, bs02, bs012, bs013, bs014, bs0134, bs01234, bw1, bw2, bw3]))
  | (refine RG_br (fun h => ?_) (fun h => ?_) <;> (have h' := h; try simp at h'; simp [*, encI_len, cv53, shp0c, pExt, Prg.cells, ldQ, g1R, obQ, stQ, s1Q, ix3, ia3, ia28, bi3, bs0, bs01, bs02, bs012, bs013, bs014, bs0134, bs01234, bw1, bw2, bw3]))
  | (apply call_p (TA.long _); rfl; rfl; simp [*, encI_len, cv53, shp0c, pExt, Prg.cells, ldQ, g1R, obQ, stQ, s1Q, ix3, ia3, ia28, bi3, bs0, bs01, bs02, bs012, bs013, bs014, bs0134, bs01234, bw1, bw2, bw3])
  | refine And.intro (by omega) ?_
  | (refine wl_box rfl ?_; simp [*, encI_len, cv53, shp0c, pExt, Prg.cells, ldQ, g1R, obQ, stQ, s1Q, ix3, ia3, ia28, bi3, bs0, bs01, bs02, bs012, bs013, bs014, bs0134, bs01234, bw1, bw2, bw3])
  | (refine wl_alloc rfl ?_; simp [*, encI_len, cv53, shp0c, pExt, Prg.cells, ldQ, g1R, obQ, stQ, s1Q, ix3, ia3, ia28, bi3, bs0, bs01, bs02, bs012, bs013, bs014, bs0134, bs01234, bw1, bw2, bw3])
  | (refine wr_box rfl ?_; simp [*, encI_len, cv53, shp0c, pExt, Prg.cells, ldQ, g1R, obQ, stQ, s1Q, ix3, ia3, ia28, bi3, bs0, bs01, bs02, bs012, bs013, bs014, bs0134, bs01234, bw1, bw2, bw3])
  | (refine wr_alloc rfl ?_; simp [*, encI_len, cv53, shp0c, pExt, Prg.cells, ldQ, g1R, obQ, stQ, s1Q, ix3, ia3, ia28, bi3, bs0, bs01, bs02, bs012, bs013, bs014, bs0134, bs01234, bw1, bw2, bw3])
  | (refine wl_store ?_; simp [*, encI_len, cv53, shp0c, pExt, Prg.cells, ldQ, g1R, obQ, stQ, s1Q, ix3, ia3, ia28, bi3, bs0, bs01, bs02, bs012, bs013, bs014, bs0134, bs01234, bw1, bw2, bw3])
  | (refine wr_store ?_; simp [*, encI_len, cv53, shp0c, pExt, Prg.cells, ldQ, g1R, obQ, stQ, s1Q, ix3, ia3, ia28, bi3, bs0, bs01, bs02, bs012, bs013, bs014, bs0134, bs01234, bw1, bw2, bw3])
  | (show Wl _ _ _ _ _ _; simp [*, encI_len, cv53, shp0c, pExt, Prg.cells, ldQ, g1R, obQ, stQ, s1Q, ix3, ia3, ia28, bi3, bs0, bs01, bs02, bs012, bs013, bs014, bs0134, bs01234, bw1, bw2, bw3])
  | (show Wr _ _ _ _ _ _ _; simp [*, encI_len, cv53, shp0c, pExt, Prg.cells, ldQ, g1R, obQ, stQ, s1Q, ix3, ia3, ia28, bi3, bs0, bs01, bs02, bs012, bs013, bs014, bs0134, bs01234, bw1, bw2, bw3])
  | refine kont (by assumption) ?_
  | with_reducible refine thenA_n ?_
  | with_reducible refine thenA_r ?_
  | with_reducible refine thenA_e ?_
  | with_reducible refine blockA_n ?_
  | with_reducible refine blockA_r ?_
  | with_reducible refine blockA_e ?_
  | with_reducible refine blockA_o rfl ?_
  | refine Awp_ifT rfl ?_
  | refine Awp_ifF rfl ?_
  | (refine Awp_if rfl (fun h => ?_) (fun h => ?_) <;> ((have h' := h; try simp at h') <;> try (have h2 := h; simp only [decide_eq_false_iff_not] at h2)))
  | with_reducible refine Awp_ret ?_
  | with_reducible refine Awp_skip ?_
  | with_reducible refine Awp_exit ?_
  | with_reducible refine Awp_block ?_)
  all_goals (subst hQ; refine endA_rL [] rfl rfl rfl rfl rfl ?_; exact ⟨rfl, -1, rfl, by simpa using hall⟩)
 have hlt' : ((j : Int) < (l.length : Int)) := by omega
 obtain ⟨x, hx⟩ : ∃ x, l[j]? = some x := ⟨l[j], by simp [hlt]⟩
 have hx2 : l[(j : Int).toNat]? = some x := hx
 have h0 : (0 : Int) ≤ (j : Int) := by omega
 cases hpx : (decide (60 < x.length) : Bool) with
 | true =>
  have hany : l.any (fun x => decide (60 < x.length)) = true := by
   rw [List.any_eq_true]
   exact ⟨x, List.mem_of_getElem? hx, by simpa using hpx⟩
  clear hlt
  repeat' (first
  | refine Awp_sq fun K hK => ?_
  | (refine Awp_reg rfl fun K hK => ?_; simp [*, encI_len, cv53, shp0c, pExt, Prg.cells, ldQ, g1R, obQ, stQ, s1Q, ix3, ia3, ia28, bi3, bs0, bs01, bs02, bs012, bs013, bs014, bs0134, bs01234, bw1, bw2, bw3])
  | (refine Awp_regD [] rfl rfl fun K hK => ?_; simp [*, encI_len, cv53, shp0c, pExt, Prg.cells, ldQ, g1R, obQ, stQ, s1Q, ix3, ia3, ia28, bi3, bs0, bs01, bs02, bs012, bs013, bs014, bs0134, bs01234, bw1, bw2, bw3])
  | (refine WG_br (fun h => ?_) (fun h => ?_) <;> (have h' := h; try simp at h'; simp [*, encI_len, cv53, shp0c, pExt, Prg.cells, ldQ, g1R, obQ, stQ, s1Q, ix3, ia3, ia28, bi3, bs0, bs01, bs02, bs012, bs013, bs014, bs0134, bs01234, bw1, bw2, bw3]))
  | (refine RG_br (fun h => ?_) (fun h => ?_) <;> (have h' := h; try simp at h'; simp [*, encI_len, cv53, shp0c, pExt, Prg.cells, ldQ, g1R, obQ, stQ, s1Q, ix3, ia3, ia28, bi3, bs0, bs01, bs02, bs012, bs013, bs014, bs0134, bs01234, bw1, bw2, bw3]))
  | (apply call_p (TA.long _); rfl; rfl; simp [*, encI_len, cv53, shp0c, pExt, Prg.cells, ldQ, g1R, obQ, stQ, s1Q, ix3, ia3, ia28, bi3, bs0, bs01, bs02, bs012, bs013, bs014, bs0134, bs01234, bw1, bw2, bw3])
  | refine And.intro (by omega) ?_
  | (refine wl_box rfl ?_; simp [*, encI_len, cv53, shp0c, pExt, Prg.cells, ldQ, g1R, obQ, stQ, s1Q, ix3, ia3, ia28, bi3, bs0, bs01, bs02, bs012, bs013, bs014, bs0134, bs01234, bw1, bw2, bw3])
  | (refine wl_alloc rfl ?_; simp [*, encI_len, cv53, shp0c, pExt, Prg.cells, ldQ, g1R, obQ, stQ, s1Q, ix3, ia3, ia28, bi3, bs0, bs01, bs02, bs012, bs013, bs014, bs0134, bs01234, bw1, bw2, bw3])
  | (refine wr_box rfl ?_; simp [*, encI_len, cv53, shp0c, pExt, Prg.cells, ldQ, g1R, obQ, stQ, s1Q, ix3, ia3, ia28, bi3, bs0, bs01, bs02, bs012, bs013, bs014, bs0134, bs01234, bw1, bw2, bw3])
  | (refine wr_alloc rfl ?_; simp [*, encI_len, cv53, shp0c, pExt, Prg.cells, ldQ, g1R, obQ, stQ, s1Q, ix3, ia3, ia28, bi3, bs0, bs01, bs02, bs012, bs013, bs014, bs0134, bs01234, bw1, bw2, bw3])
  | (refine wl_store ?_; simp [*, encI_len, cv53, shp0c, pExt, Prg.cells, ldQ, g1R, obQ, stQ, s1Q, ix3, ia3, ia28, bi3, bs0, bs01, bs02, bs012, bs013, bs014, bs0134, bs01234, bw1, bw2, bw3])
  | (refine wr_store ?_; simp [*, encI_len, cv53, shp0c, pExt, Prg.cells, ldQ, g1R, obQ, stQ, s1Q, ix3, ia3, ia28, bi3, bs0, bs01, bs02, bs012, bs013, bs014, bs0134, bs01234, bw1, bw2, bw3])
  | (show Wl _ _ _ _ _ _; simp [*, encI_len, cv53, shp0c, pExt, Prg.cells, ldQ, g1R, obQ, stQ, s1Q, ix3, ia3, ia28, bi3, bs0, bs01, bs02, bs012, bs013, bs014, bs0134, bs01234, bw1, bw2, bw3])
  | (show Wr _ _ _ _ _ _ _; simp [*, encI_len, cv53, shp0c, pExt, Prg.cells, ldQ, g1R, obQ, stQ, s1Q, ix3, ia3, ia28, bi3, bs0, bs01, bs02, bs012, bs013, bs014, bs0134, bs01234, bw1, bw2, bw3])
  | refine kont (by assumption) ?_
  | with_reducible refine thenA_n ?_
  | with_reducible refine thenA_r ?_
  | with_reducible refine thenA_e ?_
  | with_reducible refine blockA_n ?_
  | with_reducible refine blockA_r ?_
  | with_reducible refine blockA_e ?_
  | with_reducible refine blockA_o rfl ?_
  | refine Awp_ifT rfl ?_
  | refine Awp_ifF rfl ?_
  | (refine Awp_if rfl (fun h => ?_) (fun h => ?_) <;> ((have h' := h; try simp at h') <;> try (have h2 := h; simp only [decide_eq_false_iff_not] at h2)))
  | with_reducible refine Awp_ret ?_
  | with_reducible refine Awp_skip ?_
  | with_reducible refine Awp_exit ?_
  | with_reducible refine Awp_block ?_)
  all_goals (subst hQ; refine endA_rL [] rfl rfl rfl rfl rfl ?_; exact ⟨rfl, j, rfl, by rw [hany]; simp⟩)
 | false =>
  have hp2 : ∀ y ∈ l.take (j + 1), (fun x => decide (60 < x.length)) y = false := fun y hy => by
   rw [List.take_add_one, hx] at hy
   simp only [Option.toList_some, List.mem_append, List.mem_singleton] at hy
   rcases hy with hy | rfl
   · exact hp y hy
   · exact hpx
  have hw : IntKind.i64.wrap ((j : Int) + 1) = ((j + 1 : Nat) : Int) := wrap_small (by omega) (by omega)
  have hdec : l.length - (j + 1) < l.length - j := by omega
  clear hlt
  repeat' (first
  | refine Awp_sq fun K hK => ?_
  | (refine Awp_reg rfl fun K hK => ?_; simp [*, encI_len, cv53, shp0c, pExt, Prg.cells, ldQ, g1R, obQ, stQ, s1Q, ix3, ia3, ia28, bi3, bs0, bs01, bs02, bs012, bs013, bs014, bs0134, bs01234, bw1, bw2, bw3])
  | (refine Awp_regD [] rfl rfl fun K hK => ?_; simp [*, encI_len, cv53, shp0c, pExt, Prg.cells, ldQ, g1R, obQ, stQ, s1Q, ix3, ia3, ia28, bi3, bs0, bs01, bs02, bs012, bs013, bs014, bs0134, bs01234, bw1, bw2, bw3])
  | (refine WG_br (fun h => ?_) (fun h => ?_) <;> (have h' := h; try simp at h'; simp [*, encI_len, cv53, shp0c, pExt, Prg.cells, ldQ, g1R, obQ, stQ, s1Q, ix3, ia3, ia28, bi3, bs0, bs01, bs02, bs012, bs013, bs014, bs0134, bs01234, bw1, bw2, bw3]))
  | (refine RG_br (fun h => ?_) (fun h => ?_) <;> (have h' := h; try simp at h'; simp [*, encI_len, cv53, shp0c, pExt, Prg.cells, ldQ, g1R, obQ, stQ, s1Q, ix3, ia3, ia28, bi3, bs0, bs01, bs02, bs012, bs013, bs014, bs0134, bs01234, bw1, bw2, bw3]))
  | (apply call_p (TA.long _); rfl; rfl; simp [*, encI_len, cv53, shp0c, pExt, Prg.cells, ldQ, g1R, obQ, stQ, s1Q, ix3, ia3, ia28, bi3, bs0, bs01, bs02, bs012, bs013, bs014, bs0134, bs01234, bw1, bw2, bw3])
  | refine And.intro (by omega) ?_
  | (refine wl_box rfl ?_; simp [*, encI_len, cv53, shp0c, pExt, Prg.cells, ldQ, g1R, obQ, stQ, s1Q, ix3, ia3, ia28, bi3, bs0, bs01, bs02, bs012, bs013, bs014, bs0134, bs01234, bw1, bw2, bw3])
  | (refine wl_alloc rfl ?_; simp [*, encI_len, cv53, shp0c, pExt, Prg.cells, ldQ, g1R, obQ, stQ, s1Q, ix3, ia3, ia28, bi3, bs0, bs01, bs02, bs012, bs013, bs014, bs0134, bs01234, bw1, bw2, bw3])
  | (refine wr_box rfl ?_; simp [*, encI_len, cv53, shp0c, pExt, Prg.cells, ldQ, g1R, obQ, stQ, s1Q, ix3, ia3, ia28, bi3, bs0, bs01, bs02, bs012, bs013, bs014, bs0134, bs01234, bw1, bw2, bw3])
  | (refine wr_alloc rfl ?_; simp [*, encI_len, cv53, shp0c, pExt, Prg.cells, ldQ, g1R, obQ, stQ, s1Q, ix3, ia3, ia28, bi3, bs0, bs01, bs02, bs012, bs013, bs014, bs0134, bs01234, bw1, bw2, bw3])
  | (refine wl_store ?_; simp [*, encI_len, cv53, shp0c, pExt, Prg.cells, ldQ, g1R, obQ, stQ, s1Q, ix3, ia3, ia28, bi3, bs0, bs01, bs02, bs012, bs013, bs014, bs0134, bs01234, bw1, bw2, bw3])
  | (refine wr_store ?_; simp [*, encI_len, cv53, shp0c, pExt, Prg.cells, ldQ, g1R, obQ, stQ, s1Q, ix3, ia3, ia28, bi3, bs0, bs01, bs02, bs012, bs013, bs014, bs0134, bs01234, bw1, bw2, bw3])
  | (show Wl _ _ _ _ _ _; simp [*, encI_len, cv53, shp0c, pExt, Prg.cells, ldQ, g1R, obQ, stQ, s1Q, ix3, ia3, ia28, bi3, bs0, bs01, bs02, bs012, bs013, bs014, bs0134, bs01234, bw1, bw2, bw3])
  | (show Wr _ _ _ _ _ _ _; simp [*, encI_len, cv53, shp0c, pExt, Prg.cells, ldQ, g1R, obQ, stQ, s1Q, ix3, ia3, ia28, bi3, bs0, bs01, bs02, bs012, bs013, bs014, bs0134, bs01234, bw1, bw2, bw3])
  | refine kont (by assumption) ?_
  | with_reducible refine thenA_n ?_
  | with_reducible refine thenA_r ?_
  | with_reducible refine thenA_e ?_
  | with_reducible refine blockA_n ?_
  | with_reducible refine blockA_r ?_
  | with_reducible refine blockA_e ?_
  | with_reducible refine blockA_o rfl ?_
  | refine Awp_ifT rfl ?_
  | refine Awp_ifF rfl ?_
  | (refine Awp_if rfl (fun h => ?_) (fun h => ?_) <;> ((have h' := h; try simp at h') <;> try (have h2 := h; simp only [decide_eq_false_iff_not] at h2)))
  | with_reducible refine Awp_ret ?_
  | with_reducible refine Awp_skip ?_
  | with_reducible refine Awp_exit ?_
  | with_reducible refine Awp_block ?_)
  all_goals (refine Gq.here ?_; refine ⟨⟨j + 1, by omega, hp2, rfl, ?_, ?_, ?_, ?_⟩, ?_⟩ <;> simp [*])

inductive TB : Spec
 | cap (n : Int) : TB 55 [nI n] ([]) (pt (nB (outF n 1 3)) [] [])
 | shapes  : TB 66 [] ([]) (pt (.agg shC) [] [])
 | idxc (l : List (List Ins)) (hl : l.length < 1000000) : TB 63 [.c (.ls (l.map encC)), .fn 51 []] ([]) (pq (fun r a => a = [] ∧ ∃ n : Int, r = nI n ∧ decide (0 ≤ n) = l.any (fun x => decide (60 < x.length))) [])
theorem TB_good : Good TB := by
 refine ⟨fun f a m P h => ?_, fun f a m P h => ?_⟩
 · cases h with
   | cap n => exact cap_m TA_good n
   | shapes  => exact shapes_m TA_good
   | idxc l hl => exact idxc_m TA_good l hl
 · cases h with
   | cap _ => exact ⟨_, Try.func55, rfl, rfl⟩
   | shapes  => exact ⟨_, Try.func66, rfl, rfl⟩
   | idxc _ _ => exact ⟨_, Try.func63, rfl, rfl⟩

end Go.Proofs.YtogfcpaalcebdaaE
/- What ir.Sound computes, walked. -/
namespace Go.Proofs.YtogfcpaalcebdaaE
open Go Go.RowKit
set_option linter.unusedVariables false
set_option linter.unusedSimpArgs false
set_option maxRecDepth 1000000
set_option maxHeartbeats 8000000
theorem idxn_m (hG : Good TB) (l : List (Int)) (hl : l.length < 1000000) : Meets 64 [.c (.ls (encI l)), .fn 55 []] ([]) (pq (fun r a => a = [] ∧ ∃ n : Int, r = nI n ∧ decide (0 ≤ n) = l.any (fun x => outF x 1 3)) []) := by
 refine meets_q hG Try.func64 rfl rfl ?_
 show Awp (env _ _) _ _ ((Try.f64).body.getD .skip) _ _
 unfold Try.f64
 dsimp only [Option.getD_some]
 unfold start
 generalize hQ : endA _ _ _ _ _ = Q
 repeat' (first
 | refine Awp_sq fun K hK => ?_
 | (refine Awp_reg rfl fun K hK => ?_; simp [*, encI_len, cv53, shp0c, pExt, Prg.cells, ldQ, g1R, obQ, stQ, s1Q, ix3, ia3, ia28, bi3, bs0, bs01, bs02, bs012, bs013, bs014, bs0134, bs01234, bw1, bw2, bw3])
 | (refine Awp_regD [] rfl rfl fun K hK => ?_; simp [*, encI_len, cv53, shp0c, pExt, Prg.cells, ldQ, g1R, obQ, stQ, s1Q, ix3, ia3, ia28, bi3, bs0, bs01, bs02, bs012, bs013, bs014, bs0134, bs01234, bw1, bw2, bw3])
 | (refine WG_br (fun h => ?_) (fun h => ?_) <;> (have h' := h; try simp at h'; simp [*, encI_len, cv53, shp0c, pExt, Prg.cells, ldQ, g1R, obQ, stQ, s1Q, ix3, ia3, ia28, bi3, bs0, bs01, bs02, bs012, bs013, bs014, bs0134, bs01234, bw1, bw2, bw3]))
 | (refine RG_br (fun h => ?_) (fun h => ?_) <;> (have h' := h; try simp at h'; simp [*, encI_len, cv53, shp0c, pExt, Prg.cells, ldQ, g1R, obQ, stQ, s1Q, ix3, ia3, ia28, bi3, bs0, bs01, bs02, bs012, bs013, bs014, bs0134, bs01234, bw1, bw2, bw3]))
 | (apply call_p (TB.cap _); rfl; rfl; simp [*, encI_len, cv53, shp0c, pExt, Prg.cells, ldQ, g1R, obQ, stQ, s1Q, ix3, ia3, ia28, bi3, bs0, bs01, bs02, bs012, bs013, bs014, bs0134, bs01234, bw1, bw2, bw3])
 | refine And.intro (by omega) ?_
 | (refine wl_box rfl ?_; simp [*, encI_len, cv53, shp0c, pExt, Prg.cells, ldQ, g1R, obQ, stQ, s1Q, ix3, ia3, ia28, bi3, bs0, bs01, bs02, bs012, bs013, bs014, bs0134, bs01234, bw1, bw2, bw3])
 | (refine wl_alloc rfl ?_; simp [*, encI_len, cv53, shp0c, pExt, Prg.cells, ldQ, g1R, obQ, stQ, s1Q, ix3, ia3, ia28, bi3, bs0, bs01, bs02, bs012, bs013, bs014, bs0134, bs01234, bw1, bw2, bw3])
 | (refine wr_box rfl ?_; simp [*, encI_len, cv53, shp0c, pExt, Prg.cells, ldQ, g1R, obQ, stQ, s1Q, ix3, ia3, ia28, bi3, bs0, bs01, bs02, bs012, bs013, bs014, bs0134, bs01234, bw1, bw2, bw3])
 | (refine wr_alloc rfl ?_; simp [*, encI_len, cv53, shp0c, pExt, Prg.cells, ldQ, g1R, obQ, stQ, s1Q, ix3, ia3, ia28, bi3, bs0, bs01, bs02, bs012, bs013, bs014, bs0134, bs01234, bw1, bw2, bw3])
 | (refine wl_store ?_; simp [*, encI_len, cv53, shp0c, pExt, Prg.cells, ldQ, g1R, obQ, stQ, s1Q, ix3, ia3, ia28, bi3, bs0, bs01, bs02, bs012, bs013, bs014, bs0134, bs01234, bw1, bw2, bw3])
 | (refine wr_store ?_; simp [*, encI_len, cv53, shp0c, pExt, Prg.cells, ldQ, g1R, obQ, stQ, s1Q, ix3, ia3, ia28, bi3, bs0, bs01, bs02, bs012, bs013, bs014, bs0134, bs01234, bw1, bw2, bw3])
 | (show Wl _ _ _ _ _ _; simp [*, encI_len, cv53, shp0c, pExt, Prg.cells, ldQ, g1R, obQ, stQ, s1Q, ix3, ia3, ia28, bi3, bs0, bs01, bs02, bs012, bs013, bs014, bs0134, bs01234, bw1, bw2, bw3])
 | (show Wr _ _ _ _ _ _ _; simp [*, encI_len, cv53, shp0c, pExt, Prg.cells, ldQ, g1R, obQ, stQ, s1Q, ix3, ia3, ia28, bi3, bs0, bs01, bs02, bs012, bs013, bs014, bs0134, bs01234, bw1, bw2, bw3])
 | refine kont (by assumption) ?_
 | with_reducible refine thenA_n ?_
 | with_reducible refine thenA_r ?_
 | with_reducible refine thenA_e ?_
 | with_reducible refine blockA_n ?_
 | with_reducible refine blockA_r ?_
 | with_reducible refine blockA_e ?_
 | with_reducible refine blockA_o rfl ?_
 | refine Awp_ifT rfl ?_
 | refine Awp_ifF rfl ?_
 | (refine Awp_if rfl (fun h => ?_) (fun h => ?_) <;> ((have h' := h; try simp at h') <;> try (have h2 := h; simp only [decide_eq_false_iff_not] at h2)))
 | with_reducible refine Awp_ret ?_
 | with_reducible refine Awp_skip ?_
 | with_reducible refine Awp_exit ?_
 | with_reducible refine Awp_block ?_)
 refine Awp_loop (fun s => ∃ j : Nat, j ≤ l.length ∧ (∀ x ∈ l.take j, outF x 1 3 = false) ∧ s.m = [] ∧ s.A 0 = .c (.ls (encI l)) ∧ s.A 1 = .fn 55 [] ∧ s.A 7 = nI l.length ∧ s.A 8 = nI j) (fun s => match s.A 8 with | .c (.sc (.int _ n)) => l.length - n.toNat | _ => 0) (Gq.here ⟨0, by simp⟩) (fun s hs => ?_)
 obtain ⟨A, m⟩ := s
 obtain ⟨j, hj, hp, hm, a0, a1, a7, a8⟩ := hs
 dsimp only at hm a0 a1 a7 a8
 subst hm
 by_cases hlt : j < l.length
 case neg =>
  have hlt' : ¬ ((j : Int) < (l.length : Int)) := by omega
  have hall : l.any (fun x => outF x 1 3) = false := by
   have : l.take j = l := List.take_of_length_le (by omega)
   rw [this] at hp
   simpa using hp
  repeat' (first
  | refine Awp_sq fun K hK => ?_
  | (refine Awp_reg rfl fun K hK => ?_; simp [*, encI_len, cv53, shp0c, pExt, Prg.cells, ldQ, g1R, obQ, stQ, s1Q, ix3, ia3, ia28, bi3, bs0, bs01, bs02, bs012, bs013, bs014, bs0134, bs01234, bw1, bw2, bw3])
  | (refine Awp_regD [] rfl rfl fun K hK => ?_; simp [*, encI_len, cv53, shp0c, pExt, Prg.cells, ldQ, g1R, obQ, stQ, s1Q, ix3, ia3, ia28, bi3, bs0, bs01, bs02, bs012, bs013, bs014, bs0134, bs01234, bw1, bw2, bw3])
  | (refine WG_br (fun h => ?_) (fun h => ?_) <;> (have h' := h; try simp at h'; simp [*, encI_len, cv53, shp0c, pExt, Prg.cells, ldQ, g1R, obQ, stQ, s1Q, ix3, ia3, ia28, bi3, bs0, bs01, bs02, bs012, bs013, bs014, bs0134, bs01234, bw1, bw2, bw3]))
  | (refine RG_br (fun h => ?_) (fun h => ?_) <;> (have h' := h; try simp at h'; simp [*, encI_len, cv53, shp0c, pExt, Prg.cells, ldQ, g1R, obQ, stQ, s1Q, ix3, ia3, ia28, bi3, bs0, bs01, bs02, bs012, bs013, bs014, bs0134, bs01234, bw1, bw2, bw3]))
  | (apply call_p (TB.cap _); rfl; rfl; simp [*, encI_len, cv53, shp0c, pExt, Prg.cells, ldQ, g1R, obQ, stQ, s1Q, ix3, ia3, ia28, bi3, bs0, bs01, bs02, bs012, bs013, bs014, bs0134, bs01234, bw1, bw2, bw3])
  | refine And.intro (by omega) ?_
  | (refine wl_box rfl ?_; simp [*, encI_len, cv53, shp0c, pExt, Prg.cells, ldQ, g1R, obQ, stQ, s1Q, ix3, ia3, ia28, bi3, bs0, bs01, bs02, bs012, bs013, bs014, bs0134, bs01234, bw1, bw2, bw3])
  | (refine wl_alloc rfl ?_; simp [*, encI_len, cv53, shp0c, pExt, Prg.cells, ldQ, g1R, obQ, stQ, s1Q, ix3, ia3, ia28, bi3, bs0, bs01, bs02, bs012, bs013, bs014, bs0134, bs01234, bw1, bw2, bw3])
  | (refine wr_box rfl ?_; simp [*, encI_len, cv53, shp0c, pExt, Prg.cells, ldQ, g1R, obQ, stQ, s1Q, ix3, ia3, ia28, bi3, bs0, bs01, bs02, bs012, bs013, bs014, bs0134, bs01234, bw1, bw2, bw3])
  | (refine wr_alloc rfl ?_; simp [*, encI_len, cv53, shp0c, pExt, Prg.cells, ldQ, g1R, obQ, stQ, s1Q, ix3, ia3, ia28, bi3, bs0, bs01, bs02, bs012, bs013, bs014, bs0134, bs01234, bw1, bw2, bw3])
  | (refine wl_store ?_; simp [*, encI_len, cv53, shp0c, pExt, Prg.cells, ldQ, g1R, obQ, stQ, s1Q, ix3, ia3, ia28, bi3, bs0, bs01, bs02, bs012, bs013, bs014, bs0134, bs01234, bw1, bw2, bw3])
  | (refine wr_store ?_; simp [*, encI_len, cv53, shp0c, pExt, Prg.cells, ldQ, g1R, obQ, stQ, s1Q, ix3, ia3, ia28, bi3, bs0, bs01, bs02, bs012, bs013, bs014, bs0134, bs01234, bw1, bw2, bw3])
  | (show Wl _ _ _ _ _ _; simp [*, encI_len, cv53, shp0c, pExt, Prg.cells, ldQ, g1R, obQ, stQ, s1Q, ix3, ia3, ia28, bi3, bs0, bs01, bs02, bs012, bs013, bs014, bs0134, bs01234, bw1, bw2, bw3])
  | (show Wr _ _ _ _ _ _ _; simp [*, encI_len, cv53, shp0c, pExt, Prg.cells, ldQ, g1R, obQ, stQ, s1Q, ix3, ia3, ia28, bi3, bs0, bs01, bs02, bs012, bs013, bs014, bs0134, bs01234, bw1, bw2, bw3])
  | refine kont (by assumption) ?_
  | with_reducible refine thenA_n ?_
  | with_reducible refine thenA_r ?_
  | with_reducible refine thenA_e ?_
  | with_reducible refine blockA_n ?_
  | with_reducible refine blockA_r ?_
  | with_reducible refine blockA_e ?_
  | with_reducible refine blockA_o rfl ?_
  | refine Awp_ifT rfl ?_
  | refine Awp_ifF rfl ?_
  | (refine Awp_if rfl (fun h => ?_) (fun h => ?_) <;> ((have h' := h; try simp at h') <;> try (have h2 := h; simp only [decide_eq_false_iff_not] at h2)))
  | with_reducible refine Awp_ret ?_
  | with_reducible refine Awp_skip ?_
  | with_reducible refine Awp_exit ?_
  | with_reducible refine Awp_block ?_)
  all_goals (subst hQ; refine endA_rL [] rfl rfl rfl rfl rfl ?_; exact ⟨rfl, -1, rfl, by simpa using hall⟩)
 have hlt' : ((j : Int) < (l.length : Int)) := by omega
 obtain ⟨x, hx⟩ : ∃ x, l[j]? = some x := ⟨l[j], by simp [hlt]⟩
 have hx2 : l[(j : Int).toNat]? = some x := hx
 have h0 : (0 : Int) ≤ (j : Int) := by omega
 cases hpx : (outF x 1 3 : Bool) with
 | true =>
  have hany : l.any (fun x => outF x 1 3) = true := by
   rw [List.any_eq_true]
   exact ⟨x, List.mem_of_getElem? hx, by simpa using hpx⟩
  clear hlt
  repeat' (first
  | refine Awp_sq fun K hK => ?_
  | (refine Awp_reg rfl fun K hK => ?_; simp [*, encI_len, cv53, shp0c, pExt, Prg.cells, ldQ, g1R, obQ, stQ, s1Q, ix3, ia3, ia28, bi3, bs0, bs01, bs02, bs012, bs013, bs014, bs0134, bs01234, bw1, bw2, bw3])
  | (refine Awp_regD [] rfl rfl fun K hK => ?_; simp [*, encI_len, cv53, shp0c, pExt, Prg.cells, ldQ, g1R, obQ, stQ, s1Q, ix3, ia3, ia28, bi3, bs0, bs01, bs02, bs012, bs013, bs014, bs0134, bs01234, bw1, bw2, bw3])
  | (refine WG_br (fun h => ?_) (fun h => ?_) <;> (have h' := h; try simp at h'; simp [*, encI_len, cv53, shp0c, pExt, Prg.cells, ldQ, g1R, obQ, stQ, s1Q, ix3, ia3, ia28, bi3, bs0, bs01, bs02, bs012, bs013, bs014, bs0134, bs01234, bw1, bw2, bw3]))
  | (refine RG_br (fun h => ?_) (fun h => ?_) <;> (have h' := h; try simp at h'; simp [*, encI_len, cv53, shp0c, pExt, Prg.cells, ldQ, g1R, obQ, stQ, s1Q, ix3, ia3, ia28, bi3, bs0, bs01, bs02, bs012, bs013, bs014, bs0134, bs01234, bw1, bw2, bw3]))
  | (apply call_p (TB.cap _); rfl; rfl; simp [*, encI_len, cv53, shp0c, pExt, Prg.cells, ldQ, g1R, obQ, stQ, s1Q, ix3, ia3, ia28, bi3, bs0, bs01, bs02, bs012, bs013, bs014, bs0134, bs01234, bw1, bw2, bw3])
  | refine And.intro (by omega) ?_
  | (refine wl_box rfl ?_; simp [*, encI_len, cv53, shp0c, pExt, Prg.cells, ldQ, g1R, obQ, stQ, s1Q, ix3, ia3, ia28, bi3, bs0, bs01, bs02, bs012, bs013, bs014, bs0134, bs01234, bw1, bw2, bw3])
  | (refine wl_alloc rfl ?_; simp [*, encI_len, cv53, shp0c, pExt, Prg.cells, ldQ, g1R, obQ, stQ, s1Q, ix3, ia3, ia28, bi3, bs0, bs01, bs02, bs012, bs013, bs014, bs0134, bs01234, bw1, bw2, bw3])
  | (refine wr_box rfl ?_; simp [*, encI_len, cv53, shp0c, pExt, Prg.cells, ldQ, g1R, obQ, stQ, s1Q, ix3, ia3, ia28, bi3, bs0, bs01, bs02, bs012, bs013, bs014, bs0134, bs01234, bw1, bw2, bw3])
  | (refine wr_alloc rfl ?_; simp [*, encI_len, cv53, shp0c, pExt, Prg.cells, ldQ, g1R, obQ, stQ, s1Q, ix3, ia3, ia28, bi3, bs0, bs01, bs02, bs012, bs013, bs014, bs0134, bs01234, bw1, bw2, bw3])
  | (refine wl_store ?_; simp [*, encI_len, cv53, shp0c, pExt, Prg.cells, ldQ, g1R, obQ, stQ, s1Q, ix3, ia3, ia28, bi3, bs0, bs01, bs02, bs012, bs013, bs014, bs0134, bs01234, bw1, bw2, bw3])
  | (refine wr_store ?_; simp [*, encI_len, cv53, shp0c, pExt, Prg.cells, ldQ, g1R, obQ, stQ, s1Q, ix3, ia3, ia28, bi3, bs0, bs01, bs02, bs012, bs013, bs014, bs0134, bs01234, bw1, bw2, bw3])
  | (show Wl _ _ _ _ _ _; simp [*, encI_len, cv53, shp0c, pExt, Prg.cells, ldQ, g1R, obQ, stQ, s1Q, ix3, ia3, ia28, bi3, bs0, bs01, bs02, bs012, bs013, bs014, bs0134, bs01234, bw1, bw2, bw3])
  | (show Wr _ _ _ _ _ _ _; simp [*, encI_len, cv53, shp0c, pExt, Prg.cells, ldQ, g1R, obQ, stQ, s1Q, ix3, ia3, ia28, bi3, bs0, bs01, bs02, bs012, bs013, bs014, bs0134, bs01234, bw1, bw2, bw3])
  | refine kont (by assumption) ?_
  | with_reducible refine thenA_n ?_
  | with_reducible refine thenA_r ?_
  | with_reducible refine thenA_e ?_
  | with_reducible refine blockA_n ?_
  | with_reducible refine blockA_r ?_
  | with_reducible refine blockA_e ?_
  | with_reducible refine blockA_o rfl ?_
  | refine Awp_ifT rfl ?_
  | refine Awp_ifF rfl ?_
  | (refine Awp_if rfl (fun h => ?_) (fun h => ?_) <;> ((have h' := h; try simp at h') <;> try (have h2 := h; simp only [decide_eq_false_iff_not] at h2)))
  | with_reducible refine Awp_ret ?_
  | with_reducible refine Awp_skip ?_
  | with_reducible refine Awp_exit ?_
  | with_reducible refine Awp_block ?_)
  all_goals (subst hQ; refine endA_rL [] rfl rfl rfl rfl rfl ?_; exact ⟨rfl, j, rfl, by rw [hany]; simp⟩)
 | false =>
  have hp2 : ∀ y ∈ l.take (j + 1), (fun x => outF x 1 3) y = false := fun y hy => by
   rw [List.take_add_one, hx] at hy
   simp only [Option.toList_some, List.mem_append, List.mem_singleton] at hy
   rcases hy with hy | rfl
   · exact hp y hy
   · exact hpx
  have hw : IntKind.i64.wrap ((j : Int) + 1) = ((j + 1 : Nat) : Int) := wrap_small (by omega) (by omega)
  have hdec : l.length - (j + 1) < l.length - j := by omega
  clear hlt
  repeat' (first
  | refine Awp_sq fun K hK => ?_
  | (refine Awp_reg rfl fun K hK => ?_; simp [*, encI_len, cv53, shp0c, pExt, Prg.cells, ldQ, g1R, obQ, stQ, s1Q, ix3, ia3, ia28, bi3, bs0, bs01, bs02, bs012, bs013, bs014, bs0134, bs01234, bw1, bw2, bw3])
  | (refine Awp_regD [] rfl rfl fun K hK => ?_; simp [*, encI_len, cv53, shp0c, pExt, Prg.cells, ldQ, g1R, obQ, stQ, s1Q, ix3, ia3, ia28, bi3, bs0, bs01, bs02, bs012, bs013, bs014, bs0134, bs01234, bw1, bw2, bw3])
  | (refine WG_br (fun h => ?_) (fun h => ?_) <;> (have h' := h; try simp at h'; simp [*, encI_len, cv53, shp0c, pExt, Prg.cells, ldQ, g1R, obQ, stQ, s1Q, ix3, ia3, ia28, bi3, bs0, bs01, bs02, bs012, bs013, bs014, bs0134, bs01234, bw1, bw2, bw3]))
  | (refine RG_br (fun h => ?_) (fun h => ?_) <;> (have h' := h; try simp at h'; simp [*, encI_len, cv53, shp0c, pExt, Prg.cells, ldQ, g1R, obQ, stQ, s1Q, ix3, ia3, ia28, bi3, bs0, bs01, bs02, bs012, bs013, bs014, bs0134, bs01234, bw1, bw2, bw3]))
  | (apply call_p (TB.cap _); rfl; rfl; simp [*, encI_len, cv53, shp0c, pExt, Prg.cells, ldQ, g1R, obQ, stQ, s1Q, ix3, ia3, ia28, bi3, bs0, bs01, bs02, bs012, bs013, bs014, bs0134, bs01234, bw1, bw2, bw3])
  | refine And.intro (by omega) ?_
  | (refine wl_box rfl ?_; simp [*, encI_len, cv53, shp0c, pExt, Prg.cells, ldQ, g1R, obQ, stQ, s1Q, ix3, ia3, ia28, bi3, bs0, bs01, bs02, bs012, bs013, bs014, bs0134, bs01234, bw1, bw2, bw3])
  | (refine wl_alloc rfl ?_; simp [*, encI_len, cv53, shp0c, pExt, Prg.cells, ldQ, g1R, obQ, stQ, s1Q, ix3, ia3, ia28, bi3, bs0, bs01, bs02, bs012, bs013, bs014, bs0134, bs01234, bw1, bw2, bw3])
  | (refine wr_box rfl ?_; simp [*, encI_len, cv53, shp0c, pExt, Prg.cells, ldQ, g1R, obQ, stQ, s1Q, ix3, ia3, ia28, bi3, bs0, bs01, bs02, bs012, bs013, bs014, bs0134, bs01234, bw1, bw2, bw3])
  | (refine wr_alloc rfl ?_; simp [*, encI_len, cv53, shp0c, pExt, Prg.cells, ldQ, g1R, obQ, stQ, s1Q, ix3, ia3, ia28, bi3, bs0, bs01, bs02, bs012, bs013, bs014, bs0134, bs01234, bw1, bw2, bw3])
  | (refine wl_store ?_; simp [*, encI_len, cv53, shp0c, pExt, Prg.cells, ldQ, g1R, obQ, stQ, s1Q, ix3, ia3, ia28, bi3, bs0, bs01, bs02, bs012, bs013, bs014, bs0134, bs01234, bw1, bw2, bw3])
  | (refine wr_store ?_; simp [*, encI_len, cv53, shp0c, pExt, Prg.cells, ldQ, g1R, obQ, stQ, s1Q, ix3, ia3, ia28, bi3, bs0, bs01, bs02, bs012, bs013, bs014, bs0134, bs01234, bw1, bw2, bw3])
  | (show Wl _ _ _ _ _ _; simp [*, encI_len, cv53, shp0c, pExt, Prg.cells, ldQ, g1R, obQ, stQ, s1Q, ix3, ia3, ia28, bi3, bs0, bs01, bs02, bs012, bs013, bs014, bs0134, bs01234, bw1, bw2, bw3])
  | (show Wr _ _ _ _ _ _ _; simp [*, encI_len, cv53, shp0c, pExt, Prg.cells, ldQ, g1R, obQ, stQ, s1Q, ix3, ia3, ia28, bi3, bs0, bs01, bs02, bs012, bs013, bs014, bs0134, bs01234, bw1, bw2, bw3])
  | refine kont (by assumption) ?_
  | with_reducible refine thenA_n ?_
  | with_reducible refine thenA_r ?_
  | with_reducible refine thenA_e ?_
  | with_reducible refine blockA_n ?_
  | with_reducible refine blockA_r ?_
  | with_reducible refine blockA_e ?_
  | with_reducible refine blockA_o rfl ?_
  | refine Awp_ifT rfl ?_
  | refine Awp_ifF rfl ?_
  | (refine Awp_if rfl (fun h => ?_) (fun h => ?_) <;> ((have h' := h; try simp at h') <;> try (have h2 := h; simp only [decide_eq_false_iff_not] at h2)))
  | with_reducible refine Awp_ret ?_
  | with_reducible refine Awp_skip ?_
  | with_reducible refine Awp_exit ?_
  | with_reducible refine Awp_block ?_)
  all_goals (refine Gq.here ?_; refine ⟨⟨j + 1, by omega, hp2, rfl, ?_, ?_, ?_, ?_⟩, ?_⟩ <;> simp [*])

theorem contc_m (hG : Good TB) (l : List (List Ins)) (hl : l.length < 1000000) : Meets 53 [.c (.ls (l.map encC)), .fn 51 []] ([]) (pt (nB (l.any (fun x => decide (60 < x.length)))) ([]) ([])) := by
 refine meets hG Try.func53 rfl rfl ?_
 show Awp (env _ _) _ _ ((Try.f53).body.getD .skip) _ _
 unfold Try.f53
 dsimp only [Option.getD_some]
 unfold start
 generalize hQ : endA _ _ _ _ _ = Q
 repeat' (first
 | refine Awp_sq fun K hK => ?_
 | (refine Awp_reg rfl fun K hK => ?_; simp [*, encI_len, cv53, shp0c, pExt, Prg.cells, ldQ, g1R, obQ, stQ, s1Q, ix3, ia3, ia28, bi3, bs0, bs01, bs02, bs012, bs013, bs014, bs0134, bs01234, bw1, bw2, bw3])
 | (refine Awp_regD [] rfl rfl fun K hK => ?_; simp [*, encI_len, cv53, shp0c, pExt, Prg.cells, ldQ, g1R, obQ, stQ, s1Q, ix3, ia3, ia28, bi3, bs0, bs01, bs02, bs012, bs013, bs014, bs0134, bs01234, bw1, bw2, bw3])
 | (refine WG_br (fun h => ?_) (fun h => ?_) <;> (have h' := h; try simp at h'; simp [*, encI_len, cv53, shp0c, pExt, Prg.cells, ldQ, g1R, obQ, stQ, s1Q, ix3, ia3, ia28, bi3, bs0, bs01, bs02, bs012, bs013, bs014, bs0134, bs01234, bw1, bw2, bw3]))
 | (refine RG_br (fun h => ?_) (fun h => ?_) <;> (have h' := h; try simp at h'; simp [*, encI_len, cv53, shp0c, pExt, Prg.cells, ldQ, g1R, obQ, stQ, s1Q, ix3, ia3, ia28, bi3, bs0, bs01, bs02, bs012, bs013, bs014, bs0134, bs01234, bw1, bw2, bw3]))
 | (refine call_pp (TB.idxc l hl) rfl (by obtain ⟨n, hn⟩ := someIdx (l.any (fun x => decide (60 < x.length))); exact ⟨nI n, rfl, n, rfl, hn⟩) (fun r a h => ?_); obtain ⟨h1, n, h2, h3⟩ := h; subst h2; refine ⟨h1, rfl, ?_⟩; simp [*, encI_len, cv53, shp0c, pExt, Prg.cells, ldQ, g1R, obQ, stQ, s1Q, ix3, ia3, ia28, bi3, bs0, bs01, bs02, bs012, bs013, bs014, bs0134, bs01234, bw1, bw2, bw3])
 | refine And.intro (by omega) ?_
 | (refine wl_box rfl ?_; simp [*, encI_len, cv53, shp0c, pExt, Prg.cells, ldQ, g1R, obQ, stQ, s1Q, ix3, ia3, ia28, bi3, bs0, bs01, bs02, bs012, bs013, bs014, bs0134, bs01234, bw1, bw2, bw3])
 | (refine wl_alloc rfl ?_; simp [*, encI_len, cv53, shp0c, pExt, Prg.cells, ldQ, g1R, obQ, stQ, s1Q, ix3, ia3, ia28, bi3, bs0, bs01, bs02, bs012, bs013, bs014, bs0134, bs01234, bw1, bw2, bw3])
 | (refine wr_box rfl ?_; simp [*, encI_len, cv53, shp0c, pExt, Prg.cells, ldQ, g1R, obQ, stQ, s1Q, ix3, ia3, ia28, bi3, bs0, bs01, bs02, bs012, bs013, bs014, bs0134, bs01234, bw1, bw2, bw3])
 | (refine wr_alloc rfl ?_; simp [*, encI_len, cv53, shp0c, pExt, Prg.cells, ldQ, g1R, obQ, stQ, s1Q, ix3, ia3, ia28, bi3, bs0, bs01, bs02, bs012, bs013, bs014, bs0134, bs01234, bw1, bw2, bw3])
 | (refine wl_store ?_; simp [*, encI_len, cv53, shp0c, pExt, Prg.cells, ldQ, g1R, obQ, stQ, s1Q, ix3, ia3, ia28, bi3, bs0, bs01, bs02, bs012, bs013, bs014, bs0134, bs01234, bw1, bw2, bw3])
 | (refine wr_store ?_; simp [*, encI_len, cv53, shp0c, pExt, Prg.cells, ldQ, g1R, obQ, stQ, s1Q, ix3, ia3, ia28, bi3, bs0, bs01, bs02, bs012, bs013, bs014, bs0134, bs01234, bw1, bw2, bw3])
 | (show Wl _ _ _ _ _ _; simp [*, encI_len, cv53, shp0c, pExt, Prg.cells, ldQ, g1R, obQ, stQ, s1Q, ix3, ia3, ia28, bi3, bs0, bs01, bs02, bs012, bs013, bs014, bs0134, bs01234, bw1, bw2, bw3])
 | (show Wr _ _ _ _ _ _ _; simp [*, encI_len, cv53, shp0c, pExt, Prg.cells, ldQ, g1R, obQ, stQ, s1Q, ix3, ia3, ia28, bi3, bs0, bs01, bs02, bs012, bs013, bs014, bs0134, bs01234, bw1, bw2, bw3])
 | refine kont (by assumption) ?_
 | with_reducible refine thenA_n ?_
 | with_reducible refine thenA_r ?_
 | with_reducible refine thenA_e ?_
 | with_reducible refine blockA_n ?_
 | with_reducible refine blockA_r ?_
 | with_reducible refine blockA_e ?_
 | with_reducible refine blockA_o rfl ?_
 | refine Awp_ifT rfl ?_
 | refine Awp_ifF rfl ?_
 | (refine Awp_if rfl (fun h => ?_) (fun h => ?_) <;> ((have h' := h; try simp at h') <;> try (have h2 := h; simp only [decide_eq_false_iff_not] at h2)))
 | with_reducible refine Awp_ret ?_
 | with_reducible refine Awp_skip ?_
 | with_reducible refine Awp_exit ?_
 | with_reducible refine Awp_block ?_)
 all_goals (subst hQ; first | refine endA_rL [] rfl rfl rfl rfl rfl ⟨?_, rfl⟩ | refine endA_nL [] rfl rfl rfl rfl rfl ⟨?_, rfl⟩)
 all_goals (simp [*])

theorem of_m (hG : Good TB) (op : Int) (h0 : 0 ≤ op) (h1 : op < 256) : Meets 65 [nU op] ([]) (pt (.tup [.agg (shAt op).cells, nB (decide (op < 28))]) ([]) ([])) := by
 refine meets hG Try.func65 rfl rfl ?_
 show Awp (env _ _) _ _ ((Try.f65).body.getD .skip) _ _
 unfold Try.f65
 dsimp only [Option.getD_some]
 unfold start
 generalize hQ : endA _ _ _ _ _ = Q
 have hw : IntKind.i64.wrap op = op := wrap_small h0 (by omega)
 have hf : op < 28 → shC[op.toNat * 7]? = some (nS (shAt op).nm) ∧ shC[op.toNat * 7 + 1]? = some (nU (shAt op).a) ∧ shC[op.toNat * 7 + 2]? = some (nU (shAt op).b) ∧ shC[op.toNat * 7 + 3]? = some (nU (shAt op).c) ∧ shC[op.toNat * 7 + 4]? = some (nB (shAt op).p) ∧ shC[op.toNat * 7 + 5]? = some (nB (shAt op).q) ∧ shC[op.toNat * 7 + 6]? = some (nB (shAt op).r) := fun h => by
  have e := shC_at h0 h
  have g : ∀ j, j < 7 → shC[op.toNat * 7 + j]? = (shAt op).cells[j]? := fun j hj => by
   rw [← e, List.getElem?_take, if_pos hj, List.getElem?_drop]
  exact ⟨g 0 (by omega), g 1 (by omega), g 2 (by omega), g 3 (by omega), g 4 (by omega), g 5 (by omega), g 6 (by omega)⟩
 have hz : 28 ≤ op → shAt op = shp0 := fun h => by
  unfold shAt
  rw [List.getD_eq_getElem?_getD, List.getElem?_eq_none]
  · rfl
  · show 28 ≤ op.toNat
    omega
 have h2 : ¬ op < 0 := by omega
 repeat' (first
 | refine Awp_sq fun K hK => ?_
 | (refine Awp_reg rfl fun K hK => ?_; simp [*, encI_len, cv53, shp0c, pExt, Prg.cells, ldQ, g1R, obQ, stQ, s1Q, ix3, ia3, ia28, bi3, bs0, bs01, bs02, bs012, bs013, bs014, bs0134, bs01234, bw1, bw2, bw3])
 | (refine Awp_regD [] rfl rfl fun K hK => ?_; simp [*, encI_len, cv53, shp0c, pExt, Prg.cells, ldQ, g1R, obQ, stQ, s1Q, ix3, ia3, ia28, bi3, bs0, bs01, bs02, bs012, bs013, bs014, bs0134, bs01234, bw1, bw2, bw3])
 | (refine WG_br (fun h => ?_) (fun h => ?_) <;> (have h' := h; try simp at h'; simp [*, encI_len, cv53, shp0c, pExt, Prg.cells, ldQ, g1R, obQ, stQ, s1Q, ix3, ia3, ia28, bi3, bs0, bs01, bs02, bs012, bs013, bs014, bs0134, bs01234, bw1, bw2, bw3]))
 | (refine RG_br (fun h => ?_) (fun h => ?_) <;> (have h' := h; try simp at h'; simp [*, encI_len, cv53, shp0c, pExt, Prg.cells, ldQ, g1R, obQ, stQ, s1Q, ix3, ia3, ia28, bi3, bs0, bs01, bs02, bs012, bs013, bs014, bs0134, bs01234, bw1, bw2, bw3]))
 | (apply call_p TB.shapes; rfl; exact ren_shC; try simp [*, encI_len, cv53, shp0c, pExt, Prg.cells, ldQ, g1R, obQ, stQ, s1Q, ix3, ia3, ia28, bi3, bs0, bs01, bs02, bs012, bs013, bs014, bs0134, bs01234, bw1, bw2, bw3])
 | (refine wl_stAll rfl lk125 rfl rfl rfl rfl ?_; simp [*, encI_len, cv53, shp0c, pExt, Prg.cells, ldQ, g1R, obQ, stQ, s1Q, ix3, ia3, ia28, bi3, bs0, bs01, bs02, bs012, bs013, bs014, bs0134, bs01234, bw1, bw2, bw3])
 | refine And.intro (by omega) ?_
 | (refine wl_box rfl ?_; simp [*, encI_len, cv53, shp0c, pExt, Prg.cells, ldQ, g1R, obQ, stQ, s1Q, ix3, ia3, ia28, bi3, bs0, bs01, bs02, bs012, bs013, bs014, bs0134, bs01234, bw1, bw2, bw3])
 | (refine wl_alloc rfl ?_; simp [*, encI_len, cv53, shp0c, pExt, Prg.cells, ldQ, g1R, obQ, stQ, s1Q, ix3, ia3, ia28, bi3, bs0, bs01, bs02, bs012, bs013, bs014, bs0134, bs01234, bw1, bw2, bw3])
 | (refine wr_box rfl ?_; simp [*, encI_len, cv53, shp0c, pExt, Prg.cells, ldQ, g1R, obQ, stQ, s1Q, ix3, ia3, ia28, bi3, bs0, bs01, bs02, bs012, bs013, bs014, bs0134, bs01234, bw1, bw2, bw3])
 | (refine wr_alloc rfl ?_; simp [*, encI_len, cv53, shp0c, pExt, Prg.cells, ldQ, g1R, obQ, stQ, s1Q, ix3, ia3, ia28, bi3, bs0, bs01, bs02, bs012, bs013, bs014, bs0134, bs01234, bw1, bw2, bw3])
 | (refine wl_store ?_; simp [*, encI_len, cv53, shp0c, pExt, Prg.cells, ldQ, g1R, obQ, stQ, s1Q, ix3, ia3, ia28, bi3, bs0, bs01, bs02, bs012, bs013, bs014, bs0134, bs01234, bw1, bw2, bw3])
 | (refine wr_store ?_; simp [*, encI_len, cv53, shp0c, pExt, Prg.cells, ldQ, g1R, obQ, stQ, s1Q, ix3, ia3, ia28, bi3, bs0, bs01, bs02, bs012, bs013, bs014, bs0134, bs01234, bw1, bw2, bw3])
 | (show Wl _ _ _ _ _ _; simp [*, encI_len, cv53, shp0c, pExt, Prg.cells, ldQ, g1R, obQ, stQ, s1Q, ix3, ia3, ia28, bi3, bs0, bs01, bs02, bs012, bs013, bs014, bs0134, bs01234, bw1, bw2, bw3])
 | (show Wr _ _ _ _ _ _ _; simp [*, encI_len, cv53, shp0c, pExt, Prg.cells, ldQ, g1R, obQ, stQ, s1Q, ix3, ia3, ia28, bi3, bs0, bs01, bs02, bs012, bs013, bs014, bs0134, bs01234, bw1, bw2, bw3])
 | refine kont (by assumption) ?_
 | with_reducible refine thenA_n ?_
 | with_reducible refine thenA_r ?_
 | with_reducible refine thenA_e ?_
 | with_reducible refine blockA_n ?_
 | with_reducible refine blockA_r ?_
 | with_reducible refine blockA_e ?_
 | with_reducible refine blockA_o rfl ?_
 | refine Awp_ifT rfl ?_
 | refine Awp_ifF rfl ?_
 | (refine Awp_if rfl (fun h => ?_) (fun h => ?_) <;> ((have h' := h; try simp at h') <;> try (have h2 := h; simp only [decide_eq_false_iff_not] at h2)))
 | with_reducible refine Awp_ret ?_
 | with_reducible refine Awp_skip ?_
 | with_reducible refine Awp_exit ?_
 | with_reducible refine Awp_block ?_)
 all_goals (subst hQ; first | refine endA_rL [] rfl rfl rfl rfl rfl ⟨?_, rfl⟩ | refine endA_nL [] rfl rfl rfl rfl rfl ⟨?_, rfl⟩)
 all_goals (simp [*, Shp.cells] <;> simp [shp0])

inductive TC : Spec
 | idxn (l : List Int) (hl : l.length < 1000000) : TC 64 [.c (.ls (encI l)), .fn 55 []] ([]) (pq (fun r a => a = [] ∧ ∃ n : Int, r = nI n ∧ decide (0 ≤ n) = l.any (fun x => outF x 1 3)) [])
 | contc (l : List (List Ins)) (hl : l.length < 1000000) : TC 53 [.c (.ls (l.map encC)), .fn 51 []] ([]) (pt (nB (l.any (fun x => decide (60 < x.length)))) [] [])
 | of (op : Int) (h0 : 0 ≤ op) (h1 : op < 256) : TC 65 [nU op] ([]) (pt (.tup [.agg (shAt op).cells, nB (decide (op < 28))]) [] [])
theorem TC_good : Good TC := by
 refine ⟨fun f a m P h => ?_, fun f a m P h => ?_⟩
 · cases h with
   | idxn l hl => exact idxn_m TB_good l hl
   | contc l hl => exact contc_m TB_good l hl
   | of op h0 h1 => exact of_m TB_good op h0 h1
 · cases h with
   | idxn _ _ => exact ⟨_, Try.func64, rfl, rfl⟩
   | contc _ _ => exact ⟨_, Try.func53, rfl, rfl⟩
   | of _ _ _ => exact ⟨_, Try.func65, rfl, rfl⟩

end Go.Proofs.YtogfcpaalcebdaaE
