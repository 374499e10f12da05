/- What ir.Sound computes, walked. -/
import Derived.Test.YtogfcpaalcebdaaCESnd3
namespace Go.Proofs.YtogfcpaalcebdaaE
open Go Go.RowKit
set_option linter.unusedVariables false
set_option linter.unusedSimpArgs false
set_option maxRecDepth 1000000
set_option maxHeartbeats 8000000
theorem contn_m (hG : Good TC) (l : List Int) (hl : l.length < 1000000) : Meets 54 [.c (.ls (encI l)), .fn 55 []] ([]) (pt (nB (l.any (fun x => outF x 1 3))) ([]) ([])) := by
 refine meets hG Try.func54 rfl rfl ?_
 show Awp (env _ _) _ _ ((Try.f54).body.getD .skip) _ _
 unfold Try.f54
 dsimp only [Option.getD_some]
 unfold start
 generalize hQ : endA _ _ _ _ _ = Q
 repeat' (first
 | refine Awp_sq fun K hK => ?_
 | (refine Awp_reg rfl fun K hK => ?_; simp [*, encI_len, cv53, shp0c, pExt, Prg.cells, ldQ, g1R, obQ, stQ, s1Q, ix3, ia3, ia28, bi3, bs0, bs01, bs02, bs012, bs013, bs014, bs0134, bs01234, bw1, bw2, bw3])
 | (refine Awp_regD [] rfl rfl fun K hK => ?_; simp [*, encI_len, cv53, shp0c, pExt, Prg.cells, ldQ, g1R, obQ, stQ, s1Q, ix3, ia3, ia28, bi3, bs0, bs01, bs02, bs012, bs013, bs014, bs0134, bs01234, bw1, bw2, bw3])
 | (refine WG_br (fun h => ?_) (fun h => ?_) <;> (have h' := h; try simp at h'; simp [*, encI_len, cv53, shp0c, pExt, Prg.cells, ldQ, g1R, obQ, stQ, s1Q, ix3, ia3, ia28, bi3, bs0, bs01, bs02, bs012, bs013, bs014, bs0134, bs01234, bw1, bw2, bw3]))
 | (refine RG_br (fun h => ?_) (fun h => ?_) <;> (have h' := h; try simp at h'; simp [*, encI_len, cv53, shp0c, pExt, Prg.cells, ldQ, g1R, obQ, stQ, s1Q, ix3, ia3, ia28, bi3, bs0, bs01, bs02, bs012, bs013, bs014, bs0134, bs01234, bw1, bw2, bw3]))
 | (refine call_pp (TC.idxn l hl) rfl (by obtain ⟨n, hn⟩ := someIdx (l.any (fun x => outF x 1 3)); exact ⟨nI n, rfl, n, rfl, hn⟩) (fun r a h => ?_); obtain ⟨h1, n, h2, h3⟩ := h; subst h2; refine ⟨h1, rfl, ?_⟩; simp [*, encI_len, cv53, shp0c, pExt, Prg.cells, ldQ, g1R, obQ, stQ, s1Q, ix3, ia3, ia28, bi3, bs0, bs01, bs02, bs012, bs013, bs014, bs0134, bs01234, bw1, bw2, bw3])
 | refine And.intro (by omega) ?_
 | (refine wl_box rfl ?_; simp [*, encI_len, cv53, shp0c, pExt, Prg.cells, ldQ, g1R, obQ, stQ, s1Q, ix3, ia3, ia28, bi3, bs0, bs01, bs02, bs012, bs013, bs014, bs0134, bs01234, bw1, bw2, bw3])
 | (refine wl_alloc rfl ?_; simp [*, encI_len, cv53, shp0c, pExt, Prg.cells, ldQ, g1R, obQ, stQ, s1Q, ix3, ia3, ia28, bi3, bs0, bs01, bs02, bs012, bs013, bs014, bs0134, bs01234, bw1, bw2, bw3])
 | (refine wr_box rfl ?_; simp [*, encI_len, cv53, shp0c, pExt, Prg.cells, ldQ, g1R, obQ, stQ, s1Q, ix3, ia3, ia28, bi3, bs0, bs01, bs02, bs012, bs013, bs014, bs0134, bs01234, bw1, bw2, bw3])
 | (refine wr_alloc rfl ?_; simp [*, encI_len, cv53, shp0c, pExt, Prg.cells, ldQ, g1R, obQ, stQ, s1Q, ix3, ia3, ia28, bi3, bs0, bs01, bs02, bs012, bs013, bs014, bs0134, bs01234, bw1, bw2, bw3])
 | (refine wl_store ?_; simp [*, encI_len, cv53, shp0c, pExt, Prg.cells, ldQ, g1R, obQ, stQ, s1Q, ix3, ia3, ia28, bi3, bs0, bs01, bs02, bs012, bs013, bs014, bs0134, bs01234, bw1, bw2, bw3])
 | (refine wr_store ?_; simp [*, encI_len, cv53, shp0c, pExt, Prg.cells, ldQ, g1R, obQ, stQ, s1Q, ix3, ia3, ia28, bi3, bs0, bs01, bs02, bs012, bs013, bs014, bs0134, bs01234, bw1, bw2, bw3])
 | (show Wl _ _ _ _ _ _; simp [*, encI_len, cv53, shp0c, pExt, Prg.cells, ldQ, g1R, obQ, stQ, s1Q, ix3, ia3, ia28, bi3, bs0, bs01, bs02, bs012, bs013, bs014, bs0134, bs01234, bw1, bw2, bw3])
 | (show Wr _ _ _ _ _ _ _; simp [*, encI_len, cv53, shp0c, pExt, Prg.cells, ldQ, g1R, obQ, stQ, s1Q, ix3, ia3, ia28, bi3, bs0, bs01, bs02, bs012, bs013, bs014, bs0134, bs01234, bw1, bw2, bw3])
 | refine kont (by assumption) ?_
 | with_reducible refine thenA_n ?_
 | with_reducible refine thenA_r ?_
 | with_reducible refine thenA_e ?_
 | with_reducible refine blockA_n ?_
 | with_reducible refine blockA_r ?_
 | with_reducible refine blockA_e ?_
 | with_reducible refine blockA_o rfl ?_
 | refine Awp_ifT rfl ?_
 | refine Awp_ifF rfl ?_
 | (refine Awp_if rfl (fun h => ?_) (fun h => ?_) <;> ((have h' := h; try simp at h') <;> try (have h2 := h; simp only [decide_eq_false_iff_not] at h2)))
 | with_reducible refine Awp_ret ?_
 | with_reducible refine Awp_skip ?_
 | with_reducible refine Awp_exit ?_
 | with_reducible refine Awp_block ?_)
 all_goals (subst hQ; first | refine endA_rL [] rfl rfl rfl rfl rfl ⟨?_, rfl⟩ | refine endA_nL [] rfl rfl rfl rfl rfl ⟨?_, rfl⟩)
 all_goals (simp [*])

theorem lim_m (hG : Good TC) (p : Prg) (n : Int) : Meets 56 [.agg p.cells, nI n] ([]) (pt (.mp 0) ([some (.mp (limF p n))]) ([])) := by
 refine meets hG Try.func56 rfl rfl ?_
 show Awp (env _ _) _ _ ((Try.f56).body.getD .skip) _ _
 unfold Try.f56
 dsimp only [Option.getD_some]
 unfold start
 generalize hQ : endA _ _ _ _ _ = Q
 repeat' (first
 | refine Awp_sq fun K hK => ?_
 | (refine Awp_reg rfl fun K hK => ?_; simp [*, encI_len, cv53, shp0c, pExt, Prg.cells, ldQ, g1R, obQ, stQ, s1Q, ix3, ia3, ia28, bi3, bs0, bs01, bs02, bs012, bs013, bs014, bs0134, bs01234, bw1, bw2, bw3])
 | (refine Awp_regD [] rfl rfl fun K hK => ?_; simp [*, encI_len, cv53, shp0c, pExt, Prg.cells, ldQ, g1R, obQ, stQ, s1Q, ix3, ia3, ia28, bi3, bs0, bs01, bs02, bs012, bs013, bs014, bs0134, bs01234, bw1, bw2, bw3])
 | (refine WG_br (fun h => ?_) (fun h => ?_) <;> (have h' := h; try simp at h'; simp [*, encI_len, cv53, shp0c, pExt, Prg.cells, ldQ, g1R, obQ, stQ, s1Q, ix3, ia3, ia28, bi3, bs0, bs01, bs02, bs012, bs013, bs014, bs0134, bs01234, bw1, bw2, bw3]))
 | (refine RG_br (fun h => ?_) (fun h => ?_) <;> (have h' := h; try simp at h'; simp [*, encI_len, cv53, shp0c, pExt, Prg.cells, ldQ, g1R, obQ, stQ, s1Q, ix3, ia3, ia28, bi3, bs0, bs01, bs02, bs012, bs013, bs014, bs0134, bs01234, bw1, bw2, bw3]))
 | (refine wl_mmap ?_; try simp [*, encI_len, cv53, shp0c, pExt, Prg.cells, ldQ, g1R, obQ, stQ, s1Q, ix3, ia3, ia28, bi3, bs0, bs01, bs02, bs012, bs013, bs014, bs0134, bs01234, bw1, bw2, bw3])
 | (refine wl_ins rfl rfl rfl mapt rfl ?_; try simp [*, encI_len, cv53, shp0c, pExt, Prg.cells, ldQ, g1R, obQ, stQ, s1Q, ix3, ia3, ia28, bi3, bs0, bs01, bs02, bs012, bs013, bs014, bs0134, bs01234, bw1, bw2, bw3])
 | (refine wl_look rfl rfl mapt rfl ?_; try simp [*, encI_len, cv53, shp0c, pExt, Prg.cells, ldQ, g1R, obQ, stQ, s1Q, ix3, ia3, ia28, bi3, bs0, bs01, bs02, bs012, bs013, bs014, bs0134, bs01234, bw1, bw2, bw3])
 | refine And.intro (by omega) ?_
 | (refine wl_box rfl ?_; simp [*, encI_len, cv53, shp0c, pExt, Prg.cells, ldQ, g1R, obQ, stQ, s1Q, ix3, ia3, ia28, bi3, bs0, bs01, bs02, bs012, bs013, bs014, bs0134, bs01234, bw1, bw2, bw3])
 | (refine wl_alloc rfl ?_; simp [*, encI_len, cv53, shp0c, pExt, Prg.cells, ldQ, g1R, obQ, stQ, s1Q, ix3, ia3, ia28, bi3, bs0, bs01, bs02, bs012, bs013, bs014, bs0134, bs01234, bw1, bw2, bw3])
 | (refine wr_box rfl ?_; simp [*, encI_len, cv53, shp0c, pExt, Prg.cells, ldQ, g1R, obQ, stQ, s1Q, ix3, ia3, ia28, bi3, bs0, bs01, bs02, bs012, bs013, bs014, bs0134, bs01234, bw1, bw2, bw3])
 | (refine wr_alloc rfl ?_; simp [*, encI_len, cv53, shp0c, pExt, Prg.cells, ldQ, g1R, obQ, stQ, s1Q, ix3, ia3, ia28, bi3, bs0, bs01, bs02, bs012, bs013, bs014, bs0134, bs01234, bw1, bw2, bw3])
 | (refine wl_store ?_; simp [*, encI_len, cv53, shp0c, pExt, Prg.cells, ldQ, g1R, obQ, stQ, s1Q, ix3, ia3, ia28, bi3, bs0, bs01, bs02, bs012, bs013, bs014, bs0134, bs01234, bw1, bw2, bw3])
 | (refine wr_store ?_; simp [*, encI_len, cv53, shp0c, pExt, Prg.cells, ldQ, g1R, obQ, stQ, s1Q, ix3, ia3, ia28, bi3, bs0, bs01, bs02, bs012, bs013, bs014, bs0134, bs01234, bw1, bw2, bw3])
 | (show Wl _ _ _ _ _ _; simp [*, encI_len, cv53, shp0c, pExt, Prg.cells, ldQ, g1R, obQ, stQ, s1Q, ix3, ia3, ia28, bi3, bs0, bs01, bs02, bs012, bs013, bs014, bs0134, bs01234, bw1, bw2, bw3])
 | (show Wr _ _ _ _ _ _ _; simp [*, encI_len, cv53, shp0c, pExt, Prg.cells, ldQ, g1R, obQ, stQ, s1Q, ix3, ia3, ia28, bi3, bs0, bs01, bs02, bs012, bs013, bs014, bs0134, bs01234, bw1, bw2, bw3])
 | refine kont (by assumption) ?_
 | with_reducible refine thenA_n ?_
 | with_reducible refine thenA_r ?_
 | with_reducible refine thenA_e ?_
 | with_reducible refine blockA_n ?_
 | with_reducible refine blockA_r ?_
 | with_reducible refine blockA_e ?_
 | with_reducible refine blockA_o rfl ?_
 | refine Awp_ifT rfl ?_
 | refine Awp_ifF rfl ?_
 | (refine Awp_if rfl (fun h => ?_) (fun h => ?_) <;> ((have h' := h; try simp at h') <;> try (have h2 := h; simp only [decide_eq_false_iff_not] at h2)))
 | with_reducible refine Awp_ret ?_
 | with_reducible refine Awp_skip ?_
 | with_reducible refine Awp_exit ?_
 | with_reducible refine Awp_block ?_)
 all_goals (subst hQ; refine endA_rL [1] rfl rfl rfl rfl rfl ⟨rfl, ?_⟩)
 all_goals (simp [*, limF])

theorem ins_m (hG : Good TC) (i : Ins) (l : List (Int × Int)) (h0 : 0 ≤ i.op) (h1 : i.op < 256) : Meets 57 [.agg [nU i.op, nI i.a, nI i.b, nI i.c], .mp 0] ([some (.mp l)]) (pt (nE (insF l i)) [some (.mp l)] []) := by
 refine meets hG Try.func57 rfl rfl ?_
 show Awp (env _ _) _ _ ((Try.f57).body.getD .skip) _ _
 unfold Try.f57
 dsimp only [Option.getD_some]
 unfold start
 generalize hQ : endA _ _ _ _ _ = Q
 repeat' (first
 | refine Awp_sq fun K hK => ?_
 | (refine Awp_reg rfl fun K hK => ?_; simp [*, encI_len, cv53, shp0c, pExt, Prg.cells, ldQ, g1R, obQ, stQ, s1Q, ix3, ia3, ia28, bi3, bs0, bs01, bs02, bs012, bs013, bs014, bs0134, bs01234, bw1, bw2, bw3])
 | (refine Awp_regD [] rfl rfl fun K hK => ?_; simp [*, encI_len, cv53, shp0c, pExt, Prg.cells, ldQ, g1R, obQ, stQ, s1Q, ix3, ia3, ia28, bi3, bs0, bs01, bs02, bs012, bs013, bs014, bs0134, bs01234, bw1, bw2, bw3])
 | (refine WG_br (fun h => ?_) (fun h => ?_) <;> (have h' := h; try simp at h'; simp [*, encI_len, cv53, shp0c, pExt, Prg.cells, ldQ, g1R, obQ, stQ, s1Q, ix3, ia3, ia28, bi3, bs0, bs01, bs02, bs012, bs013, bs014, bs0134, bs01234, bw1, bw2, bw3]))
 | (refine RG_br (fun h => ?_) (fun h => ?_) <;> (have h' := h; try simp at h'; simp [*, encI_len, cv53, shp0c, pExt, Prg.cells, ldQ, g1R, obQ, stQ, s1Q, ix3, ia3, ia28, bi3, bs0, bs01, bs02, bs012, bs013, bs014, bs0134, bs01234, bw1, bw2, bw3]))
 | (apply call_p (TC.of _ h0 h1); rfl; rfl; simp [*, Shp.cells, encI_len, cv53, shp0c, pExt, Prg.cells, ldQ, g1R, obQ, stQ, s1Q, ix3, ia3, ia28, bi3, bs0, bs01, bs02, bs012, bs013, bs014, bs0134, bs01234, bw1, bw2, bw3])
 | (refine wl_mmap ?_; try simp [*, encI_len, cv53, shp0c, pExt, Prg.cells, ldQ, g1R, obQ, stQ, s1Q, ix3, ia3, ia28, bi3, bs0, bs01, bs02, bs012, bs013, bs014, bs0134, bs01234, bw1, bw2, bw3])
 | (refine wl_ins rfl rfl rfl mapt rfl ?_; try simp [*, encI_len, cv53, shp0c, pExt, Prg.cells, ldQ, g1R, obQ, stQ, s1Q, ix3, ia3, ia28, bi3, bs0, bs01, bs02, bs012, bs013, bs014, bs0134, bs01234, bw1, bw2, bw3])
 | (refine wl_look rfl rfl mapt rfl ?_; try simp [*, encI_len, cv53, shp0c, pExt, Prg.cells, ldQ, g1R, obQ, stQ, s1Q, ix3, ia3, ia28, bi3, bs0, bs01, bs02, bs012, bs013, bs014, bs0134, bs01234, bw1, bw2, bw3])
 | refine And.intro (by omega) ?_
 | (refine wl_box rfl ?_; simp [*, encI_len, cv53, shp0c, pExt, Prg.cells, ldQ, g1R, obQ, stQ, s1Q, ix3, ia3, ia28, bi3, bs0, bs01, bs02, bs012, bs013, bs014, bs0134, bs01234, bw1, bw2, bw3])
 | (refine wl_alloc rfl ?_; simp [*, encI_len, cv53, shp0c, pExt, Prg.cells, ldQ, g1R, obQ, stQ, s1Q, ix3, ia3, ia28, bi3, bs0, bs01, bs02, bs012, bs013, bs014, bs0134, bs01234, bw1, bw2, bw3])
 | (refine wr_box rfl ?_; simp [*, encI_len, cv53, shp0c, pExt, Prg.cells, ldQ, g1R, obQ, stQ, s1Q, ix3, ia3, ia28, bi3, bs0, bs01, bs02, bs012, bs013, bs014, bs0134, bs01234, bw1, bw2, bw3])
 | (refine wr_alloc rfl ?_; simp [*, encI_len, cv53, shp0c, pExt, Prg.cells, ldQ, g1R, obQ, stQ, s1Q, ix3, ia3, ia28, bi3, bs0, bs01, bs02, bs012, bs013, bs014, bs0134, bs01234, bw1, bw2, bw3])
 | (refine wl_store ?_; simp [*, encI_len, cv53, shp0c, pExt, Prg.cells, ldQ, g1R, obQ, stQ, s1Q, ix3, ia3, ia28, bi3, bs0, bs01, bs02, bs012, bs013, bs014, bs0134, bs01234, bw1, bw2, bw3])
 | (refine wr_store ?_; simp [*, encI_len, cv53, shp0c, pExt, Prg.cells, ldQ, g1R, obQ, stQ, s1Q, ix3, ia3, ia28, bi3, bs0, bs01, bs02, bs012, bs013, bs014, bs0134, bs01234, bw1, bw2, bw3])
 | (show Wl _ _ _ _ _ _; simp [*, encI_len, cv53, shp0c, pExt, Prg.cells, ldQ, g1R, obQ, stQ, s1Q, ix3, ia3, ia28, bi3, bs0, bs01, bs02, bs012, bs013, bs014, bs0134, bs01234, bw1, bw2, bw3])
 | (show Wr _ _ _ _ _ _ _; simp [*, encI_len, cv53, shp0c, pExt, Prg.cells, ldQ, g1R, obQ, stQ, s1Q, ix3, ia3, ia28, bi3, bs0, bs01, bs02, bs012, bs013, bs014, bs0134, bs01234, bw1, bw2, bw3])
 | refine kont (by assumption) ?_
 | with_reducible refine thenA_n ?_
 | with_reducible refine thenA_r ?_
 | with_reducible refine thenA_e ?_
 | with_reducible refine blockA_n ?_
 | with_reducible refine blockA_r ?_
 | with_reducible refine blockA_e ?_
 | with_reducible refine blockA_o rfl ?_
 | refine Awp_ifT rfl ?_
 | refine Awp_ifF rfl ?_
 | (refine Awp_if rfl (fun h => ?_) (fun h => ?_) <;> ((have h' := h; try simp at h') <;> try (have h2 := h; simp only [decide_eq_false_iff_not] at h2)))
 | with_reducible refine Awp_ret ?_
 | with_reducible refine Awp_skip ?_
 | with_reducible refine Awp_exit ?_
 | with_reducible refine Awp_block ?_)
 refine Awp_loop (fun s => ∃ j : Nat, j ≤ 3 ∧ (∀ q, q < j → ¬ (28 ≤ i.op ∨ (wdj (shAt i.op) q = 0 ∧ nmj i q ≠ 0))) ∧ s.m = [some (.mp l), some (.box [nU i.op, nI i.a, nI i.b, nI i.c]), some (.box [nS (shAt i.op).nm, nU (shAt i.op).a, nU (shAt i.op).b, nU (shAt i.op).c, nB (shAt i.op).p, nB (shAt i.op).q, nB (shAt i.op).r]), some (.box [nI i.a, nI i.b, nI i.c])] ∧ s.A 1 = .mp 0 ∧ s.A 5 = .ptr 2 0 0 ∧ s.A 6 = nB (decide (i.op < 28)) ∧ s.A 7 = .ptr 3 0 0 ∧ s.A 28 = .agg [nU (shAt i.op).a, nU (shAt i.op).b, nU (shAt i.op).c] ∧ s.A 29 = nI j) (fun s => match s.A 29 with | .c (.sc (.int _ n)) => 3 - n.toNat | _ => 0) (Gq.here ?_) (fun s hs => ?_)
 · exact ⟨0, by omega, fun q hq => absurd hq (by omega), by simp [*]⟩
 obtain ⟨A, m⟩ := s
 obtain ⟨j, hj, hp, hm, a1, a5, a6, a7, a28, a29⟩ := hs
 dsimp only at hm a1 a5 a6 a7 a28 a29
 subst hm
 by_cases hlt : j < 3
 case pos =>
  have hlt' : ((j : Int) < 3) := by omega
  have h0 : (0 : Int) ≤ (j : Int) := by omega
  have hx := wdj_get (s := shAt i.op) hlt
  have hy := nmj_get (i := i) hlt
  have hw : IntKind.i64.wrap ((j : Int) + 1) = ((j + 1 : Nat) : Int) := wrap_small (by omega) (by omega)
  have hdec : 3 - (j + 1) < 3 - j := by omega
  by_cases hbad : 28 ≤ i.op ∨ (wdj (shAt i.op) j = 0 ∧ nmj i j ≠ 0)
  · have h20 := insF_20 (l := l) hlt hbad
    have hop : i.op < 28 → wdj (shAt i.op) j = 0 ∧ ¬ nmj i j = 0 := fun h => hbad.resolve_left (by omega)
    clear hlt
    repeat' (first
    | refine Awp_sq fun K hK => ?_
    | (refine Awp_reg rfl fun K hK => ?_; simp [*, encI_len, cv53, shp0c, pExt, Prg.cells, ldQ, g1R, obQ, stQ, s1Q, ix3, ia3, ia28, bi3, bs0, bs01, bs02, bs012, bs013, bs014, bs0134, bs01234, bw1, bw2, bw3])
    | (refine Awp_regD [] rfl rfl fun K hK => ?_; simp [*, encI_len, cv53, shp0c, pExt, Prg.cells, ldQ, g1R, obQ, stQ, s1Q, ix3, ia3, ia28, bi3, bs0, bs01, bs02, bs012, bs013, bs014, bs0134, bs01234, bw1, bw2, bw3])
    | (refine WG_br (fun h => ?_) (fun h => ?_) <;> (have h' := h; try simp at h'; simp [*, encI_len, cv53, shp0c, pExt, Prg.cells, ldQ, g1R, obQ, stQ, s1Q, ix3, ia3, ia28, bi3, bs0, bs01, bs02, bs012, bs013, bs014, bs0134, bs01234, bw1, bw2, bw3]))
    | (refine RG_br (fun h => ?_) (fun h => ?_) <;> (have h' := h; try simp at h'; simp [*, encI_len, cv53, shp0c, pExt, Prg.cells, ldQ, g1R, obQ, stQ, s1Q, ix3, ia3, ia28, bi3, bs0, bs01, bs02, bs012, bs013, bs014, bs0134, bs01234, bw1, bw2, bw3]))
    | (apply call_p (TC.of _ h0 h1); rfl; rfl; simp [*, Shp.cells, encI_len, cv53, shp0c, pExt, Prg.cells, ldQ, g1R, obQ, stQ, s1Q, ix3, ia3, ia28, bi3, bs0, bs01, bs02, bs012, bs013, bs014, bs0134, bs01234, bw1, bw2, bw3])
    | (refine wl_mmap ?_; try simp [*, encI_len, cv53, shp0c, pExt, Prg.cells, ldQ, g1R, obQ, stQ, s1Q, ix3, ia3, ia28, bi3, bs0, bs01, bs02, bs012, bs013, bs014, bs0134, bs01234, bw1, bw2, bw3])
    | (refine wl_ins rfl rfl rfl mapt rfl ?_; try simp [*, encI_len, cv53, shp0c, pExt, Prg.cells, ldQ, g1R, obQ, stQ, s1Q, ix3, ia3, ia28, bi3, bs0, bs01, bs02, bs012, bs013, bs014, bs0134, bs01234, bw1, bw2, bw3])
    | (refine wl_look rfl rfl mapt rfl ?_; try simp [*, encI_len, cv53, shp0c, pExt, Prg.cells, ldQ, g1R, obQ, stQ, s1Q, ix3, ia3, ia28, bi3, bs0, bs01, bs02, bs012, bs013, bs014, bs0134, bs01234, bw1, bw2, bw3])
    | refine And.intro (by omega) ?_
    | (refine wl_box rfl ?_; simp [*, encI_len, cv53, shp0c, pExt, Prg.cells, ldQ, g1R, obQ, stQ, s1Q, ix3, ia3, ia28, bi3, bs0, bs01, bs02, bs012, bs013, bs014, bs0134, bs01234, bw1, bw2, bw3])
    | (refine wl_alloc rfl ?_; simp [*, encI_len, cv53, shp0c, pExt, Prg.cells, ldQ, g1R, obQ, stQ, s1Q, ix3, ia3, ia28, bi3, bs0, bs01, bs02, bs012, bs013, bs014, bs0134, bs01234, bw1, bw2, bw3])
    | (refine wr_box rfl ?_; simp [*, encI_len, cv53, shp0c, pExt, Prg.cells, ldQ, g1R, obQ, stQ, s1Q, ix3, ia3, ia28, bi3, bs0, bs01, bs02, bs012, bs013, bs014, bs0134, bs01234, bw1, bw2, bw3])
    | (refine wr_alloc rfl ?_; simp [*, encI_len, cv53, shp0c, pExt, Prg.cells, ldQ, g1R, obQ, stQ, s1Q, ix3, ia3, ia28, bi3, bs0, bs01, bs02, bs012, bs013, bs014, bs0134, bs01234, bw1, bw2, bw3])
    | (refine wl_store ?_; simp [*, encI_len, cv53, shp0c, pExt, Prg.cells, ldQ, g1R, obQ, stQ, s1Q, ix3, ia3, ia28, bi3, bs0, bs01, bs02, bs012, bs013, bs014, bs0134, bs01234, bw1, bw2, bw3])
    | (refine wr_store ?_; simp [*, encI_len, cv53, shp0c, pExt, Prg.cells, ldQ, g1R, obQ, stQ, s1Q, ix3, ia3, ia28, bi3, bs0, bs01, bs02, bs012, bs013, bs014, bs0134, bs01234, bw1, bw2, bw3])
    | (show Wl _ _ _ _ _ _; simp [*, encI_len, cv53, shp0c, pExt, Prg.cells, ldQ, g1R, obQ, stQ, s1Q, ix3, ia3, ia28, bi3, bs0, bs01, bs02, bs012, bs013, bs014, bs0134, bs01234, bw1, bw2, bw3])
    | (show Wr _ _ _ _ _ _ _; simp [*, encI_len, cv53, shp0c, pExt, Prg.cells, ldQ, g1R, obQ, stQ, s1Q, ix3, ia3, ia28, bi3, bs0, bs01, bs02, bs012, bs013, bs014, bs0134, bs01234, bw1, bw2, bw3])
    | refine kont (by assumption) ?_
    | with_reducible refine thenA_n ?_
    | with_reducible refine thenA_r ?_
    | with_reducible refine thenA_e ?_
    | with_reducible refine blockA_n ?_
    | with_reducible refine blockA_r ?_
    | with_reducible refine blockA_e ?_
    | with_reducible refine blockA_o rfl ?_
    | refine Awp_ifT rfl ?_
    | refine Awp_ifF rfl ?_
    | (refine Awp_if rfl (fun h => ?_) (fun h => ?_) <;> ((have h' := h; try simp at h') <;> try (have h2 := h; simp only [decide_eq_false_iff_not] at h2)))
    | with_reducible refine Awp_ret ?_
    | with_reducible refine Awp_skip ?_
    | with_reducible refine Awp_exit ?_
    | with_reducible refine Awp_block ?_)
    all_goals (try (subst hQ; refine endA_rL [0] rfl rfl rfl rfl rfl ⟨?_, rfl⟩))
    all_goals first | (simp [*]; done) | (exfalso; omega) | (exfalso; simp_all; done)
  · have hop : i.op < 28 := by omega
    have hop2 : ¬ 28 ≤ i.op := by omega
    have hnb : wdj (shAt i.op) j = 0 → nmj i j = 0 := fun h => Classical.byContradiction fun h2 => hbad (.inr ⟨h, h2⟩)
    have hp2 : ∀ q, q < j + 1 → ¬ (28 ≤ i.op ∨ (wdj (shAt i.op) q = 0 ∧ nmj i q ≠ 0)) := fun q hq => by
     by_cases e : q = j
     · subst e; exact hbad
     · exact hp q (by omega)
    clear hlt
    repeat' (first
    | refine Awp_sq fun K hK => ?_
    | (refine Awp_reg rfl fun K hK => ?_; simp [*, encI_len, cv53, shp0c, pExt, Prg.cells, ldQ, g1R, obQ, stQ, s1Q, ix3, ia3, ia28, bi3, bs0, bs01, bs02, bs012, bs013, bs014, bs0134, bs01234, bw1, bw2, bw3])
    | (refine Awp_regD [] rfl rfl fun K hK => ?_; simp [*, encI_len, cv53, shp0c, pExt, Prg.cells, ldQ, g1R, obQ, stQ, s1Q, ix3, ia3, ia28, bi3, bs0, bs01, bs02, bs012, bs013, bs014, bs0134, bs01234, bw1, bw2, bw3])
    | (refine WG_br (fun h => ?_) (fun h => ?_) <;> (have h' := h; try simp at h'; simp [*, encI_len, cv53, shp0c, pExt, Prg.cells, ldQ, g1R, obQ, stQ, s1Q, ix3, ia3, ia28, bi3, bs0, bs01, bs02, bs012, bs013, bs014, bs0134, bs01234, bw1, bw2, bw3]))
    | (refine RG_br (fun h => ?_) (fun h => ?_) <;> (have h' := h; try simp at h'; simp [*, encI_len, cv53, shp0c, pExt, Prg.cells, ldQ, g1R, obQ, stQ, s1Q, ix3, ia3, ia28, bi3, bs0, bs01, bs02, bs012, bs013, bs014, bs0134, bs01234, bw1, bw2, bw3]))
    | (apply call_p (TC.of _ h0 h1); rfl; rfl; simp [*, Shp.cells, encI_len, cv53, shp0c, pExt, Prg.cells, ldQ, g1R, obQ, stQ, s1Q, ix3, ia3, ia28, bi3, bs0, bs01, bs02, bs012, bs013, bs014, bs0134, bs01234, bw1, bw2, bw3])
    | (refine wl_mmap ?_; try simp [*, encI_len, cv53, shp0c, pExt, Prg.cells, ldQ, g1R, obQ, stQ, s1Q, ix3, ia3, ia28, bi3, bs0, bs01, bs02, bs012, bs013, bs014, bs0134, bs01234, bw1, bw2, bw3])
    | (refine wl_ins rfl rfl rfl mapt rfl ?_; try simp [*, encI_len, cv53, shp0c, pExt, Prg.cells, ldQ, g1R, obQ, stQ, s1Q, ix3, ia3, ia28, bi3, bs0, bs01, bs02, bs012, bs013, bs014, bs0134, bs01234, bw1, bw2, bw3])
    | (refine wl_look rfl rfl mapt rfl ?_; try simp [*, encI_len, cv53, shp0c, pExt, Prg.cells, ldQ, g1R, obQ, stQ, s1Q, ix3, ia3, ia28, bi3, bs0, bs01, bs02, bs012, bs013, bs014, bs0134, bs01234, bw1, bw2, bw3])
    | refine And.intro (by omega) ?_
    | (refine wl_box rfl ?_; simp [*, encI_len, cv53, shp0c, pExt, Prg.cells, ldQ, g1R, obQ, stQ, s1Q, ix3, ia3, ia28, bi3, bs0, bs01, bs02, bs012, bs013, bs014, bs0134, bs01234, bw1, bw2, bw3])
    | (refine wl_alloc rfl ?_; simp [*, encI_len, cv53, shp0c, pExt, Prg.cells, ldQ, g1R, obQ, stQ, s1Q, ix3, ia3, ia28, bi3, bs0, bs01, bs02, bs012, bs013, bs014, bs0134, bs01234, bw1, bw2, bw3])
    | (refine wr_box rfl ?_; simp [*, encI_len, cv53, shp0c, pExt, Prg.cells, ldQ, g1R, obQ, stQ, s1Q, ix3, ia3, ia28, bi3, bs0, bs01, bs02, bs012, bs013, bs014, bs0134, bs01234, bw1, bw2, bw3])
    | (refine wr_alloc rfl ?_; simp [*, encI_len, cv53, shp0c, pExt, Prg.cells, ldQ, g1R, obQ, stQ, s1Q, ix3, ia3, ia28, bi3, bs0, bs01, bs02, bs012, bs013, bs014, bs0134, bs01234, bw1, bw2, bw3])
    | (refine wl_store ?_; simp [*, encI_len, cv53, shp0c, pExt, Prg.cells, ldQ, g1R, obQ, stQ, s1Q, ix3, ia3, ia28, bi3, bs0, bs01, bs02, bs012, bs013, bs014, bs0134, bs01234, bw1, bw2, bw3])
    | (refine wr_store ?_; simp [*, encI_len, cv53, shp0c, pExt, Prg.cells, ldQ, g1R, obQ, stQ, s1Q, ix3, ia3, ia28, bi3, bs0, bs01, bs02, bs012, bs013, bs014, bs0134, bs01234, bw1, bw2, bw3])
    | (show Wl _ _ _ _ _ _; simp [*, encI_len, cv53, shp0c, pExt, Prg.cells, ldQ, g1R, obQ, stQ, s1Q, ix3, ia3, ia28, bi3, bs0, bs01, bs02, bs012, bs013, bs014, bs0134, bs01234, bw1, bw2, bw3])
    | (show Wr _ _ _ _ _ _ _; simp [*, encI_len, cv53, shp0c, pExt, Prg.cells, ldQ, g1R, obQ, stQ, s1Q, ix3, ia3, ia28, bi3, bs0, bs01, bs02, bs012, bs013, bs014, bs0134, bs01234, bw1, bw2, bw3])
    | refine kont (by assumption) ?_
    | with_reducible refine thenA_n ?_
    | with_reducible refine thenA_r ?_
    | with_reducible refine thenA_e ?_
    | with_reducible refine blockA_n ?_
    | with_reducible refine blockA_r ?_
    | with_reducible refine blockA_e ?_
    | with_reducible refine blockA_o rfl ?_
    | refine Awp_ifT rfl ?_
    | refine Awp_ifF rfl ?_
    | (refine Awp_if rfl (fun h => ?_) (fun h => ?_) <;> ((have h' := h; try simp at h') <;> try (have h2 := h; simp only [decide_eq_false_iff_not] at h2)))
    | with_reducible refine Awp_ret ?_
    | with_reducible refine Awp_skip ?_
    | with_reducible refine Awp_exit ?_
    | with_reducible refine Awp_block ?_)
    all_goals (refine Gq.here ?_; refine ⟨⟨j + 1, by omega, hp2, rfl, ?_, ?_, ?_, ?_, ?_, ?_⟩, ?_⟩ <;> first | (simp [*]; done) | (simp [*]; omega))
 have hlt' : ¬ ((j : Int) < 3) := by omega
 have hok : ∀ q, q < 3 → ¬ (28 ≤ i.op ∨ (wdj (shAt i.op) q = 0 ∧ nmj i q ≠ 0)) := fun q hq => hp q (by omega)
 clear hp
 repeat' (first
 | refine Awp_sq fun K hK => ?_
 | (refine Awp_reg rfl fun K hK => ?_; simp [*, encI_len, cv53, shp0c, pExt, Prg.cells, ldQ, g1R, obQ, stQ, s1Q, ix3, ia3, ia28, bi3, bs0, bs01, bs02, bs012, bs013, bs014, bs0134, bs01234, bw1, bw2, bw3])
 | (refine Awp_regD [] rfl rfl fun K hK => ?_; simp [*, encI_len, cv53, shp0c, pExt, Prg.cells, ldQ, g1R, obQ, stQ, s1Q, ix3, ia3, ia28, bi3, bs0, bs01, bs02, bs012, bs013, bs014, bs0134, bs01234, bw1, bw2, bw3])
 | (refine WG_br (fun h => ?_) (fun h => ?_) <;> (have h' := h; try simp at h'; simp [*, encI_len, cv53, shp0c, pExt, Prg.cells, ldQ, g1R, obQ, stQ, s1Q, ix3, ia3, ia28, bi3, bs0, bs01, bs02, bs012, bs013, bs014, bs0134, bs01234, bw1, bw2, bw3]))
 | (refine RG_br (fun h => ?_) (fun h => ?_) <;> (have h' := h; try simp at h'; simp [*, encI_len, cv53, shp0c, pExt, Prg.cells, ldQ, g1R, obQ, stQ, s1Q, ix3, ia3, ia28, bi3, bs0, bs01, bs02, bs012, bs013, bs014, bs0134, bs01234, bw1, bw2, bw3]))
 | (apply call_p (TC.of _ h0 h1); rfl; rfl; simp [*, Shp.cells, encI_len, cv53, shp0c, pExt, Prg.cells, ldQ, g1R, obQ, stQ, s1Q, ix3, ia3, ia28, bi3, bs0, bs01, bs02, bs012, bs013, bs014, bs0134, bs01234, bw1, bw2, bw3])
 | (refine wl_mmap ?_; try simp [*, encI_len, cv53, shp0c, pExt, Prg.cells, ldQ, g1R, obQ, stQ, s1Q, ix3, ia3, ia28, bi3, bs0, bs01, bs02, bs012, bs013, bs014, bs0134, bs01234, bw1, bw2, bw3])
 | (refine wl_ins rfl rfl rfl mapt rfl ?_; try simp [*, encI_len, cv53, shp0c, pExt, Prg.cells, ldQ, g1R, obQ, stQ, s1Q, ix3, ia3, ia28, bi3, bs0, bs01, bs02, bs012, bs013, bs014, bs0134, bs01234, bw1, bw2, bw3])
 | (refine wl_look rfl rfl mapt rfl ?_; try simp [*, encI_len, cv53, shp0c, pExt, Prg.cells, ldQ, g1R, obQ, stQ, s1Q, ix3, ia3, ia28, bi3, bs0, bs01, bs02, bs012, bs013, bs014, bs0134, bs01234, bw1, bw2, bw3])
 | refine And.intro (by omega) ?_
 | (refine wl_box rfl ?_; simp [*, encI_len, cv53, shp0c, pExt, Prg.cells, ldQ, g1R, obQ, stQ, s1Q, ix3, ia3, ia28, bi3, bs0, bs01, bs02, bs012, bs013, bs014, bs0134, bs01234, bw1, bw2, bw3])
 | (refine wl_alloc rfl ?_; simp [*, encI_len, cv53, shp0c, pExt, Prg.cells, ldQ, g1R, obQ, stQ, s1Q, ix3, ia3, ia28, bi3, bs0, bs01, bs02, bs012, bs013, bs014, bs0134, bs01234, bw1, bw2, bw3])
 | (refine wr_box rfl ?_; simp [*, encI_len, cv53, shp0c, pExt, Prg.cells, ldQ, g1R, obQ, stQ, s1Q, ix3, ia3, ia28, bi3, bs0, bs01, bs02, bs012, bs013, bs014, bs0134, bs01234, bw1, bw2, bw3])
 | (refine wr_alloc rfl ?_; simp [*, encI_len, cv53, shp0c, pExt, Prg.cells, ldQ, g1R, obQ, stQ, s1Q, ix3, ia3, ia28, bi3, bs0, bs01, bs02, bs012, bs013, bs014, bs0134, bs01234, bw1, bw2, bw3])
 | (refine wl_store ?_; simp [*, encI_len, cv53, shp0c, pExt, Prg.cells, ldQ, g1R, obQ, stQ, s1Q, ix3, ia3, ia28, bi3, bs0, bs01, bs02, bs012, bs013, bs014, bs0134, bs01234, bw1, bw2, bw3])
 | (refine wr_store ?_; simp [*, encI_len, cv53, shp0c, pExt, Prg.cells, ldQ, g1R, obQ, stQ, s1Q, ix3, ia3, ia28, bi3, bs0, bs01, bs02, bs012, bs013, bs014, bs0134, bs01234, bw1, bw2, bw3])
 | (show Wl _ _ _ _ _ _; simp [*, encI_len, cv53, shp0c, pExt, Prg.cells, ldQ, g1R, obQ, stQ, s1Q, ix3, ia3, ia28, bi3, bs0, bs01, bs02, bs012, bs013, bs014, bs0134, bs01234, bw1, bw2, bw3])
 | (show Wr _ _ _ _ _ _ _; simp [*, encI_len, cv53, shp0c, pExt, Prg.cells, ldQ, g1R, obQ, stQ, s1Q, ix3, ia3, ia28, bi3, bs0, bs01, bs02, bs012, bs013, bs014, bs0134, bs01234, bw1, bw2, bw3])
 | refine kont (by assumption) ?_
 | with_reducible refine thenA_n ?_
 | with_reducible refine thenA_r ?_
 | with_reducible refine thenA_e ?_
 | with_reducible refine blockA_n ?_
 | with_reducible refine blockA_r ?_
 | with_reducible refine blockA_e ?_
 | with_reducible refine blockA_o rfl ?_
 | refine Awp_ifT rfl ?_
 | refine Awp_ifF rfl ?_
 | (refine Awp_if rfl (fun h => ?_) (fun h => ?_) <;> ((have h' := h; try simp at h') <;> try (have h2 := h; simp only [decide_eq_false_iff_not] at h2)))
 | with_reducible refine Awp_ret ?_
 | with_reducible refine Awp_skip ?_
 | with_reducible refine Awp_exit ?_
 | with_reducible refine Awp_block ?_)
 refine Awp_loop (fun s => ∃ j : Nat, j ≤ 3 ∧ (∀ q, q < j → insA l (wdj (shAt i.op) q) (nmj i q) = false) ∧ s.m = [some (.mp l), some (.box [nU i.op, nI i.a, nI i.b, nI i.c]), some (.box [nS (shAt i.op).nm, nU (shAt i.op).a, nU (shAt i.op).b, nU (shAt i.op).c, nB (shAt i.op).p, nB (shAt i.op).q, nB (shAt i.op).r]), some (.box [nI i.a, nI i.b, nI i.c])] ∧ s.A 1 = .mp 0 ∧ s.A 7 = .ptr 3 0 0 ∧ s.A 47 = .agg [nU (shAt i.op).a, nU (shAt i.op).b, nU (shAt i.op).c] ∧ s.A 48 = nI j) (fun s => match s.A 48 with | .c (.sc (.int _ n)) => 3 - n.toNat | _ => 0) (Gq.here ?_) (fun s hs => ?_)
 · exact ⟨0, by omega, fun q hq => absurd hq (by omega), by simp [*]⟩
 clear a1 a5 a6 a7 a28 a29 hlt hlt' hj
 obtain ⟨A, m⟩ := s
 obtain ⟨j, hj, hp, hm, a1, a7, a47, a48⟩ := hs
 dsimp only at hm a1 a7 a47 a48
 subst hm
 by_cases hlt : j < 3
 case pos =>
  have hlt' : ((j : Int) < 3) := by omega
  have h0 : (0 : Int) ≤ (j : Int) := by omega
  have hx := wdj_get (s := shAt i.op) hlt
  have hy := nmj_get (i := i) hlt
  have hw : IntKind.i64.wrap ((j : Int) + 1) = ((j + 1 : Nat) : Int) := wrap_small (by omega) (by omega)
  have hdec : 3 - (j + 1) < 3 - j := by omega
  generalize hwd : wdj (shAt i.op) j = wd at hx
  generalize hnm : nmj i j = nm at hy
  cases hbad : insA l wd nm with
  | true =>
   have h21 := insF_21 hok hlt (by rw [hwd, hnm]; exact hbad)
   unfold insA at hbad
   simp only [Bool.or_eq_true, Bool.and_eq_true, decide_eq_true_eq, beq_iff_eq] at hbad
   clear hlt
   repeat' (first
   | refine Awp_sq fun K hK => ?_
   | (refine Awp_reg rfl fun K hK => ?_; simp [*, encI_len, cv53, shp0c, pExt, Prg.cells, ldQ, g1R, obQ, stQ, s1Q, ix3, ia3, ia28, bi3, bs0, bs01, bs02, bs012, bs013, bs014, bs0134, bs01234, bw1, bw2, bw3])
   | (refine Awp_regD [] rfl rfl fun K hK => ?_; simp [*, encI_len, cv53, shp0c, pExt, Prg.cells, ldQ, g1R, obQ, stQ, s1Q, ix3, ia3, ia28, bi3, bs0, bs01, bs02, bs012, bs013, bs014, bs0134, bs01234, bw1, bw2, bw3])
   | (refine WG_br (fun h => ?_) (fun h => ?_) <;> (have h' := h; try simp at h'; simp [*, encI_len, cv53, shp0c, pExt, Prg.cells, ldQ, g1R, obQ, stQ, s1Q, ix3, ia3, ia28, bi3, bs0, bs01, bs02, bs012, bs013, bs014, bs0134, bs01234, bw1, bw2, bw3]))
   | (refine RG_br (fun h => ?_) (fun h => ?_) <;> (have h' := h; try simp at h'; simp [*, encI_len, cv53, shp0c, pExt, Prg.cells, ldQ, g1R, obQ, stQ, s1Q, ix3, ia3, ia28, bi3, bs0, bs01, bs02, bs012, bs013, bs014, bs0134, bs01234, bw1, bw2, bw3]))
   | (apply call_p (TC.of _ h0 h1); rfl; rfl; simp [*, Shp.cells, encI_len, cv53, shp0c, pExt, Prg.cells, ldQ, g1R, obQ, stQ, s1Q, ix3, ia3, ia28, bi3, bs0, bs01, bs02, bs012, bs013, bs014, bs0134, bs01234, bw1, bw2, bw3])
   | (refine wl_mmap ?_; try simp [*, encI_len, cv53, shp0c, pExt, Prg.cells, ldQ, g1R, obQ, stQ, s1Q, ix3, ia3, ia28, bi3, bs0, bs01, bs02, bs012, bs013, bs014, bs0134, bs01234, bw1, bw2, bw3])
   | (refine wl_ins rfl rfl rfl mapt rfl ?_; try simp [*, encI_len, cv53, shp0c, pExt, Prg.cells, ldQ, g1R, obQ, stQ, s1Q, ix3, ia3, ia28, bi3, bs0, bs01, bs02, bs012, bs013, bs014, bs0134, bs01234, bw1, bw2, bw3])
   | (refine wl_look rfl rfl mapt rfl ?_; try simp [*, encI_len, cv53, shp0c, pExt, Prg.cells, ldQ, g1R, obQ, stQ, s1Q, ix3, ia3, ia28, bi3, bs0, bs01, bs02, bs012, bs013, bs014, bs0134, bs01234, bw1, bw2, bw3])
   | refine And.intro (by omega) ?_
   | (refine wl_box rfl ?_; simp [*, encI_len, cv53, shp0c, pExt, Prg.cells, ldQ, g1R, obQ, stQ, s1Q, ix3, ia3, ia28, bi3, bs0, bs01, bs02, bs012, bs013, bs014, bs0134, bs01234, bw1, bw2, bw3])
   | (refine wl_alloc rfl ?_; simp [*, encI_len, cv53, shp0c, pExt, Prg.cells, ldQ, g1R, obQ, stQ, s1Q, ix3, ia3, ia28, bi3, bs0, bs01, bs02, bs012, bs013, bs014, bs0134, bs01234, bw1, bw2, bw3])
   | (refine wr_box rfl ?_; simp [*, encI_len, cv53, shp0c, pExt, Prg.cells, ldQ, g1R, obQ, stQ, s1Q, ix3, ia3, ia28, bi3, bs0, bs01, bs02, bs012, bs013, bs014, bs0134, bs01234, bw1, bw2, bw3])
   | (refine wr_alloc rfl ?_; simp [*, encI_len, cv53, shp0c, pExt, Prg.cells, ldQ, g1R, obQ, stQ, s1Q, ix3, ia3, ia28, bi3, bs0, bs01, bs02, bs012, bs013, bs014, bs0134, bs01234, bw1, bw2, bw3])
   | (refine wl_store ?_; simp [*, encI_len, cv53, shp0c, pExt, Prg.cells, ldQ, g1R, obQ, stQ, s1Q, ix3, ia3, ia28, bi3, bs0, bs01, bs02, bs012, bs013, bs014, bs0134, bs01234, bw1, bw2, bw3])
   | (refine wr_store ?_; simp [*, encI_len, cv53, shp0c, pExt, Prg.cells, ldQ, g1R, obQ, stQ, s1Q, ix3, ia3, ia28, bi3, bs0, bs01, bs02, bs012, bs013, bs014, bs0134, bs01234, bw1, bw2, bw3])
   | (show Wl _ _ _ _ _ _; simp [*, encI_len, cv53, shp0c, pExt, Prg.cells, ldQ, g1R, obQ, stQ, s1Q, ix3, ia3, ia28, bi3, bs0, bs01, bs02, bs012, bs013, bs014, bs0134, bs01234, bw1, bw2, bw3])
   | (show Wr _ _ _ _ _ _ _; simp [*, encI_len, cv53, shp0c, pExt, Prg.cells, ldQ, g1R, obQ, stQ, s1Q, ix3, ia3, ia28, bi3, bs0, bs01, bs02, bs012, bs013, bs014, bs0134, bs01234, bw1, bw2, bw3])
   | refine kont (by assumption) ?_
   | with_reducible refine thenA_n ?_
   | with_reducible refine thenA_r ?_
   | with_reducible refine thenA_e ?_
   | with_reducible refine blockA_n ?_
   | with_reducible refine blockA_r ?_
   | with_reducible refine blockA_e ?_
   | with_reducible refine blockA_o rfl ?_
   | refine Awp_ifT rfl ?_
   | refine Awp_ifF rfl ?_
   | (refine Awp_if rfl (fun h => ?_) (fun h => ?_) <;> ((have h' := h; try simp at h') <;> try (have h2 := h; simp only [decide_eq_false_iff_not] at h2)))
   | with_reducible refine Awp_ret ?_
   | with_reducible refine Awp_skip ?_
   | with_reducible refine Awp_exit ?_
   | with_reducible refine Awp_block ?_)
   all_goals (try (subst hQ; refine endA_rL [0] rfl rfl rfl rfl rfl ⟨?_, rfl⟩))
   all_goals first | (simp [*]; done) | (exfalso; simp_all; done) | (exfalso; simp_all; omega)
  | false =>
   have hp2 : ∀ q, q < j + 1 → insA l (wdj (shAt i.op) q) (nmj i q) = false := fun q hq => by
    by_cases e : q = j
    · subst e; rw [hwd, hnm]; exact hbad
    · exact hp q (by omega)
   unfold insA at hbad
   simp only [Bool.or_eq_false_iff, Bool.and_eq_false_iff, decide_eq_false_iff_not, beq_eq_false_iff_ne] at hbad
   clear hlt
   repeat' (first
   | refine Awp_sq fun K hK => ?_
   | (refine Awp_reg rfl fun K hK => ?_; simp [*, encI_len, cv53, shp0c, pExt, Prg.cells, ldQ, g1R, obQ, stQ, s1Q, ix3, ia3, ia28, bi3, bs0, bs01, bs02, bs012, bs013, bs014, bs0134, bs01234, bw1, bw2, bw3])
   | (refine Awp_regD [] rfl rfl fun K hK => ?_; simp [*, encI_len, cv53, shp0c, pExt, Prg.cells, ldQ, g1R, obQ, stQ, s1Q, ix3, ia3, ia28, bi3, bs0, bs01, bs02, bs012, bs013, bs014, bs0134, bs01234, bw1, bw2, bw3])
   | (refine WG_br (fun h => ?_) (fun h => ?_) <;> (have h' := h; try simp at h'; simp [*, encI_len, cv53, shp0c, pExt, Prg.cells, ldQ, g1R, obQ, stQ, s1Q, ix3, ia3, ia28, bi3, bs0, bs01, bs02, bs012, bs013, bs014, bs0134, bs01234, bw1, bw2, bw3]))
   | (refine RG_br (fun h => ?_) (fun h => ?_) <;> (have h' := h; try simp at h'; simp [*, encI_len, cv53, shp0c, pExt, Prg.cells, ldQ, g1R, obQ, stQ, s1Q, ix3, ia3, ia28, bi3, bs0, bs01, bs02, bs012, bs013, bs014, bs0134, bs01234, bw1, bw2, bw3]))
   | (apply call_p (TC.of _ h0 h1); rfl; rfl; simp [*, Shp.cells, encI_len, cv53, shp0c, pExt, Prg.cells, ldQ, g1R, obQ, stQ, s1Q, ix3, ia3, ia28, bi3, bs0, bs01, bs02, bs012, bs013, bs014, bs0134, bs01234, bw1, bw2, bw3])
   | (refine wl_mmap ?_; try simp [*, encI_len, cv53, shp0c, pExt, Prg.cells, ldQ, g1R, obQ, stQ, s1Q, ix3, ia3, ia28, bi3, bs0, bs01, bs02, bs012, bs013, bs014, bs0134, bs01234, bw1, bw2, bw3])
   | (refine wl_ins rfl rfl rfl mapt rfl ?_; try simp [*, encI_len, cv53, shp0c, pExt, Prg.cells, ldQ, g1R, obQ, stQ, s1Q, ix3, ia3, ia28, bi3, bs0, bs01, bs02, bs012, bs013, bs014, bs0134, bs01234, bw1, bw2, bw3])
   | (refine wl_look rfl rfl mapt rfl ?_; try simp [*, encI_len, cv53, shp0c, pExt, Prg.cells, ldQ, g1R, obQ, stQ, s1Q, ix3, ia3, ia28, bi3, bs0, bs01, bs02, bs012, bs013, bs014, bs0134, bs01234, bw1, bw2, bw3])
   | refine And.intro (by omega) ?_
   | (refine wl_box rfl ?_; simp [*, encI_len, cv53, shp0c, pExt, Prg.cells, ldQ, g1R, obQ, stQ, s1Q, ix3, ia3, ia28, bi3, bs0, bs01, bs02, bs012, bs013, bs014, bs0134, bs01234, bw1, bw2, bw3])
   | (refine wl_alloc rfl ?_; simp [*, encI_len, cv53, shp0c, pExt, Prg.cells, ldQ, g1R, obQ, stQ, s1Q, ix3, ia3, ia28, bi3, bs0, bs01, bs02, bs012, bs013, bs014, bs0134, bs01234, bw1, bw2, bw3])
   | (refine wr_box rfl ?_; simp [*, encI_len, cv53, shp0c, pExt, Prg.cells, ldQ, g1R, obQ, stQ, s1Q, ix3, ia3, ia28, bi3, bs0, bs01, bs02, bs012, bs013, bs014, bs0134, bs01234, bw1, bw2, bw3])
   | (refine wr_alloc rfl ?_; simp [*, encI_len, cv53, shp0c, pExt, Prg.cells, ldQ, g1R, obQ, stQ, s1Q, ix3, ia3, ia28, bi3, bs0, bs01, bs02, bs012, bs013, bs014, bs0134, bs01234, bw1, bw2, bw3])
   | (refine wl_store ?_; simp [*, encI_len, cv53, shp0c, pExt, Prg.cells, ldQ, g1R, obQ, stQ, s1Q, ix3, ia3, ia28, bi3, bs0, bs01, bs02, bs012, bs013, bs014, bs0134, bs01234, bw1, bw2, bw3])
   | (refine wr_store ?_; simp [*, encI_len, cv53, shp0c, pExt, Prg.cells, ldQ, g1R, obQ, stQ, s1Q, ix3, ia3, ia28, bi3, bs0, bs01, bs02, bs012, bs013, bs014, bs0134, bs01234, bw1, bw2, bw3])
   | (show Wl _ _ _ _ _ _; simp [*, encI_len, cv53, shp0c, pExt, Prg.cells, ldQ, g1R, obQ, stQ, s1Q, ix3, ia3, ia28, bi3, bs0, bs01, bs02, bs012, bs013, bs014, bs0134, bs01234, bw1, bw2, bw3])
   | (show Wr _ _ _ _ _ _ _; simp [*, encI_len, cv53, shp0c, pExt, Prg.cells, ldQ, g1R, obQ, stQ, s1Q, ix3, ia3, ia28, bi3, bs0, bs01, bs02, bs012, bs013, bs014, bs0134, bs01234, bw1, bw2, bw3])
   | refine kont (by assumption) ?_
   | with_reducible refine thenA_n ?_
   | with_reducible refine thenA_r ?_
   | with_reducible refine thenA_e ?_
   | with_reducible refine blockA_n ?_
   | with_reducible refine blockA_r ?_
   | with_reducible refine blockA_e ?_
   | with_reducible refine blockA_o rfl ?_
   | refine Awp_ifT rfl ?_
   | refine Awp_ifF rfl ?_
   | (refine Awp_if rfl (fun h => ?_) (fun h => ?_) <;> ((have h' := h; try simp at h') <;> try (have h2 := h; simp only [decide_eq_false_iff_not] at h2)))
   | with_reducible refine Awp_ret ?_
   | with_reducible refine Awp_skip ?_
   | with_reducible refine Awp_exit ?_
   | with_reducible refine Awp_block ?_)
   all_goals first | (refine Gq.here ?_; refine ⟨⟨j + 1, by omega, hp2, rfl, ?_, ?_, ?_, ?_⟩, ?_⟩ <;> first | (simp [*]; done) | (simp [*]; omega)) | (exfalso; simp_all; done) | (exfalso; simp_all; omega)
 have hlt' : ¬ ((j : Int) < 3) := by omega
 have h00 := insF_0 hok fun q hq => hp q (by omega)
 repeat' (first
 | refine Awp_sq fun K hK => ?_
 | (refine Awp_reg rfl fun K hK => ?_; simp [*, encI_len, cv53, shp0c, pExt, Prg.cells, ldQ, g1R, obQ, stQ, s1Q, ix3, ia3, ia28, bi3, bs0, bs01, bs02, bs012, bs013, bs014, bs0134, bs01234, bw1, bw2, bw3])
 | (refine Awp_regD [] rfl rfl fun K hK => ?_; simp [*, encI_len, cv53, shp0c, pExt, Prg.cells, ldQ, g1R, obQ, stQ, s1Q, ix3, ia3, ia28, bi3, bs0, bs01, bs02, bs012, bs013, bs014, bs0134, bs01234, bw1, bw2, bw3])
 | (refine WG_br (fun h => ?_) (fun h => ?_) <;> (have h' := h; try simp at h'; simp [*, encI_len, cv53, shp0c, pExt, Prg.cells, ldQ, g1R, obQ, stQ, s1Q, ix3, ia3, ia28, bi3, bs0, bs01, bs02, bs012, bs013, bs014, bs0134, bs01234, bw1, bw2, bw3]))
 | (refine RG_br (fun h => ?_) (fun h => ?_) <;> (have h' := h; try simp at h'; simp [*, encI_len, cv53, shp0c, pExt, Prg.cells, ldQ, g1R, obQ, stQ, s1Q, ix3, ia3, ia28, bi3, bs0, bs01, bs02, bs012, bs013, bs014, bs0134, bs01234, bw1, bw2, bw3]))
 | (apply call_p (TC.of _ h0 h1); rfl; rfl; simp [*, Shp.cells, encI_len, cv53, shp0c, pExt, Prg.cells, ldQ, g1R, obQ, stQ, s1Q, ix3, ia3, ia28, bi3, bs0, bs01, bs02, bs012, bs013, bs014, bs0134, bs01234, bw1, bw2, bw3])
 | (refine wl_mmap ?_; try simp [*, encI_len, cv53, shp0c, pExt, Prg.cells, ldQ, g1R, obQ, stQ, s1Q, ix3, ia3, ia28, bi3, bs0, bs01, bs02, bs012, bs013, bs014, bs0134, bs01234, bw1, bw2, bw3])
 | (refine wl_ins rfl rfl rfl mapt rfl ?_; try simp [*, encI_len, cv53, shp0c, pExt, Prg.cells, ldQ, g1R, obQ, stQ, s1Q, ix3, ia3, ia28, bi3, bs0, bs01, bs02, bs012, bs013, bs014, bs0134, bs01234, bw1, bw2, bw3])
 | (refine wl_look rfl rfl mapt rfl ?_; try simp [*, encI_len, cv53, shp0c, pExt, Prg.cells, ldQ, g1R, obQ, stQ, s1Q, ix3, ia3, ia28, bi3, bs0, bs01, bs02, bs012, bs013, bs014, bs0134, bs01234, bw1, bw2, bw3])
 | refine And.intro (by omega) ?_
 | (refine wl_box rfl ?_; simp [*, encI_len, cv53, shp0c, pExt, Prg.cells, ldQ, g1R, obQ, stQ, s1Q, ix3, ia3, ia28, bi3, bs0, bs01, bs02, bs012, bs013, bs014, bs0134, bs01234, bw1, bw2, bw3])
 | (refine wl_alloc rfl ?_; simp [*, encI_len, cv53, shp0c, pExt, Prg.cells, ldQ, g1R, obQ, stQ, s1Q, ix3, ia3, ia28, bi3, bs0, bs01, bs02, bs012, bs013, bs014, bs0134, bs01234, bw1, bw2, bw3])
 | (refine wr_box rfl ?_; simp [*, encI_len, cv53, shp0c, pExt, Prg.cells, ldQ, g1R, obQ, stQ, s1Q, ix3, ia3, ia28, bi3, bs0, bs01, bs02, bs012, bs013, bs014, bs0134, bs01234, bw1, bw2, bw3])
 | (refine wr_alloc rfl ?_; simp [*, encI_len, cv53, shp0c, pExt, Prg.cells, ldQ, g1R, obQ, stQ, s1Q, ix3, ia3, ia28, bi3, bs0, bs01, bs02, bs012, bs013, bs014, bs0134, bs01234, bw1, bw2, bw3])
 | (refine wl_store ?_; simp [*, encI_len, cv53, shp0c, pExt, Prg.cells, ldQ, g1R, obQ, stQ, s1Q, ix3, ia3, ia28, bi3, bs0, bs01, bs02, bs012, bs013, bs014, bs0134, bs01234, bw1, bw2, bw3])
 | (refine wr_store ?_; simp [*, encI_len, cv53, shp0c, pExt, Prg.cells, ldQ, g1R, obQ, stQ, s1Q, ix3, ia3, ia28, bi3, bs0, bs01, bs02, bs012, bs013, bs014, bs0134, bs01234, bw1, bw2, bw3])
 | (show Wl _ _ _ _ _ _; simp [*, encI_len, cv53, shp0c, pExt, Prg.cells, ldQ, g1R, obQ, stQ, s1Q, ix3, ia3, ia28, bi3, bs0, bs01, bs02, bs012, bs013, bs014, bs0134, bs01234, bw1, bw2, bw3])
 | (show Wr _ _ _ _ _ _ _; simp [*, encI_len, cv53, shp0c, pExt, Prg.cells, ldQ, g1R, obQ, stQ, s1Q, ix3, ia3, ia28, bi3, bs0, bs01, bs02, bs012, bs013, bs014, bs0134, bs01234, bw1, bw2, bw3])
 | refine kont (by assumption) ?_
 | with_reducible refine thenA_n ?_
 | with_reducible refine thenA_r ?_
 | with_reducible refine thenA_e ?_
 | with_reducible refine blockA_n ?_
 | with_reducible refine blockA_r ?_
 | with_reducible refine blockA_e ?_
 | with_reducible refine blockA_o rfl ?_
 | refine Awp_ifT rfl ?_
 | refine Awp_ifF rfl ?_
 | (refine Awp_if rfl (fun h => ?_) (fun h => ?_) <;> ((have h' := h; try simp at h') <;> try (have h2 := h; simp only [decide_eq_false_iff_not] at h2)))
 | with_reducible refine Awp_ret ?_
 | with_reducible refine Awp_skip ?_
 | with_reducible refine Awp_exit ?_
 | with_reducible refine Awp_block ?_)
 all_goals (subst hQ; refine endA_rL [0] rfl rfl rfl rfl rfl ⟨?_, rfl⟩)
 all_goals simp [*]

inductive TF : Spec
 | contn (l : List Int) (hl : l.length < 1000000) : TF 54 [.c (.ls (encI l)), .fn 55 []] ([]) (pt (nB (l.any (fun x => outF x 1 3))) [] [])
 | contc (l : List (List Ins)) (hl : l.length < 1000000) : TF 53 [.c (.ls (l.map encC)), .fn 51 []] ([]) (pt (nB (l.any (fun x => decide (60 < x.length)))) [] [])
 | lim (p : Prg) (n : Int) : TF 56 [.agg p.cells, nI n] ([]) (pt (.mp 0) [some (.mp (limF p n))] [])
 | ins (i : Ins) (l : List (Int × Int)) (h0 : 0 ≤ i.op) (h1 : i.op < 256) : TF 57 [.agg [nU i.op, nI i.a, nI i.b, nI i.c], .mp 0] ([some (.mp l)]) (pt (nE (insF l i)) [some (.mp l)] [])
 | out (n lo hi : Int) : TF 52 [nI n, nI lo, nI hi] ([]) (pt (nB (outF n lo hi)) [] [])
theorem TF_good : Good TF := by
 refine ⟨fun f a m P h => ?_, fun f a m P h => ?_⟩
 · cases h with
   | contn l hl => exact contn_m TC_good l hl
   | contc l hl => exact contc_m TB_good l hl
   | lim p n => exact lim_m TC_good p n
   | ins i l h0 h1 => exact ins_m TC_good i l h0 h1
   | out n lo hi => exact out_m Good.none n lo hi
 · cases h with
   | contn _ _ => exact ⟨_, Try.func54, rfl, rfl⟩
   | contc _ _ => exact ⟨_, Try.func53, rfl, rfl⟩
   | lim _ _ => exact ⟨_, Try.func56, rfl, rfl⟩
   | ins _ _ _ _ => exact ⟨_, Try.func57, rfl, rfl⟩
   | out _ _ _ => exact ⟨_, Try.func52, rfl, rfl⟩

end Go.Proofs.YtogfcpaalcebdaaE
