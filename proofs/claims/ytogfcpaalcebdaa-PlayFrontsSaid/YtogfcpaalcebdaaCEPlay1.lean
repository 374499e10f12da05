/- Runs: begin, pick, end. -/
import Derived.Test.YtogfcpaalcebdaaCEPlay0
namespace Go.Proofs.YtogfcpaalcebdaaE
open Go Go.RowKit
set_option linter.unusedVariables false
set_option linter.unusedSimpArgs false
set_option maxRecDepth 1000000
set_option maxHeartbeats 8000000
attribute [local simp] eqEv be_02 be_124 bins0 bins01 bins02 bprg6 bprg26 bprg56 bprg0 eqpn eqnn MT_set10 MT_set11 st_MT10 st_MT11 rnT_c nlV nlV.nlL frzV frzL frzO pExt encI_len k2_s chunk encI_len cv53 shp0c pExt Prg.cells ldQ g1R obQ stQ s1Q ix3 ia3 ia28 bi3 bs0 bs01 bs02 bs012 bs013 bs014 bs0134 bs01234 bw1 bw2 bw3 rn_ptr rn_sl rn_any posOf encE_len ia_evts ld_evt
theorem begin_m (hG : Good SS) (p : Prg) (hP : OkP p) (hs : soundF p = 0) (x : V) (hv : PV p x) : Meets 20 [x] ([]) (pt (.ptr 0 0 0) (MR ⟨initS p, [], []⟩) []) := by
 rcases hv with _ | hch | ⟨hch, hco⟩
 all_goals
  refine meets hG Try.func20 rfl rfl ?_
  show Awp (env _ _) _ _ ((Try.f20).body.getD .skip) _ _
  unfold Try.f20
  dsimp only [Option.getD_some]
  unfold start
  generalize hQ : endA _ _ _ _ _ = Q
  repeat' (first
  | refine Awp_sqG fun K hK => ?_
  | (refine Awp_reg rfl fun K hK => ?_; simp [*, Evt.cells])
  | (refine Awp_regD [] rfl rfl fun K hK => ?_; simp [*, Evt.cells])
  | (refine WG_br (fun h => ?_) (fun h => ?_) <;> (have h' := h; try simp at h'; simp [*, Evt.cells]))
  | (refine RG_br (fun h => ?_) (fun h => ?_) <;> (have h' := h; try simp at h'; simp [*, Evt.cells]))
  | (refine wl_litF rfl ?_; try simp [*, Evt.cells])
  | (refine call_mk (SS.new p hP hs _ (by first | rfl | (simp [nlV, nlV.nlL, Prg.cells, encI, *]; done))) rfl ?_; try simp [*, Evt.cells])
  | refine Gq.here ?_
  | refine And.intro (by omega) ?_
  | (refine wl_box rfl ?_; simp [*, Evt.cells])
  | (refine wl_alloc rfl ?_; simp [*, Evt.cells])
  | (refine wr_box rfl ?_; simp [*, Evt.cells])
  | (refine wr_alloc rfl ?_; simp [*, Evt.cells])
  | (refine wl_store ?_; simp [*, Evt.cells])
  | (refine wr_store ?_; simp [*, Evt.cells])
  | (show Wl _ _ _ _ _ _; simp [*, Evt.cells])
  | (show Wr _ _ _ _ _ _ _; simp [*, Evt.cells])
  | (refine kont hK ?_; clear hK K)
  | refine kont (by assumption) ?_
  | with_reducible refine thenA_n ?_
  | with_reducible refine thenA_r ?_
  | with_reducible refine thenA_e ?_
  | with_reducible refine blockA_n ?_
  | with_reducible refine blockA_r ?_
  | with_reducible refine blockA_e ?_
  | with_reducible refine blockA_o rfl ?_
  | refine Awp_ifT rfl ?_
  | refine Awp_ifF rfl ?_
  | (refine Awp_if rfl (fun h => ?_) (fun h => ?_) <;> ((have h' := h; try simp at h') <;> try (have h2 := h; simp only [decide_eq_false_iff_not] at h2)))
  | with_reducible refine noGo_n ?_
  | with_reducible refine noGo_r ?_
  | with_reducible refine noGo_e ?_
  | with_reducible refine Awp_scope ?_
  | with_reducible refine Awp_label ?_
  | with_reducible refine Awp_ret ?_
  | with_reducible refine Awp_skip ?_
  | with_reducible refine Awp_exit ?_
  | with_reducible refine Awp_block ?_)
  subst hQ
  refine gq_then (Gst.cmp (L := [2, 1]) rfl rfl rfl) (gq_then (Gst.empB (id := 0) (j := 2 + 1) (sz := 1) (by rfl) (by rfl)) (gq_then (Gst.empB (id := 0) (j := 4) (sz := 6) (by rfl) (by rfl)) (Gq.here ⟨.ptr 0 0 0, ?_, .inl ⟨rfl, ?_⟩⟩)))
  · rfl
  · rfl

theorem beginN_m (hG : Good SS) (p : Prg) (hP : OkP p) (hs : soundF p ≠ 0) (x : V) (hv : PV p x) : Meets 20 [x] ([]) (pt (.c (.sc (.pointer none))) [] []) := by
 rcases hv with _ | hch | ⟨hch, hco⟩
 all_goals
  refine meets hG Try.func20 rfl rfl ?_
  show Awp (env _ _) _ _ ((Try.f20).body.getD .skip) _ _
  unfold Try.f20
  dsimp only [Option.getD_some]
  unfold start
  generalize hQ : endA _ _ _ _ _ = Q
  repeat' (first
  | refine Awp_sqG fun K hK => ?_
  | (refine Awp_reg rfl fun K hK => ?_; simp [*, Evt.cells])
  | (refine Awp_regD [] rfl rfl fun K hK => ?_; simp [*, Evt.cells])
  | (refine WG_br (fun h => ?_) (fun h => ?_) <;> (have h' := h; try simp at h'; simp [*, Evt.cells]))
  | (refine RG_br (fun h => ?_) (fun h => ?_) <;> (have h' := h; try simp at h'; simp [*, Evt.cells]))
  | (refine wl_litF rfl ?_; try simp [*, Evt.cells])
  | (refine call_0 (SS.newN p hP hs _ (by first | rfl | (simp [nlV, nlV.nlL, Prg.cells, encI, *]; done))) rfl rfl ?_; try simp [*, Evt.cells])
  | refine Gq.here ?_
  | refine And.intro (by omega) ?_
  | (refine wl_box rfl ?_; simp [*, Evt.cells])
  | (refine wl_alloc rfl ?_; simp [*, Evt.cells])
  | (refine wr_box rfl ?_; simp [*, Evt.cells])
  | (refine wr_alloc rfl ?_; simp [*, Evt.cells])
  | (refine wl_store ?_; simp [*, Evt.cells])
  | (refine wr_store ?_; simp [*, Evt.cells])
  | (show Wl _ _ _ _ _ _; simp [*, Evt.cells])
  | (show Wr _ _ _ _ _ _ _; simp [*, Evt.cells])
  | (refine kont hK ?_; clear hK K)
  | refine kont (by assumption) ?_
  | with_reducible refine thenA_n ?_
  | with_reducible refine thenA_r ?_
  | with_reducible refine thenA_e ?_
  | with_reducible refine blockA_n ?_
  | with_reducible refine blockA_r ?_
  | with_reducible refine blockA_e ?_
  | with_reducible refine blockA_o rfl ?_
  | refine Awp_ifT rfl ?_
  | refine Awp_ifF rfl ?_
  | (refine Awp_if rfl (fun h => ?_) (fun h => ?_) <;> ((have h' := h; try simp at h') <;> try (have h2 := h; simp only [decide_eq_false_iff_not] at h2)))
  | with_reducible refine noGo_n ?_
  | with_reducible refine noGo_r ?_
  | with_reducible refine noGo_e ?_
  | with_reducible refine Awp_scope ?_
  | with_reducible refine Awp_label ?_
  | with_reducible refine Awp_ret ?_
  | with_reducible refine Awp_skip ?_
  | with_reducible refine Awp_exit ?_
  | with_reducible refine Awp_block ?_)
  all_goals (subst hQ; refine endA_rL [] rfl rfl rfl rfl rfl ⟨rfl, rfl⟩)

theorem pick_m (hG : Good SS) (r : RunS) (k : Int) (hW : WF r.s) (ht : r.s.told.length < 1000000) (hch : ∀ c ∈ r.s.ch, c.row.length < 1000000) (hp : r.picks.length < 999999) (hq : r.trace.length < 999999) (hst : r.s.strip = r.s) : Meets 21 [.ptr 0 0 0, nI k] (MR r) (pt (.tup []) (MR (pickR r k)) [2, 3]) := by
 refine meets hG Try.func21 rfl rfl ?_
 show Awp (env _ _) _ _ ((Try.f21).body.getD .skip) _ _
 unfold Try.f21
 dsimp only [Option.getD_some]
 unfold start
 generalize hQ : endA _ _ _ _ _ = Q
 obtain ⟨τ, ps, es⟩ := r
 unfold MR RunS.box
 dsimp only at hW ht hch hp hq hst ⊢
 have hgp : ps.length + [k].length < 1000000 := by simp; omega
 cases hcan : can τ k with
 | true =>
  cases hn : nextT τ k with
  | mk τ2 e2 =>
  have hgq : es.length + [e2].length < 1000000 := by simp; omega
  have hpk : pickR ⟨τ, ps, es⟩ k = ⟨τ2, ps ++ [k], es ++ [e2]⟩ := by unfold pickR; dsimp only; rw [if_pos hcan, hn]
  rw [hpk] at hQ
  clear hpk
  obtain ⟨e0, e1, e3, e4, e5, e6⟩ := e2
  repeat' (first
  | refine Awp_sqG fun K hK => ?_
  | (refine Awp_reg rfl fun K hK => ?_; simp [*, Evt.cells])
  | (refine Awp_regD [] rfl rfl fun K hK => ?_; simp [*, Evt.cells])
  | (refine WG_br (fun h => ?_) (fun h => ?_) <;> (have h' := h; try simp at h'; simp [*, Evt.cells]))
  | (refine RG_br (fun h => ?_) (fun h => ?_) <;> (have h' := h; try simp at h'; simp [*, Evt.cells]))
  | (refine wl_litF rfl ?_; try simp [*, Evt.cells])
  | (refine call_abs (SS.step τ k hW ht hch) rfl rfl rfl ?_; try simp [*, Evt.cells])
  | (refine wl_appG (f := fun n => [ci n]) (l1 := ps) (l2 := [k]) lk23 rfl lk3 (fun _ _ => rfl) (by decide) (dst_allG rfl) rfl hgp (.inl (by simp)) ?_; try simp [*, Evt.cells])
  | (refine wr_lit1G rfl ?_; try simp [*, Evt.cells])
  | (refine wr_appG (f := Evt.enc) (l1 := es) (l2 := [⟨e0, e1, e3, e4, e5, e6⟩]) lk29 rfl lk41 (fun _ _ => rfl) (by decide) (dst_allG rfl) (src_oneG rfl) hgq (.inl (by simp)) ?_; try simp [*, Evt.cells])
  | refine Gq.here ?_
  | refine And.intro (by omega) ?_
  | (refine wl_box rfl ?_; simp [*, Evt.cells])
  | (refine wl_alloc rfl ?_; simp [*, Evt.cells])
  | (refine wr_box rfl ?_; simp [*, Evt.cells])
  | (refine wr_alloc rfl ?_; simp [*, Evt.cells])
  | (refine wl_store ?_; simp [*, Evt.cells])
  | (refine wr_store ?_; simp [*, Evt.cells])
  | (show Wl _ _ _ _ _ _; simp [*, Evt.cells])
  | (show Wr _ _ _ _ _ _ _; simp [*, Evt.cells])
  | (refine kont hK ?_; clear hK K)
  | refine kont (by assumption) ?_
  | with_reducible refine thenA_n ?_
  | with_reducible refine thenA_r ?_
  | with_reducible refine thenA_e ?_
  | with_reducible refine blockA_n ?_
  | with_reducible refine blockA_r ?_
  | with_reducible refine blockA_e ?_
  | with_reducible refine blockA_o rfl ?_
  | refine Awp_ifT rfl ?_
  | refine Awp_ifF rfl ?_
  | (refine Awp_if rfl (fun h => ?_) (fun h => ?_) <;> ((have h' := h; try simp at h') <;> try (have h2 := h; simp only [decide_eq_false_iff_not] at h2)))
  | with_reducible refine noGo_n ?_
  | with_reducible refine noGo_r ?_
  | with_reducible refine noGo_e ?_
  | with_reducible refine Awp_scope ?_
  | with_reducible refine Awp_label ?_
  | with_reducible refine Awp_ret ?_
  | with_reducible refine Awp_skip ?_
  | with_reducible refine Awp_exit ?_
  | with_reducible refine Awp_block ?_)
  all_goals (subst hQ; first | refine endA_nL [0, 1, 6, 9] rfl rfl rfl rfl rfl ⟨rfl, ?_⟩ | refine endA_rL [0, 1, 6, 9] rfl rfl rfl rfl rfl ⟨rfl, ?_⟩)
  all_goals (simp [MR, RunS.box, encI, encE, Evt.enc]; done)
 | false =>
  have hno := nextT_no hcan hst
  have hpk : pickR ⟨τ, ps, es⟩ k = ⟨τ, ps, es⟩ := by unfold pickR; dsimp only; rw [if_neg (by rw [hcan]; decide)]
  rw [hpk] at hQ
  clear hpk
  repeat' (first
  | refine Awp_sqG fun K hK => ?_
  | (refine Awp_reg rfl fun K hK => ?_; simp [*, Evt.cells, Evt.none])
  | (refine Awp_regD [] rfl rfl fun K hK => ?_; simp [*, Evt.cells, Evt.none])
  | (refine WG_br (fun h => ?_) (fun h => ?_) <;> (have h' := h; try simp at h'; simp [*, Evt.cells, Evt.none]))
  | (refine RG_br (fun h => ?_) (fun h => ?_) <;> (have h' := h; try simp at h'; simp [*, Evt.cells, Evt.none]))
  | (refine wl_litF rfl ?_; try simp [*, Evt.cells, Evt.none])
  | (refine call_abs (SS.step τ k hW ht hch) rfl rfl rfl ?_; try simp [*, Evt.cells])
  | refine Gq.here ?_
  | refine And.intro (by omega) ?_
  | (refine wl_box rfl ?_; simp [*, Evt.cells, Evt.none])
  | (refine wl_alloc rfl ?_; simp [*, Evt.cells, Evt.none])
  | (refine wr_box rfl ?_; simp [*, Evt.cells, Evt.none])
  | (refine wr_alloc rfl ?_; simp [*, Evt.cells, Evt.none])
  | (refine wl_store ?_; simp [*, Evt.cells, Evt.none])
  | (refine wr_store ?_; simp [*, Evt.cells, Evt.none])
  | (show Wl _ _ _ _ _ _; simp [*, Evt.cells, Evt.none])
  | (show Wr _ _ _ _ _ _ _; simp [*, Evt.cells, Evt.none])
  | (refine kont hK ?_; clear hK K)
  | refine kont (by assumption) ?_
  | with_reducible refine thenA_n ?_
  | with_reducible refine thenA_r ?_
  | with_reducible refine thenA_e ?_
  | with_reducible refine blockA_n ?_
  | with_reducible refine blockA_r ?_
  | with_reducible refine blockA_e ?_
  | with_reducible refine blockA_o rfl ?_
  | refine Awp_ifT rfl ?_
  | refine Awp_ifF rfl ?_
  | (refine Awp_if rfl (fun h => ?_) (fun h => ?_) <;> ((have h' := h; try simp at h') <;> try (have h2 := h; simp only [decide_eq_false_iff_not] at h2)))
  | with_reducible refine noGo_n ?_
  | with_reducible refine noGo_r ?_
  | with_reducible refine noGo_e ?_
  | with_reducible refine Awp_scope ?_
  | with_reducible refine Awp_label ?_
  | with_reducible refine Awp_ret ?_
  | with_reducible refine Awp_skip ?_
  | with_reducible refine Awp_exit ?_
  | with_reducible refine Awp_block ?_)
  all_goals (subst hQ; first | refine endA_nL [0, 1, 2, 3] rfl rfl rfl rfl rfl ⟨rfl, ?_⟩ | refine endA_rL [0, 1, 2, 3] rfl rfl rfl rfl rfl ⟨rfl, ?_⟩)
  all_goals (simp [MR, RunS.box, encI, encE, Evt.enc]; done)

theorem end_m (hG : Good SS) (r : RunS) (hW : WF r.s) (ht : r.s.told.length < 1000000) (hl : r.s.th.length < 1000000) : Meets 22 [.ptr 0 0 0] (MR r) (pt (.agg (endR r).cells) [none, none, none, none, some (.box (endR r).cells), none] []) := by
 refine meets hG Try.func22 rfl rfl ?_
 show Awp (env _ _) _ _ ((Try.f22).body.getD .skip) _ _
 unfold Try.f22
 dsimp only [Option.getD_some]
 unfold start
 generalize hQ : endA _ _ _ _ _ = Q
 obtain ⟨τ, ps, es⟩ := r
 unfold MR RunS.box
 dsimp only at hW ht hl ⊢
 repeat' (first
 | refine Awp_sqG fun K hK => ?_
 | (refine Awp_reg rfl fun K hK => ?_; simp [*, Evt.cells])
 | (refine Awp_regD [31, 32] rfl rfl fun K hK => ?_; simp [*, Evt.cells])
 | (refine WG_br (fun h => ?_) (fun h => ?_) <;> (have h' := h; try simp at h'; simp [*, Evt.cells]))
 | (refine RG_br (fun h => ?_) (fun h => ?_) <;> (have h' := h; try simp at h'; simp [*, Evt.cells]))
 | (refine wl_litF rfl ?_; try simp [*, Evt.cells])
 | (refine call_absq (SS.prints τ ht) rfl rfl rfl (by decide) ?_; try simp [*, Evt.cells])
 | (refine call_absq (SS.status τ hW hl) rfl rfl rfl (by decide) ?_; try simp [*, Evt.cells])
 | refine Gq.here ?_
 | refine And.intro (by omega) ?_
 | (refine wl_box rfl ?_; simp [*, Evt.cells])
 | (refine wl_alloc rfl ?_; simp [*, Evt.cells])
 | (refine wr_box rfl ?_; simp [*, Evt.cells])
 | (refine wr_alloc rfl ?_; simp [*, Evt.cells])
 | (refine wl_store ?_; simp [*, Evt.cells])
 | (refine wr_store ?_; simp [*, Evt.cells])
 | (show Wl _ _ _ _ _ _; simp [*, Evt.cells])
 | (show Wr _ _ _ _ _ _ _; simp [*, Evt.cells])
 | (refine kont hK ?_; clear hK K)
 | refine kont (by assumption) ?_
 | with_reducible refine thenA_n ?_
 | with_reducible refine thenA_r ?_
 | with_reducible refine thenA_e ?_
 | with_reducible refine blockA_n ?_
 | with_reducible refine blockA_r ?_
 | with_reducible refine blockA_e ?_
 | with_reducible refine blockA_o rfl ?_
 | refine Awp_ifT rfl ?_
 | refine Awp_ifF rfl ?_
 | (refine Awp_if rfl (fun h => ?_) (fun h => ?_) <;> ((have h' := h; try simp at h') <;> try (have h2 := h; simp only [decide_eq_false_iff_not] at h2)))
 | with_reducible refine noGo_n ?_
 | with_reducible refine noGo_r ?_
 | with_reducible refine noGo_e ?_
 | with_reducible refine Awp_scope ?_
 | with_reducible refine Awp_label ?_
 | with_reducible refine Awp_ret ?_
 | with_reducible refine Awp_skip ?_
 | with_reducible refine Awp_exit ?_
 | with_reducible refine Awp_block ?_)
 subst hQ
 refine gq_then (Gst.frz (id := 2) rfl) (gq_then (Gst.frz (id := 3) rfl) (gq_then (Gst.kill 0) (gq_then (Gst.kill 1) (gq_then (Gst.kill 5) (Gq.here ⟨.agg (endR ⟨τ, ps, es⟩).cells, ?_, .inl ⟨rfl, ?_⟩⟩)))))
 · simp [resA, resL, resV, endR, Res.cells, encI, encE, tk_map, *, eqEv, be_02, be_124, bins0, bins01, bins02, bprg6, bprg26, bprg56, bprg0, eqpn, eqnn, MT_set10, MT_set11, st_MT10, st_MT11, rnT_c, nlV, nlV.nlL, frzV, frzL, frzO, pExt, encI_len, k2_s, chunk, encI_len, cv53, shp0c, pExt, Prg.cells, ldQ, g1R, obQ, stQ, s1Q, ix3, ia3, ia28, bi3, bs0, bs01, bs02, bs012, bs013, bs014, bs0134, bs01234, bw1, bw2, bw3, rn_ptr, rn_sl, rn_any, posOf, encE_len, ia_evts, ld_evt, Evt.cells, frzV_full, fz_c, fz_p, fz_a, fz_n, frzV, frzL, frzO, up_frz]
 · simp [endR, Res.cells, encI, encE, tk_map, *, eqEv, be_02, be_124, bins0, bins01, bins02, bprg6, bprg26, bprg56, bprg0, eqpn, eqnn, MT_set10, MT_set11, st_MT10, st_MT11, rnT_c, nlV, nlV.nlL, frzV, frzL, frzO, pExt, encI_len, k2_s, chunk, encI_len, cv53, shp0c, pExt, Prg.cells, ldQ, g1R, obQ, stQ, s1Q, ix3, ia3, ia28, bi3, bs0, bs01, bs02, bs012, bs013, bs014, bs0134, bs01234, bw1, bw2, bw3, rn_ptr, rn_sl, rn_any, posOf, encE_len, ia_evts, ld_evt, Evt.cells, frzV_full, fz_c, fz_p, fz_a, fz_n, frzV, frzL, frzO, up_frz]

end Go.Proofs.YtogfcpaalcebdaaE
