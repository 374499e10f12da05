/- Runs: PlayAlone. -/
import Derived.Test.YtogfcpaalcebdaaCEPlay7
namespace Go.Proofs.YtogfcpaalcebdaaE
open Go Go.RowKit
set_option linter.unusedVariables false
set_option linter.unusedSimpArgs false
set_option maxRecDepth 1000000
set_option maxHeartbeats 8000000
attribute [local simp] eqEv be_02 be_124 bins0 bins01 bins02 bprg6 bprg26 bprg56 bprg0 eqpn eqnn MT_set10 MT_set11 st_MT10 st_MT11 rnT_c nlV nlV.nlL frzV frzL frzO pExt encI_len k2_s chunk encI_len cv53 shp0c pExt Prg.cells ldQ g1R obQ stQ s1Q ix3 ia3 ia28 bi3 bs0 bs01 bs02 bs012 bs013 bs014 bs0134 bs01234 bw1 bw2 bw3 rn_ptr rn_sl rn_any posOf encE_len ia_evts ld_evt Evt.cells Res.cells
theorem alone_m (hG : Good SV) (l : List Int) (hl : ∀ x ∈ l, 0 ≤ x ∧ x < 256) (hlr : l.length ≤ 9223372036854775807) (c : List Int) (hc : ∀ x ∈ c, 0 ≤ x ∧ x < 256) : Meets 3 [.c (.ls (encU l)), .c (.ls (encU c))] ([]) (pt (nB true) [] []) := by
 refine meets hG Try.func3 rfl rfl ?_
 show Awp (env _ _) _ _ ((Try.f3).body.getD .skip) _ _
 unfold Try.f3
 dsimp only [Option.getD_some]
 unfold start
 generalize hQ : endA _ _ _ _ _ = Q
 have hl8 : ∀ r ∈ [l], ∀ x ∈ r, 0 ≤ x ∧ x < 256 := fun r hr => by rw [List.mem_singleton.1 hr]; exact hl
 have hone : (makeM [l]).code.length = 1 := by simp [makeM, nM]
 have hok := makeM_ok hl8
 have hs := makeM_s hl8
 have hmk := SV.w (SW.make [l] hl8 (by simp) (fun r hr => by rw [List.mem_singleton.1 hr]; exact hlr))
 have hpk := SV.w (SW.picks c hc)
 generalize makeM [l] = p at *
 have hq60 := picks_le (c := c)
 have hrn := SV.w (SW.run p hok hs _ .full (picksF c) (by omega))
 have hal := alone hs hone (picksF c)
 have hO := runN_ok hs (picksF c)
 generalize runN p (picksF c) = R at *
 have h1 : R.s.told.length < 1000000 := by have := hO.bd.told; omega
 have h2 : R.picks.length < 1000000 := by have := hO.np; omega
 have h3 : R.trace.length < 1000000 := by have := hO.nt; omega
 have hrd := SV.w (SW.round p hok hs _ .full (R.picks.length : Int) (by omega) (by have := hO.np; omega))
 rw [Int.toNat_natCast, hal] at hrd
 have hkn := SV.known
 clear hO hs hok hl8 hl hlr hq60 hc hal hone
 repeat' (first
 | refine Awp_sqG fun K hK => ?_
 | (refine Awp_reg rfl fun K hK => ?_; simp [*, endR])
 | (refine Awp_regD [13, 12] rfl rfl fun K hK => ?_; simp [*, endR])
 | (refine WG_br (fun h => ?_) (fun h => ?_) <;> (have h' := h; try simp at h'; simp [*, endR]))
 | (refine RG_br (fun h => ?_) (fun h => ?_) <;> (have h' := h; try simp at h'; simp [*, endR]))
 | (refine wl_litF rfl ?_; try simp [*, endR])
 | (refine call_0 hmk rfl rfl ?_; try simp [*, endR])
 | (refine call_0 hrd rfl rfl ?_; try simp [*, endR])
 | (refine call_0 hkn rfl rfl ?_; try simp [*, endR])
 | (refine call_pq hpk rfl rfl ?_; try simp [*, endR])
 | (refine call_pq hrn rfl rfl ?_; try simp [*, endR])
 | refine Gq.here ?_
 | refine And.intro (by omega) ?_
 | (refine wl_box rfl ?_; simp [*, endR])
 | (refine wl_alloc rfl ?_; simp [*, endR])
 | (refine wr_box rfl ?_; simp [*, endR])
 | (refine wr_alloc rfl ?_; simp [*, endR])
 | (refine wl_store ?_; simp [*, endR])
 | (refine wr_store ?_; simp [*, endR])
 | (show Wl _ _ _ _ _ _; simp [*, endR])
 | (show Wr _ _ _ _ _ _ _; simp [*, endR])
 | (refine kont hK ?_; clear hK K)
 | refine kont (by assumption) ?_
 | with_reducible refine thenA_n ?_
 | with_reducible refine thenA_r ?_
 | with_reducible refine thenA_e ?_
 | with_reducible refine blockA_n ?_
 | with_reducible refine blockA_r ?_
 | with_reducible refine blockA_e ?_
 | with_reducible refine blockA_o rfl ?_
 | refine Awp_ifT rfl ?_
 | refine Awp_ifF rfl ?_
 | (refine Awp_if rfl (fun h => ?_) (fun h => ?_) <;> ((have h' := h; try simp at h') <;> try (have h2 := h; simp only [decide_eq_false_iff_not] at h2)))
 | with_reducible refine noGo_n ?_
 | with_reducible refine noGo_r ?_
 | with_reducible refine noGo_e ?_
 | with_reducible refine Awp_scope ?_
 | with_reducible refine Awp_label ?_
 | with_reducible refine Awp_ret ?_
 | with_reducible refine Awp_skip ?_
 | with_reducible refine Awp_exit ?_
 | with_reducible refine Awp_block ?_)

 refine Awp_loop (fun s => ∃ j : Nat, j ≤ R.s.told.length ∧ s.m = [none, some (.box [nI p.vars, nI p.atoms, nI p.locks, .c (.ls (encI p.chans)), nI p.groups, nI p.onces, .c (.ls (p.code.map encC))]), some (.box [.c (.ls (encI R.s.told)), nU (statF R.s), .c (.ls (encI R.picks)), .c (.ls (encE R.trace))]), some (.box [.c (.ls (encI R.s.told)), nU (statF R.s), .c (.ls (encI R.picks)), .c (.ls (encE R.trace))])] ∧ s.A 6 = .ptr 2 0 0 ∧ s.A 8 = .ptr 3 0 0 ∧ s.A 10 = nI j) (fun s => match s.A 10 with | .c (.sc (.int _ n)) => R.s.told.length - n.toNat | _ => 0) (Gq.here ?_) (fun s hs2 => ?_)
 · refine ⟨0, Nat.zero_le _, ?_, ?_, ?_, ?_⟩ <;> first | rfl | (simp [*]; done)
 obtain ⟨A, m⟩ := s
 obtain ⟨j, hj, hm, a6, a8, a10⟩ := hs2
 dsimp only at hm a6 a8 a10
 subst hm
 by_cases hlt : j < R.s.told.length
 case neg =>
  have hjl : j = R.s.told.length := by omega
  subst hjl
  clear hlt hj
  repeat' (first
  | refine Awp_sqG fun K hK => ?_
  | (refine Awp_reg rfl fun K hK => ?_; simp [*, endR])
  | (refine Awp_regD [] rfl rfl fun K hK => ?_; simp [*, endR])
  | (refine WG_br (fun h => ?_) (fun h => ?_) <;> (have h' := h; try simp at h'; simp [*, endR]))
  | (refine RG_br (fun h => ?_) (fun h => ?_) <;> (have h' := h; try simp at h'; simp [*, endR]))
  | (refine wl_litF rfl ?_; try simp [*, endR])
  | (refine call_0 hkn rfl rfl ?_; try simp [*, endR])
  | refine Gq.here ?_
  | refine And.intro (by omega) ?_
  | (refine wl_box rfl ?_; simp [*, endR])
  | (refine wl_alloc rfl ?_; simp [*, endR])
  | (refine wr_box rfl ?_; simp [*, endR])
  | (refine wr_alloc rfl ?_; simp [*, endR])
  | (refine wl_store ?_; simp [*, endR])
  | (refine wr_store ?_; simp [*, endR])
  | (show Wl _ _ _ _ _ _; simp [*, endR])
  | (show Wr _ _ _ _ _ _ _; simp [*, endR])
  | (refine kont hK ?_; clear hK K)
  | refine kont (by assumption) ?_
  | with_reducible refine thenA_n ?_
  | with_reducible refine thenA_r ?_
  | with_reducible refine thenA_e ?_
  | with_reducible refine blockA_n ?_
  | with_reducible refine blockA_r ?_
  | with_reducible refine blockA_e ?_
  | with_reducible refine blockA_o rfl ?_
  | refine Awp_ifT rfl ?_
  | refine Awp_ifF rfl ?_
  | (refine Awp_if rfl (fun h => ?_) (fun h => ?_) <;> ((have h' := h; try simp at h') <;> try (have h2 := h; simp only [decide_eq_false_iff_not] at h2)))
  | with_reducible refine noGo_n ?_
  | with_reducible refine noGo_r ?_
  | with_reducible refine noGo_e ?_
  | with_reducible refine Awp_scope ?_
  | with_reducible refine Awp_label ?_
  | with_reducible refine Awp_ret ?_
  | with_reducible refine Awp_skip ?_
  | with_reducible refine Awp_exit ?_
  | with_reducible refine Awp_block ?_)
  all_goals (subst hQ; refine endA_rL [] rfl rfl rfl rfl rfl ⟨?_, rfl⟩; first | rfl | (simp [*]; done))
 have hlt' : ((j : Int) < (R.s.told.length : Int)) := by omega
 obtain ⟨x, hx1⟩ : ∃ x, R.s.told[j]? = some x := ⟨R.s.told[j], by simp [hlt]⟩
 have hx2 : R.s.told[(j : Int).toNat]? = some x := hx1
 have hj0 : (0 : Int) ≤ (j : Int) := by omega
 have hdec : R.s.told.length - (j + 1) < R.s.told.length - j := by omega
 have hwj : IntKind.i64.wrap ((j : Int) + 1) = (j : Int) + 1 := wrap_small (by omega) (by omega)
 have hj1 : j + 1 ≤ R.s.told.length := by omega
 clear hlt hj
 repeat' (first
 | refine Awp_sq fun K hK => ?_
 | (refine Awp_reg rfl fun K hK => ?_; simp [*, endR, ld_op, ld_val, ld_th, ld_th0, bneI])
 | (refine Awp_regD [] rfl rfl fun K hK => ?_; simp [*, endR, ld_op, ld_val, ld_th, ld_th0, bneI])
 | (refine WG_br (fun h => ?_) (fun h => ?_) <;> (have h' := h; try simp at h'; simp [*, endR, ld_op, ld_val, ld_th, ld_th0, bneI]))
 | (refine RG_br (fun h => ?_) (fun h => ?_) <;> (have h' := h; try simp at h'; simp [*, endR, ld_op, ld_val, ld_th, ld_th0, bneI]))
 | (refine wl_litF rfl ?_; try simp [*, endR, ld_op, ld_val, ld_th, ld_th0, bneI])
 | refine And.intro (by omega) ?_
 | (refine wl_box rfl ?_; simp [*, endR, ld_op, ld_val, ld_th, ld_th0, bneI])
 | (refine wl_alloc rfl ?_; simp [*, endR, ld_op, ld_val, ld_th, ld_th0, bneI])
 | (refine wr_box rfl ?_; simp [*, endR, ld_op, ld_val, ld_th, ld_th0, bneI])
 | (refine wr_alloc rfl ?_; simp [*, endR, ld_op, ld_val, ld_th, ld_th0, bneI])
 | (refine wl_store ?_; simp [*, endR, ld_op, ld_val, ld_th, ld_th0, bneI])
 | (refine wr_store ?_; simp [*, endR, ld_op, ld_val, ld_th, ld_th0, bneI])
 | (show Wl _ _ _ _ _ _; simp [*, endR, ld_op, ld_val, ld_th, ld_th0, bneI])
 | (show Wr _ _ _ _ _ _ _; simp [*, endR, ld_op, ld_val, ld_th, ld_th0, bneI])
 | (refine kont hK ?_; clear hK K)
 | refine kont (by assumption) ?_
 | with_reducible refine thenA_n ?_
 | with_reducible refine thenA_r ?_
 | with_reducible refine thenA_e ?_
 | with_reducible refine blockA_n ?_
 | with_reducible refine blockA_r ?_
 | with_reducible refine blockA_e ?_
 | with_reducible refine blockA_o rfl ?_
 | refine Awp_ifT rfl ?_
 | refine Awp_ifF rfl ?_
 | (refine Awp_if rfl (fun h => ?_) (fun h => ?_) <;> ((have h' := h; try simp at h') <;> try (have h2 := h; simp only [decide_eq_false_iff_not] at h2)))
 | with_reducible refine noGo_n ?_
 | with_reducible refine noGo_r ?_
 | with_reducible refine noGo_e ?_
 | with_reducible refine Awp_scope ?_
 | with_reducible refine Awp_label ?_
 | with_reducible refine Awp_ret ?_
 | with_reducible refine Awp_skip ?_
 | with_reducible refine Awp_exit ?_
 | with_reducible refine Awp_block ?_)
 all_goals (refine Gq.here ⟨⟨j + 1, hj1, ?_, ?_, ?_, ?_⟩, ?_⟩ <;> first | rfl | (simp [*]; done) | (simp [*]; omega))

end Go.Proofs.YtogfcpaalcebdaaE
