/- Runs: PlayPrints. -/
import Derived.Test.YtogfcpaalcebdaaCEPlay6
namespace Go.Proofs.YtogfcpaalcebdaaE
open Go Go.RowKit
set_option linter.unusedVariables false
set_option linter.unusedSimpArgs false
set_option maxRecDepth 1000000
set_option maxHeartbeats 8000000
theorem ld_op {x : Evt} {m : Mem2} : aLoad tab m 5 (.at (x.enc.drop 2)) = some (nU x.op) := rfl
theorem ld_val {x : Evt} {m : Mem2} : aLoad tab m 3 (.at (x.enc.drop 4)) = some (nI x.val) := rfl
theorem ld_th {x : Evt} {m : Mem2} : aLoad tab m 3 (.at (x.enc.drop 0)) = some (nI x.th) := rfl
theorem ld_th0 {x : Evt} {m : Mem2} : aLoad tab m 3 (.at x.enc) = some (nI x.th) := rfl
theorem tells_at {t : List Evt} {told : List Int} {j : Nat} {x : Evt} (h : told = t.filterMap tellE) (hx : t[j]? = some x) : ((t.take j).filterMap tellE).length ≤ told.length ∧ (x.op = 9 → told[((t.take j).filterMap tellE).length]? = some x.val ∧ ((t.take (j + 1)).filterMap tellE).length = ((t.take j).filterMap tellE).length + 1 ∧ ((t.take j).filterMap tellE).length < told.length) ∧ (¬ (x.op = 9) → ((t.take (j + 1)).filterMap tellE).length = ((t.take j).filterMap tellE).length) := by
 have h1 : t.take (j + 1) = t.take j ++ [x] := by rw [List.take_add_one, hx]; rfl
 have h2 : told = (t.take j).filterMap tellE ++ (t.drop j).filterMap tellE := by rw [← List.filterMap_append, List.take_append_drop]; exact h
 have h3 : t.drop j = x :: t.drop (j + 1) := by
  obtain ⟨hl, e⟩ := List.getElem?_eq_some_iff.1 hx
  rw [List.drop_eq_getElem_cons hl, e]
 refine ⟨by rw [h2]; simp, fun h9 => ?_, fun h9 => ?_⟩
 · have e : tellE x = some x.val := by unfold tellE; rw [if_pos h9]
   rw [h3, List.filterMap_cons, e] at h2
   rw [h1, List.filterMap_append]
   refine ⟨by rw [h2]; simp, by simp [e], by rw [h2]; simp⟩
 · have e : tellE x = none := by unfold tellE; rw [if_neg h9]
   rw [h1, List.filterMap_append]
   simp [e]
attribute [local simp] eqEv be_02 be_124 bins0 bins01 bins02 bprg6 bprg26 bprg56 bprg0 eqpn eqnn MT_set10 MT_set11 st_MT10 st_MT11 rnT_c nlV nlV.nlL frzV frzL frzO pExt encI_len k2_s chunk encI_len cv53 shp0c pExt Prg.cells ldQ g1R obQ stQ s1Q ix3 ia3 ia28 bi3 bs0 bs01 bs02 bs012 bs013 bs014 bs0134 bs01234 bw1 bw2 bw3 rn_ptr rn_sl rn_any posOf encE_len ia_evts ld_evt Evt.cells Res.cells
theorem prints_m5 (hG : Good SV) (l : List (List Int)) (hl8 : ∀ r ∈ l, ∀ x ∈ r, 0 ≤ x ∧ x < 256) (hll : l.length ≤ 9223372036854775807) (hlr : ∀ r ∈ l, r.length ≤ 9223372036854775807) (c : List Int) (hc : ∀ x ∈ c, 0 ≤ x ∧ x < 256) : Meets 10 [.c (.ls (encR l)), .c (.ls (encU c))] ([]) (pt (nB true) [] []) := by
 refine meets hG Try.func10 rfl rfl ?_
 show Awp (env _ _) _ _ ((Try.f10).body.getD .skip) _ _
 unfold Try.f10
 dsimp only [Option.getD_some]
 unfold start
 generalize hQ : endA _ _ _ _ _ = Q
 have hok := makeM_ok hl8
 have hs := makeM_s hl8
 have hmk := SV.w (SW.make l hl8 hll hlr)
 have hpk := SV.w (SW.picks c hc)
 generalize makeM l = p at *
 have hq60 := picks_le (c := c)
 have hrn := SV.w (SW.run p hok hs _ .full (picksF c) (by omega))
 have hC := runN_c p (picksF c)
 have hO := runN_ok hs (picksF c)
 generalize runN p (picksF c) = R at *
 have h1 : R.s.told.length < 1000000 := by have := hO.bd.told; omega
 have h3 : R.trace.length < 1000000 := by have := hO.nt; omega
 have htold := hC.told
 have hkn := SV.known
 clear hC hO hs hok hl8 hll hlr hq60 hc
 repeat' (first
 | refine Awp_sqG fun K hK => ?_
 | (refine Awp_reg rfl fun K hK => ?_; simp [*, endR])
 | (refine Awp_regD [] rfl rfl fun K hK => ?_; simp [*, endR])
 | (refine WG_br (fun h => ?_) (fun h => ?_) <;> (have h' := h; try simp at h'; simp [*, endR]))
 | (refine RG_br (fun h => ?_) (fun h => ?_) <;> (have h' := h; try simp at h'; simp [*, endR]))
 | (refine wl_litF rfl ?_; try simp [*, endR])
 | (refine call_0 hmk rfl rfl ?_; try simp [*, endR])
 | (refine call_0 hpk rfl rfl ?_; try simp [*, endR])
 | (refine call_0 hrn rfl rfl ?_; try simp [*, endR])
 | (refine call_0 hkn rfl rfl ?_; try simp [*, endR])
 | refine Gq.here ?_
 | refine And.intro (by omega) ?_
 | (refine wl_box rfl ?_; simp [*, endR])
 | (refine wl_alloc rfl ?_; simp [*, endR])
 | (refine wr_box rfl ?_; simp [*, endR])
 | (refine wr_alloc rfl ?_; simp [*, endR])
 | (refine wl_store ?_; simp [*, endR])
 | (refine wr_store ?_; simp [*, endR])
 | (show Wl _ _ _ _ _ _; simp [*, endR])
 | (show Wr _ _ _ _ _ _ _; simp [*, endR])
 | (refine kont hK ?_; clear hK K)
 | refine kont (by assumption) ?_
 | with_reducible refine thenA_n ?_
 | with_reducible refine thenA_r ?_
 | with_reducible refine thenA_e ?_
 | with_reducible refine blockA_n ?_
 | with_reducible refine blockA_r ?_
 | with_reducible refine blockA_e ?_
 | with_reducible refine blockA_o rfl ?_
 | refine Awp_ifT rfl ?_
 | refine Awp_ifF rfl ?_
 | (refine Awp_if rfl (fun h => ?_) (fun h => ?_) <;> ((have h' := h; try simp at h') <;> try (have h2 := h; simp only [decide_eq_false_iff_not] at h2)))
 | with_reducible refine noGo_n ?_
 | with_reducible refine noGo_r ?_
 | with_reducible refine noGo_e ?_
 | with_reducible refine Awp_scope ?_
 | with_reducible refine Awp_label ?_
 | with_reducible refine Awp_ret ?_
 | with_reducible refine Awp_skip ?_
 | with_reducible refine Awp_exit ?_
 | with_reducible refine Awp_block ?_)

 refine Awp_loop (fun s => ∃ j : Nat, j ≤ R.trace.length ∧ s.m = [some (.box [.c (.ls (encI R.s.told)), nU (statF R.s), .c (.ls (encI R.picks)), .c (.ls (encE R.trace))])] ∧ s.A 5 = .ptr 0 0 0 ∧ s.A 7 = nI ((R.trace.take j).filterMap tellE).length ∧ s.A 8 = nI j) (fun s => match s.A 8 with | .c (.sc (.int _ n)) => R.trace.length - n.toNat | _ => 0) (Gq.here ?_) (fun s hs2 => ?_)
 · refine ⟨0, Nat.zero_le _, ?_, ?_, ?_, ?_⟩ <;> first | rfl | (simp [*]; done)
 obtain ⟨A, m⟩ := s
 obtain ⟨j, hj, hm, a5, a7, a8⟩ := hs2
 dsimp only at hm a5 a7 a8
 subst hm
 by_cases hlt : j < R.trace.length
 case neg =>
  have hjl : j = R.trace.length := by omega
  subst hjl
  rw [List.take_length, ← htold] at a7
  clear hlt hj htold
  repeat' (first
  | refine Awp_sqG fun K hK => ?_
  | (refine Awp_reg rfl fun K hK => ?_; simp [*, endR])
  | (refine Awp_regD [] rfl rfl fun K hK => ?_; simp [*, endR])
  | (refine WG_br (fun h => ?_) (fun h => ?_) <;> (have h' := h; try simp at h'; simp [*, endR]))
  | (refine RG_br (fun h => ?_) (fun h => ?_) <;> (have h' := h; try simp at h'; simp [*, endR]))
  | (refine wl_litF rfl ?_; try simp [*, endR])
  | (refine call_0 hkn rfl rfl ?_; try simp [*, endR])
  | refine Gq.here ?_
  | refine And.intro (by omega) ?_
  | (refine wl_box rfl ?_; simp [*, endR])
  | (refine wl_alloc rfl ?_; simp [*, endR])
  | (refine wr_box rfl ?_; simp [*, endR])
  | (refine wr_alloc rfl ?_; simp [*, endR])
  | (refine wl_store ?_; simp [*, endR])
  | (refine wr_store ?_; simp [*, endR])
  | (show Wl _ _ _ _ _ _; simp [*, endR])
  | (show Wr _ _ _ _ _ _ _; simp [*, endR])
  | (refine kont hK ?_; clear hK K)
  | refine kont (by assumption) ?_
  | with_reducible refine thenA_n ?_
  | with_reducible refine thenA_r ?_
  | with_reducible refine thenA_e ?_
  | with_reducible refine blockA_n ?_
  | with_reducible refine blockA_r ?_
  | with_reducible refine blockA_e ?_
  | with_reducible refine blockA_o rfl ?_
  | refine Awp_ifT rfl ?_
  | refine Awp_ifF rfl ?_
  | (refine Awp_if rfl (fun h => ?_) (fun h => ?_) <;> ((have h' := h; try simp at h') <;> try (have h2 := h; simp only [decide_eq_false_iff_not] at h2)))
  | with_reducible refine noGo_n ?_
  | with_reducible refine noGo_r ?_
  | with_reducible refine noGo_e ?_
  | with_reducible refine Awp_scope ?_
  | with_reducible refine Awp_label ?_
  | with_reducible refine Awp_ret ?_
  | with_reducible refine Awp_skip ?_
  | with_reducible refine Awp_exit ?_
  | with_reducible refine Awp_block ?_)
  all_goals (subst hQ; refine endA_rL [] rfl rfl rfl rfl rfl ⟨?_, rfl⟩; first | rfl | (simp [*]; done))
 have hlt' : ((j : Int) < (R.trace.length : Int)) := by omega
 obtain ⟨x, hx1⟩ : ∃ x, R.trace[j]? = some x := ⟨R.trace[j], by simp [hlt]⟩
 have hx2 : R.trace[(j : Int).toNat]? = some x := hx1
 have hj0 : (0 : Int) ≤ (j : Int) := by omega
 have hdec : R.trace.length - (j + 1) < R.trace.length - j := by omega
 have hwj : IntKind.i64.wrap ((j : Int) + 1) = (j : Int) + 1 := wrap_small (by omega) (by omega)
 have hj1 : j + 1 ≤ R.trace.length := by omega
 obtain ⟨hk1, hk2, hk3⟩ := tells_at htold hx1
 generalize hkk : ((R.trace.take j).filterMap tellE).length = k at *
 have hk0 : (0 : Int) ≤ (k : Int) := by omega
 have hwk : IntKind.i64.wrap ((k : Int) + 1) = (k : Int) + 1 := wrap_small (by omega) (by omega)
 by_cases h9 : x.op = 9
 case pos =>
  obtain ⟨hk4, hk5, hk8⟩ := hk2 h9
  have hk6 : R.s.told[(k : Int).toNat]? = some x.val := hk4
  have hk7 : ¬ ((R.s.told.length : Int) ≤ (k : Int)) := by omega
  clear hlt hj hk1 hk2 hk3 htold hk8
  repeat' (first
  | refine Awp_sq fun K hK => ?_
  | (refine Awp_reg rfl fun K hK => ?_; simp [*, endR, ld_op, ld_val, ld_th, ld_th0, bneI])
  | (refine Awp_regD [] rfl rfl fun K hK => ?_; simp [*, endR, ld_op, ld_val, ld_th, ld_th0, bneI])
  | (refine WG_br (fun h => ?_) (fun h => ?_) <;> (have h' := h; try simp at h'; simp [*, endR, ld_op, ld_val, ld_th, ld_th0, bneI]))
  | (refine RG_br (fun h => ?_) (fun h => ?_) <;> (have h' := h; try simp at h'; simp [*, endR, ld_op, ld_val, ld_th, ld_th0, bneI]))
  | (refine wl_litF rfl ?_; try simp [*, endR, ld_op, ld_val, ld_th, ld_th0, bneI])
  | refine And.intro (by omega) ?_
  | (refine wl_box rfl ?_; simp [*, endR, ld_op, ld_val, ld_th, ld_th0, bneI])
  | (refine wl_alloc rfl ?_; simp [*, endR, ld_op, ld_val, ld_th, ld_th0, bneI])
  | (refine wr_box rfl ?_; simp [*, endR, ld_op, ld_val, ld_th, ld_th0, bneI])
  | (refine wr_alloc rfl ?_; simp [*, endR, ld_op, ld_val, ld_th, ld_th0, bneI])
  | (refine wl_store ?_; simp [*, endR, ld_op, ld_val, ld_th, ld_th0, bneI])
  | (refine wr_store ?_; simp [*, endR, ld_op, ld_val, ld_th, ld_th0, bneI])
  | (show Wl _ _ _ _ _ _; simp [*, endR, ld_op, ld_val, ld_th, ld_th0, bneI])
  | (show Wr _ _ _ _ _ _ _; simp [*, endR, ld_op, ld_val, ld_th, ld_th0, bneI])
  | (refine kont hK ?_; clear hK K)
  | refine kont (by assumption) ?_
  | with_reducible refine thenA_n ?_
  | with_reducible refine thenA_r ?_
  | with_reducible refine thenA_e ?_
  | with_reducible refine blockA_n ?_
  | with_reducible refine blockA_r ?_
  | with_reducible refine blockA_e ?_
  | with_reducible refine blockA_o rfl ?_
  | refine Awp_ifT rfl ?_
  | refine Awp_ifF rfl ?_
  | (refine Awp_if rfl (fun h => ?_) (fun h => ?_) <;> ((have h' := h; try simp at h') <;> try (have h2 := h; simp only [decide_eq_false_iff_not] at h2)))
  | with_reducible refine noGo_n ?_
  | with_reducible refine noGo_r ?_
  | with_reducible refine noGo_e ?_
  | with_reducible refine Awp_scope ?_
  | with_reducible refine Awp_label ?_
  | with_reducible refine Awp_ret ?_
  | with_reducible refine Awp_skip ?_
  | with_reducible refine Awp_exit ?_
  | with_reducible refine Awp_block ?_)
  all_goals (refine Gq.here ⟨⟨j + 1, hj1, ?_, ?_, ?_, ?_⟩, ?_⟩ <;> first | rfl | (simp [*]; done) | (simp [*]; omega))
 case neg =>
  have hk5 := hk3 h9
  clear hlt hj hk1 hk2 hk3 htold
  repeat' (first
  | refine Awp_sq fun K hK => ?_
  | (refine Awp_reg rfl fun K hK => ?_; simp [*, endR, ld_op, ld_val, ld_th, ld_th0, bneI])
  | (refine Awp_regD [] rfl rfl fun K hK => ?_; simp [*, endR, ld_op, ld_val, ld_th, ld_th0, bneI])
  | (refine WG_br (fun h => ?_) (fun h => ?_) <;> (have h' := h; try simp at h'; simp [*, endR, ld_op, ld_val, ld_th, ld_th0, bneI]))
  | (refine RG_br (fun h => ?_) (fun h => ?_) <;> (have h' := h; try simp at h'; simp [*, endR, ld_op, ld_val, ld_th, ld_th0, bneI]))
  | (refine wl_litF rfl ?_; try simp [*, endR, ld_op, ld_val, ld_th, ld_th0, bneI])
  | refine And.intro (by omega) ?_
  | (refine wl_box rfl ?_; simp [*, endR, ld_op, ld_val, ld_th, ld_th0, bneI])
  | (refine wl_alloc rfl ?_; simp [*, endR, ld_op, ld_val, ld_th, ld_th0, bneI])
  | (refine wr_box rfl ?_; simp [*, endR, ld_op, ld_val, ld_th, ld_th0, bneI])
  | (refine wr_alloc rfl ?_; simp [*, endR, ld_op, ld_val, ld_th, ld_th0, bneI])
  | (refine wl_store ?_; simp [*, endR, ld_op, ld_val, ld_th, ld_th0, bneI])
  | (refine wr_store ?_; simp [*, endR, ld_op, ld_val, ld_th, ld_th0, bneI])
  | (show Wl _ _ _ _ _ _; simp [*, endR, ld_op, ld_val, ld_th, ld_th0, bneI])
  | (show Wr _ _ _ _ _ _ _; simp [*, endR, ld_op, ld_val, ld_th, ld_th0, bneI])
  | (refine kont hK ?_; clear hK K)
  | refine kont (by assumption) ?_
  | with_reducible refine thenA_n ?_
  | with_reducible refine thenA_r ?_
  | with_reducible refine thenA_e ?_
  | with_reducible refine blockA_n ?_
  | with_reducible refine blockA_r ?_
  | with_reducible refine blockA_e ?_
  | with_reducible refine blockA_o rfl ?_
  | refine Awp_ifT rfl ?_
  | refine Awp_ifF rfl ?_
  | (refine Awp_if rfl (fun h => ?_) (fun h => ?_) <;> ((have h' := h; try simp at h') <;> try (have h2 := h; simp only [decide_eq_false_iff_not] at h2)))
  | with_reducible refine noGo_n ?_
  | with_reducible refine noGo_r ?_
  | with_reducible refine noGo_e ?_
  | with_reducible refine Awp_scope ?_
  | with_reducible refine Awp_label ?_
  | with_reducible refine Awp_ret ?_
  | with_reducible refine Awp_skip ?_
  | with_reducible refine Awp_exit ?_
  | with_reducible refine Awp_block ?_)
  all_goals (refine Gq.here ⟨⟨j + 1, hj1, ?_, ?_, ?_, ?_⟩, ?_⟩ <;> first | rfl | (simp [*]; done) | (simp [*]; omega))

end Go.Proofs.YtogfcpaalcebdaaE
