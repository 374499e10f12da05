/- StateOnce, walked. -/
import Derived.Test.YtjfgnpnlabklpaaCELaw0
import Derived.Test.YtjfgnpnlabklpaaCEPlain
namespace Go.Proofs.YtjfgnpnlabklpaaE
open Go Go.RowKit
set_option linter.unusedVariables false
set_option linter.unusedSimpArgs false
set_option maxRecDepth 1000000
set_option maxHeartbeats 8000000
def ocode : List Ins := [⟨26, 0, 0, 0⟩, ⟨11, 0, 4, 0⟩, ⟨9, 0, 0, 0⟩, ⟨27, 0, 0, 0⟩, ⟨0, 0, 0, 0⟩]
def op : Prg := ⟨0, 0, 0, [], 0, 1, [[⟨12, 1, 0, 0⟩, ⟨12, 2, 0, 0⟩], ocode, ocode]⟩
theorem op_ok : OkP op := ⟨by decide, by decide, by decide, by decide⟩
theorem op_s : soundF op = 0 := by decide
def inNB (σ : Sg) (j : Nat) : Bool := decide (0 < (thAt σ j).at_) && (decide ((thAt σ j).at_ < 4) && (at0 (thAt σ j).regs 0 == 1))
/-- How many of threads 1 to j are in it. -/
def inNF (σ : Sg) : Nat → Int
  | 0 => 0
  | 1 => 0
  | j + 2 => if inNB σ (j + 1) = true then inNF σ (j + 1) + 1 else inNF σ (j + 1)
theorem inNF_s {σ : Sg} {q : Nat} (h : 1 ≤ q) : inNF σ (q + 1) = if inNB σ q = true then inNF σ q + 1 else inNF σ q := by
  match q, h with
  | j + 1, _ => rfl
theorem inNF_in (σ : Sg) : ∀ j : Nat, 0 ≤ inNF σ j ∧ inNF σ j ≤ j
  | 0 => ⟨Int.le_refl _, Int.le_refl _⟩
  | 1 => ⟨Int.le_refl _, (by decide : (0 : Int) ≤ ((1 : Nat) : Int))⟩
  | j + 2 => by
    have := inNF_in σ (j + 1)
    unfold inNF
    split <;> omega
theorem once_m (hG : Good SY) (c : List Int) (hc : ∀ x ∈ c, 0 ≤ x ∧ x < 256) (R : Sg → Prop) (h0 : R (initS op)) (hW : ∀ σ, R σ → WF σ) (hb : ∀ σ, R σ → σ.told.length < 1000000 ∧ (∀ c ∈ σ.ch, c.row.length < 1000000) ∧ σ.th.length = 3) (hs : ∀ σ k, R σ → 0 ≤ k ∧ k ≤ 3 → R (nextT σ k).1) (hk : ∀ σ, R σ → σ.told.length ≤ 1 ∧ inNF σ 3 ≤ 1 ∧ statF σ ≠ 3 ∧ (((thAt σ 1).at_ < 4 ∧ (thAt σ 2).at_ < 4) ∨ σ.told.length = 1 ∨ (thAt σ 1).at_ = 0 ∨ (thAt σ 2).at_ = 0)) : Meets 4 [.c (.ls (encU c))] ([]) (pt (nB true) [] []) := by
  refine meets hG Try.func4 rfl rfl ?_
  show Awp (env _ _) _ _ ((Try.f4).body.getD .skip) _ _
  unfold Try.f4
  dsimp only [Option.getD_some]
  unfold start
  generalize hQ : endA _ _ _ _ _ = Q
  repeat' (first
    | refine Awp_sqG fun K hK => ?_
    | (refine Awp_reg rfl fun K hK => ?_; simp [*, eqEv, be_02, be_124, bins0, bins01, bins02, bprg6, bprg26, bprg56, bprg0, eqpn, eqnn, MT_set10, MT_set11, st_MT10, st_MT11, rnT_c, nlV, nlV.nlL, frzV, frzL, frzO, pExt, encI_len, k2_s, chunk, encI_len, cv53, shp0c, pExt, Prg.cells, ldQ, g1R, obQ, stQ, s1Q, ix3, ia3, ia28, bi3, bs0, bs01, bs02, bs012, bs013, bs014, bs0134, bs01234, bw1, bw2, bw3])
    | (refine Awp_regD [] rfl rfl fun K hK => ?_; simp [*, eqEv, be_02, be_124, bins0, bins01, bins02, bprg6, bprg26, bprg56, bprg0, eqpn, eqnn, MT_set10, MT_set11, st_MT10, st_MT11, rnT_c, nlV, nlV.nlL, frzV, frzL, frzO, pExt, encI_len, k2_s, chunk, encI_len, cv53, shp0c, pExt, Prg.cells, ldQ, g1R, obQ, stQ, s1Q, ix3, ia3, ia28, bi3, bs0, bs01, bs02, bs012, bs013, bs014, bs0134, bs01234, bw1, bw2, bw3])
    | (refine WG_br (fun h => ?_) (fun h => ?_) <;> (have h' := h; try simp at h'; simp [*, eqEv, be_02, be_124, bins0, bins01, bins02, bprg6, bprg26, bprg56, bprg0, eqpn, eqnn, MT_set10, MT_set11, st_MT10, st_MT11, rnT_c, nlV, nlV.nlL, frzV, frzL, frzO, pExt, encI_len, k2_s, chunk, encI_len, cv53, shp0c, pExt, Prg.cells, ldQ, g1R, obQ, stQ, s1Q, ix3, ia3, ia28, bi3, bs0, bs01, bs02, bs012, bs013, bs014, bs0134, bs01234, bw1, bw2, bw3]))
    | (refine RG_br (fun h => ?_) (fun h => ?_) <;> (have h' := h; try simp at h'; simp [*, eqEv, be_02, be_124, bins0, bins01, bins02, bprg6, bprg26, bprg56, bprg0, eqpn, eqnn, MT_set10, MT_set11, st_MT10, st_MT11, rnT_c, nlV, nlV.nlL, frzV, frzL, frzO, pExt, encI_len, k2_s, chunk, encI_len, cv53, shp0c, pExt, Prg.cells, ldQ, g1R, obQ, stQ, s1Q, ix3, ia3, ia28, bi3, bs0, bs01, bs02, bs012, bs013, bs014, bs0134, bs01234, bw1, bw2, bw3]))
    | (refine wl_litF rfl ?_; try simp [*, eqEv, be_02, be_124, bins0, bins01, bins02, bprg6, bprg26, bprg56, bprg0, eqpn, eqnn, MT_set10, MT_set11, st_MT10, st_MT11, rnT_c, nlV, nlV.nlL, frzV, frzL, frzO, pExt, encI_len, k2_s, chunk, encI_len, cv53, shp0c, pExt, Prg.cells, ldQ, g1R, obQ, stQ, s1Q, ix3, ia3, ia28, bi3, bs0, bs01, bs02, bs012, bs013, bs014, bs0134, bs01234, bw1, bw2, bw3])
    | (refine call_mk (SY.s (SS.new op op_ok op_s _ rfl)) rfl ?_; try simp [*, eqEv, be_02, be_124, bins0, bins01, bins02, bprg6, bprg26, bprg56, bprg0, eqpn, eqnn, MT_set10, MT_set11, st_MT10, st_MT11, rnT_c, nlV, nlV.nlL, frzV, frzL, frzO, pExt, encI_len, k2_s, chunk, encI_len, cv53, shp0c, pExt, Prg.cells, ldQ, g1R, obQ, stQ, s1Q, ix3, ia3, ia28, bi3, bs0, bs01, bs02, bs012, bs013, bs014, bs0134, bs01234, bw1, bw2, bw3])
    | (refine call_0 (SY.known) rfl rfl ?_; try simp [*, eqEv, be_02, be_124, bins0, bins01, bins02, bprg6, bprg26, bprg56, bprg0, eqpn, eqnn, MT_set10, MT_set11, st_MT10, st_MT11, rnT_c, nlV, nlV.nlL, frzV, frzL, frzO, pExt, encI_len, k2_s, chunk, encI_len, cv53, shp0c, pExt, Prg.cells, ldQ, g1R, obQ, stQ, s1Q, ix3, ia3, ia28, bi3, bs0, bs01, bs02, bs012, bs013, bs014, bs0134, bs01234, bw1, bw2, bw3])
    | (refine call_0 (SY.picks c hc) rfl rfl ?_; try simp [*, eqEv, be_02, be_124, bins0, bins01, bins02, bprg6, bprg26, bprg56, bprg0, eqpn, eqnn, MT_set10, MT_set11, st_MT10, st_MT11, rnT_c, nlV, nlV.nlL, frzV, frzL, frzO, pExt, encI_len, k2_s, chunk, encI_len, cv53, shp0c, pExt, Prg.cells, ldQ, g1R, obQ, stQ, s1Q, ix3, ia3, ia28, bi3, bs0, bs01, bs02, bs012, bs013, bs014, bs0134, bs01234, bw1, bw2, bw3])
    | refine Gq.here ?_
    | refine And.intro (by omega) ?_
    | (refine wl_box rfl ?_; simp [*, eqEv, be_02, be_124, bins0, bins01, bins02, bprg6, bprg26, bprg56, bprg0, eqpn, eqnn, MT_set10, MT_set11, st_MT10, st_MT11, rnT_c, nlV, nlV.nlL, frzV, frzL, frzO, pExt, encI_len, k2_s, chunk, encI_len, cv53, shp0c, pExt, Prg.cells, ldQ, g1R, obQ, stQ, s1Q, ix3, ia3, ia28, bi3, bs0, bs01, bs02, bs012, bs013, bs014, bs0134, bs01234, bw1, bw2, bw3])
    | (refine wl_alloc rfl ?_; simp [*, eqEv, be_02, be_124, bins0, bins01, bins02, bprg6, bprg26, bprg56, bprg0, eqpn, eqnn, MT_set10, MT_set11, st_MT10, st_MT11, rnT_c, nlV, nlV.nlL, frzV, frzL, frzO, pExt, encI_len, k2_s, chunk, encI_len, cv53, shp0c, pExt, Prg.cells, ldQ, g1R, obQ, stQ, s1Q, ix3, ia3, ia28, bi3, bs0, bs01, bs02, bs012, bs013, bs014, bs0134, bs01234, bw1, bw2, bw3])
    | (refine wr_box rfl ?_; simp [*, eqEv, be_02, be_124, bins0, bins01, bins02, bprg6, bprg26, bprg56, bprg0, eqpn, eqnn, MT_set10, MT_set11, st_MT10, st_MT11, rnT_c, nlV, nlV.nlL, frzV, frzL, frzO, pExt, encI_len, k2_s, chunk, encI_len, cv53, shp0c, pExt, Prg.cells, ldQ, g1R, obQ, stQ, s1Q, ix3, ia3, ia28, bi3, bs0, bs01, bs02, bs012, bs013, bs014, bs0134, bs01234, bw1, bw2, bw3])
    | (refine wr_alloc rfl ?_; simp [*, eqEv, be_02, be_124, bins0, bins01, bins02, bprg6, bprg26, bprg56, bprg0, eqpn, eqnn, MT_set10, MT_set11, st_MT10, st_MT11, rnT_c, nlV, nlV.nlL, frzV, frzL, frzO, pExt, encI_len, k2_s, chunk, encI_len, cv53, shp0c, pExt, Prg.cells, ldQ, g1R, obQ, stQ, s1Q, ix3, ia3, ia28, bi3, bs0, bs01, bs02, bs012, bs013, bs014, bs0134, bs01234, bw1, bw2, bw3])
    | (refine wl_store ?_; simp [*, eqEv, be_02, be_124, bins0, bins01, bins02, bprg6, bprg26, bprg56, bprg0, eqpn, eqnn, MT_set10, MT_set11, st_MT10, st_MT11, rnT_c, nlV, nlV.nlL, frzV, frzL, frzO, pExt, encI_len, k2_s, chunk, encI_len, cv53, shp0c, pExt, Prg.cells, ldQ, g1R, obQ, stQ, s1Q, ix3, ia3, ia28, bi3, bs0, bs01, bs02, bs012, bs013, bs014, bs0134, bs01234, bw1, bw2, bw3])
    | (refine wr_store ?_; simp [*, eqEv, be_02, be_124, bins0, bins01, bins02, bprg6, bprg26, bprg56, bprg0, eqpn, eqnn, MT_set10, MT_set11, st_MT10, st_MT11, rnT_c, nlV, nlV.nlL, frzV, frzL, frzO, pExt, encI_len, k2_s, chunk, encI_len, cv53, shp0c, pExt, Prg.cells, ldQ, g1R, obQ, stQ, s1Q, ix3, ia3, ia28, bi3, bs0, bs01, bs02, bs012, bs013, bs014, bs0134, bs01234, bw1, bw2, bw3])
    | (show Wl _ _ _ _ _ _; simp [*, eqEv, be_02, be_124, bins0, bins01, bins02, bprg6, bprg26, bprg56, bprg0, eqpn, eqnn, MT_set10, MT_set11, st_MT10, st_MT11, rnT_c, nlV, nlV.nlL, frzV, frzL, frzO, pExt, encI_len, k2_s, chunk, encI_len, cv53, shp0c, pExt, Prg.cells, ldQ, g1R, obQ, stQ, s1Q, ix3, ia3, ia28, bi3, bs0, bs01, bs02, bs012, bs013, bs014, bs0134, bs01234, bw1, bw2, bw3])
    | (show Wr _ _ _ _ _ _ _; simp [*, eqEv, be_02, be_124, bins0, bins01, bins02, bprg6, bprg26, bprg56, bprg0, eqpn, eqnn, MT_set10, MT_set11, st_MT10, st_MT11, rnT_c, nlV, nlV.nlL, frzV, frzL, frzO, pExt, encI_len, k2_s, chunk, encI_len, cv53, shp0c, pExt, Prg.cells, ldQ, g1R, obQ, stQ, s1Q, ix3, ia3, ia28, bi3, bs0, bs01, bs02, bs012, bs013, bs014, bs0134, bs01234, bw1, bw2, bw3])
    | (refine kont hK ?_; clear hK K)
    | refine kont (by assumption) ?_
    | with_reducible refine thenA_n ?_
    | with_reducible refine thenA_r ?_
    | with_reducible refine thenA_e ?_
    | with_reducible refine blockA_n ?_
    | with_reducible refine blockA_r ?_
    | with_reducible refine blockA_e ?_
    | with_reducible refine blockA_o rfl ?_
    | refine Awp_ifT rfl ?_
    | refine Awp_ifF rfl ?_
    | (refine Awp_if rfl (fun h => ?_) (fun h => ?_) <;> ((have h' := h; try simp at h') <;> try (have h2 := h; simp only [decide_eq_false_iff_not] at h2)))
    | with_reducible refine noGo_n ?_
    | with_reducible refine noGo_r ?_
    | with_reducible refine noGo_e ?_
    | with_reducible refine Awp_scope ?_
    | with_reducible refine Awp_label ?_
    | with_reducible refine Awp_ret ?_
    | with_reducible refine Awp_skip ?_
    | with_reducible refine Awp_exit ?_
    | with_reducible refine Awp_block ?_)
  have hq60 := picks_le (c := c)
  refine Awp_loop (fun s => ∃ j : Nat, j ≤ (picksF c).length ∧ ∃ τ, R τ ∧ s.m = [some (stT τ)] ∧ s.A 5 = .ptr 0 0 0 ∧ s.A 6 = .c (.ls (encI (picksF c))) ∧ s.A 7 = nI j) (fun s => match s.A 7 with | .c (.sc (.int _ n)) => (picksF c).length - n.toNat | _ => 0) (gq_cmp [4] rfl rfl rfl ?_) (fun s hs2 => ?_)
  · exact ⟨0, by omega, initS op, h0, rfl, by simp [rn_ptr, posOf], by simp, by simp⟩
  obtain ⟨A, m⟩ := s
  obtain ⟨j, hj, τ, hR, hm, as_, aq, ai⟩ := hs2
  dsimp only at hm as_ aq ai
  subst hm
  by_cases hlt : j < (picksF c).length
  case neg =>
    have hlt' : ¬ ((j : Int) < ((picksF c).length : Int)) := by omega
    have hWτ := hW τ hR
    have hbτ := hb τ hR
    have hl3 : τ.th.length < 1000000 := by rw [hbτ.2.2]; decide
    clear hlt
    repeat' (first
      | refine Awp_sqG fun K hK => ?_
      | (refine Awp_reg rfl fun K hK => ?_; simp [*, eqEv, be_02, be_124, bins0, bins01, bins02, bprg6, bprg26, bprg56, bprg0, eqpn, eqnn, MT_set10, MT_set11, st_MT10, st_MT11, rnT_c, nlV, nlV.nlL, frzV, frzL, frzO, pExt, encI_len, k2_s, chunk, encI_len, cv53, shp0c, pExt, Prg.cells, ldQ, g1R, obQ, stQ, s1Q, ix3, ia3, ia28, bi3, bs0, bs01, bs02, bs012, bs013, bs014, bs0134, bs01234, bw1, bw2, bw3])
      | (refine Awp_regD [] rfl rfl fun K hK => ?_; simp [*, eqEv, be_02, be_124, bins0, bins01, bins02, bprg6, bprg26, bprg56, bprg0, eqpn, eqnn, MT_set10, MT_set11, st_MT10, st_MT11, rnT_c, nlV, nlV.nlL, frzV, frzL, frzO, pExt, encI_len, k2_s, chunk, encI_len, cv53, shp0c, pExt, Prg.cells, ldQ, g1R, obQ, stQ, s1Q, ix3, ia3, ia28, bi3, bs0, bs01, bs02, bs012, bs013, bs014, bs0134, bs01234, bw1, bw2, bw3])
      | (refine WG_br (fun h => ?_) (fun h => ?_) <;> (have h' := h; try simp at h'; simp [*, eqEv, be_02, be_124, bins0, bins01, bins02, bprg6, bprg26, bprg56, bprg0, eqpn, eqnn, MT_set10, MT_set11, st_MT10, st_MT11, rnT_c, nlV, nlV.nlL, frzV, frzL, frzO, pExt, encI_len, k2_s, chunk, encI_len, cv53, shp0c, pExt, Prg.cells, ldQ, g1R, obQ, stQ, s1Q, ix3, ia3, ia28, bi3, bs0, bs01, bs02, bs012, bs013, bs014, bs0134, bs01234, bw1, bw2, bw3]))
      | (refine RG_br (fun h => ?_) (fun h => ?_) <;> (have h' := h; try simp at h'; simp [*, eqEv, be_02, be_124, bins0, bins01, bins02, bprg6, bprg26, bprg56, bprg0, eqpn, eqnn, MT_set10, MT_set11, st_MT10, st_MT11, rnT_c, nlV, nlV.nlL, frzV, frzL, frzO, pExt, encI_len, k2_s, chunk, encI_len, cv53, shp0c, pExt, Prg.cells, ldQ, g1R, obQ, stQ, s1Q, ix3, ia3, ia28, bi3, bs0, bs01, bs02, bs012, bs013, bs014, bs0134, bs01234, bw1, bw2, bw3]))
      | (refine wl_litF rfl ?_; try simp [*, eqEv, be_02, be_124, bins0, bins01, bins02, bprg6, bprg26, bprg56, bprg0, eqpn, eqnn, MT_set10, MT_set11, st_MT10, st_MT11, rnT_c, nlV, nlV.nlL, frzV, frzL, frzO, pExt, encI_len, k2_s, chunk, encI_len, cv53, shp0c, pExt, Prg.cells, ldQ, g1R, obQ, stQ, s1Q, ix3, ia3, ia28, bi3, bs0, bs01, bs02, bs012, bs013, bs014, bs0134, bs01234, bw1, bw2, bw3])
      | (refine call_abs (SY.s (SS.prints τ hbτ.1)) rfl rfl rfl ?_; try simp [*, eqEv, be_02, be_124, bins0, bins01, bins02, bprg6, bprg26, bprg56, bprg0, eqpn, eqnn, MT_set10, MT_set11, st_MT10, st_MT11, rnT_c, nlV, nlV.nlL, frzV, frzL, frzO, pExt, encI_len, k2_s, chunk, encI_len, cv53, shp0c, pExt, Prg.cells, ldQ, g1R, obQ, stQ, s1Q, ix3, ia3, ia28, bi3, bs0, bs01, bs02, bs012, bs013, bs014, bs0134, bs01234, bw1, bw2, bw3])
      | (refine call_abs (SY.s (SS.status τ hWτ hl3)) rfl rfl rfl ?_; try simp [*, eqEv, be_02, be_124, bins0, bins01, bins02, bprg6, bprg26, bprg56, bprg0, eqpn, eqnn, MT_set10, MT_set11, st_MT10, st_MT11, rnT_c, nlV, nlV.nlL, frzV, frzL, frzO, pExt, encI_len, k2_s, chunk, encI_len, cv53, shp0c, pExt, Prg.cells, ldQ, g1R, obQ, stQ, s1Q, ix3, ia3, ia28, bi3, bs0, bs01, bs02, bs012, bs013, bs014, bs0134, bs01234, bw1, bw2, bw3])
      | (refine call_abs (SY.s (SS.pc τ _ hWτ)) rfl rfl rfl ?_; try simp [*, eqEv, be_02, be_124, bins0, bins01, bins02, bprg6, bprg26, bprg56, bprg0, eqpn, eqnn, MT_set10, MT_set11, st_MT10, st_MT11, rnT_c, nlV, nlV.nlL, frzV, frzL, frzO, pExt, encI_len, k2_s, chunk, encI_len, cv53, shp0c, pExt, Prg.cells, ldQ, g1R, obQ, stQ, s1Q, ix3, ia3, ia28, bi3, bs0, bs01, bs02, bs012, bs013, bs014, bs0134, bs01234, bw1, bw2, bw3])
      | (refine call_abs (SY.s (SS.reg τ _ hWτ _)) rfl rfl rfl ?_; try simp [*, eqEv, be_02, be_124, bins0, bins01, bins02, bprg6, bprg26, bprg56, bprg0, eqpn, eqnn, MT_set10, MT_set11, st_MT10, st_MT11, rnT_c, nlV, nlV.nlL, frzV, frzL, frzO, pExt, encI_len, k2_s, chunk, encI_len, cv53, shp0c, pExt, Prg.cells, ldQ, g1R, obQ, stQ, s1Q, ix3, ia3, ia28, bi3, bs0, bs01, bs02, bs012, bs013, bs014, bs0134, bs01234, bw1, bw2, bw3])
      | refine Gq.here ?_
      | refine And.intro (by omega) ?_
      | (refine wl_box rfl ?_; simp [*, eqEv, be_02, be_124, bins0, bins01, bins02, bprg6, bprg26, bprg56, bprg0, eqpn, eqnn, MT_set10, MT_set11, st_MT10, st_MT11, rnT_c, nlV, nlV.nlL, frzV, frzL, frzO, pExt, encI_len, k2_s, chunk, encI_len, cv53, shp0c, pExt, Prg.cells, ldQ, g1R, obQ, stQ, s1Q, ix3, ia3, ia28, bi3, bs0, bs01, bs02, bs012, bs013, bs014, bs0134, bs01234, bw1, bw2, bw3])
      | (refine wl_alloc rfl ?_; simp [*, eqEv, be_02, be_124, bins0, bins01, bins02, bprg6, bprg26, bprg56, bprg0, eqpn, eqnn, MT_set10, MT_set11, st_MT10, st_MT11, rnT_c, nlV, nlV.nlL, frzV, frzL, frzO, pExt, encI_len, k2_s, chunk, encI_len, cv53, shp0c, pExt, Prg.cells, ldQ, g1R, obQ, stQ, s1Q, ix3, ia3, ia28, bi3, bs0, bs01, bs02, bs012, bs013, bs014, bs0134, bs01234, bw1, bw2, bw3])
      | (refine wr_box rfl ?_; simp [*, eqEv, be_02, be_124, bins0, bins01, bins02, bprg6, bprg26, bprg56, bprg0, eqpn, eqnn, MT_set10, MT_set11, st_MT10, st_MT11, rnT_c, nlV, nlV.nlL, frzV, frzL, frzO, pExt, encI_len, k2_s, chunk, encI_len, cv53, shp0c, pExt, Prg.cells, ldQ, g1R, obQ, stQ, s1Q, ix3, ia3, ia28, bi3, bs0, bs01, bs02, bs012, bs013, bs014, bs0134, bs01234, bw1, bw2, bw3])
      | (refine wr_alloc rfl ?_; simp [*, eqEv, be_02, be_124, bins0, bins01, bins02, bprg6, bprg26, bprg56, bprg0, eqpn, eqnn, MT_set10, MT_set11, st_MT10, st_MT11, rnT_c, nlV, nlV.nlL, frzV, frzL, frzO, pExt, encI_len, k2_s, chunk, encI_len, cv53, shp0c, pExt, Prg.cells, ldQ, g1R, obQ, stQ, s1Q, ix3, ia3, ia28, bi3, bs0, bs01, bs02, bs012, bs013, bs014, bs0134, bs01234, bw1, bw2, bw3])
      | (refine wl_store ?_; simp [*, eqEv, be_02, be_124, bins0, bins01, bins02, bprg6, bprg26, bprg56, bprg0, eqpn, eqnn, MT_set10, MT_set11, st_MT10, st_MT11, rnT_c, nlV, nlV.nlL, frzV, frzL, frzO, pExt, encI_len, k2_s, chunk, encI_len, cv53, shp0c, pExt, Prg.cells, ldQ, g1R, obQ, stQ, s1Q, ix3, ia3, ia28, bi3, bs0, bs01, bs02, bs012, bs013, bs014, bs0134, bs01234, bw1, bw2, bw3])
      | (refine wr_store ?_; simp [*, eqEv, be_02, be_124, bins0, bins01, bins02, bprg6, bprg26, bprg56, bprg0, eqpn, eqnn, MT_set10, MT_set11, st_MT10, st_MT11, rnT_c, nlV, nlV.nlL, frzV, frzL, frzO, pExt, encI_len, k2_s, chunk, encI_len, cv53, shp0c, pExt, Prg.cells, ldQ, g1R, obQ, stQ, s1Q, ix3, ia3, ia28, bi3, bs0, bs01, bs02, bs012, bs013, bs014, bs0134, bs01234, bw1, bw2, bw3])
      | (show Wl _ _ _ _ _ _; simp [*, eqEv, be_02, be_124, bins0, bins01, bins02, bprg6, bprg26, bprg56, bprg0, eqpn, eqnn, MT_set10, MT_set11, st_MT10, st_MT11, rnT_c, nlV, nlV.nlL, frzV, frzL, frzO, pExt, encI_len, k2_s, chunk, encI_len, cv53, shp0c, pExt, Prg.cells, ldQ, g1R, obQ, stQ, s1Q, ix3, ia3, ia28, bi3, bs0, bs01, bs02, bs012, bs013, bs014, bs0134, bs01234, bw1, bw2, bw3])
      | (show Wr _ _ _ _ _ _ _; simp [*, eqEv, be_02, be_124, bins0, bins01, bins02, bprg6, bprg26, bprg56, bprg0, eqpn, eqnn, MT_set10, MT_set11, st_MT10, st_MT11, rnT_c, nlV, nlV.nlL, frzV, frzL, frzO, pExt, encI_len, k2_s, chunk, encI_len, cv53, shp0c, pExt, Prg.cells, ldQ, g1R, obQ, stQ, s1Q, ix3, ia3, ia28, bi3, bs0, bs01, bs02, bs012, bs013, bs014, bs0134, bs01234, bw1, bw2, bw3])
      | (refine kont hK ?_; clear hK K)
      | refine kont (by assumption) ?_
      | with_reducible refine thenA_n ?_
      | with_reducible refine thenA_r ?_
      | with_reducible refine thenA_e ?_
      | with_reducible refine blockA_n ?_
      | with_reducible refine blockA_r ?_
      | with_reducible refine blockA_e ?_
      | with_reducible refine blockA_o rfl ?_
      | refine Awp_ifT rfl ?_
      | refine Awp_ifF rfl ?_
      | (refine Awp_if rfl (fun h => ?_) (fun h => ?_) <;> ((have h' := h; try simp at h') <;> try (have h2 := h; simp only [decide_eq_false_iff_not] at h2)))
      | with_reducible refine noGo_n ?_
      | with_reducible refine noGo_r ?_
      | with_reducible refine noGo_e ?_
      | with_reducible refine Awp_scope ?_
      | with_reducible refine Awp_label ?_
      | with_reducible refine Awp_ret ?_
      | with_reducible refine Awp_skip ?_
      | with_reducible refine Awp_exit ?_
      | with_reducible refine Awp_block ?_)
    refine Awp_loop (fun s => ∃ q : Nat, 1 ≤ q ∧ q ≤ 3 ∧ s.m = [some (stT τ)] ∧ s.A 5 = .ptr 0 0 0 ∧ s.A 8 = .c (.ls (encI τ.told)) ∧ s.A 9 = nI (inNF τ q) ∧ s.A 10 = nI q) (fun s => match s.A 10 with | .c (.sc (.int _ n)) => 3 - n.toNat | _ => 0) (Gq.here ?_) (fun s hs2 => ?_)
    · exact ⟨1, by omega, by omega, rfl, by simp [*], by simp [*], by simp [*, inNF], by simp [*]⟩
    clear as_ aq ai
    obtain ⟨A, m⟩ := s
    obtain ⟨q, hq1, hq3, hm, a5, a8, a9, a10⟩ := hs2
    dsimp only at hm a5 a8 a9 a10
    subst hm
    obtain ⟨k1, k2, k3, k4⟩ := hk τ hR
    by_cases hlt : q < 3
    case neg =>
      have hq : q = 3 := by omega
      subst hq
      have k1' : ((τ.told.length : Nat) : Int) ≤ 1 := by omega
      have hth : τ.th.length = 3 := hbτ.2.2
      clear hlt hq1 hq3
      repeat' (first
        | refine Awp_sqG fun K hK => ?_
        | (refine Awp_reg rfl fun K hK => ?_; simp [*, eqEv, be_02, be_124, bins0, bins01, bins02, bprg6, bprg26, bprg56, bprg0, eqpn, eqnn, MT_set10, MT_set11, st_MT10, st_MT11, rnT_c, nlV, nlV.nlL, frzV, frzL, frzO, pExt, encI_len, k2_s, chunk, encI_len, cv53, shp0c, pExt, Prg.cells, ldQ, g1R, obQ, stQ, s1Q, ix3, ia3, ia28, bi3, bs0, bs01, bs02, bs012, bs013, bs014, bs0134, bs01234, bw1, bw2, bw3])
        | (refine Awp_regD [] rfl rfl fun K hK => ?_; simp [*, eqEv, be_02, be_124, bins0, bins01, bins02, bprg6, bprg26, bprg56, bprg0, eqpn, eqnn, MT_set10, MT_set11, st_MT10, st_MT11, rnT_c, nlV, nlV.nlL, frzV, frzL, frzO, pExt, encI_len, k2_s, chunk, encI_len, cv53, shp0c, pExt, Prg.cells, ldQ, g1R, obQ, stQ, s1Q, ix3, ia3, ia28, bi3, bs0, bs01, bs02, bs012, bs013, bs014, bs0134, bs01234, bw1, bw2, bw3])
        | (refine WG_br (fun h => ?_) (fun h => ?_) <;> (have h' := h; try simp at h'; simp [*, eqEv, be_02, be_124, bins0, bins01, bins02, bprg6, bprg26, bprg56, bprg0, eqpn, eqnn, MT_set10, MT_set11, st_MT10, st_MT11, rnT_c, nlV, nlV.nlL, frzV, frzL, frzO, pExt, encI_len, k2_s, chunk, encI_len, cv53, shp0c, pExt, Prg.cells, ldQ, g1R, obQ, stQ, s1Q, ix3, ia3, ia28, bi3, bs0, bs01, bs02, bs012, bs013, bs014, bs0134, bs01234, bw1, bw2, bw3]))
        | (refine RG_br (fun h => ?_) (fun h => ?_) <;> (have h' := h; try simp at h'; simp [*, eqEv, be_02, be_124, bins0, bins01, bins02, bprg6, bprg26, bprg56, bprg0, eqpn, eqnn, MT_set10, MT_set11, st_MT10, st_MT11, rnT_c, nlV, nlV.nlL, frzV, frzL, frzO, pExt, encI_len, k2_s, chunk, encI_len, cv53, shp0c, pExt, Prg.cells, ldQ, g1R, obQ, stQ, s1Q, ix3, ia3, ia28, bi3, bs0, bs01, bs02, bs012, bs013, bs014, bs0134, bs01234, bw1, bw2, bw3]))
        | (refine wl_litF rfl ?_; try simp [*, eqEv, be_02, be_124, bins0, bins01, bins02, bprg6, bprg26, bprg56, bprg0, eqpn, eqnn, MT_set10, MT_set11, st_MT10, st_MT11, rnT_c, nlV, nlV.nlL, frzV, frzL, frzO, pExt, encI_len, k2_s, chunk, encI_len, cv53, shp0c, pExt, Prg.cells, ldQ, g1R, obQ, stQ, s1Q, ix3, ia3, ia28, bi3, bs0, bs01, bs02, bs012, bs013, bs014, bs0134, bs01234, bw1, bw2, bw3])
        | (refine call_abs (SY.s (SS.prints τ hbτ.1)) rfl rfl rfl ?_; try simp [*, eqEv, be_02, be_124, bins0, bins01, bins02, bprg6, bprg26, bprg56, bprg0, eqpn, eqnn, MT_set10, MT_set11, st_MT10, st_MT11, rnT_c, nlV, nlV.nlL, frzV, frzL, frzO, pExt, encI_len, k2_s, chunk, encI_len, cv53, shp0c, pExt, Prg.cells, ldQ, g1R, obQ, stQ, s1Q, ix3, ia3, ia28, bi3, bs0, bs01, bs02, bs012, bs013, bs014, bs0134, bs01234, bw1, bw2, bw3])
        | (refine call_abs (SY.s (SS.status τ hWτ hl3)) rfl rfl rfl ?_; try simp [*, eqEv, be_02, be_124, bins0, bins01, bins02, bprg6, bprg26, bprg56, bprg0, eqpn, eqnn, MT_set10, MT_set11, st_MT10, st_MT11, rnT_c, nlV, nlV.nlL, frzV, frzL, frzO, pExt, encI_len, k2_s, chunk, encI_len, cv53, shp0c, pExt, Prg.cells, ldQ, g1R, obQ, stQ, s1Q, ix3, ia3, ia28, bi3, bs0, bs01, bs02, bs012, bs013, bs014, bs0134, bs01234, bw1, bw2, bw3])
        | (refine call_abs (SY.s (SS.pc τ _ hWτ)) rfl rfl rfl ?_; try simp [*, eqEv, be_02, be_124, bins0, bins01, bins02, bprg6, bprg26, bprg56, bprg0, eqpn, eqnn, MT_set10, MT_set11, st_MT10, st_MT11, rnT_c, nlV, nlV.nlL, frzV, frzL, frzO, pExt, encI_len, k2_s, chunk, encI_len, cv53, shp0c, pExt, Prg.cells, ldQ, g1R, obQ, stQ, s1Q, ix3, ia3, ia28, bi3, bs0, bs01, bs02, bs012, bs013, bs014, bs0134, bs01234, bw1, bw2, bw3])
        | (refine call_abs (SY.s (SS.reg τ _ hWτ _)) rfl rfl rfl ?_; try simp [*, eqEv, be_02, be_124, bins0, bins01, bins02, bprg6, bprg26, bprg56, bprg0, eqpn, eqnn, MT_set10, MT_set11, st_MT10, st_MT11, rnT_c, nlV, nlV.nlL, frzV, frzL, frzO, pExt, encI_len, k2_s, chunk, encI_len, cv53, shp0c, pExt, Prg.cells, ldQ, g1R, obQ, stQ, s1Q, ix3, ia3, ia28, bi3, bs0, bs01, bs02, bs012, bs013, bs014, bs0134, bs01234, bw1, bw2, bw3])
        | refine Gq.here ?_
        | refine And.intro (by omega) ?_
        | (refine wl_box rfl ?_; simp [*, eqEv, be_02, be_124, bins0, bins01, bins02, bprg6, bprg26, bprg56, bprg0, eqpn, eqnn, MT_set10, MT_set11, st_MT10, st_MT11, rnT_c, nlV, nlV.nlL, frzV, frzL, frzO, pExt, encI_len, k2_s, chunk, encI_len, cv53, shp0c, pExt, Prg.cells, ldQ, g1R, obQ, stQ, s1Q, ix3, ia3, ia28, bi3, bs0, bs01, bs02, bs012, bs013, bs014, bs0134, bs01234, bw1, bw2, bw3])
        | (refine wl_alloc rfl ?_; simp [*, eqEv, be_02, be_124, bins0, bins01, bins02, bprg6, bprg26, bprg56, bprg0, eqpn, eqnn, MT_set10, MT_set11, st_MT10, st_MT11, rnT_c, nlV, nlV.nlL, frzV, frzL, frzO, pExt, encI_len, k2_s, chunk, encI_len, cv53, shp0c, pExt, Prg.cells, ldQ, g1R, obQ, stQ, s1Q, ix3, ia3, ia28, bi3, bs0, bs01, bs02, bs012, bs013, bs014, bs0134, bs01234, bw1, bw2, bw3])
        | (refine wr_box rfl ?_; simp [*, eqEv, be_02, be_124, bins0, bins01, bins02, bprg6, bprg26, bprg56, bprg0, eqpn, eqnn, MT_set10, MT_set11, st_MT10, st_MT11, rnT_c, nlV, nlV.nlL, frzV, frzL, frzO, pExt, encI_len, k2_s, chunk, encI_len, cv53, shp0c, pExt, Prg.cells, ldQ, g1R, obQ, stQ, s1Q, ix3, ia3, ia28, bi3, bs0, bs01, bs02, bs012, bs013, bs014, bs0134, bs01234, bw1, bw2, bw3])
        | (refine wr_alloc rfl ?_; simp [*, eqEv, be_02, be_124, bins0, bins01, bins02, bprg6, bprg26, bprg56, bprg0, eqpn, eqnn, MT_set10, MT_set11, st_MT10, st_MT11, rnT_c, nlV, nlV.nlL, frzV, frzL, frzO, pExt, encI_len, k2_s, chunk, encI_len, cv53, shp0c, pExt, Prg.cells, ldQ, g1R, obQ, stQ, s1Q, ix3, ia3, ia28, bi3, bs0, bs01, bs02, bs012, bs013, bs014, bs0134, bs01234, bw1, bw2, bw3])
        | (refine wl_store ?_; simp [*, eqEv, be_02, be_124, bins0, bins01, bins02, bprg6, bprg26, bprg56, bprg0, eqpn, eqnn, MT_set10, MT_set11, st_MT10, st_MT11, rnT_c, nlV, nlV.nlL, frzV, frzL, frzO, pExt, encI_len, k2_s, chunk, encI_len, cv53, shp0c, pExt, Prg.cells, ldQ, g1R, obQ, stQ, s1Q, ix3, ia3, ia28, bi3, bs0, bs01, bs02, bs012, bs013, bs014, bs0134, bs01234, bw1, bw2, bw3])
        | (refine wr_store ?_; simp [*, eqEv, be_02, be_124, bins0, bins01, bins02, bprg6, bprg26, bprg56, bprg0, eqpn, eqnn, MT_set10, MT_set11, st_MT10, st_MT11, rnT_c, nlV, nlV.nlL, frzV, frzL, frzO, pExt, encI_len, k2_s, chunk, encI_len, cv53, shp0c, pExt, Prg.cells, ldQ, g1R, obQ, stQ, s1Q, ix3, ia3, ia28, bi3, bs0, bs01, bs02, bs012, bs013, bs014, bs0134, bs01234, bw1, bw2, bw3])
        | (show Wl _ _ _ _ _ _; simp [*, eqEv, be_02, be_124, bins0, bins01, bins02, bprg6, bprg26, bprg56, bprg0, eqpn, eqnn, MT_set10, MT_set11, st_MT10, st_MT11, rnT_c, nlV, nlV.nlL, frzV, frzL, frzO, pExt, encI_len, k2_s, chunk, encI_len, cv53, shp0c, pExt, Prg.cells, ldQ, g1R, obQ, stQ, s1Q, ix3, ia3, ia28, bi3, bs0, bs01, bs02, bs012, bs013, bs014, bs0134, bs01234, bw1, bw2, bw3])
        | (show Wr _ _ _ _ _ _ _; simp [*, eqEv, be_02, be_124, bins0, bins01, bins02, bprg6, bprg26, bprg56, bprg0, eqpn, eqnn, MT_set10, MT_set11, st_MT10, st_MT11, rnT_c, nlV, nlV.nlL, frzV, frzL, frzO, pExt, encI_len, k2_s, chunk, encI_len, cv53, shp0c, pExt, Prg.cells, ldQ, g1R, obQ, stQ, s1Q, ix3, ia3, ia28, bi3, bs0, bs01, bs02, bs012, bs013, bs014, bs0134, bs01234, bw1, bw2, bw3])
        | (refine kont hK ?_; clear hK K)
        | refine kont (by assumption) ?_
        | with_reducible refine thenA_n ?_
        | with_reducible refine thenA_r ?_
        | with_reducible refine thenA_e ?_
        | with_reducible refine blockA_n ?_
        | with_reducible refine blockA_r ?_
        | with_reducible refine blockA_e ?_
        | with_reducible refine blockA_o rfl ?_
        | refine Awp_ifT rfl ?_
        | refine Awp_ifF rfl ?_
        | (refine Awp_if rfl (fun h => ?_) (fun h => ?_) <;> ((have h' := h; try simp at h') <;> try (have h2 := h; simp only [decide_eq_false_iff_not] at h2)))
        | with_reducible refine noGo_n ?_
        | with_reducible refine noGo_r ?_
        | with_reducible refine noGo_e ?_
        | with_reducible refine Awp_scope ?_
        | with_reducible refine Awp_label ?_
        | with_reducible refine Awp_ret ?_
        | with_reducible refine Awp_skip ?_
        | with_reducible refine Awp_exit ?_
        | with_reducible refine Awp_block ?_)
      all_goals first | (exfalso; omega) | (subst hQ; refine endA_rL [] rfl rfl rfl rfl rfl ⟨?_, rfl⟩; first | rfl | (simp; omega))
    have hlt3 : ((q : Int) < 3) := by omega
    have hq0 : (0 : Int) ≤ (q : Int) := by omega
    have hth : τ.th.length = 3 := hbτ.2.2
    have hla := inNF_s (σ := τ) hq1
    have hin := inNF_in τ q
    have hwn : IntKind.i64.wrap (inNF τ q + 1) = inNF τ q + 1 := wrap_small (by omega) (by omega)
    have hwq : IntKind.i64.wrap ((q : Int) + 1) = ((q + 1 : Nat) : Int) := wrap_small (by omega) (by omega)
    have hq2 : q + 1 ≤ 3 := by omega
    have hdq : 3 - (q + 1) < 3 - q := by omega
    clear hlt hin hq3 k1 k2 k3 k4
    repeat' (first
      | refine Awp_sqG fun K hK => ?_
      | (refine Awp_reg rfl fun K hK => ?_; simp [*, eqEv, be_02, be_124, bins0, bins01, bins02, bprg6, bprg26, bprg56, bprg0, eqpn, eqnn, MT_set10, MT_set11, st_MT10, st_MT11, rnT_c, nlV, nlV.nlL, frzV, frzL, frzO, pExt, encI_len, k2_s, chunk, encI_len, cv53, shp0c, pExt, Prg.cells, ldQ, g1R, obQ, stQ, s1Q, ix3, ia3, ia28, bi3, bs0, bs01, bs02, bs012, bs013, bs014, bs0134, bs01234, bw1, bw2, bw3])
      | (refine Awp_regD [] rfl rfl fun K hK => ?_; simp [*, eqEv, be_02, be_124, bins0, bins01, bins02, bprg6, bprg26, bprg56, bprg0, eqpn, eqnn, MT_set10, MT_set11, st_MT10, st_MT11, rnT_c, nlV, nlV.nlL, frzV, frzL, frzO, pExt, encI_len, k2_s, chunk, encI_len, cv53, shp0c, pExt, Prg.cells, ldQ, g1R, obQ, stQ, s1Q, ix3, ia3, ia28, bi3, bs0, bs01, bs02, bs012, bs013, bs014, bs0134, bs01234, bw1, bw2, bw3])
      | (refine WG_br (fun h => ?_) (fun h => ?_) <;> (have h' := h; try simp at h'; simp [*, eqEv, be_02, be_124, bins0, bins01, bins02, bprg6, bprg26, bprg56, bprg0, eqpn, eqnn, MT_set10, MT_set11, st_MT10, st_MT11, rnT_c, nlV, nlV.nlL, frzV, frzL, frzO, pExt, encI_len, k2_s, chunk, encI_len, cv53, shp0c, pExt, Prg.cells, ldQ, g1R, obQ, stQ, s1Q, ix3, ia3, ia28, bi3, bs0, bs01, bs02, bs012, bs013, bs014, bs0134, bs01234, bw1, bw2, bw3]))
      | (refine RG_br (fun h => ?_) (fun h => ?_) <;> (have h' := h; try simp at h'; simp [*, eqEv, be_02, be_124, bins0, bins01, bins02, bprg6, bprg26, bprg56, bprg0, eqpn, eqnn, MT_set10, MT_set11, st_MT10, st_MT11, rnT_c, nlV, nlV.nlL, frzV, frzL, frzO, pExt, encI_len, k2_s, chunk, encI_len, cv53, shp0c, pExt, Prg.cells, ldQ, g1R, obQ, stQ, s1Q, ix3, ia3, ia28, bi3, bs0, bs01, bs02, bs012, bs013, bs014, bs0134, bs01234, bw1, bw2, bw3]))
      | (refine wl_litF rfl ?_; try simp [*, eqEv, be_02, be_124, bins0, bins01, bins02, bprg6, bprg26, bprg56, bprg0, eqpn, eqnn, MT_set10, MT_set11, st_MT10, st_MT11, rnT_c, nlV, nlV.nlL, frzV, frzL, frzO, pExt, encI_len, k2_s, chunk, encI_len, cv53, shp0c, pExt, Prg.cells, ldQ, g1R, obQ, stQ, s1Q, ix3, ia3, ia28, bi3, bs0, bs01, bs02, bs012, bs013, bs014, bs0134, bs01234, bw1, bw2, bw3])
      | (refine call_abs (SY.s (SS.prints τ hbτ.1)) rfl rfl rfl ?_; try simp [*, eqEv, be_02, be_124, bins0, bins01, bins02, bprg6, bprg26, bprg56, bprg0, eqpn, eqnn, MT_set10, MT_set11, st_MT10, st_MT11, rnT_c, nlV, nlV.nlL, frzV, frzL, frzO, pExt, encI_len, k2_s, chunk, encI_len, cv53, shp0c, pExt, Prg.cells, ldQ, g1R, obQ, stQ, s1Q, ix3, ia3, ia28, bi3, bs0, bs01, bs02, bs012, bs013, bs014, bs0134, bs01234, bw1, bw2, bw3])
      | (refine call_abs (SY.s (SS.status τ hWτ hl3)) rfl rfl rfl ?_; try simp [*, eqEv, be_02, be_124, bins0, bins01, bins02, bprg6, bprg26, bprg56, bprg0, eqpn, eqnn, MT_set10, MT_set11, st_MT10, st_MT11, rnT_c, nlV, nlV.nlL, frzV, frzL, frzO, pExt, encI_len, k2_s, chunk, encI_len, cv53, shp0c, pExt, Prg.cells, ldQ, g1R, obQ, stQ, s1Q, ix3, ia3, ia28, bi3, bs0, bs01, bs02, bs012, bs013, bs014, bs0134, bs01234, bw1, bw2, bw3])
      | (refine call_abs (SY.s (SS.pc τ _ hWτ)) rfl rfl rfl ?_; try simp [*, eqEv, be_02, be_124, bins0, bins01, bins02, bprg6, bprg26, bprg56, bprg0, eqpn, eqnn, MT_set10, MT_set11, st_MT10, st_MT11, rnT_c, nlV, nlV.nlL, frzV, frzL, frzO, pExt, encI_len, k2_s, chunk, encI_len, cv53, shp0c, pExt, Prg.cells, ldQ, g1R, obQ, stQ, s1Q, ix3, ia3, ia28, bi3, bs0, bs01, bs02, bs012, bs013, bs014, bs0134, bs01234, bw1, bw2, bw3])
      | (refine call_abs (SY.s (SS.reg τ _ hWτ _)) rfl rfl rfl ?_; try simp [*, eqEv, be_02, be_124, bins0, bins01, bins02, bprg6, bprg26, bprg56, bprg0, eqpn, eqnn, MT_set10, MT_set11, st_MT10, st_MT11, rnT_c, nlV, nlV.nlL, frzV, frzL, frzO, pExt, encI_len, k2_s, chunk, encI_len, cv53, shp0c, pExt, Prg.cells, ldQ, g1R, obQ, stQ, s1Q, ix3, ia3, ia28, bi3, bs0, bs01, bs02, bs012, bs013, bs014, bs0134, bs01234, bw1, bw2, bw3])
      | refine Gq.here ?_
      | refine And.intro (by omega) ?_
      | (refine wl_box rfl ?_; simp [*, eqEv, be_02, be_124, bins0, bins01, bins02, bprg6, bprg26, bprg56, bprg0, eqpn, eqnn, MT_set10, MT_set11, st_MT10, st_MT11, rnT_c, nlV, nlV.nlL, frzV, frzL, frzO, pExt, encI_len, k2_s, chunk, encI_len, cv53, shp0c, pExt, Prg.cells, ldQ, g1R, obQ, stQ, s1Q, ix3, ia3, ia28, bi3, bs0, bs01, bs02, bs012, bs013, bs014, bs0134, bs01234, bw1, bw2, bw3])
      | (refine wl_alloc rfl ?_; simp [*, eqEv, be_02, be_124, bins0, bins01, bins02, bprg6, bprg26, bprg56, bprg0, eqpn, eqnn, MT_set10, MT_set11, st_MT10, st_MT11, rnT_c, nlV, nlV.nlL, frzV, frzL, frzO, pExt, encI_len, k2_s, chunk, encI_len, cv53, shp0c, pExt, Prg.cells, ldQ, g1R, obQ, stQ, s1Q, ix3, ia3, ia28, bi3, bs0, bs01, bs02, bs012, bs013, bs014, bs0134, bs01234, bw1, bw2, bw3])
      | (refine wr_box rfl ?_; simp [*, eqEv, be_02, be_124, bins0, bins01, bins02, bprg6, bprg26, bprg56, bprg0, eqpn, eqnn, MT_set10, MT_set11, st_MT10, st_MT11, rnT_c, nlV, nlV.nlL, frzV, frzL, frzO, pExt, encI_len, k2_s, chunk, encI_len, cv53, shp0c, pExt, Prg.cells, ldQ, g1R, obQ, stQ, s1Q, ix3, ia3, ia28, bi3, bs0, bs01, bs02, bs012, bs013, bs014, bs0134, bs01234, bw1, bw2, bw3])
      | (refine wr_alloc rfl ?_; simp [*, eqEv, be_02, be_124, bins0, bins01, bins02, bprg6, bprg26, bprg56, bprg0, eqpn, eqnn, MT_set10, MT_set11, st_MT10, st_MT11, rnT_c, nlV, nlV.nlL, frzV, frzL, frzO, pExt, encI_len, k2_s, chunk, encI_len, cv53, shp0c, pExt, Prg.cells, ldQ, g1R, obQ, stQ, s1Q, ix3, ia3, ia28, bi3, bs0, bs01, bs02, bs012, bs013, bs014, bs0134, bs01234, bw1, bw2, bw3])
      | (refine wl_store ?_; simp [*, eqEv, be_02, be_124, bins0, bins01, bins02, bprg6, bprg26, bprg56, bprg0, eqpn, eqnn, MT_set10, MT_set11, st_MT10, st_MT11, rnT_c, nlV, nlV.nlL, frzV, frzL, frzO, pExt, encI_len, k2_s, chunk, encI_len, cv53, shp0c, pExt, Prg.cells, ldQ, g1R, obQ, stQ, s1Q, ix3, ia3, ia28, bi3, bs0, bs01, bs02, bs012, bs013, bs014, bs0134, bs01234, bw1, bw2, bw3])
      | (refine wr_store ?_; simp [*, eqEv, be_02, be_124, bins0, bins01, bins02, bprg6, bprg26, bprg56, bprg0, eqpn, eqnn, MT_set10, MT_set11, st_MT10, st_MT11, rnT_c, nlV, nlV.nlL, frzV, frzL, frzO, pExt, encI_len, k2_s, chunk, encI_len, cv53, shp0c, pExt, Prg.cells, ldQ, g1R, obQ, stQ, s1Q, ix3, ia3, ia28, bi3, bs0, bs01, bs02, bs012, bs013, bs014, bs0134, bs01234, bw1, bw2, bw3])
      | (show Wl _ _ _ _ _ _; simp [*, eqEv, be_02, be_124, bins0, bins01, bins02, bprg6, bprg26, bprg56, bprg0, eqpn, eqnn, MT_set10, MT_set11, st_MT10, st_MT11, rnT_c, nlV, nlV.nlL, frzV, frzL, frzO, pExt, encI_len, k2_s, chunk, encI_len, cv53, shp0c, pExt, Prg.cells, ldQ, g1R, obQ, stQ, s1Q, ix3, ia3, ia28, bi3, bs0, bs01, bs02, bs012, bs013, bs014, bs0134, bs01234, bw1, bw2, bw3])
      | (show Wr _ _ _ _ _ _ _; simp [*, eqEv, be_02, be_124, bins0, bins01, bins02, bprg6, bprg26, bprg56, bprg0, eqpn, eqnn, MT_set10, MT_set11, st_MT10, st_MT11, rnT_c, nlV, nlV.nlL, frzV, frzL, frzO, pExt, encI_len, k2_s, chunk, encI_len, cv53, shp0c, pExt, Prg.cells, ldQ, g1R, obQ, stQ, s1Q, ix3, ia3, ia28, bi3, bs0, bs01, bs02, bs012, bs013, bs014, bs0134, bs01234, bw1, bw2, bw3])
      | (refine kont hK ?_; clear hK K)
      | refine kont (by assumption) ?_
      | with_reducible refine thenA_n ?_
      | with_reducible refine thenA_r ?_
      | with_reducible refine thenA_e ?_
      | with_reducible refine blockA_n ?_
      | with_reducible refine blockA_r ?_
      | with_reducible refine blockA_e ?_
      | with_reducible refine blockA_o rfl ?_
      | refine Awp_ifT rfl ?_
      | refine Awp_ifF rfl ?_
      | (refine Awp_if rfl (fun h => ?_) (fun h => ?_) <;> ((have h' := h; try simp at h') <;> try (have h2 := h; simp only [decide_eq_false_iff_not] at h2)))
      | with_reducible refine noGo_n ?_
      | with_reducible refine noGo_r ?_
      | with_reducible refine noGo_e ?_
      | with_reducible refine Awp_scope ?_
      | with_reducible refine Awp_label ?_
      | with_reducible refine Awp_ret ?_
      | with_reducible refine Awp_skip ?_
      | with_reducible refine Awp_exit ?_
      | with_reducible refine Awp_block ?_)
    all_goals (refine ⟨⟨q + 1, by omega, hq2, rfl, ?_, ?_, ?_, ?_⟩, ?_⟩ <;> first | (simp [*, inNB]; done) | (simp [*]; omega))
  have hlt' : ((j : Int) < ((picksF c).length : Int)) := by omega
  obtain ⟨x, hx⟩ : ∃ x, (picksF c)[j]? = some x := ⟨(picksF c)[j], by simp [hlt]⟩
  have hx2 : (picksF c)[(j : Int).toNat]? = some x := hx
  have hxin := picks_in hc x (List.mem_of_getElem? hx)
  have hj0 : (0 : Int) ≤ (j : Int) := by omega
  have hdec : (picksF c).length - (j + 1) < (picksF c).length - j := by omega
  have hwj : IntKind.i64.wrap ((j : Int) + 1) = ((j + 1 : Nat) : Int) := wrap_small (by omega) (by omega)
  have hj1 : j + 1 ≤ (picksF c).length := by omega
  have hWτ := hW τ hR
  have hbτ := hb τ hR
  have hR2 := hs τ x hR hxin
  clear hlt hj hq60
  repeat' (first
    | refine Awp_sqG fun K hK => ?_
    | (refine Awp_reg rfl fun K hK => ?_; simp [*, eqEv, be_02, be_124, bins0, bins01, bins02, bprg6, bprg26, bprg56, bprg0, eqpn, eqnn, MT_set10, MT_set11, st_MT10, st_MT11, rnT_c, nlV, nlV.nlL, frzV, frzL, frzO, pExt, encI_len, k2_s, chunk, encI_len, cv53, shp0c, pExt, Prg.cells, ldQ, g1R, obQ, stQ, s1Q, ix3, ia3, ia28, bi3, bs0, bs01, bs02, bs012, bs013, bs014, bs0134, bs01234, bw1, bw2, bw3])
    | (refine Awp_regD [] rfl rfl fun K hK => ?_; simp [*, eqEv, be_02, be_124, bins0, bins01, bins02, bprg6, bprg26, bprg56, bprg0, eqpn, eqnn, MT_set10, MT_set11, st_MT10, st_MT11, rnT_c, nlV, nlV.nlL, frzV, frzL, frzO, pExt, encI_len, k2_s, chunk, encI_len, cv53, shp0c, pExt, Prg.cells, ldQ, g1R, obQ, stQ, s1Q, ix3, ia3, ia28, bi3, bs0, bs01, bs02, bs012, bs013, bs014, bs0134, bs01234, bw1, bw2, bw3])
    | (refine WG_br (fun h => ?_) (fun h => ?_) <;> (have h' := h; try simp at h'; simp [*, eqEv, be_02, be_124, bins0, bins01, bins02, bprg6, bprg26, bprg56, bprg0, eqpn, eqnn, MT_set10, MT_set11, st_MT10, st_MT11, rnT_c, nlV, nlV.nlL, frzV, frzL, frzO, pExt, encI_len, k2_s, chunk, encI_len, cv53, shp0c, pExt, Prg.cells, ldQ, g1R, obQ, stQ, s1Q, ix3, ia3, ia28, bi3, bs0, bs01, bs02, bs012, bs013, bs014, bs0134, bs01234, bw1, bw2, bw3]))
    | (refine RG_br (fun h => ?_) (fun h => ?_) <;> (have h' := h; try simp at h'; simp [*, eqEv, be_02, be_124, bins0, bins01, bins02, bprg6, bprg26, bprg56, bprg0, eqpn, eqnn, MT_set10, MT_set11, st_MT10, st_MT11, rnT_c, nlV, nlV.nlL, frzV, frzL, frzO, pExt, encI_len, k2_s, chunk, encI_len, cv53, shp0c, pExt, Prg.cells, ldQ, g1R, obQ, stQ, s1Q, ix3, ia3, ia28, bi3, bs0, bs01, bs02, bs012, bs013, bs014, bs0134, bs01234, bw1, bw2, bw3]))
    | (refine wl_litF rfl ?_; try simp [*, eqEv, be_02, be_124, bins0, bins01, bins02, bprg6, bprg26, bprg56, bprg0, eqpn, eqnn, MT_set10, MT_set11, st_MT10, st_MT11, rnT_c, nlV, nlV.nlL, frzV, frzL, frzO, pExt, encI_len, k2_s, chunk, encI_len, cv53, shp0c, pExt, Prg.cells, ldQ, g1R, obQ, stQ, s1Q, ix3, ia3, ia28, bi3, bs0, bs01, bs02, bs012, bs013, bs014, bs0134, bs01234, bw1, bw2, bw3])
    | (refine call_abs (SY.s (SS.step τ x hWτ hbτ.1 hbτ.2.1)) rfl rfl rfl ?_; try simp [*, eqEv, be_02, be_124, bins0, bins01, bins02, bprg6, bprg26, bprg56, bprg0, eqpn, eqnn, MT_set10, MT_set11, st_MT10, st_MT11, rnT_c, nlV, nlV.nlL, frzV, frzL, frzO, pExt, encI_len, k2_s, chunk, encI_len, cv53, shp0c, pExt, Prg.cells, ldQ, g1R, obQ, stQ, s1Q, ix3, ia3, ia28, bi3, bs0, bs01, bs02, bs012, bs013, bs014, bs0134, bs01234, bw1, bw2, bw3])
    | refine Gq.here ?_
    | refine And.intro (by omega) ?_
    | (refine wl_box rfl ?_; simp [*, eqEv, be_02, be_124, bins0, bins01, bins02, bprg6, bprg26, bprg56, bprg0, eqpn, eqnn, MT_set10, MT_set11, st_MT10, st_MT11, rnT_c, nlV, nlV.nlL, frzV, frzL, frzO, pExt, encI_len, k2_s, chunk, encI_len, cv53, shp0c, pExt, Prg.cells, ldQ, g1R, obQ, stQ, s1Q, ix3, ia3, ia28, bi3, bs0, bs01, bs02, bs012, bs013, bs014, bs0134, bs01234, bw1, bw2, bw3])
    | (refine wl_alloc rfl ?_; simp [*, eqEv, be_02, be_124, bins0, bins01, bins02, bprg6, bprg26, bprg56, bprg0, eqpn, eqnn, MT_set10, MT_set11, st_MT10, st_MT11, rnT_c, nlV, nlV.nlL, frzV, frzL, frzO, pExt, encI_len, k2_s, chunk, encI_len, cv53, shp0c, pExt, Prg.cells, ldQ, g1R, obQ, stQ, s1Q, ix3, ia3, ia28, bi3, bs0, bs01, bs02, bs012, bs013, bs014, bs0134, bs01234, bw1, bw2, bw3])
    | (refine wr_box rfl ?_; simp [*, eqEv, be_02, be_124, bins0, bins01, bins02, bprg6, bprg26, bprg56, bprg0, eqpn, eqnn, MT_set10, MT_set11, st_MT10, st_MT11, rnT_c, nlV, nlV.nlL, frzV, frzL, frzO, pExt, encI_len, k2_s, chunk, encI_len, cv53, shp0c, pExt, Prg.cells, ldQ, g1R, obQ, stQ, s1Q, ix3, ia3, ia28, bi3, bs0, bs01, bs02, bs012, bs013, bs014, bs0134, bs01234, bw1, bw2, bw3])
    | (refine wr_alloc rfl ?_; simp [*, eqEv, be_02, be_124, bins0, bins01, bins02, bprg6, bprg26, bprg56, bprg0, eqpn, eqnn, MT_set10, MT_set11, st_MT10, st_MT11, rnT_c, nlV, nlV.nlL, frzV, frzL, frzO, pExt, encI_len, k2_s, chunk, encI_len, cv53, shp0c, pExt, Prg.cells, ldQ, g1R, obQ, stQ, s1Q, ix3, ia3, ia28, bi3, bs0, bs01, bs02, bs012, bs013, bs014, bs0134, bs01234, bw1, bw2, bw3])
    | (refine wl_store ?_; simp [*, eqEv, be_02, be_124, bins0, bins01, bins02, bprg6, bprg26, bprg56, bprg0, eqpn, eqnn, MT_set10, MT_set11, st_MT10, st_MT11, rnT_c, nlV, nlV.nlL, frzV, frzL, frzO, pExt, encI_len, k2_s, chunk, encI_len, cv53, shp0c, pExt, Prg.cells, ldQ, g1R, obQ, stQ, s1Q, ix3, ia3, ia28, bi3, bs0, bs01, bs02, bs012, bs013, bs014, bs0134, bs01234, bw1, bw2, bw3])
    | (refine wr_store ?_; simp [*, eqEv, be_02, be_124, bins0, bins01, bins02, bprg6, bprg26, bprg56, bprg0, eqpn, eqnn, MT_set10, MT_set11, st_MT10, st_MT11, rnT_c, nlV, nlV.nlL, frzV, frzL, frzO, pExt, encI_len, k2_s, chunk, encI_len, cv53, shp0c, pExt, Prg.cells, ldQ, g1R, obQ, stQ, s1Q, ix3, ia3, ia28, bi3, bs0, bs01, bs02, bs012, bs013, bs014, bs0134, bs01234, bw1, bw2, bw3])
    | (show Wl _ _ _ _ _ _; simp [*, eqEv, be_02, be_124, bins0, bins01, bins02, bprg6, bprg26, bprg56, bprg0, eqpn, eqnn, MT_set10, MT_set11, st_MT10, st_MT11, rnT_c, nlV, nlV.nlL, frzV, frzL, frzO, pExt, encI_len, k2_s, chunk, encI_len, cv53, shp0c, pExt, Prg.cells, ldQ, g1R, obQ, stQ, s1Q, ix3, ia3, ia28, bi3, bs0, bs01, bs02, bs012, bs013, bs014, bs0134, bs01234, bw1, bw2, bw3])
    | (show Wr _ _ _ _ _ _ _; simp [*, eqEv, be_02, be_124, bins0, bins01, bins02, bprg6, bprg26, bprg56, bprg0, eqpn, eqnn, MT_set10, MT_set11, st_MT10, st_MT11, rnT_c, nlV, nlV.nlL, frzV, frzL, frzO, pExt, encI_len, k2_s, chunk, encI_len, cv53, shp0c, pExt, Prg.cells, ldQ, g1R, obQ, stQ, s1Q, ix3, ia3, ia28, bi3, bs0, bs01, bs02, bs012, bs013, bs014, bs0134, bs01234, bw1, bw2, bw3])
    | (refine kont hK ?_; clear hK K)
    | refine kont (by assumption) ?_
    | with_reducible refine thenA_n ?_
    | with_reducible refine thenA_r ?_
    | with_reducible refine thenA_e ?_
    | with_reducible refine blockA_n ?_
    | with_reducible refine blockA_r ?_
    | with_reducible refine blockA_e ?_
    | with_reducible refine blockA_o rfl ?_
    | refine Awp_ifT rfl ?_
    | refine Awp_ifF rfl ?_
    | (refine Awp_if rfl (fun h => ?_) (fun h => ?_) <;> ((have h' := h; try simp at h') <;> try (have h2 := h; simp only [decide_eq_false_iff_not] at h2)))
    | with_reducible refine noGo_n ?_
    | with_reducible refine noGo_r ?_
    | with_reducible refine noGo_e ?_
    | with_reducible refine Awp_scope ?_
    | with_reducible refine Awp_label ?_
    | with_reducible refine Awp_ret ?_
    | with_reducible refine Awp_skip ?_
    | with_reducible refine Awp_exit ?_
    | with_reducible refine Awp_block ?_)
  all_goals (refine ⟨⟨j + 1, hj1, _, hR2, rfl, ?_, ?_, ?_⟩, ?_⟩ <;> simp [*])

end Go.Proofs.YtjfgnpnlabklpaaE
/- All states that StateOnce's program may come to. -/
namespace Go.Proofs.YtjfgnpnlabklpaaE
open Go Go.RowKit
set_option linter.unusedVariables false
set_option linter.unusedSimpArgs false
set_option maxRecDepth 1000000
def LLo : List Sg := [⟨op, [⟨true, 0, [0, 0, 0, 0]⟩, ⟨false, 0, [0, 0, 0, 0]⟩, ⟨false, 0, [0, 0, 0, 0]⟩], [], [], [], [], [], [0], [], false⟩, ⟨op, [⟨true, 1, [0, 0, 0, 0]⟩, ⟨true, 0, [0, 0, 0, 0]⟩, ⟨false, 0, [0, 0, 0, 0]⟩], [], [], [], [], [], [0], [], false⟩, ⟨op, [⟨true, 2, [0, 0, 0, 0]⟩, ⟨true, 0, [0, 0, 0, 0]⟩, ⟨true, 0, [0, 0, 0, 0]⟩], [], [], [], [], [], [0], [], false⟩, ⟨op, [⟨true, 1, [0, 0, 0, 0]⟩, ⟨true, 1, [1, 0, 0, 0]⟩, ⟨false, 0, [0, 0, 0, 0]⟩], [], [], [], [], [], [1], [], false⟩, ⟨op, [⟨true, 2, [0, 0, 0, 0]⟩, ⟨true, 1, [1, 0, 0, 0]⟩, ⟨true, 0, [0, 0, 0, 0]⟩], [], [], [], [], [], [1], [], false⟩, ⟨op, [⟨true, 1, [0, 0, 0, 0]⟩, ⟨true, 2, [1, 0, 0, 0]⟩, ⟨false, 0, [0, 0, 0, 0]⟩], [], [], [], [], [], [1], [], false⟩, ⟨op, [⟨true, 2, [0, 0, 0, 0]⟩, ⟨true, 2, [1, 0, 0, 0]⟩, ⟨true, 0, [0, 0, 0, 0]⟩], [], [], [], [], [], [1], [], false⟩, ⟨op, [⟨true, 1, [0, 0, 0, 0]⟩, ⟨true, 3, [1, 0, 0, 0]⟩, ⟨false, 0, [0, 0, 0, 0]⟩], [], [], [], [], [], [1], [1], false⟩, ⟨op, [⟨true, 2, [0, 0, 0, 0]⟩, ⟨true, 3, [1, 0, 0, 0]⟩, ⟨true, 0, [0, 0, 0, 0]⟩], [], [], [], [], [], [1], [1], false⟩, ⟨op, [⟨true, 1, [0, 0, 0, 0]⟩, ⟨true, 4, [1, 0, 0, 0]⟩, ⟨false, 0, [0, 0, 0, 0]⟩], [], [], [], [], [], [2], [1], false⟩, ⟨op, [⟨true, 2, [0, 0, 0, 0]⟩, ⟨true, 4, [1, 0, 0, 0]⟩, ⟨true, 0, [0, 0, 0, 0]⟩], [], [], [], [], [], [2], [1], false⟩, ⟨op, [⟨true, 1, [0, 0, 0, 0]⟩, ⟨true, 5, [1, 0, 0, 0]⟩, ⟨false, 0, [0, 0, 0, 0]⟩], [], [], [], [], [], [2], [1], false⟩, ⟨op, [⟨true, 2, [0, 0, 0, 0]⟩, ⟨true, 5, [1, 0, 0, 0]⟩, ⟨true, 0, [0, 0, 0, 0]⟩], [], [], [], [], [], [2], [1], false⟩, ⟨op, [⟨true, 2, [0, 0, 0, 0]⟩, ⟨true, 5, [1, 0, 0, 0]⟩, ⟨true, 1, [0, 0, 0, 0]⟩], [], [], [], [], [], [2], [1], false⟩, ⟨op, [⟨true, 2, [0, 0, 0, 0]⟩, ⟨true, 5, [1, 0, 0, 0]⟩, ⟨true, 4, [0, 0, 0, 0]⟩], [], [], [], [], [], [2], [1], false⟩, ⟨op, [⟨true, 2, [0, 0, 0, 0]⟩, ⟨true, 5, [1, 0, 0, 0]⟩, ⟨true, 5, [0, 0, 0, 0]⟩], [], [], [], [], [], [2], [1], false⟩, ⟨op, [⟨true, 2, [0, 0, 0, 0]⟩, ⟨true, 4, [1, 0, 0, 0]⟩, ⟨true, 1, [0, 0, 0, 0]⟩], [], [], [], [], [], [2], [1], false⟩, ⟨op, [⟨true, 2, [0, 0, 0, 0]⟩, ⟨true, 4, [1, 0, 0, 0]⟩, ⟨true, 4, [0, 0, 0, 0]⟩], [], [], [], [], [], [2], [1], false⟩, ⟨op, [⟨true, 2, [0, 0, 0, 0]⟩, ⟨true, 4, [1, 0, 0, 0]⟩, ⟨true, 5, [0, 0, 0, 0]⟩], [], [], [], [], [], [2], [1], false⟩, ⟨op, [⟨true, 2, [0, 0, 0, 0]⟩, ⟨true, 0, [0, 0, 0, 0]⟩, ⟨true, 1, [1, 0, 0, 0]⟩], [], [], [], [], [], [1], [], false⟩, ⟨op, [⟨true, 2, [0, 0, 0, 0]⟩, ⟨true, 0, [0, 0, 0, 0]⟩, ⟨true, 2, [1, 0, 0, 0]⟩], [], [], [], [], [], [1], [], false⟩, ⟨op, [⟨true, 2, [0, 0, 0, 0]⟩, ⟨true, 0, [0, 0, 0, 0]⟩, ⟨true, 3, [1, 0, 0, 0]⟩], [], [], [], [], [], [1], [1], false⟩, ⟨op, [⟨true, 2, [0, 0, 0, 0]⟩, ⟨true, 0, [0, 0, 0, 0]⟩, ⟨true, 4, [1, 0, 0, 0]⟩], [], [], [], [], [], [2], [1], false⟩, ⟨op, [⟨true, 2, [0, 0, 0, 0]⟩, ⟨true, 1, [0, 0, 0, 0]⟩, ⟨true, 4, [1, 0, 0, 0]⟩], [], [], [], [], [], [2], [1], false⟩, ⟨op, [⟨true, 2, [0, 0, 0, 0]⟩, ⟨true, 0, [0, 0, 0, 0]⟩, ⟨true, 5, [1, 0, 0, 0]⟩], [], [], [], [], [], [2], [1], false⟩, ⟨op, [⟨true, 2, [0, 0, 0, 0]⟩, ⟨true, 1, [0, 0, 0, 0]⟩, ⟨true, 5, [1, 0, 0, 0]⟩], [], [], [], [], [], [2], [1], false⟩, ⟨op, [⟨true, 2, [0, 0, 0, 0]⟩, ⟨true, 4, [0, 0, 0, 0]⟩, ⟨true, 5, [1, 0, 0, 0]⟩], [], [], [], [], [], [2], [1], false⟩, ⟨op, [⟨true, 2, [0, 0, 0, 0]⟩, ⟨true, 5, [0, 0, 0, 0]⟩, ⟨true, 5, [1, 0, 0, 0]⟩], [], [], [], [], [], [2], [1], false⟩, ⟨op, [⟨true, 2, [0, 0, 0, 0]⟩, ⟨true, 4, [0, 0, 0, 0]⟩, ⟨true, 4, [1, 0, 0, 0]⟩], [], [], [], [], [], [2], [1], false⟩, ⟨op, [⟨true, 2, [0, 0, 0, 0]⟩, ⟨true, 5, [0, 0, 0, 0]⟩, ⟨true, 4, [1, 0, 0, 0]⟩], [], [], [], [], [], [2], [1], false⟩]
def inLo (s : Sg) : Bool := LLo.any fun x => decide (s = x)
theorem inLo_mem {s : Sg} (h : inLo s = true) : s ∈ LLo := by
  unfold inLo at h
  obtain ⟨x, hx, h⟩ := List.any_eq_true.1 h
  rw [of_decide_eq_true h]
  exact hx
def atB (a m : Int) : Bool := decide (0 ≤ a ∧ a ≤ m)
def okLo (x : Sg) : Bool :=
  ([0, 1, 2, 3] : List Int).all (fun k => inLo (nextT x k).1) && (decide (x.told.length ≤ 1) && (decide (inNF x 3 ≤ 1) && (decide (statF x ≠ 3) && (decide (((thAt x 1).at_ < 4 ∧ (thAt x 2).at_ < 4) ∨ x.told.length = 1 ∨ (thAt x 1).at_ = 0 ∨ (thAt x 2).at_ = 0) &&
    (decide (x.p = op) && (decide (x.ch = []) && (decide (x.onces.length = 1) && (decide (x.th.length = 3) && (x.th.all (fun t => decide (t.regs.length = 4)) && (atB (thAt x 0).at_ 2 && (atB (thAt x 1).at_ 5 && atB (thAt x 2).at_ 5)))))))))))
theorem all_okLo : LLo.all okLo = true := by decide +kernel
theorem init_Lo : inLo (initS op) = true := by decide +kernel
theorem o_fit : ∀ c ∈ op.code, ∀ i ∈ c, ((i.op = 26) → i.b = 0 ∧ i.a = 0) ∧ (i.op = 27 → i.a = 0) ∧ (i.op = 12 → 0 ≤ i.a ∧ i.a < 3) ∧ (i.op = 11 → i.a = 0 ∧ i.b = 4 ∧ c.length = 5) ∧ (i.op = 9 → i.a = 0) ∧ (i.op = 26 ∨ i.op = 11 ∨ i.op = 9 ∨ i.op = 27 ∨ i.op = 0 ∨ i.op = 12) := by decide
theorem okLo_wf {x : Sg} (hp : x.p = op) (hc : x.ch = []) (g8 : x.onces.length = 1) (g9 : x.th.length = 3) (hr : ∀ t ∈ x.th, t.regs.length = 4) (h0 : 0 ≤ (thAt x 0).at_ ∧ (thAt x 0).at_ ≤ 2) (h1 : 0 ≤ (thAt x 1).at_ ∧ (thAt x 1).at_ ≤ 5) (h2 : 0 ≤ (thAt x 2).at_ ∧ (thAt x 2).at_ ≤ 5) : WF x := by
  refine ⟨by rw [g9, hp]; rfl, by rw [hc, hp]; rfl, fun k t c e1 e2 => ?_, fun k t e1 => hr t (List.mem_of_getElem? e1), fun c hc2 i hi => ?_, fun c hc2 i hi => ?_, fun c hc2 i hi => ?_⟩
  · rw [hp] at e2
    have e : ∀ j : Nat, j = k → (thAt x (j : Int)) = t := fun j hj => by subst hj; unfold thAt; rw [List.getD_eq_getElem?_getD]; simp [e1]
    match k, e2 with
    | 0, e2 => cases e2; rw [← e 0 rfl]; exact h0
    | 1, e2 => cases e2; rw [← e 1 rfl]; exact h1
    | 2, e2 => cases e2; rw [← e 2 rfl]; exact h2
  all_goals
    rw [hp] at hc2
    obtain ⟨a1, a2, a3, a4, a5, a6⟩ := o_fit c hc2 i hi
    constructor <;> intro h <;> (try unfold inR) <;> (first | omega | (refine ⟨?_, ?_⟩ <;> first | omega | (rw [g8]; omega) | (rw [g9]; omega) | skip))
theorem once_all (c : List Int) (hc : ∀ x ∈ c, 0 ≤ x ∧ x < 256) : Meets 4 [.c (.ls (encU c))] [] (pt (nB true) [] []) := by
  have hok : ∀ x ∈ LLo, okLo x = true := fun x hx => List.all_eq_true.1 all_okLo x hx
  refine once_m SY_good c hc (fun s => s ∈ LLo) (inLo_mem init_Lo) (fun x h => ?_) (fun x h => ?_) (fun x k h hk => ?_) (fun x h => ?_)
  all_goals
    have hx := hok x h
    unfold okLo atB at hx
    simp only [Bool.and_eq_true, decide_eq_true_eq, List.all_eq_true] at hx
    obtain ⟨g1, g2, g3, g4, g5, g6, g7, g8, g9, g10, g11, g12, g13⟩ := hx
  · exact okLo_wf g6 g7 g8 g9 g10 g11 g12 g13
  · exact ⟨by omega, (by rw [g7]; intro c hc; cases hc), g9⟩
  · refine inLo_mem (g1 k ?_)
    have : k = 0 ∨ k = 1 ∨ k = 2 ∨ k = 3 := by omega
    simpa using this
  · exact ⟨g2, g3, g4, g5⟩
end Go.Proofs.YtjfgnpnlabklpaaE
