/- StateLocks, walked. -/
import Derived.Test.YtjfgnpnlabklpaaCEKnown
import Derived.Test.YtjfgnpnlabklpaaCEPlain
namespace Go.Proofs.YtjfgnpnlabklpaaE
open Go Go.RowKit
set_option linter.unusedVariables false
set_option linter.unusedSimpArgs false
set_option maxRecDepth 1000000
set_option maxHeartbeats 3000000
inductive SX : Spec
  | l {f : FuncId} {a : List V} {m : Mem2} {P : V → Mem2 → List Nat → Prop} (h : SL f a m P) : SX f a m P
  | known : SX 10 [] [] (pt (nB true) [] [])
theorem SX_good : Good SX := by
  refine ⟨fun f a m P h => ?_, fun f a m P h => ?_⟩
  · cases h with
    | l h => exact SL_good.ok _ _ _ _ h
    | known => exact known_m SL_good
  · cases h with
    | l h => exact SL_good.fn _ _ _ _ h
    | known => exact ⟨_, Try.func10, rfl, rfl⟩
theorem stepP_n {σ : Sg} {k : Int} {r : V} {a : Mem2} (h : stepP σ k r a) : ∃ ver, r = .tup [.agg (nextF σ k ver).2.cells, nB (can σ k)] ∧ a = M (nextF σ k ver).1 [] := by
  obtain ⟨ver, h⟩ := h
  refine ⟨ver, ?_⟩
  unfold nextF
  cases hc : can σ k with
  | true => rw [if_pos hc] at h; rw [if_pos rfl]; exact h
  | false => rw [if_neg (by rw [hc]; decide)] at h; rw [if_neg (by decide)]; exact h
theorem stepP_e (σ : Sg) (k : Int) : ∃ r a, stepP σ k r a := by
  by_cases hc : can σ k = true
  · exact ⟨_, _, 0, by rw [if_pos hc]; exact ⟨rfl, rfl⟩⟩
  · exact ⟨_, _, 0, by rw [if_neg hc]; exact ⟨rfl, rfl⟩⟩
theorem pick_in {x : Int} (h : 0 ≤ x ∧ x < 256) : 0 ≤ pickF x ∧ pickF x ≤ 3 := by
  unfold pickF
  have h1 : x.tmod 13 = x % 13 := Int.tmod_eq_emod_of_nonneg h.1
  have h2 : 0 ≤ x % 13 ∧ x % 13 < 13 := ⟨Int.emod_nonneg _ (by decide), Int.emod_lt_of_pos _ (by decide)⟩
  rw [h1, wrap_small h2.1 (by omega)]
  have h3 : (x % 13).tdiv 4 = (x % 13) / 4 := Int.tdiv_eq_ediv_of_nonneg h2.1
  rw [h3, wrap_small (by omega) (by omega)]
  omega
theorem picks_in {c : List Int} (h : ∀ x ∈ c, 0 ≤ x ∧ x < 256) : ∀ k ∈ picksF c, 0 ≤ k ∧ k ≤ 3 := fun k hk => by
  unfold picksF at hk
  obtain ⟨x, hx, rfl⟩ := List.mem_map.1 hk
  exact pick_in (h x (List.mem_of_mem_take hx))
theorem picks_le {c : List Int} : (picksF c).length ≤ 60 := by unfold picksF; simp; omega
theorem hw1 : IntKind.i64.wrap 1 = 1 := by decide
def lcode : List Ins := [⟨13, 0, 0, 0⟩, ⟨14, 0, 0, 0⟩, ⟨15, 0, 0, 0⟩, ⟨16, 0, 0, 0⟩, ⟨10, 0, 0, 0⟩]
def lp : Prg := ⟨0, 0, 1, [], 0, 0, [[⟨12, 1, 0, 0⟩, ⟨12, 2, 0, 0⟩, ⟨15, 0, 0, 0⟩, ⟨16, 0, 0, 0⟩, ⟨13, 0, 0, 0⟩, ⟨14, 0, 0, 0⟩, ⟨10, 2, 0, 0⟩], lcode, lcode]⟩
theorem lp_ok : OkP lp := ⟨by decide, by decide, by decide, by decide⟩
theorem lp_s : soundF lp = 0 := by decide
theorem new_l {r : V} {a : Mem2} (h : newP lp r a) : r = .ptr 0 0 0 ∧ a = M (initS lp) [] := by
  unfold newP at h
  rw [if_pos lp_s] at h
  exact h
theorem new_le : newP lp (.ptr 0 0 0) (M (initS lp) []) := by
  unfold newP
  rw [if_pos lp_s]
  exact ⟨rfl, rfl⟩
def aloneB (σ : Sg) (j : Nat) : Bool := (j == 0 && (thAt σ j).at_ == 5) || (decide (0 < j) && (thAt σ j).at_ == 1)
def readB (σ : Sg) (j : Nat) : Bool := (thAt σ j).at_ == 3
def aloneF (σ : Sg) : Nat → Int
  | 0 => 0
  | j + 1 => if aloneB σ j = true then aloneF σ j + 1 else aloneF σ j
def readsF (σ : Sg) : Nat → Int
  | 0 => 0
  | j + 1 => if readB σ j = true then readsF σ j + 1 else readsF σ j
theorem aloneF_in (σ : Sg) : ∀ j : Nat, 0 ≤ aloneF σ j ∧ aloneF σ j ≤ j
  | 0 => ⟨Int.le_refl _, Int.le_refl _⟩
  | j + 1 => by
    have := aloneF_in σ j
    unfold aloneF
    split <;> omega
theorem readsF_in (σ : Sg) : ∀ j : Nat, 0 ≤ readsF σ j ∧ readsF σ j ≤ j
  | 0 => ⟨Int.le_refl _, Int.le_refl _⟩
  | j + 1 => by
    have := readsF_in σ j
    unfold readsF
    split <;> omega
theorem locks_m (hG : Good SX) (c : List Int) (hc : ∀ x ∈ c, 0 ≤ x ∧ x < 256) (R : Sg → Prop) (h0 : R (initS lp)) (hW : ∀ σ, R σ → WF σ) (hb : ∀ σ, R σ → σ.told.length < 1000000 ∧ (∀ c ∈ σ.ch, c.row.length < 1000000) ∧ σ.th.length = 3) (hs : ∀ σ k ver, R σ → 0 ≤ k ∧ k ≤ 3 → R (nextF σ k ver).1) (hk : ∀ σ, R σ → aloneF σ 3 ≤ 1 ∧ (aloneF σ 3 = 1 → readsF σ 3 ≤ 0) ∧ statF σ = 0) : Meets 3 [.c (.ls (encU c))] ([]) (pt (nB true) [] []) := by
  refine meets hG Try.func3 rfl rfl ?_
  show Awp (env _ _) _ _ ((Try.f3).body.getD .skip) _ _
  unfold Try.f3
  dsimp only [Option.getD_some]
  unfold start
  generalize hQ : endA _ _ _ _ _ = Q
  refine Awp_sqG fun K hK => ?_
  refine Awp_reg rfl fun K hK => ?_
  simp [*, eqEv, be_02, be_124, bins0, bins01, bins02, bprg6, bprg26, bprg56, bprg0, eqpn, eqnn, MT_set10, MT_set11, st_MT10, st_MT11, rnT_c, nlV, nlV.nlL, frzV, frzL, frzO, pExt, encI_len, k2_s, chunk, encI_len, cv53, shp0c, pExt, Prg.cells, ldQ, g1R, obQ, stQ, s1Q, ix3, ia3, ia28, bi3, bs0, bs01, bs02, bs012, bs013, bs014, bs0134, bs01234, bw1, bw2, bw3, rs4]
  refine kont (by assumption) ?_
  refine thenA_n ?_
  refine kont (by assumption) ?_
  refine Gq.here ?_
  refine Awp_sqG fun K hK => ?_
  refine Awp_reg rfl fun K hK => ?_
  simp [*, eqEv, be_02, be_124, bins0, bins01, bins02, bprg6, bprg26, bprg56, bprg0, eqpn, eqnn, MT_set10, MT_set11, st_MT10, st_MT11, rnT_c, nlV, nlV.nlL, frzV, frzL, frzO, pExt, encI_len, k2_s, chunk, encI_len, cv53, shp0c, pExt, Prg.cells, ldQ, g1R, obQ, stQ, s1Q, ix3, ia3, ia28, bi3, bs0, bs01, bs02, bs012, bs013, bs014, bs0134, bs01234, bw1, bw2, bw3, rs4]
  refine wl_lit rfl ?_
  simp [*, eqEv, be_02, be_124, bins0, bins01, bins02, bprg6, bprg26, bprg56, bprg0, eqpn, eqnn, MT_set10, MT_set11, st_MT10, st_MT11, rnT_c, nlV, nlV.nlL, frzV, frzL, frzO, pExt, encI_len, k2_s, chunk, encI_len, cv53, shp0c, pExt, Prg.cells, ldQ, g1R, obQ, stQ, s1Q, ix3, ia3, ia28, bi3, bs0, bs01, bs02, bs012, bs013, bs014, bs0134, bs01234, bw1, bw2, bw3, rs4]
  refine kont (by assumption) ?_
  refine thenA_n ?_
  refine kont (by assumption) ?_
  refine gq_frz 0 rfl ?_
  refine Awp_sqG fun K hK => ?_
  refine Awp_regL 7 [8, 3, 1] rfl rfl fun K hK => ?_
  refine wls_cons fun K' hK' => ?_
  simp [*, eqEv, be_02, be_124, bins0, bins01, bins02, bprg6, bprg26, bprg56, bprg0, eqpn, eqnn, MT_set10, MT_set11, st_MT10, st_MT11, rnT_c, nlV, nlV.nlL, frzV, frzL, frzO, pExt, encI_len, k2_s, chunk, encI_len, cv53, shp0c, pExt, Prg.cells, ldQ, g1R, obQ, stQ, s1Q, ix3, ia3, ia28, bi3, bs0, bs01, bs02, bs012, bs013, bs014, bs0134, bs01234, bw1, bw2, bw3, rs4]
  refine wl_lit rfl ?_
  simp [*, eqEv, be_02, be_124, bins0, bins01, bins02, bprg6, bprg26, bprg56, bprg0, eqpn, eqnn, MT_set10, MT_set11, st_MT10, st_MT11, rnT_c, nlV, nlV.nlL, frzV, frzL, frzO, pExt, encI_len, k2_s, chunk, encI_len, cv53, shp0c, pExt, Prg.cells, ldQ, g1R, obQ, stQ, s1Q, ix3, ia3, ia28, bi3, bs0, bs01, bs02, bs012, bs013, bs014, bs0134, bs01234, bw1, bw2, bw3, rs4]
  refine kont (by assumption) ?_
  refine gz_frz 1 rfl ?_
  refine wls_cons fun K' hK' => ?_
  simp [*, eqEv, be_02, be_124, bins0, bins01, bins02, bprg6, bprg26, bprg56, bprg0, eqpn, eqnn, MT_set10, MT_set11, st_MT10, st_MT11, rnT_c, nlV, nlV.nlL, frzV, frzL, frzO, pExt, encI_len, k2_s, chunk, encI_len, cv53, shp0c, pExt, Prg.cells, ldQ, g1R, obQ, stQ, s1Q, ix3, ia3, ia28, bi3, bs0, bs01, bs02, bs012, bs013, bs014, bs0134, bs01234, bw1, bw2, bw3, rs4]
  refine wl_lit rfl ?_
  simp [*, eqEv, be_02, be_124, bins0, bins01, bins02, bprg6, bprg26, bprg56, bprg0, eqpn, eqnn, MT_set10, MT_set11, st_MT10, st_MT11, rnT_c, nlV, nlV.nlL, frzV, frzL, frzO, pExt, encI_len, k2_s, chunk, encI_len, cv53, shp0c, pExt, Prg.cells, ldQ, g1R, obQ, stQ, s1Q, ix3, ia3, ia28, bi3, bs0, bs01, bs02, bs012, bs013, bs014, bs0134, bs01234, bw1, bw2, bw3, rs4]
  refine kont (by assumption) ?_
  refine gz_frz 2 rfl ?_
  refine wls_cons fun K' hK' => ?_
  simp [*, eqEv, be_02, be_124, bins0, bins01, bins02, bprg6, bprg26, bprg56, bprg0, eqpn, eqnn, MT_set10, MT_set11, st_MT10, st_MT11, rnT_c, nlV, nlV.nlL, frzV, frzL, frzO, pExt, encI_len, k2_s, chunk, encI_len, cv53, shp0c, pExt, Prg.cells, ldQ, g1R, obQ, stQ, s1Q, ix3, ia3, ia28, bi3, bs0, bs01, bs02, bs012, bs013, bs014, bs0134, bs01234, bw1, bw2, bw3, rs4]
  refine kont (by assumption) ?_
  refine gz_nl ?_
  refine wls_nil ?_
  simp [*, eqEv, be_02, be_124, bins0, bins01, bins02, bprg6, bprg26, bprg56, bprg0, eqpn, eqnn, MT_set10, MT_set11, st_MT10, st_MT11, rnT_c, nlV, nlV.nlL, frzV, frzL, frzO, pExt, encI_len, k2_s, chunk, encI_len, cv53, shp0c, pExt, Prg.cells, ldQ, g1R, obQ, stQ, s1Q, ix3, ia3, ia28, bi3, bs0, bs01, bs02, bs012, bs013, bs014, bs0134, bs01234, bw1, bw2, bw3, rs4]
  refine wl_alloc rfl ?_
  simp [*, eqEv, be_02, be_124, bins0, bins01, bins02, bprg6, bprg26, bprg56, bprg0, eqpn, eqnn, MT_set10, MT_set11, st_MT10, st_MT11, rnT_c, nlV, nlV.nlL, frzV, frzL, frzO, pExt, encI_len, k2_s, chunk, encI_len, cv53, shp0c, pExt, Prg.cells, ldQ, g1R, obQ, stQ, s1Q, ix3, ia3, ia28, bi3, bs0, bs01, bs02, bs012, bs013, bs014, bs0134, bs01234, bw1, bw2, bw3, rs4]
  refine wl_store ?_
  simp [*, eqEv, be_02, be_124, bins0, bins01, bins02, bprg6, bprg26, bprg56, bprg0, eqpn, eqnn, MT_set10, MT_set11, st_MT10, st_MT11, rnT_c, nlV, nlV.nlL, frzV, frzL, frzO, pExt, encI_len, k2_s, chunk, encI_len, cv53, shp0c, pExt, Prg.cells, ldQ, g1R, obQ, stQ, s1Q, ix3, ia3, ia28, bi3, bs0, bs01, bs02, bs012, bs013, bs014, bs0134, bs01234, bw1, bw2, bw3, rs4]
  refine kont (by assumption) ?_
  refine thenA_n ?_
  refine kont (by assumption) ?_
  refine Gq.here ?_
  refine Awp_sqG fun K hK => ?_
  refine Awp_reg rfl fun K hK => ?_
  simp [*, eqEv, be_02, be_124, bins0, bins01, bins02, bprg6, bprg26, bprg56, bprg0, eqpn, eqnn, MT_set10, MT_set11, st_MT10, st_MT11, rnT_c, nlV, nlV.nlL, frzV, frzL, frzO, pExt, encI_len, k2_s, chunk, encI_len, cv53, shp0c, pExt, Prg.cells, ldQ, g1R, obQ, stQ, s1Q, ix3, ia3, ia28, bi3, bs0, bs01, bs02, bs012, bs013, bs014, bs0134, bs01234, bw1, bw2, bw3, rs4]
  apply call_new (initS lp) (SX.l (SL.new lp lp_ok))
  rfl
  exact new_le
  intro r a h
  exact new_l h
  simp [*, eqEv, be_02, be_124, bins0, bins01, bins02, bprg6, bprg26, bprg56, bprg0, eqpn, eqnn, MT_set10, MT_set11, st_MT10, st_MT11, rnT_c, nlV, nlV.nlL, frzV, frzL, frzO, pExt, encI_len, k2_s, chunk, encI_len, cv53, shp0c, pExt, Prg.cells, ldQ, g1R, obQ, stQ, s1Q, ix3, ia3, ia28, bi3, bs0, bs01, bs02, bs012, bs013, bs014, bs0134, bs01234, bw1, bw2, bw3, rs4]
  refine kont (by assumption) ?_
  refine thenA_n ?_
  refine kont (by assumption) ?_
  refine gq_st4 ?_
  repeat' (first
    | refine Awp_sqG fun K hK => ?_
    | (refine Awp_reg rfl fun K hK => ?_; simp [*, eqEv, be_02, be_124, bins0, bins01, bins02, bprg6, bprg26, bprg56, bprg0, eqpn, eqnn, MT_set10, MT_set11, st_MT10, st_MT11, rnT_c, nlV, nlV.nlL, frzV, frzL, frzO, pExt, encI_len, k2_s, chunk])
    | (refine Awp_regD [] rfl rfl fun K hK => ?_; simp [*, eqEv, be_02, be_124, bins0, bins01, bins02, bprg6, bprg26, bprg56, bprg0, eqpn, eqnn, MT_set10, MT_set11, st_MT10, st_MT11, rnT_c, nlV, nlV.nlL, frzV, frzL, frzO, pExt, encI_len, k2_s, chunk])
    | (refine WG_br (fun h => ?_) (fun h => ?_) <;> (have h' := h; try simp at h'; simp [*, eqEv, be_02, be_124, bins0, bins01, bins02, bprg6, bprg26, bprg56, bprg0, eqpn, eqnn, MT_set10, MT_set11, st_MT10, st_MT11, rnT_c, nlV, nlV.nlL, frzV, frzL, frzO, pExt, encI_len, k2_s, chunk]))
    | (refine RG_br (fun h => ?_) (fun h => ?_) <;> (have h' := h; try simp at h'; simp [*, eqEv, be_02, be_124, bins0, bins01, bins02, bprg6, bprg26, bprg56, bprg0, eqpn, eqnn, MT_set10, MT_set11, st_MT10, st_MT11, rnT_c, nlV, nlV.nlL, frzV, frzL, frzO, pExt, encI_len, k2_s, chunk]))
    | (apply call_p SX.known; rfl; rfl; try simp [*, eqEv, be_02, be_124, bins0, bins01, bins02, bprg6, bprg26, bprg56, bprg0, eqpn, eqnn, MT_set10, MT_set11, st_MT10, st_MT11, rnT_c, nlV, nlV.nlL, frzV, frzL, frzO, pExt, encI_len, k2_s, chunk, encI_len, cv53, shp0c, pExt, Prg.cells, ldQ, g1R, obQ, stQ, s1Q, ix3, ia3, ia28, bi3, bs0, bs01, bs02, bs012, bs013, bs014, bs0134, bs01234, bw1, bw2, bw3, rs4])
    | (apply call_p (SX.l (SL.picks c hc)); rfl; rfl; try simp [*, eqEv, be_02, be_124, bins0, bins01, bins02, bprg6, bprg26, bprg56, bprg0, eqpn, eqnn, MT_set10, MT_set11, st_MT10, st_MT11, rnT_c, nlV, nlV.nlL, frzV, frzL, frzO, pExt, encI_len, k2_s, chunk, encI_len, cv53, shp0c, pExt, Prg.cells, ldQ, g1R, obQ, stQ, s1Q, ix3, ia3, ia28, bi3, bs0, bs01, bs02, bs012, bs013, bs014, bs0134, bs01234, bw1, bw2, bw3, rs4])
    | refine gq_t0 ?_
    | refine Gq.here ?_
    | refine And.intro (by omega) ?_
    | (refine wl_box rfl ?_; simp [*, eqEv, be_02, be_124, bins0, bins01, bins02, bprg6, bprg26, bprg56, bprg0, eqpn, eqnn, MT_set10, MT_set11, st_MT10, st_MT11, rnT_c, nlV, nlV.nlL, frzV, frzL, frzO, pExt, encI_len, k2_s, chunk])
    | (refine wl_alloc rfl ?_; simp [*, eqEv, be_02, be_124, bins0, bins01, bins02, bprg6, bprg26, bprg56, bprg0, eqpn, eqnn, MT_set10, MT_set11, st_MT10, st_MT11, rnT_c, nlV, nlV.nlL, frzV, frzL, frzO, pExt, encI_len, k2_s, chunk])
    | (refine wr_box rfl ?_; simp [*, eqEv, be_02, be_124, bins0, bins01, bins02, bprg6, bprg26, bprg56, bprg0, eqpn, eqnn, MT_set10, MT_set11, st_MT10, st_MT11, rnT_c, nlV, nlV.nlL, frzV, frzL, frzO, pExt, encI_len, k2_s, chunk])
    | (refine wr_alloc rfl ?_; simp [*, eqEv, be_02, be_124, bins0, bins01, bins02, bprg6, bprg26, bprg56, bprg0, eqpn, eqnn, MT_set10, MT_set11, st_MT10, st_MT11, rnT_c, nlV, nlV.nlL, frzV, frzL, frzO, pExt, encI_len, k2_s, chunk])
    | (refine wl_store ?_; simp [*, eqEv, be_02, be_124, bins0, bins01, bins02, bprg6, bprg26, bprg56, bprg0, eqpn, eqnn, MT_set10, MT_set11, st_MT10, st_MT11, rnT_c, nlV, nlV.nlL, frzV, frzL, frzO, pExt, encI_len, k2_s, chunk])
    | (refine wr_store ?_; simp [*, eqEv, be_02, be_124, bins0, bins01, bins02, bprg6, bprg26, bprg56, bprg0, eqpn, eqnn, MT_set10, MT_set11, st_MT10, st_MT11, rnT_c, nlV, nlV.nlL, frzV, frzL, frzO, pExt, encI_len, k2_s, chunk])
    | (show Wl _ _ _ _ _ _; simp [*, eqEv, be_02, be_124, bins0, bins01, bins02, bprg6, bprg26, bprg56, bprg0, eqpn, eqnn, MT_set10, MT_set11, st_MT10, st_MT11, rnT_c, nlV, nlV.nlL, frzV, frzL, frzO, pExt, encI_len, k2_s, chunk])
    | (show Wr _ _ _ _ _ _ _; simp [*, eqEv, be_02, be_124, bins0, bins01, bins02, bprg6, bprg26, bprg56, bprg0, eqpn, eqnn, MT_set10, MT_set11, st_MT10, st_MT11, rnT_c, nlV, nlV.nlL, frzV, frzL, frzO, pExt, encI_len, k2_s, chunk])
    | refine kont (by assumption) ?_
    | refine thenA_n ?_
    | refine thenA_r ?_
    | refine thenA_e ?_
    | refine blockA_n ?_
    | refine blockA_r ?_
    | refine blockA_e ?_
    | refine blockA_o rfl ?_
    | refine Awp_ifT rfl ?_
    | refine Awp_ifF rfl ?_
    | (refine Awp_if rfl (fun h => ?_) (fun h => ?_) <;> ((have h' := h; try simp at h') <;> try (have h2 := h; simp only [decide_eq_false_iff_not] at h2)))
    | refine Awp_ret ?_
    | refine Awp_skip ?_
    | refine Awp_exit ?_
    | refine Awp_block ?_)
  have hq60 := picks_le (c := c)
  refine Awp_loop (fun s => ∃ j : Nat, j ≤ (picksF c).length ∧ ∃ σ, R σ ∧ s.m = M σ [] ∧ s.A 5 = .ptr 0 0 0 ∧ s.A 6 = .c (.ls (encI (picksF c))) ∧ s.A 7 = nI j) (fun s => match s.A 7 with | .c (.sc (.int _ n)) => (picksF c).length - n.toNat | _ => 0) (Gq.here ?_) (fun s hs2 => ?_)
  · exact ⟨0, by omega, initS lp, h0, rfl, by simp, by simp, by simp⟩
  obtain ⟨A, m⟩ := s
  obtain ⟨j, hj, σ, hR, hm, a5, a6, a7⟩ := hs2
  dsimp only at hm a5 a6 a7
  subst hm
  by_cases hlt : j < (picksF c).length
  case neg =>
    have hlt' : ¬ ((j : Int) < ((picksF c).length : Int)) := by omega
    clear hlt
    repeat' (first
      | refine Awp_sqG fun K hK => ?_
      | (refine Awp_reg rfl fun K hK => ?_; simp [*, eqEv, be_02, be_124, bins0, bins01, bins02, bprg6, bprg26, bprg56, bprg0, eqpn, eqnn, MT_set10, MT_set11, st_MT10, st_MT11, rnT_c, nlV, nlV.nlL, frzV, frzL, frzO, pExt, encI_len, k2_s, chunk])
      | (refine Awp_regD [] rfl rfl fun K hK => ?_; simp [*, eqEv, be_02, be_124, bins0, bins01, bins02, bprg6, bprg26, bprg56, bprg0, eqpn, eqnn, MT_set10, MT_set11, st_MT10, st_MT11, rnT_c, nlV, nlV.nlL, frzV, frzL, frzO, pExt, encI_len, k2_s, chunk])
      | (refine WG_br (fun h => ?_) (fun h => ?_) <;> (have h' := h; try simp at h'; simp [*, eqEv, be_02, be_124, bins0, bins01, bins02, bprg6, bprg26, bprg56, bprg0, eqpn, eqnn, MT_set10, MT_set11, st_MT10, st_MT11, rnT_c, nlV, nlV.nlL, frzV, frzL, frzO, pExt, encI_len, k2_s, chunk]))
      | (refine RG_br (fun h => ?_) (fun h => ?_) <;> (have h' := h; try simp at h'; simp [*, eqEv, be_02, be_124, bins0, bins01, bins02, bprg6, bprg26, bprg56, bprg0, eqpn, eqnn, MT_set10, MT_set11, st_MT10, st_MT11, rnT_c, nlV, nlV.nlL, frzV, frzL, frzO, pExt, encI_len, k2_s, chunk]))
      | (apply call_p SX.known; rfl; rfl; try simp [*, eqEv, be_02, be_124, bins0, bins01, bins02, bprg6, bprg26, bprg56, bprg0, eqpn, eqnn, MT_set10, MT_set11, st_MT10, st_MT11, rnT_c, nlV, nlV.nlL, frzV, frzL, frzO, pExt, encI_len, k2_s, chunk, encI_len, cv53, shp0c, pExt, Prg.cells, ldQ, g1R, obQ, stQ, s1Q, ix3, ia3, ia28, bi3, bs0, bs01, bs02, bs012, bs013, bs014, bs0134, bs01234, bw1, bw2, bw3, rs4])
      | (apply call_p (SX.l (SL.picks c hc)); rfl; rfl; try simp [*, eqEv, be_02, be_124, bins0, bins01, bins02, bprg6, bprg26, bprg56, bprg0, eqpn, eqnn, MT_set10, MT_set11, st_MT10, st_MT11, rnT_c, nlV, nlV.nlL, frzV, frzL, frzO, pExt, encI_len, k2_s, chunk, encI_len, cv53, shp0c, pExt, Prg.cells, ldQ, g1R, obQ, stQ, s1Q, ix3, ia3, ia28, bi3, bs0, bs01, bs02, bs012, bs013, bs014, bs0134, bs01234, bw1, bw2, bw3, rs4])
      | refine gq_t0 ?_
      | refine Gq.here ?_
      | refine And.intro (by omega) ?_
      | (refine wl_box rfl ?_; simp [*, eqEv, be_02, be_124, bins0, bins01, bins02, bprg6, bprg26, bprg56, bprg0, eqpn, eqnn, MT_set10, MT_set11, st_MT10, st_MT11, rnT_c, nlV, nlV.nlL, frzV, frzL, frzO, pExt, encI_len, k2_s, chunk])
      | (refine wl_alloc rfl ?_; simp [*, eqEv, be_02, be_124, bins0, bins01, bins02, bprg6, bprg26, bprg56, bprg0, eqpn, eqnn, MT_set10, MT_set11, st_MT10, st_MT11, rnT_c, nlV, nlV.nlL, frzV, frzL, frzO, pExt, encI_len, k2_s, chunk])
      | (refine wr_box rfl ?_; simp [*, eqEv, be_02, be_124, bins0, bins01, bins02, bprg6, bprg26, bprg56, bprg0, eqpn, eqnn, MT_set10, MT_set11, st_MT10, st_MT11, rnT_c, nlV, nlV.nlL, frzV, frzL, frzO, pExt, encI_len, k2_s, chunk])
      | (refine wr_alloc rfl ?_; simp [*, eqEv, be_02, be_124, bins0, bins01, bins02, bprg6, bprg26, bprg56, bprg0, eqpn, eqnn, MT_set10, MT_set11, st_MT10, st_MT11, rnT_c, nlV, nlV.nlL, frzV, frzL, frzO, pExt, encI_len, k2_s, chunk])
      | (refine wl_store ?_; simp [*, eqEv, be_02, be_124, bins0, bins01, bins02, bprg6, bprg26, bprg56, bprg0, eqpn, eqnn, MT_set10, MT_set11, st_MT10, st_MT11, rnT_c, nlV, nlV.nlL, frzV, frzL, frzO, pExt, encI_len, k2_s, chunk])
      | (refine wr_store ?_; simp [*, eqEv, be_02, be_124, bins0, bins01, bins02, bprg6, bprg26, bprg56, bprg0, eqpn, eqnn, MT_set10, MT_set11, st_MT10, st_MT11, rnT_c, nlV, nlV.nlL, frzV, frzL, frzO, pExt, encI_len, k2_s, chunk])
      | (show Wl _ _ _ _ _ _; simp [*, eqEv, be_02, be_124, bins0, bins01, bins02, bprg6, bprg26, bprg56, bprg0, eqpn, eqnn, MT_set10, MT_set11, st_MT10, st_MT11, rnT_c, nlV, nlV.nlL, frzV, frzL, frzO, pExt, encI_len, k2_s, chunk])
      | (show Wr _ _ _ _ _ _ _; simp [*, eqEv, be_02, be_124, bins0, bins01, bins02, bprg6, bprg26, bprg56, bprg0, eqpn, eqnn, MT_set10, MT_set11, st_MT10, st_MT11, rnT_c, nlV, nlV.nlL, frzV, frzL, frzO, pExt, encI_len, k2_s, chunk])
      | refine kont (by assumption) ?_
      | refine thenA_n ?_
      | refine thenA_r ?_
      | refine thenA_e ?_
      | refine blockA_n ?_
      | refine blockA_r ?_
      | refine blockA_e ?_
      | refine blockA_o rfl ?_
      | refine Awp_ifT rfl ?_
      | refine Awp_ifF rfl ?_
      | (refine Awp_if rfl (fun h => ?_) (fun h => ?_) <;> ((have h' := h; try simp at h') <;> try (have h2 := h; simp only [decide_eq_false_iff_not] at h2)))
      | refine Awp_ret ?_
      | refine Awp_skip ?_
      | refine Awp_exit ?_
      | refine Awp_block ?_)
    all_goals (subst hQ; refine endA_rL [] rfl rfl rfl rfl rfl ⟨rfl, rfl⟩)
  have hlt' : ((j : Int) < ((picksF c).length : Int)) := by omega
  obtain ⟨x, hx⟩ : ∃ x, (picksF c)[j]? = some x := ⟨(picksF c)[j], by simp [hlt]⟩
  have hx2 : (picksF c)[(j : Int).toNat]? = some x := hx
  have hxin := picks_in hc x (List.mem_of_getElem? hx)
  have hj0 : (0 : Int) ≤ (j : Int) := by omega
  have hdec : (picksF c).length - (j + 1) < (picksF c).length - j := by omega
  have hwj : IntKind.i64.wrap ((j : Int) + 1) = ((j + 1 : Nat) : Int) := wrap_small (by omega) (by omega)
  have hj1 : j + 1 ≤ (picksF c).length := by omega
  have hWσ := hW σ hR
  have hbσ := hb σ hR
  clear hlt hj hq60
  repeat' (first
    | refine Awp_sqG fun K hK => ?_
    | (refine Awp_reg rfl fun K hK => ?_; simp [*, eqEv, be_02, be_124, bins0, bins01, bins02, bprg6, bprg26, bprg56, bprg0, eqpn, eqnn, MT_set10, MT_set11, st_MT10, st_MT11, rnT_c, nlV, nlV.nlL, frzV, frzL, frzO, pExt, encI_len, k2_s, chunk])
    | (refine Awp_regD [] rfl rfl fun K hK => ?_; simp [*, eqEv, be_02, be_124, bins0, bins01, bins02, bprg6, bprg26, bprg56, bprg0, eqpn, eqnn, MT_set10, MT_set11, st_MT10, st_MT11, rnT_c, nlV, nlV.nlL, frzV, frzL, frzO, pExt, encI_len, k2_s, chunk])
    | (refine WG_br (fun h => ?_) (fun h => ?_) <;> (have h' := h; try simp at h'; simp [*, eqEv, be_02, be_124, bins0, bins01, bins02, bprg6, bprg26, bprg56, bprg0, eqpn, eqnn, MT_set10, MT_set11, st_MT10, st_MT11, rnT_c, nlV, nlV.nlL, frzV, frzL, frzO, pExt, encI_len, k2_s, chunk]))
    | (refine RG_br (fun h => ?_) (fun h => ?_) <;> (have h' := h; try simp at h'; simp [*, eqEv, be_02, be_124, bins0, bins01, bins02, bprg6, bprg26, bprg56, bprg0, eqpn, eqnn, MT_set10, MT_set11, st_MT10, st_MT11, rnT_c, nlV, nlV.nlL, frzV, frzL, frzO, pExt, encI_len, k2_s, chunk]))
    | (refine call_t (SX.l (SL.step σ x hWσ hbσ.1 hbσ.2.1)) rfl (stepP_e σ x) (fun r a h => ?_); obtain ⟨ver, h1, h2⟩ := stepP_n h; subst h1 h2; have hR2 := hs σ x ver hR hxin; generalize hσ2 : (nextF σ x ver).1 = σ2 at *; have hW2 := hW σ2 hR2; have hb2 := hb σ2 hR2; have hk2 := hk σ2 hR2; refine ⟨σ2, rfl, fun N => rfl, ?_⟩; try simp [*, eqEv, be_02, be_124, bins0, bins01, bins02, bprg6, bprg26, bprg56, bprg0, eqpn, eqnn, MT_set10, MT_set11, st_MT10, st_MT11, rnT_c, nlV, nlV.nlL, frzV, frzL, frzO, pExt, encI_len, k2_s, chunk, encI_len, cv53, shp0c, pExt, Prg.cells, ldQ, g1R, obQ, stQ, s1Q, ix3, ia3, ia28, bi3, bs0, bs01, bs02, bs012, bs013, bs014, bs0134, bs01234, bw1, bw2, bw3, rs4])
    | (apply call_p SX.known; rfl; rfl; try simp [*, eqEv, be_02, be_124, bins0, bins01, bins02, bprg6, bprg26, bprg56, bprg0, eqpn, eqnn, MT_set10, MT_set11, st_MT10, st_MT11, rnT_c, nlV, nlV.nlL, frzV, frzL, frzO, pExt, encI_len, k2_s, chunk, encI_len, cv53, shp0c, pExt, Prg.cells, ldQ, g1R, obQ, stQ, s1Q, ix3, ia3, ia28, bi3, bs0, bs01, bs02, bs012, bs013, bs014, bs0134, bs01234, bw1, bw2, bw3, rs4])
    | (apply call_p (SX.l (SL.picks c hc)); rfl; rfl; try simp [*, eqEv, be_02, be_124, bins0, bins01, bins02, bprg6, bprg26, bprg56, bprg0, eqpn, eqnn, MT_set10, MT_set11, st_MT10, st_MT11, rnT_c, nlV, nlV.nlL, frzV, frzL, frzO, pExt, encI_len, k2_s, chunk, encI_len, cv53, shp0c, pExt, Prg.cells, ldQ, g1R, obQ, stQ, s1Q, ix3, ia3, ia28, bi3, bs0, bs01, bs02, bs012, bs013, bs014, bs0134, bs01234, bw1, bw2, bw3, rs4])
    | refine gq_t0 ?_
    | refine Gq.here ?_
    | refine And.intro (by omega) ?_
    | (refine wl_box rfl ?_; simp [*, eqEv, be_02, be_124, bins0, bins01, bins02, bprg6, bprg26, bprg56, bprg0, eqpn, eqnn, MT_set10, MT_set11, st_MT10, st_MT11, rnT_c, nlV, nlV.nlL, frzV, frzL, frzO, pExt, encI_len, k2_s, chunk])
    | (refine wl_alloc rfl ?_; simp [*, eqEv, be_02, be_124, bins0, bins01, bins02, bprg6, bprg26, bprg56, bprg0, eqpn, eqnn, MT_set10, MT_set11, st_MT10, st_MT11, rnT_c, nlV, nlV.nlL, frzV, frzL, frzO, pExt, encI_len, k2_s, chunk])
    | (refine wr_box rfl ?_; simp [*, eqEv, be_02, be_124, bins0, bins01, bins02, bprg6, bprg26, bprg56, bprg0, eqpn, eqnn, MT_set10, MT_set11, st_MT10, st_MT11, rnT_c, nlV, nlV.nlL, frzV, frzL, frzO, pExt, encI_len, k2_s, chunk])
    | (refine wr_alloc rfl ?_; simp [*, eqEv, be_02, be_124, bins0, bins01, bins02, bprg6, bprg26, bprg56, bprg0, eqpn, eqnn, MT_set10, MT_set11, st_MT10, st_MT11, rnT_c, nlV, nlV.nlL, frzV, frzL, frzO, pExt, encI_len, k2_s, chunk])
    | (refine wl_store ?_; simp [*, eqEv, be_02, be_124, bins0, bins01, bins02, bprg6, bprg26, bprg56, bprg0, eqpn, eqnn, MT_set10, MT_set11, st_MT10, st_MT11, rnT_c, nlV, nlV.nlL, frzV, frzL, frzO, pExt, encI_len, k2_s, chunk])
    | (refine wr_store ?_; simp [*, eqEv, be_02, be_124, bins0, bins01, bins02, bprg6, bprg26, bprg56, bprg0, eqpn, eqnn, MT_set10, MT_set11, st_MT10, st_MT11, rnT_c, nlV, nlV.nlL, frzV, frzL, frzO, pExt, encI_len, k2_s, chunk])
    | (show Wl _ _ _ _ _ _; simp [*, eqEv, be_02, be_124, bins0, bins01, bins02, bprg6, bprg26, bprg56, bprg0, eqpn, eqnn, MT_set10, MT_set11, st_MT10, st_MT11, rnT_c, nlV, nlV.nlL, frzV, frzL, frzO, pExt, encI_len, k2_s, chunk])
    | (show Wr _ _ _ _ _ _ _; simp [*, eqEv, be_02, be_124, bins0, bins01, bins02, bprg6, bprg26, bprg56, bprg0, eqpn, eqnn, MT_set10, MT_set11, st_MT10, st_MT11, rnT_c, nlV, nlV.nlL, frzV, frzL, frzO, pExt, encI_len, k2_s, chunk])
    | refine kont (by assumption) ?_
    | refine thenA_n ?_
    | refine thenA_r ?_
    | refine thenA_e ?_
    | refine blockA_n ?_
    | refine blockA_r ?_
    | refine blockA_e ?_
    | refine blockA_o rfl ?_
    | refine Awp_ifT rfl ?_
    | refine Awp_ifF rfl ?_
    | (refine Awp_if rfl (fun h => ?_) (fun h => ?_) <;> ((have h' := h; try simp at h') <;> try (have h2 := h; simp only [decide_eq_false_iff_not] at h2)))
    | refine Awp_ret ?_
    | refine Awp_skip ?_
    | refine Awp_exit ?_
    | refine Awp_block ?_)
  have o7 := a7
  refine Awp_loop (fun s => ∃ q : Nat, q ≤ 3 ∧ s.m = M σ2 [] ∧ s.A 5 = .ptr 0 0 0 ∧ s.A 6 = .c (.ls (encI (picksF c))) ∧ s.A 7 = nI j ∧ s.A 8 = nI (aloneF σ2 q) ∧ s.A 9 = nI (readsF σ2 q) ∧ s.A 10 = nI q) (fun s => match s.A 10 with | .c (.sc (.int _ n)) => 3 - n.toNat | _ => 0) (Gq.here ?_) (fun s hs2 => ?_)
  · exact ⟨0, by omega, by simp [*, aloneF, readsF]⟩
  clear a5 a6 a7
  obtain ⟨A, m⟩ := s
  obtain ⟨q, hq, hm, a5, a6, a7, a8, a9, a10⟩ := hs2
  dsimp only at hm a5 a6 a7 a8 a9 a10
  subst hm
  by_cases hlt : q < 3
  case neg =>
    have hq3 : q = 3 := by omega
    subst hq3
    obtain ⟨ha1, ha2, hst⟩ := hk2
    have hn1 : ¬ 1 < aloneF σ2 3 := by omega
    have hn2 : aloneF σ2 3 = 1 → ¬ 0 < readsF σ2 3 := fun h => by have := ha2 h; omega
    have hl3 : σ2.th.length < 1000000 := by rw [hb2.2.2]; decide
    clear hlt hq
    repeat' (first
      | refine Awp_sqG fun K hK => ?_
      | (refine Awp_reg rfl fun K hK => ?_; simp [*, eqEv, be_02, be_124, bins0, bins01, bins02, bprg6, bprg26, bprg56, bprg0, eqpn, eqnn, MT_set10, MT_set11, st_MT10, st_MT11, rnT_c, nlV, nlV.nlL, frzV, frzL, frzO, pExt, encI_len, k2_s, chunk])
      | (refine Awp_regD [] rfl rfl fun K hK => ?_; simp [*, eqEv, be_02, be_124, bins0, bins01, bins02, bprg6, bprg26, bprg56, bprg0, eqpn, eqnn, MT_set10, MT_set11, st_MT10, st_MT11, rnT_c, nlV, nlV.nlL, frzV, frzL, frzO, pExt, encI_len, k2_s, chunk])
      | (refine WG_br (fun h => ?_) (fun h => ?_) <;> (have h' := h; try simp at h'; simp [*, eqEv, be_02, be_124, bins0, bins01, bins02, bprg6, bprg26, bprg56, bprg0, eqpn, eqnn, MT_set10, MT_set11, st_MT10, st_MT11, rnT_c, nlV, nlV.nlL, frzV, frzL, frzO, pExt, encI_len, k2_s, chunk]))
      | (refine RG_br (fun h => ?_) (fun h => ?_) <;> (have h' := h; try simp at h'; simp [*, eqEv, be_02, be_124, bins0, bins01, bins02, bprg6, bprg26, bprg56, bprg0, eqpn, eqnn, MT_set10, MT_set11, st_MT10, st_MT11, rnT_c, nlV, nlV.nlL, frzV, frzL, frzO, pExt, encI_len, k2_s, chunk]))
      | (refine call_s (σ := σ2) (σ' := σ2) (SX.l (SL.status σ2 hW2 hl3)) rfl rfl ?_; try simp [*, eqEv, be_02, be_124, bins0, bins01, bins02, bprg6, bprg26, bprg56, bprg0, eqpn, eqnn, MT_set10, MT_set11, st_MT10, st_MT11, rnT_c, nlV, nlV.nlL, frzV, frzL, frzO, pExt, encI_len, k2_s, chunk, encI_len, cv53, shp0c, pExt, Prg.cells, ldQ, g1R, obQ, stQ, s1Q, ix3, ia3, ia28, bi3, bs0, bs01, bs02, bs012, bs013, bs014, bs0134, bs01234, bw1, bw2, bw3, rs4])
      | (apply call_p SX.known; rfl; rfl; try simp [*, eqEv, be_02, be_124, bins0, bins01, bins02, bprg6, bprg26, bprg56, bprg0, eqpn, eqnn, MT_set10, MT_set11, st_MT10, st_MT11, rnT_c, nlV, nlV.nlL, frzV, frzL, frzO, pExt, encI_len, k2_s, chunk, encI_len, cv53, shp0c, pExt, Prg.cells, ldQ, g1R, obQ, stQ, s1Q, ix3, ia3, ia28, bi3, bs0, bs01, bs02, bs012, bs013, bs014, bs0134, bs01234, bw1, bw2, bw3, rs4])
      | (apply call_p (SX.l (SL.picks c hc)); rfl; rfl; try simp [*, eqEv, be_02, be_124, bins0, bins01, bins02, bprg6, bprg26, bprg56, bprg0, eqpn, eqnn, MT_set10, MT_set11, st_MT10, st_MT11, rnT_c, nlV, nlV.nlL, frzV, frzL, frzO, pExt, encI_len, k2_s, chunk, encI_len, cv53, shp0c, pExt, Prg.cells, ldQ, g1R, obQ, stQ, s1Q, ix3, ia3, ia28, bi3, bs0, bs01, bs02, bs012, bs013, bs014, bs0134, bs01234, bw1, bw2, bw3, rs4])
      | refine gq_t0 ?_
      | refine Gq.here ?_
      | refine And.intro (by omega) ?_
      | (refine wl_box rfl ?_; simp [*, eqEv, be_02, be_124, bins0, bins01, bins02, bprg6, bprg26, bprg56, bprg0, eqpn, eqnn, MT_set10, MT_set11, st_MT10, st_MT11, rnT_c, nlV, nlV.nlL, frzV, frzL, frzO, pExt, encI_len, k2_s, chunk])
      | (refine wl_alloc rfl ?_; simp [*, eqEv, be_02, be_124, bins0, bins01, bins02, bprg6, bprg26, bprg56, bprg0, eqpn, eqnn, MT_set10, MT_set11, st_MT10, st_MT11, rnT_c, nlV, nlV.nlL, frzV, frzL, frzO, pExt, encI_len, k2_s, chunk])
      | (refine wr_box rfl ?_; simp [*, eqEv, be_02, be_124, bins0, bins01, bins02, bprg6, bprg26, bprg56, bprg0, eqpn, eqnn, MT_set10, MT_set11, st_MT10, st_MT11, rnT_c, nlV, nlV.nlL, frzV, frzL, frzO, pExt, encI_len, k2_s, chunk])
      | (refine wr_alloc rfl ?_; simp [*, eqEv, be_02, be_124, bins0, bins01, bins02, bprg6, bprg26, bprg56, bprg0, eqpn, eqnn, MT_set10, MT_set11, st_MT10, st_MT11, rnT_c, nlV, nlV.nlL, frzV, frzL, frzO, pExt, encI_len, k2_s, chunk])
      | (refine wl_store ?_; simp [*, eqEv, be_02, be_124, bins0, bins01, bins02, bprg6, bprg26, bprg56, bprg0, eqpn, eqnn, MT_set10, MT_set11, st_MT10, st_MT11, rnT_c, nlV, nlV.nlL, frzV, frzL, frzO, pExt, encI_len, k2_s, chunk])
      | (refine wr_store ?_; simp [*, eqEv, be_02, be_124, bins0, bins01, bins02, bprg6, bprg26, bprg56, bprg0, eqpn, eqnn, MT_set10, MT_set11, st_MT10, st_MT11, rnT_c, nlV, nlV.nlL, frzV, frzL, frzO, pExt, encI_len, k2_s, chunk])
      | (show Wl _ _ _ _ _ _; simp [*, eqEv, be_02, be_124, bins0, bins01, bins02, bprg6, bprg26, bprg56, bprg0, eqpn, eqnn, MT_set10, MT_set11, st_MT10, st_MT11, rnT_c, nlV, nlV.nlL, frzV, frzL, frzO, pExt, encI_len, k2_s, chunk])
      | (show Wr _ _ _ _ _ _ _; simp [*, eqEv, be_02, be_124, bins0, bins01, bins02, bprg6, bprg26, bprg56, bprg0, eqpn, eqnn, MT_set10, MT_set11, st_MT10, st_MT11, rnT_c, nlV, nlV.nlL, frzV, frzL, frzO, pExt, encI_len, k2_s, chunk])
      | refine kont (by assumption) ?_
      | refine thenA_n ?_
      | refine thenA_r ?_
      | refine thenA_e ?_
      | refine blockA_n ?_
      | refine blockA_r ?_
      | refine blockA_e ?_
      | refine blockA_o rfl ?_
      | refine Awp_ifT rfl ?_
      | refine Awp_ifF rfl ?_
      | (refine Awp_if rfl (fun h => ?_) (fun h => ?_) <;> ((have h' := h; try simp at h') <;> try (have h2 := h; simp only [decide_eq_false_iff_not] at h2)))
      | refine Awp_ret ?_
      | refine Awp_skip ?_
      | refine Awp_exit ?_
      | refine Awp_block ?_)
    all_goals first | (exfalso; omega) | skip
    all_goals (refine ⟨⟨j + 1, hj1, σ2, hR2, rfl, ?_, ?_, ?_⟩, ?_⟩ <;> simp [*])
  have hlt' : ((q : Int) < 3) := by omega
  have hq0 : (0 : Int) ≤ (q : Int) := by omega
  have hpcS : SX 13 [.ptr 0 0 0, nI (q : Int)] (M σ2 []) (pt (nI (thAt σ2 q).at_) (M σ2 []) []) := by
    have h := SX.l (SL.pc σ2 q hW2)
    rw [if_pos ⟨hq0, by rw [hb2.2.2]; exact hlt'⟩] at h
    exact h
  have hwq : IntKind.i64.wrap ((q : Int) + 1) = ((q + 1 : Nat) : Int) := wrap_small (by omega) (by omega)
  have hA := aloneF_in σ2 q
  have hB := readsF_in σ2 q
  have hwa : IntKind.i64.wrap (aloneF σ2 q + 1) = aloneF σ2 q + 1 := wrap_small (by omega) (by omega)
  have hwr : IntKind.i64.wrap (readsF σ2 q + 1) = readsF σ2 q + 1 := wrap_small (by omega) (by omega)
  have hq1 : q + 1 ≤ 3 := by omega
  have hdq : 3 - (q + 1) < 3 - q := by omega
  have hla : aloneF σ2 (q + 1) = if aloneB σ2 q = true then aloneF σ2 q + 1 else aloneF σ2 q := rfl
  have hlr : readsF σ2 (q + 1) = if readB σ2 q = true then readsF σ2 q + 1 else readsF σ2 q := rfl
  unfold aloneB at hla
  unfold readB at hlr
  generalize (thAt σ2 q).at_ = at1 at *
  clear hlt hq hA hB
  repeat' (first
    | refine Awp_sqG fun K hK => ?_
    | (refine Awp_reg rfl fun K hK => ?_; simp [*, eqEv, be_02, be_124, bins0, bins01, bins02, bprg6, bprg26, bprg56, bprg0, eqpn, eqnn, MT_set10, MT_set11, st_MT10, st_MT11, rnT_c, nlV, nlV.nlL, frzV, frzL, frzO, pExt, encI_len, k2_s, chunk])
    | (refine Awp_regD [] rfl rfl fun K hK => ?_; simp [*, eqEv, be_02, be_124, bins0, bins01, bins02, bprg6, bprg26, bprg56, bprg0, eqpn, eqnn, MT_set10, MT_set11, st_MT10, st_MT11, rnT_c, nlV, nlV.nlL, frzV, frzL, frzO, pExt, encI_len, k2_s, chunk])
    | (refine WG_br (fun h => ?_) (fun h => ?_) <;> (have h' := h; try simp at h'; simp [*, eqEv, be_02, be_124, bins0, bins01, bins02, bprg6, bprg26, bprg56, bprg0, eqpn, eqnn, MT_set10, MT_set11, st_MT10, st_MT11, rnT_c, nlV, nlV.nlL, frzV, frzL, frzO, pExt, encI_len, k2_s, chunk]))
    | (refine RG_br (fun h => ?_) (fun h => ?_) <;> (have h' := h; try simp at h'; simp [*, eqEv, be_02, be_124, bins0, bins01, bins02, bprg6, bprg26, bprg56, bprg0, eqpn, eqnn, MT_set10, MT_set11, st_MT10, st_MT11, rnT_c, nlV, nlV.nlL, frzV, frzL, frzO, pExt, encI_len, k2_s, chunk]))
    | (refine call_s (σ := σ2) (σ' := σ2) hpcS rfl rfl ?_; try simp [*, eqEv, be_02, be_124, bins0, bins01, bins02, bprg6, bprg26, bprg56, bprg0, eqpn, eqnn, MT_set10, MT_set11, st_MT10, st_MT11, rnT_c, nlV, nlV.nlL, frzV, frzL, frzO, pExt, encI_len, k2_s, chunk, encI_len, cv53, shp0c, pExt, Prg.cells, ldQ, g1R, obQ, stQ, s1Q, ix3, ia3, ia28, bi3, bs0, bs01, bs02, bs012, bs013, bs014, bs0134, bs01234, bw1, bw2, bw3, rs4])
    | (apply call_p SX.known; rfl; rfl; try simp [*, eqEv, be_02, be_124, bins0, bins01, bins02, bprg6, bprg26, bprg56, bprg0, eqpn, eqnn, MT_set10, MT_set11, st_MT10, st_MT11, rnT_c, nlV, nlV.nlL, frzV, frzL, frzO, pExt, encI_len, k2_s, chunk, encI_len, cv53, shp0c, pExt, Prg.cells, ldQ, g1R, obQ, stQ, s1Q, ix3, ia3, ia28, bi3, bs0, bs01, bs02, bs012, bs013, bs014, bs0134, bs01234, bw1, bw2, bw3, rs4])
    | (apply call_p (SX.l (SL.picks c hc)); rfl; rfl; try simp [*, eqEv, be_02, be_124, bins0, bins01, bins02, bprg6, bprg26, bprg56, bprg0, eqpn, eqnn, MT_set10, MT_set11, st_MT10, st_MT11, rnT_c, nlV, nlV.nlL, frzV, frzL, frzO, pExt, encI_len, k2_s, chunk, encI_len, cv53, shp0c, pExt, Prg.cells, ldQ, g1R, obQ, stQ, s1Q, ix3, ia3, ia28, bi3, bs0, bs01, bs02, bs012, bs013, bs014, bs0134, bs01234, bw1, bw2, bw3, rs4])
    | refine gq_t0 ?_
    | refine Gq.here ?_
    | refine And.intro (by omega) ?_
    | (refine wl_box rfl ?_; simp [*, eqEv, be_02, be_124, bins0, bins01, bins02, bprg6, bprg26, bprg56, bprg0, eqpn, eqnn, MT_set10, MT_set11, st_MT10, st_MT11, rnT_c, nlV, nlV.nlL, frzV, frzL, frzO, pExt, encI_len, k2_s, chunk])
    | (refine wl_alloc rfl ?_; simp [*, eqEv, be_02, be_124, bins0, bins01, bins02, bprg6, bprg26, bprg56, bprg0, eqpn, eqnn, MT_set10, MT_set11, st_MT10, st_MT11, rnT_c, nlV, nlV.nlL, frzV, frzL, frzO, pExt, encI_len, k2_s, chunk])
    | (refine wr_box rfl ?_; simp [*, eqEv, be_02, be_124, bins0, bins01, bins02, bprg6, bprg26, bprg56, bprg0, eqpn, eqnn, MT_set10, MT_set11, st_MT10, st_MT11, rnT_c, nlV, nlV.nlL, frzV, frzL, frzO, pExt, encI_len, k2_s, chunk])
    | (refine wr_alloc rfl ?_; simp [*, eqEv, be_02, be_124, bins0, bins01, bins02, bprg6, bprg26, bprg56, bprg0, eqpn, eqnn, MT_set10, MT_set11, st_MT10, st_MT11, rnT_c, nlV, nlV.nlL, frzV, frzL, frzO, pExt, encI_len, k2_s, chunk])
    | (refine wl_store ?_; simp [*, eqEv, be_02, be_124, bins0, bins01, bins02, bprg6, bprg26, bprg56, bprg0, eqpn, eqnn, MT_set10, MT_set11, st_MT10, st_MT11, rnT_c, nlV, nlV.nlL, frzV, frzL, frzO, pExt, encI_len, k2_s, chunk])
    | (refine wr_store ?_; simp [*, eqEv, be_02, be_124, bins0, bins01, bins02, bprg6, bprg26, bprg56, bprg0, eqpn, eqnn, MT_set10, MT_set11, st_MT10, st_MT11, rnT_c, nlV, nlV.nlL, frzV, frzL, frzO, pExt, encI_len, k2_s, chunk])
    | (show Wl _ _ _ _ _ _; simp [*, eqEv, be_02, be_124, bins0, bins01, bins02, bprg6, bprg26, bprg56, bprg0, eqpn, eqnn, MT_set10, MT_set11, st_MT10, st_MT11, rnT_c, nlV, nlV.nlL, frzV, frzL, frzO, pExt, encI_len, k2_s, chunk])
    | (show Wr _ _ _ _ _ _ _; simp [*, eqEv, be_02, be_124, bins0, bins01, bins02, bprg6, bprg26, bprg56, bprg0, eqpn, eqnn, MT_set10, MT_set11, st_MT10, st_MT11, rnT_c, nlV, nlV.nlL, frzV, frzL, frzO, pExt, encI_len, k2_s, chunk])
    | refine kont (by assumption) ?_
    | refine thenA_n ?_
    | refine thenA_r ?_
    | refine thenA_e ?_
    | refine blockA_n ?_
    | refine blockA_r ?_
    | refine blockA_e ?_
    | refine blockA_o rfl ?_
    | refine Awp_ifT rfl ?_
    | refine Awp_ifF rfl ?_
    | (refine Awp_if rfl (fun h => ?_) (fun h => ?_) <;> ((have h' := h; try simp at h') <;> try (have h2 := h; simp only [decide_eq_false_iff_not] at h2)))
    | refine Awp_ret ?_
    | refine Awp_skip ?_
    | refine Awp_exit ?_
    | refine Awp_block ?_)
  all_goals (first | (exfalso; omega) | (have hq00 : q = 0 := (by omega); subst hq00; simp only [Nat.zero_add] at hla hlr) | skip)
  all_goals first
    | (refine ⟨⟨0 + 1, hq1, rfl, ?_, ?_, ?_, ?_, ?_, ?_⟩, ?_⟩ <;> first | (simp [*, hw1]; done) | (simp [*, hw1]; omega) | skip)
    | (refine ⟨⟨q + 1, hq1, rfl, ?_, ?_, ?_, ?_, ?_, ?_⟩, ?_⟩ <;> first | (simp [*, hw1]; done) | (simp [*, hw1]; omega) | skip)

end Go.Proofs.YtjfgnpnlabklpaaE
