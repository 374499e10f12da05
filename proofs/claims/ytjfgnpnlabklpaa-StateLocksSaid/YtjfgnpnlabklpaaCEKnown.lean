/- The chapter's example. -/
import Derived.Test.YtjfgnpnlabklpaaCEKnow0
namespace Go.Proofs.YtjfgnpnlabklpaaE
open Go Go.RowKit
set_option linter.unusedVariables false
set_option linter.unusedSimpArgs false
set_option maxRecDepth 1000000
set_option maxHeartbeats 1200000
/-- The example: one thread, two steps. -/
def kp : Prg := ⟨0, 0, 0, [], 0, 0, [[⟨1, 0, 7, 0⟩, ⟨9, 0, 0, 0⟩]]⟩
def kp0 : Prg := ⟨0, 0, 0, [], 0, 0, []⟩
theorem kp_ok : OkP kp := ⟨by decide, by decide, by decide, by decide⟩
theorem kp0_ok : OkP kp0 := ⟨by decide, by decide, by decide, by decide⟩
theorem kp_s : soundF kp = 0 := by decide
theorem kp0_s : soundF kp0 = 3 := by decide
def k0 : Sg := ⟨kp, [⟨true, 0, [0, 0, 0, 0]⟩], [], [], [], [], [], [], [], false⟩
def k1 : Sg := ⟨kp, [⟨true, 1, [7, 0, 0, 0]⟩], [], [], [], [], [], [], [], false⟩
def k2 : Sg := ⟨kp, [⟨true, 2, [7, 0, 0, 0]⟩], [], [], [], [], [], [], [7], false⟩
theorem k0_e : initS kp = k0 := rfl
theorem kcode {l : List (List Ins)} (h : l = kp.code) {P : List Ins → Ins → Prop} (h1 : P [⟨1, 0, 7, 0⟩, ⟨9, 0, 0, 0⟩] ⟨1, 0, 7, 0⟩) (h2 : P [⟨1, 0, 7, 0⟩, ⟨9, 0, 0, 0⟩] ⟨9, 0, 0, 0⟩) : ∀ c ∈ l, ∀ i ∈ c, P c i := by
  subst h
  intro c hc i hi
  simp only [kp, List.mem_singleton] at hc
  subst hc
  simp only [List.mem_cons, List.not_mem_nil, or_false] at hi
  rcases hi with rfl | rfl
  · exact h1
  · exact h2
theorem kWF {σ : Sg} (hp : σ.p = kp) {t : Th} (ht : σ.th = [t]) (hc : σ.ch = []) (ha : 0 ≤ t.at_ ∧ t.at_ ≤ 2) (hr : t.regs.length = 4) : WF σ := by
  refine ⟨by rw [ht, hp]; rfl, by rw [hc, hp]; rfl, fun k t' c h1 h2 => ?_, fun k t' h1 => ?_, ?_, ?_, ?_⟩
  · rw [ht] at h1
    rw [hp] at h2
    match k, h1, h2 with
    | 0, h1, h2 => cases h1; cases h2; exact ha
  · rw [ht] at h1
    match k, h1 with
    | 0, h1 => cases h1; exact hr
  · refine kcode (by rw [hp]) ?_ ?_ <;> constructor <;> intro h <;> simp at h
  · refine kcode (by rw [hp]) ?_ ?_ <;> constructor <;> intro h <;> simp at h
  · refine kcode (by rw [hp]) ?_ ?_ <;> constructor <;> intro h <;> simp at h ⊢
theorem k0_w : WF k0 := kWF rfl rfl rfl (by decide) rfl
theorem k1_w : WF k1 := kWF rfl rfl rfl (by decide) rfl
theorem k2_w : WF k2 := kWF rfl rfl rfl (by decide) rfl
theorem k0_c : can k0 0 = true := by decide
theorem k1_c : can k1 0 = true := by decide
theorem k0_g (ver : Nat) : goF k0 0 ver = (k1, ⟨0, 0, 1, 0, 0, 0⟩) := rfl
theorem k1_g (ver : Nat) : goF k1 0 ver = (k2, ⟨0, 1, 9, 0, 7, 0⟩) := rfl
theorem k2_s : statF k2 = 1 := by decide
theorem k0_st {r : V} {a : Mem2} (h : stepP k0 0 r a) : r = .tup [.agg [nI 0, nI 0, nU 1, nI 0, nI 0, nI 0], nB true] ∧ a = M k1 [] := by
  obtain ⟨ver, h⟩ := h
  rw [if_pos k0_c, k0_g] at h
  exact h
theorem k1_st {r : V} {a : Mem2} (h : stepP k1 0 r a) : r = .tup [.agg [nI 0, nI 1, nU 9, nI 0, nI 7, nI 0], nB true] ∧ a = M k2 [] := by
  obtain ⟨ver, h⟩ := h
  rw [if_pos k1_c, k1_g] at h
  exact h
theorem k0_ex : stepP k0 0 (.tup [.agg [nI 0, nI 0, nU 1, nI 0, nI 0, nI 0], nB true]) (M k1 []) := ⟨0, by rw [if_pos k0_c, k0_g]; exact ⟨rfl, rfl⟩⟩
theorem k1_ex : stepP k1 0 (.tup [.agg [nI 0, nI 1, nU 9, nI 0, nI 7, nI 0], nB true]) (M k2 []) := ⟨0, by rw [if_pos k1_c, k1_g]; exact ⟨rfl, rfl⟩⟩
theorem new_k {r : V} {a : Mem2} (h : newP kp r a) : r = .ptr 0 0 0 ∧ a = M k0 [] := by
  unfold newP at h
  rw [if_pos kp_s, k0_e] at h
  exact h
theorem new_ke : newP kp (.ptr 0 0 0) (M k0 []) := by
  unfold newP
  rw [if_pos kp_s, k0_e]
  exact ⟨rfl, rfl⟩
theorem new_0 {r : V} {a : Mem2} (h : newP kp0 r a) : r = .c (.sc (.pointer none)) ∧ a = [] := by
  unfold newP at h
  rw [if_neg (by rw [kp0_s]; decide)] at h
  exact h
theorem new_0e : newP kp0 (.c (.sc (.pointer none))) [] := by
  unfold newP
  rw [if_neg (by rw [kp0_s]; decide)]
  exact ⟨rfl, rfl⟩
theorem known_m (hG : Good SL) : Meets 10 [] ([]) (pt (nB true) [] []) := by
  refine meets hG Try.func10 rfl rfl ?_
  show Awp (env _ _) _ _ ((Try.f10).body.getD .skip) _ _
  unfold Try.f10
  dsimp only [Option.getD_some]
  unfold start
  generalize hQ : endA _ _ _ _ _ = Q
  have hk7 : k2.told[0]? = some 7 := rfl
  have hkr : (if 0 ≤ (0 : Int) ∧ (0 : Int) < (k2.th.length : Int) then (if 0 ≤ (0 : Int) ∧ (0 : Int) < 4 then at0 (thAt k2 0).regs 0 else 0) else 0) = 7 := by decide
  have hkp : (if 0 ≤ (0 : Int) ∧ (0 : Int) < (k2.th.length : Int) then (thAt k2 0).at_ else 0) = 2 := by decide
  have hkl : k2.th.length = 1 := rfl
  have hka : at0 (thAt k2 0).regs 0 = 7 := rfl
  have hkb : (thAt k2 0).at_ = 2 := rfl
  refine Awp_sqG fun K hK => ?_
  refine Awp_reg rfl fun K hK => ?_
  simp [*, eqEv, be_02, be_124, bins0, bins01, bins02, bprg6, bprg26, bprg56, bprg0, eqpn, eqnn, MT_set10, MT_set11, st_MT10, st_MT11, rnT_c, nlV, nlV.nlL, frzV, frzL, frzO, pExt, encI_len, k2_s, chunk, encI_len, cv53, shp0c, pExt, Prg.cells, ldQ, g1R, obQ, stQ, s1Q, ix3, ia3, ia28, bi3, bs0, bs01, bs02, bs012, bs013, bs014, bs0134, bs01234, bw1, bw2, bw3]
  refine kont (by assumption) ?_
  refine thenA_n ?_
  refine kont (by assumption) ?_
  refine Gq.here ?_
  refine Awp_sqG fun K hK => ?_
  refine Awp_regL 2 [3, 1, 1] rfl rfl fun K hK => ?_
  refine wls_cons fun K' hK' => ?_
  simp [*, eqEv, be_02, be_124, bins0, bins01, bins02, bprg6, bprg26, bprg56, bprg0, eqpn, eqnn, MT_set10, MT_set11, st_MT10, st_MT11, rnT_c, nlV, nlV.nlL, frzV, frzL, frzO, pExt, encI_len, k2_s, chunk, encI_len, cv53, shp0c, pExt, Prg.cells, ldQ, g1R, obQ, stQ, s1Q, ix3, ia3, ia28, bi3, bs0, bs01, bs02, bs012, bs013, bs014, bs0134, bs01234, bw1, bw2, bw3]
  refine wl_lit rfl ?_
  simp [*, eqEv, be_02, be_124, bins0, bins01, bins02, bprg6, bprg26, bprg56, bprg0, eqpn, eqnn, MT_set10, MT_set11, st_MT10, st_MT11, rnT_c, nlV, nlV.nlL, frzV, frzL, frzO, pExt, encI_len, k2_s, chunk, encI_len, cv53, shp0c, pExt, Prg.cells, ldQ, g1R, obQ, stQ, s1Q, ix3, ia3, ia28, bi3, bs0, bs01, bs02, bs012, bs013, bs014, bs0134, bs01234, bw1, bw2, bw3]
  refine kont (by assumption) ?_
  refine gz_frz 0 rfl ?_
  refine wls_cons fun K' hK' => ?_
  simp [*, eqEv, be_02, be_124, bins0, bins01, bins02, bprg6, bprg26, bprg56, bprg0, eqpn, eqnn, MT_set10, MT_set11, st_MT10, st_MT11, rnT_c, nlV, nlV.nlL, frzV, frzL, frzO, pExt, encI_len, k2_s, chunk, encI_len, cv53, shp0c, pExt, Prg.cells, ldQ, g1R, obQ, stQ, s1Q, ix3, ia3, ia28, bi3, bs0, bs01, bs02, bs012, bs013, bs014, bs0134, bs01234, bw1, bw2, bw3]
  refine wl_lit rfl ?_
  simp [*, eqEv, be_02, be_124, bins0, bins01, bins02, bprg6, bprg26, bprg56, bprg0, eqpn, eqnn, MT_set10, MT_set11, st_MT10, st_MT11, rnT_c, nlV, nlV.nlL, frzV, frzL, frzO, pExt, encI_len, k2_s, chunk, encI_len, cv53, shp0c, pExt, Prg.cells, ldQ, g1R, obQ, stQ, s1Q, ix3, ia3, ia28, bi3, bs0, bs01, bs02, bs012, bs013, bs014, bs0134, bs01234, bw1, bw2, bw3]
  refine kont (by assumption) ?_
  refine gz_frz 1 rfl ?_
  refine wls_cons fun K' hK' => ?_
  simp [*, eqEv, be_02, be_124, bins0, bins01, bins02, bprg6, bprg26, bprg56, bprg0, eqpn, eqnn, MT_set10, MT_set11, st_MT10, st_MT11, rnT_c, nlV, nlV.nlL, frzV, frzL, frzO, pExt, encI_len, k2_s, chunk, encI_len, cv53, shp0c, pExt, Prg.cells, ldQ, g1R, obQ, stQ, s1Q, ix3, ia3, ia28, bi3, bs0, bs01, bs02, bs012, bs013, bs014, bs0134, bs01234, bw1, bw2, bw3]
  refine kont (by assumption) ?_
  refine gz_nl ?_
  refine wls_nil ?_
  simp [*, eqEv, be_02, be_124, bins0, bins01, bins02, bprg6, bprg26, bprg56, bprg0, eqpn, eqnn, MT_set10, MT_set11, st_MT10, st_MT11, rnT_c, nlV, nlV.nlL, frzV, frzL, frzO, pExt, encI_len, k2_s, chunk, encI_len, cv53, shp0c, pExt, Prg.cells, ldQ, g1R, obQ, stQ, s1Q, ix3, ia3, ia28, bi3, bs0, bs01, bs02, bs012, bs013, bs014, bs0134, bs01234, bw1, bw2, bw3]
  apply call_new k0 (SL.new kp kp_ok)
  rfl
  exact new_ke
  intro r a h
  exact new_k h
  simp [*, eqEv, be_02, be_124, bins0, bins01, bins02, bprg6, bprg26, bprg56, bprg0, eqpn, eqnn, MT_set10, MT_set11, st_MT10, st_MT11, rnT_c, nlV, nlV.nlL, frzV, frzL, frzO, pExt, encI_len, k2_s, chunk, encI_len, cv53, shp0c, pExt, Prg.cells, ldQ, g1R, obQ, stQ, s1Q, ix3, ia3, ia28, bi3, bs0, bs01, bs02, bs012, bs013, bs014, bs0134, bs01234, bw1, bw2, bw3]
  refine kont (by assumption) ?_
  refine thenA_n ?_
  refine kont (by assumption) ?_
  refine gq_st2 ?_
  repeat' (first
    | refine Awp_sqG fun K hK => ?_
    | (refine Awp_regZ 46 [42] rfl rfl fun K hK => ?_; refine wls_cons fun K' hK' => ?_; try simp [*, eqEv, be_02, be_124, bins0, bins01, bins02, bprg6, bprg26, bprg56, bprg0, eqpn, eqnn, MT_set10, MT_set11, st_MT10, st_MT11, rnT_c, nlV, nlV.nlL, frzV, frzL, frzO, pExt, encI_len, k2_s, chunk])
    | (refine Awp_reg rfl fun K hK => ?_; simp [*, eqEv, be_02, be_124, bins0, bins01, bins02, bprg6, bprg26, bprg56, bprg0, eqpn, eqnn, MT_set10, MT_set11, st_MT10, st_MT11, rnT_c, nlV, nlV.nlL, frzV, frzL, frzO, pExt, encI_len, k2_s, chunk])
    | (refine Awp_regD [] rfl rfl fun K hK => ?_; simp [*, eqEv, be_02, be_124, bins0, bins01, bins02, bprg6, bprg26, bprg56, bprg0, eqpn, eqnn, MT_set10, MT_set11, st_MT10, st_MT11, rnT_c, nlV, nlV.nlL, frzV, frzL, frzO, pExt, encI_len, k2_s, chunk])
    | (refine WG_br (fun h => ?_) (fun h => ?_) <;> (have h' := h; try simp at h'; simp [*, eqEv, be_02, be_124, bins0, bins01, bins02, bprg6, bprg26, bprg56, bprg0, eqpn, eqnn, MT_set10, MT_set11, st_MT10, st_MT11, rnT_c, nlV, nlV.nlL, frzV, frzL, frzO, pExt, encI_len, k2_s, chunk]))
    | (refine RG_br (fun h => ?_) (fun h => ?_) <;> (have h' := h; try simp at h'; simp [*, eqEv, be_02, be_124, bins0, bins01, bins02, bprg6, bprg26, bprg56, bprg0, eqpn, eqnn, MT_set10, MT_set11, st_MT10, st_MT11, rnT_c, nlV, nlV.nlL, frzV, frzL, frzO, pExt, encI_len, k2_s, chunk]))
    | (refine wl_lit rfl ?_; try simp [*, eqEv, be_02, be_124, bins0, bins01, bins02, bprg6, bprg26, bprg56, bprg0, eqpn, eqnn, MT_set10, MT_set11, st_MT10, st_MT11, rnT_c, nlV, nlV.nlL, frzV, frzL, frzO, pExt, encI_len, k2_s, chunk])
    | (apply call_new k0 (SL.new kp kp_ok); rfl; exact new_ke; intro r a h; exact new_k h; try simp [*, eqEv, be_02, be_124, bins0, bins01, bins02, bprg6, bprg26, bprg56, bprg0, eqpn, eqnn, MT_set10, MT_set11, st_MT10, st_MT11, rnT_c, nlV, nlV.nlL, frzV, frzL, frzO, pExt, encI_len, k2_s, chunk])
    | (apply call_nil (SL.new kp0 kp0_ok); rfl; exact new_0e; intro r a h; exact new_0 h; try simp [*, eqEv, be_02, be_124, bins0, bins01, bins02, bprg6, bprg26, bprg56, bprg0, eqpn, eqnn, MT_set10, MT_set11, st_MT10, st_MT11, rnT_c, nlV, nlV.nlL, frzV, frzL, frzO, pExt, encI_len, k2_s, chunk])
    | (apply call_box (SL.copy k0 rfl (by decide) (by decide) (by decide) (by decide) (by decide) (by decide) (by decide) (by decide) (by decide)); rfl; rfl; try simp [*, eqEv, be_02, be_124, bins0, bins01, bins02, bprg6, bprg26, bprg56, bprg0, eqpn, eqnn, MT_set10, MT_set11, st_MT10, st_MT11, rnT_c, nlV, nlV.nlL, frzV, frzL, frzO, pExt, encI_len, k2_s, chunk])
    | (refine call_t (SL.step k0 0 k0_w (by decide) (by decide)) rfl ⟨_, _, k0_ex⟩ (fun r a h => ?_); obtain ⟨h1, h2⟩ := k0_st h; subst h1 h2; refine ⟨k1, rfl, fun N => rfl, ?_⟩; try simp [*, eqEv, be_02, be_124, bins0, bins01, bins02, bprg6, bprg26, bprg56, bprg0, eqpn, eqnn, MT_set10, MT_set11, st_MT10, st_MT11, rnT_c, nlV, nlV.nlL, frzV, frzL, frzO, pExt, encI_len, k2_s, chunk])
    | (refine call_t (SL.step k1 0 k1_w (by decide) (by decide)) rfl ⟨_, _, k1_ex⟩ (fun r a h => ?_); obtain ⟨h1, h2⟩ := k1_st h; subst h1 h2; refine ⟨k2, rfl, fun N => rfl, ?_⟩; try simp [*, eqEv, be_02, be_124, bins0, bins01, bins02, bprg6, bprg26, bprg56, bprg0, eqpn, eqnn, MT_set10, MT_set11, st_MT10, st_MT11, rnT_c, nlV, nlV.nlL, frzV, frzL, frzO, pExt, encI_len, k2_s, chunk])
    | (refine call_s (σ := k2) (σ' := k2) (SL.prints k2 (by decide)) rfl rfl ?_; try simp [*, eqEv, be_02, be_124, bins0, bins01, bins02, bprg6, bprg26, bprg56, bprg0, eqpn, eqnn, MT_set10, MT_set11, st_MT10, st_MT11, rnT_c, nlV, nlV.nlL, frzV, frzL, frzO, pExt, encI_len, k2_s, chunk])
    | (refine call_s (σ := k2) (σ' := k2) (SL.status k2 k2_w (by decide)) rfl rfl ?_; try simp [*, eqEv, be_02, be_124, bins0, bins01, bins02, bprg6, bprg26, bprg56, bprg0, eqpn, eqnn, MT_set10, MT_set11, st_MT10, st_MT11, rnT_c, nlV, nlV.nlL, frzV, frzL, frzO, pExt, encI_len, k2_s, chunk])
    | (refine call_s (σ := k2) (σ' := k2) (SL.reg k2 0 k2_w 0) rfl rfl ?_; try simp [*, eqEv, be_02, be_124, bins0, bins01, bins02, bprg6, bprg26, bprg56, bprg0, eqpn, eqnn, MT_set10, MT_set11, st_MT10, st_MT11, rnT_c, nlV, nlV.nlL, frzV, frzL, frzO, pExt, encI_len, k2_s, chunk])
    | (refine call_s (σ := k2) (σ' := k2) (SL.pc k2 0 k2_w) rfl rfl ?_; try simp [*, eqEv, be_02, be_124, bins0, bins01, bins02, bprg6, bprg26, bprg56, bprg0, eqpn, eqnn, MT_set10, MT_set11, st_MT10, st_MT11, rnT_c, nlV, nlV.nlL, frzV, frzL, frzO, pExt, encI_len, k2_s, chunk])
    | refine gq_k2 rfl rfl ?_
    | refine gq_k3 rfl rfl rfl ?_
    | refine Gq.here ?_
    | refine And.intro (by omega) ?_
    | (refine wl_box rfl ?_; simp [*, eqEv, be_02, be_124, bins0, bins01, bins02, bprg6, bprg26, bprg56, bprg0, eqpn, eqnn, MT_set10, MT_set11, st_MT10, st_MT11, rnT_c, nlV, nlV.nlL, frzV, frzL, frzO, pExt, encI_len, k2_s, chunk])
    | (refine wl_alloc rfl ?_; simp [*, eqEv, be_02, be_124, bins0, bins01, bins02, bprg6, bprg26, bprg56, bprg0, eqpn, eqnn, MT_set10, MT_set11, st_MT10, st_MT11, rnT_c, nlV, nlV.nlL, frzV, frzL, frzO, pExt, encI_len, k2_s, chunk])
    | (refine wr_box rfl ?_; simp [*, eqEv, be_02, be_124, bins0, bins01, bins02, bprg6, bprg26, bprg56, bprg0, eqpn, eqnn, MT_set10, MT_set11, st_MT10, st_MT11, rnT_c, nlV, nlV.nlL, frzV, frzL, frzO, pExt, encI_len, k2_s, chunk])
    | (refine wr_alloc rfl ?_; simp [*, eqEv, be_02, be_124, bins0, bins01, bins02, bprg6, bprg26, bprg56, bprg0, eqpn, eqnn, MT_set10, MT_set11, st_MT10, st_MT11, rnT_c, nlV, nlV.nlL, frzV, frzL, frzO, pExt, encI_len, k2_s, chunk])
    | (refine wl_store ?_; simp [*, eqEv, be_02, be_124, bins0, bins01, bins02, bprg6, bprg26, bprg56, bprg0, eqpn, eqnn, MT_set10, MT_set11, st_MT10, st_MT11, rnT_c, nlV, nlV.nlL, frzV, frzL, frzO, pExt, encI_len, k2_s, chunk])
    | (refine wr_store ?_; simp [*, eqEv, be_02, be_124, bins0, bins01, bins02, bprg6, bprg26, bprg56, bprg0, eqpn, eqnn, MT_set10, MT_set11, st_MT10, st_MT11, rnT_c, nlV, nlV.nlL, frzV, frzL, frzO, pExt, encI_len, k2_s, chunk])
    | (show Wl _ _ _ _ _ _; simp [*, eqEv, be_02, be_124, bins0, bins01, bins02, bprg6, bprg26, bprg56, bprg0, eqpn, eqnn, MT_set10, MT_set11, st_MT10, st_MT11, rnT_c, nlV, nlV.nlL, frzV, frzL, frzO, pExt, encI_len, k2_s, chunk])
    | (show Wr _ _ _ _ _ _ _; simp [*, eqEv, be_02, be_124, bins0, bins01, bins02, bprg6, bprg26, bprg56, bprg0, eqpn, eqnn, MT_set10, MT_set11, st_MT10, st_MT11, rnT_c, nlV, nlV.nlL, frzV, frzL, frzO, pExt, encI_len, k2_s, chunk])
    | refine kont (by assumption) ?_
    | refine thenA_n ?_
    | refine thenA_r ?_
    | refine thenA_e ?_
    | refine blockA_n ?_
    | refine blockA_r ?_
    | refine blockA_e ?_
    | refine blockA_o rfl ?_
    | refine Awp_ifT rfl ?_
    | refine Awp_ifF rfl ?_
    | (refine Awp_if rfl (fun h => ?_) (fun h => ?_) <;> ((have h' := h; try simp at h') <;> try (have h2 := h; simp only [decide_eq_false_iff_not] at h2)))
    | refine Awp_ret ?_
    | refine Awp_skip ?_
    | refine Awp_exit ?_
    | refine Awp_block ?_)
  all_goals first | exact absurd (show ((k2.told.length : Nat) : Int) = 1 from rfl) h' | skip
  refine gz_nl ?_
  refine wls_nil ?_
  simp [*, eqEv, be_02, be_124, bins0, bins01, bins02, bprg6, bprg26, bprg56, bprg0, eqpn, eqnn, MT_set10, MT_set11, st_MT10, st_MT11, rnT_c, nlV, nlV.nlL, frzV, frzL, frzO, pExt, encI_len, k2_s, chunk]
  repeat' (first
    | refine Awp_sqG fun K hK => ?_
    | (refine Awp_reg rfl fun K hK => ?_; simp [*, eqEv, be_02, be_124, bins0, bins01, bins02, bprg6, bprg26, bprg56, bprg0, eqpn, eqnn, MT_set10, MT_set11, st_MT10, st_MT11, rnT_c, nlV, nlV.nlL, frzV, frzL, frzO, pExt, encI_len, k2_s, chunk])
    | (refine Awp_regD [] rfl rfl fun K hK => ?_; simp [*, eqEv, be_02, be_124, bins0, bins01, bins02, bprg6, bprg26, bprg56, bprg0, eqpn, eqnn, MT_set10, MT_set11, st_MT10, st_MT11, rnT_c, nlV, nlV.nlL, frzV, frzL, frzO, pExt, encI_len, k2_s, chunk])
    | (refine WG_br (fun h => ?_) (fun h => ?_) <;> (have h' := h; try simp at h'; simp [*, eqEv, be_02, be_124, bins0, bins01, bins02, bprg6, bprg26, bprg56, bprg0, eqpn, eqnn, MT_set10, MT_set11, st_MT10, st_MT11, rnT_c, nlV, nlV.nlL, frzV, frzL, frzO, pExt, encI_len, k2_s, chunk]))
    | (refine RG_br (fun h => ?_) (fun h => ?_) <;> (have h' := h; try simp at h'; simp [*, eqEv, be_02, be_124, bins0, bins01, bins02, bprg6, bprg26, bprg56, bprg0, eqpn, eqnn, MT_set10, MT_set11, st_MT10, st_MT11, rnT_c, nlV, nlV.nlL, frzV, frzL, frzO, pExt, encI_len, k2_s, chunk]))
    | (refine wl_lit rfl ?_; try simp [*, eqEv, be_02, be_124, bins0, bins01, bins02, bprg6, bprg26, bprg56, bprg0, eqpn, eqnn, MT_set10, MT_set11, st_MT10, st_MT11, rnT_c, nlV, nlV.nlL, frzV, frzL, frzO, pExt, encI_len, k2_s, chunk])
    | (apply call_new k0 (SL.new kp kp_ok); rfl; exact new_ke; intro r a h; exact new_k h; try simp [*, eqEv, be_02, be_124, bins0, bins01, bins02, bprg6, bprg26, bprg56, bprg0, eqpn, eqnn, MT_set10, MT_set11, st_MT10, st_MT11, rnT_c, nlV, nlV.nlL, frzV, frzL, frzO, pExt, encI_len, k2_s, chunk])
    | (apply call_nil (SL.new kp0 kp0_ok); rfl; exact new_0e; intro r a h; exact new_0 h; try simp [*, eqEv, be_02, be_124, bins0, bins01, bins02, bprg6, bprg26, bprg56, bprg0, eqpn, eqnn, MT_set10, MT_set11, st_MT10, st_MT11, rnT_c, nlV, nlV.nlL, frzV, frzL, frzO, pExt, encI_len, k2_s, chunk])
    | (apply call_box (SL.copy k0 rfl (by decide) (by decide) (by decide) (by decide) (by decide) (by decide) (by decide) (by decide) (by decide)); rfl; rfl; try simp [*, eqEv, be_02, be_124, bins0, bins01, bins02, bprg6, bprg26, bprg56, bprg0, eqpn, eqnn, MT_set10, MT_set11, st_MT10, st_MT11, rnT_c, nlV, nlV.nlL, frzV, frzL, frzO, pExt, encI_len, k2_s, chunk])
    | (refine call_t (SL.step k0 0 k0_w (by decide) (by decide)) rfl ⟨_, _, k0_ex⟩ (fun r a h => ?_); obtain ⟨h1, h2⟩ := k0_st h; subst h1 h2; refine ⟨k1, rfl, fun N => rfl, ?_⟩; try simp [*, eqEv, be_02, be_124, bins0, bins01, bins02, bprg6, bprg26, bprg56, bprg0, eqpn, eqnn, MT_set10, MT_set11, st_MT10, st_MT11, rnT_c, nlV, nlV.nlL, frzV, frzL, frzO, pExt, encI_len, k2_s, chunk])
    | (refine call_t (SL.step k1 0 k1_w (by decide) (by decide)) rfl ⟨_, _, k1_ex⟩ (fun r a h => ?_); obtain ⟨h1, h2⟩ := k1_st h; subst h1 h2; refine ⟨k2, rfl, fun N => rfl, ?_⟩; try simp [*, eqEv, be_02, be_124, bins0, bins01, bins02, bprg6, bprg26, bprg56, bprg0, eqpn, eqnn, MT_set10, MT_set11, st_MT10, st_MT11, rnT_c, nlV, nlV.nlL, frzV, frzL, frzO, pExt, encI_len, k2_s, chunk])
    | (refine call_s (σ := k2) (σ' := k2) (SL.prints k2 (by decide)) rfl rfl ?_; try simp [*, eqEv, be_02, be_124, bins0, bins01, bins02, bprg6, bprg26, bprg56, bprg0, eqpn, eqnn, MT_set10, MT_set11, st_MT10, st_MT11, rnT_c, nlV, nlV.nlL, frzV, frzL, frzO, pExt, encI_len, k2_s, chunk])
    | (refine call_s (σ := k2) (σ' := k2) (SL.status k2 k2_w (by decide)) rfl rfl ?_; try simp [*, eqEv, be_02, be_124, bins0, bins01, bins02, bprg6, bprg26, bprg56, bprg0, eqpn, eqnn, MT_set10, MT_set11, st_MT10, st_MT11, rnT_c, nlV, nlV.nlL, frzV, frzL, frzO, pExt, encI_len, k2_s, chunk])
    | (refine call_s (σ := k2) (σ' := k2) (SL.reg k2 0 k2_w 0) rfl rfl ?_; try simp [*, eqEv, be_02, be_124, bins0, bins01, bins02, bprg6, bprg26, bprg56, bprg0, eqpn, eqnn, MT_set10, MT_set11, st_MT10, st_MT11, rnT_c, nlV, nlV.nlL, frzV, frzL, frzO, pExt, encI_len, k2_s, chunk])
    | (refine call_s (σ := k2) (σ' := k2) (SL.pc k2 0 k2_w) rfl rfl ?_; try simp [*, eqEv, be_02, be_124, bins0, bins01, bins02, bprg6, bprg26, bprg56, bprg0, eqpn, eqnn, MT_set10, MT_set11, st_MT10, st_MT11, rnT_c, nlV, nlV.nlL, frzV, frzL, frzO, pExt, encI_len, k2_s, chunk])
    | refine Gq.here ?_
    | refine And.intro (by omega) ?_
    | (refine wl_box rfl ?_; simp [*, eqEv, be_02, be_124, bins0, bins01, bins02, bprg6, bprg26, bprg56, bprg0, eqpn, eqnn, MT_set10, MT_set11, st_MT10, st_MT11, rnT_c, nlV, nlV.nlL, frzV, frzL, frzO, pExt, encI_len, k2_s, chunk])
    | (refine wl_alloc rfl ?_; simp [*, eqEv, be_02, be_124, bins0, bins01, bins02, bprg6, bprg26, bprg56, bprg0, eqpn, eqnn, MT_set10, MT_set11, st_MT10, st_MT11, rnT_c, nlV, nlV.nlL, frzV, frzL, frzO, pExt, encI_len, k2_s, chunk])
    | (refine wr_box rfl ?_; simp [*, eqEv, be_02, be_124, bins0, bins01, bins02, bprg6, bprg26, bprg56, bprg0, eqpn, eqnn, MT_set10, MT_set11, st_MT10, st_MT11, rnT_c, nlV, nlV.nlL, frzV, frzL, frzO, pExt, encI_len, k2_s, chunk])
    | (refine wr_alloc rfl ?_; simp [*, eqEv, be_02, be_124, bins0, bins01, bins02, bprg6, bprg26, bprg56, bprg0, eqpn, eqnn, MT_set10, MT_set11, st_MT10, st_MT11, rnT_c, nlV, nlV.nlL, frzV, frzL, frzO, pExt, encI_len, k2_s, chunk])
    | (refine wl_store ?_; simp [*, eqEv, be_02, be_124, bins0, bins01, bins02, bprg6, bprg26, bprg56, bprg0, eqpn, eqnn, MT_set10, MT_set11, st_MT10, st_MT11, rnT_c, nlV, nlV.nlL, frzV, frzL, frzO, pExt, encI_len, k2_s, chunk])
    | (refine wr_store ?_; simp [*, eqEv, be_02, be_124, bins0, bins01, bins02, bprg6, bprg26, bprg56, bprg0, eqpn, eqnn, MT_set10, MT_set11, st_MT10, st_MT11, rnT_c, nlV, nlV.nlL, frzV, frzL, frzO, pExt, encI_len, k2_s, chunk])
    | (show Wl _ _ _ _ _ _; simp [*, eqEv, be_02, be_124, bins0, bins01, bins02, bprg6, bprg26, bprg56, bprg0, eqpn, eqnn, MT_set10, MT_set11, st_MT10, st_MT11, rnT_c, nlV, nlV.nlL, frzV, frzL, frzO, pExt, encI_len, k2_s, chunk])
    | (show Wr _ _ _ _ _ _ _; simp [*, eqEv, be_02, be_124, bins0, bins01, bins02, bprg6, bprg26, bprg56, bprg0, eqpn, eqnn, MT_set10, MT_set11, st_MT10, st_MT11, rnT_c, nlV, nlV.nlL, frzV, frzL, frzO, pExt, encI_len, k2_s, chunk])
    | refine kont (by assumption) ?_
    | refine thenA_n ?_
    | refine thenA_r ?_
    | refine thenA_e ?_
    | refine blockA_n ?_
    | refine blockA_r ?_
    | refine blockA_e ?_
    | refine blockA_o rfl ?_
    | refine Awp_ifT rfl ?_
    | refine Awp_ifF rfl ?_
    | (refine Awp_if rfl (fun h => ?_) (fun h => ?_) <;> ((have h' := h; try simp at h') <;> try (have h2 := h; simp only [decide_eq_false_iff_not] at h2)))
    | refine Awp_ret ?_
    | refine Awp_skip ?_
    | refine Awp_exit ?_
    | refine Awp_block ?_)
  all_goals (subst hQ; refine endA_rL [] rfl rfl rfl rfl rfl ⟨rfl, rfl⟩)

end Go.Proofs.YtjfgnpnlabklpaaE
