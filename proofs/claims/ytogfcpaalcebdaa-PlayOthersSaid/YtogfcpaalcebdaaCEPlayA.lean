/- Runs: PlayOthers. -/
import Derived.Test.YtogfcpaalcebdaaCEPlay7
import Derived.Test.YtogfcpaalcebdaaCEPlayM
namespace Go.Proofs.YtogfcpaalcebdaaE
open Go Go.RowKit
set_option linter.unusedVariables false
set_option linter.unusedSimpArgs false
set_option maxRecDepth 1000000
set_option maxHeartbeats 8000000
attribute [local simp] eqEv be_02 be_124 bins0 bins01 bins02 bprg6 bprg26 bprg56 bprg0 eqpn eqnn MT_set10 MT_set11 st_MT10 st_MT11 rnT_c nlV nlV.nlL frzV frzL frzO pExt encI_len k2_s chunk encI_len cv53 shp0c pExt Prg.cells ldQ g1R obQ stQ s1Q ix3 ia3 ia28 bi3 bs0 bs01 bs02 bs012 bs013 bs014 bs0134 bs01234 bw1 bw2 bw3 rn_ptr rn_sl rn_any posOf encE_len ia_evts ld_evt
theorem others_m (hG : Good SV) (l : List (List Int)) (hl8 : ∀ r ∈ l, ∀ x ∈ r, 0 ≤ x ∧ x < 256) (hll : l.length ≤ 9223372036854775807) (hlr : ∀ r ∈ l, r.length ≤ 9223372036854775807) (c : List Int) (hc : ∀ x ∈ c, 0 ≤ x ∧ x < 256) (far : Int) : Meets 4 [.c (.ls (encR l)), .c (.ls (encU c)), nI far] ([]) (pt (nB true) [] []) := by
  refine meets hG Try.func4 rfl rfl ?_
  show Awp (env _ _) _ _ ((Try.f4).body.getD .skip) _ _
  unfold Try.f4
  dsimp only [Option.getD_some]
  unfold start
  generalize hQ : endA _ _ _ _ _ = Q
  have hok := makeM_ok hl8
  have hs := makeM_s hl8
  have hmk := SV.w (SW.make l hl8 hll hlr)
  have hpk := SV.w (SW.picks c hc)
  have hn3 : (makeM l).code.length ≤ 3 := by have := nM_in l; simp [makeM]; omega
  generalize makeM l = p at *
  have hq60 := picks_le (c := c)
  generalize picksF c = q at *
  have hrn := SV.w (SW.run p hok hs _ .full q (by omega))
  have hcs : ∃ k : Int, (k < 0 ∨ 3 ≤ k) ∧ ((k = far ∧ ¬ (0 ≤ far)) ∨ (k = far ∧ 0 ≤ far ∧ ¬ (far < 3)) ∨ (0 ≤ far ∧ far < 3 ∧ IntKind.i64.wrap (3 + far) = k)) := by
    by_cases h1 : 0 ≤ far
    · by_cases h2 : far < 3
      · exact ⟨3 + far, .inr (by omega), .inr (.inr ⟨h1, h2, wrap_small (by omega) (by omega)⟩)⟩
      · exact ⟨far, .inr (by omega), .inr (.inl ⟨rfl, h1, h2⟩)⟩
    · exact ⟨far, .inl (by omega), .inl ⟨rfl, h1⟩⟩
  obtain ⟨k, hk, hcs⟩ := hcs
  have hrn2 := SV.w (SW.run p hok hs _ .full (amid k q) (by rw [amid_len]; omega))
  rw [others hs (by omega) q] at hrn2
  have hO := runN_ok hs q
  generalize runN p q = R at *
  have h1 : R.s.told.length < 1000000 := by have := hO.bd.told; omega
  have h2 : R.picks.length < 1000000 := by have := hO.np; omega
  have h3 : R.trace.length < 1000000 := by have := hO.nt; omega
  have hkn := SV.known
  clear hO hs hok hl8 hll hlr hc hn3 hk
  rcases hcs with ⟨f0, f1⟩ | ⟨f0, f1, f2⟩ | ⟨f1, f2, f0⟩
  all_goals first | (have e : k = far := f0; clear f0; subst e) | skip
  all_goals
    repeat' (first
      | refine Awp_sqG fun K hK => ?_
      | (refine Awp_reg rfl fun K hK => ?_; simp [*, Res.cells, endR, eqEvt, bneI])
      | (refine Awp_regD [] rfl rfl fun K hK => ?_; simp [*, Res.cells, endR, eqEvt, bneI])
      | (refine WG_br (fun h => ?_) (fun h => ?_) <;> (have h' := h; try simp at h'; simp [*, Res.cells, endR, eqEvt, bneI]))
      | (refine RG_br (fun h => ?_) (fun h => ?_) <;> (have h' := h; try simp at h'; simp [*, Res.cells, endR, eqEvt, bneI]))
      | (refine wl_litF rfl ?_; try simp [*, Res.cells, endR, eqEvt, bneI])
      | (refine call_0 hmk rfl rfl ?_; try simp [*, Evt.cells, Res.cells, endR])
      | (refine call_0 hpk rfl rfl ?_; try simp [*, Evt.cells, Res.cells, endR])
      | refine Gq.here ?_
      | refine And.intro (by omega) ?_
      | (refine wl_box rfl ?_; simp [*, Res.cells, endR, eqEvt, bneI])
      | (refine wl_alloc rfl ?_; simp [*, Res.cells, endR, eqEvt, bneI])
      | (refine wr_box rfl ?_; simp [*, Res.cells, endR, eqEvt, bneI])
      | (refine wr_alloc rfl ?_; simp [*, Res.cells, endR, eqEvt, bneI])
      | (refine wl_store ?_; simp [*, Res.cells, endR, eqEvt, bneI])
      | (refine wr_store ?_; simp [*, Res.cells, endR, eqEvt, bneI])
      | (show Wl _ _ _ _ _ _; simp [*, Res.cells, endR, eqEvt, bneI])
      | (show Wr _ _ _ _ _ _ _; simp [*, Res.cells, endR, eqEvt, bneI])
      | (refine kont hK ?_; clear hK K)
      | refine kont (by assumption) ?_
      | with_reducible refine thenA_n ?_
      | with_reducible refine thenA_r ?_
      | with_reducible refine thenA_e ?_
      | with_reducible refine blockA_n ?_
      | with_reducible refine blockA_r ?_
      | with_reducible refine blockA_e ?_
      | with_reducible refine blockA_o rfl ?_
      | refine Awp_ifT rfl ?_
      | refine Awp_ifF rfl ?_
      | (refine Awp_if rfl (fun h => ?_) (fun h => ?_) <;> ((have h' := h; try simp at h') <;> try (have h2 := h; simp only [decide_eq_false_iff_not] at h2)))
      | with_reducible refine noGo_n ?_
      | with_reducible refine noGo_r ?_
      | with_reducible refine noGo_e ?_
      | with_reducible refine Awp_scope ?_
      | with_reducible refine Awp_label ?_
      | with_reducible refine Awp_ret ?_
      | with_reducible refine Awp_skip ?_
      | with_reducible refine Awp_exit ?_
      | with_reducible refine Awp_block ?_)
  
    refine Awp_loop (fun s => ∃ j : Nat, j ≤ q.length ∧ s.m = [some (.box [nI p.vars, nI p.atoms, nI p.locks, .c (.ls (encI p.chans)), nI p.groups, nI p.onces, .c (.ls (p.code.map encC))]), some (.arr 1 (encI (amid k (q.take j))))] ∧ s.A 7 = .ptr 0 0 0 ∧ s.A 8 = .c (.ls (encI q)) ∧ s.A 9 = nI k ∧ s.A 10 = .sl 1 1 0 (amid k (q.take j)).length false ∧ s.A 11 = nI j) (fun s => match s.A 11 with | .c (.sc (.int _ n)) => q.length - n.toNat | _ => 0) (gq_then (Gst.emp (t := 10) (sz := 1) (by simp)) (Gq.here ?_)) (fun s hs2 => ?_)
    · refine ⟨0, Nat.zero_le _, ?_, ?_, ?_, ?_, ?_, ?_⟩ <;> first | rfl | (simp [*]; done)
    obtain ⟨A, m⟩ := s
    obtain ⟨j, hj, hm, a7, a8, a9, a10, a11⟩ := hs2
    dsimp only at hm a7 a8 a9 a10 a11
    subst hm
    by_cases hlt : j < q.length
    case neg =>
      have hjl : j = q.length := by omega
      subst hjl
      rw [List.take_length] at a10 ⊢
      have htk1 : List.take (amid k q).length (encI (amid k q)) = encI (amid k q) := by unfold encI; exact tk_map
      clear hlt hj hq60
      repeat' (first
        | refine Awp_sq fun K hK => ?_
        | (refine Awp_reg rfl fun K hK => ?_; simp [*, Res.cells, endR, eqEvt, bneI])
        | (refine Awp_regD [] rfl rfl fun K hK => ?_; simp [*, Res.cells, endR, eqEvt, bneI])
        | (refine WG_br (fun h => ?_) (fun h => ?_) <;> (have h' := h; try simp at h'; simp [*, Res.cells, endR, eqEvt, bneI]))
        | (refine RG_br (fun h => ?_) (fun h => ?_) <;> (have h' := h; try simp at h'; simp [*, Res.cells, endR, eqEvt, bneI]))
        | (refine wl_litF rfl ?_; try simp [*, Res.cells, endR, eqEvt, bneI])
        | refine And.intro (by omega) ?_
        | (refine wl_box rfl ?_; simp [*, Res.cells, endR, eqEvt, bneI])
        | (refine wl_alloc rfl ?_; simp [*, Res.cells, endR, eqEvt, bneI])
        | (refine wr_box rfl ?_; simp [*, Res.cells, endR, eqEvt, bneI])
        | (refine wr_alloc rfl ?_; simp [*, Res.cells, endR, eqEvt, bneI])
        | (refine wl_store ?_; simp [*, Res.cells, endR, eqEvt, bneI])
        | (refine wr_store ?_; simp [*, Res.cells, endR, eqEvt, bneI])
        | (show Wl _ _ _ _ _ _; simp [*, Res.cells, endR, eqEvt, bneI])
        | (show Wr _ _ _ _ _ _ _; simp [*, Res.cells, endR, eqEvt, bneI])
        | (refine kont hK ?_; clear hK K)
        | refine kont (by assumption) ?_
        | with_reducible refine thenA_n ?_
        | with_reducible refine thenA_r ?_
        | with_reducible refine thenA_e ?_
        | with_reducible refine blockA_n ?_
        | with_reducible refine blockA_r ?_
        | with_reducible refine blockA_e ?_
        | with_reducible refine blockA_o rfl ?_
        | refine Awp_ifT rfl ?_
        | refine Awp_ifF rfl ?_
        | (refine Awp_if rfl (fun h => ?_) (fun h => ?_) <;> ((have h' := h; try simp at h') <;> try (have h2 := h; simp only [decide_eq_false_iff_not] at h2)))
        | with_reducible refine noGo_n ?_
        | with_reducible refine noGo_r ?_
        | with_reducible refine noGo_e ?_
        | with_reducible refine Awp_scope ?_
        | with_reducible refine Awp_label ?_
        | with_reducible refine Awp_ret ?_
        | with_reducible refine Awp_skip ?_
        | with_reducible refine Awp_exit ?_
        | with_reducible refine Awp_block ?_)
      all_goals (refine gq_frz 1 rfl ?_)
      all_goals (try simp [*, Res.cells, endR, eqEvt, bneI])
      repeat' (first
        | refine Awp_sqG fun K hK => ?_
        | (refine Awp_reg rfl fun K hK => ?_; simp [*, Res.cells, endR, eqEvt, bneI])
        | (refine Awp_regD [] rfl rfl fun K hK => ?_; simp [*, Res.cells, endR, eqEvt, bneI])
        | (refine WG_br (fun h => ?_) (fun h => ?_) <;> (have h' := h; try simp at h'; simp [*, Res.cells, endR, eqEvt, bneI]))
        | (refine RG_br (fun h => ?_) (fun h => ?_) <;> (have h' := h; try simp at h'; simp [*, Res.cells, endR, eqEvt, bneI]))
        | (refine wl_litF rfl ?_; try simp [*, Res.cells, endR, eqEvt, bneI])
        | (refine call_0 hrn rfl rfl ?_; try simp [*, Evt.cells, Res.cells, endR])
        | (refine call_0 hrn2 rfl rfl ?_; try simp [*, Evt.cells, Res.cells, endR])
        | (refine call_0 hkn rfl rfl ?_; try simp [*, Evt.cells, Res.cells, endR])
        | refine Gq.here ?_
        | refine And.intro (by omega) ?_
        | (refine wl_box rfl ?_; simp [*, Res.cells, endR, eqEvt, bneI])
        | (refine wl_alloc rfl ?_; simp [*, Res.cells, endR, eqEvt, bneI])
        | (refine wr_box rfl ?_; simp [*, Res.cells, endR, eqEvt, bneI])
        | (refine wr_alloc rfl ?_; simp [*, Res.cells, endR, eqEvt, bneI])
        | (refine wl_store ?_; simp [*, Res.cells, endR, eqEvt, bneI])
        | (refine wr_store ?_; simp [*, Res.cells, endR, eqEvt, bneI])
        | (show Wl _ _ _ _ _ _; simp [*, Res.cells, endR, eqEvt, bneI])
        | (show Wr _ _ _ _ _ _ _; simp [*, Res.cells, endR, eqEvt, bneI])
        | (refine kont hK ?_; clear hK K)
        | refine kont (by assumption) ?_
        | with_reducible refine thenA_n ?_
        | with_reducible refine thenA_r ?_
        | with_reducible refine thenA_e ?_
        | with_reducible refine blockA_n ?_
        | with_reducible refine blockA_r ?_
        | with_reducible refine blockA_e ?_
        | with_reducible refine blockA_o rfl ?_
        | refine Awp_ifT rfl ?_
        | refine Awp_ifF rfl ?_
        | (refine Awp_if rfl (fun h => ?_) (fun h => ?_) <;> ((have h' := h; try simp at h') <;> try (have h2 := h; simp only [decide_eq_false_iff_not] at h2)))
        | with_reducible refine noGo_n ?_
        | with_reducible refine noGo_r ?_
        | with_reducible refine noGo_e ?_
        | with_reducible refine Awp_scope ?_
        | with_reducible refine Awp_label ?_
        | with_reducible refine Awp_ret ?_
        | with_reducible refine Awp_skip ?_
        | with_reducible refine Awp_exit ?_
        | with_reducible refine Awp_block ?_)
    
      all_goals
        refine Awp_loop (fun s => ∃ j : Nat, j ≤ R.trace.length ∧ s.m = [some (.box [nI p.vars, nI p.atoms, nI p.locks, .c (.ls (encI p.chans)), nI p.groups, nI p.onces, .c (.ls (p.code.map encC))]), none, some (.box [.c (.ls (encI R.s.told)), nU (statF R.s), .c (.ls (encI R.picks)), .c (.ls (encE R.trace))]), some (.box [.c (.ls (encI R.s.told)), nU (statF R.s), .c (.ls (encI R.picks)), .c (.ls (encE R.trace))])] ∧ s.A 12 = .ptr 2 0 0 ∧ s.A 14 = .ptr 3 0 0 ∧ s.A 16 = nI j) (fun s => match s.A 16 with | .c (.sc (.int _ n)) => R.trace.length - n.toNat | _ => 0) (Gq.here ?_) (fun s hs2 => ?_)
        · refine ⟨0, Nat.zero_le _, ?_, ?_, ?_, ?_⟩ <;> first | rfl | (simp [*]; done)
        clear a7 a8 a9 a10 a11 htk1 hrn hrn2 hmk hpk
        obtain ⟨A, m⟩ := s
        obtain ⟨j, hj, hm, a12, a14, a16⟩ := hs2
        dsimp only at hm a12 a14 a16
        subst hm
        by_cases hlt : j < R.trace.length
        case neg =>
          have hjl : j = R.trace.length := by omega
          subst hjl
          clear hlt hj
          repeat' (first
            | refine Awp_sqG fun K hK => ?_
            | (refine Awp_reg rfl fun K hK => ?_; simp [*, Res.cells, endR, eqEvt, bneI])
            | (refine Awp_regD [] rfl rfl fun K hK => ?_; simp [*, Res.cells, endR, eqEvt, bneI])
            | (refine WG_br (fun h => ?_) (fun h => ?_) <;> (have h' := h; try simp at h'; simp [*, Res.cells, endR, eqEvt, bneI]))
            | (refine RG_br (fun h => ?_) (fun h => ?_) <;> (have h' := h; try simp at h'; simp [*, Res.cells, endR, eqEvt, bneI]))
            | (refine wl_litF rfl ?_; try simp [*, Res.cells, endR, eqEvt, bneI])
            | (refine call_0 hkn rfl rfl ?_; try simp [*, Evt.cells, Res.cells, endR])
            | refine Gq.here ?_
            | refine And.intro (by omega) ?_
            | (refine wl_box rfl ?_; simp [*, Res.cells, endR, eqEvt, bneI])
            | (refine wl_alloc rfl ?_; simp [*, Res.cells, endR, eqEvt, bneI])
            | (refine wr_box rfl ?_; simp [*, Res.cells, endR, eqEvt, bneI])
            | (refine wr_alloc rfl ?_; simp [*, Res.cells, endR, eqEvt, bneI])
            | (refine wl_store ?_; simp [*, Res.cells, endR, eqEvt, bneI])
            | (refine wr_store ?_; simp [*, Res.cells, endR, eqEvt, bneI])
            | (show Wl _ _ _ _ _ _; simp [*, Res.cells, endR, eqEvt, bneI])
            | (show Wr _ _ _ _ _ _ _; simp [*, Res.cells, endR, eqEvt, bneI])
            | (refine kont hK ?_; clear hK K)
            | refine kont (by assumption) ?_
            | with_reducible refine thenA_n ?_
            | with_reducible refine thenA_r ?_
            | with_reducible refine thenA_e ?_
            | with_reducible refine blockA_n ?_
            | with_reducible refine blockA_r ?_
            | with_reducible refine blockA_e ?_
            | with_reducible refine blockA_o rfl ?_
            | refine Awp_ifT rfl ?_
            | refine Awp_ifF rfl ?_
            | (refine Awp_if rfl (fun h => ?_) (fun h => ?_) <;> ((have h' := h; try simp at h') <;> try (have h2 := h; simp only [decide_eq_false_iff_not] at h2)))
            | with_reducible refine noGo_n ?_
            | with_reducible refine noGo_r ?_
            | with_reducible refine noGo_e ?_
            | with_reducible refine Awp_scope ?_
            | with_reducible refine Awp_label ?_
            | with_reducible refine Awp_ret ?_
            | with_reducible refine Awp_skip ?_
            | with_reducible refine Awp_exit ?_
            | with_reducible refine Awp_block ?_)
          all_goals (subst hQ; refine endA_rL [] rfl rfl rfl rfl rfl ⟨?_, rfl⟩; first | rfl | (simp [*]; done))
        have hlt' : ((j : Int) < (R.trace.length : Int)) := by omega
        obtain ⟨x, hx1⟩ : ∃ x, R.trace[j]? = some x := ⟨R.trace[j], by simp [hlt]⟩
        have hx2 : R.trace[(j : Int).toNat]? = some x := hx1
        have hj0 : (0 : Int) ≤ (j : Int) := by omega
        have hdec : R.trace.length - (j + 1) < R.trace.length - j := by omega
        have hwj : IntKind.i64.wrap ((j : Int) + 1) = (j : Int) + 1 := wrap_small (by omega) (by omega)
        have hj1 : j + 1 ≤ R.trace.length := by omega
        clear hlt hj
        repeat' (first
          | refine Awp_sq fun K hK => ?_
          | (refine Awp_reg rfl fun K hK => ?_; simp [*, Res.cells, endR, eqEvt, bneI])
          | (refine Awp_regD [] rfl rfl fun K hK => ?_; simp [*, Res.cells, endR, eqEvt, bneI])
          | (refine WG_br (fun h => ?_) (fun h => ?_) <;> (have h' := h; try simp at h'; simp [*, Res.cells, endR, eqEvt, bneI]))
          | (refine RG_br (fun h => ?_) (fun h => ?_) <;> (have h' := h; try simp at h'; simp [*, Res.cells, endR, eqEvt, bneI]))
          | (refine wl_litF rfl ?_; try simp [*, Res.cells, endR, eqEvt, bneI])
          | refine And.intro (by omega) ?_
          | (refine wl_box rfl ?_; simp [*, Res.cells, endR, eqEvt, bneI])
          | (refine wl_alloc rfl ?_; simp [*, Res.cells, endR, eqEvt, bneI])
          | (refine wr_box rfl ?_; simp [*, Res.cells, endR, eqEvt, bneI])
          | (refine wr_alloc rfl ?_; simp [*, Res.cells, endR, eqEvt, bneI])
          | (refine wl_store ?_; simp [*, Res.cells, endR, eqEvt, bneI])
          | (refine wr_store ?_; simp [*, Res.cells, endR, eqEvt, bneI])
          | (show Wl _ _ _ _ _ _; simp [*, Res.cells, endR, eqEvt, bneI])
          | (show Wr _ _ _ _ _ _ _; simp [*, Res.cells, endR, eqEvt, bneI])
          | (refine kont hK ?_; clear hK K)
          | refine kont (by assumption) ?_
          | with_reducible refine thenA_n ?_
          | with_reducible refine thenA_r ?_
          | with_reducible refine thenA_e ?_
          | with_reducible refine blockA_n ?_
          | with_reducible refine blockA_r ?_
          | with_reducible refine blockA_e ?_
          | with_reducible refine blockA_o rfl ?_
          | refine Awp_ifT rfl ?_
          | refine Awp_ifF rfl ?_
          | (refine Awp_if rfl (fun h => ?_) (fun h => ?_) <;> ((have h' := h; try simp at h') <;> try (have h2 := h; simp only [decide_eq_false_iff_not] at h2)))
          | with_reducible refine noGo_n ?_
          | with_reducible refine noGo_r ?_
          | with_reducible refine noGo_e ?_
          | with_reducible refine Awp_scope ?_
          | with_reducible refine Awp_label ?_
          | with_reducible refine Awp_ret ?_
          | with_reducible refine Awp_skip ?_
          | with_reducible refine Awp_exit ?_
          | with_reducible refine Awp_block ?_)
        all_goals (refine Gq.here ⟨⟨j + 1, hj1, ?_, ?_, ?_, ?_⟩, ?_⟩ <;> first | rfl | (simp [*]; done) | (simp [*]; omega))
    have hlt' : ((j : Int) < (q.length : Int)) := by omega
    obtain ⟨x, hx1⟩ : ∃ x, q[j]? = some x := ⟨q[j], by simp [hlt]⟩
    have hx2 : q[(j : Int).toNat]? = some x := hx1
    have hj0 : (0 : Int) ≤ (j : Int) := by omega
    have hdec : q.length - (j + 1) < q.length - j := by omega
    have hwj : IntKind.i64.wrap ((j : Int) + 1) = (j : Int) + 1 := wrap_small (by omega) (by omega)
    have hj1 : j + 1 ≤ q.length := by omega
    have htk := amid_take (k := k) hx1
    have hgl : (amid k (q.take j)).length + [k, x, -1].length < 1000000 := by rw [amid_len, List.length_take]; simp; omega
    clear hlt hj hq60
    repeat' (first
      | refine Awp_sq fun K hK => ?_
      | (refine Awp_reg rfl fun K hK => ?_; simp [*, Res.cells, endR, eqEvt, bneI])
      | (refine Awp_regD [] rfl rfl fun K hK => ?_; simp [*, Res.cells, endR, eqEvt, bneI])
      | (refine WG_br (fun h => ?_) (fun h => ?_) <;> (have h' := h; try simp at h'; simp [*, Res.cells, endR, eqEvt, bneI]))
      | (refine RG_br (fun h => ?_) (fun h => ?_) <;> (have h' := h; try simp at h'; simp [*, Res.cells, endR, eqEvt, bneI]))
      | (refine wl_litF rfl ?_; try simp [*, Res.cells, endR, eqEvt, bneI])
      | (refine wl_appG (f := fun n => [ci n]) (l1 := amid k (q.take j)) (l2 := [k, x, -1]) lk23 rfl lk3 (fun _ _ => rfl) (by decide) (dst_allG rfl) rfl hgl (.inl (by simp)) ?_; try simp [*, Res.cells, endR, eqEvt, bneI])
      | refine And.intro (by omega) ?_
      | (refine wl_box rfl ?_; simp [*, Res.cells, endR, eqEvt, bneI])
      | (refine wl_alloc rfl ?_; simp [*, Res.cells, endR, eqEvt, bneI])
      | (refine wr_box rfl ?_; simp [*, Res.cells, endR, eqEvt, bneI])
      | (refine wr_alloc rfl ?_; simp [*, Res.cells, endR, eqEvt, bneI])
      | (refine wl_store ?_; simp [*, Res.cells, endR, eqEvt, bneI])
      | (refine wr_store ?_; simp [*, Res.cells, endR, eqEvt, bneI])
      | (show Wl _ _ _ _ _ _; simp [*, Res.cells, endR, eqEvt, bneI])
      | (show Wr _ _ _ _ _ _ _; simp [*, Res.cells, endR, eqEvt, bneI])
      | (refine kont hK ?_; clear hK K)
      | refine kont (by assumption) ?_
      | with_reducible refine thenA_n ?_
      | with_reducible refine thenA_r ?_
      | with_reducible refine thenA_e ?_
      | with_reducible refine blockA_n ?_
      | with_reducible refine blockA_r ?_
      | with_reducible refine blockA_e ?_
      | with_reducible refine blockA_o rfl ?_
      | refine Awp_ifT rfl ?_
      | refine Awp_ifF rfl ?_
      | (refine Awp_if rfl (fun h => ?_) (fun h => ?_) <;> ((have h' := h; try simp at h') <;> try (have h2 := h; simp only [decide_eq_false_iff_not] at h2)))
      | with_reducible refine noGo_n ?_
      | with_reducible refine noGo_r ?_
      | with_reducible refine noGo_e ?_
      | with_reducible refine Awp_scope ?_
      | with_reducible refine Awp_label ?_
      | with_reducible refine Awp_ret ?_
      | with_reducible refine Awp_skip ?_
      | with_reducible refine Awp_exit ?_
      | with_reducible refine Awp_block ?_)
    all_goals (refine gq_cmp [0, 3] rfl rfl rfl ⟨⟨j + 1, hj1, ?_, ?_, ?_, ?_, ?_, ?_⟩, ?_⟩ <;> first | (rw [htk]; simp [encI]; done) | (simp [*, rn_ptr, rn_sl, posOf]; done) | (simp [*, rn_ptr, rn_sl, posOf]; omega) | (rw [htk]; simp [*, rn_ptr, rn_sl, posOf]; done))


end Go.Proofs.YtogfcpaalcebdaaE
