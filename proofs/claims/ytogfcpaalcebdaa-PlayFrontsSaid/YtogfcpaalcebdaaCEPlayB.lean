/- Runs: PlayFronts. -/
import Derived.Test.YtogfcpaalcebdaaCEPlay7
import Derived.Test.YtogfcpaalcebdaaCEPlayM
namespace Go.Proofs.YtogfcpaalcebdaaE
open Go Go.RowKit
set_option linter.unusedVariables false
set_option linter.unusedSimpArgs false
set_option maxRecDepth 1000000
set_option maxHeartbeats 8000000
theorem Awp_seqR {E : Env} {kk : Nat} {mv : List Nat} {s : St} (id : Nat) {o : Array Oper} {dr : Bool} {y : Code} {Q : Exit → St → Prop} (R : St → Prop) (h : ∀ K : St → Prop, Kont K (Gq E kk mv R) → Awp E kk mv (.region id o dr) (thenA K Q) s) (h2 : ∀ s, R s → Awp E kk mv y Q s) : Awp E kk mv (.seq (.region id o dr) y) Q s :=
  Awp_mono (.region id o dr) (thenA_mono (fun s q => Gq_mono h2 q) fun _ _ q => q) (h _ fun _ h => h)
attribute [local simp] eqEv be_02 be_124 bins0 bins01 bins02 bprg6 bprg26 bprg56 bprg0 eqpn eqnn MT_set10 MT_set11 st_MT10 st_MT11 rnT_c nlV nlV.nlL frzV frzL frzO pExt encI_len k2_s chunk encI_len cv53 shp0c pExt Prg.cells ldQ g1R obQ stQ s1Q ix3 ia3 ia28 bi3 bs0 bs01 bs02 bs012 bs013 bs014 bs0134 bs01234 bw1 bw2 bw3 rn_ptr rn_sl rn_any posOf encE_len ia_evts ld_evt
theorem fronts_m (hG : Good SV) (l : List (List Int)) (hl8 : ∀ r ∈ l, ∀ x ∈ r, 0 ≤ x ∧ x < 256) (hll : l.length ≤ 9223372036854775807) (hlr : ∀ r ∈ l, r.length ≤ 9223372036854775807) (c : List Int) (hc : ∀ x ∈ c, 0 ≤ x ∧ x < 256) (d : List Int) (hd : ∀ x ∈ d, 0 ≤ x ∧ x < 256) : Meets 8 [.c (.ls (encR l)), .c (.ls (encU c)), .c (.ls (encU d))] ([]) (pt (nB true) [] []) := by
  refine meets hG Try.func8 rfl rfl ?_
  show Awp (env _ _) _ _ ((Try.f8).body.getD .skip) _ _
  unfold Try.f8
  dsimp only [Option.getD_some]
  unfold start
  generalize hQ : endA _ _ _ _ _ = Q
  have hok := makeM_ok hl8
  have hs := makeM_s hl8
  have hmk := SV.w (SW.make l hl8 hll hlr)
  have hpk := SV.w (SW.picks c hc)
  have hpk2 := SV.w (SW.picks d hd)
  generalize makeM l = p at *
  have hq60 := picks_le (c := c)
  have hq61 := picks_le (c := d)
  generalize picksF c = q at *
  generalize picksF d = q2 at *
  have hrn := SV.w (SW.run p hok hs _ .full q (by omega))
  have hrn2 := SV.w (SW.run p hok hs _ .full (q ++ q2) (by rw [List.length_append]; omega))
  obtain ⟨ta, pa, hta, hpa, hst⟩ := fronts (p := p) q q2
  have hO := runN_ok hs q
  have hO2 := runN_ok hs (q ++ q2)
  have hql : (q ++ q2).length ≤ 120 := by rw [List.length_append]; omega
  generalize runN p q = R at *
  generalize runN p (q ++ q2) = R2 at *
  have h1 : R.s.told.length < 1000000 := by have := hO.bd.told; omega
  have h2 : R.picks.length < 1000000 := by have := hO.np; omega
  have h3 : R.trace.length < 1000000 := by have := hO.nt; omega
  have h4 : R2.s.told.length < 1000000 := by have := hO2.bd.told; omega
  have h5 : R2.picks.length < 1000000 := by have := hO2.np; omega
  have h6 : R2.trace.length < 1000000 := by have := hO2.nt; omega
  have hkn := SV.known
  have hg1 : ([] : List Int).length + q.length < 1000000 := by simp; omega
  have hg2 : q.length + q2.length < 1000000 := by omega
  have hl1 : ¬ ((R2.trace.length : Int) < (R.trace.length : Int)) := by rw [hta]; simp; omega
  have hl2 : ¬ ((R2.s.told.length : Int) < (R.s.told.length : Int)) := by rw [hpa]; simp; omega
  have hpre : ∀ (j : Nat) x, R.trace[j]? = some x → R2.trace[j]? = some x := fun j x h => by rw [hta, List.getElem?_append_left (List.getElem?_eq_some_iff.1 h).1]; exact h
  have hpre2 : ∀ (j : Nat) x, R.s.told[j]? = some x → R2.s.told[j]? = some x := fun j x h => by rw [hpa, List.getElem?_append_left (List.getElem?_eq_some_iff.1 h).1]; exact h
  have hend : statF R.s = 0 ∨ (¬ (statF R.s = 0) ∧ statF R2.s = statF R.s ∧ R2.trace.length = R.trace.length) := by
    by_cases h : statF R.s = 0
    · exact .inl h
    · have := hst h; subst this; exact .inr ⟨h, rfl, rfl⟩
  clear hta hpa hst hO hO2 hs hok hl8 hll hlr hc hd hq60 hq61 hql
  repeat' (first
    | with_reducible refine Awp_seqR 4 (R := fun s => s.m = [some (.box [nI p.vars, nI p.atoms, nI p.locks, .c (.ls (encI p.chans)), nI p.groups, nI p.onces, .c (.ls (p.code.map encC))]), some (.box [.c (.ls (encI R.s.told)), nU (statF R.s), .c (.ls (encI R.picks)), .c (.ls (encE R.trace))]), some (.arr 1 [])] ∧ s.A 2 = .c (.ls (encU d)) ∧ s.A 7 = .ptr 0 0 0 ∧ s.A 8 = .c (.ls (encI q)) ∧ s.A 9 = .ptr 1 0 0 ∧ s.A 11 = .sl 2 1 0 0 false) (fun K hK => ?_) ?_
    | refine Awp_sq fun K hK => ?_
    | (refine Awp_reg rfl fun K hK => ?_; simp [*, Res.cells, endR, eqEvt, bneI])
    | (refine Awp_regD [] rfl rfl fun K hK => ?_; simp [*, Res.cells, endR, eqEvt, bneI])
    | (refine WG_br (fun h => ?_) (fun h => ?_) <;> (have h' := h; try simp at h'; simp [*, Res.cells, endR, eqEvt, bneI]))
    | (refine RG_br (fun h => ?_) (fun h => ?_) <;> (have h' := h; try simp at h'; simp [*, Res.cells, endR, eqEvt, bneI]))
    | (refine wl_litF rfl ?_; try simp [*, Res.cells, endR, eqEvt, bneI])
    | (refine call_0 hmk rfl rfl ?_; try simp [*, Evt.cells, Res.cells, endR])
    | (refine call_0 hpk rfl rfl ?_; try simp [*, Evt.cells, Res.cells, endR])
    | (refine call_0 hrn rfl rfl ?_; try simp [*, Evt.cells, Res.cells, endR])
    | refine And.intro (by omega) ?_
    | (refine wl_box rfl ?_; simp [*, Res.cells, endR, eqEvt, bneI])
    | (refine wl_alloc rfl ?_; simp [*, Res.cells, endR, eqEvt, bneI])
    | (refine wr_box rfl ?_; simp [*, Res.cells, endR, eqEvt, bneI])
    | (refine wr_alloc rfl ?_; simp [*, Res.cells, endR, eqEvt, bneI])
    | (refine wl_store ?_; simp [*, Res.cells, endR, eqEvt, bneI])
    | (refine wr_store ?_; simp [*, Res.cells, endR, eqEvt, bneI])
    | (show Wl _ _ _ _ _ _; simp [*, Res.cells, endR, eqEvt, bneI])
    | (show Wr _ _ _ _ _ _ _; simp [*, Res.cells, endR, eqEvt, bneI])
    | (refine kont hK ?_; clear hK K)
    | refine kont (by assumption) ?_
    | with_reducible refine thenA_n ?_
    | with_reducible refine thenA_r ?_
    | with_reducible refine thenA_e ?_
    | with_reducible refine blockA_n ?_
    | with_reducible refine blockA_r ?_
    | with_reducible refine blockA_e ?_
    | with_reducible refine blockA_o rfl ?_
    | refine Awp_ifT rfl ?_
    | refine Awp_ifF rfl ?_
    | (refine Awp_if rfl (fun h => ?_) (fun h => ?_) <;> ((have h' := h; try simp at h') <;> try (have h2 := h; simp only [decide_eq_false_iff_not] at h2)))
    | with_reducible refine noGo_n ?_
    | with_reducible refine noGo_r ?_
    | with_reducible refine noGo_e ?_
    | with_reducible refine Awp_scope ?_
    | with_reducible refine Awp_label ?_
    | with_reducible refine Awp_ret ?_
    | with_reducible refine Awp_skip ?_
    | with_reducible refine Awp_exit ?_
    | with_reducible refine Awp_block ?_)

  · refine gq_then (Gst.emp (t := 11) (sz := 1) (by simp [*])) (Gq.here ?_)
    refine ⟨?_, ?_, ?_, ?_, ?_, ?_⟩ <;> first | rfl | (simp [*]; done)
  clear hmk hpk hrn
  intro s hs2
  obtain ⟨A, m⟩ := s
  obtain ⟨hm, a2, a7, a8, a9, a11⟩ := hs2
  dsimp only at hm a2 a7 a8 a9 a11
  subst hm
  repeat' (first
    | with_reducible refine Awp_seqR 6 (R := fun s => s.m = [some (.box [nI p.vars, nI p.atoms, nI p.locks, .c (.ls (encI p.chans)), nI p.groups, nI p.onces, .c (.ls (p.code.map encC))]), some (.box [.c (.ls (encI R.s.told)), nU (statF R.s), .c (.ls (encI R.picks)), .c (.ls (encE R.trace))])] ∧ s.A 7 = .ptr 0 0 0 ∧ s.A 9 = .ptr 1 0 0 ∧ s.A 11 = .c (.ls (encI (q ++ q2)))) (fun K hK => ?_) ?_
    | refine Awp_sq fun K hK => ?_
    | (refine Awp_reg rfl fun K hK => ?_; simp [*, Res.cells, endR, eqEvt, bneI])
    | (refine Awp_regD [] rfl rfl fun K hK => ?_; simp [*, Res.cells, endR, eqEvt, bneI])
    | (refine WG_br (fun h => ?_) (fun h => ?_) <;> (have h' := h; try simp at h'; simp [*, Res.cells, endR, eqEvt, bneI]))
    | (refine RG_br (fun h => ?_) (fun h => ?_) <;> (have h' := h; try simp at h'; simp [*, Res.cells, endR, eqEvt, bneI]))
    | (refine wl_litF rfl ?_; try simp [*, Res.cells, endR, eqEvt, bneI])
    | (refine wl_appG (f := fun n => [ci n]) (l1 := []) (l2 := q) lk23 rfl lk3 (fun _ _ => rfl) (by decide) (dst_allG (l := ([] : List Int)) rfl) rfl hg1 (.inr (.inl rfl)) ?_; try simp [*, Res.cells, endR, eqEvt, bneI])
    | (refine wl_appG (f := fun n => [ci n]) (l1 := q) (l2 := q2) lk23 rfl lk3 (fun _ _ => rfl) (by decide) (dst_allG rfl) rfl hg2 (.inr (.inr ⟨_, _, _, _, rfl⟩)) ?_; try simp [*, Res.cells, endR, eqEvt, bneI])
    | (refine call_0 hpk2 rfl rfl ?_; try simp [*, Evt.cells, Res.cells, endR])
    | refine And.intro (by omega) ?_
    | (refine wl_box rfl ?_; simp [*, Res.cells, endR, eqEvt, bneI])
    | (refine wl_alloc rfl ?_; simp [*, Res.cells, endR, eqEvt, bneI])
    | (refine wr_box rfl ?_; simp [*, Res.cells, endR, eqEvt, bneI])
    | (refine wr_alloc rfl ?_; simp [*, Res.cells, endR, eqEvt, bneI])
    | (refine wl_store ?_; simp [*, Res.cells, endR, eqEvt, bneI])
    | (refine wr_store ?_; simp [*, Res.cells, endR, eqEvt, bneI])
    | (show Wl _ _ _ _ _ _; simp [*, Res.cells, endR, eqEvt, bneI])
    | (show Wr _ _ _ _ _ _ _; simp [*, Res.cells, endR, eqEvt, bneI])
    | (refine kont hK ?_; clear hK K)
    | refine kont (by assumption) ?_
    | with_reducible refine thenA_n ?_
    | with_reducible refine thenA_r ?_
    | with_reducible refine thenA_e ?_
    | with_reducible refine blockA_n ?_
    | with_reducible refine blockA_r ?_
    | with_reducible refine blockA_e ?_
    | with_reducible refine blockA_o rfl ?_
    | refine Awp_ifT rfl ?_
    | refine Awp_ifF rfl ?_
    | (refine Awp_if rfl (fun h => ?_) (fun h => ?_) <;> ((have h' := h; try simp at h') <;> try (have h2 := h; simp only [decide_eq_false_iff_not] at h2)))
    | with_reducible refine noGo_n ?_
    | with_reducible refine noGo_r ?_
    | with_reducible refine noGo_e ?_
    | with_reducible refine Awp_scope ?_
    | with_reducible refine Awp_label ?_
    | with_reducible refine Awp_ret ?_
    | with_reducible refine Awp_skip ?_
    | with_reducible refine Awp_exit ?_
    | with_reducible refine Awp_block ?_)

  · refine gq_then (Gst.frz (id := 5) rfl) (gq_then (Gst.cmp (L := [0, 1]) rfl rfl rfl) (Gq.here ?_))
    have htk1 : List.take (q.length + q2.length) (encI (q ++ q2)) = encI (q ++ q2) := List.take_of_length_le (by simp [encI])
    have htk2 : List.take (q.length + q2.length) (List.map (fun n => [ci n]) (q ++ q2)) = encI (q ++ q2) := htk1
    refine ⟨?_, ?_, ?_, ?_⟩ <;> first | rfl | (simp [cmp, *, eqEv, be_02, be_124, bins0, bins01, bins02, bprg6, bprg26, bprg56, bprg0, eqpn, eqnn, MT_set10, MT_set11, st_MT10, st_MT11, rnT_c, nlV, nlV.nlL, frzV, frzL, frzO, pExt, encI_len, k2_s, chunk, encI_len, cv53, shp0c, pExt, Prg.cells, ldQ, g1R, obQ, stQ, s1Q, ix3, ia3, ia28, bi3, bs0, bs01, bs02, bs012, bs013, bs014, bs0134, bs01234, bw1, bw2, bw3, rn_ptr, rn_sl, rn_any, posOf, encE_len, ia_evts, ld_evt, Res.cells, endR, eqEvt, bneI]; done) | (simp [cmp, *, eqEv, be_02, be_124, bins0, bins01, bins02, bprg6, bprg26, bprg56, bprg0, eqpn, eqnn, MT_set10, MT_set11, st_MT10, st_MT11, rnT_c, nlV, nlV.nlL, frzV, frzL, frzO, pExt, encI_len, k2_s, chunk, encI_len, cv53, shp0c, pExt, Prg.cells, ldQ, g1R, obQ, stQ, s1Q, ix3, ia3, ia28, bi3, bs0, bs01, bs02, bs012, bs013, bs014, bs0134, bs01234, bw1, bw2, bw3, rn_ptr, rn_sl, rn_any, posOf, encE_len, ia_evts, ld_evt, Res.cells, endR, eqEvt, bneI, encI]; done) | (simp [cmp, *, eqEv, be_02, be_124, bins0, bins01, bins02, bprg6, bprg26, bprg56, bprg0, eqpn, eqnn, MT_set10, MT_set11, st_MT10, st_MT11, rnT_c, nlV, nlV.nlL, frzV, frzL, frzO, pExt, encI_len, k2_s, chunk, encI_len, cv53, shp0c, pExt, Prg.cells, ldQ, g1R, obQ, stQ, s1Q, ix3, ia3, ia28, bi3, bs0, bs01, bs02, bs012, bs013, bs014, bs0134, bs01234, bw1, bw2, bw3, rn_ptr, rn_sl, rn_any, posOf, encE_len, ia_evts, ld_evt, Res.cells, endR, eqEvt, bneI, encI]; rw [List.take_of_length_le (by simp)])
  clear hpk2 hg1 hg2 a2 a7 a8 a9 a11
  intro s hs2
  obtain ⟨A, m⟩ := s
  obtain ⟨hm, a7, a9, a11⟩ := hs2
  dsimp only at hm a7 a9 a11
  subst hm
  repeat' (first
    | refine Awp_sq fun K hK => ?_
    | (refine Awp_reg rfl fun K hK => ?_; simp [*, Res.cells, endR, eqEvt, bneI])
    | (refine Awp_regD [] rfl rfl fun K hK => ?_; simp [*, Res.cells, endR, eqEvt, bneI])
    | (refine WG_br (fun h => ?_) (fun h => ?_) <;> (have h' := h; try simp at h'; simp [*, Res.cells, endR, eqEvt, bneI]))
    | (refine RG_br (fun h => ?_) (fun h => ?_) <;> (have h' := h; try simp at h'; simp [*, Res.cells, endR, eqEvt, bneI]))
    | (refine wl_litF rfl ?_; try simp [*, Res.cells, endR, eqEvt, bneI])
    | (refine call_0 hrn2 rfl rfl ?_; try simp [*, Evt.cells, Res.cells, endR])
    | refine And.intro (by omega) ?_
    | (refine wl_box rfl ?_; simp [*, Res.cells, endR, eqEvt, bneI])
    | (refine wl_alloc rfl ?_; simp [*, Res.cells, endR, eqEvt, bneI])
    | (refine wr_box rfl ?_; simp [*, Res.cells, endR, eqEvt, bneI])
    | (refine wr_alloc rfl ?_; simp [*, Res.cells, endR, eqEvt, bneI])
    | (refine wl_store ?_; simp [*, Res.cells, endR, eqEvt, bneI])
    | (refine wr_store ?_; simp [*, Res.cells, endR, eqEvt, bneI])
    | (show Wl _ _ _ _ _ _; simp [*, Res.cells, endR, eqEvt, bneI])
    | (show Wr _ _ _ _ _ _ _; simp [*, Res.cells, endR, eqEvt, bneI])
    | (refine kont hK ?_; clear hK K)
    | refine kont (by assumption) ?_
    | with_reducible refine thenA_n ?_
    | with_reducible refine thenA_r ?_
    | with_reducible refine thenA_e ?_
    | with_reducible refine blockA_n ?_
    | with_reducible refine blockA_r ?_
    | with_reducible refine blockA_e ?_
    | with_reducible refine blockA_o rfl ?_
    | refine Awp_ifT rfl ?_
    | refine Awp_ifF rfl ?_
    | (refine Awp_if rfl (fun h => ?_) (fun h => ?_) <;> ((have h' := h; try simp at h') <;> try (have h2 := h; simp only [decide_eq_false_iff_not] at h2)))
    | with_reducible refine noGo_n ?_
    | with_reducible refine noGo_r ?_
    | with_reducible refine noGo_e ?_
    | with_reducible refine Awp_scope ?_
    | with_reducible refine Awp_label ?_
    | with_reducible refine Awp_ret ?_
    | with_reducible refine Awp_skip ?_
    | with_reducible refine Awp_exit ?_
    | with_reducible refine Awp_block ?_)

  refine Awp_loop (fun s => ∃ j : Nat, j ≤ R.trace.length ∧ s.m = [some (.box [nI p.vars, nI p.atoms, nI p.locks, .c (.ls (encI p.chans)), nI p.groups, nI p.onces, .c (.ls (p.code.map encC))]), some (.box [.c (.ls (encI R.s.told)), nU (statF R.s), .c (.ls (encI R.picks)), .c (.ls (encE R.trace))]), some (.box [.c (.ls (encI R2.s.told)), nU (statF R2.s), .c (.ls (encI R2.picks)), .c (.ls (encE R2.trace))])] ∧ s.A 9 = .ptr 1 0 0 ∧ s.A 12 = .ptr 2 0 0 ∧ s.A 14 = nI j) (fun s => match s.A 14 with | .c (.sc (.int _ n)) => R.trace.length - n.toNat | _ => 0) (Gq.here ?_) (fun s hs2 => ?_)
  · refine ⟨0, Nat.zero_le _, ?_, ?_, ?_, ?_⟩ <;> first | rfl | (simp [*]; done)
  clear a7 a9 a11 hrn2
  obtain ⟨A, m⟩ := s
  obtain ⟨j, hj, hm, a9, a12, ai⟩ := hs2
  dsimp only at hm a9 a12 ai
  subst hm
  by_cases hlt : j < R.trace.length
  case neg =>
    have hjl : j = R.trace.length := by omega
    subst hjl
    clear hlt hj
    repeat' (first
      | refine Awp_sq fun K hK => ?_
      | (refine Awp_reg rfl fun K hK => ?_; simp [*, Res.cells, endR, eqEvt, bneI])
      | (refine Awp_regD [] rfl rfl fun K hK => ?_; simp [*, Res.cells, endR, eqEvt, bneI])
      | (refine WG_br (fun h => ?_) (fun h => ?_) <;> (have h' := h; try simp at h'; simp [*, Res.cells, endR, eqEvt, bneI]))
      | (refine RG_br (fun h => ?_) (fun h => ?_) <;> (have h' := h; try simp at h'; simp [*, Res.cells, endR, eqEvt, bneI]))
      | (refine wl_litF rfl ?_; try simp [*, Res.cells, endR, eqEvt, bneI])
      | refine And.intro (by omega) ?_
      | (refine wl_box rfl ?_; simp [*, Res.cells, endR, eqEvt, bneI])
      | (refine wl_alloc rfl ?_; simp [*, Res.cells, endR, eqEvt, bneI])
      | (refine wr_box rfl ?_; simp [*, Res.cells, endR, eqEvt, bneI])
      | (refine wr_alloc rfl ?_; simp [*, Res.cells, endR, eqEvt, bneI])
      | (refine wl_store ?_; simp [*, Res.cells, endR, eqEvt, bneI])
      | (refine wr_store ?_; simp [*, Res.cells, endR, eqEvt, bneI])
      | (show Wl _ _ _ _ _ _; simp [*, Res.cells, endR, eqEvt, bneI])
      | (show Wr _ _ _ _ _ _ _; simp [*, Res.cells, endR, eqEvt, bneI])
      | (refine kont hK ?_; clear hK K)
      | refine kont (by assumption) ?_
      | with_reducible refine thenA_n ?_
      | with_reducible refine thenA_r ?_
      | with_reducible refine thenA_e ?_
      | with_reducible refine blockA_n ?_
      | with_reducible refine blockA_r ?_
      | with_reducible refine blockA_e ?_
      | with_reducible refine blockA_o rfl ?_
      | refine Awp_ifT rfl ?_
      | refine Awp_ifF rfl ?_
      | (refine Awp_if rfl (fun h => ?_) (fun h => ?_) <;> ((have h' := h; try simp at h') <;> try (have h2 := h; simp only [decide_eq_false_iff_not] at h2)))
      | with_reducible refine noGo_n ?_
      | with_reducible refine noGo_r ?_
      | with_reducible refine noGo_e ?_
      | with_reducible refine Awp_scope ?_
      | with_reducible refine Awp_label ?_
      | with_reducible refine Awp_ret ?_
      | with_reducible refine Awp_skip ?_
      | with_reducible refine Awp_exit ?_
      | with_reducible refine Awp_block ?_)
    all_goals
      refine Awp_loop (fun s => ∃ j : Nat, j ≤ R.s.told.length ∧ s.m = [some (.box [nI p.vars, nI p.atoms, nI p.locks, .c (.ls (encI p.chans)), nI p.groups, nI p.onces, .c (.ls (p.code.map encC))]), some (.box [.c (.ls (encI R.s.told)), nU (statF R.s), .c (.ls (encI R.picks)), .c (.ls (encE R.trace))]), some (.box [.c (.ls (encI R2.s.told)), nU (statF R2.s), .c (.ls (encI R2.picks)), .c (.ls (encE R2.trace))])] ∧ s.A 9 = .ptr 1 0 0 ∧ s.A 12 = .ptr 2 0 0 ∧ s.A 15 = nI j) (fun s => match s.A 15 with | .c (.sc (.int _ n)) => R.s.told.length - n.toNat | _ => 0) (Gq.here ?_) (fun s hs2 => ?_)
      · refine ⟨0, Nat.zero_le _, ?_, ?_, ?_, ?_⟩ <;> first | rfl | (simp [*]; done)
      clear a9 a12 ai 
      obtain ⟨A, m⟩ := s
      obtain ⟨j, hj, hm, a9, a12, ai⟩ := hs2
      dsimp only at hm a9 a12 ai
      subst hm
      by_cases hlt : j < R.s.told.length
      case neg =>
        have hjl : j = R.s.told.length := by omega
        subst hjl
        clear hlt hj
        rcases hend with hend | ⟨hend, hend2, hend3⟩
        all_goals
          repeat' (first
            | refine Awp_sqG fun K hK => ?_
            | (refine Awp_reg rfl fun K hK => ?_; simp [*, Res.cells, endR, eqEvt, bneI])
            | (refine Awp_regD [] rfl rfl fun K hK => ?_; simp [*, Res.cells, endR, eqEvt, bneI])
            | (refine WG_br (fun h => ?_) (fun h => ?_) <;> (have h' := h; try simp at h'; simp [*, Res.cells, endR, eqEvt, bneI]))
            | (refine RG_br (fun h => ?_) (fun h => ?_) <;> (have h' := h; try simp at h'; simp [*, Res.cells, endR, eqEvt, bneI]))
            | (refine wl_litF rfl ?_; try simp [*, Res.cells, endR, eqEvt, bneI])
            | (refine call_0 hkn rfl rfl ?_; try simp [*, Evt.cells, Res.cells, endR])
            | refine Gq.here ?_
            | refine And.intro (by omega) ?_
            | (refine wl_box rfl ?_; simp [*, Res.cells, endR, eqEvt, bneI])
            | (refine wl_alloc rfl ?_; simp [*, Res.cells, endR, eqEvt, bneI])
            | (refine wr_box rfl ?_; simp [*, Res.cells, endR, eqEvt, bneI])
            | (refine wr_alloc rfl ?_; simp [*, Res.cells, endR, eqEvt, bneI])
            | (refine wl_store ?_; simp [*, Res.cells, endR, eqEvt, bneI])
            | (refine wr_store ?_; simp [*, Res.cells, endR, eqEvt, bneI])
            | (show Wl _ _ _ _ _ _; simp [*, Res.cells, endR, eqEvt, bneI])
            | (show Wr _ _ _ _ _ _ _; simp [*, Res.cells, endR, eqEvt, bneI])
            | (refine kont hK ?_; clear hK K)
            | refine kont (by assumption) ?_
            | with_reducible refine thenA_n ?_
            | with_reducible refine thenA_r ?_
            | with_reducible refine thenA_e ?_
            | with_reducible refine blockA_n ?_
            | with_reducible refine blockA_r ?_
            | with_reducible refine blockA_e ?_
            | with_reducible refine blockA_o rfl ?_
            | refine Awp_ifT rfl ?_
            | refine Awp_ifF rfl ?_
            | (refine Awp_if rfl (fun h => ?_) (fun h => ?_) <;> ((have h' := h; try simp at h') <;> try (have h2 := h; simp only [decide_eq_false_iff_not] at h2)))
            | with_reducible refine noGo_n ?_
            | with_reducible refine noGo_r ?_
            | with_reducible refine noGo_e ?_
            | with_reducible refine Awp_scope ?_
            | with_reducible refine Awp_label ?_
            | with_reducible refine Awp_ret ?_
            | with_reducible refine Awp_skip ?_
            | with_reducible refine Awp_exit ?_
            | with_reducible refine Awp_block ?_)
        all_goals (subst hQ; refine endA_rL [] rfl rfl rfl rfl rfl ⟨?_, rfl⟩; first | rfl | (simp [*]; done))
      have hlt' : ((j : Int) < (R.s.told.length : Int)) := by omega
      have hlt2 : ((j : Int) < (R2.s.told.length : Int)) := by omega
      obtain ⟨x, hx1⟩ : ∃ x, R.s.told[j]? = some x := ⟨R.s.told[j], by simp [hlt]⟩
      have hx2 : R.s.told[(j : Int).toNat]? = some x := hx1
      have hy1 : R2.s.told[j]? = some x := hpre2 j x hx1
      have hy2 : R2.s.told[(j : Int).toNat]? = some x := hy1
      have hj0 : (0 : Int) ≤ (j : Int) := by omega
      have hdec : R.s.told.length - (j + 1) < R.s.told.length - j := by omega
      have hwj : IntKind.i64.wrap ((j : Int) + 1) = (j : Int) + 1 := wrap_small (by omega) (by omega)
      have hj1 : j + 1 ≤ R.s.told.length := by omega
      clear hlt hj
      repeat' (first
        | refine Awp_sq fun K hK => ?_
        | (refine Awp_reg rfl fun K hK => ?_; simp [*, Res.cells, endR, eqEvt, bneI])
        | (refine Awp_regD [] rfl rfl fun K hK => ?_; simp [*, Res.cells, endR, eqEvt, bneI])
        | (refine WG_br (fun h => ?_) (fun h => ?_) <;> (have h' := h; try simp at h'; simp [*, Res.cells, endR, eqEvt, bneI]))
        | (refine RG_br (fun h => ?_) (fun h => ?_) <;> (have h' := h; try simp at h'; simp [*, Res.cells, endR, eqEvt, bneI]))
        | (refine wl_litF rfl ?_; try simp [*, Res.cells, endR, eqEvt, bneI])
        | refine And.intro (by omega) ?_
        | (refine wl_box rfl ?_; simp [*, Res.cells, endR, eqEvt, bneI])
        | (refine wl_alloc rfl ?_; simp [*, Res.cells, endR, eqEvt, bneI])
        | (refine wr_box rfl ?_; simp [*, Res.cells, endR, eqEvt, bneI])
        | (refine wr_alloc rfl ?_; simp [*, Res.cells, endR, eqEvt, bneI])
        | (refine wl_store ?_; simp [*, Res.cells, endR, eqEvt, bneI])
        | (refine wr_store ?_; simp [*, Res.cells, endR, eqEvt, bneI])
        | (show Wl _ _ _ _ _ _; simp [*, Res.cells, endR, eqEvt, bneI])
        | (show Wr _ _ _ _ _ _ _; simp [*, Res.cells, endR, eqEvt, bneI])
        | (refine kont hK ?_; clear hK K)
        | refine kont (by assumption) ?_
        | with_reducible refine thenA_n ?_
        | with_reducible refine thenA_r ?_
        | with_reducible refine thenA_e ?_
        | with_reducible refine blockA_n ?_
        | with_reducible refine blockA_r ?_
        | with_reducible refine blockA_e ?_
        | with_reducible refine blockA_o rfl ?_
        | refine Awp_ifT rfl ?_
        | refine Awp_ifF rfl ?_
        | (refine Awp_if rfl (fun h => ?_) (fun h => ?_) <;> ((have h' := h; try simp at h') <;> try (have h2 := h; simp only [decide_eq_false_iff_not] at h2)))
        | with_reducible refine noGo_n ?_
        | with_reducible refine noGo_r ?_
        | with_reducible refine noGo_e ?_
        | with_reducible refine Awp_scope ?_
        | with_reducible refine Awp_label ?_
        | with_reducible refine Awp_ret ?_
        | with_reducible refine Awp_skip ?_
        | with_reducible refine Awp_exit ?_
        | with_reducible refine Awp_block ?_)
      all_goals (refine Gq.here ⟨⟨j + 1, hj1, ?_, ?_, ?_, ?_⟩, ?_⟩ <;> first | rfl | (simp [*]; done) | (simp [*]; omega))
  have hlt' : ((j : Int) < (R.trace.length : Int)) := by omega
  have hlt2 : ((j : Int) < (R2.trace.length : Int)) := by omega
  obtain ⟨x, hx1⟩ : ∃ x, R.trace[j]? = some x := ⟨R.trace[j], by simp [hlt]⟩
  have hx2 : R.trace[(j : Int).toNat]? = some x := hx1
  have hy1 : R2.trace[j]? = some x := hpre j x hx1
  have hy2 : R2.trace[(j : Int).toNat]? = some x := hy1
  have hj0 : (0 : Int) ≤ (j : Int) := by omega
  have hdec : R.trace.length - (j + 1) < R.trace.length - j := by omega
  have hwj : IntKind.i64.wrap ((j : Int) + 1) = (j : Int) + 1 := wrap_small (by omega) (by omega)
  have hj1 : j + 1 ≤ R.trace.length := by omega
  clear hlt hj
  repeat' (first
    | refine Awp_sq fun K hK => ?_
    | (refine Awp_reg rfl fun K hK => ?_; simp [*, Res.cells, endR, eqEvt, bneI])
    | (refine Awp_regD [] rfl rfl fun K hK => ?_; simp [*, Res.cells, endR, eqEvt, bneI])
    | (refine WG_br (fun h => ?_) (fun h => ?_) <;> (have h' := h; try simp at h'; simp [*, Res.cells, endR, eqEvt, bneI]))
    | (refine RG_br (fun h => ?_) (fun h => ?_) <;> (have h' := h; try simp at h'; simp [*, Res.cells, endR, eqEvt, bneI]))
    | (refine wl_litF rfl ?_; try simp [*, Res.cells, endR, eqEvt, bneI])
    | refine And.intro (by omega) ?_
    | (refine wl_box rfl ?_; simp [*, Res.cells, endR, eqEvt, bneI])
    | (refine wl_alloc rfl ?_; simp [*, Res.cells, endR, eqEvt, bneI])
    | (refine wr_box rfl ?_; simp [*, Res.cells, endR, eqEvt, bneI])
    | (refine wr_alloc rfl ?_; simp [*, Res.cells, endR, eqEvt, bneI])
    | (refine wl_store ?_; simp [*, Res.cells, endR, eqEvt, bneI])
    | (refine wr_store ?_; simp [*, Res.cells, endR, eqEvt, bneI])
    | (show Wl _ _ _ _ _ _; simp [*, Res.cells, endR, eqEvt, bneI])
    | (show Wr _ _ _ _ _ _ _; simp [*, Res.cells, endR, eqEvt, bneI])
    | (refine kont hK ?_; clear hK K)
    | refine kont (by assumption) ?_
    | with_reducible refine thenA_n ?_
    | with_reducible refine thenA_r ?_
    | with_reducible refine thenA_e ?_
    | with_reducible refine blockA_n ?_
    | with_reducible refine blockA_r ?_
    | with_reducible refine blockA_e ?_
    | with_reducible refine blockA_o rfl ?_
    | refine Awp_ifT rfl ?_
    | refine Awp_ifF rfl ?_
    | (refine Awp_if rfl (fun h => ?_) (fun h => ?_) <;> ((have h' := h; try simp at h') <;> try (have h2 := h; simp only [decide_eq_false_iff_not] at h2)))
    | with_reducible refine noGo_n ?_
    | with_reducible refine noGo_r ?_
    | with_reducible refine noGo_e ?_
    | with_reducible refine Awp_scope ?_
    | with_reducible refine Awp_label ?_
    | with_reducible refine Awp_ret ?_
    | with_reducible refine Awp_skip ?_
    | with_reducible refine Awp_exit ?_
    | with_reducible refine Awp_block ?_)
  all_goals (refine Gq.here ⟨⟨j + 1, hj1, ?_, ?_, ?_, ?_⟩, ?_⟩ <;> first | rfl | (simp [*]; done) | (simp [*]; omega))

end Go.Proofs.YtogfcpaalcebdaaE
