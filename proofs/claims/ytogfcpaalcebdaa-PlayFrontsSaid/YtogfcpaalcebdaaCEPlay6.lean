/- Runs: PlayRounds. -/
import Derived.Test.YtogfcpaalcebdaaCEPlay5
import Derived.Test.YtogfcpaalcebdaaCEPlayL
namespace Go.Proofs.YtogfcpaalcebdaaE
open Go Go.RowKit
set_option linter.unusedVariables false
set_option linter.unusedSimpArgs false
set_option maxRecDepth 1000000
set_option maxHeartbeats 8000000
inductive SV : Spec
 | w {f : FuncId} {a : List V} {m : Mem2} {P : V → Mem2 → List Nat → Prop} (h : SW f a m P) : SV f a m P
 | known : SV 15 [] [] (pt (nB true) [] [])
theorem SV_good : Good SV := by
 refine ⟨fun f a m P h => ?_, fun f a m P h => ?_⟩
 · cases h with
   | w h => exact SW_good.ok _ _ _ _ h
   | known => exact known_m5 SW_good
 · cases h with
   | w h => exact SW_good.fn _ _ _ _ h
   | known => exact ⟨_, Try.func15, rfl, rfl⟩
attribute [local simp] eqEv be_02 be_124 bins0 bins01 bins02 bprg6 bprg26 bprg56 bprg0 eqpn eqnn MT_set10 MT_set11 st_MT10 st_MT11 rnT_c nlV nlV.nlL frzV frzL frzO pExt encI_len k2_s chunk encI_len cv53 shp0c pExt Prg.cells ldQ g1R obQ stQ s1Q ix3 ia3 ia28 bi3 bs0 bs01 bs02 bs012 bs013 bs014 bs0134 bs01234 bw1 bw2 bw3 rn_ptr rn_sl rn_any posOf encE_len ia_evts ld_evt Evt.cells Res.cells endR
theorem rounds_m (hG : Good SV) (l : List (List Int)) (hl8 : ∀ r ∈ l, ∀ x ∈ r, 0 ≤ x ∧ x < 256) (hll : l.length ≤ 9223372036854775807) (hlr : ∀ r ∈ l, r.length ≤ 9223372036854775807) (n : Int) (hn0 : 0 ≤ n) (hn1 : n < 256) : Meets 9 [.c (.ls (encR l)), nU n] ([]) (pt (nB true) [] []) := by
 refine meets hG Try.func9 rfl rfl ?_
 show Awp (env _ _) _ _ ((Try.f9).body.getD .skip) _ _
 unfold Try.f9
 dsimp only [Option.getD_some]
 unfold start
 generalize hQ : endA _ _ _ _ _ = Q
 have hok := makeM_ok hl8
 have hs := makeM_s hl8
 have hmk := SV.w (SW.make l hl8 hll hlr)
 generalize makeM l = p at *
 obtain ⟨hC, hlen⟩ := roundI_c p n.toNat
 have hfull := roundI_full hs n.toNat
 have hO := (roundI_ok hs n.toNat).1
 have hrd := SV.w (SW.round p hok hs _ .full n hn0 (by omega))
 generalize (roundI p n.toNat).1 = R at *
 have hrn := SV.w (SW.run p hok hs _ .full R.picks (by omega))
 rw [hC.again] at hrn
 have h1 : (endR R).prints.length < 1000000 := by have := hO.bd.told; show R.s.told.length < _; omega
 have h2 : (endR R).picks.length < 1000000 := by show R.picks.length < _; omega
 have h3 : (endR R).trace.length < 1000000 := by show R.trace.length < _; rw [hC.len]; omega
 have hsm := SV.w (SW.same (endR R) (endR R) h1 h2 h3 h1 h2 h3)
 rw [decide_eq_true rfl] at hsm
 have hkn := SV.known
 have hle : ((R.picks.length : Int) ≤ n) := by omega
 have hwn : IntKind.i64.wrap n = n := wrap_small (by omega) (by omega)
 have hend : ((R.picks.length : Int) = n) ∨ ¬ ((R.picks.length : Int) = n) ∧ ¬ (statF R.s = 0) := by
  by_cases e : (R.picks.length : Int) = n
  · exact .inl e
  · rcases hfull with h | h
    · exact absurd (by omega) e
    · exact .inr ⟨e, h⟩
 clear hfull hC hO h1 h2 h3 hlen hs hok hl8 hll hlr
 rcases hend with hend | ⟨hend, hst⟩
 all_goals
  repeat' (first
  | refine Awp_sqG fun K hK => ?_
  | (refine Awp_reg rfl fun K hK => ?_; simp [*])
  | (refine Awp_regD [] rfl rfl fun K hK => ?_; simp [*])
  | (refine WG_br (fun h => ?_) (fun h => ?_) <;> (have h' := h; try simp at h'; simp [*]))
  | (refine RG_br (fun h => ?_) (fun h => ?_) <;> (have h' := h; try simp at h'; simp [*]))
  | (refine wl_litF rfl ?_; try simp [*])
  | (refine call_0 hmk rfl rfl ?_; try simp [*])
  | (refine call_0 hrd rfl rfl ?_; try simp [*])
  | (refine call_0 hrn rfl rfl ?_; try simp [*])
  | (refine call_0 hsm rfl rfl ?_; try simp [*])
  | (refine call_0 hkn rfl rfl ?_; try simp [*])
  | refine Gq.here ?_
  | refine And.intro (by omega) ?_
  | (refine wl_box rfl ?_; simp [*])
  | (refine wl_alloc rfl ?_; simp [*])
  | (refine wr_box rfl ?_; simp [*])
  | (refine wr_alloc rfl ?_; simp [*])
  | (refine wl_store ?_; simp [*])
  | (refine wr_store ?_; simp [*])
  | (show Wl _ _ _ _ _ _; simp [*])
  | (show Wr _ _ _ _ _ _ _; simp [*])
  | (refine kont hK ?_; clear hK K)
  | refine kont (by assumption) ?_
  | with_reducible refine thenA_n ?_
  | with_reducible refine thenA_r ?_
  | with_reducible refine thenA_e ?_
  | with_reducible refine blockA_n ?_
  | with_reducible refine blockA_r ?_
  | with_reducible refine blockA_e ?_
  | with_reducible refine blockA_o rfl ?_
  | refine Awp_ifT rfl ?_
  | refine Awp_ifF rfl ?_
  | (refine Awp_if rfl (fun h => ?_) (fun h => ?_) <;> ((have h' := h; try simp at h') <;> try (have h2 := h; simp only [decide_eq_false_iff_not] at h2)))
  | with_reducible refine noGo_n ?_
  | with_reducible refine noGo_r ?_
  | with_reducible refine noGo_e ?_
  | with_reducible refine Awp_scope ?_
  | with_reducible refine Awp_label ?_
  | with_reducible refine Awp_ret ?_
  | with_reducible refine Awp_skip ?_
  | with_reducible refine Awp_exit ?_
  | with_reducible refine Awp_block ?_)

 all_goals (subst hQ; refine endA_rL [] rfl rfl rfl rfl rfl ⟨?_, rfl⟩; first | rfl | (simp [*]; done))

end Go.Proofs.YtogfcpaalcebdaaE
