/- Runs: results alike. -/
import Derived.Test.YtogfcpaalcebdaaCEPlay3
namespace Go.Proofs.YtogfcpaalcebdaaE
open Go Go.RowKit
set_option linter.unusedVariables false
set_option linter.unusedSimpArgs false
set_option maxRecDepth 1000000
set_option maxHeartbeats 8000000
theorem bneI {x y : Int} : (x != y) = !decide (x = y) := rfl
theorem eqEvt {x y : Evt} : eqB tab 41 (.agg x.cells) (.agg y.cells) = some (decide (x = y)) := by
 show some (x.th == y.th && (x.pc == y.pc && (x.op == y.op && (x.obj == y.obj && (x.val == y.val && (x.mode == y.mode && true)))))) = _
 obtain ⟨a0, a1, a2, a3, a4, a5⟩ := x
 obtain ⟨b0, b1, b2, b3, b4, b5⟩ := y
 refine congrArg some (Bool.eq_iff_iff.2 ?_)
 simp only [Bool.and_eq_true, beq_iff_eq, decide_eq_true_eq, Evt.mk.injEq, and_true]
theorem take_eq_end {α : Type} {a b : List α} (hl : a.length = b.length) (h : a.take a.length = b.take a.length) : a = b := by
 rw [List.take_length, hl, List.take_length] at h
 exact h
theorem take_eq_next {α : Type} {a b : List α} {j : Nat} {x : α} (h : a.take j = b.take j) (hx : a[j]? = some x) (hy : b[j]? = some x) : a.take (j + 1) = b.take (j + 1) := by
 rw [List.take_add_one, List.take_add_one, h, hx, hy]
theorem get_ne {α : Type} {a b : List α} {j : Nat} {x y : α} (hx : a[j]? = some x) (hy : b[j]? = some y) (h : ¬ x = y) : ¬ a = b := fun e => h (by rw [e, hy] at hx; exact (Option.some.inj hx).symm)
attribute [local simp] eqEv be_02 be_124 bins0 bins01 bins02 bprg6 bprg26 bprg56 bprg0 eqpn eqnn MT_set10 MT_set11 st_MT10 st_MT11 rnT_c nlV nlV.nlL frzV frzL frzO pExt encI_len k2_s chunk encI_len cv53 shp0c pExt Prg.cells ldQ g1R obQ stQ s1Q ix3 ia3 ia28 bi3 bs0 bs01 bs02 bs012 bs013 bs014 bs0134 bs01234 bw1 bw2 bw3 rn_ptr rn_sl rn_any posOf encE_len ia_evts ld_evt eqEvt bneI
theorem nums_m {S : Spec} (hG : Good S) (a b : List Int) (ha : a.length < 1000000) (hb : b.length < 1000000) : Meets 28 [.c (.ls (encI a)), .c (.ls (encI b))] ([]) (pt (nB (decide (a = b))) [] []) := by
 refine meets hG Try.func28 rfl rfl ?_
 show Awp (env _ _) _ _ ((Try.f28).body.getD .skip) _ _
 unfold Try.f28
 dsimp only [Option.getD_some]
 unfold start
 generalize hQ : endA _ _ _ _ _ = Q
 by_cases hll : a.length = b.length
 case neg =>
  have hn : ¬ (a = b) := fun e => hll (by rw [e])
  have hll' : ¬ ((a.length : Int) = (b.length : Int)) := by omega
  repeat' (first
  | refine Awp_sqG fun K hK => ?_
  | (refine Awp_reg rfl fun K hK => ?_; simp [*])
  | (refine Awp_regD [] rfl rfl fun K hK => ?_; simp [*])
  | (refine WG_br (fun h => ?_) (fun h => ?_) <;> (have h' := h; try simp at h'; simp [*]))
  | (refine RG_br (fun h => ?_) (fun h => ?_) <;> (have h' := h; try simp at h'; simp [*]))
  | (refine wl_litF rfl ?_; try simp [*])
  | refine Gq.here ?_
  | refine And.intro (by omega) ?_
  | (refine wl_box rfl ?_; simp [*])
  | (refine wl_alloc rfl ?_; simp [*])
  | (refine wr_box rfl ?_; simp [*])
  | (refine wr_alloc rfl ?_; simp [*])
  | (refine wl_store ?_; simp [*])
  | (refine wr_store ?_; simp [*])
  | (show Wl _ _ _ _ _ _; simp [*])
  | (show Wr _ _ _ _ _ _ _; simp [*])
  | (refine kont hK ?_; clear hK K)
  | refine kont (by assumption) ?_
  | with_reducible refine thenA_n ?_
  | with_reducible refine thenA_r ?_
  | with_reducible refine thenA_e ?_
  | with_reducible refine blockA_n ?_
  | with_reducible refine blockA_r ?_
  | with_reducible refine blockA_e ?_
  | with_reducible refine blockA_o rfl ?_
  | refine Awp_ifT rfl ?_
  | refine Awp_ifF rfl ?_
  | (refine Awp_if rfl (fun h => ?_) (fun h => ?_) <;> ((have h' := h; try simp at h') <;> try (have h2 := h; simp only [decide_eq_false_iff_not] at h2)))
  | with_reducible refine noGo_n ?_
  | with_reducible refine noGo_r ?_
  | with_reducible refine noGo_e ?_
  | with_reducible refine Awp_scope ?_
  | with_reducible refine Awp_label ?_
  | with_reducible refine Awp_ret ?_
  | with_reducible refine Awp_skip ?_
  | with_reducible refine Awp_exit ?_
  | with_reducible refine Awp_block ?_)
  all_goals (subst hQ; refine endA_rL [] rfl rfl rfl rfl rfl ⟨?_, rfl⟩; simp [*])
 have hll' : ((a.length : Int) = (b.length : Int)) := by omega
 repeat' (first
 | refine Awp_sqG fun K hK => ?_
 | (refine Awp_reg rfl fun K hK => ?_; simp [*])
 | (refine Awp_regD [] rfl rfl fun K hK => ?_; simp [*])
 | (refine WG_br (fun h => ?_) (fun h => ?_) <;> (have h' := h; try simp at h'; simp [*]))
 | (refine RG_br (fun h => ?_) (fun h => ?_) <;> (have h' := h; try simp at h'; simp [*]))
 | (refine wl_litF rfl ?_; try simp [*])
 | refine Gq.here ?_
 | refine And.intro (by omega) ?_
 | (refine wl_box rfl ?_; simp [*])
 | (refine wl_alloc rfl ?_; simp [*])
 | (refine wr_box rfl ?_; simp [*])
 | (refine wr_alloc rfl ?_; simp [*])
 | (refine wl_store ?_; simp [*])
 | (refine wr_store ?_; simp [*])
 | (show Wl _ _ _ _ _ _; simp [*])
 | (show Wr _ _ _ _ _ _ _; simp [*])
 | (refine kont hK ?_; clear hK K)
 | refine kont (by assumption) ?_
 | with_reducible refine thenA_n ?_
 | with_reducible refine thenA_r ?_
 | with_reducible refine thenA_e ?_
 | with_reducible refine blockA_n ?_
 | with_reducible refine blockA_r ?_
 | with_reducible refine blockA_e ?_
 | with_reducible refine blockA_o rfl ?_
 | refine Awp_ifT rfl ?_
 | refine Awp_ifF rfl ?_
 | (refine Awp_if rfl (fun h => ?_) (fun h => ?_) <;> ((have h' := h; try simp at h') <;> try (have h2 := h; simp only [decide_eq_false_iff_not] at h2)))
 | with_reducible refine noGo_n ?_
 | with_reducible refine noGo_r ?_
 | with_reducible refine noGo_e ?_
 | with_reducible refine Awp_scope ?_
 | with_reducible refine Awp_label ?_
 | with_reducible refine Awp_ret ?_
 | with_reducible refine Awp_skip ?_
 | with_reducible refine Awp_exit ?_
 | with_reducible refine Awp_block ?_)
 refine Awp_loop (fun s => ∃ j : Nat, j ≤ a.length ∧ a.take j = b.take j ∧ s.m = [] ∧ s.A 0 = .c (.ls (encI a)) ∧ s.A 1 = .c (.ls (encI b)) ∧ s.A 5 = nI j) (fun s => match s.A 5 with | .c (.sc (.int _ n)) => a.length - n.toNat | _ => 0) (Gq.here ?_) (fun s hs2 => ?_)
 · refine ⟨0, Nat.zero_le _, rfl, ?_, ?_, ?_, ?_⟩ <;> first | rfl | (simp [*]; done)
 obtain ⟨A, m⟩ := s
 obtain ⟨j, hj, htk, hm, e0, e1, ei⟩ := hs2
 dsimp only at hm e0 e1 ei
 subst hm
 by_cases hlt : j < a.length
 case neg =>
  have hjl : j = a.length := by omega
  subst hjl
  have hab := take_eq_end hll htk
  clear hlt hj htk
  repeat' (first
  | refine Awp_sqG fun K hK => ?_
  | (refine Awp_reg rfl fun K hK => ?_; simp [*])
  | (refine Awp_regD [] rfl rfl fun K hK => ?_; simp [*])
  | (refine WG_br (fun h => ?_) (fun h => ?_) <;> (have h' := h; try simp at h'; simp [*]))
  | (refine RG_br (fun h => ?_) (fun h => ?_) <;> (have h' := h; try simp at h'; simp [*]))
  | (refine wl_litF rfl ?_; try simp [*])
  | refine Gq.here ?_
  | refine And.intro (by omega) ?_
  | (refine wl_box rfl ?_; simp [*])
  | (refine wl_alloc rfl ?_; simp [*])
  | (refine wr_box rfl ?_; simp [*])
  | (refine wr_alloc rfl ?_; simp [*])
  | (refine wl_store ?_; simp [*])
  | (refine wr_store ?_; simp [*])
  | (show Wl _ _ _ _ _ _; simp [*])
  | (show Wr _ _ _ _ _ _ _; simp [*])
  | (refine kont hK ?_; clear hK K)
  | refine kont (by assumption) ?_
  | with_reducible refine thenA_n ?_
  | with_reducible refine thenA_r ?_
  | with_reducible refine thenA_e ?_
  | with_reducible refine blockA_n ?_
  | with_reducible refine blockA_r ?_
  | with_reducible refine blockA_e ?_
  | with_reducible refine blockA_o rfl ?_
  | refine Awp_ifT rfl ?_
  | refine Awp_ifF rfl ?_
  | (refine Awp_if rfl (fun h => ?_) (fun h => ?_) <;> ((have h' := h; try simp at h') <;> try (have h2 := h; simp only [decide_eq_false_iff_not] at h2)))
  | with_reducible refine noGo_n ?_
  | with_reducible refine noGo_r ?_
  | with_reducible refine noGo_e ?_
  | with_reducible refine Awp_scope ?_
  | with_reducible refine Awp_label ?_
  | with_reducible refine Awp_ret ?_
  | with_reducible refine Awp_skip ?_
  | with_reducible refine Awp_exit ?_
  | with_reducible refine Awp_block ?_)
  all_goals (subst hQ; refine endA_rL [] rfl rfl rfl rfl rfl ⟨?_, rfl⟩; simp [*])
 have hlt' : ((j : Int) < (a.length : Int)) := by omega
 have hlt2 : ((j : Int) < (b.length : Int)) := by omega
 obtain ⟨x, hx1⟩ : ∃ x, a[j]? = some x := ⟨a[j], by simp [hlt]⟩
 obtain ⟨y, hy1⟩ : ∃ y, b[j]? = some y := ⟨b[j]'(by omega), by simp [show j < b.length by omega]⟩
 have hx2 : a[(j : Int).toNat]? = some x := hx1
 have hy2 : b[(j : Int).toNat]? = some y := hy1
 have hj0 : (0 : Int) ≤ (j : Int) := by omega
 have hdec : a.length - (j + 1) < a.length - j := by omega
 have hwj : IntKind.i64.wrap ((j : Int) + 1) = (j : Int) + 1 := wrap_small (by omega) (by omega)
 have hj1 : j + 1 ≤ a.length := by omega
 by_cases hxy : x = y
 case neg =>
  have hn := get_ne hx1 hy1 hxy
  clear hlt hj hll htk
  repeat' (first
  | refine Awp_sqG fun K hK => ?_
  | (refine Awp_reg rfl fun K hK => ?_; simp [*])
  | (refine Awp_regD [] rfl rfl fun K hK => ?_; simp [*])
  | (refine WG_br (fun h => ?_) (fun h => ?_) <;> (have h' := h; try simp at h'; simp [*]))
  | (refine RG_br (fun h => ?_) (fun h => ?_) <;> (have h' := h; try simp at h'; simp [*]))
  | (refine wl_litF rfl ?_; try simp [*])
  | refine Gq.here ?_
  | refine And.intro (by omega) ?_
  | (refine wl_box rfl ?_; simp [*])
  | (refine wl_alloc rfl ?_; simp [*])
  | (refine wr_box rfl ?_; simp [*])
  | (refine wr_alloc rfl ?_; simp [*])
  | (refine wl_store ?_; simp [*])
  | (refine wr_store ?_; simp [*])
  | (show Wl _ _ _ _ _ _; simp [*])
  | (show Wr _ _ _ _ _ _ _; simp [*])
  | (refine kont hK ?_; clear hK K)
  | refine kont (by assumption) ?_
  | with_reducible refine thenA_n ?_
  | with_reducible refine thenA_r ?_
  | with_reducible refine thenA_e ?_
  | with_reducible refine blockA_n ?_
  | with_reducible refine blockA_r ?_
  | with_reducible refine blockA_e ?_
  | with_reducible refine blockA_o rfl ?_
  | refine Awp_ifT rfl ?_
  | refine Awp_ifF rfl ?_
  | (refine Awp_if rfl (fun h => ?_) (fun h => ?_) <;> ((have h' := h; try simp at h') <;> try (have h2 := h; simp only [decide_eq_false_iff_not] at h2)))
  | with_reducible refine noGo_n ?_
  | with_reducible refine noGo_r ?_
  | with_reducible refine noGo_e ?_
  | with_reducible refine Awp_scope ?_
  | with_reducible refine Awp_label ?_
  | with_reducible refine Awp_ret ?_
  | with_reducible refine Awp_skip ?_
  | with_reducible refine Awp_exit ?_
  | with_reducible refine Awp_block ?_)
  all_goals (subst hQ; refine endA_rL [] rfl rfl rfl rfl rfl ⟨?_, rfl⟩; simp [*])
 subst hxy
 have htk2 := take_eq_next htk hx1 hy1
 clear hlt hj htk hll
 repeat' (first
 | refine Awp_sq fun K hK => ?_
 | (refine Awp_reg rfl fun K hK => ?_; simp [*])
 | (refine Awp_regD [] rfl rfl fun K hK => ?_; simp [*])
 | (refine WG_br (fun h => ?_) (fun h => ?_) <;> (have h' := h; try simp at h'; simp [*]))
 | (refine RG_br (fun h => ?_) (fun h => ?_) <;> (have h' := h; try simp at h'; simp [*]))
 | (refine wl_litF rfl ?_; try simp [*])
 | refine And.intro (by omega) ?_
 | (refine wl_box rfl ?_; simp [*])
 | (refine wl_alloc rfl ?_; simp [*])
 | (refine wr_box rfl ?_; simp [*])
 | (refine wr_alloc rfl ?_; simp [*])
 | (refine wl_store ?_; simp [*])
 | (refine wr_store ?_; simp [*])
 | (show Wl _ _ _ _ _ _; simp [*])
 | (show Wr _ _ _ _ _ _ _; simp [*])
 | (refine kont hK ?_; clear hK K)
 | refine kont (by assumption) ?_
 | with_reducible refine thenA_n ?_
 | with_reducible refine thenA_r ?_
 | with_reducible refine thenA_e ?_
 | with_reducible refine blockA_n ?_
 | with_reducible refine blockA_r ?_
 | with_reducible refine blockA_e ?_
 | with_reducible refine blockA_o rfl ?_
 | refine Awp_ifT rfl ?_
 | refine Awp_ifF rfl ?_
 | (refine Awp_if rfl (fun h => ?_) (fun h => ?_) <;> ((have h' := h; try simp at h') <;> try (have h2 := h; simp only [decide_eq_false_iff_not] at h2)))
 | with_reducible refine noGo_n ?_
 | with_reducible refine noGo_r ?_
 | with_reducible refine noGo_e ?_
 | with_reducible refine Awp_scope ?_
 | with_reducible refine Awp_label ?_
 | with_reducible refine Awp_ret ?_
 | with_reducible refine Awp_skip ?_
 | with_reducible refine Awp_exit ?_
 | with_reducible refine Awp_block ?_)
 all_goals (refine Gq.here ⟨⟨j + 1, hj1, htk2, ?_, ?_, ?_, ?_⟩, ?_⟩ <;> first | rfl | (simp [*]; done) | (simp [*]; omega))

inductive SN : Spec
 | nums (a b : List Int) (ha : a.length < 1000000) (hb : b.length < 1000000) : SN 28 [.c (.ls (encI a)), .c (.ls (encI b))] [] (pt (nB (decide (a = b))) [] [])
theorem SN_good : Good SN := by
 refine ⟨fun f a m P h => ?_, fun f a m P h => ?_⟩
 · cases h with
   | nums a b ha hb => exact nums_m Good.none a b ha hb
 · cases h with
   | nums a b ha hb => exact ⟨_, Try.func28, rfl, rfl⟩
theorem same_m (hG : Good SN) (a b : Res) (h1 : a.prints.length < 1000000) (h2 : a.picks.length < 1000000) (h3 : a.trace.length < 1000000) (h4 : b.prints.length < 1000000) (h5 : b.picks.length < 1000000) (h6 : b.trace.length < 1000000) : Meets 18 [.agg a.cells, .agg b.cells] ([]) (pt (nB (decide (a = b))) [] []) := by
 refine meets hG Try.func18 rfl rfl ?_
 show Awp (env _ _) _ _ ((Try.f18).body.getD .skip) _ _
 unfold Try.f18
 dsimp only [Option.getD_some]
 unfold start
 generalize hQ : endA _ _ _ _ _ = Q
 unfold Res.cells at *
 by_cases hst : a.status = b.status ∧ a.prints = b.prints ∧ a.picks = b.picks ∧ a.trace.length = b.trace.length
 case neg =>
  have hn : ¬ (a = b) := fun e => hst (by rw [e]; exact ⟨rfl, rfl, rfl, rfl⟩)
  have hcs : ¬ (a.status = b.status) ∨ ¬ (a.prints = b.prints) ∨ ¬ (a.picks = b.picks) ∨ ¬ ((a.trace.length : Int) = (b.trace.length : Int)) := by
   by_cases c1 : a.status = b.status
   · by_cases c2 : a.prints = b.prints
     · by_cases c3 : a.picks = b.picks
       · exact .inr (.inr (.inr fun e => hst ⟨c1, c2, c3, by omega⟩))
       · exact .inr (.inr (.inl c3))
     · exact .inr (.inl c2)
   · exact .inl c1
  clear hst
  by_cases c1 : a.status = b.status <;> by_cases c2 : a.prints = b.prints <;> by_cases c3 : a.picks = b.picks <;> by_cases c4 : (a.trace.length : Int) = (b.trace.length : Int) <;> first | (exfalso; simp [c1, c2, c3, c4] at hcs; done) | skip
  all_goals clear hcs
  all_goals
   repeat' (first
   | refine Awp_sqG fun K hK => ?_
   | (refine Awp_reg rfl fun K hK => ?_; simp [*])
   | (refine Awp_regD [] rfl rfl fun K hK => ?_; simp [*])
   | (refine WG_br (fun h => ?_) (fun h => ?_) <;> (have h' := h; try simp at h'; simp [*]))
   | (refine RG_br (fun h => ?_) (fun h => ?_) <;> (have h' := h; try simp at h'; simp [*]))
   | (refine wl_litF rfl ?_; try simp [*])
   | (refine call_0 (SN.nums _ _ (by assumption) (by assumption)) rfl rfl ?_; try simp [*])
   | refine Gq.here ?_
   | refine And.intro (by omega) ?_
   | (refine wl_box rfl ?_; simp [*])
   | (refine wl_alloc rfl ?_; simp [*])
   | (refine wr_box rfl ?_; simp [*])
   | (refine wr_alloc rfl ?_; simp [*])
   | (refine wl_store ?_; simp [*])
   | (refine wr_store ?_; simp [*])
   | (show Wl _ _ _ _ _ _; simp [*])
   | (show Wr _ _ _ _ _ _ _; simp [*])
   | (refine kont hK ?_; clear hK K)
   | refine kont (by assumption) ?_
   | with_reducible refine thenA_n ?_
   | with_reducible refine thenA_r ?_
   | with_reducible refine thenA_e ?_
   | with_reducible refine blockA_n ?_
   | with_reducible refine blockA_r ?_
   | with_reducible refine blockA_e ?_
   | with_reducible refine blockA_o rfl ?_
   | refine Awp_ifT rfl ?_
   | refine Awp_ifF rfl ?_
   | (refine Awp_if rfl (fun h => ?_) (fun h => ?_) <;> ((have h' := h; try simp at h') <;> try (have h2 := h; simp only [decide_eq_false_iff_not] at h2)))
   | with_reducible refine noGo_n ?_
   | with_reducible refine noGo_r ?_
   | with_reducible refine noGo_e ?_
   | with_reducible refine Awp_scope ?_
   | with_reducible refine Awp_label ?_
   | with_reducible refine Awp_ret ?_
   | with_reducible refine Awp_skip ?_
   | with_reducible refine Awp_exit ?_
   | with_reducible refine Awp_block ?_)
  all_goals (subst hQ; refine endA_rL [] rfl rfl rfl rfl rfl ⟨?_, rfl⟩; simp [*])
 obtain ⟨c1, c2, c3, hll⟩ := hst
 have hll' : ((a.trace.length : Int) = (b.trace.length : Int)) := by omega
 repeat' (first
 | refine Awp_sqG fun K hK => ?_
 | (refine Awp_reg rfl fun K hK => ?_; simp [*])
 | (refine Awp_regD [] rfl rfl fun K hK => ?_; simp [*])
 | (refine WG_br (fun h => ?_) (fun h => ?_) <;> (have h' := h; try simp at h'; simp [*]))
 | (refine RG_br (fun h => ?_) (fun h => ?_) <;> (have h' := h; try simp at h'; simp [*]))
 | (refine wl_litF rfl ?_; try simp [*])
 | (refine call_0 (SN.nums _ _ (by assumption) (by assumption)) rfl rfl ?_; try simp [*])
 | refine Gq.here ?_
 | refine And.intro (by omega) ?_
 | (refine wl_box rfl ?_; simp [*])
 | (refine wl_alloc rfl ?_; simp [*])
 | (refine wr_box rfl ?_; simp [*])
 | (refine wr_alloc rfl ?_; simp [*])
 | (refine wl_store ?_; simp [*])
 | (refine wr_store ?_; simp [*])
 | (show Wl _ _ _ _ _ _; simp [*])
 | (show Wr _ _ _ _ _ _ _; simp [*])
 | (refine kont hK ?_; clear hK K)
 | refine kont (by assumption) ?_
 | with_reducible refine thenA_n ?_
 | with_reducible refine thenA_r ?_
 | with_reducible refine thenA_e ?_
 | with_reducible refine blockA_n ?_
 | with_reducible refine blockA_r ?_
 | with_reducible refine blockA_e ?_
 | with_reducible refine blockA_o rfl ?_
 | refine Awp_ifT rfl ?_
 | refine Awp_ifF rfl ?_
 | (refine Awp_if rfl (fun h => ?_) (fun h => ?_) <;> ((have h' := h; try simp at h') <;> try (have h2 := h; simp only [decide_eq_false_iff_not] at h2)))
 | with_reducible refine noGo_n ?_
 | with_reducible refine noGo_r ?_
 | with_reducible refine noGo_e ?_
 | with_reducible refine Awp_scope ?_
 | with_reducible refine Awp_label ?_
 | with_reducible refine Awp_ret ?_
 | with_reducible refine Awp_skip ?_
 | with_reducible refine Awp_exit ?_
 | with_reducible refine Awp_block ?_)
 refine Awp_loop (fun s => ∃ j : Nat, j ≤ a.trace.length ∧ a.trace.take j = b.trace.take j ∧ s.m = [some (.box [.c (.ls (encI a.prints)), nU a.status, .c (.ls (encI a.picks)), .c (.ls (encE a.trace))]), some (.box [.c (.ls (encI b.prints)), nU b.status, .c (.ls (encI b.picks)), .c (.ls (encE b.trace))])] ∧ s.A 2 = .ptr 0 0 0 ∧ s.A 3 = .ptr 1 0 0 ∧ s.A 5 = nI j) (fun s => match s.A 5 with | .c (.sc (.int _ n)) => a.trace.length - n.toNat | _ => 0) (Gq.here ?_) (fun s hs2 => ?_)
 · refine ⟨0, Nat.zero_le _, rfl, ?_, ?_, ?_, ?_⟩ <;> first | rfl | (simp [*]; done)
 obtain ⟨A, m⟩ := s
 obtain ⟨j, hj, htk, hm, e0, e1, ei⟩ := hs2
 dsimp only at hm e0 e1 ei
 subst hm
 by_cases hlt : j < a.trace.length
 case neg =>
  have hjl : j = a.trace.length := by omega
  subst hjl
  have hab := take_eq_end hll htk
  clear hlt hj htk
  have hR : a = b := by obtain ⟨a1, a2, a3, a4⟩ := a; obtain ⟨b1, b2, b3, b4⟩ := b; dsimp only at c1 c2 c3 hab; subst c1 c2 c3 hab; rfl
  repeat' (first
  | refine Awp_sqG fun K hK => ?_
  | (refine Awp_reg rfl fun K hK => ?_; simp [*])
  | (refine Awp_regD [] rfl rfl fun K hK => ?_; simp [*])
  | (refine WG_br (fun h => ?_) (fun h => ?_) <;> (have h' := h; try simp at h'; simp [*]))
  | (refine RG_br (fun h => ?_) (fun h => ?_) <;> (have h' := h; try simp at h'; simp [*]))
  | (refine wl_litF rfl ?_; try simp [*])
  | refine Gq.here ?_
  | refine And.intro (by omega) ?_
  | (refine wl_box rfl ?_; simp [*])
  | (refine wl_alloc rfl ?_; simp [*])
  | (refine wr_box rfl ?_; simp [*])
  | (refine wr_alloc rfl ?_; simp [*])
  | (refine wl_store ?_; simp [*])
  | (refine wr_store ?_; simp [*])
  | (show Wl _ _ _ _ _ _; simp [*])
  | (show Wr _ _ _ _ _ _ _; simp [*])
  | (refine kont hK ?_; clear hK K)
  | refine kont (by assumption) ?_
  | with_reducible refine thenA_n ?_
  | with_reducible refine thenA_r ?_
  | with_reducible refine thenA_e ?_
  | with_reducible refine blockA_n ?_
  | with_reducible refine blockA_r ?_
  | with_reducible refine blockA_e ?_
  | with_reducible refine blockA_o rfl ?_
  | refine Awp_ifT rfl ?_
  | refine Awp_ifF rfl ?_
  | (refine Awp_if rfl (fun h => ?_) (fun h => ?_) <;> ((have h' := h; try simp at h') <;> try (have h2 := h; simp only [decide_eq_false_iff_not] at h2)))
  | with_reducible refine noGo_n ?_
  | with_reducible refine noGo_r ?_
  | with_reducible refine noGo_e ?_
  | with_reducible refine Awp_scope ?_
  | with_reducible refine Awp_label ?_
  | with_reducible refine Awp_ret ?_
  | with_reducible refine Awp_skip ?_
  | with_reducible refine Awp_exit ?_
  | with_reducible refine Awp_block ?_)
  all_goals (subst hQ; refine endA_rL [] rfl rfl rfl rfl rfl ⟨?_, rfl⟩; simp [hR])
 have hlt' : ((j : Int) < (a.trace.length : Int)) := by omega
 have hlt2 : ((j : Int) < (b.trace.length : Int)) := by omega
 obtain ⟨x, hx1⟩ : ∃ x, a.trace[j]? = some x := ⟨a.trace[j], by simp [hlt]⟩
 obtain ⟨y, hy1⟩ : ∃ y, b.trace[j]? = some y := ⟨b.trace[j]'(by omega), by simp [show j < b.trace.length by omega]⟩
 have hx2 : a.trace[(j : Int).toNat]? = some x := hx1
 have hy2 : b.trace[(j : Int).toNat]? = some y := hy1
 have hj0 : (0 : Int) ≤ (j : Int) := by omega
 have hdec : a.trace.length - (j + 1) < a.trace.length - j := by omega
 have hwj : IntKind.i64.wrap ((j : Int) + 1) = (j : Int) + 1 := wrap_small (by omega) (by omega)
 have hj1 : j + 1 ≤ a.trace.length := by omega
 by_cases hxy : x = y
 case neg =>
  have hn : ¬ (a = b) := fun e => get_ne hx1 hy1 hxy (by rw [e])
  clear hlt hj hll htk c1 c2 c3 hll'
  repeat' (first
  | refine Awp_sqG fun K hK => ?_
  | (refine Awp_reg rfl fun K hK => ?_; simp [*])
  | (refine Awp_regD [] rfl rfl fun K hK => ?_; simp [*])
  | (refine WG_br (fun h => ?_) (fun h => ?_) <;> (have h' := h; try simp at h'; simp [*]))
  | (refine RG_br (fun h => ?_) (fun h => ?_) <;> (have h' := h; try simp at h'; simp [*]))
  | (refine wl_litF rfl ?_; try simp [*])
  | refine Gq.here ?_
  | refine And.intro (by omega) ?_
  | (refine wl_box rfl ?_; simp [*])
  | (refine wl_alloc rfl ?_; simp [*])
  | (refine wr_box rfl ?_; simp [*])
  | (refine wr_alloc rfl ?_; simp [*])
  | (refine wl_store ?_; simp [*])
  | (refine wr_store ?_; simp [*])
  | (show Wl _ _ _ _ _ _; simp [*])
  | (show Wr _ _ _ _ _ _ _; simp [*])
  | (refine kont hK ?_; clear hK K)
  | refine kont (by assumption) ?_
  | with_reducible refine thenA_n ?_
  | with_reducible refine thenA_r ?_
  | with_reducible refine thenA_e ?_
  | with_reducible refine blockA_n ?_
  | with_reducible refine blockA_r ?_
  | with_reducible refine blockA_e ?_
  | with_reducible refine blockA_o rfl ?_
  | refine Awp_ifT rfl ?_
  | refine Awp_ifF rfl ?_
  | (refine Awp_if rfl (fun h => ?_) (fun h => ?_) <;> ((have h' := h; try simp at h') <;> try (have h2 := h; simp only [decide_eq_false_iff_not] at h2)))
  | with_reducible refine noGo_n ?_
  | with_reducible refine noGo_r ?_
  | with_reducible refine noGo_e ?_
  | with_reducible refine Awp_scope ?_
  | with_reducible refine Awp_label ?_
  | with_reducible refine Awp_ret ?_
  | with_reducible refine Awp_skip ?_
  | with_reducible refine Awp_exit ?_
  | with_reducible refine Awp_block ?_)
  all_goals (subst hQ; refine endA_rL [] rfl rfl rfl rfl rfl ⟨?_, rfl⟩; simp [*])
 subst hxy
 have htk2 := take_eq_next htk hx1 hy1
 clear hlt hj htk hll c1 c2 c3 hll'
 repeat' (first
 | refine Awp_sq fun K hK => ?_
 | (refine Awp_reg rfl fun K hK => ?_; simp [*])
 | (refine Awp_regD [] rfl rfl fun K hK => ?_; simp [*])
 | (refine WG_br (fun h => ?_) (fun h => ?_) <;> (have h' := h; try simp at h'; simp [*]))
 | (refine RG_br (fun h => ?_) (fun h => ?_) <;> (have h' := h; try simp at h'; simp [*]))
 | (refine wl_litF rfl ?_; try simp [*])
 | refine And.intro (by omega) ?_
 | (refine wl_box rfl ?_; simp [*])
 | (refine wl_alloc rfl ?_; simp [*])
 | (refine wr_box rfl ?_; simp [*])
 | (refine wr_alloc rfl ?_; simp [*])
 | (refine wl_store ?_; simp [*])
 | (refine wr_store ?_; simp [*])
 | (show Wl _ _ _ _ _ _; simp [*])
 | (show Wr _ _ _ _ _ _ _; simp [*])
 | (refine kont hK ?_; clear hK K)
 | refine kont (by assumption) ?_
 | with_reducible refine thenA_n ?_
 | with_reducible refine thenA_r ?_
 | with_reducible refine thenA_e ?_
 | with_reducible refine blockA_n ?_
 | with_reducible refine blockA_r ?_
 | with_reducible refine blockA_e ?_
 | with_reducible refine blockA_o rfl ?_
 | refine Awp_ifT rfl ?_
 | refine Awp_ifF rfl ?_
 | (refine Awp_if rfl (fun h => ?_) (fun h => ?_) <;> ((have h' := h; try simp at h') <;> try (have h2 := h; simp only [decide_eq_false_iff_not] at h2)))
 | with_reducible refine noGo_n ?_
 | with_reducible refine noGo_r ?_
 | with_reducible refine noGo_e ?_
 | with_reducible refine Awp_scope ?_
 | with_reducible refine Awp_label ?_
 | with_reducible refine Awp_ret ?_
 | with_reducible refine Awp_skip ?_
 | with_reducible refine Awp_exit ?_
 | with_reducible refine Awp_block ?_)
 all_goals (refine Gq.here ⟨⟨j + 1, hj1, htk2, ?_, ?_, ?_, ?_⟩, ?_⟩ <;> first | rfl | (simp [*]; done) | (simp [*]; omega))

end Go.Proofs.YtogfcpaalcebdaaE
