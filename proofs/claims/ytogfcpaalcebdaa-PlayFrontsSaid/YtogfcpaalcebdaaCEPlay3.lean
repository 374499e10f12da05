/- Runs: play.Round. -/
import Derived.Test.YtogfcpaalcebdaaCEPlay2
namespace Go.Proofs.YtogfcpaalcebdaaE
open Go Go.RowKit
set_option linter.unusedVariables false
set_option linter.unusedSimpArgs false
set_option maxRecDepth 1000000
set_option maxHeartbeats 8000000
def nextI (τ : Sg) (n : Nat) (a : Int) : Nat → Nat → Option Int
 | 0, _ => none
 | f + 1, i => if can τ ((a + (i : Int)) % (n : Int)) = true then some ((a + (i : Int)) % (n : Int)) else nextI τ n a f (i + 1)
def findR (τ : Sg) (n : Nat) (a : Int) : Option Int := nextI τ n a n 0
theorem nextI_some {τ : Sg} {n : Nat} {a : Int} : ∀ (f i j : Nat), i ≤ j → j < i + f → (∀ q, i ≤ q → q < j → can τ ((a + (q : Int)) % (n : Int)) = false) → can τ ((a + (j : Int)) % (n : Int)) = true → nextI τ n a f i = some ((a + (j : Int)) % (n : Int))
 | 0, i, j, h1, h2, _, _ => by omega
 | f + 1, i, j, h1, h2, h3, h4 => by
  unfold nextI
  by_cases e : i = j
  · subst e; rw [if_pos h4]
  · rw [if_neg (by rw [h3 i (Nat.le_refl _) (by omega)]; decide)]
    exact nextI_some f (i + 1) j (by omega) (by omega) (fun q hq hq2 => h3 q (by omega) hq2) h4
theorem nextI_none {τ : Sg} {n : Nat} {a : Int} : ∀ (f i : Nat), (∀ q, i ≤ q → q < i + f → can τ ((a + (q : Int)) % (n : Int)) = false) → nextI τ n a f i = none
 | 0, i, _ => rfl
 | f + 1, i, h => by
  unfold nextI
  rw [if_neg (by rw [h i (Nat.le_refl _) (by omega)]; decide)]
  exact nextI_none f (i + 1) fun q h1 h2 => h q (by omega) (by omega)
theorem findR_some {τ : Sg} {n j : Nat} {a : Int} (hj : j < n) (h3 : ∀ q, q < j → can τ ((a + (q : Int)) % (n : Int)) = false) (h4 : can τ ((a + (j : Int)) % (n : Int)) = true) : findR τ n a = some ((a + (j : Int)) % (n : Int)) := nextI_some n 0 j (Nat.zero_le _) (by omega) (fun q _ h => h3 q h) h4
theorem findR_none {τ : Sg} {n : Nat} {a : Int} (h3 : ∀ q, q < n → can τ ((a + (q : Int)) % (n : Int)) = false) : findR τ n a = none := nextI_none n 0 (fun q _ h => h3 q (by omega))
theorem nextI_in {τ : Sg} {n : Nat} {a k : Int} (hn : 0 < n) : ∀ (f i : Nat), nextI τ n a f i = some k → 0 ≤ k ∧ k < (n : Int) ∧ can τ k = true
 | 0, i, h => by cases h
 | f + 1, i, h => by
  unfold nextI at h
  split at h
  · cases h
    exact ⟨Int.emod_nonneg _ (by omega), Int.emod_lt_of_pos _ (by omega), by assumption⟩
  · exact nextI_in hn f (i + 1) h
def roundI (p : Prg) : Nat → RunS × Int
 | 0 => (⟨initS p, [], []⟩, 0)
 | j + 1 => match findR (roundI p j).1.s p.code.length (roundI p j).2 with
 | some k => (pickR (roundI p j).1 k, k + 1)
 | none => roundI p j
theorem roundI_some {p : Prg} {j : Nat} {k : Int} (h : findR (roundI p j).1.s p.code.length (roundI p j).2 = some k) : roundI p (j + 1) = (pickR (roundI p j).1 k, k + 1) := by
 show (match findR (roundI p j).1.s p.code.length (roundI p j).2 with | some k => _ | none => _) = _
 rw [h]
theorem roundI_none {p : Prg} {j : Nat} (h : findR (roundI p j).1.s p.code.length (roundI p j).2 = none) : ∀ m, roundI p (j + m) = roundI p j
 | 0 => rfl
 | m + 1 => by
  have ih := roundI_none h m
  show (match findR (roundI p (j + m)).1.s p.code.length (roundI p (j + m)).2 with | some k => _ | none => roundI p (j + m)) = _
  rw [ih, h]
theorem roundI_ok {p : Prg} (hs : soundF p = 0) : ∀ j, RunOk p j (roundI p j).1 ∧ 0 ≤ (roundI p j).2 ∧ (roundI p j).2 ≤ (p.code.length : Int)
 | 0 => ⟨⟨init_bd hs, rfl, by simp [roundI, initS, initS0, setTh], init_strip p, Nat.le_refl _, Nat.le_refl _⟩, Int.le_refl _, Int.natCast_nonneg _⟩
 | j + 1 => by
  obtain ⟨h1, h2, h3⟩ := roundI_ok hs j
  obtain ⟨v1, a1, l1, g1, o1, c1, k1, ln, cs, hc⟩ := sound_in hs
  cases hf : findR (roundI p j).1.s p.code.length (roundI p j).2 with
  | none =>
   rw [show roundI p (j + 1) = roundI p j from roundI_none hf 1]
   exact ⟨⟨h1.bd.mono (by omega), h1.pp, h1.th, h1.st, by have := h1.np; omega, by have := h1.nt; omega⟩, h2, h3⟩
  | some k =>
   rw [roundI_some hf]
   have := nextI_in (by omega) _ _ hf
   exact ⟨pickR_ok h1 k, by show 0 ≤ k + 1; omega, by show k + 1 ≤ _; omega⟩
def roundP (p : Prg) (most : Int) : Res × Int := if soundF p ≠ 0 then (Res.zero, 1) else if most < 0 ∨ 2000 < most then (Res.zero, 3) else (endR (roundI p most.toNat).1, 0)
attribute [local simp] eqEv be_02 be_124 bins0 bins01 bins02 bprg6 bprg26 bprg56 bprg0 eqpn eqnn MT_set10 MT_set11 st_MT10 st_MT11 rnT_c nlV nlV.nlL frzV frzL frzO pExt encI_len k2_s chunk encI_len cv53 shp0c pExt Prg.cells ldQ g1R obQ stQ s1Q ix3 ia3 ia28 bi3 bs0 bs01 bs02 bs012 bs013 bs014 bs0134 bs01234 bw1 bw2 bw3 rn_ptr rn_sl rn_any posOf encE_len ia_evts ld_evt
theorem roundA_m (hG : Good SR) (p : Prg) (hP : OkP p) (x : V) (hv : PV p x) (most : Int) (hs : soundF p ≠ 0) : Meets 14 [x, nI most] ([]) (pt (.tup [.agg [.nl, nU 0, .nl, .nl], nE 1]) [] []) := by
 rcases hv with _ | hch | ⟨hch, hco⟩
 all_goals
  refine meets hG Try.func14 rfl rfl ?_
  show Awp (env _ _) _ _ ((Try.f14).body.getD .skip) _ _
  unfold Try.f14
  dsimp only [Option.getD_some]
  unfold start
  generalize hQ : endA _ _ _ _ _ = Q
  repeat' (first
  | refine Awp_sqG fun K hK => ?_
  | (refine Awp_reg rfl fun K hK => ?_; simp [*, Evt.cells])
  | (refine Awp_regD [] rfl rfl fun K hK => ?_; simp [*, Evt.cells])
  | (refine WG_br (fun h => ?_) (fun h => ?_) <;> (have h' := h; try simp at h'; simp [*, Evt.cells]))
  | (refine RG_br (fun h => ?_) (fun h => ?_) <;> (have h' := h; try simp at h'; simp [*, Evt.cells]))
  | (refine wl_litF rfl ?_; try simp [*, Evt.cells])
  | (refine call_0 (SR.begN p hP hs _ (by first | exact .full | exact .noch hch | exact .none hch hco)) rfl rfl ?_; try simp [*, Evt.cells])
  | refine Gq.here ?_
  | refine And.intro (by omega) ?_
  | (refine wl_box rfl ?_; simp [*, Evt.cells])
  | (refine wl_alloc rfl ?_; simp [*, Evt.cells])
  | (refine wr_box rfl ?_; simp [*, Evt.cells])
  | (refine wr_alloc rfl ?_; simp [*, Evt.cells])
  | (refine wl_store ?_; simp [*, Evt.cells])
  | (refine wr_store ?_; simp [*, Evt.cells])
  | (show Wl _ _ _ _ _ _; simp [*, Evt.cells])
  | (show Wr _ _ _ _ _ _ _; simp [*, Evt.cells])
  | (refine kont hK ?_; clear hK K)
  | refine kont (by assumption) ?_
  | with_reducible refine thenA_n ?_
  | with_reducible refine thenA_r ?_
  | with_reducible refine thenA_e ?_
  | with_reducible refine blockA_n ?_
  | with_reducible refine blockA_r ?_
  | with_reducible refine blockA_e ?_
  | with_reducible refine blockA_o rfl ?_
  | refine Awp_ifT rfl ?_
  | refine Awp_ifF rfl ?_
  | (refine Awp_if rfl (fun h => ?_) (fun h => ?_) <;> ((have h' := h; try simp at h') <;> try (have h2 := h; simp only [decide_eq_false_iff_not] at h2)))
  | with_reducible refine noGo_n ?_
  | with_reducible refine noGo_r ?_
  | with_reducible refine noGo_e ?_
  | with_reducible refine Awp_scope ?_
  | with_reducible refine Awp_label ?_
  | with_reducible refine Awp_ret ?_
  | with_reducible refine Awp_skip ?_
  | with_reducible refine Awp_exit ?_
  | with_reducible refine Awp_block ?_)
  all_goals first | (exfalso; omega) | (subst hQ; refine endA_rL [] rfl rfl rfl rfl rfl ⟨rfl, rfl⟩)
theorem roundB_m (hG : Good SR) (p : Prg) (hP : OkP p) (x : V) (hv : PV p x) (most : Int) (hs : soundF p = 0) (hm : most < 0 ∨ 2000 < most) : Meets 14 [x, nI most] ([]) (pt (.tup [.agg [.nl, nU 0, .nl, .nl], nE 3]) [] []) := by
 rcases hv with _ | hch | ⟨hch, hco⟩
 all_goals
  refine meets hG Try.func14 rfl rfl ?_
  show Awp (env _ _) _ _ ((Try.f14).body.getD .skip) _ _
  unfold Try.f14
  dsimp only [Option.getD_some]
  unfold start
  generalize hQ : endA _ _ _ _ _ = Q
  repeat' (first
  | refine Awp_sqG fun K hK => ?_
  | (refine Awp_reg rfl fun K hK => ?_; simp [*, Evt.cells])
  | (refine Awp_regD [] rfl rfl fun K hK => ?_; simp [*, Evt.cells])
  | (refine WG_br (fun h => ?_) (fun h => ?_) <;> (have h' := h; try simp at h'; simp [*, Evt.cells]))
  | (refine RG_br (fun h => ?_) (fun h => ?_) <;> (have h' := h; try simp at h'; simp [*, Evt.cells]))
  | (refine wl_litF rfl ?_; try simp [*, Evt.cells])
  | (refine call_L [] (SR.beg p hP hs _ (by first | exact .full | exact .noch hch | exact .none hch hco)) rfl rfl rfl rfl rfl ?_; try simp [*, Evt.cells])
  | refine Gq.here ?_
  | refine And.intro (by omega) ?_
  | (refine wl_box rfl ?_; simp [*, Evt.cells])
  | (refine wl_alloc rfl ?_; simp [*, Evt.cells])
  | (refine wr_box rfl ?_; simp [*, Evt.cells])
  | (refine wr_alloc rfl ?_; simp [*, Evt.cells])
  | (refine wl_store ?_; simp [*, Evt.cells])
  | (refine wr_store ?_; simp [*, Evt.cells])
  | (show Wl _ _ _ _ _ _; simp [*, Evt.cells])
  | (show Wr _ _ _ _ _ _ _; simp [*, Evt.cells])
  | (refine kont hK ?_; clear hK K)
  | refine kont (by assumption) ?_
  | with_reducible refine thenA_n ?_
  | with_reducible refine thenA_r ?_
  | with_reducible refine thenA_e ?_
  | with_reducible refine blockA_n ?_
  | with_reducible refine blockA_r ?_
  | with_reducible refine blockA_e ?_
  | with_reducible refine blockA_o rfl ?_
  | refine Awp_ifT rfl ?_
  | refine Awp_ifF rfl ?_
  | (refine Awp_if rfl (fun h => ?_) (fun h => ?_) <;> ((have h' := h; try simp at h') <;> try (have h2 := h; simp only [decide_eq_false_iff_not] at h2)))
  | with_reducible refine noGo_n ?_
  | with_reducible refine noGo_r ?_
  | with_reducible refine noGo_e ?_
  | with_reducible refine Awp_scope ?_
  | with_reducible refine Awp_label ?_
  | with_reducible refine Awp_ret ?_
  | with_reducible refine Awp_skip ?_
  | with_reducible refine Awp_exit ?_
  | with_reducible refine Awp_block ?_)
  all_goals first | (exfalso; omega) | (subst hQ; refine endA_rL [] rfl rfl rfl rfl rfl ⟨rfl, rfl⟩)

theorem roundC_m (hG : Good SR) (p : Prg) (hP : OkP p) (x : V) (hv : PV p x) (most : Int) (hs : soundF p = 0) (h0 : 0 ≤ most) (h2 : most ≤ 2000) : Meets 14 [x, nI most] ([]) (pt (.tup [.agg (endR (roundI p most.toNat).1).cells, nE 0]) [] []) := by
 obtain ⟨v1, a1, l1, g1, o1, c1, kk1, ln, cs1, hc1⟩ := sound_in hs
 clear v1 a1 l1 g1 o1 c1 ln cs1 hc1
 have hcne : ¬ (p.code = []) := fun h => by rw [h] at kk1; simp at kk1
 rcases hv with _ | hch | ⟨hch, hco⟩
 case none => exact absurd hco hcne
 all_goals
  refine meets hG Try.func14 rfl rfl ?_
  show Awp (env _ _) _ _ ((Try.f14).body.getD .skip) _ _
  unfold Try.f14
  dsimp only [Option.getD_some]
  unfold start
  generalize hQ : endA _ _ _ _ _ = Q
  have hm1 : ¬ (most < 0) := by omega
  have hm2 : ¬ (2000 < most) := by omega
  obtain ⟨mo, hmo⟩ : ∃ mo : Nat, most = (mo : Int) := ⟨most.toNat, by omega⟩
  subst hmo
  rw [Int.toNat_natCast] at hQ
  repeat' (first
  | refine Awp_sqG fun K hK => ?_
  | (refine Awp_reg rfl fun K hK => ?_; simp [*, Evt.cells])
  | (refine Awp_regD [] rfl rfl fun K hK => ?_; simp [*, Evt.cells])
  | (refine WG_br (fun h => ?_) (fun h => ?_) <;> (have h' := h; try simp at h'; simp [*, Evt.cells]))
  | (refine RG_br (fun h => ?_) (fun h => ?_) <;> (have h' := h; try simp at h'; simp [*, Evt.cells]))
  | (refine wl_litF rfl ?_; try simp [*, Evt.cells])
  | (refine call_L [] (SR.beg p hP hs _ (by first | exact .full | exact .noch hch | exact .none hch hco)) rfl rfl rfl rfl rfl ?_; try simp [*, Evt.cells])
  | refine Gq.here ?_
  | refine And.intro (by omega) ?_
  | (refine wl_box rfl ?_; simp [*, Evt.cells])
  | (refine wl_alloc rfl ?_; simp [*, Evt.cells])
  | (refine wr_box rfl ?_; simp [*, Evt.cells])
  | (refine wr_alloc rfl ?_; simp [*, Evt.cells])
  | (refine wl_store ?_; simp [*, Evt.cells])
  | (refine wr_store ?_; simp [*, Evt.cells])
  | (show Wl _ _ _ _ _ _; simp [*, Evt.cells])
  | (show Wr _ _ _ _ _ _ _; simp [*, Evt.cells])
  | (refine kont hK ?_; clear hK K)
  | refine kont (by assumption) ?_
  | with_reducible refine thenA_n ?_
  | with_reducible refine thenA_r ?_
  | with_reducible refine thenA_e ?_
  | with_reducible refine blockA_n ?_
  | with_reducible refine blockA_r ?_
  | with_reducible refine blockA_e ?_
  | with_reducible refine blockA_o rfl ?_
  | refine Awp_ifT rfl ?_
  | refine Awp_ifF rfl ?_
  | (refine Awp_if rfl (fun h => ?_) (fun h => ?_) <;> ((have h' := h; try simp at h') <;> try (have h2 := h; simp only [decide_eq_false_iff_not] at h2)))
  | with_reducible refine noGo_n ?_
  | with_reducible refine noGo_r ?_
  | with_reducible refine noGo_e ?_
  | with_reducible refine Awp_scope ?_
  | with_reducible refine Awp_label ?_
  | with_reducible refine Awp_ret ?_
  | with_reducible refine Awp_skip ?_
  | with_reducible refine Awp_exit ?_
  | with_reducible refine Awp_block ?_)
  refine Awp_loop (fun s => ∃ j : Nat, j ≤ mo ∧ s.m = [some (.box [.nl, nU 0, .nl, .nl]), some ((roundI p j).1.box 2 3 4), some (stT (roundI p j).1.s), some (.arr 1 (encI (roundI p j).1.picks)), some (.arr 6 (encE (roundI p j).1.trace))] ∧ s.A 4 = .ptr 0 0 0 ∧ s.A 6 = .ptr 1 0 0 ∧ s.A 7 = nI p.code.length ∧ s.A 8 = nI (roundI p j).2 ∧ s.A 28 = nI mo ∧ s.A 29 = nI j) (fun s => match s.A 29 with | .c (.sc (.int _ n)) => mo - n.toNat | _ => 0) (gq_cmp [1, 2, 3, 4, 5] rfl rfl rfl ?_) (fun s hs2 => ?_)
  · refine ⟨0, Nat.zero_le _, ?_, ?_, ?_, ?_, ?_, ?_, ?_⟩ <;> first | rfl | (simp [*, rn_ptr, posOf, roundI]; done)
  obtain ⟨A, m⟩ := s
  obtain ⟨j, hj, hm, a4, a6, a7, a8, a28, a29⟩ := hs2
  dsimp only at hm a4 a6 a7 a8 a28 a29
  subst hm
  obtain ⟨hO, ha0, ha1⟩ := roundI_ok hs j
  have hroundS := @roundI_some p j
  have hroundN := @roundI_none p j
  generalize hra : (roundI p j).1 = r at *
  generalize haa : (roundI p j).2 = a at *
  have hW := hO.bd.w
  have ht : r.s.told.length < 1000000 := by have := hO.bd.told; omega
  have hl : r.s.th.length < 1000000 := by have := hO.th; have := sound_th hs; omega
  have hch := hO.bd.chs (by omega)
  have hp : r.picks.length < 999999 := by have := hO.np; omega
  have hn : r.trace.length < 999999 := by have := hO.nt; omega
  have hst := hO.st
  by_cases hlt : j < mo
  case neg =>
   have hjl : j = mo := by omega
   subst hjl
   have hres : V.tup [.agg (endR r).cells, nE 0] = V.tup [.agg (endR (roundI p j).1).cells, nE 0] := by rw [hra]
   clear hlt hj
   repeat' (first
   | refine Awp_sqG fun K hK => ?_
   | (refine Awp_reg rfl fun K hK => ?_; simp [*, Evt.cells])
   | (refine Awp_regD [] rfl rfl fun K hK => ?_; simp [*, Evt.cells])
   | (refine WG_br (fun h => ?_) (fun h => ?_) <;> (have h' := h; try simp at h'; simp [*, Evt.cells]))
   | (refine RG_br (fun h => ?_) (fun h => ?_) <;> (have h' := h; try simp at h'; simp [*, Evt.cells]))
   | (refine wl_litF rfl ?_; try simp [*, Evt.cells])
   | (refine call_L [1, 2, 3, 4] (SR.end_ r hW ht hl) rfl rfl rfl rfl rfl ?_; try simp [*, Evt.cells])
   | refine Gq.here ?_
   | refine And.intro (by omega) ?_
   | (refine wl_box rfl ?_; simp [*, Evt.cells])
   | (refine wl_alloc rfl ?_; simp [*, Evt.cells])
   | (refine wr_box rfl ?_; simp [*, Evt.cells])
   | (refine wr_alloc rfl ?_; simp [*, Evt.cells])
   | (refine wl_store ?_; simp [*, Evt.cells])
   | (refine wr_store ?_; simp [*, Evt.cells])
   | (show Wl _ _ _ _ _ _; simp [*, Evt.cells])
   | (show Wr _ _ _ _ _ _ _; simp [*, Evt.cells])
   | (refine kont hK ?_; clear hK K)
   | refine kont (by assumption) ?_
   | with_reducible refine thenA_n ?_
   | with_reducible refine thenA_r ?_
   | with_reducible refine thenA_e ?_
   | with_reducible refine blockA_n ?_
   | with_reducible refine blockA_r ?_
   | with_reducible refine blockA_e ?_
   | with_reducible refine blockA_o rfl ?_
   | refine Awp_ifT rfl ?_
   | refine Awp_ifF rfl ?_
   | (refine Awp_if rfl (fun h => ?_) (fun h => ?_) <;> ((have h' := h; try simp at h') <;> try (have h2 := h; simp only [decide_eq_false_iff_not] at h2)))
   | with_reducible refine noGo_n ?_
   | with_reducible refine noGo_r ?_
   | with_reducible refine noGo_e ?_
   | with_reducible refine Awp_scope ?_
   | with_reducible refine Awp_label ?_
   | with_reducible refine Awp_ret ?_
   | with_reducible refine Awp_skip ?_
   | with_reducible refine Awp_exit ?_
   | with_reducible refine Awp_block ?_)
   all_goals (subst hQ; refine endA_rL (x := .tup [.agg (endR r).cells, nE 0]) (y := .tup [.agg (endR r).cells, nE 0]) [] ?_ rfl rfl rfl rfl ⟨hres, rfl⟩; simp [resA, resL, resV, Res.cells, *, eqEv, be_02, be_124, bins0, bins01, bins02, bprg6, bprg26, bprg56, bprg0, eqpn, eqnn, MT_set10, MT_set11, st_MT10, st_MT11, rnT_c, nlV, nlV.nlL, frzV, frzL, frzO, pExt, encI_len, k2_s, chunk, encI_len, cv53, shp0c, pExt, Prg.cells, ldQ, g1R, obQ, stQ, s1Q, ix3, ia3, ia28, bi3, bs0, bs01, bs02, bs012, bs013, bs014, bs0134, bs01234, bw1, bw2, bw3, rn_ptr, rn_sl, rn_any, posOf, encE_len, ia_evts, ld_evt, Evt.cells])
  have hlt' : ((j : Int) < (mo : Int)) := by omega
  have hdec : mo - (j + 1) < mo - j := by omega
  have hwj : IntKind.i64.wrap ((j : Int) + 1) = (j : Int) + 1 := wrap_small (by omega) (by omega)
  have hj1 : j + 1 ≤ mo := by omega
  have hn6 := sound_th hs
  have hn0 : ¬ ((p.code.length : Int) = 0) := by omega
  repeat' (first
  | refine Awp_sqG fun K hK => ?_
  | (refine Awp_reg rfl fun K hK => ?_; simp [*, Evt.cells])
  | (refine Awp_regD [] rfl rfl fun K hK => ?_; simp [*, Evt.cells])
  | (refine WG_br (fun h => ?_) (fun h => ?_) <;> (have h' := h; try simp at h'; simp [*, Evt.cells]))
  | (refine RG_br (fun h => ?_) (fun h => ?_) <;> (have h' := h; try simp at h'; simp [*, Evt.cells]))
  | (refine wl_litF rfl ?_; try simp [*, Evt.cells])
  | refine Gq.here ?_
  | refine And.intro (by omega) ?_
  | (refine wl_box rfl ?_; simp [*, Evt.cells])
  | (refine wl_alloc rfl ?_; simp [*, Evt.cells])
  | (refine wr_box rfl ?_; simp [*, Evt.cells])
  | (refine wr_alloc rfl ?_; simp [*, Evt.cells])
  | (refine wl_store ?_; simp [*, Evt.cells])
  | (refine wr_store ?_; simp [*, Evt.cells])
  | (show Wl _ _ _ _ _ _; simp [*, Evt.cells])
  | (show Wr _ _ _ _ _ _ _; simp [*, Evt.cells])
  | (refine kont hK ?_; clear hK K)
  | refine kont (by assumption) ?_
  | with_reducible refine thenA_n ?_
  | with_reducible refine thenA_r ?_
  | with_reducible refine thenA_e ?_
  | with_reducible refine blockA_n ?_
  | with_reducible refine blockA_r ?_
  | with_reducible refine blockA_e ?_
  | with_reducible refine blockA_o rfl ?_
  | refine Awp_ifT rfl ?_
  | refine Awp_ifF rfl ?_
  | (refine Awp_if rfl (fun h => ?_) (fun h => ?_) <;> ((have h' := h; try simp at h') <;> try (have h2 := h; simp only [decide_eq_false_iff_not] at h2)))
  | with_reducible refine noGo_n ?_
  | with_reducible refine noGo_r ?_
  | with_reducible refine noGo_e ?_
  | with_reducible refine Awp_scope ?_
  | with_reducible refine Awp_label ?_
  | with_reducible refine Awp_ret ?_
  | with_reducible refine Awp_skip ?_
  | with_reducible refine Awp_exit ?_
  | with_reducible refine Awp_block ?_)
  have o29 := a29
  refine Awp_loop (fun s => ∃ i : Nat, i ≤ p.code.length ∧ (∀ q, q < i → can r.s ((a + (q : Int)) % (p.code.length : Int)) = false) ∧ s.m = [some (.box [.nl, nU 0, .nl, .nl]), some (r.box 2 3 4), some (stT r.s), some (.arr 1 (encI r.picks)), some (.arr 6 (encE r.trace))] ∧ s.A 4 = .ptr 0 0 0 ∧ s.A 6 = .ptr 1 0 0 ∧ s.A 7 = nI p.code.length ∧ s.A 8 = nI a ∧ s.A 28 = nI mo ∧ s.A 29 = nI j ∧ s.A 31 = nI p.code.length ∧ s.A 32 = nI i) (fun s => match s.A 32 with | .c (.sc (.int _ n)) => p.code.length - n.toNat | _ => 0) (Gq.here ?_) (fun s hs2 => ?_)
  · refine ⟨0, Nat.zero_le _, (fun q hq => by omega), ?_, ?_, ?_, ?_, ?_, ?_, ?_, ?_, ?_⟩ <;> first | rfl | (simp [*]; done)
  clear a4 a6 a7 a8 a28 a29
  obtain ⟨A, m⟩ := s
  obtain ⟨i, hi, hno, hm, a4, a6, a7, a8, a28, a29, a31, a32⟩ := hs2
  dsimp only at hm a4 a6 a7 a8 a28 a29 a31 a32
  subst hm
  by_cases hil : i < p.code.length
  case neg =>
   have hin : i = p.code.length := by omega
   subst hin
   have hnone := findR_none hno
   have hres : V.tup [.agg (endR r).cells, nE 0] = V.tup [.agg (endR (roundI p mo).1).cells, nE 0] := by
    have h := hroundN hnone (mo - j)
    rw [show j + (mo - j) = mo by omega] at h
    rw [h, hra]
   clear hil hi hno hroundS hroundN hnone hlt hj
   repeat' (first
   | refine Awp_sqG fun K hK => ?_
   | (refine Awp_reg rfl fun K hK => ?_; simp [*, Evt.cells])
   | (refine Awp_regD [] rfl rfl fun K hK => ?_; simp [*, Evt.cells])
   | (refine WG_br (fun h => ?_) (fun h => ?_) <;> (have h' := h; try simp at h'; simp [*, Evt.cells]))
   | (refine RG_br (fun h => ?_) (fun h => ?_) <;> (have h' := h; try simp at h'; simp [*, Evt.cells]))
   | (refine wl_litF rfl ?_; try simp [*, Evt.cells])
   | (refine call_L [1, 2, 3, 4] (SR.end_ r hW ht hl) rfl rfl rfl rfl rfl ?_; try simp [*, Evt.cells])
   | refine Gq.here ?_
   | refine And.intro (by omega) ?_
   | (refine wl_box rfl ?_; simp [*, Evt.cells])
   | (refine wl_alloc rfl ?_; simp [*, Evt.cells])
   | (refine wr_box rfl ?_; simp [*, Evt.cells])
   | (refine wr_alloc rfl ?_; simp [*, Evt.cells])
   | (refine wl_store ?_; simp [*, Evt.cells])
   | (refine wr_store ?_; simp [*, Evt.cells])
   | (show Wl _ _ _ _ _ _; simp [*, Evt.cells])
   | (show Wr _ _ _ _ _ _ _; simp [*, Evt.cells])
   | (refine kont hK ?_; clear hK K)
   | refine kont (by assumption) ?_
   | with_reducible refine thenA_n ?_
   | with_reducible refine thenA_r ?_
   | with_reducible refine thenA_e ?_
   | with_reducible refine blockA_n ?_
   | with_reducible refine blockA_r ?_
   | with_reducible refine blockA_e ?_
   | with_reducible refine blockA_o rfl ?_
   | refine Awp_ifT rfl ?_
   | refine Awp_ifF rfl ?_
   | (refine Awp_if rfl (fun h => ?_) (fun h => ?_) <;> ((have h' := h; try simp at h') <;> try (have h2 := h; simp only [decide_eq_false_iff_not] at h2)))
   | with_reducible refine noGo_n ?_
   | with_reducible refine noGo_r ?_
   | with_reducible refine noGo_e ?_
   | with_reducible refine Awp_scope ?_
   | with_reducible refine Awp_label ?_
   | with_reducible refine Awp_ret ?_
   | with_reducible refine Awp_skip ?_
   | with_reducible refine Awp_exit ?_
   | with_reducible refine Awp_block ?_)
   all_goals (subst hQ; refine endA_rL (x := .tup [.agg (endR r).cells, nE 0]) (y := .tup [.agg (endR r).cells, nE 0]) [] ?_ rfl rfl rfl rfl ⟨hres, rfl⟩; simp [resA, resL, resV, Res.cells, *, eqEv, be_02, be_124, bins0, bins01, bins02, bprg6, bprg26, bprg56, bprg0, eqpn, eqnn, MT_set10, MT_set11, st_MT10, st_MT11, rnT_c, nlV, nlV.nlL, frzV, frzL, frzO, pExt, encI_len, k2_s, chunk, encI_len, cv53, shp0c, pExt, Prg.cells, ldQ, g1R, obQ, stQ, s1Q, ix3, ia3, ia28, bi3, bs0, bs01, bs02, bs012, bs013, bs014, bs0134, bs01234, bw1, bw2, bw3, rn_ptr, rn_sl, rn_any, posOf, encE_len, ia_evts, ld_evt, Evt.cells])
  have hil' : ((i : Int) < (p.code.length : Int)) := by omega
  have hi1 : i + 1 ≤ p.code.length := by omega
  have hdi : p.code.length - (i + 1) < p.code.length - i := by omega
  have hwi : IntKind.i64.wrap ((i : Int) + 1) = (i : Int) + 1 := wrap_small (by omega) (by omega)
  have hw1 : IntKind.i64.wrap (a + (i : Int)) = a + (i : Int) := wrap_small (by omega) (by omega)
  have hmd : (a + (i : Int)).tmod (p.code.length : Int) = (a + (i : Int)) % (p.code.length : Int) := Int.tmod_eq_emod_of_nonneg (by omega)
  have hk0 : 0 ≤ (a + (i : Int)) % (p.code.length : Int) := Int.emod_nonneg _ (by omega)
  have hk1 : (a + (i : Int)) % (p.code.length : Int) < (p.code.length : Int) := Int.emod_lt_of_pos _ (by omega)
  have hfs := @findR_some r.s p.code.length i a (by omega) hno
  have hnx : can r.s ((a + (i : Int)) % (p.code.length : Int)) = false → ∀ q, q < i + 1 → can r.s ((a + (q : Int)) % (p.code.length : Int)) = false := fun h q hq => by
   by_cases e : q = i
   · subst e; exact h
   · exact hno q (by omega)
  generalize hkk : (a + (i : Int)) % (p.code.length : Int) = k at *
  have hw2 : IntKind.i64.wrap k = k := wrap_small (by omega) (by omega)
  have hw3 : IntKind.i64.wrap (k + 1) = k + 1 := wrap_small (by omega) (by omega)
  clear hno hil hi hlt hj
  cases hck : can r.s k with
  | true =>
   have hro := hroundS (hfs hck)
   clear hroundS hroundN hfs hnx
   repeat' (first
   | refine Awp_sq fun K hK => ?_
   | (refine Awp_reg rfl fun K hK => ?_; simp [*, Evt.cells, RunS.box])
   | (refine Awp_regD [] rfl rfl fun K hK => ?_; simp [*, Evt.cells, RunS.box])
   | (refine WG_br (fun h => ?_) (fun h => ?_) <;> (have h' := h; try simp at h'; simp [*, Evt.cells, RunS.box]))
   | (refine RG_br (fun h => ?_) (fun h => ?_) <;> (have h' := h; try simp at h'; simp [*, Evt.cells, RunS.box]))
   | (refine wl_litF rfl ?_; try simp [*, Evt.cells, RunS.box])
   | (refine call_abs (SR.can r.s k hW) rfl rfl rfl ?_; try simp [*, Evt.cells])
   | (refine call_Lm [1, 2, 3, 4] [2, 3] (SR.pick r _ hW ht hch hp hn hst) rfl rfl rfl rfl (by decide) rfl rfl ?_; try simp [*, Evt.cells])
   | refine And.intro (by omega) ?_
   | (refine wl_box rfl ?_; simp [*, Evt.cells, RunS.box])
   | (refine wl_alloc rfl ?_; simp [*, Evt.cells, RunS.box])
   | (refine wr_box rfl ?_; simp [*, Evt.cells, RunS.box])
   | (refine wr_alloc rfl ?_; simp [*, Evt.cells, RunS.box])
   | (refine wl_store ?_; simp [*, Evt.cells, RunS.box])
   | (refine wr_store ?_; simp [*, Evt.cells, RunS.box])
   | (show Wl _ _ _ _ _ _; simp [*, Evt.cells, RunS.box])
   | (show Wr _ _ _ _ _ _ _; simp [*, Evt.cells, RunS.box])
   | (refine kont hK ?_; clear hK K)
   | refine kont (by assumption) ?_
   | with_reducible refine thenA_n ?_
   | with_reducible refine thenA_r ?_
   | with_reducible refine thenA_e ?_
   | with_reducible refine blockA_n ?_
   | with_reducible refine blockA_r ?_
   | with_reducible refine blockA_e ?_
   | with_reducible refine blockA_o rfl ?_
   | refine Awp_ifT rfl ?_
   | refine Awp_ifF rfl ?_
   | (refine Awp_if rfl (fun h => ?_) (fun h => ?_) <;> ((have h' := h; try simp at h') <;> try (have h2 := h; simp only [decide_eq_false_iff_not] at h2)))
   | with_reducible refine noGo_n ?_
   | with_reducible refine noGo_r ?_
   | with_reducible refine noGo_e ?_
   | with_reducible refine Awp_scope ?_
   | with_reducible refine Awp_label ?_
   | with_reducible refine Awp_ret ?_
   | with_reducible refine Awp_skip ?_
   | with_reducible refine Awp_exit ?_
   | with_reducible refine Awp_block ?_)
   all_goals refine Gq.here ?_
   repeat' (first
   | refine Awp_sq fun K hK => ?_
   | (refine Awp_reg rfl fun K hK => ?_; simp [*, Evt.cells])
   | (refine Awp_regD [] rfl rfl fun K hK => ?_; simp [*, Evt.cells])
   | (refine WG_br (fun h => ?_) (fun h => ?_) <;> (have h' := h; try simp at h'; simp [*, Evt.cells]))
   | (refine RG_br (fun h => ?_) (fun h => ?_) <;> (have h' := h; try simp at h'; simp [*, Evt.cells]))
   | (refine wl_litF rfl ?_; try simp [*, Evt.cells])
   | refine And.intro (by omega) ?_
   | (refine wl_box rfl ?_; simp [*, Evt.cells])
   | (refine wl_alloc rfl ?_; simp [*, Evt.cells])
   | (refine wr_box rfl ?_; simp [*, Evt.cells])
   | (refine wr_alloc rfl ?_; simp [*, Evt.cells])
   | (refine wl_store ?_; simp [*, Evt.cells])
   | (refine wr_store ?_; simp [*, Evt.cells])
   | (show Wl _ _ _ _ _ _; simp [*, Evt.cells])
   | (show Wr _ _ _ _ _ _ _; simp [*, Evt.cells])
   | (refine kont hK ?_; clear hK K)
   | refine kont (by assumption) ?_
   | with_reducible refine thenA_n ?_
   | with_reducible refine thenA_r ?_
   | with_reducible refine thenA_e ?_
   | with_reducible refine blockA_n ?_
   | with_reducible refine blockA_r ?_
   | with_reducible refine blockA_e ?_
   | with_reducible refine blockA_o rfl ?_
   | refine Awp_ifT rfl ?_
   | refine Awp_ifF rfl ?_
   | (refine Awp_if rfl (fun h => ?_) (fun h => ?_) <;> ((have h' := h; try simp at h') <;> try (have h2 := h; simp only [decide_eq_false_iff_not] at h2)))
   | with_reducible refine noGo_n ?_
   | with_reducible refine noGo_r ?_
   | with_reducible refine noGo_e ?_
   | with_reducible refine Awp_scope ?_
   | with_reducible refine Awp_label ?_
   | with_reducible refine Awp_ret ?_
   | with_reducible refine Awp_skip ?_
   | with_reducible refine Awp_exit ?_
   | with_reducible refine Awp_block ?_)
   all_goals (refine gq_cmp [0, 1, 2, 5, 6] rfl rfl rfl ⟨⟨j + 1, hj1, ?_, ?_, ?_, ?_, ?_, ?_, ?_⟩, ?_⟩ <;> first | (rw [hro]; rfl) | (simp [*, rn_ptr, posOf]; done) | (simp [*, rn_ptr, posOf]; omega))
  | false =>
   have hnx := hnx hck
   clear hroundS hroundN hfs
   repeat' (first
   | refine Awp_sq fun K hK => ?_
   | (refine Awp_reg rfl fun K hK => ?_; simp [*, Evt.cells, RunS.box])
   | (refine Awp_regD [] rfl rfl fun K hK => ?_; simp [*, Evt.cells, RunS.box])
   | (refine WG_br (fun h => ?_) (fun h => ?_) <;> (have h' := h; try simp at h'; simp [*, Evt.cells, RunS.box]))
   | (refine RG_br (fun h => ?_) (fun h => ?_) <;> (have h' := h; try simp at h'; simp [*, Evt.cells, RunS.box]))
   | (refine wl_litF rfl ?_; try simp [*, Evt.cells, RunS.box])
   | (refine call_abs (SR.can r.s k hW) rfl rfl rfl ?_; try simp [*, Evt.cells])
   | refine And.intro (by omega) ?_
   | (refine wl_box rfl ?_; simp [*, Evt.cells, RunS.box])
   | (refine wl_alloc rfl ?_; simp [*, Evt.cells, RunS.box])
   | (refine wr_box rfl ?_; simp [*, Evt.cells, RunS.box])
   | (refine wr_alloc rfl ?_; simp [*, Evt.cells, RunS.box])
   | (refine wl_store ?_; simp [*, Evt.cells, RunS.box])
   | (refine wr_store ?_; simp [*, Evt.cells, RunS.box])
   | (show Wl _ _ _ _ _ _; simp [*, Evt.cells, RunS.box])
   | (show Wr _ _ _ _ _ _ _; simp [*, Evt.cells, RunS.box])
   | (refine kont hK ?_; clear hK K)
   | refine kont (by assumption) ?_
   | with_reducible refine thenA_n ?_
   | with_reducible refine thenA_r ?_
   | with_reducible refine thenA_e ?_
   | with_reducible refine blockA_n ?_
   | with_reducible refine blockA_r ?_
   | with_reducible refine blockA_e ?_
   | with_reducible refine blockA_o rfl ?_
   | refine Awp_ifT rfl ?_
   | refine Awp_ifF rfl ?_
   | (refine Awp_if rfl (fun h => ?_) (fun h => ?_) <;> ((have h' := h; try simp at h') <;> try (have h2 := h; simp only [decide_eq_false_iff_not] at h2)))
   | with_reducible refine noGo_n ?_
   | with_reducible refine noGo_r ?_
   | with_reducible refine noGo_e ?_
   | with_reducible refine Awp_scope ?_
   | with_reducible refine Awp_label ?_
   | with_reducible refine Awp_ret ?_
   | with_reducible refine Awp_skip ?_
   | with_reducible refine Awp_exit ?_
   | with_reducible refine Awp_block ?_)
   all_goals (refine Gq.here ⟨⟨i + 1, hi1, hnx, ?_, ?_, ?_, ?_, ?_, ?_, ?_, ?_, ?_⟩, ?_⟩ <;> first | rfl | (simp [*]; done) | (simp [*]; omega))

end Go.Proofs.YtogfcpaalcebdaaE
