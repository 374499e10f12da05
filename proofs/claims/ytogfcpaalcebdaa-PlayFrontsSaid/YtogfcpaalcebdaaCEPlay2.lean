/- Runs: play.Run. -/
import Derived.Test.YtogfcpaalcebdaaCEPlay1
import Derived.Test.YtogfcpaalcebdaaCEWFI
namespace Go.Proofs.YtogfcpaalcebdaaE
open Go Go.RowKit
set_option linter.unusedVariables false
set_option linter.unusedSimpArgs false
set_option maxRecDepth 1000000
set_option maxHeartbeats 8000000
def runN (p : Prg) (q : List Int) : RunS := q.foldl pickR ⟨initS p, [], []⟩
theorem runN_take {p : Prg} {q : List Int} {j : Nat} {x : Int} (h : q[j]? = some x) : runN p (q.take (j + 1)) = pickR (runN p (q.take j)) x := by
 unfold runN
 rw [List.take_add_one, h]
 simp
structure RunOk (p : Prg) (n : Nat) (r : RunS) : Prop where
 bd : Bd n r.s
 pp : r.s.p = p
 th : r.s.th.length = p.code.length
 st : r.s.strip = r.s
 np : r.picks.length ≤ n
 nt : r.trace.length ≤ n
theorem pickR_ok {p : Prg} {n : Nat} {r : RunS} (h : RunOk p n r) (x : Int) : RunOk p (n + 1) (pickR r x) := by
 unfold pickR
 by_cases hc : can r.s x = true
 · rw [if_pos hc]
   have hk := nextT_keeps (k := x) h.bd
   exact ⟨nextT_bd h.bd, hk.p.trans h.pp, hk.th.trans h.th, nextT_st, by simp; have := h.np; omega, by simp; have := h.nt; omega⟩
 · rw [if_neg hc]
   exact ⟨h.bd.mono (by omega), h.pp, h.th, h.st, by have := h.np; omega, by have := h.nt; omega⟩
theorem fold_ok' {p : Prg} : ∀ (q : List Int) {n : Nat} {r : RunS}, RunOk p n r → RunOk p (n + q.length) (q.foldl pickR r)
 | [], n, r, h => h
 | x :: q, n, r, h => by
  have := fold_ok' q (pickR_ok h x)
  rw [List.length_cons, show n + (q.length + 1) = n + 1 + q.length by omega]
  exact this
theorem runN_ok {p : Prg} (hs : soundF p = 0) (q : List Int) : RunOk p q.length (runN p q) := by
 have h0 : RunOk p 0 ⟨initS p, [], []⟩ := ⟨init_bd hs, rfl, by simp [initS, initS0, setTh], init_strip p, Nat.le_refl _, Nat.le_refl _⟩
 have := fold_ok' q h0
 rw [Nat.zero_add] at this
 exact this
def Res.zero : Res := ⟨[], 0, [], []⟩
def runP (p : Prg) (q : List Int) : Res × Int := if soundF p ≠ 0 then (Res.zero, 1) else if 2000 < q.length then (Res.zero, 3) else (endR (runN p q), 0)
theorem sound_th {p : Prg} (hs : soundF p = 0) : p.code.length ≤ 6 := by
 obtain ⟨v1, a1, l1, g1, o1, c1, k1, ln, cs, hc⟩ := sound_in hs
 omega
inductive SR : Spec
 | beg (p : Prg) (hP : OkP p) (hs : soundF p = 0) (x : V) (hv : PV p x) : SR 20 [x] [] (pt (.ptr 0 0 0) (MR ⟨initS p, [], []⟩) [])
 | begN (p : Prg) (hP : OkP p) (hs : soundF p ≠ 0) (x : V) (hv : PV p x) : SR 20 [x] [] (pt (.c (.sc (.pointer none))) [] [])
 | pick (r : RunS) (k : Int) (hW : WF r.s) (ht : r.s.told.length < 1000000) (hch : ∀ c ∈ r.s.ch, c.row.length < 1000000) (hp : r.picks.length < 999999) (hq : r.trace.length < 999999) (hst : r.s.strip = r.s) : SR 21 [.ptr 0 0 0, nI k] (MR r) (pt (.tup []) (MR (pickR r k)) [2, 3])
 | end_ (r : RunS) (hW : WF r.s) (ht : r.s.told.length < 1000000) (hl : r.s.th.length < 1000000) : SR 22 [.ptr 0 0 0] (MR r) (pt (.agg (endR r).cells) [none, none, none, none, some (.box (endR r).cells), none] [])
 | can (τ : Sg) (k : Int) (hW : WF τ) : SR 23 [.ptr 0 0 0, nI k] [some (stT τ)] (pt (nB (can τ k)) [some (stT τ)] [])
theorem SR_good : Good SR := by
 refine ⟨fun f a m P h => ?_, fun f a m P h => ?_⟩
 · cases h with
   | beg p hP hs x hv => exact begin_m SS_good p hP hs x hv
   | begN p hP hs x hv => exact beginN_m SS_good p hP hs x hv
   | pick r k hW ht hch hp hq hst => exact pick_m SS_good r k hW ht hch hp hq hst
   | end_ r hW ht hl => exact end_m SS_good r hW ht hl
   | can τ k hW => exact SS_good.ok _ _ _ _ (SS.can τ k hW)
 · cases h with
   | beg p hP hs x hv => exact ⟨_, Try.func20, rfl, rfl⟩
   | begN p hP hs x hv => exact ⟨_, Try.func20, rfl, rfl⟩
   | pick r k hW ht hch hp hq hst => exact ⟨_, Try.func21, rfl, rfl⟩
   | end_ r hW ht hl => exact ⟨_, Try.func22, rfl, rfl⟩
   | can τ k hW => exact ⟨_, Try.func23, rfl, rfl⟩
attribute [local simp] eqEv be_02 be_124 bins0 bins01 bins02 bprg6 bprg26 bprg56 bprg0 eqpn eqnn MT_set10 MT_set11 st_MT10 st_MT11 rnT_c nlV nlV.nlL frzV frzL frzO pExt encI_len k2_s chunk encI_len cv53 shp0c pExt Prg.cells ldQ g1R obQ stQ s1Q ix3 ia3 ia28 bi3 bs0 bs01 bs02 bs012 bs013 bs014 bs0134 bs01234 bw1 bw2 bw3 rn_ptr rn_sl rn_any posOf encE_len ia_evts ld_evt Evt.cells
theorem runA_m (hG : Good SR) (p : Prg) (hP : OkP p) (x : V) (hv : PV p x) (q : List Int) (hs : soundF p ≠ 0) : Meets 12 [x, .c (.ls (encI q))] ([]) (pt (.tup [.agg [.nl, nU 0, .nl, .nl], nE 1]) [] []) := by
 rcases hv with _ | hch | ⟨hch, hco⟩
 all_goals
  refine meets hG Try.func12 rfl rfl ?_
  show Awp (env _ _) _ _ ((Try.f12).body.getD .skip) _ _
  unfold Try.f12
  dsimp only [Option.getD_some]
  unfold start
  generalize hQ : endA _ _ _ _ _ = Q
  repeat' (first
  | refine Awp_sqG fun K hK => ?_
  | (refine Awp_reg rfl fun K hK => ?_; simp [*])
  | (refine Awp_regD [] rfl rfl fun K hK => ?_; simp [*])
  | (refine WG_br (fun h => ?_) (fun h => ?_) <;> (have h' := h; try simp at h'; simp [*]))
  | (refine RG_br (fun h => ?_) (fun h => ?_) <;> (have h' := h; try simp at h'; simp [*]))
  | (refine wl_litF rfl ?_; try simp [*])
  | (refine call_0 (SR.begN p hP hs _ (by first | exact .full | exact .noch hch | exact .none hch hco)) rfl rfl ?_; try simp [*])
  | refine Gq.here ?_
  | refine And.intro (by omega) ?_
  | (refine wl_box rfl ?_; simp [*])
  | (refine wl_alloc rfl ?_; simp [*])
  | (refine wr_box rfl ?_; simp [*])
  | (refine wr_alloc rfl ?_; simp [*])
  | (refine wl_store ?_; simp [*])
  | (refine wr_store ?_; simp [*])
  | (show Wl _ _ _ _ _ _; simp [*])
  | (show Wr _ _ _ _ _ _ _; simp [*])
  | (refine kont hK ?_; clear hK K)
  | refine kont (by assumption) ?_
  | with_reducible refine thenA_n ?_
  | with_reducible refine thenA_r ?_
  | with_reducible refine thenA_e ?_
  | with_reducible refine blockA_n ?_
  | with_reducible refine blockA_r ?_
  | with_reducible refine blockA_e ?_
  | with_reducible refine blockA_o rfl ?_
  | refine Awp_ifT rfl ?_
  | refine Awp_ifF rfl ?_
  | (refine Awp_if rfl (fun h => ?_) (fun h => ?_) <;> ((have h' := h; try simp at h') <;> try (have h2 := h; simp only [decide_eq_false_iff_not] at h2)))
  | with_reducible refine noGo_n ?_
  | with_reducible refine noGo_r ?_
  | with_reducible refine noGo_e ?_
  | with_reducible refine Awp_scope ?_
  | with_reducible refine Awp_label ?_
  | with_reducible refine Awp_ret ?_
  | with_reducible refine Awp_skip ?_
  | with_reducible refine Awp_exit ?_
  | with_reducible refine Awp_block ?_)
  all_goals (subst hQ; refine endA_rL [] rfl rfl rfl rfl rfl ⟨rfl, rfl⟩)
theorem runB_m (hG : Good SR) (p : Prg) (hP : OkP p) (x : V) (hv : PV p x) (q : List Int) (hs : soundF p = 0) (hq : 2000 < q.length) : Meets 12 [x, .c (.ls (encI q))] ([]) (pt (.tup [.agg [.nl, nU 0, .nl, .nl], nE 3]) [] []) := by
 rcases hv with _ | hch | ⟨hch, hco⟩
 all_goals
  refine meets hG Try.func12 rfl rfl ?_
  show Awp (env _ _) _ _ ((Try.f12).body.getD .skip) _ _
  unfold Try.f12
  dsimp only [Option.getD_some]
  unfold start
  generalize hQ : endA _ _ _ _ _ = Q
  have hq' : (2000 : Int) < (q.length : Int) := by omega
  repeat' (first
  | refine Awp_sqG fun K hK => ?_
  | (refine Awp_reg rfl fun K hK => ?_; simp [*])
  | (refine Awp_regD [] rfl rfl fun K hK => ?_; simp [*])
  | (refine WG_br (fun h => ?_) (fun h => ?_) <;> (have h' := h; try simp at h'; simp [*]))
  | (refine RG_br (fun h => ?_) (fun h => ?_) <;> (have h' := h; try simp at h'; simp [*]))
  | (refine wl_litF rfl ?_; try simp [*])
  | (refine call_L [] (SR.beg p hP hs _ (by first | exact .full | exact .noch hch | exact .none hch hco)) rfl rfl rfl rfl rfl ?_; try simp [*])
  | refine Gq.here ?_
  | refine And.intro (by omega) ?_
  | (refine wl_box rfl ?_; simp [*])
  | (refine wl_alloc rfl ?_; simp [*])
  | (refine wr_box rfl ?_; simp [*])
  | (refine wr_alloc rfl ?_; simp [*])
  | (refine wl_store ?_; simp [*])
  | (refine wr_store ?_; simp [*])
  | (show Wl _ _ _ _ _ _; simp [*])
  | (show Wr _ _ _ _ _ _ _; simp [*])
  | (refine kont hK ?_; clear hK K)
  | refine kont (by assumption) ?_
  | with_reducible refine thenA_n ?_
  | with_reducible refine thenA_r ?_
  | with_reducible refine thenA_e ?_
  | with_reducible refine blockA_n ?_
  | with_reducible refine blockA_r ?_
  | with_reducible refine blockA_e ?_
  | with_reducible refine blockA_o rfl ?_
  | refine Awp_ifT rfl ?_
  | refine Awp_ifF rfl ?_
  | (refine Awp_if rfl (fun h => ?_) (fun h => ?_) <;> ((have h' := h; try simp at h') <;> try (have h2 := h; simp only [decide_eq_false_iff_not] at h2)))
  | with_reducible refine noGo_n ?_
  | with_reducible refine noGo_r ?_
  | with_reducible refine noGo_e ?_
  | with_reducible refine Awp_scope ?_
  | with_reducible refine Awp_label ?_
  | with_reducible refine Awp_ret ?_
  | with_reducible refine Awp_skip ?_
  | with_reducible refine Awp_exit ?_
  | with_reducible refine Awp_block ?_)
  all_goals (subst hQ; refine endA_rL [] rfl rfl rfl rfl rfl ⟨rfl, rfl⟩)

theorem runC_m (hG : Good SR) (p : Prg) (hP : OkP p) (x : V) (hv : PV p x) (q : List Int) (hs : soundF p = 0) (hq : q.length ≤ 2000) : Meets 12 [x, .c (.ls (encI q))] ([]) (pt (.tup [.agg (endR (runN p q)).cells, nE 0]) [] []) := by
 rcases hv with _ | hch | ⟨hch, hco⟩
 all_goals
  refine meets hG Try.func12 rfl rfl ?_
  show Awp (env _ _) _ _ ((Try.f12).body.getD .skip) _ _
  unfold Try.f12
  dsimp only [Option.getD_some]
  unfold start
  generalize hQ : endA _ _ _ _ _ = Q
  have hq' : ¬ ((2000 : Int) < (q.length : Int)) := by omega
  repeat' (first
  | refine Awp_sqG fun K hK => ?_
  | (refine Awp_reg rfl fun K hK => ?_; simp [*])
  | (refine Awp_regD [] rfl rfl fun K hK => ?_; simp [*])
  | (refine WG_br (fun h => ?_) (fun h => ?_) <;> (have h' := h; try simp at h'; simp [*]))
  | (refine RG_br (fun h => ?_) (fun h => ?_) <;> (have h' := h; try simp at h'; simp [*]))
  | (refine wl_litF rfl ?_; try simp [*])
  | (refine call_L [] (SR.beg p hP hs _ (by first | exact .full | exact .noch hch | exact .none hch hco)) rfl rfl rfl rfl rfl ?_; try simp [*])
  | refine Gq.here ?_
  | refine And.intro (by omega) ?_
  | (refine wl_box rfl ?_; simp [*])
  | (refine wl_alloc rfl ?_; simp [*])
  | (refine wr_box rfl ?_; simp [*])
  | (refine wr_alloc rfl ?_; simp [*])
  | (refine wl_store ?_; simp [*])
  | (refine wr_store ?_; simp [*])
  | (show Wl _ _ _ _ _ _; simp [*])
  | (show Wr _ _ _ _ _ _ _; simp [*])
  | (refine kont hK ?_; clear hK K)
  | refine kont (by assumption) ?_
  | with_reducible refine thenA_n ?_
  | with_reducible refine thenA_r ?_
  | with_reducible refine thenA_e ?_
  | with_reducible refine blockA_n ?_
  | with_reducible refine blockA_r ?_
  | with_reducible refine blockA_e ?_
  | with_reducible refine blockA_o rfl ?_
  | refine Awp_ifT rfl ?_
  | refine Awp_ifF rfl ?_
  | (refine Awp_if rfl (fun h => ?_) (fun h => ?_) <;> ((have h' := h; try simp at h') <;> try (have h2 := h; simp only [decide_eq_false_iff_not] at h2)))
  | with_reducible refine noGo_n ?_
  | with_reducible refine noGo_r ?_
  | with_reducible refine noGo_e ?_
  | with_reducible refine Awp_scope ?_
  | with_reducible refine Awp_label ?_
  | with_reducible refine Awp_ret ?_
  | with_reducible refine Awp_skip ?_
  | with_reducible refine Awp_exit ?_
  | with_reducible refine Awp_block ?_)
  refine Awp_loop (fun s => ∃ j : Nat, j ≤ q.length ∧ s.m = [some (.box [.nl, nU 0, .nl, .nl]), some ((runN p (q.take j)).box 2 3 4), some (stT (runN p (q.take j)).s), some (.arr 1 (encI (runN p (q.take j)).picks)), some (.arr 6 (encE (runN p (q.take j)).trace))] ∧ s.A 4 = .ptr 0 0 0 ∧ s.A 6 = .ptr 1 0 0 ∧ s.A 20 = .c (.ls (encI q)) ∧ s.A 21 = nI q.length ∧ s.A 22 = nI j) (fun s => match s.A 22 with | .c (.sc (.int _ n)) => q.length - n.toNat | _ => 0) (gq_cmp [1, 2, 3, 4, 5] rfl rfl rfl ?_) (fun s hs2 => ?_)
  · refine ⟨0, Nat.zero_le _, ?_, ?_, ?_, ?_, ?_, ?_⟩ <;> first | rfl | (simp [*, rn_ptr, posOf]; done)
  obtain ⟨A, m⟩ := s
  obtain ⟨j, hj, hm, a4, a6, a20, a21, a22⟩ := hs2
  dsimp only at hm a4 a6 a20 a21 a22
  subst hm
  by_cases hlt : j < q.length
  case neg =>
   have hjl : j = q.length := by omega
   subst hjl
   rw [List.take_length]
   have hO := runN_ok hs q
   have hW := hO.bd.w
   have ht : (runN p q).s.told.length < 1000000 := by have := hO.bd.told; omega
   have hl : (runN p q).s.th.length < 1000000 := by have := hO.th; have := sound_th hs; omega
   clear hlt hj
   repeat' (first
   | refine Awp_sqG fun K hK => ?_
   | (refine Awp_reg rfl fun K hK => ?_; simp [*])
   | (refine Awp_regD [] rfl rfl fun K hK => ?_; simp [*])
   | (refine WG_br (fun h => ?_) (fun h => ?_) <;> (have h' := h; try simp at h'; simp [*]))
   | (refine RG_br (fun h => ?_) (fun h => ?_) <;> (have h' := h; try simp at h'; simp [*]))
   | (refine wl_litF rfl ?_; try simp [*])
   | (refine call_L [1, 2, 3, 4] (SR.end_ (runN p q) hW ht hl) rfl rfl rfl rfl rfl ?_; try simp [*])
   | refine Gq.here ?_
   | refine And.intro (by omega) ?_
   | (refine wl_box rfl ?_; simp [*])
   | (refine wl_alloc rfl ?_; simp [*])
   | (refine wr_box rfl ?_; simp [*])
   | (refine wr_alloc rfl ?_; simp [*])
   | (refine wl_store ?_; simp [*])
   | (refine wr_store ?_; simp [*])
   | (show Wl _ _ _ _ _ _; simp [*])
   | (show Wr _ _ _ _ _ _ _; simp [*])
   | (refine kont hK ?_; clear hK K)
   | refine kont (by assumption) ?_
   | with_reducible refine thenA_n ?_
   | with_reducible refine thenA_r ?_
   | with_reducible refine thenA_e ?_
   | with_reducible refine blockA_n ?_
   | with_reducible refine blockA_r ?_
   | with_reducible refine blockA_e ?_
   | with_reducible refine blockA_o rfl ?_
   | refine Awp_ifT rfl ?_
   | refine Awp_ifF rfl ?_
   | (refine Awp_if rfl (fun h => ?_) (fun h => ?_) <;> ((have h' := h; try simp at h') <;> try (have h2 := h; simp only [decide_eq_false_iff_not] at h2)))
   | with_reducible refine noGo_n ?_
   | with_reducible refine noGo_r ?_
   | with_reducible refine noGo_e ?_
   | with_reducible refine Awp_scope ?_
   | with_reducible refine Awp_label ?_
   | with_reducible refine Awp_ret ?_
   | with_reducible refine Awp_skip ?_
   | with_reducible refine Awp_exit ?_
   | with_reducible refine Awp_block ?_)
   all_goals (subst hQ; refine endA_rL (x := .tup [.agg (endR (runN p q)).cells, nE 0]) (y := .tup [.agg (endR (runN p q)).cells, nE 0]) [] ?_ rfl rfl rfl rfl ⟨rfl, rfl⟩; simp [resA, resL, resV, Res.cells, *, eqEv, be_02, be_124, bins0, bins01, bins02, bprg6, bprg26, bprg56, bprg0, eqpn, eqnn, MT_set10, MT_set11, st_MT10, st_MT11, rnT_c, nlV, nlV.nlL, frzV, frzL, frzO, pExt, encI_len, k2_s, chunk, encI_len, cv53, shp0c, pExt, Prg.cells, ldQ, g1R, obQ, stQ, s1Q, ix3, ia3, ia28, bi3, bs0, bs01, bs02, bs012, bs013, bs014, bs0134, bs01234, bw1, bw2, bw3, rn_ptr, rn_sl, rn_any, posOf, encE_len, ia_evts, ld_evt, Evt.cells])
  have hlt' : ((j : Int) < (q.length : Int)) := by omega
  obtain ⟨x, hx1⟩ : ∃ x, q[j]? = some x := ⟨q[j], by simp [hlt]⟩
  have hx2 : q[(j : Int).toNat]? = some x := hx1
  have hj0 : (0 : Int) ≤ (j : Int) := by omega
  have hdec : q.length - (j + 1) < q.length - j := by omega
  have hwj : IntKind.i64.wrap ((j : Int) + 1) = (j : Int) + 1 := wrap_small (by omega) (by omega)
  have hj1 : j + 1 ≤ q.length := by omega
  have htk := runN_take (p := p) hx1
  have hO := runN_ok hs (q.take j)
  have hlen : (q.take j).length ≤ 2000 := by rw [List.length_take]; omega
  generalize runN p (q.take j) = r at *
  have hW := hO.bd.w
  have ht : r.s.told.length < 1000000 := by have := hO.bd.told; omega
  have hch := hO.bd.chs (by omega)
  have hp : r.picks.length < 999999 := by have := hO.np; omega
  have hn : r.trace.length < 999999 := by have := hO.nt; omega
  have hst := hO.st
  clear hlt hj hlen
  repeat' (first
  | refine Awp_sq fun K hK => ?_
  | (refine Awp_reg rfl fun K hK => ?_; simp [*])
  | (refine Awp_regD [] rfl rfl fun K hK => ?_; simp [*])
  | (refine WG_br (fun h => ?_) (fun h => ?_) <;> (have h' := h; try simp at h'; simp [*]))
  | (refine RG_br (fun h => ?_) (fun h => ?_) <;> (have h' := h; try simp at h'; simp [*]))
  | (refine wl_litF rfl ?_; try simp [*])
  | (refine call_Lm [1, 2, 3, 4] [2, 3] (SR.pick r x hW ht hch hp hn hst) rfl rfl rfl rfl (by decide) rfl rfl ?_; try simp [*])
  | refine And.intro (by omega) ?_
  | (refine wl_box rfl ?_; simp [*])
  | (refine wl_alloc rfl ?_; simp [*])
  | (refine wr_box rfl ?_; simp [*])
  | (refine wr_alloc rfl ?_; simp [*])
  | (refine wl_store ?_; simp [*])
  | (refine wr_store ?_; simp [*])
  | (show Wl _ _ _ _ _ _; simp [*])
  | (show Wr _ _ _ _ _ _ _; simp [*])
  | (refine kont hK ?_; clear hK K)
  | refine kont (by assumption) ?_
  | with_reducible refine thenA_n ?_
  | with_reducible refine thenA_r ?_
  | with_reducible refine thenA_e ?_
  | with_reducible refine blockA_n ?_
  | with_reducible refine blockA_r ?_
  | with_reducible refine blockA_e ?_
  | with_reducible refine blockA_o rfl ?_
  | refine Awp_ifT rfl ?_
  | refine Awp_ifF rfl ?_
  | (refine Awp_if rfl (fun h => ?_) (fun h => ?_) <;> ((have h' := h; try simp at h') <;> try (have h2 := h; simp only [decide_eq_false_iff_not] at h2)))
  | with_reducible refine noGo_n ?_
  | with_reducible refine noGo_r ?_
  | with_reducible refine noGo_e ?_
  | with_reducible refine Awp_scope ?_
  | with_reducible refine Awp_label ?_
  | with_reducible refine Awp_ret ?_
  | with_reducible refine Awp_skip ?_
  | with_reducible refine Awp_exit ?_
  | with_reducible refine Awp_block ?_)
  all_goals (refine gq_cmp [0, 1, 2, 5, 6] rfl rfl rfl ⟨⟨j + 1, hj1, ?_, ?_, ?_, ?_, ?_, ?_⟩, ?_⟩ <;> first | (simp [*, rn_ptr, posOf]; done) | (simp [*, rn_ptr, posOf]; omega) | (rw [htk]; rfl))

end Go.Proofs.YtogfcpaalcebdaaE
