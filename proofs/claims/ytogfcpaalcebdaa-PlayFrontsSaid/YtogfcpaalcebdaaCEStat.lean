/- What a state has come to. -/
import Derived.Test.YtogfcpaalcebdaaCEMk
namespace Go.Proofs.YtogfcpaalcebdaaE
open Go Go.RowKit
set_option linter.unusedVariables false
set_option linter.unusedSimpArgs false
set_option maxRecDepth 1000000
set_option maxHeartbeats 8000000
theorem wrap_sm {n : Int} (h0 : 0 ≤ n) (h1 : n < 2000000) : IntKind.i64.wrap n = n := by rw [IntKind.wrap_i64]; omega
def lives (σ : Sg) (k : Nat) : Bool := (thAt σ k).began && !(endd σ k)
def statF (σ : Sg) : Int :=
 if σ.trapped then 3 else if (List.range σ.th.length).any (fun k => can σ k) then 0 else if (List.range σ.th.length).any (fun k => lives σ k) then 2 else 1
theorem rd_thread {σ : Sg} {ext : Mem2} {k : Nat} {b : Bool} {a r0 r1 r2 r3 : Int} (h : σ.th[k]? = some ⟨b, a, [r0, r1, r2, r3]⟩) : aLoad tab (M σ ext) 85 (.ptr 1 k 0) = some (.agg [nB b, nI a, nI r0, nI r1, nI r2, nI r3]) := by
 have g : ∀ off x, (Th.enc ⟨b, a, [r0, r1, r2, r3]⟩)[off]? = some x → get1 (M σ ext) 1 k off = some (.c x) := fun off x hx => by
  unfold get1; rw [show obGet (M σ ext) 1 = some (.arr 6 (σ.th.map Th.enc)) from rfl]
  simp only [List.getElem?_map, h, Option.map_some, hx]
 show (match getN (M σ ext) 1 k 0 6 with
 | some l => some (V.agg l)
 | none => none) = _
 simp only [getN, g 0 _ rfl, g 1 _ rfl, g 2 _ rfl, g 3 _ rfl, g 4 _ rfl, g 5 _ rfl]
theorem len4 {l : List Int} (h : l.length = 4) : ∃ a b c d, l = [a, b, c, d] := by
 match l, h with
 | [a, b, c, d], _ => exact ⟨a, b, c, d, rfl⟩
def outS (σ : Sg) (j : Nat) : Int := if (List.range j).any (fun k => lives σ k) then 2 else 1
theorem outS_s {σ : Sg} {j : Nat} : outS σ (j + 1) = if lives σ j = true then 2 else outS σ j := by
 unfold outS
 rw [List.range_succ, List.any_append]
 simp only [List.any_cons, List.any_nil, Bool.or_false]
 cases lives σ j <;> simp
theorem renD_c9 {x : C} : renD L9 (.c x) = .c x := rfl
theorem rn9 : renD L9 (.ptr 0 0 0) = .ptr 0 0 0 := rfl
theorem rn9s {n : Nat} : renD L9 (.sl 1 6 0 n false) = .sl 1 6 0 n false := rfl
inductive SQ : Spec
 | can (σ : Sg) (k : Int) (hW : WF σ) : SQ 23 [.ptr 0 0 0, nI k] (M σ []) (pt (nB (can σ k)) (M σ []) [])
 | ended (σ : Sg) (k : Int) (hW : WF σ) (hk : inR k σ.th.length) : SQ 34 [.ptr 0 0 0, nI k] (M σ []) (pt (nB (endd σ k)) (M σ []) [])
theorem SQ_good : Good SQ := by
 refine ⟨fun f a m P h => ?_, fun f a m P h => ?_⟩
 · cases h with
   | can σ k hW => exact can_m SA_good σ k hW
   | ended σ k hW hk => exact ended_m2 Good.none σ k hW hk
 · cases h with
   | can σ k hW => exact ⟨_, Try.func23, rfl, rfl⟩
   | ended σ k hW hk => exact ⟨_, Try.func34, rfl, rfl⟩
theorem status_m (hG : Good SQ) (σ : Sg) (hW : WF σ) (hl : σ.th.length < 1000000) : Meets 32 [.ptr 0 0 0] (M σ []) (pt (nU (statF σ)) (M σ []) []) := by
 refine meets hG Try.func32 rfl rfl ?_
 show Awp (env _ _) _ _ ((Try.f32).body.getD .skip) _ _
 unfold Try.f32
 dsimp only [Option.getD_some]
 unfold start
 generalize hQ : endA _ _ _ _ _ = Q
 by_cases htr : σ.trapped = true
 case pos =>
  repeat' (first
  | refine Awp_sq fun K hK => ?_
  | (refine Awp_reg rfl fun K hK => ?_; simp [*])
  | (refine Awp_regD [] rfl rfl fun K hK => ?_; simp [*])
  | (refine WG_br (fun h => ?_) (fun h => ?_) <;> (have h' := h; try simp at h'; simp [*]))
  | (refine RG_br (fun h => ?_) (fun h => ?_) <;> (have h' := h; try simp at h'; simp [*]))
  | (apply call_s (SQ.can σ _ hW); rfl; rfl; simp [*])
  | (apply call_s (SQ.ended σ _ hW hk); rfl; rfl; simp [*])
  | refine And.intro (by omega) ?_
  | (refine wl_box rfl ?_; simp [*])
  | (refine wl_alloc rfl ?_; simp [*])
  | (refine wr_box rfl ?_; simp [*])
  | (refine wr_alloc rfl ?_; simp [*])
  | (refine wl_store ?_; simp [*])
  | (refine wr_store ?_; simp [*])
  | (show Wl _ _ _ _ _ _; simp [*])
  | (show Wr _ _ _ _ _ _ _; simp [*])
  | refine kont (by assumption) ?_
  | with_reducible refine thenA_n ?_
  | with_reducible refine thenA_r ?_
  | with_reducible refine thenA_e ?_
  | with_reducible refine blockA_n ?_
  | with_reducible refine blockA_r ?_
  | with_reducible refine blockA_e ?_
  | with_reducible refine blockA_o rfl ?_
  | refine Awp_ifT rfl ?_
  | refine Awp_ifF rfl ?_
  | (refine Awp_if rfl (fun h => ?_) (fun h => ?_) <;> ((have h' := h; try simp at h') <;> try (have h2 := h; simp only [decide_eq_false_iff_not] at h2)))
  | with_reducible refine Awp_ret ?_
  | with_reducible refine Awp_skip ?_
  | with_reducible refine Awp_exit ?_
  | with_reducible refine Awp_block ?_)
  all_goals (subst hQ; refine endA_r9 rfl rfl ⟨?_, rfl⟩)
  all_goals simp [*, statF]
 replace htr : σ.trapped = false := by simpa using htr
 repeat' (first
 | refine Awp_sq fun K hK => ?_
 | (refine Awp_reg rfl fun K hK => ?_; simp [*])
 | (refine Awp_regD [] rfl rfl fun K hK => ?_; simp [*])
 | (refine WG_br (fun h => ?_) (fun h => ?_) <;> (have h' := h; try simp at h'; simp [*]))
 | (refine RG_br (fun h => ?_) (fun h => ?_) <;> (have h' := h; try simp at h'; simp [*]))
 | (apply call_s (SQ.can σ _ hW); rfl; rfl; simp [*])
 | (apply call_s (SQ.ended σ _ hW hk); rfl; rfl; simp [*])
 | refine And.intro (by omega) ?_
 | (refine wl_box rfl ?_; simp [*])
 | (refine wl_alloc rfl ?_; simp [*])
 | (refine wr_box rfl ?_; simp [*])
 | (refine wr_alloc rfl ?_; simp [*])
 | (refine wl_store ?_; simp [*])
 | (refine wr_store ?_; simp [*])
 | (show Wl _ _ _ _ _ _; simp [*])
 | (show Wr _ _ _ _ _ _ _; simp [*])
 | refine kont (by assumption) ?_
 | with_reducible refine thenA_n ?_
 | with_reducible refine thenA_r ?_
 | with_reducible refine thenA_e ?_
 | with_reducible refine blockA_n ?_
 | with_reducible refine blockA_r ?_
 | with_reducible refine blockA_e ?_
 | with_reducible refine blockA_o rfl ?_
 | refine Awp_ifT rfl ?_
 | refine Awp_ifF rfl ?_
 | (refine Awp_if rfl (fun h => ?_) (fun h => ?_) <;> ((have h' := h; try simp at h') <;> try (have h2 := h; simp only [decide_eq_false_iff_not] at h2)))
 | with_reducible refine Awp_ret ?_
 | with_reducible refine Awp_skip ?_
 | with_reducible refine Awp_exit ?_
 | with_reducible refine Awp_block ?_)
 refine Awp_loop (fun s => ∃ j : Nat, j ≤ σ.th.length ∧ (∀ q, q < j → can σ (q : Nat) = false) ∧ s.m = M σ [] ∧ s.A 0 = .ptr 0 0 0 ∧ s.A 3 = nU (outS σ j) ∧ s.A 13 = .sl 1 6 0 σ.th.length false ∧ s.A 14 = nI σ.th.length ∧ s.A 15 = nI j) (fun s => match s.A 15 with | .c (.sc (.int _ n)) => σ.th.length - n.toNat | _ => 0) (Gq.here ?_) (fun s hs => ?_)
 · exact ⟨0, by omega, fun q hq => absurd hq (by omega), by simp [*, outS]⟩
 obtain ⟨A, m⟩ := s
 obtain ⟨j, hj, hp, hm, a0, a3, a13, a14, a15⟩ := hs
 dsimp only at hm a0 a3 a13 a14 a15
 subst hm
 by_cases hlt : j < σ.th.length
 case neg =>
  have hlt' : ¬ ((j : Int) < (σ.th.length : Int)) := by omega
  have hje : j = σ.th.length := by omega
  have hno : (List.range σ.th.length).any (fun k => can σ (k : Nat)) = false := by
   rw [List.any_eq_false]
   intro x hx
   simp at hx
   simp [hp x (by omega)]
  have hst : statF σ = outS σ j := by
   unfold statF outS
   rw [htr, hno, hje]
   simp
  clear hlt
  repeat' (first
  | refine Awp_sq fun K hK => ?_
  | (refine Awp_reg rfl fun K hK => ?_; simp [*])
  | (refine Awp_regD [] rfl rfl fun K hK => ?_; simp [*])
  | (refine WG_br (fun h => ?_) (fun h => ?_) <;> (have h' := h; try simp at h'; simp [*]))
  | (refine RG_br (fun h => ?_) (fun h => ?_) <;> (have h' := h; try simp at h'; simp [*]))
  | (apply call_s (SQ.can σ _ hW); rfl; rfl; simp [*])
  | (apply call_s (SQ.ended σ _ hW hk); rfl; rfl; simp [*])
  | refine And.intro (by omega) ?_
  | (refine wl_box rfl ?_; simp [*])
  | (refine wl_alloc rfl ?_; simp [*])
  | (refine wr_box rfl ?_; simp [*])
  | (refine wr_alloc rfl ?_; simp [*])
  | (refine wl_store ?_; simp [*])
  | (refine wr_store ?_; simp [*])
  | (show Wl _ _ _ _ _ _; simp [*])
  | (show Wr _ _ _ _ _ _ _; simp [*])
  | refine kont (by assumption) ?_
  | with_reducible refine thenA_n ?_
  | with_reducible refine thenA_r ?_
  | with_reducible refine thenA_e ?_
  | with_reducible refine blockA_n ?_
  | with_reducible refine blockA_r ?_
  | with_reducible refine blockA_e ?_
  | with_reducible refine blockA_o rfl ?_
  | refine Awp_ifT rfl ?_
  | refine Awp_ifF rfl ?_
  | (refine Awp_if rfl (fun h => ?_) (fun h => ?_) <;> ((have h' := h; try simp at h') <;> try (have h2 := h; simp only [decide_eq_false_iff_not] at h2)))
  | with_reducible refine Awp_ret ?_
  | with_reducible refine Awp_skip ?_
  | with_reducible refine Awp_exit ?_
  | with_reducible refine Awp_block ?_)
  all_goals (subst hQ; refine endA_r9 rfl rfl ⟨?_, rfl⟩)
  all_goals simp [*]
 have hlt' : ((j : Int) < (σ.th.length : Int)) := by omega
 have hk : inR (j : Int) σ.th.length := ⟨by omega, hlt'⟩
 have h2 := thAt_get hk
 obtain ⟨r0, r1, r2, r3, hr⟩ := len4 (hW.regs _ _ h2)
 have hth : σ.th[j]? = some ⟨(thAt σ j).began, (thAt σ j).at_, [r0, r1, r2, r3]⟩ := by
  rw [← hr]
  exact h2
 have hj0 : (0 : Int) ≤ (j : Int) := by omega
 have hdec : σ.th.length - (j + 1) < σ.th.length - j := by omega
 have hwj : IntKind.i64.wrap ((j : Int) + 1) = ((j + 1 : Nat) : Int) := wrap_sm (by omega) (by omega)
 have hj1 : j + 1 ≤ σ.th.length := by omega
 have hli : lives σ j = ((thAt σ j).began && !(endd σ j)) := rfl
 have hrt := rd_thread (ext := [none]) hth
 have hany : can σ (j : Int) = true → (List.range σ.th.length).any (fun k => can σ (k : Nat)) = true := fun h => by
  rw [List.any_eq_true]
  exact ⟨j, by simp; omega, h⟩
 clear hlt hj h2
 cases hcn : can σ (j : Int) with
 | true =>
  have hst : statF σ = 0 := by
   unfold statF
   rw [htr, hany hcn]
   simp
  repeat' (first
  | refine Awp_sq fun K hK => ?_
  | (refine Awp_reg rfl fun K hK => ?_; simp [*])
  | (refine Awp_regD [] rfl rfl fun K hK => ?_; simp [*])
  | (refine WG_br (fun h => ?_) (fun h => ?_) <;> (have h' := h; try simp at h'; simp [*]))
  | (refine RG_br (fun h => ?_) (fun h => ?_) <;> (have h' := h; try simp at h'; simp [*]))
  | (apply call_s (SQ.can σ _ hW); rfl; rfl; simp [*])
  | (apply call_s (SQ.ended σ _ hW hk); rfl; rfl; simp [*])
  | refine And.intro (by omega) ?_
  | (refine wl_box rfl ?_; simp [*])
  | (refine wl_alloc rfl ?_; simp [*])
  | (refine wr_box rfl ?_; simp [*])
  | (refine wr_alloc rfl ?_; simp [*])
  | (refine wl_store ?_; simp [*])
  | (refine wr_store ?_; simp [*])
  | (show Wl _ _ _ _ _ _; simp [*])
  | (show Wr _ _ _ _ _ _ _; simp [*])
  | refine kont (by assumption) ?_
  | with_reducible refine thenA_n ?_
  | with_reducible refine thenA_r ?_
  | with_reducible refine thenA_e ?_
  | with_reducible refine blockA_n ?_
  | with_reducible refine blockA_r ?_
  | with_reducible refine blockA_e ?_
  | with_reducible refine blockA_o rfl ?_
  | refine Awp_ifT rfl ?_
  | refine Awp_ifF rfl ?_
  | (refine Awp_if rfl (fun h => ?_) (fun h => ?_) <;> ((have h' := h; try simp at h') <;> try (have h2 := h; simp only [decide_eq_false_iff_not] at h2)))
  | with_reducible refine Awp_ret ?_
  | with_reducible refine Awp_skip ?_
  | with_reducible refine Awp_exit ?_
  | with_reducible refine Awp_block ?_)
  all_goals (subst hQ; refine endA_r9 rfl rfl ⟨?_, rfl⟩)
  all_goals simp [*]
 | false =>
  have hp2 : ∀ q, q < j + 1 → can σ (q : Nat) = false := fun q hq => by
   by_cases e : q = j
   · subst e; exact hcn
   · exact hp q (by omega)
  have hout := outS_s (σ := σ) (j := j)
  cases hbg : (thAt σ j).began <;> cases hen : endd σ (j : Int) <;> simp only [hbg, hen, Bool.true_and, Bool.false_and, Bool.not_true, Bool.not_false] at hli <;> simp only [hli, if_true, Bool.false_eq_true, if_false] at hout
  repeat' (first
  | refine Awp_sq fun K hK => ?_
  | (refine Awp_reg rfl fun K hK => ?_; simp [*])
  | (refine Awp_regD [] rfl rfl fun K hK => ?_; simp [*])
  | (refine WG_br (fun h => ?_) (fun h => ?_) <;> (have h' := h; try simp at h'; simp [*]))
  | (refine RG_br (fun h => ?_) (fun h => ?_) <;> (have h' := h; try simp at h'; simp [*]))
  | (apply call_s (SQ.can σ _ hW); rfl; rfl; simp [*])
  | (apply call_s (SQ.ended σ _ hW hk); rfl; rfl; simp [*])
  | refine And.intro (by omega) ?_
  | (refine wl_box rfl ?_; simp [*])
  | (refine wl_alloc rfl ?_; simp [*])
  | (refine wr_box rfl ?_; simp [*])
  | (refine wr_alloc rfl ?_; simp [*])
  | (refine wl_store ?_; simp [*])
  | (refine wr_store ?_; simp [*])
  | (show Wl _ _ _ _ _ _; simp [*])
  | (show Wr _ _ _ _ _ _ _; simp [*])
  | refine kont (by assumption) ?_
  | with_reducible refine thenA_n ?_
  | with_reducible refine thenA_r ?_
  | with_reducible refine thenA_e ?_
  | with_reducible refine blockA_n ?_
  | with_reducible refine blockA_r ?_
  | with_reducible refine blockA_e ?_
  | with_reducible refine blockA_o rfl ?_
  | refine Awp_ifT rfl ?_
  | refine Awp_ifF rfl ?_
  | (refine Awp_if rfl (fun h => ?_) (fun h => ?_) <;> ((have h' := h; try simp at h') <;> try (have h2 := h; simp only [decide_eq_false_iff_not] at h2)))
  | with_reducible refine Awp_ret ?_
  | with_reducible refine Awp_skip ?_
  | with_reducible refine Awp_exit ?_
  | with_reducible refine Awp_block ?_)
  all_goals (refine ⟨_, Gst.cmp (L := L9) rfl rfl foot9, ⟨j + 1, hj1, hp2, rfl, ?_, ?_, ?_, ?_, ?_⟩, ?_⟩ <;> simp [*, cmp, renD_c9, rn9, rn9s])

end Go.Proofs.YtogfcpaalcebdaaE
