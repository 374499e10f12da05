/- A step, walked. -/
import Derived.Test.YtogfcpaalcebdaaCEMk
namespace Go.Proofs.YtogfcpaalcebdaaE
open Go Go.RowKit
set_option linter.unusedVariables false
set_option linter.unusedSimpArgs false
set_option maxRecDepth 1000000
set_option maxHeartbeats 8000000
theorem step_m (hG : Good SB) (σ : Sg) (k : Int) (hW : WF σ) (hto : σ.told.length < 1000000) (hch : ∀ c ∈ σ.ch, c.row.length < 1000000) : Meets 30 [.ptr 0 0 0, nI k] (M σ []) (pq (fun r a => ∃ ver, if can σ k = true then r = .tup [.agg (goF σ k ver).2.cells, nB true] ∧ a = M (goF σ k ver).1 [] else r = .tup [.agg Evt.none.cells, nB false] ∧ a = M σ []) ([8])) := by
 refine meets_q hG Try.func30 rfl rfl ?_
 show Awp (env _ _) _ _ ((Try.f30).body.getD .skip) _ _
 unfold Try.f30
 dsimp only [Option.getD_some]
 unfold start
 generalize hQ : endA _ _ _ _ _ = Q
 by_cases hk : inR k σ.th.length
 case neg =>
  have hcan : can σ k = false := by
   unfold inR at hk
   unfold can
   rw [if_neg hk]
  repeat' (first
  | refine Awp_sq fun K hK => ?_
  | (refine Awp_reg rfl fun K hK => ?_; simp [*])
  | (refine Awp_regD [] rfl rfl fun K hK => ?_; simp [*])
  | (refine WG_br (fun h => ?_) (fun h => ?_) <;> (have h' := h; try simp at h'; simp [*]))
  | (refine RG_br (fun h => ?_) (fun h => ?_) <;> (have h' := h; try simp at h'; simp [*]))
  | (apply call_q; (constructor <;> assumption); rfl; rfl; simp; simp [*])
  | (apply call_s; (constructor <;> assumption); rfl; rfl; simp [*])
  | (apply call_p; (constructor <;> assumption); rfl; rfl; simp [*])
  | (apply call_pq; (constructor <;> assumption); rfl; rfl; simp [*])
  | refine And.intro (by omega) ?_
  | (refine wl_box rfl ?_; simp [*])
  | (refine wl_alloc rfl ?_; simp [*])
  | (refine wr_box rfl ?_; simp [*])
  | (refine wr_alloc rfl ?_; simp [*])
  | (refine wl_store ?_; simp [*])
  | (refine wr_store ?_; simp [*])
  | (show Wl _ _ _ _ _ _; simp [*])
  | (show Wr _ _ _ _ _ _ _; simp [*])
  | refine kont (by assumption) ?_
  | with_reducible refine thenA_n ?_
  | with_reducible refine thenA_r ?_
  | with_reducible refine thenA_e ?_
  | with_reducible refine blockA_n ?_
  | with_reducible refine blockA_r ?_
  | with_reducible refine blockA_e ?_
  | with_reducible refine blockA_o rfl ?_
  | refine Awp_ifT rfl ?_
  | refine Awp_ifF rfl ?_
  | (refine Awp_if rfl (fun h => ?_) (fun h => ?_) <;> ((have h' := h; try simp at h') <;> try (have h2 := h; simp only [decide_eq_false_iff_not] at h2)))
  | with_reducible refine Awp_ret ?_
  | with_reducible refine Awp_skip ?_
  | with_reducible refine Awp_exit ?_
  | with_reducible refine Awp_block ?_)
  all_goals (subst hQ; first | refine endA_r9t rfl rfl ?_)
  all_goals (exact ⟨0, by simp [*, Evt.none, Evt.cells]⟩)

 by_cases hcan : can σ k = true
 case neg =>
  replace hcan : can σ k = false := by simpa using hcan
  repeat' (first
  | refine Awp_sq fun K hK => ?_
  | (refine Awp_reg rfl fun K hK => ?_; simp [*])
  | (refine Awp_regD [] rfl rfl fun K hK => ?_; simp [*])
  | (refine WG_br (fun h => ?_) (fun h => ?_) <;> (have h' := h; try simp at h'; simp [*]))
  | (refine RG_br (fun h => ?_) (fun h => ?_) <;> (have h' := h; try simp at h'; simp [*]))
  | (apply call_q; (constructor <;> assumption); rfl; rfl; simp; simp [*])
  | (apply call_s; (constructor <;> assumption); rfl; rfl; simp [*])
  | (apply call_p; (constructor <;> assumption); rfl; rfl; simp [*])
  | (apply call_pq; (constructor <;> assumption); rfl; rfl; simp [*])
  | refine And.intro (by omega) ?_
  | (refine wl_box rfl ?_; simp [*])
  | (refine wl_alloc rfl ?_; simp [*])
  | (refine wr_box rfl ?_; simp [*])
  | (refine wr_alloc rfl ?_; simp [*])
  | (refine wl_store ?_; simp [*])
  | (refine wr_store ?_; simp [*])
  | (show Wl _ _ _ _ _ _; simp [*])
  | (show Wr _ _ _ _ _ _ _; simp [*])
  | refine kont (by assumption) ?_
  | with_reducible refine thenA_n ?_
  | with_reducible refine thenA_r ?_
  | with_reducible refine thenA_e ?_
  | with_reducible refine blockA_n ?_
  | with_reducible refine blockA_r ?_
  | with_reducible refine blockA_e ?_
  | with_reducible refine blockA_o rfl ?_
  | refine Awp_ifT rfl ?_
  | refine Awp_ifF rfl ?_
  | (refine Awp_if rfl (fun h => ?_) (fun h => ?_) <;> ((have h' := h; try simp at h') <;> try (have h2 := h; simp only [decide_eq_false_iff_not] at h2)))
  | with_reducible refine Awp_ret ?_
  | with_reducible refine Awp_skip ?_
  | with_reducible refine Awp_exit ?_
  | with_reducible refine Awp_block ?_)
  all_goals (subst hQ; first | refine endA_r9t rfl rfl ?_)
  all_goals (exact ⟨0, by simp [*, Evt.none, Evt.cells]⟩)

 have he : endd σ k = false := by
  unfold can at hcan
  by_cases h : endd σ k = true
  · simp [h] at hcan
  · simpa using h
 have h0 := hk.1
 have h1 := hk.2
 have h2 := thAt_get hk
 have h3 := codeAt_get (hW.code hk)
 have h4 := (hW.at0 hk).1
 have h5 := (hW.ins hk he).1
 have hmem := hW.ins hk he
 have hr : (thAt σ k).regs.length = 4 := hW.regs _ _ h2
 have f1 : Fit (setTh σ k.toNat (adv1 (thAt σ k))) (insAt σ k) := Fit_th (hW.fit _ hmem.2.2 _ hmem.2.1)
 have f2 : Fit2 (setTh σ k.toNat (adv1 (thAt σ k))) (insAt σ k) := Fit2_th (hW.fit2 _ hmem.2.2 _ hmem.2.1)
 have f3 : Reg4 ((codeAt σ k).length : Int) (insAt σ k) := hW.reg _ hmem.2.2 _ hmem.2.1
 have f4 := (hW.fit2 _ hmem.2.2 _ hmem.2.1).v
 have f5 := (hW.fit2 _ hmem.2.2 _ hmem.2.1).w
 clear hmem
 generalize ht : thAt σ k = t at *
 generalize hi : insAt σ k = i at *
 generalize hc0 : codeAt σ k = c at *
 have hadv : (setTh σ k.toNat (adv1 t)).th[k.toNat]? = some (adv1 t) := th_get h2
 have hreg : (adv1 t).regs.length = 4 := hr
 have hst : ∀ ext, aStore tab (M σ ext) 3 (.ptr 1 k.toNat 1) (nI (IntKind.i64.wrap (t.at_ + 1))) = some (M (setTh σ k.toNat (adv1 t)) ext) := fun ext => st_at h2
 have hvars : (setTh σ k.toNat (adv1 t)).vars = σ.vars := rfl
 have g1 : i.op = 7 → 0 ≤ i.a ∧ i.a < 4 ∧ i.a.toNat < 4 ∧ 0 ≤ i.b ∧ i.b < (σ.vars.length : Int) ∧ σ.vars[i.b.toNat]? = some (at0 σ.vars i.b) := fun h => by
  have q1 := f3.a (by omega)
  have q2 := f4 h
  exact ⟨q1.1, q1.2, by omega, q2.1, q2.2, at0_get q2⟩
 have g2 : i.op = 8 → 0 ≤ i.b ∧ i.b < 4 ∧ t.regs[i.b.toNat]? = some (at0 t.regs i.b) ∧ 0 ≤ i.a ∧ i.a < (σ.vars.length : Int) ∧ i.a.toNat < σ.vars.length := fun h => by
  have q1 := f3.b (by omega)
  have q2 := f5 h
  exact ⟨q1.1, q1.2, at0_get ⟨q1.1, by omega⟩, q2.1, q2.2, by unfold inR at q2; omega⟩
 have g3 : i.op = 9 → 0 ≤ i.a ∧ i.a < 4 ∧ t.regs[i.a.toNat]? = some (at0 t.regs i.a) := fun h => by
  have q1 := f3.a (by omega)
  exact ⟨q1.1, q1.2, at0_get ⟨q1.1, by omega⟩⟩
 have hrow : (chAt (setTh σ k.toNat (adv1 t)).ch i.a).row.length < 1000000 := chAt_len hch i.a
 have hold : (setTh σ k.toNat (adv1 t)).told.length < 1000000 := hto
 clear f4 f5
 have ho : (ownF (adv1 t) i = none ∧ ownT (adv1 t) i = adv1 t) ∨ ∃ t2, ownF (adv1 t) i = some t2 ∧ ownT (adv1 t) i = t2 := by
  unfold ownT
  cases ownF (adv1 t) i with
  | none => exact .inl ⟨rfl, rfl⟩
  | some t2 => exact .inr ⟨t2, rfl, rfl⟩
 have hself : setTh (setTh σ k.toNat (adv1 t)) k.toNat (adv1 t) = setTh σ k.toNat (adv1 t) := own_none hadv
 rcases ho with ⟨ho1, ho2⟩ | ⟨t2, ho1, ho2⟩
 repeat' (first
 | refine Awp_sqG fun K hK => ?_
 | refine Awp_sq fun K hK => ?_
 | (refine Awp_reg rfl fun K hK => ?_; simp [*])
 | (refine Awp_regD [] rfl rfl fun K hK => ?_; simp [*])
 | (refine WG_br (fun h => ?_) (fun h => ?_) <;> (have h' := h; try simp at h'; simp [*]))
 | (refine RG_br (fun h => ?_) (fun h => ?_) <;> (have h' := h; try simp at h'; simp [*]))
 | (apply call_q; (constructor <;> assumption); rfl; rfl; simp; simp [*])
 | (apply call_s; (constructor <;> assumption); rfl; rfl; simp [*])
 | (apply call_p; (constructor <;> assumption); rfl; rfl; simp [*])
 | (apply call_pq; (constructor <;> assumption); rfl; rfl; simp [*])
 | refine gq_tell rfl rfl rfl ?_
 | refine Gq.here ?_
 | (refine call_e (SB.take _ _ _ _ _ _ _ _ _ _ _ hadv hreg f3 f1 f2 (by omega)) (by first | rfl | (simp only [*]; rfl)) rfl ⟨_, _, rfl, 0, rfl⟩ (fun r a h => ?_); obtain ⟨h0, ver, h1⟩ := h; refine ⟨_, _, h1, rfl, by rw [h0]; rfl, ?_⟩; rw [h0]; simp [*])
 | (refine call_e (SB.give _ _ _ _ _ _ _ _ _ _ _ hadv hreg f3 f1 f2 hrow) (by first | rfl | (simp only [*]; rfl)) rfl ⟨_, _, 0, rfl, rfl⟩ (fun r a h => ?_); obtain ⟨ver, h0, h1⟩ := h; refine ⟨_, _, h1, rfl, by rw [h0]; rfl, ?_⟩; rw [h0]; simp [*])
 | (refine call_s (SB.own _ _ _ _ _ hadv hreg f3) rfl rfl ?_; simp [*])
 | (refine wr_tell rfl rfl rfl rfl rfl hold ⟨by decide, by decide, fun t h => by cases h; decide⟩ ?_; simp [*])
 | (refine wr_lit1 rfl ?_; simp [*])
 | (refine rv_eq (rd_reg hadv (g2 (by omega)).2.2.1) ?_; simp [*])
 | (refine rv_eq (rd_reg hadv (g3 (by omega)).2.2) ?_; simp [*])
 | (refine rv_eq (rd_reg (th_get hadv) (List.getElem?_set_self (by rw [hreg]; exact (g1 (by omega)).2.2.1))) ?_; simp [*])
 | (refine rv_eq (rd_reg (th_get hadv) (List.getElem?_set_self (by rw [hr]; exact (g1 (by omega)).2.2.1))) ?_; simp [*])
 | (refine rs_eq (st_var (g2 (by omega)).2.2.2.2.2) ?_; simp [*])
 | refine And.intro (by omega) ?_
 | (refine wl_box rfl ?_; simp [*])
 | (refine wl_alloc rfl ?_; simp [*])
 | (refine wr_box rfl ?_; simp [*])
 | (refine wr_alloc rfl ?_; simp [*])
 | (refine wl_store ?_; simp [*])
 | (refine wr_store ?_; simp [*])
 | (show Wl _ _ _ _ _ _; simp [*])
 | (show Wr _ _ _ _ _ _ _; simp [*])
 | refine kont (by assumption) ?_
 | with_reducible refine thenA_n ?_
 | with_reducible refine thenA_r ?_
 | with_reducible refine thenA_e ?_
 | with_reducible refine blockA_n ?_
 | with_reducible refine blockA_r ?_
 | with_reducible refine blockA_e ?_
 | with_reducible refine blockA_o rfl ?_
 | refine Awp_ifT rfl ?_
 | refine Awp_ifF rfl ?_
 | (refine Awp_if rfl (fun h => ?_) (fun h => ?_) <;> ((have h' := h; try simp at h') <;> try (have h2 := h; simp only [decide_eq_false_iff_not] at h2)))
 | with_reducible refine Awp_ret ?_
 | with_reducible refine Awp_skip ?_
 | with_reducible refine Awp_exit ?_
 | with_reducible refine Awp_block ?_)
 all_goals (subst hQ; first | (exfalso; omega) | refine endA_r9t rfl rfl ?_)
 all_goals (first | (exfalso; omega) | exact ⟨ver, by rw [if_pos hcan, goF_eq ht hi]; simp [*, Evt.cells, setR]⟩ | exact ⟨0, by rw [if_pos hcan, goF_eq ht hi]; simp [*, Evt.cells, setR]⟩)

end Go.Proofs.YtogfcpaalcebdaaE
