/- Runs: what the laws ask; the example. -/
import Derived.Test.YtogfcpaalcebdaaCEPlay4
import Derived.Test.YtogfcpaalcebdaaCEMkS
import Derived.Test.YtogfcpaalcebdaaCECopy
namespace Go.Proofs.YtogfcpaalcebdaaE
open Go Go.RowKit
set_option linter.unusedVariables false
set_option linter.unusedSimpArgs false
set_option maxRecDepth 1000000
set_option maxHeartbeats 8000000
theorem meets_nlL {f : FuncId} {xs ys : List V} {m : Mem2} {P : V → Mem2 → List Nat → Prop} (e : nlV.nlL xs = ys) (h : Meets f ys m P) : Meets f xs m P := fun G w vs hok hv => h G w vs hok ⟨by rw [← e]; exact (nlL_get (xs := xs)).1.trans hv.1, fun j z hj => by
 rw [← e, (nlL_get (xs := xs)).2 j] at hj
 cases hx : xs[j]? with
 | none => rw [hx] at hj; cases hj
 | some y =>
  rw [hx] at hj
  cases hj
  exact nlV_sound (hv.2 j y hx)⟩
inductive SW : Spec
 | n {f : FuncId} {a : List V} {m : Mem2} {P : V → Mem2 → List Nat → Prop} (h : SN f a m P) : SW f a m P
 | same (a b : Res) (h1 : a.prints.length < 1000000) (h2 : a.picks.length < 1000000) (h3 : a.trace.length < 1000000) (h4 : b.prints.length < 1000000) (h5 : b.picks.length < 1000000) (h6 : b.trace.length < 1000000) : SW 18 [.agg a.cells, .agg b.cells] [] (pt (nB (decide (a = b))) [] [])
 | picks (c : List Int) (hw8 : ∀ x ∈ c, 0 ≤ x ∧ x < 256) : SW 13 [.c (.ls (encU c))] [] (pt (.c (.ls (encI (picksF c)))) [] [])
 | make (l : List (List Int)) (hl8 : ∀ r ∈ l, ∀ x ∈ r, 0 ≤ x ∧ x < 256) (hll : l.length ≤ 9223372036854775807) (hlr : ∀ r ∈ l, r.length ≤ 9223372036854775807) : SW 11 [.c (.ls (encR l))] [] (pt (.agg (makeM l).cells) [] [])
 | run (p : Prg) (hP : OkP p) (hs : soundF p = 0) (x : V) (hv : PV p x) (q : List Int) (hq : q.length ≤ 2000) : SW 12 [x, .c (.ls (encI q))] [] (pt (.tup [.agg (endR (runN p q)).cells, nE 0]) [] [])
 | run0 (p : Prg) (hP : OkP p) (hs : soundF p ≠ 0) (x : V) (hv : PV p x) : SW 12 [x, .nl] [] (pt (.tup [.agg [.nl, nU 0, .nl, .nl], nE 1]) [] [])
 | round (p : Prg) (hP : OkP p) (hs : soundF p = 0) (x : V) (hv : PV p x) (most : Int) (h0 : 0 ≤ most) (h2 : most ≤ 2000) : SW 14 [x, nI most] [] (pt (.tup [.agg (endR (roundI p most.toNat).1).cells, nE 0]) [] [])
theorem SW_good : Good SW := by
 refine ⟨fun f a m P h => ?_, fun f a m P h => ?_⟩
 · cases h with
   | n h => exact SN_good.ok _ _ _ _ h
   | same a b h1 h2 h3 h4 h5 h6 => exact same_m SN_good a b h1 h2 h3 h4 h5 h6
   | picks c hw8 => exact picks_m Good.none c hw8
   | make l h1 h2 h3 => exact make_m SI_good l h1 h2 h3
   | run p hP hs x hv q hq => exact runC_m SR_good p hP x hv q hs hq
   | run0 p hP hs x hv => exact meets_nlL (by show nlV x :: _ = _; rw [hv.nlv]; rfl) (runA_m SR_good p hP (.agg p.cells) .full [] hs)
   | round p hP hs x hv most h0 h2 => exact roundC_m SR_good p hP x hv most hs h0 h2
 · cases h with
   | n h => exact SN_good.fn _ _ _ _ h
   | same a b h1 h2 h3 h4 h5 h6 => exact ⟨_, Try.func18, rfl, rfl⟩
   | picks c hw8 => exact ⟨_, Try.func13, rfl, rfl⟩
   | make l h1 h2 h3 => exact ⟨_, Try.func11, rfl, rfl⟩
   | run p hP hs x hv q hq => exact ⟨_, Try.func12, rfl, rfl⟩
   | run0 p hP hs x hv => exact ⟨_, Try.func12, rfl, rfl⟩
   | round p hP hs x hv most h0 h2 => exact ⟨_, Try.func14, rfl, rfl⟩
def kq : Prg := ⟨0, 0, 0, [], 0, 0, [[⟨12, 1, 0, 0⟩, ⟨9, 0, 0, 0⟩], [⟨1, 0, 5, 0⟩, ⟨9, 0, 0, 0⟩]]⟩
def kq0 : Prg := ⟨0, 0, 0, [], 0, 0, []⟩
theorem kq_ok : OkP kq := ⟨by decide, by decide, by decide, by decide⟩
theorem kq0_ok : OkP kq0 := ⟨by decide, by decide, by decide, by decide⟩
theorem kq_s : soundF kq = 0 := by decide
theorem kq0_s : soundF kq0 ≠ 0 := by decide
def kR1 : Res := ⟨[5, 0], 1, [0, 1, 1, 0], [⟨0, 0, 12, 1, 0, 0⟩, ⟨1, 0, 1, 0, 0, 0⟩, ⟨1, 1, 9, 0, 5, 0⟩, ⟨0, 1, 9, 0, 0, 0⟩]⟩
def kR2 : Res := ⟨[0, 5], 1, [0, 1, 0, 1], [⟨0, 0, 12, 1, 0, 0⟩, ⟨1, 0, 1, 0, 0, 0⟩, ⟨0, 1, 9, 0, 0, 0⟩, ⟨1, 1, 9, 0, 5, 0⟩]⟩
theorem kR1_e : endR (runN kq [0, 1, 1, 0, 1]) = kR1 := by decide +kernel
theorem kR2_e : endR (roundI kq (9 : Int).toNat).1 = kR2 := by decide +kernel
theorem kcells1 : kR1.cells = [.c (.ls (encI [5, 0])), nU 1, .c (.ls (encI [0, 1, 1, 0])), .c (.ls (encE kR1.trace))] := rfl
theorem kcells2 : kR2.cells = [.c (.ls (encI [0, 5])), nU 1, .c (.ls (encI [0, 1, 0, 1])), .c (.ls (encE kR2.trace))] := rfl
theorem kR1_l : kR1.trace.length = 4 := rfl
theorem kq_run : SW 12 [.agg [nI 0, nI 0, nI 0, .nl, nI 0, nI 0, .c (.ls (kq.code.map encC))], .c (.ls (encI [0, 1, 1, 0, 1]))] [] (pt (.tup [.agg kR1.cells, nE 0]) [] []) := by
 have h := SW.run kq kq_ok kq_s _ (.noch rfl) [0, 1, 1, 0, 1] (by decide)
 rw [kR1_e] at h
 exact h
theorem kq_round : SW 14 [.agg [nI 0, nI 0, nI 0, .nl, nI 0, nI 0, .c (.ls (kq.code.map encC))], nI 9] [] (pt (.tup [.agg kR2.cells, nE 0]) [] []) := by
 have h := SW.round kq kq_ok kq_s _ (.noch rfl) 9 (by decide) (by decide)
 rw [kR2_e] at h
 exact h
theorem kq_run0 : SW 12 [.agg [nI 0, nI 0, nI 0, .nl, nI 0, nI 0, .nl], .nl] [] (pt (.tup [.agg [.nl, nU 0, .nl, .nl], nE 1]) [] []) := SW.run0 kq0 kq0_ok kq0_s _ (.none rfl rfl)
attribute [local simp] eqEv be_02 be_124 bins0 bins01 bins02 bprg6 bprg26 bprg56 bprg0 eqpn eqnn MT_set10 MT_set11 st_MT10 st_MT11 rnT_c nlV nlV.nlL frzV frzL frzO pExt encI_len k2_s chunk encI_len cv53 shp0c pExt Prg.cells ldQ g1R obQ stQ s1Q ix3 ia3 ia28 bi3 bs0 bs01 bs02 bs012 bs013 bs014 bs0134 bs01234 bw1 bw2 bw3 rn_ptr rn_sl rn_any posOf encE_len ia_evts ld_evt Evt.cells kcells1 kcells2 kR1_l
theorem known_m5 (hG : Good SW) : Meets 15 [] ([]) (pt (nB true) [] []) := by
 refine meets hG Try.func15 rfl rfl ?_
 show Awp (env _ _) _ _ ((Try.f15).body.getD .skip) _ _
 unfold Try.f15
 dsimp only [Option.getD_some]
 unfold start
 generalize hQ : endA _ _ _ _ _ = Q
 repeat' (first
 | refine Awp_sqG fun K hK => ?_
 | (refine Awp_reg rfl fun K hK => ?_; simp [*])
 | (refine Awp_regD [] rfl rfl fun K hK => ?_; simp [*])
 | (refine WG_br (fun h => ?_) (fun h => ?_) <;> (have h' := h; try simp at h'; simp [*]))
 | (refine RG_br (fun h => ?_) (fun h => ?_) <;> (have h' := h; try simp at h'; simp [*]))
 | (refine wl_litF rfl ?_; try simp [*])
 | (refine call_0 (kq_run) rfl rfl ?_; try simp [*])
 | (refine call_0 (kq_round) rfl rfl ?_; try simp [*])
 | (refine call_0 (kq_run0) rfl rfl ?_; try simp [*])
 | refine Gq.here ?_
 | refine And.intro (by omega) ?_
 | (refine wl_box rfl ?_; simp [*])
 | (refine wl_alloc rfl ?_; simp [*])
 | (refine wr_box rfl ?_; simp [*])
 | (refine wr_alloc rfl ?_; simp [*])
 | (refine wl_store ?_; simp [*])
 | (refine wr_store ?_; simp [*])
 | (show Wl _ _ _ _ _ _; simp [*])
 | (show Wr _ _ _ _ _ _ _; simp [*])
 | (refine kont hK ?_; clear hK K)
 | refine kont (by assumption) ?_
 | with_reducible refine thenA_n ?_
 | with_reducible refine thenA_r ?_
 | with_reducible refine thenA_e ?_
 | with_reducible refine blockA_n ?_
 | with_reducible refine blockA_r ?_
 | with_reducible refine blockA_e ?_
 | with_reducible refine blockA_o rfl ?_
 | refine Awp_ifT rfl ?_
 | refine Awp_ifF rfl ?_
 | (refine Awp_if rfl (fun h => ?_) (fun h => ?_) <;> ((have h' := h; try simp at h') <;> try (have h2 := h; simp only [decide_eq_false_iff_not] at h2)))
 | with_reducible refine noGo_n ?_
 | with_reducible refine noGo_r ?_
 | with_reducible refine noGo_e ?_
 | with_reducible refine Awp_scope ?_
 | with_reducible refine Awp_label ?_
 | with_reducible refine Awp_ret ?_
 | with_reducible refine Awp_skip ?_
 | with_reducible refine Awp_exit ?_
 | with_reducible refine Awp_block ?_)
 all_goals (subst hQ; refine endA_rL [] rfl rfl rfl rfl rfl ⟨rfl, rfl⟩)

end Go.Proofs.YtogfcpaalcebdaaE
