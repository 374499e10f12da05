/- What ir.Sound computes, walked. -/
import Derived.Test.YtogfcpaalcebdaaCESnd4
namespace Go.Proofs.YtogfcpaalcebdaaE
open Go Go.RowKit
set_option linter.unusedVariables false
set_option linter.unusedSimpArgs false
set_option maxRecDepth 1000000
set_option maxHeartbeats 8000000
theorem codeF_zero {l : List (Int × Int)} : ∀ {c : List Ins}, (∀ x ∈ c, insF l x = 0) → codeF l c = 0
 | [], _ => rfl
 | i :: r, h => by
  unfold codeF
  rw [if_pos (h i (by simp))]
  exact codeF_zero fun x hx => h x (by simp [hx])
theorem codeF_hit {l : List (Int × Int)} : ∀ {c : List Ins} {q : Nat} {i : Ins}, c[q]? = some i → (∀ x ∈ c.take q, insF l x = 0) → insF l i ≠ 0 → codeF l c = insF l i
 | [], q, i, h, _, _ => by simp at h
 | a :: r, 0, i, h, _, h3 => by
  simp only [List.getElem?_cons_zero, Option.some.injEq] at h
  subst h
  unfold codeF
  rw [if_neg h3]
 | a :: r, q + 1, i, h, h2, h3 => by
  unfold codeF
  rw [if_pos (h2 a (by simp))]
  exact codeF_hit (by simpa using h) (fun x hx => h2 x (by simp [hx])) h3
theorem codesF_zero {p : Prg} : ∀ {cs : List (List Ins)}, (∀ c ∈ cs, codeF (limF p c.length) c = 0) → codesF p cs = 0
 | [], _ => rfl
 | i :: r, h => by
  unfold codesF
  rw [if_pos (h i (by simp))]
  exact codesF_zero fun x hx => h x (by simp [hx])
theorem codesF_hit {p : Prg} : ∀ {cs : List (List Ins)} {j : Nat} {c : List Ins}, cs[j]? = some c → (∀ c ∈ cs.take j, codeF (limF p c.length) c = 0) → codeF (limF p c.length) c ≠ 0 → codesF p cs = codeF (limF p c.length) c
 | [], q, i, h, _, _ => by simp at h
 | a :: r, 0, i, h, _, h3 => by
  simp only [List.getElem?_cons_zero, Option.some.injEq] at h
  subst h
  unfold codesF
  rw [if_neg h3]
 | a :: r, q + 1, i, h, h2, h3 => by
  unfold codesF
  rw [if_pos (h2 a (by simp))]
  exact codesF_hit (by simpa using h) (fun x hx => h2 x (by simp [hx])) h3
theorem renD_c {L : List Nat} {x : C} : renD L (.c x) = .c x := rfl
theorem rn0 : renD [0] (.ptr 0 0 0) = .ptr 0 0 0 := rfl
theorem rn1 : renD [0, 1] (.ptr 0 0 0) = .ptr 0 0 0 := rfl
theorem rn2 : renD [0, 1] (.mp 1) = .mp 1 := rfl
structure OkP (p : Prg) : Prop where
 op : ∀ c ∈ p.code, ∀ i ∈ c, 0 ≤ i.op ∧ i.op < 256
 len : p.code.length < 1000000
 lens : ∀ c ∈ p.code, c.length < 1000000
 chs : p.chans.length < 1000000
theorem sound_m (hG : Good TF) (p : Prg) (hP : OkP p) : Meets 42 [.agg p.cells] ([]) (pt (nE (soundF p)) [] []) := by
 refine meets hG Try.func42 rfl rfl ?_
 show Awp (env _ _) _ _ ((Try.f42).body.getD .skip) _ _
 unfold Try.f42
 dsimp only [Option.getD_some]
 unfold start
 generalize hQ : endA _ _ _ _ _ = Q
 repeat' (first
 | refine Awp_sq fun K hK => ?_
 | (refine Awp_reg rfl fun K hK => ?_; simp [*, encI_len, cv53, shp0c, pExt, Prg.cells, ldQ, g1R, obQ, stQ, s1Q, ix3, ia3, ia28, bi3, bs0, bs01, bs02, bs012, bs013, bs014, bs0134, bs01234, bw1, bw2, bw3])
 | (refine Awp_regD [] rfl rfl fun K hK => ?_; simp [*, encI_len, cv53, shp0c, pExt, Prg.cells, ldQ, g1R, obQ, stQ, s1Q, ix3, ia3, ia28, bi3, bs0, bs01, bs02, bs012, bs013, bs014, bs0134, bs01234, bw1, bw2, bw3])
 | (refine WG_br (fun h => ?_) (fun h => ?_) <;> (have h' := h; try simp at h'; simp [*, encI_len, cv53, shp0c, pExt, Prg.cells, ldQ, g1R, obQ, stQ, s1Q, ix3, ia3, ia28, bi3, bs0, bs01, bs02, bs012, bs013, bs014, bs0134, bs01234, bw1, bw2, bw3]))
 | (refine RG_br (fun h => ?_) (fun h => ?_) <;> (have h' := h; try simp at h'; simp [*, encI_len, cv53, shp0c, pExt, Prg.cells, ldQ, g1R, obQ, stQ, s1Q, ix3, ia3, ia28, bi3, bs0, bs01, bs02, bs012, bs013, bs014, bs0134, bs01234, bw1, bw2, bw3]))
 | (apply call_p (TF.out _ _ _); rfl; rfl; simp [*, encI_len, cv53, shp0c, pExt, Prg.cells, ldQ, g1R, obQ, stQ, s1Q, ix3, ia3, ia28, bi3, bs0, bs01, bs02, bs012, bs013, bs014, bs0134, bs01234, bw1, bw2, bw3])
 | (apply call_p (TF.contc _ hP.len); rfl; rfl; simp [*, encI_len, cv53, shp0c, pExt, Prg.cells, ldQ, g1R, obQ, stQ, s1Q, ix3, ia3, ia28, bi3, bs0, bs01, bs02, bs012, bs013, bs014, bs0134, bs01234, bw1, bw2, bw3])
 | (apply call_p (TF.contn _ hP.chs); rfl; rfl; simp [*, encI_len, cv53, shp0c, pExt, Prg.cells, ldQ, g1R, obQ, stQ, s1Q, ix3, ia3, ia28, bi3, bs0, bs01, bs02, bs012, bs013, bs014, bs0134, bs01234, bw1, bw2, bw3])
 | (apply call_mp (TF.lim p _); rfl; try simp [*, encI_len, cv53, shp0c, pExt, Prg.cells, ldQ, g1R, obQ, stQ, s1Q, ix3, ia3, ia28, bi3, bs0, bs01, bs02, bs012, bs013, bs014, bs0134, bs01234, bw1, bw2, bw3])
 | (refine call_l [1] rfl rfl (TF.ins _ _ hxo1 hxo2) rfl rfl ?_; try simp [*, encI_len, cv53, shp0c, pExt, Prg.cells, ldQ, g1R, obQ, stQ, s1Q, ix3, ia3, ia28, bi3, bs0, bs01, bs02, bs012, bs013, bs014, bs0134, bs01234, bw1, bw2, bw3])
 | refine And.intro (by omega) ?_
 | (refine wl_box rfl ?_; simp [*, encI_len, cv53, shp0c, pExt, Prg.cells, ldQ, g1R, obQ, stQ, s1Q, ix3, ia3, ia28, bi3, bs0, bs01, bs02, bs012, bs013, bs014, bs0134, bs01234, bw1, bw2, bw3])
 | (refine wl_alloc rfl ?_; simp [*, encI_len, cv53, shp0c, pExt, Prg.cells, ldQ, g1R, obQ, stQ, s1Q, ix3, ia3, ia28, bi3, bs0, bs01, bs02, bs012, bs013, bs014, bs0134, bs01234, bw1, bw2, bw3])
 | (refine wr_box rfl ?_; simp [*, encI_len, cv53, shp0c, pExt, Prg.cells, ldQ, g1R, obQ, stQ, s1Q, ix3, ia3, ia28, bi3, bs0, bs01, bs02, bs012, bs013, bs014, bs0134, bs01234, bw1, bw2, bw3])
 | (refine wr_alloc rfl ?_; simp [*, encI_len, cv53, shp0c, pExt, Prg.cells, ldQ, g1R, obQ, stQ, s1Q, ix3, ia3, ia28, bi3, bs0, bs01, bs02, bs012, bs013, bs014, bs0134, bs01234, bw1, bw2, bw3])
 | (refine wl_store ?_; simp [*, encI_len, cv53, shp0c, pExt, Prg.cells, ldQ, g1R, obQ, stQ, s1Q, ix3, ia3, ia28, bi3, bs0, bs01, bs02, bs012, bs013, bs014, bs0134, bs01234, bw1, bw2, bw3])
 | (refine wr_store ?_; simp [*, encI_len, cv53, shp0c, pExt, Prg.cells, ldQ, g1R, obQ, stQ, s1Q, ix3, ia3, ia28, bi3, bs0, bs01, bs02, bs012, bs013, bs014, bs0134, bs01234, bw1, bw2, bw3])
 | (show Wl _ _ _ _ _ _; simp [*, encI_len, cv53, shp0c, pExt, Prg.cells, ldQ, g1R, obQ, stQ, s1Q, ix3, ia3, ia28, bi3, bs0, bs01, bs02, bs012, bs013, bs014, bs0134, bs01234, bw1, bw2, bw3])
 | (show Wr _ _ _ _ _ _ _; simp [*, encI_len, cv53, shp0c, pExt, Prg.cells, ldQ, g1R, obQ, stQ, s1Q, ix3, ia3, ia28, bi3, bs0, bs01, bs02, bs012, bs013, bs014, bs0134, bs01234, bw1, bw2, bw3])
 | refine kont (by assumption) ?_
 | with_reducible refine thenA_n ?_
 | with_reducible refine thenA_r ?_
 | with_reducible refine thenA_e ?_
 | with_reducible refine blockA_n ?_
 | with_reducible refine blockA_r ?_
 | with_reducible refine blockA_e ?_
 | with_reducible refine blockA_o rfl ?_
 | (refine Awp_ifT ?_ ?_; focus (simp [*]; done))
 | (refine Awp_ifF ?_ ?_; focus (simp [*]; done))
 | refine Awp_ifT rfl ?_
 | refine Awp_ifF rfl ?_
 | (refine Awp_if rfl (fun h => ?_) (fun h => ?_) <;> ((have h' := h; try simp at h') <;> try (have h2 := h; simp only [decide_eq_false_iff_not] at h2)))
 | with_reducible refine Awp_ret ?_
 | with_reducible refine Awp_skip ?_
 | with_reducible refine Awp_exit ?_
 | with_reducible refine Awp_block ?_)
 all_goals first | (subst hQ; refine endA_rL [] rfl rfl rfl rfl rfl ⟨?_, rfl⟩; simp [*, soundF]; done) | skip
 have hs : soundF p = codesF p p.code := by simp [soundF, *]
 have hlen := hP.len
 refine Awp_loop (fun s => ∃ j : Nat, j ≤ p.code.length ∧ (∀ c ∈ p.code.take j, codeF (limF p c.length) c = 0) ∧ s.m = [some (.box [nI p.vars, nI p.atoms, nI p.locks, .c (.ls (encI p.chans)), nI p.groups, nI p.onces, .c (.ls (p.code.map encC))])] ∧ s.A 1 = .ptr 0 0 0 ∧ s.A 43 = .c (.ls (p.code.map encC)) ∧ s.A 44 = nI p.code.length ∧ s.A 45 = nI j) (fun s => match s.A 45 with | .c (.sc (.int _ n)) => p.code.length - n.toNat | _ => 0) (Gq.here ?_) (fun s hs => ?_)
 · exact ⟨0, by omega, by simp, by simp [*]⟩
 rename_i hsd
 obtain ⟨A, m⟩ := s
 obtain ⟨j, hj, hp, hm, a1, a43, a44, a45⟩ := hs
 dsimp only at hm a1 a43 a44 a45
 subst hm
 by_cases hlt : j < p.code.length
 case neg =>
  have hlt' : ¬ ((j : Int) < (p.code.length : Int)) := by omega
  have h00 : codesF p p.code = 0 := codesF_zero fun c hc => by
   rw [List.take_of_length_le (by omega)] at hp
   exact hp c hc
  clear hlt
  repeat' (first
  | refine Awp_sq fun K hK => ?_
  | (refine Awp_reg rfl fun K hK => ?_; simp [*, encI_len, cv53, shp0c, pExt, Prg.cells, ldQ, g1R, obQ, stQ, s1Q, ix3, ia3, ia28, bi3, bs0, bs01, bs02, bs012, bs013, bs014, bs0134, bs01234, bw1, bw2, bw3])
  | (refine Awp_regD [] rfl rfl fun K hK => ?_; simp [*, encI_len, cv53, shp0c, pExt, Prg.cells, ldQ, g1R, obQ, stQ, s1Q, ix3, ia3, ia28, bi3, bs0, bs01, bs02, bs012, bs013, bs014, bs0134, bs01234, bw1, bw2, bw3])
  | (refine WG_br (fun h => ?_) (fun h => ?_) <;> (have h' := h; try simp at h'; simp [*, encI_len, cv53, shp0c, pExt, Prg.cells, ldQ, g1R, obQ, stQ, s1Q, ix3, ia3, ia28, bi3, bs0, bs01, bs02, bs012, bs013, bs014, bs0134, bs01234, bw1, bw2, bw3]))
  | (refine RG_br (fun h => ?_) (fun h => ?_) <;> (have h' := h; try simp at h'; simp [*, encI_len, cv53, shp0c, pExt, Prg.cells, ldQ, g1R, obQ, stQ, s1Q, ix3, ia3, ia28, bi3, bs0, bs01, bs02, bs012, bs013, bs014, bs0134, bs01234, bw1, bw2, bw3]))
  | (apply call_p (TF.out _ _ _); rfl; rfl; simp [*, encI_len, cv53, shp0c, pExt, Prg.cells, ldQ, g1R, obQ, stQ, s1Q, ix3, ia3, ia28, bi3, bs0, bs01, bs02, bs012, bs013, bs014, bs0134, bs01234, bw1, bw2, bw3])
  | (apply call_p (TF.contc _ hP.len); rfl; rfl; simp [*, encI_len, cv53, shp0c, pExt, Prg.cells, ldQ, g1R, obQ, stQ, s1Q, ix3, ia3, ia28, bi3, bs0, bs01, bs02, bs012, bs013, bs014, bs0134, bs01234, bw1, bw2, bw3])
  | (apply call_p (TF.contn _ hP.chs); rfl; rfl; simp [*, encI_len, cv53, shp0c, pExt, Prg.cells, ldQ, g1R, obQ, stQ, s1Q, ix3, ia3, ia28, bi3, bs0, bs01, bs02, bs012, bs013, bs014, bs0134, bs01234, bw1, bw2, bw3])
  | (apply call_mp (TF.lim p _); rfl; try simp [*, encI_len, cv53, shp0c, pExt, Prg.cells, ldQ, g1R, obQ, stQ, s1Q, ix3, ia3, ia28, bi3, bs0, bs01, bs02, bs012, bs013, bs014, bs0134, bs01234, bw1, bw2, bw3])
  | (refine call_l [1] rfl rfl (TF.ins _ _ hxo1 hxo2) rfl rfl ?_; try simp [*, encI_len, cv53, shp0c, pExt, Prg.cells, ldQ, g1R, obQ, stQ, s1Q, ix3, ia3, ia28, bi3, bs0, bs01, bs02, bs012, bs013, bs014, bs0134, bs01234, bw1, bw2, bw3])
  | refine And.intro (by omega) ?_
  | (refine wl_box rfl ?_; simp [*, encI_len, cv53, shp0c, pExt, Prg.cells, ldQ, g1R, obQ, stQ, s1Q, ix3, ia3, ia28, bi3, bs0, bs01, bs02, bs012, bs013, bs014, bs0134, bs01234, bw1, bw2, bw3])
  | (refine wl_alloc rfl ?_; simp [*, encI_len, cv53, shp0c, pExt, Prg.cells, ldQ, g1R, obQ, stQ, s1Q, ix3, ia3, ia28, bi3, bs0, bs01, bs02, bs012, bs013, bs014, bs0134, bs01234, bw1, bw2, bw3])
  | (refine wr_box rfl ?_; simp [*, encI_len, cv53, shp0c, pExt, Prg.cells, ldQ, g1R, obQ, stQ, s1Q, ix3, ia3, ia28, bi3, bs0, bs01, bs02, bs012, bs013, bs014, bs0134, bs01234, bw1, bw2, bw3])
  | (refine wr_alloc rfl ?_; simp [*, encI_len, cv53, shp0c, pExt, Prg.cells, ldQ, g1R, obQ, stQ, s1Q, ix3, ia3, ia28, bi3, bs0, bs01, bs02, bs012, bs013, bs014, bs0134, bs01234, bw1, bw2, bw3])
  | (refine wl_store ?_; simp [*, encI_len, cv53, shp0c, pExt, Prg.cells, ldQ, g1R, obQ, stQ, s1Q, ix3, ia3, ia28, bi3, bs0, bs01, bs02, bs012, bs013, bs014, bs0134, bs01234, bw1, bw2, bw3])
  | (refine wr_store ?_; simp [*, encI_len, cv53, shp0c, pExt, Prg.cells, ldQ, g1R, obQ, stQ, s1Q, ix3, ia3, ia28, bi3, bs0, bs01, bs02, bs012, bs013, bs014, bs0134, bs01234, bw1, bw2, bw3])
  | (show Wl _ _ _ _ _ _; simp [*, encI_len, cv53, shp0c, pExt, Prg.cells, ldQ, g1R, obQ, stQ, s1Q, ix3, ia3, ia28, bi3, bs0, bs01, bs02, bs012, bs013, bs014, bs0134, bs01234, bw1, bw2, bw3])
  | (show Wr _ _ _ _ _ _ _; simp [*, encI_len, cv53, shp0c, pExt, Prg.cells, ldQ, g1R, obQ, stQ, s1Q, ix3, ia3, ia28, bi3, bs0, bs01, bs02, bs012, bs013, bs014, bs0134, bs01234, bw1, bw2, bw3])
  | refine kont (by assumption) ?_
  | with_reducible refine thenA_n ?_
  | with_reducible refine thenA_r ?_
  | with_reducible refine thenA_e ?_
  | with_reducible refine blockA_n ?_
  | with_reducible refine blockA_r ?_
  | with_reducible refine blockA_e ?_
  | with_reducible refine blockA_o rfl ?_
  | (refine Awp_ifT ?_ ?_; focus (simp [*]; done))
  | (refine Awp_ifF ?_ ?_; focus (simp [*]; done))
  | refine Awp_ifT rfl ?_
  | refine Awp_ifF rfl ?_
  | (refine Awp_if rfl (fun h => ?_) (fun h => ?_) <;> ((have h' := h; try simp at h') <;> try (have h2 := h; simp only [decide_eq_false_iff_not] at h2)))
  | with_reducible refine Awp_ret ?_
  | with_reducible refine Awp_skip ?_
  | with_reducible refine Awp_exit ?_
  | with_reducible refine Awp_block ?_)
  all_goals (subst hQ; refine endA_rL [] rfl rfl rfl rfl rfl ⟨?_, rfl⟩)
  all_goals simp [*]
 have hlt' : ((j : Int) < (p.code.length : Int)) := by omega
 obtain ⟨c, hc⟩ : ∃ c, p.code[j]? = some c := ⟨p.code[j], by simp [hlt]⟩
 have hcm := List.mem_of_getElem? hc
 have hcl := hP.lens c hcm
 have hco := hP.op c hcm
 have hc2 : p.code[(j : Int).toNat]? = some c := hc
 have hj0 : (0 : Int) ≤ (j : Int) := by omega
 have hdec : p.code.length - (j + 1) < p.code.length - j := by omega
 have hwj : IntKind.i64.wrap ((j : Int) + 1) = ((j + 1 : Nat) : Int) := wrap_small (by omega) (by omega)
 have hj1 : j + 1 ≤ p.code.length := by omega
 clear hlt hj
 repeat' (first
 | refine Awp_sq fun K hK => ?_
 | (refine Awp_reg rfl fun K hK => ?_; simp [*, encI_len, cv53, shp0c, pExt, Prg.cells, ldQ, g1R, obQ, stQ, s1Q, ix3, ia3, ia28, bi3, bs0, bs01, bs02, bs012, bs013, bs014, bs0134, bs01234, bw1, bw2, bw3])
 | (refine Awp_regD [] rfl rfl fun K hK => ?_; simp [*, encI_len, cv53, shp0c, pExt, Prg.cells, ldQ, g1R, obQ, stQ, s1Q, ix3, ia3, ia28, bi3, bs0, bs01, bs02, bs012, bs013, bs014, bs0134, bs01234, bw1, bw2, bw3])
 | (refine WG_br (fun h => ?_) (fun h => ?_) <;> (have h' := h; try simp at h'; simp [*, encI_len, cv53, shp0c, pExt, Prg.cells, ldQ, g1R, obQ, stQ, s1Q, ix3, ia3, ia28, bi3, bs0, bs01, bs02, bs012, bs013, bs014, bs0134, bs01234, bw1, bw2, bw3]))
 | (refine RG_br (fun h => ?_) (fun h => ?_) <;> (have h' := h; try simp at h'; simp [*, encI_len, cv53, shp0c, pExt, Prg.cells, ldQ, g1R, obQ, stQ, s1Q, ix3, ia3, ia28, bi3, bs0, bs01, bs02, bs012, bs013, bs014, bs0134, bs01234, bw1, bw2, bw3]))
 | (apply call_p (TF.out _ _ _); rfl; rfl; simp [*, encI_len, cv53, shp0c, pExt, Prg.cells, ldQ, g1R, obQ, stQ, s1Q, ix3, ia3, ia28, bi3, bs0, bs01, bs02, bs012, bs013, bs014, bs0134, bs01234, bw1, bw2, bw3])
 | (apply call_p (TF.contc _ hP.len); rfl; rfl; simp [*, encI_len, cv53, shp0c, pExt, Prg.cells, ldQ, g1R, obQ, stQ, s1Q, ix3, ia3, ia28, bi3, bs0, bs01, bs02, bs012, bs013, bs014, bs0134, bs01234, bw1, bw2, bw3])
 | (apply call_p (TF.contn _ hP.chs); rfl; rfl; simp [*, encI_len, cv53, shp0c, pExt, Prg.cells, ldQ, g1R, obQ, stQ, s1Q, ix3, ia3, ia28, bi3, bs0, bs01, bs02, bs012, bs013, bs014, bs0134, bs01234, bw1, bw2, bw3])
 | (apply call_mp (TF.lim p _); rfl; try simp [*, encI_len, cv53, shp0c, pExt, Prg.cells, ldQ, g1R, obQ, stQ, s1Q, ix3, ia3, ia28, bi3, bs0, bs01, bs02, bs012, bs013, bs014, bs0134, bs01234, bw1, bw2, bw3])
 | (refine call_l [1] rfl rfl (TF.ins _ _ hxo1 hxo2) rfl rfl ?_; try simp [*, encI_len, cv53, shp0c, pExt, Prg.cells, ldQ, g1R, obQ, stQ, s1Q, ix3, ia3, ia28, bi3, bs0, bs01, bs02, bs012, bs013, bs014, bs0134, bs01234, bw1, bw2, bw3])
 | refine And.intro (by omega) ?_
 | (refine wl_box rfl ?_; simp [*, encI_len, cv53, shp0c, pExt, Prg.cells, ldQ, g1R, obQ, stQ, s1Q, ix3, ia3, ia28, bi3, bs0, bs01, bs02, bs012, bs013, bs014, bs0134, bs01234, bw1, bw2, bw3])
 | (refine wl_alloc rfl ?_; simp [*, encI_len, cv53, shp0c, pExt, Prg.cells, ldQ, g1R, obQ, stQ, s1Q, ix3, ia3, ia28, bi3, bs0, bs01, bs02, bs012, bs013, bs014, bs0134, bs01234, bw1, bw2, bw3])
 | (refine wr_box rfl ?_; simp [*, encI_len, cv53, shp0c, pExt, Prg.cells, ldQ, g1R, obQ, stQ, s1Q, ix3, ia3, ia28, bi3, bs0, bs01, bs02, bs012, bs013, bs014, bs0134, bs01234, bw1, bw2, bw3])
 | (refine wr_alloc rfl ?_; simp [*, encI_len, cv53, shp0c, pExt, Prg.cells, ldQ, g1R, obQ, stQ, s1Q, ix3, ia3, ia28, bi3, bs0, bs01, bs02, bs012, bs013, bs014, bs0134, bs01234, bw1, bw2, bw3])
 | (refine wl_store ?_; simp [*, encI_len, cv53, shp0c, pExt, Prg.cells, ldQ, g1R, obQ, stQ, s1Q, ix3, ia3, ia28, bi3, bs0, bs01, bs02, bs012, bs013, bs014, bs0134, bs01234, bw1, bw2, bw3])
 | (refine wr_store ?_; simp [*, encI_len, cv53, shp0c, pExt, Prg.cells, ldQ, g1R, obQ, stQ, s1Q, ix3, ia3, ia28, bi3, bs0, bs01, bs02, bs012, bs013, bs014, bs0134, bs01234, bw1, bw2, bw3])
 | (show Wl _ _ _ _ _ _; simp [*, encI_len, cv53, shp0c, pExt, Prg.cells, ldQ, g1R, obQ, stQ, s1Q, ix3, ia3, ia28, bi3, bs0, bs01, bs02, bs012, bs013, bs014, bs0134, bs01234, bw1, bw2, bw3])
 | (show Wr _ _ _ _ _ _ _; simp [*, encI_len, cv53, shp0c, pExt, Prg.cells, ldQ, g1R, obQ, stQ, s1Q, ix3, ia3, ia28, bi3, bs0, bs01, bs02, bs012, bs013, bs014, bs0134, bs01234, bw1, bw2, bw3])
 | refine kont (by assumption) ?_
 | with_reducible refine thenA_n ?_
 | with_reducible refine thenA_r ?_
 | with_reducible refine thenA_e ?_
 | with_reducible refine blockA_n ?_
 | with_reducible refine blockA_r ?_
 | with_reducible refine blockA_e ?_
 | with_reducible refine blockA_o rfl ?_
 | (refine Awp_ifT ?_ ?_; focus (simp [*]; done))
 | (refine Awp_ifF ?_ ?_; focus (simp [*]; done))
 | refine Awp_ifT rfl ?_
 | refine Awp_ifF rfl ?_
 | (refine Awp_if rfl (fun h => ?_) (fun h => ?_) <;> ((have h' := h; try simp at h') <;> try (have h2 := h; simp only [decide_eq_false_iff_not] at h2)))
 | with_reducible refine Awp_ret ?_
 | with_reducible refine Awp_skip ?_
 | with_reducible refine Awp_exit ?_
 | with_reducible refine Awp_block ?_)
 refine Awp_loop (fun s => ∃ q : Nat, q ≤ c.length ∧ (∀ x ∈ c.take q, insF (limF p c.length) x = 0) ∧ s.m = [some (.box [nI p.vars, nI p.atoms, nI p.locks, .c (.ls (encI p.chans)), nI p.groups, nI p.onces, .c (.ls (p.code.map encC))]), some (.mp (limF p c.length))] ∧ s.A 1 = .ptr 0 0 0 ∧ s.A 6 = .mp 1 ∧ s.A 43 = .c (.ls (p.code.map encC)) ∧ s.A 44 = nI p.code.length ∧ s.A 45 = nI j ∧ s.A 53 = .c (.ls (c.map Ins.enc)) ∧ s.A 54 = nI c.length ∧ s.A 55 = nI q) (fun s => match s.A 55 with | .c (.sc (.int _ n)) => c.length - n.toNat | _ => 0) (Gq.here ?_) (fun s hs => ?_)
 · exact ⟨0, by omega, by simp, by simp [*]⟩
 have o45 := a45
 clear a1 a43 a44 a45
 obtain ⟨A, m⟩ := s
 obtain ⟨q, hq, hpq, hm, a1, a6, a43, a44, a45, a53, a54, a55⟩ := hs
 dsimp only at hm a1 a6 a43 a44 a45 a53 a54 a55
 subst hm
 by_cases hlt : q < c.length
 case neg =>
  have hlt' : ¬ ((q : Int) < (c.length : Int)) := by omega
  have h00 : codeF (limF p c.length) c = 0 := codeF_zero fun x hx => by
   rw [List.take_of_length_le (by omega)] at hpq
   exact hpq x hx
  have hp2 : ∀ c ∈ p.code.take (j + 1), codeF (limF p c.length) c = 0 := fun y hy => by
   rw [List.take_add_one, hc] at hy
   simp only [Option.toList_some, List.mem_append, List.mem_singleton] at hy
   rcases hy with hy | rfl
   · exact hp y hy
   · exact h00
  clear hlt
  repeat' (first
  | refine Awp_sq fun K hK => ?_
  | (refine Awp_reg rfl fun K hK => ?_; simp [*, encI_len, cv53, shp0c, pExt, Prg.cells, ldQ, g1R, obQ, stQ, s1Q, ix3, ia3, ia28, bi3, bs0, bs01, bs02, bs012, bs013, bs014, bs0134, bs01234, bw1, bw2, bw3])
  | (refine Awp_regD [] rfl rfl fun K hK => ?_; simp [*, encI_len, cv53, shp0c, pExt, Prg.cells, ldQ, g1R, obQ, stQ, s1Q, ix3, ia3, ia28, bi3, bs0, bs01, bs02, bs012, bs013, bs014, bs0134, bs01234, bw1, bw2, bw3])
  | (refine WG_br (fun h => ?_) (fun h => ?_) <;> (have h' := h; try simp at h'; simp [*, encI_len, cv53, shp0c, pExt, Prg.cells, ldQ, g1R, obQ, stQ, s1Q, ix3, ia3, ia28, bi3, bs0, bs01, bs02, bs012, bs013, bs014, bs0134, bs01234, bw1, bw2, bw3]))
  | (refine RG_br (fun h => ?_) (fun h => ?_) <;> (have h' := h; try simp at h'; simp [*, encI_len, cv53, shp0c, pExt, Prg.cells, ldQ, g1R, obQ, stQ, s1Q, ix3, ia3, ia28, bi3, bs0, bs01, bs02, bs012, bs013, bs014, bs0134, bs01234, bw1, bw2, bw3]))
  | (apply call_p (TF.out _ _ _); rfl; rfl; simp [*, encI_len, cv53, shp0c, pExt, Prg.cells, ldQ, g1R, obQ, stQ, s1Q, ix3, ia3, ia28, bi3, bs0, bs01, bs02, bs012, bs013, bs014, bs0134, bs01234, bw1, bw2, bw3])
  | (apply call_p (TF.contc _ hP.len); rfl; rfl; simp [*, encI_len, cv53, shp0c, pExt, Prg.cells, ldQ, g1R, obQ, stQ, s1Q, ix3, ia3, ia28, bi3, bs0, bs01, bs02, bs012, bs013, bs014, bs0134, bs01234, bw1, bw2, bw3])
  | (apply call_p (TF.contn _ hP.chs); rfl; rfl; simp [*, encI_len, cv53, shp0c, pExt, Prg.cells, ldQ, g1R, obQ, stQ, s1Q, ix3, ia3, ia28, bi3, bs0, bs01, bs02, bs012, bs013, bs014, bs0134, bs01234, bw1, bw2, bw3])
  | (apply call_mp (TF.lim p _); rfl; try simp [*, encI_len, cv53, shp0c, pExt, Prg.cells, ldQ, g1R, obQ, stQ, s1Q, ix3, ia3, ia28, bi3, bs0, bs01, bs02, bs012, bs013, bs014, bs0134, bs01234, bw1, bw2, bw3])
  | (refine call_l [1] rfl rfl (TF.ins _ _ hxo1 hxo2) rfl rfl ?_; try simp [*, encI_len, cv53, shp0c, pExt, Prg.cells, ldQ, g1R, obQ, stQ, s1Q, ix3, ia3, ia28, bi3, bs0, bs01, bs02, bs012, bs013, bs014, bs0134, bs01234, bw1, bw2, bw3])
  | refine And.intro (by omega) ?_
  | (refine wl_box rfl ?_; simp [*, encI_len, cv53, shp0c, pExt, Prg.cells, ldQ, g1R, obQ, stQ, s1Q, ix3, ia3, ia28, bi3, bs0, bs01, bs02, bs012, bs013, bs014, bs0134, bs01234, bw1, bw2, bw3])
  | (refine wl_alloc rfl ?_; simp [*, encI_len, cv53, shp0c, pExt, Prg.cells, ldQ, g1R, obQ, stQ, s1Q, ix3, ia3, ia28, bi3, bs0, bs01, bs02, bs012, bs013, bs014, bs0134, bs01234, bw1, bw2, bw3])
  | (refine wr_box rfl ?_; simp [*, encI_len, cv53, shp0c, pExt, Prg.cells, ldQ, g1R, obQ, stQ, s1Q, ix3, ia3, ia28, bi3, bs0, bs01, bs02, bs012, bs013, bs014, bs0134, bs01234, bw1, bw2, bw3])
  | (refine wr_alloc rfl ?_; simp [*, encI_len, cv53, shp0c, pExt, Prg.cells, ldQ, g1R, obQ, stQ, s1Q, ix3, ia3, ia28, bi3, bs0, bs01, bs02, bs012, bs013, bs014, bs0134, bs01234, bw1, bw2, bw3])
  | (refine wl_store ?_; simp [*, encI_len, cv53, shp0c, pExt, Prg.cells, ldQ, g1R, obQ, stQ, s1Q, ix3, ia3, ia28, bi3, bs0, bs01, bs02, bs012, bs013, bs014, bs0134, bs01234, bw1, bw2, bw3])
  | (refine wr_store ?_; simp [*, encI_len, cv53, shp0c, pExt, Prg.cells, ldQ, g1R, obQ, stQ, s1Q, ix3, ia3, ia28, bi3, bs0, bs01, bs02, bs012, bs013, bs014, bs0134, bs01234, bw1, bw2, bw3])
  | (show Wl _ _ _ _ _ _; simp [*, encI_len, cv53, shp0c, pExt, Prg.cells, ldQ, g1R, obQ, stQ, s1Q, ix3, ia3, ia28, bi3, bs0, bs01, bs02, bs012, bs013, bs014, bs0134, bs01234, bw1, bw2, bw3])
  | (show Wr _ _ _ _ _ _ _; simp [*, encI_len, cv53, shp0c, pExt, Prg.cells, ldQ, g1R, obQ, stQ, s1Q, ix3, ia3, ia28, bi3, bs0, bs01, bs02, bs012, bs013, bs014, bs0134, bs01234, bw1, bw2, bw3])
  | refine kont (by assumption) ?_
  | with_reducible refine thenA_n ?_
  | with_reducible refine thenA_r ?_
  | with_reducible refine thenA_e ?_
  | with_reducible refine blockA_n ?_
  | with_reducible refine blockA_r ?_
  | with_reducible refine blockA_e ?_
  | with_reducible refine blockA_o rfl ?_
  | (refine Awp_ifT ?_ ?_; focus (simp [*]; done))
  | (refine Awp_ifF ?_ ?_; focus (simp [*]; done))
  | refine Awp_ifT rfl ?_
  | refine Awp_ifF rfl ?_
  | (refine Awp_if rfl (fun h => ?_) (fun h => ?_) <;> ((have h' := h; try simp at h') <;> try (have h2 := h; simp only [decide_eq_false_iff_not] at h2)))
  | with_reducible refine Awp_ret ?_
  | with_reducible refine Awp_skip ?_
  | with_reducible refine Awp_exit ?_
  | with_reducible refine Awp_block ?_)
  all_goals (refine ⟨_, Gst.cmp (L := [0]) rfl rfl rfl, ⟨j + 1, hj1, hp2, rfl, ?_, ?_, ?_, ?_⟩, ?_⟩ <;> simp [*, cmp, renD_c, rn0])
 have hlt' : ((q : Int) < (c.length : Int)) := by omega
 obtain ⟨x, hx⟩ : ∃ x, c[q]? = some x := ⟨c[q], by simp [hlt]⟩
 have hxo := hco x (List.mem_of_getElem? hx)
 have hx2 : c[(q : Int).toNat]? = some x := hx
 have hq0 : (0 : Int) ≤ (q : Int) := by omega
 have hdec2 : c.length - (q + 1) < c.length - q := by omega
 have hwq : IntKind.i64.wrap ((q : Int) + 1) = ((q + 1 : Nat) : Int) := wrap_small (by omega) (by omega)
 have hq1 : q + 1 ≤ c.length := by omega
 have hxo1 := hxo.1
 have hxo2 := hxo.2
 clear hlt hq
 by_cases he : insF (limF p c.length) x = 0
 case neg =>
  have hcf := codeF_hit hx hpq he
  have hcs := codesF_hit hc hp (by rw [hcf]; exact he)
  repeat' (first
  | refine Awp_sq fun K hK => ?_
  | (refine Awp_reg rfl fun K hK => ?_; simp [*, encI_len, cv53, shp0c, pExt, Prg.cells, ldQ, g1R, obQ, stQ, s1Q, ix3, ia3, ia28, bi3, bs0, bs01, bs02, bs012, bs013, bs014, bs0134, bs01234, bw1, bw2, bw3])
  | (refine Awp_regD [] rfl rfl fun K hK => ?_; simp [*, encI_len, cv53, shp0c, pExt, Prg.cells, ldQ, g1R, obQ, stQ, s1Q, ix3, ia3, ia28, bi3, bs0, bs01, bs02, bs012, bs013, bs014, bs0134, bs01234, bw1, bw2, bw3])
  | (refine WG_br (fun h => ?_) (fun h => ?_) <;> (have h' := h; try simp at h'; simp [*, encI_len, cv53, shp0c, pExt, Prg.cells, ldQ, g1R, obQ, stQ, s1Q, ix3, ia3, ia28, bi3, bs0, bs01, bs02, bs012, bs013, bs014, bs0134, bs01234, bw1, bw2, bw3]))
  | (refine RG_br (fun h => ?_) (fun h => ?_) <;> (have h' := h; try simp at h'; simp [*, encI_len, cv53, shp0c, pExt, Prg.cells, ldQ, g1R, obQ, stQ, s1Q, ix3, ia3, ia28, bi3, bs0, bs01, bs02, bs012, bs013, bs014, bs0134, bs01234, bw1, bw2, bw3]))
  | (apply call_p (TF.out _ _ _); rfl; rfl; simp [*, encI_len, cv53, shp0c, pExt, Prg.cells, ldQ, g1R, obQ, stQ, s1Q, ix3, ia3, ia28, bi3, bs0, bs01, bs02, bs012, bs013, bs014, bs0134, bs01234, bw1, bw2, bw3])
  | (apply call_p (TF.contc _ hP.len); rfl; rfl; simp [*, encI_len, cv53, shp0c, pExt, Prg.cells, ldQ, g1R, obQ, stQ, s1Q, ix3, ia3, ia28, bi3, bs0, bs01, bs02, bs012, bs013, bs014, bs0134, bs01234, bw1, bw2, bw3])
  | (apply call_p (TF.contn _ hP.chs); rfl; rfl; simp [*, encI_len, cv53, shp0c, pExt, Prg.cells, ldQ, g1R, obQ, stQ, s1Q, ix3, ia3, ia28, bi3, bs0, bs01, bs02, bs012, bs013, bs014, bs0134, bs01234, bw1, bw2, bw3])
  | (apply call_mp (TF.lim p _); rfl; try simp [*, encI_len, cv53, shp0c, pExt, Prg.cells, ldQ, g1R, obQ, stQ, s1Q, ix3, ia3, ia28, bi3, bs0, bs01, bs02, bs012, bs013, bs014, bs0134, bs01234, bw1, bw2, bw3])
  | (refine call_l [1] rfl rfl (TF.ins _ _ hxo1 hxo2) rfl rfl ?_; try simp [*, encI_len, cv53, shp0c, pExt, Prg.cells, ldQ, g1R, obQ, stQ, s1Q, ix3, ia3, ia28, bi3, bs0, bs01, bs02, bs012, bs013, bs014, bs0134, bs01234, bw1, bw2, bw3])
  | refine And.intro (by omega) ?_
  | (refine wl_box rfl ?_; simp [*, encI_len, cv53, shp0c, pExt, Prg.cells, ldQ, g1R, obQ, stQ, s1Q, ix3, ia3, ia28, bi3, bs0, bs01, bs02, bs012, bs013, bs014, bs0134, bs01234, bw1, bw2, bw3])
  | (refine wl_alloc rfl ?_; simp [*, encI_len, cv53, shp0c, pExt, Prg.cells, ldQ, g1R, obQ, stQ, s1Q, ix3, ia3, ia28, bi3, bs0, bs01, bs02, bs012, bs013, bs014, bs0134, bs01234, bw1, bw2, bw3])
  | (refine wr_box rfl ?_; simp [*, encI_len, cv53, shp0c, pExt, Prg.cells, ldQ, g1R, obQ, stQ, s1Q, ix3, ia3, ia28, bi3, bs0, bs01, bs02, bs012, bs013, bs014, bs0134, bs01234, bw1, bw2, bw3])
  | (refine wr_alloc rfl ?_; simp [*, encI_len, cv53, shp0c, pExt, Prg.cells, ldQ, g1R, obQ, stQ, s1Q, ix3, ia3, ia28, bi3, bs0, bs01, bs02, bs012, bs013, bs014, bs0134, bs01234, bw1, bw2, bw3])
  | (refine wl_store ?_; simp [*, encI_len, cv53, shp0c, pExt, Prg.cells, ldQ, g1R, obQ, stQ, s1Q, ix3, ia3, ia28, bi3, bs0, bs01, bs02, bs012, bs013, bs014, bs0134, bs01234, bw1, bw2, bw3])
  | (refine wr_store ?_; simp [*, encI_len, cv53, shp0c, pExt, Prg.cells, ldQ, g1R, obQ, stQ, s1Q, ix3, ia3, ia28, bi3, bs0, bs01, bs02, bs012, bs013, bs014, bs0134, bs01234, bw1, bw2, bw3])
  | (show Wl _ _ _ _ _ _; simp [*, encI_len, cv53, shp0c, pExt, Prg.cells, ldQ, g1R, obQ, stQ, s1Q, ix3, ia3, ia28, bi3, bs0, bs01, bs02, bs012, bs013, bs014, bs0134, bs01234, bw1, bw2, bw3])
  | (show Wr _ _ _ _ _ _ _; simp [*, encI_len, cv53, shp0c, pExt, Prg.cells, ldQ, g1R, obQ, stQ, s1Q, ix3, ia3, ia28, bi3, bs0, bs01, bs02, bs012, bs013, bs014, bs0134, bs01234, bw1, bw2, bw3])
  | refine kont (by assumption) ?_
  | with_reducible refine thenA_n ?_
  | with_reducible refine thenA_r ?_
  | with_reducible refine thenA_e ?_
  | with_reducible refine blockA_n ?_
  | with_reducible refine blockA_r ?_
  | with_reducible refine blockA_e ?_
  | with_reducible refine blockA_o rfl ?_
  | (refine Awp_ifT ?_ ?_; focus (simp [*]; done))
  | (refine Awp_ifF ?_ ?_; focus (simp [*]; done))
  | refine Awp_ifT rfl ?_
  | refine Awp_ifF rfl ?_
  | (refine Awp_if rfl (fun h => ?_) (fun h => ?_) <;> ((have h' := h; try simp at h') <;> try (have h2 := h; simp only [decide_eq_false_iff_not] at h2)))
  | with_reducible refine Awp_ret ?_
  | with_reducible refine Awp_skip ?_
  | with_reducible refine Awp_exit ?_
  | with_reducible refine Awp_block ?_)
  all_goals (subst hQ; refine endA_rL [] rfl rfl rfl rfl rfl ⟨?_, rfl⟩)
  all_goals simp [*]
 have hp2 : ∀ y ∈ c.take (q + 1), insF (limF p c.length) y = 0 := fun y hy => by
  rw [List.take_add_one, hx] at hy
  simp only [Option.toList_some, List.mem_append, List.mem_singleton] at hy
  rcases hy with hy | rfl
  · exact hpq y hy
  · exact he
 repeat' (first
 | refine Awp_sq fun K hK => ?_
 | (refine Awp_reg rfl fun K hK => ?_; simp [*, encI_len, cv53, shp0c, pExt, Prg.cells, ldQ, g1R, obQ, stQ, s1Q, ix3, ia3, ia28, bi3, bs0, bs01, bs02, bs012, bs013, bs014, bs0134, bs01234, bw1, bw2, bw3])
 | (refine Awp_regD [] rfl rfl fun K hK => ?_; simp [*, encI_len, cv53, shp0c, pExt, Prg.cells, ldQ, g1R, obQ, stQ, s1Q, ix3, ia3, ia28, bi3, bs0, bs01, bs02, bs012, bs013, bs014, bs0134, bs01234, bw1, bw2, bw3])
 | (refine WG_br (fun h => ?_) (fun h => ?_) <;> (have h' := h; try simp at h'; simp [*, encI_len, cv53, shp0c, pExt, Prg.cells, ldQ, g1R, obQ, stQ, s1Q, ix3, ia3, ia28, bi3, bs0, bs01, bs02, bs012, bs013, bs014, bs0134, bs01234, bw1, bw2, bw3]))
 | (refine RG_br (fun h => ?_) (fun h => ?_) <;> (have h' := h; try simp at h'; simp [*, encI_len, cv53, shp0c, pExt, Prg.cells, ldQ, g1R, obQ, stQ, s1Q, ix3, ia3, ia28, bi3, bs0, bs01, bs02, bs012, bs013, bs014, bs0134, bs01234, bw1, bw2, bw3]))
 | (apply call_p (TF.out _ _ _); rfl; rfl; simp [*, encI_len, cv53, shp0c, pExt, Prg.cells, ldQ, g1R, obQ, stQ, s1Q, ix3, ia3, ia28, bi3, bs0, bs01, bs02, bs012, bs013, bs014, bs0134, bs01234, bw1, bw2, bw3])
 | (apply call_p (TF.contc _ hP.len); rfl; rfl; simp [*, encI_len, cv53, shp0c, pExt, Prg.cells, ldQ, g1R, obQ, stQ, s1Q, ix3, ia3, ia28, bi3, bs0, bs01, bs02, bs012, bs013, bs014, bs0134, bs01234, bw1, bw2, bw3])
 | (apply call_p (TF.contn _ hP.chs); rfl; rfl; simp [*, encI_len, cv53, shp0c, pExt, Prg.cells, ldQ, g1R, obQ, stQ, s1Q, ix3, ia3, ia28, bi3, bs0, bs01, bs02, bs012, bs013, bs014, bs0134, bs01234, bw1, bw2, bw3])
 | (apply call_mp (TF.lim p _); rfl; try simp [*, encI_len, cv53, shp0c, pExt, Prg.cells, ldQ, g1R, obQ, stQ, s1Q, ix3, ia3, ia28, bi3, bs0, bs01, bs02, bs012, bs013, bs014, bs0134, bs01234, bw1, bw2, bw3])
 | (refine call_l [1] rfl rfl (TF.ins _ _ hxo1 hxo2) rfl rfl ?_; try simp [*, encI_len, cv53, shp0c, pExt, Prg.cells, ldQ, g1R, obQ, stQ, s1Q, ix3, ia3, ia28, bi3, bs0, bs01, bs02, bs012, bs013, bs014, bs0134, bs01234, bw1, bw2, bw3])
 | refine And.intro (by omega) ?_
 | (refine wl_box rfl ?_; simp [*, encI_len, cv53, shp0c, pExt, Prg.cells, ldQ, g1R, obQ, stQ, s1Q, ix3, ia3, ia28, bi3, bs0, bs01, bs02, bs012, bs013, bs014, bs0134, bs01234, bw1, bw2, bw3])
 | (refine wl_alloc rfl ?_; simp [*, encI_len, cv53, shp0c, pExt, Prg.cells, ldQ, g1R, obQ, stQ, s1Q, ix3, ia3, ia28, bi3, bs0, bs01, bs02, bs012, bs013, bs014, bs0134, bs01234, bw1, bw2, bw3])
 | (refine wr_box rfl ?_; simp [*, encI_len, cv53, shp0c, pExt, Prg.cells, ldQ, g1R, obQ, stQ, s1Q, ix3, ia3, ia28, bi3, bs0, bs01, bs02, bs012, bs013, bs014, bs0134, bs01234, bw1, bw2, bw3])
 | (refine wr_alloc rfl ?_; simp [*, encI_len, cv53, shp0c, pExt, Prg.cells, ldQ, g1R, obQ, stQ, s1Q, ix3, ia3, ia28, bi3, bs0, bs01, bs02, bs012, bs013, bs014, bs0134, bs01234, bw1, bw2, bw3])
 | (refine wl_store ?_; simp [*, encI_len, cv53, shp0c, pExt, Prg.cells, ldQ, g1R, obQ, stQ, s1Q, ix3, ia3, ia28, bi3, bs0, bs01, bs02, bs012, bs013, bs014, bs0134, bs01234, bw1, bw2, bw3])
 | (refine wr_store ?_; simp [*, encI_len, cv53, shp0c, pExt, Prg.cells, ldQ, g1R, obQ, stQ, s1Q, ix3, ia3, ia28, bi3, bs0, bs01, bs02, bs012, bs013, bs014, bs0134, bs01234, bw1, bw2, bw3])
 | (show Wl _ _ _ _ _ _; simp [*, encI_len, cv53, shp0c, pExt, Prg.cells, ldQ, g1R, obQ, stQ, s1Q, ix3, ia3, ia28, bi3, bs0, bs01, bs02, bs012, bs013, bs014, bs0134, bs01234, bw1, bw2, bw3])
 | (show Wr _ _ _ _ _ _ _; simp [*, encI_len, cv53, shp0c, pExt, Prg.cells, ldQ, g1R, obQ, stQ, s1Q, ix3, ia3, ia28, bi3, bs0, bs01, bs02, bs012, bs013, bs014, bs0134, bs01234, bw1, bw2, bw3])
 | refine kont (by assumption) ?_
 | with_reducible refine thenA_n ?_
 | with_reducible refine thenA_r ?_
 | with_reducible refine thenA_e ?_
 | with_reducible refine blockA_n ?_
 | with_reducible refine blockA_r ?_
 | with_reducible refine blockA_e ?_
 | with_reducible refine blockA_o rfl ?_
 | (refine Awp_ifT ?_ ?_; focus (simp [*]; done))
 | (refine Awp_ifF ?_ ?_; focus (simp [*]; done))
 | refine Awp_ifT rfl ?_
 | refine Awp_ifF rfl ?_
 | (refine Awp_if rfl (fun h => ?_) (fun h => ?_) <;> ((have h' := h; try simp at h') <;> try (have h2 := h; simp only [decide_eq_false_iff_not] at h2)))
 | with_reducible refine Awp_ret ?_
 | with_reducible refine Awp_skip ?_
 | with_reducible refine Awp_exit ?_
 | with_reducible refine Awp_block ?_)
 all_goals (refine ⟨_, Gst.cmp (L := [0, 1]) rfl rfl rfl, ⟨q + 1, hq1, hp2, rfl, ?_, ?_, ?_, ?_, ?_, ?_, ?_, ?_⟩, ?_⟩ <;> simp [*, cmp, renD_c, rn1, rn2])

inductive TG : Spec
 | sound (p : Prg) (hP : OkP p) : TG 42 [.agg p.cells] ([]) (pt (nE (soundF p)) [] [])
theorem TG_good : Good TG := by
 refine ⟨fun f a m P h => ?_, fun f a m P h => ?_⟩
 · cases h with
   | sound p hP => exact sound_m TF_good p hP
 · cases h with
   | sound _ _ => exact ⟨_, Try.func42, rfl, rfl⟩

end Go.Proofs.YtogfcpaalcebdaaE
