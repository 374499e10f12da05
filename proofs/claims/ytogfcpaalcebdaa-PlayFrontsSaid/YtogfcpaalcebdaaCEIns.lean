/- law02.Ins, walked. -/
import Derived.Test.YtogfcpaalcebdaaCEKnow0
namespace Go.Proofs.YtogfcpaalcebdaaE
open Go Go.RowKit
set_option linter.unusedVariables false
set_option linter.unusedSimpArgs false
set_option maxRecDepth 1000000
set_option maxHeartbeats 8000000
def opsM : List Int := [7, 8, 9, 1, 3, 7, 8, 9, 13, 14, 15, 16, 17, 18, 19, 20, 21, 22, 23, 24, 25, 26, 27, 11, 10, 0, 2, 4, 5, 6, 7, 8, 13, 14, 9, 8]
section
variable {id s : Nat} {es : List (List C)}
theorem fz_c {x : C} : frzV id s es (.c x) = .c x := rfl
theorem fz_p {i k off : Nat} : frzV id s es (.ptr i k off) = .ptr i k off := rfl
theorem fz_a : frzV id s es .any = .any := rfl
theorem fz_n : frzV id s es .nl = .nl := rfl
end
def opsM_es : List (List C) := [[.sc (.int .u8 7)], [.sc (.int .u8 8)], [.sc (.int .u8 9)], [.sc (.int .u8 1)], [.sc (.int .u8 3)], [.sc (.int .u8 7)], [.sc (.int .u8 8)], [.sc (.int .u8 9)], [.sc (.int .u8 13)], [.sc (.int .u8 14)], [.sc (.int .u8 15)], [.sc (.int .u8 16)], [.sc (.int .u8 17)], [.sc (.int .u8 18)], [.sc (.int .u8 19)], [.sc (.int .u8 20)], [.sc (.int .u8 21)], [.sc (.int .u8 22)], [.sc (.int .u8 23)], [.sc (.int .u8 24)], [.sc (.int .u8 25)], [.sc (.int .u8 26)], [.sc (.int .u8 27)], [.sc (.int .u8 11)], [.sc (.int .u8 10)], [.sc (.int .u8 0)], [.sc (.int .u8 2)], [.sc (.int .u8 4)], [.sc (.int .u8 5)], [.sc (.int .u8 6)], [.sc (.int .u8 7)], [.sc (.int .u8 8)], [.sc (.int .u8 13)], [.sc (.int .u8 14)], [.sc (.int .u8 9)], [.sc (.int .u8 8)]]
def opsM_ps : List (Nat × V) := [(0, nU 7), (1, nU 8), (2, nU 9), (3, nU 1), (4, nU 3), (5, nU 7), (6, nU 8), (7, nU 9), (8, nU 13), (9, nU 14), (10, nU 15), (11, nU 16), (12, nU 17), (13, nU 18), (14, nU 19), (15, nU 20), (16, nU 21), (17, nU 22), (18, nU 23), (19, nU 24), (20, nU 25), (21, nU 26), (22, nU 27), (23, nU 11), (24, nU 10), (25, nU 0), (26, nU 2), (27, nU 4), (28, nU 5), (29, nU 6), (30, nU 7), (31, nU 8), (32, nU 13), (33, nU 14), (34, nU 9), (35, nU 8)]
theorem opsM_lit : pLit tab 22 36 opsM_ps = some (1, opsM_es) := by kernel_rfl
theorem opsM_es_eq : opsM_es = encU opsM := rfl
theorem fz_ops : frzV 1 1 (encU opsM) (.sl 1 1 0 36 true) = .c (.ls (encU opsM)) := rfl
theorem opsM_len : opsM.length = 36 := rfl
theorem opsM_all : ∀ x ∈ opsM, 0 ≤ x ∧ x < 28 := by decide
theorem bi_0 {a b c d : Int} : pBuild tab 54 [(0, nU a)] = some (.agg [nU a, nI 0, nI 0, nI 0]) := rfl
theorem bi_01 {a b c d : Int} : pBuild tab 54 [(0, nU a), (1, nI b)] = some (.agg [nU a, nI b, nI 0, nI 0]) := rfl
theorem bi_02 {a b c d : Int} : pBuild tab 54 [(0, nU a), (2, nI c)] = some (.agg [nU a, nI 0, nI c, nI 0]) := rfl
theorem bi_012 {a b c d : Int} : pBuild tab 54 [(0, nU a), (1, nI b), (2, nI c)] = some (.agg [nU a, nI b, nI c, nI 0]) := rfl
theorem bi_013 {a b c d : Int} : pBuild tab 54 [(0, nU a), (1, nI b), (3, nI d)] = some (.agg [nU a, nI b, nI 0, nI d]) := rfl
theorem bi_0123 {a b c d : Int} : pBuild tab 54 [(0, nU a), (1, nI b), (2, nI c), (3, nI d)] = some (.agg [nU a, nI b, nI c, nI d]) := rfl
def insO (op b at_ n : Int) : Ins :=
 if op = 1 then ⟨op, b % 4, b / 4 % 8, 0⟩
 else if op = 2 then ⟨op, b % 4, b / 4 % 4, 0⟩
 else if op = 3 ∨ op = 4 ∨ op = 5 ∨ op = 6 then ⟨op, b % 4, b / 4 % 4, b / 16 % 4⟩
 else if op = 7 then ⟨op, b % 4, b / 16 % 2, 0⟩
 else if op = 8 then ⟨op, b / 16 % 2, b % 4, 0⟩
 else if op = 9 then ⟨op, b % 4, 0, 0⟩
 else if op = 10 then ⟨op, min (at_ + 1 + b / 4 % 4) n, 0, 0⟩
 else if op = 11 then (if 200 ≤ b then ⟨op, b % 4, max (at_ - b / 4 % 4) 0, 0⟩ else ⟨op, b % 4, min (at_ + 1 + b / 4 % 4) n, 0⟩)
 else if op = 18 then ⟨op, 0, b % 4, 0⟩
 else if op = 19 then ⟨op, b % 4, 0, b / 4 % 4⟩
 else if op = 20 then ⟨op, 0, b % 4, 0⟩
 else if op = 17 ∨ op = 21 ∨ op = 26 then ⟨op, b % 4, 0, 0⟩
 else if op = 22 then ⟨op, b % 4, 0, b / 4 % 4⟩
 else if op = 24 then ⟨op, 0, b % 3 - 1, 0⟩
 else ⟨op, 0, 0, 0⟩
def insM (a b at_ n : Int) : Ins := insO (opsM.getD (a % 36).toNat 0) b at_ n
theorem wrap_neg {n : Int} (h0 : -2000000 < n) (h1 : n < 2000000) : IntKind.i64.wrap n = n := by rw [IntKind.wrap_i64]; omega
def insV (i : Ins) : List V := [nU i.op, nI i.a, nI i.b, nI i.c]
theorem wrapU8 {x : Int} (h1 : 0 ≤ x) (h2 : x < 256) : IntKind.u8.wrap x = x := by
 unfold IntKind.wrap
 simp [IntKind.signed, IntKind.bits]
 omega
theorem ins_facts {a b at_ n : Int} (ha : 0 ≤ a ∧ a < 256) (hb : 0 ≤ b ∧ b < 256) (hat : 0 ≤ at_ ∧ at_ < 1000) (hn : 0 ≤ n ∧ n < 1000) : a.tmod 36 = a % 36 ∧ b.tmod 4 = b % 4 ∧ b.tdiv 4 = b / 4 ∧ b.tdiv 16 = b / 16 ∧ (b / 4).tmod 4 = b / 4 % 4 ∧ (b / 4).tmod 8 = b / 4 % 8 ∧ (b / 16).tmod 2 = b / 16 % 2 ∧ (b / 16).tmod 4 = b / 16 % 4 ∧ b.tmod 3 = b % 3 ∧ IntKind.u8.wrap (b % 4) = b % 4 ∧ IntKind.u8.wrap (b / 4) = b / 4 ∧ IntKind.u8.wrap (b / 16) = b / 16 ∧ IntKind.u8.wrap (b / 4 % 4) = b / 4 % 4 ∧ IntKind.u8.wrap (b / 4 % 8) = b / 4 % 8 ∧ IntKind.u8.wrap (b / 16 % 2) = b / 16 % 2 ∧ IntKind.u8.wrap (b / 16 % 4) = b / 16 % 4 ∧ IntKind.u8.wrap (b % 3) = b % 3 ∧ IntKind.i64.wrap (a) = a ∧ IntKind.i64.wrap (b % 4) = b % 4 ∧ IntKind.i64.wrap (b / 4 % 4) = b / 4 % 4 ∧ IntKind.i64.wrap (b / 4 % 8) = b / 4 % 8 ∧ IntKind.i64.wrap (b / 16 % 2) = b / 16 % 2 ∧ IntKind.i64.wrap (b / 16 % 4) = b / 16 % 4 ∧ IntKind.i64.wrap (b % 3) = b % 3 ∧ IntKind.i64.wrap (b % 3 - 1) = b % 3 - 1 ∧ IntKind.i64.wrap (a % 36) = a % 36 ∧ IntKind.i64.wrap (at_ + 1) = at_ + 1 ∧ IntKind.i64.wrap (at_ + 1 + b / 4 % 4) = at_ + 1 + b / 4 % 4 ∧ IntKind.i64.wrap (at_ - b / 4 % 4) = at_ - b / 4 % 4 ∧ 0 ≤ a % 36 := by
 refine ⟨Int.tmod_eq_emod_of_nonneg ha.1, ?_⟩
 refine ⟨Int.tmod_eq_emod_of_nonneg hb.1, ?_⟩
 refine ⟨Int.tdiv_eq_ediv_of_nonneg hb.1, ?_⟩
 refine ⟨Int.tdiv_eq_ediv_of_nonneg hb.1, ?_⟩
 refine ⟨Int.tmod_eq_emod_of_nonneg (by omega), ?_⟩
 refine ⟨Int.tmod_eq_emod_of_nonneg (by omega), ?_⟩
 refine ⟨Int.tmod_eq_emod_of_nonneg (by omega), ?_⟩
 refine ⟨Int.tmod_eq_emod_of_nonneg (by omega), ?_⟩
 refine ⟨Int.tmod_eq_emod_of_nonneg hb.1, ?_⟩
 refine ⟨wrapU8 (by omega) (by omega), ?_⟩
 refine ⟨wrapU8 (by omega) (by omega), ?_⟩
 refine ⟨wrapU8 (by omega) (by omega), ?_⟩
 refine ⟨wrapU8 (by omega) (by omega), ?_⟩
 refine ⟨wrapU8 (by omega) (by omega), ?_⟩
 refine ⟨wrapU8 (by omega) (by omega), ?_⟩
 refine ⟨wrapU8 (by omega) (by omega), ?_⟩
 refine ⟨wrapU8 (by omega) (by omega), ?_⟩
 refine ⟨wrap_neg (by omega) (by omega), ?_⟩
 refine ⟨wrap_neg (by omega) (by omega), ?_⟩
 refine ⟨wrap_neg (by omega) (by omega), ?_⟩
 refine ⟨wrap_neg (by omega) (by omega), ?_⟩
 refine ⟨wrap_neg (by omega) (by omega), ?_⟩
 refine ⟨wrap_neg (by omega) (by omega), ?_⟩
 refine ⟨wrap_neg (by omega) (by omega), ?_⟩
 refine ⟨wrap_neg (by omega) (by omega), ?_⟩
 refine ⟨wrap_neg (by omega) (by omega), ?_⟩
 refine ⟨wrap_neg (by omega) (by omega), ?_⟩
 refine ⟨wrap_neg (by omega) (by omega), ?_⟩
 refine ⟨wrap_neg (by omega) (by omega), ?_⟩
 omega
attribute [local simp] encI_len cv53 shp0c pExt Prg.cells ldQ g1R obQ stQ s1Q ix3 ia3 ia28 bi3 bs0 bs01 bs02 bs012 bs013 bs014 bs0134 bs01234 bw1 bw2 bw3 ia_u8 ld_u8 encU_len opsM_len opsM_es_eq pMM fz_c fz_p fz_a fz_n fz_ops frzL frzO bi_0 bi_01 bi_02 bi_012 bi_013 bi_0123
theorem mkins_m {S : Spec} (hG : Good S) (a b at_ n : Int) (ha : 0 ≤ a ∧ a < 256) (hb : 0 ≤ b ∧ b < 256) (hat : 0 ≤ at_ ∧ at_ < 1000) (hn : 0 ≤ n ∧ n < 1000) : Meets 19 [nU a, nU b, nI at_, nI n] ([]) (pt (.agg (insV (insM a b at_ n))) [] []) := by
 refine meets hG Try.func19 rfl rfl ?_
 show Awp (env _ _) _ _ ((Try.f19).body.getD .skip) _ _
 unfold Try.f19
 dsimp only [Option.getD_some]
 unfold start
 generalize hQ : endA _ _ _ _ _ = Q
 have hi : (a % 36).toNat < 36 := by omega
 obtain ⟨op, hop⟩ : ∃ op, opsM[(a % 36).toNat]? = some op := ⟨opsM[(a % 36).toNat]'hi, List.getElem?_eq_getElem hi⟩
 have hopg : opsM.getD (a % 36).toNat 0 = op := by rw [List.getD_eq_getElem?_getD, hop]; rfl
 obtain ⟨hq0, hq1, hq2, hq3, hq4, hq5, hq6, hq7, hq8, u0, u1, u2, u3, u4, u5, u6, u7, w0, w1, w2, w3, w4, w5, w6, w7, w8, w9, w10, w11, ha0⟩ := ins_facts ha hb hat hn
 clear hi
 have hins : insM a b at_ n = insO op b at_ n := by unfold insM; rw [hopg]
 clear hopg
 refine Awp_sqG fun K hK => ?_
 refine Awp_reg rfl fun K hK => ?_
 simp [*]
 refine wl_alloc rfl ?_
 simp [*]
 refine kont (by assumption) ?_
 refine thenA_n ?_
 refine kont (by assumption) ?_
 refine Gq.here ?_
 refine Awp_sqG fun K hK => ?_
 refine Awp_reg rfl fun K hK => ?_
 simp [*]
 refine wl_lit (si := 1) (es := opsM_es) (by show pLit tab 22 36 opsM_ps = _; exact opsM_lit) ?_
 simp [*]
 refine kont (by assumption) ?_
 refine thenA_n ?_
 refine kont (by assumption) ?_
 refine gq_frz 1 rfl ?_
 refine Awp_sq fun K hK => ?_
 refine Awp_reg rfl fun K hK => ?_
 simp [*]
 refine kont (by assumption) ?_
 refine thenA_n ?_
 refine kont (by assumption) ?_
 refine Awp_sq fun K hK => ?_
 refine Awp_reg rfl fun K hK => ?_
 simp [*]
 refine kont (by assumption) ?_
 refine thenA_n ?_
 refine kont (by assumption) ?_
 refine Awp_sq fun K hK => ?_
 refine Awp_reg rfl fun K hK => ?_
 simp [*]
 refine kont (by assumption) ?_
 refine thenA_n ?_
 refine kont (by assumption) ?_
 refine Awp_sq fun K hK => ?_
 refine Awp_reg rfl fun K hK => ?_
 simp [*]
 refine kont (by assumption) ?_
 refine thenA_n ?_
 refine kont (by assumption) ?_
 refine Awp_sq fun K hK => ?_
 refine Awp_sq fun K hK => ?_
 refine Awp_reg rfl fun K hK => ?_
 simp [*]
 refine kont (by assumption) ?_
 refine thenA_n ?_
 refine kont (by assumption) ?_
 generalize hA : up _ _ _ = A
 have a8 : A 8 = .ptr 0 0 0 := by rw [← hA]; rfl
 have a34 : A 34 = nU op := by rw [← hA]; rfl
 have a10 : A 10 = nU op := by rw [← hA]; rfl
 have a11 : A 11 = nI (b % 4) := by rw [← hA]; rfl
 have a12 : A 12 = nI (b / 4 % 4) := by rw [← hA]; rfl
 have a13 : A 13 = nI (b / 16 % 2) := by rw [← hA]; rfl
 have a1 : A 1 = nU b := by rw [← hA]; rfl
 have a2 : A 2 = nI at_ := by rw [← hA]; rfl
 have a3 : A 3 = nI n := by rw [← hA]; rfl
 obtain ⟨B, hB⟩ : ∃ B : Nat → V, A = up B 8 (.ptr 0 0 0) := ⟨A, funext fun t => by rw [up_get]; split <;> simp_all⟩
 subst hB
 have a34 : B 34 = nU op := a34
 have a10 : B 10 = nU op := a10
 have a11 : B 11 = nI (b % 4) := a11
 have a12 : B 12 = nI (b / 4 % 4) := a12
 have a13 : B 13 = nI (b / 16 % 2) := a13
 have a1 : B 1 = nU b := a1
 have a2 : B 2 = nI at_ := a2
 have a3 : B 3 = nI n := a3
 clear hA hq0 hq1 hq4 hq6 u0 u3 u5 w0 w4 ha0 hop w8 a8
 repeat' (first
 | refine Awp_sq fun K hK => ?_
 | (refine Awp_reg rfl fun K hK => ?_; simp [*])
 | (refine Awp_regD [] rfl rfl fun K hK => ?_; simp [*])
 | (refine WG_br (fun h => ?_) (fun h => ?_) <;> (have h' := h; try simp at h'; simp [*]))
 | (refine RG_br (fun h => ?_) (fun h => ?_) <;> (have h' := h; try simp at h'; simp [*]))
 | refine And.intro (by omega) ?_
 | (refine wl_box rfl ?_; simp [*])
 | (refine wl_alloc rfl ?_; simp [*])
 | (refine wr_box rfl ?_; simp [*])
 | (refine wr_alloc rfl ?_; simp [*])
 | (refine wl_store ?_; simp [*])
 | (refine wr_store ?_; simp [*])
 | (show Wl _ _ _ _ _ _; simp [*])
 | (show Wr _ _ _ _ _ _ _; simp [*])
 | (refine kont hK ?_; clear hK K)
 | refine kont (by assumption) ?_
 | with_reducible refine thenA_n ?_
 | with_reducible refine thenA_r ?_
 | with_reducible refine thenA_e ?_
 | with_reducible refine blockA_n ?_
 | with_reducible refine blockA_r ?_
 | with_reducible refine blockA_e ?_
 | with_reducible refine blockA_o rfl ?_
 | refine Awp_ifT rfl ?_
 | refine Awp_ifF rfl ?_
 | (refine Awp_if rfl (fun h => ?_) (fun h => ?_) <;> ((have h' := h; try simp at h') <;> try (have h2 := h; simp only [decide_eq_false_iff_not] at h2)))
 | with_reducible refine noGo_n ?_
 | with_reducible refine noGo_r ?_
 | with_reducible refine noGo_e ?_
 | with_reducible refine Awp_scope ?_
 | with_reducible refine Awp_label ?_
 | with_reducible refine Awp_ret ?_
 | with_reducible refine Awp_skip ?_
 | with_reducible refine Awp_exit ?_
 | with_reducible refine Awp_block ?_)
 all_goals (subst hQ; first | refine endA_rL [] rfl rfl rfl rfl rfl ⟨?_, rfl⟩ | refine endA_nL [] rfl rfl rfl rfl rfl ⟨?_, rfl⟩)
 all_goals first | (simp [*, insV, insO]; done) | (exfalso; omega)

end Go.Proofs.YtogfcpaalcebdaaE
