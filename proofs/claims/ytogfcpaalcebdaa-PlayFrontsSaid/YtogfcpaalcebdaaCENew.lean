/- A state that begins. -/
import Derived.Test.YtogfcpaalcebdaaCESnd5
namespace Go.Proofs.YtogfcpaalcebdaaE
open Go Go.RowKit
set_option linter.unusedVariables false
set_option linter.unusedSimpArgs false
set_option maxRecDepth 1000000
set_option maxHeartbeats 8000000
def th0 : Th := ⟨false, 0, [0, 0, 0, 0]⟩
def initS0 (p : Prg) : Sg := ⟨p, List.replicate p.code.length th0, List.replicate p.vars.toNat 0, List.replicate p.atoms.toNat 0, List.replicate p.locks.toNat 0, List.replicate p.chans.length ⟨[], 0, false⟩, List.replicate p.groups.toNat 0, List.replicate p.onces.toNat 0, [], false⟩
def initS (p : Prg) : Sg := setTh (initS0 p) 0 { th0 with began := true }
section
variable {N nn : Nat} {S : Spec} {n : Int}
theorem mkI (h0 : 0 ≤ n) (h1 : n ≤ 1000000) : MakeR (env N S) 23 (nI n) (nI n) nn (.sl nn 1 0 n.toNat false) (.arr 1 (encI (List.replicate n.toNat 0))) := by
 refine ⟨ti23, 3, ti3, .i64, .i64, n, n, lk23, rfl, lk3, rfl, rfl, h0, Int.le_refl _, ?_, by omega, rfl, ?_⟩
 · show n * ((8 : Nat) : Int) ≤ _
   omega
 · show _ = madeOb ti3 n.toNat false
   simp [madeOb, encI, zerosC, ti3, Value.cells, nilS]
theorem mkT (h0 : 0 ≤ n) (h1 : n ≤ 1000000) : MakeR (env N S) 79 (nI n) (nI n) nn (.sl nn 6 0 n.toNat false) (.arr 6 ((List.replicate n.toNat th0).map Th.enc)) := by
 refine ⟨ti79, 85, ti85, .i64, .i64, n, n, lk79, rfl, lk85, rfl, rfl, h0, Int.le_refl _, ?_, by omega, rfl, ?_⟩
 · show n * ((48 : Nat) : Int) ≤ _
   omega
 · show _ = madeOb ti85 n.toNat false
   simp [madeOb, zerosC, ti85, Value.cells, nilS, th0, Th.enc]
theorem mkC (h0 : 0 ≤ n) (h1 : n ≤ 1000000) : MakeR (env N S) 80 (nI n) (nI n) nn (.sl nn 2 0 n.toNat false) (.arw 2 ((List.replicate n.toNat (⟨[], 0, false⟩ : Ch)).map Ch.enc)) := by
 refine ⟨ti80, 100, ti100, .i64, .i64, n, n, lk80, rfl, lk100, rfl, rfl, h0, Int.le_refl _, ?_, by omega, rfl, ?_⟩
 · show n * ((32 : Nat) : Int) ≤ _
   omega
 · show _ = madeOb ti100 n.toNat true
   simp [madeOb, zerosD, ti100, Value.cells, nilS, Ch.enc]
theorem wr_mkI {lw d ii : Nat} {qs : List Nat} {ops : List Oper} {K : St → Prop} {rr : List Nu} {A : Nat → V} {m : Mem2} {ty : TypeId} {pos : String} {aft : Array Edge} {x y : Operand} (hx : ev A x = nI n) (hy : ev A y = nI n) (h0 : 0 ≤ n) (h1 : n ≤ 1000000) (hK : Wr (env N S) lw qs ops K rr ⟨up A d (.sl nn 1 0 n.toNat false), m.set nn (some (.arr 1 (encI (List.replicate n.toNat 0))))⟩) : Wr (env N S) lw qs ops K ((ii, ⟨some d, .makeSlice 23 x y, ty, pos, aft, none⟩, nn) :: rr) ⟨A, m⟩ := wr_mk (by rw [hx, hy]; exact mkI h0 h1) hK
theorem wr_mkT {lw d ii : Nat} {qs : List Nat} {ops : List Oper} {K : St → Prop} {rr : List Nu} {A : Nat → V} {m : Mem2} {ty : TypeId} {pos : String} {aft : Array Edge} {x y : Operand} (hx : ev A x = nI n) (hy : ev A y = nI n) (h0 : 0 ≤ n) (h1 : n ≤ 1000000) (hK : Wr (env N S) lw qs ops K rr ⟨up A d (.sl nn 6 0 n.toNat false), m.set nn (some (.arr 6 ((List.replicate n.toNat th0).map Th.enc)))⟩) : Wr (env N S) lw qs ops K ((ii, ⟨some d, .makeSlice 79 x y, ty, pos, aft, none⟩, nn) :: rr) ⟨A, m⟩ := wr_mk (by rw [hx, hy]; exact mkT h0 h1) hK
theorem wr_mkC {lw d ii : Nat} {qs : List Nat} {ops : List Oper} {K : St → Prop} {rr : List Nu} {A : Nat → V} {m : Mem2} {ty : TypeId} {pos : String} {aft : Array Edge} {x y : Operand} (hx : ev A x = nI n) (hy : ev A y = nI n) (h0 : 0 ≤ n) (h1 : n ≤ 1000000) (hK : Wr (env N S) lw qs ops K rr ⟨up A d (.sl nn 2 0 n.toNat false), m.set nn (some (.arw 2 ((List.replicate n.toNat (⟨[], 0, false⟩ : Ch)).map Ch.enc)))⟩) : Wr (env N S) lw qs ops K ((ii, ⟨some d, .makeSlice 80 x y, ty, pos, aft, none⟩, nn) :: rr) ⟨A, m⟩ := wr_mk (by rw [hx, hy]; exact mkC h0 h1) hK
theorem Awp_sqD {E : Env} {k : Nat} {mv : List Nat} {id : Nat} {o : Array Oper} {y : Code} {Q : Exit → St → Prop} {s : St} (h : ∀ K : St → Prop, Kont K (Gq E k mv (Awp E k mv y Q)) → Awp E k mv (.region id o true) (thenA K Q) s) : Awp E k mv (.seq (.region id o true) y) Q s := h _ fun _ h => h
def LN : List Nat := [8, 1, 2, 3, 4, 5, 6, 7]
theorem gq_new {E : Env} {p : Prg} {A : Nat → V} {K : St → Prop} {x0 : Ob} (hK : K ⟨fun t => renD LN (A t), M (initS0 p) []⟩) : Gq E 0 [] K ⟨A, [some x0, some (.arr 6 (List.replicate p.code.length th0.enc)), some (.arr 1 (encI (List.replicate p.vars.toNat 0))), some (.arr 1 (encI (List.replicate p.atoms.toNat 0))), some (.arr 1 (encI (List.replicate p.locks.toNat 0))), some (.arw 2 (List.replicate p.chans.length (Ch.enc ⟨[], 0, false⟩))), some (.arr 1 (encI (List.replicate p.groups.toNat 0))), some (.arr 1 (encI (List.replicate p.onces.toNat 0))), some (.box (p.cells ++ [.sl 1 6 0 p.code.length false, .sl 2 1 0 p.vars.toNat false, .sl 3 1 0 p.atoms.toNat false, .sl 4 1 0 p.locks.toNat false, .sl 5 2 0 p.chans.length false, .sl 6 1 0 p.groups.toNat false, .sl 7 1 0 p.onces.toNat false, .nl, nB false]))]⟩ := by
 refine ⟨_, (Gst.cmp (L := LN) rfl rfl rfl).trans (Gst.empB (id := 0) (j := 14) (sz := 1) rfl rfl), ?_⟩
 have e : M (initS0 p) [] = [some (.box (p.cells ++ [.sl 1 6 0 p.code.length false, .sl 2 1 0 p.vars.toNat false, .sl 3 1 0 p.atoms.toNat false, .sl 4 1 0 p.locks.toNat false, .sl 5 2 0 p.chans.length false, .sl 6 1 0 p.groups.toNat false, .sl 7 1 0 p.onces.toNat false, .sl 8 1 0 0 false, nB false])), some (.arr 6 (List.replicate p.code.length th0.enc)), some (.arr 1 (encI (List.replicate p.vars.toNat 0))), some (.arr 1 (encI (List.replicate p.atoms.toNat 0))), some (.arr 1 (encI (List.replicate p.locks.toNat 0))), some (.arw 2 (List.replicate p.chans.length (Ch.enc ⟨[], 0, false⟩))), some (.arr 1 (encI (List.replicate p.groups.toNat 0))), some (.arr 1 (encI (List.replicate p.onces.toNat 0))), some (.arr 1 [])] := by
  simp [M, stBox, initS0, encI]
 rw [e] at hK
 exact hK
end
theorem rnN : renD LN (.ptr 8 0 0) = .ptr 0 0 0 := rfl
theorem bst {p : Prg} {l1 l2 l3 l4 l5 l6 l7 : Nat} : pBuild tab 82 [(0, .agg p.cells), (1, .sl 1 6 0 l1 false), (2, .sl 2 1 0 l2 false), (3, .sl 3 1 0 l3 false), (4, .sl 4 1 0 l4 false), (5, .sl 5 2 0 l5 false), (6, .sl 6 1 0 l6 false), (7, .sl 7 1 0 l7 false)] = some (.agg (p.cells ++ [.sl 1 6 0 l1 false, .sl 2 1 0 l2 false, .sl 3 1 0 l3 false, .sl 4 1 0 l4 false, .sl 5 2 0 l5 false, .sl 6 1 0 l6 false, .sl 7 1 0 l7 false, .nl, nB false])) := rfl
theorem pcl {p : Prg} : [nI p.vars, nI p.atoms, nI p.locks, .c (.ls (encI p.chans)), nI p.groups, nI p.onces, .c (.ls (p.code.map encC))] = p.cells := rfl
theorem sound_in {p : Prg} (h : soundF p = 0) : (0 ≤ p.vars ∧ p.vars ≤ 8) ∧ (0 ≤ p.atoms ∧ p.atoms ≤ 4) ∧ (0 ≤ p.locks ∧ p.locks ≤ 4) ∧ (0 ≤ p.groups ∧ p.groups ≤ 4) ∧ (0 ≤ p.onces ∧ p.onces ≤ 4) ∧ p.chans.length ≤ 4 ∧ (1 ≤ p.code.length ∧ p.code.length ≤ 6) ∧ (∀ c ∈ p.code, c.length ≤ 60) ∧ (∀ n ∈ p.chans, 1 ≤ n ∧ n ≤ 3) ∧ codesF p p.code = 0 := by
 unfold soundF at h
 split at h
 · cases h
 · rename_i h1
   split at h
   · cases h
   · rename_i h2
     simp only [outF, Bool.or_eq_true, decide_eq_true_eq, not_or, List.any_eq_true, not_exists, not_and] at h1 h2
     obtain ⟨⟨⟨⟨⟨⟨⟨a1, a2⟩, a3⟩, a4⟩, a5⟩, a6⟩, a7⟩, a8⟩ := h1
     refine ⟨by omega, by omega, by omega, by omega, by omega, by omega, by omega, fun c hc => ?_, fun n hn => ?_, h⟩
     · have := a8 c hc; omega
     · have := h2 n hn; omega
attribute [local simp] encI_len cv53 shp0c pExt Prg.cells ldQ g1R obQ stQ s1Q ix3 ia3 ia28 bi3 bs0 bs01 bs02 bs012 bs013 bs014 bs0134 bs01234 bw1 bw2
theorem new_m (hG : Good TG) (p : Prg) (hP : OkP p) : Meets 29 [.agg p.cells] ([]) (pq (fun r a => if soundF p = 0 then r = .ptr 0 0 0 ∧ a = M (initS p) [] else r = .c (.sc (.pointer none)) ∧ a = []) []) := by
 refine meets_q hG Try.func29 rfl rfl ?_
 show Awp (env _ _) _ _ ((Try.f29).body.getD .skip) _ _
 unfold Try.f29
 dsimp only [Option.getD_some]
 unfold start
 generalize hQ : endA _ _ _ _ _ = Q
 by_cases hs : soundF p = 0
 case neg =>
  repeat' (first
  | refine Awp_sq fun K hK => ?_
  | (refine Awp_reg rfl fun K hK => ?_; simp [*, bw3])
  | (refine Awp_regD [] rfl rfl fun K hK => ?_; simp [*, bw3])
  | (refine WG_br (fun h => ?_) (fun h => ?_) <;> (have h' := h; try simp at h'; simp [*, bw3]))
  | (refine RG_br (fun h => ?_) (fun h => ?_) <;> (have h' := h; try simp at h'; simp [*, bw3]))
  | (apply call_p (TG.sound _ hP); rfl; rfl; simp [*, bw3])
  | refine And.intro (by omega) ?_
  | (refine wl_box rfl ?_; simp [*, bw3])
  | (refine wl_alloc rfl ?_; simp [*, bw3])
  | (refine wr_box rfl ?_; simp [*, bw3])
  | (refine wr_alloc rfl ?_; simp [*, bw3])
  | (refine wl_store ?_; simp [*, bw3])
  | (refine wr_store ?_; simp [*, bw3])
  | (show Wl _ _ _ _ _ _; simp [*, bw3])
  | (show Wr _ _ _ _ _ _ _; simp [*, bw3])
  | refine kont (by assumption) ?_
  | with_reducible refine thenA_n ?_
  | with_reducible refine thenA_r ?_
  | with_reducible refine thenA_e ?_
  | with_reducible refine blockA_n ?_
  | with_reducible refine blockA_r ?_
  | with_reducible refine blockA_e ?_
  | with_reducible refine blockA_o rfl ?_
  | (refine Awp_ifT ?_ ?_; focus (simp [*]; done))
  | (refine Awp_ifF ?_ ?_; focus (simp [*]; done))
  | refine Awp_ifT rfl ?_
  | refine Awp_ifF rfl ?_
  | (refine Awp_if rfl (fun h => ?_) (fun h => ?_) <;> ((have h' := h; try simp at h') <;> try (have h2 := h; simp only [decide_eq_false_iff_not] at h2)))
  | with_reducible refine Awp_ret ?_
  | with_reducible refine Awp_skip ?_
  | with_reducible refine Awp_exit ?_
  | with_reducible refine Awp_block ?_)
  all_goals (subst hQ; refine endA_rL [] rfl rfl rfl rfl rfl ?_)
  all_goals simp [*]
 obtain ⟨⟨v0, v1⟩, ⟨at0_, at1⟩, ⟨l0, l1⟩, ⟨g0, g1⟩, ⟨o0, o1⟩, c1, ⟨k0, k1⟩, _⟩ := sound_in hs
 have e0 : (0 : Int) ≤ (p.code.length : Int) := by omega
 have e1 : (p.code.length : Int) ≤ 1000000 := by omega
 have e2 : (0 : Int) ≤ (p.chans.length : Int) := by omega
 have e3 : (p.chans.length : Int) ≤ 1000000 := by omega
 have v2 : p.vars ≤ 1000000 := by omega
 have at2 : p.atoms ≤ 1000000 := by omega
 have l2 : p.locks ≤ 1000000 := by omega
 have g2 : p.groups ≤ 1000000 := by omega
 have o2 : p.onces ≤ 1000000 := by omega
 have ht : (initS0 p).th[0]? = some th0 := by show (List.replicate p.code.length th0)[0]? = some th0; rw [List.getElem?_replicate, if_pos (by omega)]
 have htl : (0 : Int) < ((initS0 p).th.length : Int) := by show (0 : Int) < ((List.replicate p.code.length th0).length : Int); rw [List.length_replicate]; omega
 repeat' (first
 | refine Awp_sqG fun K hK => ?_
 | refine Awp_sq fun K hK => ?_
 | (refine Awp_reg rfl fun K hK => ?_; simp [*, bw3, rnN, ht, htl])
 | (refine Awp_regD [] rfl (by kernel_rfl) fun K hK => ?_; simp [*, bw3, rnN, ht, htl])
 | (refine WG_br (fun h => ?_) (fun h => ?_) <;> (have h' := h; try simp at h'; simp [*, bw3, rnN, ht, htl]))
 | (refine RG_br (fun h => ?_) (fun h => ?_) <;> (have h' := h; try simp at h'; simp [*, bw3, rnN, ht, htl]))
 | (apply call_p (TG.sound _ hP); rfl; rfl; simp [*, bw3])
 | (refine wr_mkI rfl rfl (by assumption) (by assumption) ?_; try simp [*, bw3, Int.toNat_natCast, rnN, ht, htl])
 | (refine wr_mkT rfl rfl (by assumption) (by assumption) ?_; try simp [*, bw3, Int.toNat_natCast, rnN, ht, htl])
 | (refine wr_mkC rfl rfl (by assumption) (by assumption) ?_; try simp [*, bw3, Int.toNat_natCast, rnN, ht, htl])
 | (refine rv_eq bst ?_; try simp [*, bw3, Int.toNat_natCast, rnN, ht, htl])
 | refine gq_new ?_
 | refine Gq.here ?_
 | refine And.intro (by omega) ?_
 | (refine wl_box rfl ?_; simp [*, bw3, rnN, ht, htl])
 | (refine wl_alloc rfl ?_; simp [*, bw3, rnN, ht, htl])
 | (refine wr_box rfl ?_; simp [*, bw3, rnN, ht, htl])
 | (refine wr_alloc rfl ?_; simp [*, bw3, rnN, ht, htl])
 | (refine wl_store ?_; simp [*, bw3, rnN, ht, htl])
 | (refine wr_store ?_; simp [*, bw3, rnN, ht, htl])
 | (show Wl _ _ _ _ _ _; simp [*, bw3, rnN, ht, htl])
 | (show Wr _ _ _ _ _ _ _; simp [*, bw3, rnN, ht, htl])
 | refine kont (by assumption) ?_
 | with_reducible refine thenA_n ?_
 | with_reducible refine thenA_r ?_
 | with_reducible refine thenA_e ?_
 | with_reducible refine blockA_n ?_
 | with_reducible refine blockA_r ?_
 | with_reducible refine blockA_e ?_
 | with_reducible refine blockA_o rfl ?_
 | (refine Awp_ifT ?_ ?_; focus (simp [*]; done))
 | (refine Awp_ifF ?_ ?_; focus (simp [*]; done))
 | refine Awp_ifT rfl ?_
 | refine Awp_ifF rfl ?_
 | (refine Awp_if rfl (fun h => ?_) (fun h => ?_) <;> ((have h' := h; try simp at h') <;> try (have h2 := h; simp only [decide_eq_false_iff_not] at h2)))
 | with_reducible refine Awp_ret ?_
 | with_reducible refine Awp_skip ?_
 | with_reducible refine Awp_exit ?_
 | with_reducible refine Awp_block ?_)
 all_goals (subst hQ; refine endA_r rfl ?_)
 all_goals (rw [if_pos hs]; exact ⟨rfl, rfl⟩)

end Go.Proofs.YtogfcpaalcebdaaE
