/- law02.Make, walked. -/
import Derived.Test.YtogfcpaalcebdaaCEIns
import Derived.Test.YtogfcpaalcebdaaCELaw0
import Derived.Test.YtogfcpaalcebdaaCEBld
namespace Go.Proofs.YtogfcpaalcebdaaE
open Go Go.RowKit
set_option linter.unusedVariables false
set_option linter.unusedSimpArgs false
set_option maxRecDepth 1000000
set_option maxHeartbeats 8000000
section
variable {E : Env} {ops : List Oper} {K : St → Prop} {kk d : Nat} {mv : List Nat} {A : Nat → V} {m m1 : Mem2} {s s1 : St} {ty : TypeId} {pos : String} {aft : Array Edge} {lw nn ii : Nat} {qs : List Nat} {rr : List Nu}
theorem gq_then (h : Gst E kk mv s s1) (hK : Gq E kk mv K s1) : Gq E kk mv K s := by
 obtain ⟨s2, h1, h2⟩ := hK
 exact ⟨s2, h.trans h1, h2⟩
theorem gq_nl (hK : Gq E kk mv K ⟨fun t => nlV (A t), m⟩) : Gq E kk mv K ⟨A, m⟩ := gq_then Gfa.nl.gst hK
theorem wr_appG {α : Type} {f : α → List C} {t e : TypeId} {ti i : TI} {l1 l2 : List α} {x y : Operand} (h1 : look E.T t = some ti) (h2 : ti.td = .slc e) (h3 : look E.T e = some i) (hf : ∀ a ∈ l1 ++ l2, (f a).length = i.n) (hb : i.by_ ≤ 1000) (hd : dstR m i.n (ev A x) = some (l1.map f, m1)) (hs : srcR m (ev A y) = some (l2.map f)) (hl : l1.length + l2.length < 1000000)
 (hne : l2 ≠ [] ∨ l1 = [] ∨ ∃ id s off len, ev A x = .sl id s off len false) (hK : Wr E lw qs ops K rr ⟨up A d (.sl nn i.n 0 (l1.length + l2.length) false), m1.set nn (some (.arr i.n ((l1 ++ l2).map f)))⟩) : Wr E lw qs ops K ((ii, ⟨some d, .call ⟨.builtin .append, #[x, y], #[t, t]⟩, ty, pos, aft, none⟩, nn) :: rr) ⟨A, m⟩ := by
 show WApp E #[t, t] [ev A x, ev A y] m nn _
 refine ⟨t, _, _, rfl, rfl, .inl ⟨ti, e, i, l1.map f, l2.map f, m1, h1, h2, h3, hd, hs, ?_, ?_, ?_, ?_, ?_, ?_⟩⟩
 · intro row hr; obtain ⟨a, ha, rfl⟩ := List.mem_map.1 hr; exact hf a (List.mem_append_right _ ha)
 · intro row hr; obtain ⟨a, ha, rfl⟩ := List.mem_map.1 hr; exact hf a (List.mem_append_left _ ha)
 · rw [List.length_map, List.length_map]
   have : (l1.length + l2.length) * i.by_ ≤ 1000000 * 1000 := Nat.mul_le_mul (by omega) hb
   omega
 · rw [List.length_map, List.length_map]; omega
 · rcases hne with h | h | h
   · exact .inl (by simpa using h)
   · exact .inr (.inl (by simp [h]))
   · exact .inr (.inr h)
 · rw [List.length_map, List.length_map, ← List.map_append]
   exact hK
theorem wr_lit1G {t : TypeId} {si : Nat} {x : Operand} {row : List C} (h : pLit E.T t 1 [(0, ev A x)] = some (si, [row])) (hK : Wr E lw qs ops K rr ⟨up A d (.sl nn si 0 1 true), m.set nn (some (.arr si [row]))⟩) : Wr E lw qs ops K ((ii, ⟨some d, .buildSlice t 1 #[(0, x)], ty, pos, aft, none⟩, nn) :: rr) ⟨A, m⟩ :=
 ⟨_, _, ⟨_, _, h, rfl, rfl⟩, hK⟩
theorem dst_allG {α : Type} {f : α → List C} {s id : Nat} {l : List α} (h : obGet m id = some (.arr s (l.map f))) : dstR m s (.sl id s 0 l.length false) = some (l.map f, m.set id none) := by
 unfold dstR
 dsimp only
 rw [h]
 dsimp only
 rw [if_pos ⟨by simp, rfl, rfl⟩, List.drop_zero]
theorem Awp_seqI (id : Nat) {o : Array Oper} {dr : Bool} {c y : Code} {Q : Exit → St → Prop} (R : St → Prop) (h : ∀ K : St → Prop, Kont K (Gq E kk mv R) → Awp E kk mv (.seq (.region id o dr) c) (thenA K Q) s) (h2 : ∀ s, R s → Awp E kk mv y Q s) : Awp E kk mv (.seq (.seq (.region id o dr) c) y) Q s := Awp_seq R (h _ fun _ h => h) h2
theorem dst_allG' {α : Type} {f : α → List C} {s id n : Nat} {l : List α} (hn : n = l.length) (h : obGet m id = some (.arr s (l.map f))) : dstR m s (.sl id s 0 n false) = some (l.map f, m.set id none) := by
 subst hn
 exact dst_allG h
theorem up_frz {id s t u : Nat} {es : List (List C)} {A : Nat → V} {v : V} : frzV id s es (up A t v u) = up (fun w => frzV id s es (A w)) t (frzV id s es v) u := by
 rw [up_get, up_get]
 split <;> rfl
theorem src_oneG {α : Type} {f : α → List C} {s id : Nat} {x : α} (h : obGet m id = some (.arr s [f x])) : srcR m (.sl id s 0 1 true) = some ([x].map f) := by
 unfold srcR
 dsimp only
 rw [h]
 dsimp only
 rw [if_pos ⟨by simp, rfl⟩, List.drop_zero]
 rfl
end
def goesL (q : Nat) : List Ins := (List.range (q - 1)).map fun (k : Nat) => ⟨12, (k : Int) + 1, 0, 0⟩
def manyM (c : List Int) : Nat := min (c.length / 2) 9
def insL (c : List Int) (head many : Nat) (k : Nat) : List Ins := (List.range k).map fun j => insM (c.getD (2 * j) 0) (c.getD (2 * j + 1) 0) ((head + j : Nat) : Int) ((head + many : Nat) : Int)
def headM (n i : Nat) : Nat := if i = 0 then n - 1 else 0
def codeM (l : List (List Int)) (n i : Nat) : List Ins := goesL (headM n i + 1) ++ insL (l.getD i []) (headM n i) (manyM (l.getD i [])) (manyM (l.getD i []))
def nM (l : List (List Int)) : Nat := max (min l.length 3) 1
def makeM (l : List (List Int)) : Prg := ⟨2, 1, 1, [1], 1, 1, (List.range (nM l)).map (codeM l (nM l))⟩
def encR (l : List (List Int)) : List (List C) := l.map fun r => [.ls (encU r)]
theorem encR_len {l : List (List Int)} : (encR l).length = l.length := by simp [encR]
theorem ia_rows {l : List (List Int)} {n : Int} {x : List Int} (h0 : 0 ≤ n) (h : l[n.toNat]? = some x) : pIndexAddr tab 28 (.c (.ls (encR l))) (nI n) = some (.at [.ls (encU x)]) := pIdx_map (i := ti22) h0 h rfl
theorem ld_rows {x : List Int} {m : Mem2} : aLoad tab m 22 (.at [.ls (encU x)]) = some (.c (.ls (encU x))) := rfl
theorem goes_s {q : Nat} (h : 1 ≤ q) : goesL (q + 1) = goesL q ++ [⟨12, (q : Int), 0, 0⟩] := by
 obtain ⟨k, rfl⟩ : ∃ k, q = k + 1 := ⟨q - 1, by omega⟩
 simp [goesL, List.range_succ]
theorem row_in {l : List (List Int)} (h8 : ∀ r ∈ l, ∀ x ∈ r, 0 ≤ x ∧ x < 256) (i : Nat) : ∀ x ∈ l.getD i [], 0 ≤ x ∧ x < 256 := by
 rw [List.getD_eq_getElem?_getD]
 cases hq : l[i]? with
 | none => intro x hx; cases hx
 | some r => exact h8 r (List.mem_of_getElem? hq)
theorem nM_in (l : List (List Int)) : 1 ≤ nM l ∧ nM l ≤ 3 := by unfold nM; omega
theorem manyM_le (c : List Int) : manyM c ≤ 9 := by unfold manyM; omega
theorem headM_le (n i : Nat) : headM n i ≤ n - 1 := by unfold headM; split <;> omega
theorem goes_len {q : Nat} : (goesL q).length = q - 1 := by simp [goesL]
theorem insL_s {c : List Int} {head many k : Nat} : insL c head many (k + 1) = insL c head many k ++ [insM (c.getD (2 * k) 0) (c.getD (2 * k + 1) 0) ((head + k : Nat) : Int) ((head + many : Nat) : Int)] := by
 simp [insL, List.range_succ]
theorem insL_len {c : List Int} {head many k : Nat} : (insL c head many k).length = k := by simp [insL]
def preL (n i : Nat) (r : List Int) (k : Nat) : List Ins := goesL (headM n i + 1) ++ insL r (headM n i) (manyM r) k
theorem preL_0 {n i : Nat} {r : List Int} : preL n i r 0 = goesL (headM n i + 1) := by simp [preL, insL]
theorem preL_s {n i : Nat} {r : List Int} {k : Nat} {a b : Int} (ha : r.getD (2 * k) 0 = a) (hb : r.getD (2 * k + 1) 0 = b) : preL n i r (k + 1) = preL n i r k ++ [insM a b ((headM n i : Int) + (k : Int)) ((headM n i : Int) + (manyM r : Int))] := by
 unfold preL
 rw [insL_s, ha, hb, List.append_assoc]
 rfl
theorem preL_len {n i : Nat} {r : List Int} {k : Nat} : (preL n i r k).length = headM n i + k := by
 unfold preL
 rw [List.length_append, goes_len, insL_len]
 omega
inductive SI : Spec
 | ins (a b at_ n : Int) (ha : 0 ≤ a ∧ a < 256) (hb : 0 ≤ b ∧ b < 256) (hat : 0 ≤ at_ ∧ at_ < 1000) (hn : 0 ≤ n ∧ n < 1000) : SI 19 [nU a, nU b, nI at_, nI n] [] (pt (.agg (insV (insM a b at_ n))) [] [])
theorem SI_good : Good SI := by
 refine ⟨fun f a m P h => ?_, fun f a m P h => ?_⟩
 · cases h with
   | ins a b at_ n ha hb hat hn => exact mkins_m Good.none a b at_ n ha hb hat hn
 · cases h with
   | ins a b at_ n ha hb hat hn => exact ⟨_, Try.func19, rfl, rfl⟩
attribute [local simp] eqEv be_02 be_124 bins0 bins01 bins02 bprg6 bprg26 bprg56 bprg0 eqpn eqnn MT_set10 MT_set11 st_MT10 st_MT11 rnT_c nlV nlV.nlL frzV frzL frzO pExt encI_len k2_s chunk encI_len cv53 shp0c pExt Prg.cells ldQ g1R obQ stQ s1Q ix3 ia3 ia28 bi3 bs0 bs01 bs02 bs012 bs013 bs014 bs0134 bs01234 bw1 bw2 bw3 ia_u8 ld_u8 encU_len encR_len ia_rows ld_rows pMM rn_ptr rn_sl rn_any
theorem make_m (hG : Good SI) (l : List (List Int)) (hl8 : ∀ r ∈ l, ∀ x ∈ r, 0 ≤ x ∧ x < 256) (hll : l.length ≤ 9223372036854775807) (hlr : ∀ r ∈ l, r.length ≤ 9223372036854775807) : Meets 11 [.c (.ls (encR l))] ([]) (pt (.agg (makeM l).cells) [] []) := by
 refine meets hG Try.func11 rfl rfl ?_
 show Awp (env _ _) _ _ ((Try.f11).body.getD .skip) _ _
 unfold Try.f11
 dsimp only [Option.getD_some]
 unfold start
 generalize hQ : endA _ _ _ _ _ = Q
 obtain ⟨n1, n3⟩ := nM_in l
 have hn : max (min (l.length : Int) 3) 1 = ((nM l : Nat) : Int) := by unfold nM; omega
 repeat' (first
 | refine Awp_sqG fun K hK => ?_
 | (refine Awp_reg rfl fun K hK => ?_; simp [*, posOf])
 | (refine Awp_regD [] rfl rfl fun K hK => ?_; simp [*, posOf])
 | (refine WG_br (fun h => ?_) (fun h => ?_) <;> (have h' := h; try simp at h'; simp [*, posOf]))
 | (refine RG_br (fun h => ?_) (fun h => ?_) <;> (have h' := h; try simp at h'; simp [*, posOf]))
 | (refine wl_litF rfl ?_; try simp [*, posOf])
 | refine Gq.here ?_
 | refine And.intro (by omega) ?_
 | (refine wl_box rfl ?_; simp [*, posOf])
 | (refine wl_alloc rfl ?_; simp [*, posOf])
 | (refine wr_box rfl ?_; simp [*, posOf])
 | (refine wr_alloc rfl ?_; simp [*, posOf])
 | (refine wl_store ?_; simp [*, posOf])
 | (refine wr_store ?_; simp [*, posOf])
 | (show Wl _ _ _ _ _ _; simp [*, posOf])
 | (show Wr _ _ _ _ _ _ _; simp [*, posOf])
 | (refine kont hK ?_; clear hK K)
 | refine kont (by assumption) ?_
 | with_reducible refine thenA_n ?_
 | with_reducible refine thenA_r ?_
 | with_reducible refine thenA_e ?_
 | with_reducible refine blockA_n ?_
 | with_reducible refine blockA_r ?_
 | with_reducible refine blockA_e ?_
 | with_reducible refine blockA_o rfl ?_
 | refine Awp_ifT rfl ?_
 | refine Awp_ifF rfl ?_
 | (refine Awp_if rfl (fun h => ?_) (fun h => ?_) <;> ((have h' := h; try simp at h') <;> try (have h2 := h; simp only [decide_eq_false_iff_not] at h2)))
 | with_reducible refine noGo_n ?_
 | with_reducible refine noGo_r ?_
 | with_reducible refine noGo_e ?_
 | with_reducible refine Awp_scope ?_
 | with_reducible refine Awp_label ?_
 | with_reducible refine Awp_ret ?_
 | with_reducible refine Awp_skip ?_
 | with_reducible refine Awp_exit ?_
 | with_reducible refine Awp_block ?_)
 refine Awp_loop (fun s => ∃ i : Nat, i ≤ nM l ∧ s.m = [some (.box [nI 0, nI 0, nI 0, .nl, nI 0, nI 0, .nl]), some (.box [nI 2, nI 1, nI 1, .c (.ls [[ci 1]]), nI 1, nI 1, .sl 2 1 0 i false]), some (.arr 1 (((List.range i).map (codeM l (nM l))).map encC))] ∧ s.A 0 = .c (.ls (encR l)) ∧ s.A 2 = .ptr 0 0 0 ∧ s.A 3 = .ptr 1 0 0 ∧ s.A 4 = nI (nM l) ∧ s.A 5 = nI i) (fun s => match s.A 5 with | .c (.sc (.int _ n)) => nM l - n.toNat | _ => 0) (gq_then (Gst.cmp (L := [0, 2]) rfl rfl rfl) (gq_then (Gst.empB (id := 1) (j := 6) (sz := 1) rfl rfl) (Gq.here ?_))) (fun s hs2 => ?_)
 · exact ⟨0, by omega, rfl, by simp [cmp, *, eqEv, be_02, be_124, bins0, bins01, bins02, bprg6, bprg26, bprg56, bprg0, eqpn, eqnn, MT_set10, MT_set11, st_MT10, st_MT11, rnT_c, nlV, nlV.nlL, frzV, frzL, frzO, pExt, encI_len, k2_s, chunk, encI_len, cv53, shp0c, pExt, Prg.cells, ldQ, g1R, obQ, stQ, s1Q, ix3, ia3, ia28, bi3, bs0, bs01, bs02, bs012, bs013, bs014, bs0134, bs01234, bw1, bw2, bw3, ia_u8, ld_u8, encU_len, encR_len, ia_rows, ld_rows, pMM, rn_ptr, rn_sl, rn_any, posOf], by simp [cmp, *, eqEv, be_02, be_124, bins0, bins01, bins02, bprg6, bprg26, bprg56, bprg0, eqpn, eqnn, MT_set10, MT_set11, st_MT10, st_MT11, rnT_c, nlV, nlV.nlL, frzV, frzL, frzO, pExt, encI_len, k2_s, chunk, encI_len, cv53, shp0c, pExt, Prg.cells, ldQ, g1R, obQ, stQ, s1Q, ix3, ia3, ia28, bi3, bs0, bs01, bs02, bs012, bs013, bs014, bs0134, bs01234, bw1, bw2, bw3, ia_u8, ld_u8, encU_len, encR_len, ia_rows, ld_rows, pMM, rn_ptr, rn_sl, rn_any, posOf], by simp [cmp, *, eqEv, be_02, be_124, bins0, bins01, bins02, bprg6, bprg26, bprg56, bprg0, eqpn, eqnn, MT_set10, MT_set11, st_MT10, st_MT11, rnT_c, nlV, nlV.nlL, frzV, frzL, frzO, pExt, encI_len, k2_s, chunk, encI_len, cv53, shp0c, pExt, Prg.cells, ldQ, g1R, obQ, stQ, s1Q, ix3, ia3, ia28, bi3, bs0, bs01, bs02, bs012, bs013, bs014, bs0134, bs01234, bw1, bw2, bw3, ia_u8, ld_u8, encU_len, encR_len, ia_rows, ld_rows, pMM, rn_ptr, rn_sl, rn_any, posOf], by simp [cmp, *, eqEv, be_02, be_124, bins0, bins01, bins02, bprg6, bprg26, bprg56, bprg0, eqpn, eqnn, MT_set10, MT_set11, st_MT10, st_MT11, rnT_c, nlV, nlV.nlL, frzV, frzL, frzO, pExt, encI_len, k2_s, chunk, encI_len, cv53, shp0c, pExt, Prg.cells, ldQ, g1R, obQ, stQ, s1Q, ix3, ia3, ia28, bi3, bs0, bs01, bs02, bs012, bs013, bs014, bs0134, bs01234, bw1, bw2, bw3, ia_u8, ld_u8, encU_len, encR_len, ia_rows, ld_rows, pMM, rn_ptr, rn_sl, rn_any, posOf], by simp [cmp, *, eqEv, be_02, be_124, bins0, bins01, bins02, bprg6, bprg26, bprg56, bprg0, eqpn, eqnn, MT_set10, MT_set11, st_MT10, st_MT11, rnT_c, nlV, nlV.nlL, frzV, frzL, frzO, pExt, encI_len, k2_s, chunk, encI_len, cv53, shp0c, pExt, Prg.cells, ldQ, g1R, obQ, stQ, s1Q, ix3, ia3, ia28, bi3, bs0, bs01, bs02, bs012, bs013, bs014, bs0134, bs01234, bw1, bw2, bw3, ia_u8, ld_u8, encU_len, encR_len, ia_rows, ld_rows, pMM, rn_ptr, rn_sl, rn_any, posOf]⟩
 obtain ⟨A, m⟩ := s
 obtain ⟨i, hi, hm, a0, a2, a3, a4, a5⟩ := hs2
 dsimp only at hm a0 a2 a3 a4 a5
 subst hm
 by_cases hlt : i < nM l
 case neg =>
  have hin : i = nM l := by omega
  subst hin
  clear hlt hi
  repeat' (first
  | refine Awp_sq fun K hK => ?_
  | (refine Awp_reg rfl fun K hK => ?_; simp [*, posOf, frzV_full, fz_c, fz_p, fz_a, fz_n, frzV, frzL, frzO, up_frz])
  | (refine Awp_regD [] rfl rfl fun K hK => ?_; simp [*, posOf, frzV_full, fz_c, fz_p, fz_a, fz_n, frzV, frzL, frzO, up_frz])
  | (refine WG_br (fun h => ?_) (fun h => ?_) <;> (have h' := h; try simp at h'; simp [*, posOf, frzV_full, fz_c, fz_p, fz_a, fz_n, frzV, frzL, frzO, up_frz]))
  | (refine RG_br (fun h => ?_) (fun h => ?_) <;> (have h' := h; try simp at h'; simp [*, posOf, frzV_full, fz_c, fz_p, fz_a, fz_n, frzV, frzL, frzO, up_frz]))
  | (refine wl_litF rfl ?_; try simp [*, posOf, frzV_full, fz_c, fz_p, fz_a, fz_n, frzV, frzL, frzO, up_frz])
  | refine And.intro (by omega) ?_
  | (refine wl_box rfl ?_; simp [*, posOf, frzV_full, fz_c, fz_p, fz_a, fz_n, frzV, frzL, frzO, up_frz])
  | (refine wl_alloc rfl ?_; simp [*, posOf, frzV_full, fz_c, fz_p, fz_a, fz_n, frzV, frzL, frzO, up_frz])
  | (refine wr_box rfl ?_; simp [*, posOf, frzV_full, fz_c, fz_p, fz_a, fz_n, frzV, frzL, frzO, up_frz])
  | (refine wr_alloc rfl ?_; simp [*, posOf, frzV_full, fz_c, fz_p, fz_a, fz_n, frzV, frzL, frzO, up_frz])
  | (refine wl_store ?_; simp [*, posOf, frzV_full, fz_c, fz_p, fz_a, fz_n, frzV, frzL, frzO, up_frz])
  | (refine wr_store ?_; simp [*, posOf, frzV_full, fz_c, fz_p, fz_a, fz_n, frzV, frzL, frzO, up_frz])
  | (show Wl _ _ _ _ _ _; simp [*, posOf, frzV_full, fz_c, fz_p, fz_a, fz_n, frzV, frzL, frzO, up_frz])
  | (show Wr _ _ _ _ _ _ _; simp [*, posOf, frzV_full, fz_c, fz_p, fz_a, fz_n, frzV, frzL, frzO, up_frz])
  | (refine kont hK ?_; clear hK K)
  | refine kont (by assumption) ?_
  | with_reducible refine thenA_n ?_
  | with_reducible refine thenA_r ?_
  | with_reducible refine thenA_e ?_
  | with_reducible refine blockA_n ?_
  | with_reducible refine blockA_r ?_
  | with_reducible refine blockA_e ?_
  | with_reducible refine blockA_o rfl ?_
  | refine Awp_ifT rfl ?_
  | refine Awp_ifF rfl ?_
  | (refine Awp_if rfl (fun h => ?_) (fun h => ?_) <;> ((have h' := h; try simp at h') <;> try (have h2 := h; simp only [decide_eq_false_iff_not] at h2)))
  | with_reducible refine noGo_n ?_
  | with_reducible refine noGo_r ?_
  | with_reducible refine noGo_e ?_
  | with_reducible refine Awp_scope ?_
  | with_reducible refine Awp_label ?_
  | with_reducible refine Awp_ret ?_
  | with_reducible refine Awp_skip ?_
  | with_reducible refine Awp_exit ?_
  | with_reducible refine Awp_block ?_)
  refine gq_frz 2 rfl ?_
  repeat' (first
  | refine Awp_sqG fun K hK => ?_
  | (refine Awp_reg rfl fun K hK => ?_; simp [*, posOf, frzV_full, fz_c, fz_p, fz_a, fz_n, frzV, frzL, frzO, up_frz])
  | (refine Awp_regD [] rfl rfl fun K hK => ?_; simp [*, posOf, frzV_full, fz_c, fz_p, fz_a, fz_n, frzV, frzL, frzO, up_frz])
  | (refine WG_br (fun h => ?_) (fun h => ?_) <;> (have h' := h; try simp at h'; simp [*, posOf, frzV_full, fz_c, fz_p, fz_a, fz_n, frzV, frzL, frzO, up_frz]))
  | (refine RG_br (fun h => ?_) (fun h => ?_) <;> (have h' := h; try simp at h'; simp [*, posOf, frzV_full, fz_c, fz_p, fz_a, fz_n, frzV, frzL, frzO, up_frz]))
  | (refine wl_litF rfl ?_; try simp [*, posOf, frzV_full, fz_c, fz_p, fz_a, fz_n, frzV, frzL, frzO, up_frz])
  | refine Gq.here ?_
  | refine And.intro (by omega) ?_
  | (refine wl_box rfl ?_; simp [*, posOf, frzV_full, fz_c, fz_p, fz_a, fz_n, frzV, frzL, frzO, up_frz])
  | (refine wl_alloc rfl ?_; simp [*, posOf, frzV_full, fz_c, fz_p, fz_a, fz_n, frzV, frzL, frzO, up_frz])
  | (refine wr_box rfl ?_; simp [*, posOf, frzV_full, fz_c, fz_p, fz_a, fz_n, frzV, frzL, frzO, up_frz])
  | (refine wr_alloc rfl ?_; simp [*, posOf, frzV_full, fz_c, fz_p, fz_a, fz_n, frzV, frzL, frzO, up_frz])
  | (refine wl_store ?_; simp [*, posOf, frzV_full, fz_c, fz_p, fz_a, fz_n, frzV, frzL, frzO, up_frz])
  | (refine wr_store ?_; simp [*, posOf, frzV_full, fz_c, fz_p, fz_a, fz_n, frzV, frzL, frzO, up_frz])
  | (show Wl _ _ _ _ _ _; simp [*, posOf, frzV_full, fz_c, fz_p, fz_a, fz_n, frzV, frzL, frzO, up_frz])
  | (show Wr _ _ _ _ _ _ _; simp [*, posOf, frzV_full, fz_c, fz_p, fz_a, fz_n, frzV, frzL, frzO, up_frz])
  | (refine kont hK ?_; clear hK K)
  | refine kont (by assumption) ?_
  | with_reducible refine thenA_n ?_
  | with_reducible refine thenA_r ?_
  | with_reducible refine thenA_e ?_
  | with_reducible refine blockA_n ?_
  | with_reducible refine blockA_r ?_
  | with_reducible refine blockA_e ?_
  | with_reducible refine blockA_o rfl ?_
  | refine Awp_ifT rfl ?_
  | refine Awp_ifF rfl ?_
  | (refine Awp_if rfl (fun h => ?_) (fun h => ?_) <;> ((have h' := h; try simp at h') <;> try (have h2 := h; simp only [decide_eq_false_iff_not] at h2)))
  | with_reducible refine noGo_n ?_
  | with_reducible refine noGo_r ?_
  | with_reducible refine noGo_e ?_
  | with_reducible refine Awp_scope ?_
  | with_reducible refine Awp_label ?_
  | with_reducible refine Awp_ret ?_
  | with_reducible refine Awp_skip ?_
  | with_reducible refine Awp_exit ?_
  | with_reducible refine Awp_block ?_)
  have htk : List.take (nM l) (List.map (encC ∘ codeM l (nM l)) (List.range (nM l))) = List.map (encC ∘ codeM l (nM l)) (List.range (nM l)) := List.take_of_length_le (by simp)
  all_goals (subst hQ; refine endA_rL (x := .agg (makeM l).cells) (y := .agg (makeM l).cells) [] ?_ rfl rfl rfl rfl ⟨rfl, rfl⟩)
  all_goals (simp [resA, resL, resV, *, eqEv, be_02, be_124, bins0, bins01, bins02, bprg6, bprg26, bprg56, bprg0, eqpn, eqnn, MT_set10, MT_set11, st_MT10, st_MT11, rnT_c, nlV, nlV.nlL, frzV, frzL, frzO, pExt, encI_len, k2_s, chunk, encI_len, cv53, shp0c, pExt, Prg.cells, ldQ, g1R, obQ, stQ, s1Q, ix3, ia3, ia28, bi3, bs0, bs01, bs02, bs012, bs013, bs014, bs0134, bs01234, bw1, bw2, bw3, ia_u8, ld_u8, encU_len, encR_len, ia_rows, ld_rows, pMM, rn_ptr, rn_sl, rn_any, posOf, frzV_full, fz_c, fz_p, fz_a, fz_n, frzV, frzL, frzO, up_frz, makeM, encI]; done)
 have hlt' : ((i : Int) < ((nM l : Nat) : Int)) := by omega
 have hwi : IntKind.i64.wrap ((i : Int) + 1) = (i : Int) + 1 := wrap_small (by omega) (by omega)
 have hi1 : i + 1 ≤ nM l := by omega
 have hdi : nM l - (i + 1) < nM l - i := by omega
 have hgo : (List.range i).length + [i].length < 1000000 := by simp; omega
 have hh2 := headM_le (nM l) i
 obtain ⟨r, hrg⟩ : ∃ r, l.getD i [] = r := ⟨_, rfl⟩
 have hm9 := manyM_le r
 have o5 := a5
 clear hlt hi
 repeat' (first
 | with_reducible refine Awp_seqI 7 (R := fun s => s.m = [some (.box [nI 0, nI 0, nI 0, .nl, nI 0, nI 0, .nl]), some (.box [nI 2, nI 1, nI 1, .c (.ls [[ci 1]]), nI 1, nI 1, .sl 2 1 0 i false]), some (.arr 1 (((List.range i).map (codeM l (nM l))).map encC)), some (.arr 4 ((goesL (headM (nM l) i + 1)).map Ins.enc))] ∧ s.A 0 = .c (.ls (encR l)) ∧ s.A 2 = .ptr 0 0 0 ∧ s.A 3 = .ptr 1 0 0 ∧ s.A 4 = nI (nM l) ∧ s.A 5 = nI i ∧ s.A 6 = .sl 3 4 0 (goesL (headM (nM l) i + 1)).length false) (fun K hK => ?_) ?_
 | refine Awp_sq fun K hK => ?_
 | (refine Awp_reg rfl fun K hK => ?_; simp [*, posOf])
 | (refine Awp_regD [] rfl rfl fun K hK => ?_; simp [*, posOf])
 | (refine WG_br (fun h => ?_) (fun h => ?_) <;> (have h' := h; try simp at h'; simp [*, posOf]))
 | (refine RG_br (fun h => ?_) (fun h => ?_) <;> (have h' := h; try simp at h'; simp [*, posOf]))
 | (refine wl_litF rfl ?_; try simp [*, posOf])
 | refine And.intro (by omega) ?_
 | (refine wl_box rfl ?_; simp [*, posOf])
 | (refine wl_alloc rfl ?_; simp [*, posOf])
 | (refine wr_box rfl ?_; simp [*, posOf])
 | (refine wr_alloc rfl ?_; simp [*, posOf])
 | (refine wl_store ?_; simp [*, posOf])
 | (refine wr_store ?_; simp [*, posOf])
 | (show Wl _ _ _ _ _ _; simp [*, posOf])
 | (show Wr _ _ _ _ _ _ _; simp [*, posOf])
 | (refine kont hK ?_; clear hK K)
 | refine kont (by assumption) ?_
 | with_reducible refine thenA_n ?_
 | with_reducible refine thenA_r ?_
 | with_reducible refine thenA_e ?_
 | with_reducible refine blockA_n ?_
 | with_reducible refine blockA_r ?_
 | with_reducible refine blockA_e ?_
 | with_reducible refine blockA_o rfl ?_
 | refine Awp_ifT rfl ?_
 | refine Awp_ifF rfl ?_
 | (refine Awp_if rfl (fun h => ?_) (fun h => ?_) <;> ((have h' := h; try simp at h') <;> try (have h2 := h; simp only [decide_eq_false_iff_not] at h2)))
 | with_reducible refine noGo_n ?_
 | with_reducible refine noGo_r ?_
 | with_reducible refine noGo_e ?_
 | with_reducible refine Awp_scope ?_
 | with_reducible refine Awp_label ?_
 | with_reducible refine Awp_ret ?_
 | with_reducible refine Awp_skip ?_
 | with_reducible refine Awp_exit ?_
 | with_reducible refine Awp_block ?_)
 · refine Awp_loop (fun s => ∃ q : Nat, 1 ≤ q ∧ q ≤ headM (nM l) i + 1 ∧ s.m = [some (.box [nI 0, nI 0, nI 0, .nl, nI 0, nI 0, .nl]), some (.box [nI 2, nI 1, nI 1, .c (.ls [[ci 1]]), nI 1, nI 1, .sl 2 1 0 i false]), some (.arr 1 (((List.range i).map (codeM l (nM l))).map encC)), some (.arr 4 ((goesL q).map Ins.enc))] ∧ s.A 0 = .c (.ls (encR l)) ∧ s.A 2 = .ptr 0 0 0 ∧ s.A 3 = .ptr 1 0 0 ∧ s.A 4 = nI (nM l) ∧ s.A 5 = nI i ∧ s.A 6 = .sl 3 4 0 (goesL q).length false ∧ s.A 7 = nI q) (fun s => match s.A 7 with | .c (.sc (.int _ n)) => headM (nM l) i + 1 - n.toNat | _ => 0) (gq_then (Gst.emp (t := 6) (sz := 4) (by rfl)) (Gq.here ?_)) (fun s hs2 => ?_)
   · refine ⟨1, by omega, by omega, ?_, ?_, ?_, ?_, ?_, ?_, ?_, ?_⟩ <;> simp [*, goesL]
   clear a0 a2 a3 a4 a5
   obtain ⟨A, m⟩ := s
   obtain ⟨q, hq1, hq2, hm, a0, a2, a3, a4, a5, a6, a7⟩ := hs2
   dsimp only at hm a0 a2 a3 a4 a5 a6 a7
   subst hm
   by_cases hlq : q < headM (nM l) i + 1
   case pos =>
    have hi0 : (i : Int) = 0 := by
     unfold headM at hlq
     split at hlq <;> omega
    have hqn : ((q : Int) < ((nM l : Nat) : Int)) := by unfold headM at hlq; split at hlq <;> omega
    have hwq : IntKind.i64.wrap ((q : Int) + 1) = (q : Int) + 1 := wrap_small (by omega) (by omega)
    have hq3 : q + 1 ≤ headM (nM l) i + 1 := by omega
    have hdq : headM (nM l) i + 1 - (q + 1) < headM (nM l) i + 1 - q := by omega
    have hgl : (goesL q).length + [(⟨12, (q : Int), 0, 0⟩ : Ins)].length < 1000000 := by rw [goes_len]; simp; omega
    have hge := goes_s hq1
    clear hlq hq2
    repeat' (first
    | refine Awp_sq fun K hK => ?_
    | (refine Awp_reg rfl fun K hK => ?_; simp [*, posOf])
    | (refine Awp_regD [] rfl rfl fun K hK => ?_; simp [*, posOf])
    | (refine WG_br (fun h => ?_) (fun h => ?_) <;> (have h' := h; try simp at h'; simp [*, posOf]))
    | (refine RG_br (fun h => ?_) (fun h => ?_) <;> (have h' := h; try simp at h'; simp [*, posOf]))
    | (refine wl_litF rfl ?_; try simp [*, posOf])
    | (refine wl_appG (f := Ins.enc) (l1 := goesL q) (l2 := [⟨12, (q : Int), 0, 0⟩]) lk45 rfl lk54 (fun _ _ => rfl) (by decide) (dst_allG rfl) rfl hgl (.inl (by simp)) ?_; try simp [*, posOf])
    | refine And.intro (by omega) ?_
    | (refine wl_box rfl ?_; simp [*, posOf])
    | (refine wl_alloc rfl ?_; simp [*, posOf])
    | (refine wr_box rfl ?_; simp [*, posOf])
    | (refine wr_alloc rfl ?_; simp [*, posOf])
    | (refine wl_store ?_; simp [*, posOf])
    | (refine wr_store ?_; simp [*, posOf])
    | (show Wl _ _ _ _ _ _; simp [*, posOf])
    | (show Wr _ _ _ _ _ _ _; simp [*, posOf])
    | (refine kont hK ?_; clear hK K)
    | refine kont (by assumption) ?_
    | with_reducible refine thenA_n ?_
    | with_reducible refine thenA_r ?_
    | with_reducible refine thenA_e ?_
    | with_reducible refine blockA_n ?_
    | with_reducible refine blockA_r ?_
    | with_reducible refine blockA_e ?_
    | with_reducible refine blockA_o rfl ?_
    | refine Awp_ifT rfl ?_
    | refine Awp_ifF rfl ?_
    | (refine Awp_if rfl (fun h => ?_) (fun h => ?_) <;> ((have h' := h; try simp at h') <;> try (have h2 := h; simp only [decide_eq_false_iff_not] at h2)))
    | with_reducible refine noGo_n ?_
    | with_reducible refine noGo_r ?_
    | with_reducible refine noGo_e ?_
    | with_reducible refine Awp_scope ?_
    | with_reducible refine Awp_label ?_
    | with_reducible refine Awp_ret ?_
    | with_reducible refine Awp_skip ?_
    | with_reducible refine Awp_exit ?_
    | with_reducible refine Awp_block ?_)
    all_goals (refine gq_then (Gst.cmp (L := [0, 1, 2, 5]) rfl rfl rfl) (Gq.here ⟨⟨q + 1, by omega, hq3, ?_, ?_, ?_, ?_, ?_, ?_, ?_, ?_⟩, ?_⟩))
    all_goals first | (simp [cmp, *, eqEv, be_02, be_124, bins0, bins01, bins02, bprg6, bprg26, bprg56, bprg0, eqpn, eqnn, MT_set10, MT_set11, st_MT10, st_MT11, rnT_c, nlV, nlV.nlL, frzV, frzL, frzO, pExt, encI_len, k2_s, chunk, encI_len, cv53, shp0c, pExt, Prg.cells, ldQ, g1R, obQ, stQ, s1Q, ix3, ia3, ia28, bi3, bs0, bs01, bs02, bs012, bs013, bs014, bs0134, bs01234, bw1, bw2, bw3, ia_u8, ld_u8, encU_len, encR_len, ia_rows, ld_rows, pMM, rn_ptr, rn_sl, rn_any, posOf]; done) | (simp [cmp, *, eqEv, be_02, be_124, bins0, bins01, bins02, bprg6, bprg26, bprg56, bprg0, eqpn, eqnn, MT_set10, MT_set11, st_MT10, st_MT11, rnT_c, nlV, nlV.nlL, frzV, frzL, frzO, pExt, encI_len, k2_s, chunk, encI_len, cv53, shp0c, pExt, Prg.cells, ldQ, g1R, obQ, stQ, s1Q, ix3, ia3, ia28, bi3, bs0, bs01, bs02, bs012, bs013, bs014, bs0134, bs01234, bw1, bw2, bw3, ia_u8, ld_u8, encU_len, encR_len, ia_rows, ld_rows, pMM, rn_ptr, rn_sl, rn_any, posOf]; omega)
   have hqe : q = headM (nM l) i + 1 := by omega
   subst hqe
   clear hlq hq1 hq2
   by_cases hi0 : i = 0
   case pos =>
    subst hi0
    have hnl : ¬ ((headM (nM l) 0 : Int) + 1 < ((nM l : Nat) : Int)) := by unfold headM; rw [if_pos rfl]; omega
    repeat' (first
    | refine Awp_sq fun K hK => ?_
    | (refine Awp_reg rfl fun K hK => ?_; simp [*, posOf])
    | (refine Awp_regD [] rfl rfl fun K hK => ?_; simp [*, posOf])
    | (refine WG_br (fun h => ?_) (fun h => ?_) <;> (have h' := h; try simp at h'; simp [*, posOf]))
    | (refine RG_br (fun h => ?_) (fun h => ?_) <;> (have h' := h; try simp at h'; simp [*, posOf]))
    | (refine wl_litF rfl ?_; try simp [*, posOf])
    | refine And.intro (by omega) ?_
    | (refine wl_box rfl ?_; simp [*, posOf])
    | (refine wl_alloc rfl ?_; simp [*, posOf])
    | (refine wr_box rfl ?_; simp [*, posOf])
    | (refine wr_alloc rfl ?_; simp [*, posOf])
    | (refine wl_store ?_; simp [*, posOf])
    | (refine wr_store ?_; simp [*, posOf])
    | (show Wl _ _ _ _ _ _; simp [*, posOf])
    | (show Wr _ _ _ _ _ _ _; simp [*, posOf])
    | (refine kont hK ?_; clear hK K)
    | refine kont (by assumption) ?_
    | with_reducible refine thenA_n ?_
    | with_reducible refine thenA_r ?_
    | with_reducible refine thenA_e ?_
    | with_reducible refine blockA_n ?_
    | with_reducible refine blockA_r ?_
    | with_reducible refine blockA_e ?_
    | with_reducible refine blockA_o rfl ?_
    | refine Awp_ifT rfl ?_
    | refine Awp_ifF rfl ?_
    | (refine Awp_if rfl (fun h => ?_) (fun h => ?_) <;> ((have h' := h; try simp at h') <;> try (have h2 := h; simp only [decide_eq_false_iff_not] at h2)))
    | with_reducible refine noGo_n ?_
    | with_reducible refine noGo_r ?_
    | with_reducible refine noGo_e ?_
    | with_reducible refine Awp_scope ?_
    | with_reducible refine Awp_label ?_
    | with_reducible refine Awp_ret ?_
    | with_reducible refine Awp_skip ?_
    | with_reducible refine Awp_exit ?_
    | with_reducible refine Awp_block ?_)
    all_goals (refine Gq.here ?_; refine ⟨?_, ?_, ?_, ?_, ?_, ?_, ?_⟩ <;> first | (simp [cmp, *, eqEv, be_02, be_124, bins0, bins01, bins02, bprg6, bprg26, bprg56, bprg0, eqpn, eqnn, MT_set10, MT_set11, st_MT10, st_MT11, rnT_c, nlV, nlV.nlL, frzV, frzL, frzO, pExt, encI_len, k2_s, chunk, encI_len, cv53, shp0c, pExt, Prg.cells, ldQ, g1R, obQ, stQ, s1Q, ix3, ia3, ia28, bi3, bs0, bs01, bs02, bs012, bs013, bs014, bs0134, bs01234, bw1, bw2, bw3, ia_u8, ld_u8, encU_len, encR_len, ia_rows, ld_rows, pMM, rn_ptr, rn_sl, rn_any, posOf]; done) | (simp [cmp, *, eqEv, be_02, be_124, bins0, bins01, bins02, bprg6, bprg26, bprg56, bprg0, eqpn, eqnn, MT_set10, MT_set11, st_MT10, st_MT11, rnT_c, nlV, nlV.nlL, frzV, frzL, frzO, pExt, encI_len, k2_s, chunk, encI_len, cv53, shp0c, pExt, Prg.cells, ldQ, g1R, obQ, stQ, s1Q, ix3, ia3, ia28, bi3, bs0, bs01, bs02, bs012, bs013, bs014, bs0134, bs01234, bw1, bw2, bw3, ia_u8, ld_u8, encU_len, encR_len, ia_rows, ld_rows, pMM, rn_ptr, rn_sl, rn_any, posOf]; omega))
   have hi0' : ((i : Int) == 0) = false := by simp; omega
   have hi1' : ¬ ((i : Int) = 0) := by omega
   repeat' (first
   | refine Awp_sq fun K hK => ?_
   | (refine Awp_reg rfl fun K hK => ?_; simp [*, posOf])
   | (refine Awp_regD [] rfl rfl fun K hK => ?_; simp [*, posOf])
   | (refine WG_br (fun h => ?_) (fun h => ?_) <;> (have h' := h; try simp at h'; simp [*, posOf]))
   | (refine RG_br (fun h => ?_) (fun h => ?_) <;> (have h' := h; try simp at h'; simp [*, posOf]))
   | (refine wl_litF rfl ?_; try simp [*, posOf])
   | refine And.intro (by omega) ?_
   | (refine wl_box rfl ?_; simp [*, posOf])
   | (refine wl_alloc rfl ?_; simp [*, posOf])
   | (refine wr_box rfl ?_; simp [*, posOf])
   | (refine wr_alloc rfl ?_; simp [*, posOf])
   | (refine wl_store ?_; simp [*, posOf])
   | (refine wr_store ?_; simp [*, posOf])
   | (show Wl _ _ _ _ _ _; simp [*, posOf])
   | (show Wr _ _ _ _ _ _ _; simp [*, posOf])
   | (refine kont hK ?_; clear hK K)
   | refine kont (by assumption) ?_
   | with_reducible refine thenA_n ?_
   | with_reducible refine thenA_r ?_
   | with_reducible refine thenA_e ?_
   | with_reducible refine blockA_n ?_
   | with_reducible refine blockA_r ?_
   | with_reducible refine blockA_e ?_
   | with_reducible refine blockA_o rfl ?_
   | refine Awp_ifT rfl ?_
   | refine Awp_ifF rfl ?_
   | (refine Awp_if rfl (fun h => ?_) (fun h => ?_) <;> ((have h' := h; try simp at h') <;> try (have h2 := h; simp only [decide_eq_false_iff_not] at h2)))
   | with_reducible refine noGo_n ?_
   | with_reducible refine noGo_r ?_
   | with_reducible refine noGo_e ?_
   | with_reducible refine Awp_scope ?_
   | with_reducible refine Awp_label ?_
   | with_reducible refine Awp_ret ?_
   | with_reducible refine Awp_skip ?_
   | with_reducible refine Awp_exit ?_
   | with_reducible refine Awp_block ?_)
   all_goals (refine Gq.here ?_; refine ⟨?_, ?_, ?_, ?_, ?_, ?_, ?_⟩ <;> first | (simp [cmp, *, eqEv, be_02, be_124, bins0, bins01, bins02, bprg6, bprg26, bprg56, bprg0, eqpn, eqnn, MT_set10, MT_set11, st_MT10, st_MT11, rnT_c, nlV, nlV.nlL, frzV, frzL, frzO, pExt, encI_len, k2_s, chunk, encI_len, cv53, shp0c, pExt, Prg.cells, ldQ, g1R, obQ, stQ, s1Q, ix3, ia3, ia28, bi3, bs0, bs01, bs02, bs012, bs013, bs014, bs0134, bs01234, bw1, bw2, bw3, ia_u8, ld_u8, encU_len, encR_len, ia_rows, ld_rows, pMM, rn_ptr, rn_sl, rn_any, posOf]; done) | (simp [cmp, *, eqEv, be_02, be_124, bins0, bins01, bins02, bprg6, bprg26, bprg56, bprg0, eqpn, eqnn, MT_set10, MT_set11, st_MT10, st_MT11, rnT_c, nlV, nlV.nlL, frzV, frzL, frzO, pExt, encI_len, k2_s, chunk, encI_len, cv53, shp0c, pExt, Prg.cells, ldQ, g1R, obQ, stQ, s1Q, ix3, ia3, ia28, bi3, bs0, bs01, bs02, bs012, bs013, bs014, bs0134, bs01234, bw1, bw2, bw3, ia_u8, ld_u8, encU_len, encR_len, ia_rows, ld_rows, pMM, rn_ptr, rn_sl, rn_any, posOf]; omega))
 clear a0 a2 a3 a4 a5
 intro s hs2
 obtain ⟨A, m⟩ := s
 obtain ⟨hm, a0, a2, a3, a4, a5, a6⟩ := hs2
 dsimp only at hm a0 a2 a3 a4 a5 a6
 subst hm
 have hgl0 : (goesL (headM (nM l) i + 1)).length = headM (nM l) i := by rw [goes_len]; omega
 repeat' (first
 | with_reducible refine Awp_seqI 13 (R := fun s => s.m = [some (.box [nI 0, nI 0, nI 0, .nl, nI 0, nI 0, .nl]), some (.box [nI 2, nI 1, nI 1, .c (.ls [[ci 1]]), nI 1, nI 1, .sl 2 1 0 i false]), some (.arr 1 (((List.range i).map (codeM l (nM l))).map encC)), some (.arr 4 ((goesL (headM (nM l) i + 1)).map Ins.enc))] ∧ s.A 0 = .c (.ls (encR l)) ∧ s.A 2 = .ptr 0 0 0 ∧ s.A 3 = .ptr 1 0 0 ∧ s.A 4 = nI (nM l) ∧ s.A 5 = nI i ∧ s.A 6 = .sl 3 4 0 (goesL (headM (nM l) i + 1)).length false ∧ s.A 8 = nI (headM (nM l) i) ∧ s.A 9 = .c (.ls (encU r))) (fun K hK => ?_) ?_
 | refine Awp_sq fun K hK => ?_
 | (refine Awp_reg rfl fun K hK => ?_; simp [*, posOf])
 | (refine Awp_regD [] rfl rfl fun K hK => ?_; simp [*, posOf])
 | (refine WG_br (fun h => ?_) (fun h => ?_) <;> (have h' := h; try simp at h'; simp [*, posOf]))
 | (refine RG_br (fun h => ?_) (fun h => ?_) <;> (have h' := h; try simp at h'; simp [*, posOf]))
 | (refine wl_litF rfl ?_; try simp [*, posOf])
 | refine And.intro (by omega) ?_
 | (refine wl_box rfl ?_; simp [*, posOf])
 | (refine wl_alloc rfl ?_; simp [*, posOf])
 | (refine wr_box rfl ?_; simp [*, posOf])
 | (refine wr_alloc rfl ?_; simp [*, posOf])
 | (refine wl_store ?_; simp [*, posOf])
 | (refine wr_store ?_; simp [*, posOf])
 | (show Wl _ _ _ _ _ _; simp [*, posOf])
 | (show Wr _ _ _ _ _ _ _; simp [*, posOf])
 | (refine kont hK ?_; clear hK K)
 | refine kont (by assumption) ?_
 | with_reducible refine thenA_n ?_
 | with_reducible refine thenA_r ?_
 | with_reducible refine thenA_e ?_
 | with_reducible refine blockA_n ?_
 | with_reducible refine blockA_r ?_
 | with_reducible refine blockA_e ?_
 | with_reducible refine blockA_o rfl ?_
 | refine Awp_ifT rfl ?_
 | refine Awp_ifF rfl ?_
 | (refine Awp_if rfl (fun h => ?_) (fun h => ?_) <;> ((have h' := h; try simp at h') <;> try (have h2 := h; simp only [decide_eq_false_iff_not] at h2)))
 | with_reducible refine noGo_n ?_
 | with_reducible refine noGo_r ?_
 | with_reducible refine noGo_e ?_
 | with_reducible refine Awp_scope ?_
 | with_reducible refine Awp_label ?_
 | with_reducible refine Awp_ret ?_
 | with_reducible refine Awp_skip ?_
 | with_reducible refine Awp_exit ?_
 | with_reducible refine Awp_block ?_)
 · have hrr : r = l[i] := by rw [← hrg, List.getD_eq_getElem?_getD, List.getElem?_eq_getElem h']; rfl
   clear hrg
   subst hrr
   refine Gq.here ?_
   refine ⟨?_, ?_, ?_, ?_, ?_, ?_, ?_, ?_, ?_⟩ <;> first | (simp [cmp, *, eqEv, be_02, be_124, bins0, bins01, bins02, bprg6, bprg26, bprg56, bprg0, eqpn, eqnn, MT_set10, MT_set11, st_MT10, st_MT11, rnT_c, nlV, nlV.nlL, frzV, frzL, frzO, pExt, encI_len, k2_s, chunk, encI_len, cv53, shp0c, pExt, Prg.cells, ldQ, g1R, obQ, stQ, s1Q, ix3, ia3, ia28, bi3, bs0, bs01, bs02, bs012, bs013, bs014, bs0134, bs01234, bw1, bw2, bw3, ia_u8, ld_u8, encU_len, encR_len, ia_rows, ld_rows, pMM, rn_ptr, rn_sl, rn_any, posOf]; done) | (simp [cmp, *, eqEv, be_02, be_124, bins0, bins01, bins02, bprg6, bprg26, bprg56, bprg0, eqpn, eqnn, MT_set10, MT_set11, st_MT10, st_MT11, rnT_c, nlV, nlV.nlL, frzV, frzL, frzO, pExt, encI_len, k2_s, chunk, encI_len, cv53, shp0c, pExt, Prg.cells, ldQ, g1R, obQ, stQ, s1Q, ix3, ia3, ia28, bi3, bs0, bs01, bs02, bs012, bs013, bs014, bs0134, bs01234, bw1, bw2, bw3, ia_u8, ld_u8, encU_len, encR_len, ia_rows, ld_rows, pMM, rn_ptr, rn_sl, rn_any, posOf]; omega)
 · have hrr : r = [] := by rw [← hrg, List.getD_eq_getElem?_getD, List.getElem?_eq_none h']; rfl
   clear hrg
   subst hrr
   refine gq_nl (Gq.here ?_)
   refine ⟨?_, ?_, ?_, ?_, ?_, ?_, ?_, ?_, ?_⟩ <;> first | (simp [nlV, encU, *, eqEv, be_02, be_124, bins0, bins01, bins02, bprg6, bprg26, bprg56, bprg0, eqpn, eqnn, MT_set10, MT_set11, st_MT10, st_MT11, rnT_c, nlV, nlV.nlL, frzV, frzL, frzO, pExt, encI_len, k2_s, chunk, encI_len, cv53, shp0c, pExt, Prg.cells, ldQ, g1R, obQ, stQ, s1Q, ix3, ia3, ia28, bi3, bs0, bs01, bs02, bs012, bs013, bs014, bs0134, bs01234, bw1, bw2, bw3, ia_u8, ld_u8, encU_len, encR_len, ia_rows, ld_rows, pMM, rn_ptr, rn_sl, rn_any, posOf]; done)
 clear a0 a2 a3 a4 a5 a6
 intro s hs2
 obtain ⟨A, m⟩ := s
 obtain ⟨hm, a0, a2, a3, a4, a5, a6, a8, a9⟩ := hs2
 dsimp only at hm a0 a2 a3 a4 a5 a6 a8 a9
 subst hm
 have hr8 : ∀ x ∈ r, 0 ≤ x ∧ x < 256 := by rw [← hrg]; exact row_in hl8 i
 have hrl : r.length ≤ 9223372036854775807 := by
  rw [← hrg, List.getD_eq_getElem?_getD]
  cases hq : l[i]? with
  | none => decide
  | some r => exact hlr r (List.mem_of_getElem? hq)
 have hmy : min ((r.length : Int) / 2) 9 = ((manyM r : Nat) : Int) := by unfold manyM; omega
 have hmd : (r.length : Int).tdiv 2 = (r.length : Int) / 2 := Int.tdiv_eq_ediv_of_nonneg (by omega)
 have hmw : IntKind.i64.wrap ((r.length : Int) / 2) = (r.length : Int) / 2 := by rw [IntKind.wrap_i64]; omega
 clear hgl0
 repeat' (first
 | with_reducible refine Awp_seqI 16 (R := fun s => s.m = [some (.box [nI 0, nI 0, nI 0, .nl, nI 0, nI 0, .nl]), some (.box [nI 2, nI 1, nI 1, .c (.ls [[ci 1]]), nI 1, nI 1, .sl 2 1 0 i false]), some (.arr 1 (((List.range i).map (codeM l (nM l))).map encC)), none] ∧ s.A 0 = .c (.ls (encR l)) ∧ s.A 2 = .ptr 0 0 0 ∧ s.A 3 = .ptr 1 0 0 ∧ s.A 4 = nI (nM l) ∧ s.A 5 = nI i ∧ s.A 6 = .c (.ls ((codeM l (nM l) i).map Ins.enc))) (fun K hK => ?_) ?_
 | refine Awp_sq fun K hK => ?_
 | (refine Awp_reg rfl fun K hK => ?_; simp [*, posOf])
 | (refine Awp_regD [] rfl rfl fun K hK => ?_; simp [*, posOf])
 | (refine WG_br (fun h => ?_) (fun h => ?_) <;> (have h' := h; try simp at h'; simp [*, posOf]))
 | (refine RG_br (fun h => ?_) (fun h => ?_) <;> (have h' := h; try simp at h'; simp [*, posOf]))
 | (refine wl_litF rfl ?_; try simp [*, posOf])
 | refine And.intro (by omega) ?_
 | (refine wl_box rfl ?_; simp [*, posOf])
 | (refine wl_alloc rfl ?_; simp [*, posOf])
 | (refine wr_box rfl ?_; simp [*, posOf])
 | (refine wr_alloc rfl ?_; simp [*, posOf])
 | (refine wl_store ?_; simp [*, posOf])
 | (refine wr_store ?_; simp [*, posOf])
 | (show Wl _ _ _ _ _ _; simp [*, posOf])
 | (show Wr _ _ _ _ _ _ _; simp [*, posOf])
 | (refine kont hK ?_; clear hK K)
 | refine kont (by assumption) ?_
 | with_reducible refine thenA_n ?_
 | with_reducible refine thenA_r ?_
 | with_reducible refine thenA_e ?_
 | with_reducible refine blockA_n ?_
 | with_reducible refine blockA_r ?_
 | with_reducible refine blockA_e ?_
 | with_reducible refine blockA_o rfl ?_
 | refine Awp_ifT rfl ?_
 | refine Awp_ifF rfl ?_
 | (refine Awp_if rfl (fun h => ?_) (fun h => ?_) <;> ((have h' := h; try simp at h') <;> try (have h2 := h; simp only [decide_eq_false_iff_not] at h2)))
 | with_reducible refine noGo_n ?_
 | with_reducible refine noGo_r ?_
 | with_reducible refine noGo_e ?_
 | with_reducible refine Awp_scope ?_
 | with_reducible refine Awp_label ?_
 | with_reducible refine Awp_ret ?_
 | with_reducible refine Awp_skip ?_
 | with_reducible refine Awp_exit ?_
 | with_reducible refine Awp_block ?_)
 · refine Awp_loop (fun s => ∃ k : Nat, k ≤ manyM r ∧ s.m = [some (.box [nI 0, nI 0, nI 0, .nl, nI 0, nI 0, .nl]), some (.box [nI 2, nI 1, nI 1, .c (.ls [[ci 1]]), nI 1, nI 1, .sl 2 1 0 i false]), some (.arr 1 (((List.range i).map (codeM l (nM l))).map encC)), some (.arr 4 ((preL (nM l) i r k).map Ins.enc))] ∧ s.A 0 = .c (.ls (encR l)) ∧ s.A 2 = .ptr 0 0 0 ∧ s.A 3 = .ptr 1 0 0 ∧ s.A 4 = nI (nM l) ∧ s.A 5 = nI i ∧ s.A 6 = .sl 3 4 0 (preL (nM l) i r k).length false ∧ s.A 8 = nI (headM (nM l) i) ∧ s.A 9 = .c (.ls (encU r)) ∧ s.A 10 = nI (manyM r) ∧ s.A 11 = nI k) (fun s => match s.A 11 with | .c (.sc (.int _ n)) => manyM r - n.toNat | _ => 0) (Gq.here ?_) (fun s hs2 => ?_)
   · refine ⟨0, Nat.zero_le _, ?_, ?_, ?_, ?_, ?_, ?_, ?_, ?_, ?_, ?_, ?_⟩ <;> simp [*, preL_0]
   clear a0 a2 a3 a4 a5 a6 a8 a9
   obtain ⟨A, m⟩ := s
   obtain ⟨k, hk, hm, a0, a2, a3, a4, a5, a6, a8, a9, a10, a11⟩ := hs2
   dsimp only at hm a0 a2 a3 a4 a5 a6 a8 a9 a10 a11
   subst hm
   by_cases hlk : k < manyM r
   case pos =>
    have hkl : ((k : Int) < ((manyM r : Nat) : Int)) := by omega
    have h2k : 2 * k + 1 < r.length := by unfold manyM at hlk; omega
    obtain ⟨a, hxa⟩ : ∃ a, r[2 * k]? = some a := ⟨r[2 * k], by simp [show 2 * k < r.length by omega]⟩
    obtain ⟨b, hxb⟩ : ∃ b, r[2 * k + 1]? = some b := ⟨r[2 * k + 1], by simp [h2k]⟩
    have ha := hr8 a (List.mem_of_getElem? hxa)
    have hb := hr8 b (List.mem_of_getElem? hxb)
    have hxa2 : r[(2 * (k : Int)).toNat]? = some a := by rw [show (2 * (k : Int)).toNat = 2 * k by omega]; exact hxa
    have hxb2 : r[(2 * (k : Int) + 1).toNat]? = some b := by rw [show (2 * (k : Int) + 1).toNat = 2 * k + 1 by omega]; exact hxb
    have hp0 : (0 : Int) ≤ 2 * (k : Int) := by omega
    have hp1 : (0 : Int) ≤ 2 * (k : Int) + 1 := by omega
    have hw2 : IntKind.i64.wrap (2 * (k : Int)) = 2 * (k : Int) := wrap_small (by omega) (by omega)
    have hw3 : IntKind.i64.wrap (2 * (k : Int) + 1) = 2 * (k : Int) + 1 := wrap_small (by omega) (by omega)
    have hw4 : IntKind.i64.wrap (((headM (nM l) i : Nat) : Int) + (k : Int)) = ((headM (nM l) i : Nat) : Int) + (k : Int) := wrap_small (by omega) (by omega)
    have hw5 : IntKind.i64.wrap (((headM (nM l) i : Nat) : Int) + ((manyM r : Nat) : Int)) = ((headM (nM l) i : Nat) : Int) + ((manyM r : Nat) : Int) := wrap_small (by omega) (by omega)
    have hwk : IntKind.i64.wrap ((k : Int) + 1) = (k : Int) + 1 := wrap_small (by omega) (by omega)
    have hat : 0 ≤ (headM (nM l) i : Int) + (k : Int) ∧ (headM (nM l) i : Int) + (k : Int) < 1000 := by omega
    have hnn : 0 ≤ (headM (nM l) i : Int) + (manyM r : Int) ∧ (headM (nM l) i : Int) + (manyM r : Int) < 1000 := by omega
    have hgl : (preL (nM l) i r k).length + [insM a b ((headM (nM l) i : Int) + (k : Int)) ((headM (nM l) i : Int) + (manyM r : Int))].length < 1000000 := by rw [preL_len]; simp; omega
    have hga : r.getD (2 * k) 0 = a := by rw [List.getD_eq_getElem?_getD, hxa]; rfl
    have hgb : r.getD (2 * k + 1) 0 = b := by rw [List.getD_eq_getElem?_getD, hxb]; rfl
    have hie := preL_s (n := nM l) (i := i) hga hgb
    have hk1 : k + 1 ≤ manyM r := by omega
    have hdk : manyM r - (k + 1) < manyM r - k := by omega
    clear hlk hk h2k
    repeat' (first
    | refine Awp_sq fun K hK => ?_
    | (refine Awp_reg rfl fun K hK => ?_; simp [*, posOf])
    | (refine Awp_regD [19] rfl rfl fun K hK => ?_; simp [*, posOf])
    | (refine WG_br (fun h => ?_) (fun h => ?_) <;> (have h' := h; try simp at h'; simp [*, posOf]))
    | (refine RG_br (fun h => ?_) (fun h => ?_) <;> (have h' := h; try simp at h'; simp [*, posOf]))
    | (refine wr_lit1G rfl ?_; try simp [*, posOf])
    | (refine wr_appG (f := Ins.enc) (l1 := preL (nM l) i r k) (l2 := [insM a b ((headM (nM l) i : Int) + (k : Int)) ((headM (nM l) i : Int) + (manyM r : Int))]) lk45 rfl lk54 (fun _ _ => rfl) (by decide) (dst_allG rfl) (src_oneG rfl) hgl (.inl (by simp)) ?_; try simp [*, posOf])
    | (refine call_pq (SI.ins a b ((headM (nM l) i : Int) + (k : Int)) ((headM (nM l) i : Int) + (manyM r : Int)) ha hb hat hnn) rfl rfl ?_; try simp [*, posOf])
    | refine And.intro (by omega) ?_
    | (refine wl_box rfl ?_; simp [*, posOf])
    | (refine wl_alloc rfl ?_; simp [*, posOf])
    | (refine wr_box rfl ?_; simp [*, posOf])
    | (refine wr_alloc rfl ?_; simp [*, posOf])
    | (refine wl_store ?_; simp [*, posOf])
    | (refine wr_store ?_; simp [*, posOf])
    | (show Wl _ _ _ _ _ _; simp [*, posOf])
    | (show Wr _ _ _ _ _ _ _; simp [*, posOf])
    | (refine kont hK ?_; clear hK K)
    | refine kont (by assumption) ?_
    | with_reducible refine thenA_n ?_
    | with_reducible refine thenA_r ?_
    | with_reducible refine thenA_e ?_
    | with_reducible refine blockA_n ?_
    | with_reducible refine blockA_r ?_
    | with_reducible refine blockA_e ?_
    | with_reducible refine blockA_o rfl ?_
    | refine Awp_ifT rfl ?_
    | refine Awp_ifF rfl ?_
    | (refine Awp_if rfl (fun h => ?_) (fun h => ?_) <;> ((have h' := h; try simp at h') <;> try (have h2 := h; simp only [decide_eq_false_iff_not] at h2)))
    | with_reducible refine noGo_n ?_
    | with_reducible refine noGo_r ?_
    | with_reducible refine noGo_e ?_
    | with_reducible refine Awp_scope ?_
    | with_reducible refine Awp_label ?_
    | with_reducible refine Awp_ret ?_
    | with_reducible refine Awp_skip ?_
    | with_reducible refine Awp_exit ?_
    | with_reducible refine Awp_block ?_)
    all_goals (refine gq_then (Gst.cmp (L := [0, 1, 2, 5]) rfl rfl rfl) (Gq.here ⟨⟨k + 1, hk1, ?_, ?_, ?_, ?_, ?_, ?_, ?_, ?_, ?_, ?_, ?_⟩, ?_⟩))
    all_goals first | (simp [cmp, *, eqEv, be_02, be_124, bins0, bins01, bins02, bprg6, bprg26, bprg56, bprg0, eqpn, eqnn, MT_set10, MT_set11, st_MT10, st_MT11, rnT_c, nlV, nlV.nlL, frzV, frzL, frzO, pExt, encI_len, k2_s, chunk, encI_len, cv53, shp0c, pExt, Prg.cells, ldQ, g1R, obQ, stQ, s1Q, ix3, ia3, ia28, bi3, bs0, bs01, bs02, bs012, bs013, bs014, bs0134, bs01234, bw1, bw2, bw3, ia_u8, ld_u8, encU_len, encR_len, ia_rows, ld_rows, pMM, rn_ptr, rn_sl, rn_any, posOf]; done) | (simp [cmp, *, eqEv, be_02, be_124, bins0, bins01, bins02, bprg6, bprg26, bprg56, bprg0, eqpn, eqnn, MT_set10, MT_set11, st_MT10, st_MT11, rnT_c, nlV, nlV.nlL, frzV, frzL, frzO, pExt, encI_len, k2_s, chunk, encI_len, cv53, shp0c, pExt, Prg.cells, ldQ, g1R, obQ, stQ, s1Q, ix3, ia3, ia28, bi3, bs0, bs01, bs02, bs012, bs013, bs014, bs0134, bs01234, bw1, bw2, bw3, ia_u8, ld_u8, encU_len, encR_len, ia_rows, ld_rows, pMM, rn_ptr, rn_sl, rn_any, posOf]; omega)
   have hke : k = manyM r := by omega
   subst hke
   have hcod : codeM l (nM l) i = preL (nM l) i r (manyM r) := by unfold codeM preL; rw [hrg]
   rw [← hcod] at a6 ⊢
   clear hlk hk hcod
   repeat' (first
   | refine Awp_sq fun K hK => ?_
   | (refine Awp_reg rfl fun K hK => ?_; simp [*, posOf])
   | (refine Awp_regD [] rfl rfl fun K hK => ?_; simp [*, posOf])
   | (refine WG_br (fun h => ?_) (fun h => ?_) <;> (have h' := h; try simp at h'; simp [*, posOf]))
   | (refine RG_br (fun h => ?_) (fun h => ?_) <;> (have h' := h; try simp at h'; simp [*, posOf]))
   | (refine wl_litF rfl ?_; try simp [*, posOf])
   | refine And.intro (by omega) ?_
   | (refine wl_box rfl ?_; simp [*, posOf])
   | (refine wl_alloc rfl ?_; simp [*, posOf])
   | (refine wr_box rfl ?_; simp [*, posOf])
   | (refine wr_alloc rfl ?_; simp [*, posOf])
   | (refine wl_store ?_; simp [*, posOf])
   | (refine wr_store ?_; simp [*, posOf])
   | (show Wl _ _ _ _ _ _; simp [*, posOf])
   | (show Wr _ _ _ _ _ _ _; simp [*, posOf])
   | (refine kont hK ?_; clear hK K)
   | refine kont (by assumption) ?_
   | with_reducible refine thenA_n ?_
   | with_reducible refine thenA_r ?_
   | with_reducible refine thenA_e ?_
   | with_reducible refine blockA_n ?_
   | with_reducible refine blockA_r ?_
   | with_reducible refine blockA_e ?_
   | with_reducible refine blockA_o rfl ?_
   | refine Awp_ifT rfl ?_
   | refine Awp_ifF rfl ?_
   | (refine Awp_if rfl (fun h => ?_) (fun h => ?_) <;> ((have h' := h; try simp at h') <;> try (have h2 := h; simp only [decide_eq_false_iff_not] at h2)))
   | with_reducible refine noGo_n ?_
   | with_reducible refine noGo_r ?_
   | with_reducible refine noGo_e ?_
   | with_reducible refine Awp_scope ?_
   | with_reducible refine Awp_label ?_
   | with_reducible refine Awp_ret ?_
   | with_reducible refine Awp_skip ?_
   | with_reducible refine Awp_exit ?_
   | with_reducible refine Awp_block ?_)
   all_goals (refine gq_frz 3 rfl ?_)
   all_goals (refine ⟨?_, ?_, ?_, ?_, ?_, ?_, ?_⟩ <;> first | (simp [*, posOf, frzV_full, fz_c, fz_p, fz_a, fz_n, frzV, frzL, frzO, up_frz]; done))
 clear a0 a2 a3 a4 a5 a6 a8 a9
 intro s hs2
 obtain ⟨A, m⟩ := s
 obtain ⟨hm, a0, a2, a3, a4, a5, a6⟩ := hs2
 dsimp only at hm a0 a2 a3 a4 a5 a6
 subst hm
 repeat' (first
 | refine Awp_sq fun K hK => ?_
 | (refine Awp_reg rfl fun K hK => ?_; simp [*, posOf, frzV_full, fz_c, fz_p, fz_a, fz_n, frzV, frzL, frzO, up_frz])
 | (refine Awp_regD [] rfl rfl fun K hK => ?_; simp [*, posOf, frzV_full, fz_c, fz_p, fz_a, fz_n, frzV, frzL, frzO, up_frz])
 | (refine WG_br (fun h => ?_) (fun h => ?_) <;> (have h' := h; try simp at h'; simp [*, posOf, frzV_full, fz_c, fz_p, fz_a, fz_n, frzV, frzL, frzO, up_frz]))
 | (refine RG_br (fun h => ?_) (fun h => ?_) <;> (have h' := h; try simp at h'; simp [*, posOf, frzV_full, fz_c, fz_p, fz_a, fz_n, frzV, frzL, frzO, up_frz]))
 | (refine wl_litF rfl ?_; try simp [*, posOf, frzV_full, fz_c, fz_p, fz_a, fz_n, frzV, frzL, frzO, up_frz])
 | (refine wl_appG (f := encC ∘ codeM l (nM l)) (l1 := List.range i) (l2 := [i]) lk24 rfl lk45 (fun _ _ => rfl) (by decide) (dst_allG' (by simp) rfl) rfl hgo (.inl (by simp)) ?_; try simp [*, posOf, frzV_full, fz_c, fz_p, fz_a, fz_n, frzV, frzL, frzO, up_frz])
 | refine And.intro (by omega) ?_
 | (refine wl_box rfl ?_; simp [*, posOf, frzV_full, fz_c, fz_p, fz_a, fz_n, frzV, frzL, frzO, up_frz])
 | (refine wl_alloc rfl ?_; simp [*, posOf, frzV_full, fz_c, fz_p, fz_a, fz_n, frzV, frzL, frzO, up_frz])
 | (refine wr_box rfl ?_; simp [*, posOf, frzV_full, fz_c, fz_p, fz_a, fz_n, frzV, frzL, frzO, up_frz])
 | (refine wr_alloc rfl ?_; simp [*, posOf, frzV_full, fz_c, fz_p, fz_a, fz_n, frzV, frzL, frzO, up_frz])
 | (refine wl_store ?_; simp [*, posOf, frzV_full, fz_c, fz_p, fz_a, fz_n, frzV, frzL, frzO, up_frz])
 | (refine wr_store ?_; simp [*, posOf, frzV_full, fz_c, fz_p, fz_a, fz_n, frzV, frzL, frzO, up_frz])
 | (show Wl _ _ _ _ _ _; simp [*, posOf, frzV_full, fz_c, fz_p, fz_a, fz_n, frzV, frzL, frzO, up_frz])
 | (show Wr _ _ _ _ _ _ _; simp [*, posOf, frzV_full, fz_c, fz_p, fz_a, fz_n, frzV, frzL, frzO, up_frz])
 | (refine kont hK ?_; clear hK K)
 | refine kont (by assumption) ?_
 | with_reducible refine thenA_n ?_
 | with_reducible refine thenA_r ?_
 | with_reducible refine thenA_e ?_
 | with_reducible refine blockA_n ?_
 | with_reducible refine blockA_r ?_
 | with_reducible refine blockA_e ?_
 | with_reducible refine blockA_o rfl ?_
 | refine Awp_ifT rfl ?_
 | refine Awp_ifF rfl ?_
 | (refine Awp_if rfl (fun h => ?_) (fun h => ?_) <;> ((have h' := h; try simp at h') <;> try (have h2 := h; simp only [decide_eq_false_iff_not] at h2)))
 | with_reducible refine noGo_n ?_
 | with_reducible refine noGo_r ?_
 | with_reducible refine noGo_e ?_
 | with_reducible refine Awp_scope ?_
 | with_reducible refine Awp_label ?_
 | with_reducible refine Awp_ret ?_
 | with_reducible refine Awp_skip ?_
 | with_reducible refine Awp_exit ?_
 | with_reducible refine Awp_block ?_)
 all_goals (refine gq_then (Gst.cmp (L := [0, 1, 5]) rfl rfl rfl) (Gq.here ⟨⟨i + 1, hi1, ?_, ?_, ?_, ?_, ?_, ?_⟩, ?_⟩))
 all_goals first | (simp [cmp, *, eqEv, be_02, be_124, bins0, bins01, bins02, bprg6, bprg26, bprg56, bprg0, eqpn, eqnn, MT_set10, MT_set11, st_MT10, st_MT11, rnT_c, nlV, nlV.nlL, frzV, frzL, frzO, pExt, encI_len, k2_s, chunk, encI_len, cv53, shp0c, pExt, Prg.cells, ldQ, g1R, obQ, stQ, s1Q, ix3, ia3, ia28, bi3, bs0, bs01, bs02, bs012, bs013, bs014, bs0134, bs01234, bw1, bw2, bw3, ia_u8, ld_u8, encU_len, encR_len, ia_rows, ld_rows, pMM, rn_ptr, rn_sl, rn_any, posOf, List.range_succ]; done) | (simp [cmp, *, eqEv, be_02, be_124, bins0, bins01, bins02, bprg6, bprg26, bprg56, bprg0, eqpn, eqnn, MT_set10, MT_set11, st_MT10, st_MT11, rnT_c, nlV, nlV.nlL, frzV, frzL, frzO, pExt, encI_len, k2_s, chunk, encI_len, cv53, shp0c, pExt, Prg.cells, ldQ, g1R, obQ, stQ, s1Q, ix3, ia3, ia28, bi3, bs0, bs01, bs02, bs012, bs013, bs014, bs0134, bs01234, bw1, bw2, bw3, ia_u8, ld_u8, encU_len, encR_len, ia_rows, ld_rows, pMM, rn_ptr, rn_sl, rn_any, posOf]; omega)

end Go.Proofs.YtogfcpaalcebdaaE
