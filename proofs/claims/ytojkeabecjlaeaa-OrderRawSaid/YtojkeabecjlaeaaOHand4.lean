/- Is one event of a trace ahead of another one by one of the rules: what the method answers. -/
import Derived.Test.YtojkeabecjlaeaaXBits
import Derived.Test.YtojkeabecjlaeaaOHand3
import Derived.Laws.EntriesVeiled
namespace Go.Proofs.Ytojkeabecjlaeaa.P
open Go.RowKit Go.Proofs.YtojkeabecjlaeaaW.PrintWords Go.Proofs.YtojkeabecjlaeaaW.PrintLast Go.Proofs.YtojkeabecjlaeaaW.PrintMore Go.Proofs.YtojkeabecjlaeaaX
set_option linter.unusedVariables false
set_option linter.unusedSimpArgs false
def anyR (c : List Int) (a b : S24) (i : Int) (pi pj lj : Int) : Bool :=
 [a.f2 == 14 && (b.f2 == 13 || b.f2 == 15), a.f2 == 16 && b.f2 == 13, (b.f2 == 17 || b.f2 == 19) && lj == i, a.f2 == 20 && takesB b && pi == pj, takesB a && b.f2 == 20 && wrap64 (pi + roomB c a.f3) == pj, a.f2 == 23 && (b.f2 == 21 || b.f2 == 22) && b.f5 == 2, a.f2 == 24 && decide (a.f4 < 0) && b.f2 == 25, a.f2 == 27 && b.f2 == 26 && b.f5 == 0].any id
def dirW (c : List Int) (a b : S24) (i : Int) (pi pj lj : Int) : Bool :=
 if (a.f0 == b.f0 || a.f2 == 12 && a.f3 == b.f0) = true then true
 else a.f3 == b.f3 && anyR c a b i pi pj lj
def put6 (w : World) (g : Nat) (e : S24) : World :=
 (((((w.setCell ⟨g, 0, none⟩ (.int .i64 e.f0)).setCell ⟨g, 1, none⟩ (.int .i64 e.f1)).setCell ⟨g, 2, none⟩ (.int .u8 e.f2)).setCell ⟨g, 3, none⟩ (.int .i64 e.f3)).setCell ⟨g, 4, none⟩ (.int .i64 e.f4)).setCell ⟨g, 5, none⟩ (.int .i64 e.f5)
theorem put6_ev {w : World} {g : Nat} {e : S24} (h : w.heap[g]? = some (.cells #[.int .i64 0, .int .i64 0, .int .u8 0, .int .i64 0, .int .i64 0, .int .i64 0] 24 (0, 0))) : EvAt (put6 w g e) g e := by
 have h1 := blk_set h 0 (.int .i64 e.f0)
 have h2 := blk_set h1 1 (.int .i64 e.f1)
 have h3 := blk_set h2 2 (.int .u8 e.f2)
 have h4 := blk_set h3 3 (.int .i64 e.f3)
 have h5 := blk_set h4 4 (.int .i64 e.f4)
 exact (blk_set h5 5 (.int .i64 e.f5)).trans rfl
theorem put6_far {w : World} {g k : Nat} {e : S24} {cs : Array Value} {t : TypeId} (h : w.heap[k]? = some (.cells cs t (0, 0))) (hne : k ≠ g) : (put6 w g e).heap[k]? = some (.cells cs t (0, 0)) :=
 blk_far (blk_far (blk_far (blk_far (blk_far (blk_far h (p := ⟨g, 0, none⟩) hne _) (p := ⟨g, 1, none⟩) hne _) (p := ⟨g, 2, none⟩) hne _) (p := ⟨g, 3, none⟩) hne _) (p := ⟨g, 4, none⟩) hne _) (p := ⟨g, 5, none⟩) hne _
theorem put6_below {w W : World} {g : Nat} {e : S24} (h : Below w.heap.size w W) (hg : w.heap.size ≤ g) : Below w.heap.size w (put6 W g e) :=
 below_set (below_set (below_set (below_set (below_set (below_set h hg) hg) hg) hg) hg) hg
theorem put6_cell {w : World} {g : Nat} {e : S24} {p : Addr} {v : Value} (h : w.cell? p = some v) (hne : p.block ≠ g) : (put6 w g e).cell? p = some v := by
 unfold put6
 rw [cell_far (p := ⟨g, 5, none⟩) hne, cell_far (p := ⟨g, 4, none⟩) hne, cell_far (p := ⟨g, 3, none⟩) hne, cell_far (p := ⟨g, 2, none⟩) hne, cell_far (p := ⟨g, 1, none⟩) hne, cell_far (p := ⟨g, 0, none⟩) hne]
 exact h
def put8 (w : World) (g : Nat) (v0 v1 v2 v3 v4 v5 v6 v7 : Value) : World :=
 (((((((w.setCell ⟨g, 0, none⟩ v0).setCell ⟨g, 1, none⟩ v1).setCell ⟨g, 2, none⟩ v2).setCell ⟨g, 3, none⟩ v3).setCell ⟨g, 4, none⟩ v4).setCell ⟨g, 5, none⟩ v5).setCell ⟨g, 6, none⟩ v6).setCell ⟨g, 7, none⟩ v7
theorem put8_blk {w : World} {g : Nat} {t : TypeId} {z0 z1 z2 z3 z4 z5 z6 z7 v0 v1 v2 v3 v4 v5 v6 v7 : Value} (h : w.heap[g]? = some (.cells #[z0, z1, z2, z3, z4, z5, z6, z7] t (0, 0))) : (put8 w g v0 v1 v2 v3 v4 v5 v6 v7).heap[g]? = some (.cells #[v0, v1, v2, v3, v4, v5, v6, v7] t (0, 0)) := by
 have h1 : (w.setCell ⟨g, 0, none⟩ v0).heap[g]? = some (.cells #[v0, z1, z2, z3, z4, z5, z6, z7] t (0, 0)) := (blk_set h 0 v0).trans rfl
 have h2 : ((w.setCell ⟨g, 0, none⟩ v0).setCell ⟨g, 1, none⟩ v1).heap[g]? = some (.cells #[v0, v1, z2, z3, z4, z5, z6, z7] t (0, 0)) := (blk_set h1 1 v1).trans rfl
 have h3 : (((w.setCell ⟨g, 0, none⟩ v0).setCell ⟨g, 1, none⟩ v1).setCell ⟨g, 2, none⟩ v2).heap[g]? = some (.cells #[v0, v1, v2, z3, z4, z5, z6, z7] t (0, 0)) := (blk_set h2 2 v2).trans rfl
 have h4 : ((((w.setCell ⟨g, 0, none⟩ v0).setCell ⟨g, 1, none⟩ v1).setCell ⟨g, 2, none⟩ v2).setCell ⟨g, 3, none⟩ v3).heap[g]? = some (.cells #[v0, v1, v2, v3, z4, z5, z6, z7] t (0, 0)) := (blk_set h3 3 v3).trans rfl
 have h5 : (((((w.setCell ⟨g, 0, none⟩ v0).setCell ⟨g, 1, none⟩ v1).setCell ⟨g, 2, none⟩ v2).setCell ⟨g, 3, none⟩ v3).setCell ⟨g, 4, none⟩ v4).heap[g]? = some (.cells #[v0, v1, v2, v3, v4, z5, z6, z7] t (0, 0)) := (blk_set h4 4 v4).trans rfl
 have h6 : ((((((w.setCell ⟨g, 0, none⟩ v0).setCell ⟨g, 1, none⟩ v1).setCell ⟨g, 2, none⟩ v2).setCell ⟨g, 3, none⟩ v3).setCell ⟨g, 4, none⟩ v4).setCell ⟨g, 5, none⟩ v5).heap[g]? = some (.cells #[v0, v1, v2, v3, v4, v5, z6, z7] t (0, 0)) := (blk_set h5 5 v5).trans rfl
 have h7 : (((((((w.setCell ⟨g, 0, none⟩ v0).setCell ⟨g, 1, none⟩ v1).setCell ⟨g, 2, none⟩ v2).setCell ⟨g, 3, none⟩ v3).setCell ⟨g, 4, none⟩ v4).setCell ⟨g, 5, none⟩ v5).setCell ⟨g, 6, none⟩ v6).heap[g]? = some (.cells #[v0, v1, v2, v3, v4, v5, v6, z7] t (0, 0)) := (blk_set h6 6 v6).trans rfl
 exact (blk_set h7 7 v7).trans rfl
theorem put8_below {w W : World} {g : Nat} {v0 v1 v2 v3 v4 v5 v6 v7 : Value} (h : Below w.heap.size w W) (hg : w.heap.size ≤ g) : Below w.heap.size w (put8 W g v0 v1 v2 v3 v4 v5 v6 v7) :=
 below_set (below_set (below_set (below_set (below_set (below_set (below_set (below_set h hg) hg) hg) hg) hg) hg) hg) hg
set_option maxHeartbeats 2000000 in
theorem rules_any (W w7 w9 : World) (g ga gb gt gi gj gR : Nat) (a b : S24) (i j : Nat) (pl la c : List Int) (xi xj yj : Int) (hxi : pl.getD i 0 = xi) (hxj : pl.getD j 0 = xj) (hyj : la.getD j 0 = yj) (hi : i < pl.length) (hj : j < pl.length) (hjl : j < la.length)
 (hEa : EvAt w7 ga a) (hEb : EvAt w7 gb b) (hT7 : TrAt w7 g pl la c) (hct7 : w7.cell? ⟨gt, 0, none⟩ = some (.pointer (some ⟨g, 0, none⟩))) (hci7 : w7.cell? ⟨gi, 0, none⟩ = some (.int .i64 (i : Int))) (hcj7 : w7.cell? ⟨gj, 0, none⟩ = some (.int .i64 (j : Int)))
 (hB79 : Below w7.heap.size w7 w9) (hR9 : w9.heap[gR]? = some (.cells #[.func (.func 45) #[] #[.pointer (some ⟨ga, 0, none⟩), .pointer (some ⟨gb, 0, none⟩)], .func (.func 46) #[] #[.pointer (some ⟨ga, 0, none⟩), .pointer (some ⟨gb, 0, none⟩)], .func (.func 47) #[] #[.pointer (some ⟨gb, 0, none⟩), .pointer (some ⟨gt, 0, none⟩), .pointer (some ⟨gj, 0, none⟩), .pointer (some ⟨gi, 0, none⟩)], .func (.func 48) #[] #[.pointer (some ⟨ga, 0, none⟩), .pointer (some ⟨gb, 0, none⟩), .pointer (some ⟨gt, 0, none⟩), .pointer (some ⟨gi, 0, none⟩), .pointer (some ⟨gj, 0, none⟩)], .func (.func 49) #[] #[.pointer (some ⟨ga, 0, none⟩), .pointer (some ⟨gb, 0, none⟩), .pointer (some ⟨gt, 0, none⟩), .pointer (some ⟨gi, 0, none⟩), .pointer (some ⟨gj, 0, none⟩)], .func (.func 51) #[] #[.pointer (some ⟨ga, 0, none⟩), .pointer (some ⟨gb, 0, none⟩)], .func (.func 52) #[] #[.pointer (some ⟨ga, 0, none⟩), .pointer (some ⟨gb, 0, none⟩)], .func (.func 53) #[] #[.pointer (some ⟨ga, 0, none⟩), .pointer (some ⟨gb, 0, none⟩)]] 87 (0, 0))) :
 Calls Try.prog 54 #[.slice (some ⟨gR, 0, none⟩) 8 8, .func (.func 55) #[] #[]] w9 fun e w' => e = .returned (.bool (anyR c a b (i : Int) xi xj yj)) ∧ Below w9.heap.size w9 w' := by
 have HEa := Aside0.mk hEa
 have HEb := Aside0.mk hEb
 have HT7 := Aside0.mk hT7
 have HB79 := Aside0.mk hB79
 have HR9 := Aside0.mk hR9
 have HXi := Aside0.mk hxi
 have HXj := Aside0.mk hxj
 have HYj := Aside0.mk hyj
 have H1 := Aside0.mk hi
 have H2 := Aside0.mk hj
 have H3 := Aside0.mk hjl
 refine any_funcs w9 ⟨gR, 0, none⟩ [.func (.func 45) #[] #[.pointer (some ⟨ga, 0, none⟩), .pointer (some ⟨gb, 0, none⟩)], .func (.func 46) #[] #[.pointer (some ⟨ga, 0, none⟩), .pointer (some ⟨gb, 0, none⟩)], .func (.func 47) #[] #[.pointer (some ⟨gb, 0, none⟩), .pointer (some ⟨gt, 0, none⟩), .pointer (some ⟨gj, 0, none⟩), .pointer (some ⟨gi, 0, none⟩)], .func (.func 48) #[] #[.pointer (some ⟨ga, 0, none⟩), .pointer (some ⟨gb, 0, none⟩), .pointer (some ⟨gt, 0, none⟩), .pointer (some ⟨gi, 0, none⟩), .pointer (some ⟨gj, 0, none⟩)], .func (.func 49) #[] #[.pointer (some ⟨ga, 0, none⟩), .pointer (some ⟨gb, 0, none⟩), .pointer (some ⟨gt, 0, none⟩), .pointer (some ⟨gi, 0, none⟩), .pointer (some ⟨gj, 0, none⟩)], .func (.func 51) #[] #[.pointer (some ⟨ga, 0, none⟩), .pointer (some ⟨gb, 0, none⟩)], .func (.func 52) #[] #[.pointer (some ⟨ga, 0, none⟩), .pointer (some ⟨gb, 0, none⟩)], .func (.func 53) #[] #[.pointer (some ⟨ga, 0, none⟩), .pointer (some ⟨gb, 0, none⟩)]] [a.f2 == 14 && (b.f2 == 13 || b.f2 == 15), a.f2 == 16 && b.f2 == 13, (b.f2 == 17 || b.f2 == 19) && yj == (i : Int), a.f2 == 20 && takesB b && xi == xj, takesB a && b.f2 == 20 && wrap64 (xi + roomB c a.f3) == xj, a.f2 == 23 && (b.f2 == 21 || b.f2 == 22) && b.f5 == 2, a.f2 == 24 && decide (a.f4 < 0) && b.f2 == 25, a.f2 == 27 && b.f2 == 26 && b.f5 == 0] 8 rfl (Nat.le_of_ble_eq_true rfl) ?_ ?_
 · intro k hk
   have hk' : k = 0 ∨ k = 1 ∨ k = 2 ∨ k = 3 ∨ k = 4 ∨ k = 5 ∨ k = 6 ∨ k = 7 := by simp only [List.length_cons, List.length_nil] at hk; omega
   rcases hk' with rfl | rfl | rfl | rfl | rfl | rfl | rfl | rfl
   · exact ⟨_, _, _, rfl, Try.func45, (by kernel_rfl), rfl, fun W1 hW => (rule1 W1 ga gb a b ((HEa.out.below HB79.out).below hW) ((HEb.out.below HB79.out).below hW)).mono fun e w' h => ⟨h.1, h.2 ▸ Below.refl _ _⟩⟩
   · exact ⟨_, _, _, rfl, Try.func46, (by kernel_rfl), rfl, fun W1 hW => (rule2 W1 ga gb a b ((HEa.out.below HB79.out).below hW) ((HEb.out.below HB79.out).below hW)).mono fun e w' h => ⟨h.1, h.2 ▸ Below.refl _ _⟩⟩
   · exact ⟨_, _, _, rfl, Try.func47, (by kernel_rfl), rfl, fun W1 hW => (by have h_ := rule3 W1 gb gt gi gj g b i j pl la c ((HEb.out.below HB79.out).below hW) (pw_cell_below hW (pw_cell_below HB79.out hct7)) (pw_cell_below hW (pw_cell_below HB79.out hci7)) (pw_cell_below hW (pw_cell_below HB79.out hcj7)) ((HT7.out.below HB79.out).below hW) H3.out; rw [HYj.out] at h_; exact h_)⟩
   · exact ⟨_, _, _, rfl, Try.func48, (by kernel_rfl), rfl, fun W1 hW => (by have h_ := rule4 W1 ga gb gt gi gj g a b i j pl la c ((HEa.out.below HB79.out).below hW) ((HEb.out.below HB79.out).below hW) (pw_cell_below hW (pw_cell_below HB79.out hct7)) (pw_cell_below hW (pw_cell_below HB79.out hci7)) (pw_cell_below hW (pw_cell_below HB79.out hcj7)) ((HT7.out.below HB79.out).below hW) H1.out H2.out; rw [HXi.out, HXj.out] at h_; exact h_)⟩
   · exact ⟨_, _, _, rfl, Try.func49, (by kernel_rfl), rfl, fun W1 hW => (by have h_ := rule5 W1 ga gb gt gi gj g a b i j pl la c ((HEa.out.below HB79.out).below hW) ((HEb.out.below HB79.out).below hW) (pw_cell_below hW (pw_cell_below HB79.out hct7)) (pw_cell_below hW (pw_cell_below HB79.out hci7)) (pw_cell_below hW (pw_cell_below HB79.out hcj7)) ((HT7.out.below HB79.out).below hW) H1.out H2.out; rw [HXi.out, HXj.out] at h_; exact h_)⟩
   · exact ⟨_, _, _, rfl, Try.func51, (by kernel_rfl), rfl, fun W1 hW => (rule6 W1 ga gb a b ((HEa.out.below HB79.out).below hW) ((HEb.out.below HB79.out).below hW)).mono fun e w' h => ⟨h.1, h.2 ▸ Below.refl _ _⟩⟩
   · exact ⟨_, _, _, rfl, Try.func52, (by kernel_rfl), rfl, fun W1 hW => (rule7 W1 ga gb a b ((HEa.out.below HB79.out).below hW) ((HEb.out.below HB79.out).below hW)).mono fun e w' h => ⟨h.1, h.2 ▸ Below.refl _ _⟩⟩
   · exact ⟨_, _, _, rfl, Try.func53, (by kernel_rfl), rfl, fun W1 hW => (rule8 W1 ga gb a b ((HEa.out.below HB79.out).below hW) ((HEb.out.below HB79.out).below hW)).mono fun e w' h => ⟨h.1, h.2 ▸ Below.refl _ _⟩⟩
 · intro k hk
   have hk' : k = 0 ∨ k = 1 ∨ k = 2 ∨ k = 3 ∨ k = 4 ∨ k = 5 ∨ k = 6 ∨ k = 7 := by simp only [List.length_cons, List.length_nil] at hk; omega
   rw [add_plain]
   rcases hk' with rfl | rfl | rfl | rfl | rfl | rfl | rfl | rfl
   · exact (blk_cell HR9.out 0).trans rfl
   · exact (blk_cell HR9.out 1).trans rfl
   · exact (blk_cell HR9.out 2).trans rfl
   · exact (blk_cell HR9.out 3).trans rfl
   · exact (blk_cell HR9.out 4).trans rfl
   · exact (blk_cell HR9.out 5).trans rfl
   · exact (blk_cell HR9.out 6).trans rfl
   · exact (blk_cell HR9.out 7).trans rfl
set_option maxHeartbeats 4000000 in
set_option maxRecDepth 100000 in
theorem direct_any (W : World) (g : Nat) (t : List S24) (pl la c : List Int) (A1 : Option Addr) (c1 i j : Nat) (hT : TrAt W g pl la c) (h7 : W.cell? ⟨g, 7, none⟩ = some (.slice A1 t.length c1)) (hE : Kd.C k24 W A1 t.length t)
 (hi : i < t.length) (hj : j < t.length) (hpl : pl.length = t.length) (hla : la.length = t.length) (hm : t.length ≤ 1000000000) :
 Calls Try.prog 32 #[.pointer (some ⟨g, 0, none⟩), .int .i64 (i : Int), .int .i64 (j : Int)] W fun e w' => e = .returned (.bool (dirW c (t.getD i z24) (t.getD j z24) (i : Int) (pl.getD i 0) (pl.getD j 0) (la.getD j 0))) ∧ Below W.heap.size W w' := by
 obtain ⟨ad, e, hx0, hx1, hx2, hx3, hx4, hx5⟩ := at_T24 hE (i : Int) (by omega) (by omega)
 subst e
 obtain ⟨ad', e, hy0, hy1, hy2, hy3, hy4, hy5⟩ := at_T24 hE (j : Int) (by omega) (by omega)
 cases e
 simp only [rd_T24, Int.toNat_natCast] at hx0 hx1 hx2 hx3 hx4 hx5 hy0 hy1 hy2 hy3 hy4 hy5
 obtain ⟨a, ha⟩ : ∃ a, t.getD i z24 = a := ⟨_, rfl⟩
 obtain ⟨b, hb⟩ : ∃ b, t.getD j z24 = b := ⟨_, rfl⟩
 obtain ⟨xi, hxi⟩ : ∃ x, pl.getD i 0 = x := ⟨_, rfl⟩
 obtain ⟨xj, hxj⟩ : ∃ x, pl.getD j 0 = x := ⟨_, rfl⟩
 obtain ⟨yj, hyj⟩ : ∃ x, la.getD j 0 = x := ⟨_, rfl⟩
 rw [ha] at hx0 hx1 hx2 hx3 hx4 hx5
 rw [hb] at hy0 hy1 hy2 hy3 hy4 hy5
 rw [ha, hb, hxi, hxj, hyj]
 have q1 : (0 : Int) ≤ (i : Int) := by omega
 have q2 : (i : Int) < (t.length : Int) := by omega
 have q3 : (0 : Int) ≤ (j : Int) := by omega
 have q4 : (j : Int) < (t.length : Int) := by omega
 have HT := Aside0.mk hT
 have Hpl := Aside0.mk hpl
 have Hla := Aside0.mk hla
 have HXi := Aside0.mk hxi
 have HXj := Aside0.mk hxj
 have HYj := Aside0.mk hyj
 have HI := Aside0.mk hi
 have HJ := Aside0.mk hj
 clear hT hE hpl hla hxi hxj hyj ha hb hi hj hm
 go_enter Try.func32, Try.ntmps32
 go_wp2_with (first | ((with_reducible refine gate_dst (N := 3) rfl ?_); refine box_event ?hg (N := 3) ?hd (cs := #[.pointer (some ⟨g, 0, none⟩)]) (t := 55) ?hr ?_; (case hd => rfl); (case hg => rfl); (case hr => first | (go_simp; done) | (go_simp; rfl)); intro gt hgt wt hbt hbelt; have HBT := Aside0.mk hbt; have HLT := Aside0.mk hbelt; have HGT := Aside0.mk hgt; clear hbt hbelt hgt) | ((with_reducible refine gate_dst (N := 4) rfl ?_); refine box_event ?hg (N := 4) ?hd (cs := #[.int .i64 (i : Int)]) (t := 3) ?hr ?_; (case hd => rfl); (case hg => rfl); (case hr => first | (go_simp; done) | (go_simp; rfl)); intro gi hgi wi hbi hbeli; have HBI := Aside0.mk hbi; have HLI := Aside0.mk hbeli; clear hbi hbeli hgi) | ((with_reducible refine gate_dst (N := 5) rfl ?_); refine box_event ?hg (N := 5) ?hd (cs := #[.int .i64 (j : Int)]) (t := 3) ?hr ?_; (case hd => rfl); (case hg => rfl); (case hr => first | (go_simp; done) | (go_simp; rfl)); intro gj hgj wj hbj hbelj; have HBJ := Aside0.mk hbj; have HLJ := Aside0.mk hbelj; clear hbj hbelj hgj))
 have HB1 := Aside0.mk (below_then (HLT.out) HLT.out.size HLI.out)
 have HB3 := Aside0.mk (below_then HB1.out HB1.out.size HLJ.out)
 have hct : wj.cell? ⟨gt, 0, none⟩ = some (.pointer (some ⟨g, 0, none⟩)) := pw_cell_below HLJ.out (pw_cell_below HLI.out ((blk_cell HBT.out 0).trans rfl))
 have hci : wj.cell? ⟨gi, 0, none⟩ = some (.int .i64 (i : Int)) := pw_cell_below HLJ.out ((blk_cell HBI.out 0).trans rfl)
 have hcj : wj.cell? ⟨gj, 0, none⟩ = some (.int .i64 (j : Int)) := (blk_cell HBJ.out 0).trans rfl
 replace h7 := pw_cell_below HB3.out h7
 replace hx0 := pw_cell_below HB3.out hx0
 replace hx1 := pw_cell_below HB3.out hx1
 replace hx2 := pw_cell_below HB3.out hx2
 replace hx3 := pw_cell_below HB3.out hx3
 replace hx4 := pw_cell_below HB3.out hx4
 replace hx5 := pw_cell_below HB3.out hx5
 replace hy0 := pw_cell_below HB3.out hy0
 replace hy1 := pw_cell_below HB3.out hy1
 replace hy2 := pw_cell_below HB3.out hy2
 replace hy3 := pw_cell_below HB3.out hy3
 replace hy4 := pw_cell_below HB3.out hy4
 replace hy5 := pw_cell_below HB3.out hy5
 have HT3 := Aside0.mk (HT.out.below HB3.out)
 have HF : Aside0 (wj.cell? ⟨gt, 0, none⟩ = some (.pointer (some ⟨g, 0, none⟩)) ∧ wj.cell? ⟨gi, 0, none⟩ = some (.int .i64 (i : Int)) ∧ wj.cell? ⟨gj, 0, none⟩ = some (.int .i64 (j : Int)) ∧ wj.cell? ⟨g, 7, none⟩ = some (.slice (some ad) t.length c1) ∧ wj.cell? (ad.add (i * 6)) = some (.int .i64 a.f0) ∧ wj.cell? ⟨(ad.add (i * 6)).block, (ad.add (i * 6)).off + 1, none⟩ = some (.int .i64 a.f1) ∧ wj.cell? ⟨(ad.add (i * 6)).block, (ad.add (i * 6)).off + 2, none⟩ = some (.int .u8 a.f2) ∧ wj.cell? ⟨(ad.add (i * 6)).block, (ad.add (i * 6)).off + 3, none⟩ = some (.int .i64 a.f3) ∧ wj.cell? ⟨(ad.add (i * 6)).block, (ad.add (i * 6)).off + 4, none⟩ = some (.int .i64 a.f4) ∧ wj.cell? ⟨(ad.add (i * 6)).block, (ad.add (i * 6)).off + 5, none⟩ = some (.int .i64 a.f5) ∧ wj.cell? (ad.add (j * 6)) = some (.int .i64 b.f0) ∧ wj.cell? ⟨(ad.add (j * 6)).block, (ad.add (j * 6)).off + 1, none⟩ = some (.int .i64 b.f1) ∧ wj.cell? ⟨(ad.add (j * 6)).block, (ad.add (j * 6)).off + 2, none⟩ = some (.int .u8 b.f2) ∧ wj.cell? ⟨(ad.add (j * 6)).block, (ad.add (j * 6)).off + 3, none⟩ = some (.int .i64 b.f3) ∧ wj.cell? ⟨(ad.add (j * 6)).block, (ad.add (j * 6)).off + 4, none⟩ = some (.int .i64 b.f4) ∧ wj.cell? ⟨(ad.add (j * 6)).block, (ad.add (j * 6)).off + 5, none⟩ = some (.int .i64 b.f5)) := ⟨⟨hct, hci, hcj, h7, hx0, hx1, hx2, hx3, hx4, hx5, hy0, hy1, hy2, hy3, hy4, hy5⟩⟩
 clear hct hci hcj h7 hx0 hx1 hx2 hx3 hx4 hx5 hy0 hy1 hy2 hy3 hy4 hy5
 refine start_ (n := 18) (S := fun w' => w'.cell? ⟨gt, 0, none⟩ = some (.pointer (some ⟨g, 0, none⟩)) ∧ w'.cell? ⟨gi, 0, none⟩ = some (.int .i64 (i : Int)) ∧ w'.cell? ⟨gj, 0, none⟩ = some (.int .i64 (j : Int)) ∧ w'.cell? ⟨g, 7, none⟩ = some (.slice (some ad) t.length c1) ∧ w'.cell? (ad.add (i * 6)) = some (.int .i64 a.f0) ∧ w'.cell? ⟨(ad.add (i * 6)).block, (ad.add (i * 6)).off + 1, none⟩ = some (.int .i64 a.f1) ∧ w'.cell? ⟨(ad.add (i * 6)).block, (ad.add (i * 6)).off + 2, none⟩ = some (.int .u8 a.f2) ∧ w'.cell? ⟨(ad.add (i * 6)).block, (ad.add (i * 6)).off + 3, none⟩ = some (.int .i64 a.f3) ∧ w'.cell? ⟨(ad.add (i * 6)).block, (ad.add (i * 6)).off + 4, none⟩ = some (.int .i64 a.f4) ∧ w'.cell? ⟨(ad.add (i * 6)).block, (ad.add (i * 6)).off + 5, none⟩ = some (.int .i64 a.f5) ∧ w'.cell? (ad.add (j * 6)) = some (.int .i64 b.f0) ∧ w'.cell? ⟨(ad.add (j * 6)).block, (ad.add (j * 6)).off + 1, none⟩ = some (.int .i64 b.f1) ∧ w'.cell? ⟨(ad.add (j * 6)).block, (ad.add (j * 6)).off + 2, none⟩ = some (.int .u8 b.f2) ∧ w'.cell? ⟨(ad.add (j * 6)).block, (ad.add (j * 6)).off + 3, none⟩ = some (.int .i64 b.f3) ∧ w'.cell? ⟨(ad.add (j * 6)).block, (ad.add (j * 6)).off + 4, none⟩ = some (.int .i64 b.f4) ∧ w'.cell? ⟨(ad.add (j * 6)).block, (ad.add (j * 6)).off + 5, none⟩ = some (.int .i64 b.f5)) (ds := [17]) (bl 18 0) (by kernel_rfl) rfl rfl ⟨HF.out.1, HF.out.2.1, HF.out.2.2.1, HF.out.2.2.2.1, HF.out.2.2.2.2.1, HF.out.2.2.2.2.2.1, HF.out.2.2.2.2.2.2.1, HF.out.2.2.2.2.2.2.2.1, HF.out.2.2.2.2.2.2.2.2.1, HF.out.2.2.2.2.2.2.2.2.2.1, HF.out.2.2.2.2.2.2.2.2.2.2.1, HF.out.2.2.2.2.2.2.2.2.2.2.2.1, HF.out.2.2.2.2.2.2.2.2.2.2.2.2.1, HF.out.2.2.2.2.2.2.2.2.2.2.2.2.2.1, HF.out.2.2.2.2.2.2.2.2.2.2.2.2.2.2.1, HF.out.2.2.2.2.2.2.2.2.2.2.2.2.2.2.2⟩ (fun hHeld => ?_)
 refine take_ (i := 0) (N := some 10) (v := ?_) (a' := ?_) (bl 18 1) rfl rfl (by kernel_rfl) (fun _ _ _ h => h) (Or.inl ⟨by rfl, ?_⟩) hHeld ?_ ?_
 rotate_left
 · rintro w' ⟨s0, s1, s2, s3, s4, s5, s6, s7, s8, s9, s10, s11, s12, s13, s14, s15⟩
   go_simp
   with_reducible rfl
 rotate_left
 · simp only [Act.put, List.setIfInBounds_toArray, List.set_cons_zero, List.set_cons_succ, i64_w, i32_w]
   rfl
 refine pure_ (i := 1) (N := some 11) (v := ?_) (a' := ?_) (bl 18 3) rfl rfl (by kernel_rfl) (fun _ _ _ h => h) (Or.inl ⟨by rfl, ?_⟩) ?_ ?_
 rotate_left
 · intro w'
   go_simp
   with_reducible rfl
 rotate_left
 · simp only [Act.put, List.setIfInBounds_toArray, List.set_cons_zero, List.set_cons_succ, i64_w, i32_w]
   rfl
 refine pure_ (i := 2) (N := some 12) (v := ?_) (a' := ?_) (bl 18 7) rfl rfl (by kernel_rfl) (fun _ _ _ h => h) (Or.inl ⟨by rfl, ?_⟩) ?_ ?_
 rotate_left
 · intro w'
   go_simp
   with_reducible rfl
 rotate_left
 · simp only [Act.put, List.setIfInBounds_toArray, List.set_cons_zero, List.set_cons_succ, i64_w, i32_w]
   rfl
 refine take_ (i := 3) (N := some 13) (v := ?_) (a' := ?_) (bl 18 15) rfl rfl (by kernel_rfl) (fun _ _ _ h => h) (Or.inl ⟨by rfl, ?_⟩) hHeld ?_ ?_
 rotate_left
 · rintro w' ⟨s0, s1, s2, s3, s4, s5, s6, s7, s8, s9, s10, s11, s12, s13, s14, s15⟩
   go_simp
   with_reducible rfl
 rotate_left
 · simp only [Act.put, List.setIfInBounds_toArray, List.set_cons_zero, List.set_cons_succ, i64_w, i32_w]
   rfl
 refine take_ (i := 4) (N := some 14) (v := ?_) (a' := ?_) (bl 18 31) rfl rfl (by kernel_rfl) (fun _ _ _ h => h) (Or.inl ⟨by rfl, ?_⟩) hHeld ?_ ?_
 rotate_left
 · rintro w' ⟨s0, s1, s2, s3, s4, s5, s6, s7, s8, s9, s10, s11, s12, s13, s14, s15⟩
   go_simp
   with_reducible rfl
 rotate_left
 · simp only [Act.put, List.setIfInBounds_toArray, List.set_cons_zero, List.set_cons_succ, i64_w, i32_w]
   rfl
 refine pure_ (i := 5) (N := some 15) (v := ?_) (a' := ?_) (bl 18 63) rfl rfl (by kernel_rfl) (fun _ _ _ h => h) (Or.inl ⟨by rfl, ?_⟩) ?_ ?_
 rotate_left
 · intro w'
   go_simp
   with_reducible rfl
 rotate_left
 · simp only [Act.put, List.setIfInBounds_toArray, List.set_cons_zero, List.set_cons_succ, i64_w, i32_w]
   rfl
 refine take_ (i := 6) (N := some 16) (v := ?_) (a' := ?_) (bl 18 127) rfl rfl (by kernel_rfl) (fun _ _ _ h => h) (Or.inl ⟨by rfl, ?_⟩) hHeld ?_ ?_
 rotate_left
 · rintro w' ⟨s0, s1, s2, s3, s4, s5, s6, s7, s8, s9, s10, s11, s12, s13, s14, s15⟩
   go_simp
   with_reducible rfl
 rotate_left
 · simp only [Act.put, List.setIfInBounds_toArray, List.set_cons_zero, List.set_cons_succ, i64_w, i32_w]
   rfl
 refine take_ (i := 7) (N := some 17) (v := ?_) (a' := ?_) (bl 18 255) rfl rfl (by kernel_rfl) (fun _ _ _ h => h) (Or.inl ⟨by rfl, ?_⟩) hHeld ?_ ?_
 rotate_left
 · rintro w' ⟨s0, s1, s2, s3, s4, s5, s6, s7, s8, s9, s10, s11, s12, s13, s14, s15⟩
   go_simp
   with_reducible rfl
 rotate_left
 · simp only [Act.put, List.setIfInBounds_toArray, List.set_cons_zero, List.set_cons_succ, i64_w, i32_w]
   rfl
 refine pure_ (i := 8) (N := some 18) (v := ?_) (a' := ?_) (bl 18 511) rfl rfl (by kernel_rfl) (fun _ _ _ h => h) (Or.inl ⟨by rfl, ?_⟩) ?_ ?_
 rotate_left
 · intro w'
   go_simp
   with_reducible rfl
 rotate_left
 · simp only [Act.put, List.setIfInBounds_toArray, List.set_cons_zero, List.set_cons_succ, i64_w, i32_w]
   rfl
 refine pure_ (i := 9) (N := some 19) (v := ?_) (a' := ?_) (bl 18 1023) rfl rfl (by kernel_rfl) (fun _ _ _ h => h) (Or.inl ⟨by rfl, ?_⟩) ?_ ?_
 rotate_left
 · intro w'
   go_simp
   with_reducible rfl
 rotate_left
 · simp only [Act.put, List.setIfInBounds_toArray, List.set_cons_zero, List.set_cons_succ, i64_w, i32_w]
   rfl
 refine take_ (i := 10) (N := some 20) (v := ?_) (a' := ?_) (bl 18 2047) rfl rfl (by kernel_rfl) (fun _ _ _ h => h) (Or.inl ⟨by rfl, ?_⟩) hHeld ?_ ?_
 rotate_left
 · rintro w' ⟨s0, s1, s2, s3, s4, s5, s6, s7, s8, s9, s10, s11, s12, s13, s14, s15⟩
   go_simp
   with_reducible rfl
 rotate_left
 · simp only [Act.put, List.setIfInBounds_toArray, List.set_cons_zero, List.set_cons_succ, i64_w, i32_w]
   rfl
 refine take_ (i := 11) (N := some 21) (v := ?_) (a' := ?_) (bl 18 4095) rfl rfl (by kernel_rfl) (fun _ _ _ h => h) (Or.inl ⟨by rfl, ?_⟩) hHeld ?_ ?_
 rotate_left
 · rintro w' ⟨s0, s1, s2, s3, s4, s5, s6, s7, s8, s9, s10, s11, s12, s13, s14, s15⟩
   go_simp
   with_reducible rfl
 rotate_left
 · simp only [Act.put, List.setIfInBounds_toArray, List.set_cons_zero, List.set_cons_succ, i64_w, i32_w]
   rfl
 refine pure_ (i := 12) (N := some 22) (v := ?_) (a' := ?_) (bl 18 8191) rfl rfl (by kernel_rfl) (fun _ _ _ h => h) (Or.inl ⟨by rfl, ?_⟩) ?_ ?_
 rotate_left
 · intro w'
   go_simp
   with_reducible rfl
 rotate_left
 · simp only [Act.put, List.setIfInBounds_toArray, List.set_cons_zero, List.set_cons_succ, i64_w, i32_w]
   rfl
 refine take_ (i := 13) (N := some 23) (v := ?_) (a' := ?_) (bl 18 16383) rfl rfl (by kernel_rfl) (fun _ _ _ h => h) (Or.inl ⟨by rfl, ?_⟩) hHeld ?_ ?_
 rotate_left
 · rintro w' ⟨s0, s1, s2, s3, s4, s5, s6, s7, s8, s9, s10, s11, s12, s13, s14, s15⟩
   go_simp
   with_reducible rfl
 rotate_left
 · simp only [Act.put, List.setIfInBounds_toArray, List.set_cons_zero, List.set_cons_succ, i64_w, i32_w]
   rfl
 refine join_ (σ := Nat × Nat) 2 (bl 18 65535) (fun s => [(7, .pointer (some ⟨s.1, 0, none⟩)), (8, .pointer (some ⟨s.2, 0, none⟩))]) (fun s w' => (s.1 ≠ s.2 ∧ w'.heap[s.1]? = some (.cells #[.int .i64 0, .int .i64 0, .int .u8 0, .int .i64 0, .int .i64 0, .int .i64 0] 24 (0, 0)) ∧ w'.heap[s.2]? = some (.cells #[.int .i64 0, .int .i64 0, .int .u8 0, .int .i64 0, .int .i64 0, .int .i64 0] 24 (0, 0)) ∧ Below W.heap.size W w' ∧ wj.heap.size ≤ s.1 ∧ wj.heap.size ≤ s.2) ∧ w'.cell? ⟨gt, 0, none⟩ = some (.pointer (some ⟨g, 0, none⟩)) ∧ w'.cell? ⟨gi, 0, none⟩ = some (.int .i64 (i : Int)) ∧ w'.cell? ⟨gj, 0, none⟩ = some (.int .i64 (j : Int)) ∧ w'.cell? ⟨g, 7, none⟩ = some (.slice (some ad) t.length c1) ∧ w'.cell? (ad.add (i * 6)) = some (.int .i64 a.f0) ∧ w'.cell? ⟨(ad.add (i * 6)).block, (ad.add (i * 6)).off + 1, none⟩ = some (.int .i64 a.f1) ∧ w'.cell? ⟨(ad.add (i * 6)).block, (ad.add (i * 6)).off + 2, none⟩ = some (.int .u8 a.f2) ∧ w'.cell? ⟨(ad.add (i * 6)).block, (ad.add (i * 6)).off + 3, none⟩ = some (.int .i64 a.f3) ∧ w'.cell? ⟨(ad.add (i * 6)).block, (ad.add (i * 6)).off + 4, none⟩ = some (.int .i64 a.f4) ∧ w'.cell? ⟨(ad.add (i * 6)).block, (ad.add (i * 6)).off + 5, none⟩ = some (.int .i64 a.f5) ∧ w'.cell? (ad.add (j * 6)) = some (.int .i64 b.f0) ∧ w'.cell? ⟨(ad.add (j * 6)).block, (ad.add (j * 6)).off + 1, none⟩ = some (.int .i64 b.f1) ∧ w'.cell? ⟨(ad.add (j * 6)).block, (ad.add (j * 6)).off + 2, none⟩ = some (.int .u8 b.f2) ∧ w'.cell? ⟨(ad.add (j * 6)).block, (ad.add (j * 6)).off + 3, none⟩ = some (.int .i64 b.f3) ∧ w'.cell? ⟨(ad.add (j * 6)).block, (ad.add (j * 6)).off + 4, none⟩ = some (.int .i64 b.f4) ∧ w'.cell? ⟨(ad.add (j * 6)).block, (ad.add (j * 6)).off + 5, none⟩ = some (.int .i64 b.f5)) ?_ ?_
 rotate_left
 · intro hCont
   refine two_ (i := 14) (j := 15) (Ni := some 7) (Nj := some 8) (bl 18 32767) (bl 18 49151) rfl rfl rfl rfl (by kernel_rfl) (by decide) (by decide) (fun K hK => ?_) (fun K hK => ?_)
   · skip
     refine box_step ?hg (N := 7) ?hd (cs := #[.int .i64 0, .int .i64 0, .int .u8 0, .int .i64 0, .int .i64 0, .int .i64 0]) (t := 24) ?hr ?_; (case hd => rfl); (case hg => rfl); (case hr => first | (go_simp; done) | (go_simp; rfl))
     intro ga hga wa hba hbela
     refine hK.out _ _ ⟨(pw_cell_below hbela hHeld.1), (pw_cell_below hbela hHeld.2.1), (pw_cell_below hbela hHeld.2.2.1), (pw_cell_below hbela hHeld.2.2.2.1), (pw_cell_below hbela hHeld.2.2.2.2.1), (pw_cell_below hbela hHeld.2.2.2.2.2.1), (pw_cell_below hbela hHeld.2.2.2.2.2.2.1), (pw_cell_below hbela hHeld.2.2.2.2.2.2.2.1), (pw_cell_below hbela hHeld.2.2.2.2.2.2.2.2.1), (pw_cell_below hbela hHeld.2.2.2.2.2.2.2.2.2.1), (pw_cell_below hbela hHeld.2.2.2.2.2.2.2.2.2.2.1), (pw_cell_below hbela hHeld.2.2.2.2.2.2.2.2.2.2.2.1), (pw_cell_below hbela hHeld.2.2.2.2.2.2.2.2.2.2.2.2.1), (pw_cell_below hbela hHeld.2.2.2.2.2.2.2.2.2.2.2.2.2.1), (pw_cell_below hbela hHeld.2.2.2.2.2.2.2.2.2.2.2.2.2.2.1), (pw_cell_below hbela hHeld.2.2.2.2.2.2.2.2.2.2.2.2.2.2.2)⟩ (fun hHeld => ?_)
     clear hK K
     refine norm_ (a' := ?_) ?_ ?_
     rotate_left
     · show Act.put _ (some 7) _ = _
       simp only [Act.put, List.setIfInBounds_toArray, List.set_cons_zero, List.set_cons_succ, i64_w, i32_w]
       rfl
     refine one_ (i := 15) (N := some 8) (bl 18 65535) rfl rfl (by kernel_rfl) (by decide) (fun K hK => ?_)
     refine box_step ?hg (N := 8) ?hd (cs := #[.int .i64 0, .int .i64 0, .int .u8 0, .int .i64 0, .int .i64 0, .int .i64 0]) (t := 24) ?hr ?_; (case hd => rfl); (case hg => rfl); (case hr => first | (go_simp; done) | (go_simp; rfl))
     intro gb hgb wb hbb hbelb
     refine hK.out _ _ ⟨(pw_cell_below hbelb hHeld.1), (pw_cell_below hbelb hHeld.2.1), (pw_cell_below hbelb hHeld.2.2.1), (pw_cell_below hbelb hHeld.2.2.2.1), (pw_cell_below hbelb hHeld.2.2.2.2.1), (pw_cell_below hbelb hHeld.2.2.2.2.2.1), (pw_cell_below hbelb hHeld.2.2.2.2.2.2.1), (pw_cell_below hbelb hHeld.2.2.2.2.2.2.2.1), (pw_cell_below hbelb hHeld.2.2.2.2.2.2.2.2.1), (pw_cell_below hbelb hHeld.2.2.2.2.2.2.2.2.2.1), (pw_cell_below hbelb hHeld.2.2.2.2.2.2.2.2.2.2.1), (pw_cell_below hbelb hHeld.2.2.2.2.2.2.2.2.2.2.2.1), (pw_cell_below hbelb hHeld.2.2.2.2.2.2.2.2.2.2.2.2.1), (pw_cell_below hbelb hHeld.2.2.2.2.2.2.2.2.2.2.2.2.2.1), (pw_cell_below hbelb hHeld.2.2.2.2.2.2.2.2.2.2.2.2.2.2.1), (pw_cell_below hbelb hHeld.2.2.2.2.2.2.2.2.2.2.2.2.2.2.2)⟩ (fun hHeld => ?_)
     clear hK K
     refine norm_ (a' := ?_) ?_ ?_
     rotate_left
     · show Act.put _ (some 8) _ = _
       simp only [Act.put, List.setIfInBounds_toArray, List.set_cons_zero, List.set_cons_succ, i64_w, i32_w]
       rfl
     exact norm_ (by simp only [putAll, Act.put, List.setIfInBounds_toArray, List.set_cons_zero, List.set_cons_succ]) (hCont (ga, gb) _ ⟨⟨(by have := blk_lt hba; omega), ((hbelb.block ga (blk_lt hba)).trans hba), hbb, (below_then (below_then (below_drew HB3.out) (below_drew HB3.out).size hbela) (below_then (below_drew HB3.out) (below_drew HB3.out).size hbela).size hbelb), (by have : wj.drew.heap.size = wj.heap.size := rfl; have := hbela.size; omega), (by have : wj.drew.heap.size = wj.heap.size := rfl; have := hbela.size; omega)⟩, hHeld⟩)
   · skip
     refine box_step ?hg (N := 8) ?hd (cs := #[.int .i64 0, .int .i64 0, .int .u8 0, .int .i64 0, .int .i64 0, .int .i64 0]) (t := 24) ?hr ?_; (case hd => rfl); (case hg => rfl); (case hr => first | (go_simp; done) | (go_simp; rfl))
     intro gb hgb wb hbb hbelb
     refine hK.out _ _ ⟨(pw_cell_below hbelb hHeld.1), (pw_cell_below hbelb hHeld.2.1), (pw_cell_below hbelb hHeld.2.2.1), (pw_cell_below hbelb hHeld.2.2.2.1), (pw_cell_below hbelb hHeld.2.2.2.2.1), (pw_cell_below hbelb hHeld.2.2.2.2.2.1), (pw_cell_below hbelb hHeld.2.2.2.2.2.2.1), (pw_cell_below hbelb hHeld.2.2.2.2.2.2.2.1), (pw_cell_below hbelb hHeld.2.2.2.2.2.2.2.2.1), (pw_cell_below hbelb hHeld.2.2.2.2.2.2.2.2.2.1), (pw_cell_below hbelb hHeld.2.2.2.2.2.2.2.2.2.2.1), (pw_cell_below hbelb hHeld.2.2.2.2.2.2.2.2.2.2.2.1), (pw_cell_below hbelb hHeld.2.2.2.2.2.2.2.2.2.2.2.2.1), (pw_cell_below hbelb hHeld.2.2.2.2.2.2.2.2.2.2.2.2.2.1), (pw_cell_below hbelb hHeld.2.2.2.2.2.2.2.2.2.2.2.2.2.2.1), (pw_cell_below hbelb hHeld.2.2.2.2.2.2.2.2.2.2.2.2.2.2.2)⟩ (fun hHeld => ?_)
     clear hK K
     refine norm_ (a' := ?_) ?_ ?_
     rotate_left
     · show Act.put _ (some 8) _ = _
       simp only [Act.put, List.setIfInBounds_toArray, List.set_cons_zero, List.set_cons_succ, i64_w, i32_w]
       rfl
     refine one_ (i := 14) (N := some 7) (bl 18 65535) rfl rfl (by kernel_rfl) (by decide) (fun K hK => ?_)
     refine box_step ?hg (N := 7) ?hd (cs := #[.int .i64 0, .int .i64 0, .int .u8 0, .int .i64 0, .int .i64 0, .int .i64 0]) (t := 24) ?hr ?_; (case hd => rfl); (case hg => rfl); (case hr => first | (go_simp; done) | (go_simp; rfl))
     intro ga hga wa hba hbela
     refine hK.out _ _ ⟨(pw_cell_below hbela hHeld.1), (pw_cell_below hbela hHeld.2.1), (pw_cell_below hbela hHeld.2.2.1), (pw_cell_below hbela hHeld.2.2.2.1), (pw_cell_below hbela hHeld.2.2.2.2.1), (pw_cell_below hbela hHeld.2.2.2.2.2.1), (pw_cell_below hbela hHeld.2.2.2.2.2.2.1), (pw_cell_below hbela hHeld.2.2.2.2.2.2.2.1), (pw_cell_below hbela hHeld.2.2.2.2.2.2.2.2.1), (pw_cell_below hbela hHeld.2.2.2.2.2.2.2.2.2.1), (pw_cell_below hbela hHeld.2.2.2.2.2.2.2.2.2.2.1), (pw_cell_below hbela hHeld.2.2.2.2.2.2.2.2.2.2.2.1), (pw_cell_below hbela hHeld.2.2.2.2.2.2.2.2.2.2.2.2.1), (pw_cell_below hbela hHeld.2.2.2.2.2.2.2.2.2.2.2.2.2.1), (pw_cell_below hbela hHeld.2.2.2.2.2.2.2.2.2.2.2.2.2.2.1), (pw_cell_below hbela hHeld.2.2.2.2.2.2.2.2.2.2.2.2.2.2.2)⟩ (fun hHeld => ?_)
     clear hK K
     refine norm_ (a' := ?_) ?_ ?_
     rotate_left
     · show Act.put _ (some 7) _ = _
       simp only [Act.put, List.setIfInBounds_toArray, List.set_cons_zero, List.set_cons_succ, i64_w, i32_w]
       rfl
     exact norm_ (by simp only [putAll, Act.put, List.setIfInBounds_toArray, List.set_cons_zero, List.set_cons_succ]) (hCont (ga, gb) _ ⟨⟨(by have := blk_lt hbb; omega), hba, ((hbela.block gb (blk_lt hbb)).trans hbb), (below_then (below_then (below_drew HB3.out) (below_drew HB3.out).size hbelb) (below_then (below_drew HB3.out) (below_drew HB3.out).size hbelb).size hbela), (by have : wj.drew.heap.size = wj.heap.size := rfl; have := hbelb.size; omega), (by have : wj.drew.heap.size = wj.heap.size := rfl; have := hbelb.size; omega)⟩, hHeld⟩)
 rintro ⟨ga, gb⟩ w5 ⟨⟨hne, hba, hbb, hbel5, hga, hgb⟩, hHeld⟩
 dsimp only at hne hba hbb hga hgb
 refine norm_ (a' := ?_) ?_ ?_
 rotate_left
 · simp only [putAll, Act.put, List.setIfInBounds_toArray, List.set_cons_zero, List.set_cons_succ]
   rfl
 refine one_ (i := 16) (N := none) (bl 18 131071) rfl rfl (by kernel_rfl) (by decide) (fun K hK => ?_)
 have hs0 : (w5).cell? ⟨ga, 0, none⟩ = some (.int .i64 0) := (blk_cell hba 0).trans rfl
 have hf0 : (w5).frozen? ⟨ga, 0, none⟩ = false := blk_frozen hba 0
 have hs1 : (w5).cell? ⟨ga, 1, none⟩ = some (.int .i64 0) := (blk_cell hba 1).trans rfl
 have hf1 : (w5).frozen? ⟨ga, 1, none⟩ = false := blk_frozen hba 1
 have hs2 : (w5).cell? ⟨ga, 2, none⟩ = some (.int .u8 0) := (blk_cell hba 2).trans rfl
 have hf2 : (w5).frozen? ⟨ga, 2, none⟩ = false := blk_frozen hba 2
 have hs3 : (w5).cell? ⟨ga, 3, none⟩ = some (.int .i64 0) := (blk_cell hba 3).trans rfl
 have hf3 : (w5).frozen? ⟨ga, 3, none⟩ = false := blk_frozen hba 3
 have hs4 : (w5).cell? ⟨ga, 4, none⟩ = some (.int .i64 0) := (blk_cell hba 4).trans rfl
 have hf4 : (w5).frozen? ⟨ga, 4, none⟩ = false := blk_frozen hba 4
 have hs5 : (w5).cell? ⟨ga, 5, none⟩ = some (.int .i64 0) := (blk_cell hba 5).trans rfl
 have hf5 : (w5).frozen? ⟨ga, 5, none⟩ = false := blk_frozen hba 5
 refine skip_ (w1 := put6 w5 ga a) (by rfl) rfl ?_ ?_
 · go_simp
   rfl
 clear hs0 hf0 hs1 hf1 hs2 hf2 hs3 hf3 hs4 hf4 hs5 hf5
 have HEa6 : EvAt (put6 w5 ga a) ga a := put6_ev hba
 have hbb6 := put6_far (e := a) hbb (Ne.symm hne)
 have hbel6 := put6_below (e := a) hbel5 (Nat.le_trans HB3.out.size hga)
 have hH6 : (put6 w5 ga a).cell? ⟨gt, 0, none⟩ = some (.pointer (some ⟨g, 0, none⟩)) ∧ (put6 w5 ga a).cell? ⟨gi, 0, none⟩ = some (.int .i64 (i : Int)) ∧ (put6 w5 ga a).cell? ⟨gj, 0, none⟩ = some (.int .i64 (j : Int)) ∧ (put6 w5 ga a).cell? ⟨g, 7, none⟩ = some (.slice (some ad) t.length c1) ∧ (put6 w5 ga a).cell? (ad.add (i * 6)) = some (.int .i64 a.f0) ∧ (put6 w5 ga a).cell? ⟨(ad.add (i * 6)).block, (ad.add (i * 6)).off + 1, none⟩ = some (.int .i64 a.f1) ∧ (put6 w5 ga a).cell? ⟨(ad.add (i * 6)).block, (ad.add (i * 6)).off + 2, none⟩ = some (.int .u8 a.f2) ∧ (put6 w5 ga a).cell? ⟨(ad.add (i * 6)).block, (ad.add (i * 6)).off + 3, none⟩ = some (.int .i64 a.f3) ∧ (put6 w5 ga a).cell? ⟨(ad.add (i * 6)).block, (ad.add (i * 6)).off + 4, none⟩ = some (.int .i64 a.f4) ∧ (put6 w5 ga a).cell? ⟨(ad.add (i * 6)).block, (ad.add (i * 6)).off + 5, none⟩ = some (.int .i64 a.f5) ∧ (put6 w5 ga a).cell? (ad.add (j * 6)) = some (.int .i64 b.f0) ∧ (put6 w5 ga a).cell? ⟨(ad.add (j * 6)).block, (ad.add (j * 6)).off + 1, none⟩ = some (.int .i64 b.f1) ∧ (put6 w5 ga a).cell? ⟨(ad.add (j * 6)).block, (ad.add (j * 6)).off + 2, none⟩ = some (.int .u8 b.f2) ∧ (put6 w5 ga a).cell? ⟨(ad.add (j * 6)).block, (ad.add (j * 6)).off + 3, none⟩ = some (.int .i64 b.f3) ∧ (put6 w5 ga a).cell? ⟨(ad.add (j * 6)).block, (ad.add (j * 6)).off + 4, none⟩ = some (.int .i64 b.f4) ∧ (put6 w5 ga a).cell? ⟨(ad.add (j * 6)).block, (ad.add (j * 6)).off + 5, none⟩ = some (.int .i64 b.f5) := ⟨(put6_cell (hHeld.1) (Nat.ne_of_lt (Nat.lt_of_lt_of_le (World.block_lt_of_cell? wj _ (HF.out.1)) hga))), (put6_cell (hHeld.2.1) (Nat.ne_of_lt (Nat.lt_of_lt_of_le (World.block_lt_of_cell? wj _ (HF.out.2.1)) hga))), (put6_cell (hHeld.2.2.1) (Nat.ne_of_lt (Nat.lt_of_lt_of_le (World.block_lt_of_cell? wj _ (HF.out.2.2.1)) hga))), (put6_cell (hHeld.2.2.2.1) (Nat.ne_of_lt (Nat.lt_of_lt_of_le (World.block_lt_of_cell? wj _ (HF.out.2.2.2.1)) hga))), (put6_cell (hHeld.2.2.2.2.1) (Nat.ne_of_lt (Nat.lt_of_lt_of_le (World.block_lt_of_cell? wj _ (HF.out.2.2.2.2.1)) hga))), (put6_cell (hHeld.2.2.2.2.2.1) (Nat.ne_of_lt (Nat.lt_of_lt_of_le (World.block_lt_of_cell? wj _ (HF.out.2.2.2.2.2.1)) hga))), (put6_cell (hHeld.2.2.2.2.2.2.1) (Nat.ne_of_lt (Nat.lt_of_lt_of_le (World.block_lt_of_cell? wj _ (HF.out.2.2.2.2.2.2.1)) hga))), (put6_cell (hHeld.2.2.2.2.2.2.2.1) (Nat.ne_of_lt (Nat.lt_of_lt_of_le (World.block_lt_of_cell? wj _ (HF.out.2.2.2.2.2.2.2.1)) hga))), (put6_cell (hHeld.2.2.2.2.2.2.2.2.1) (Nat.ne_of_lt (Nat.lt_of_lt_of_le (World.block_lt_of_cell? wj _ (HF.out.2.2.2.2.2.2.2.2.1)) hga))), (put6_cell (hHeld.2.2.2.2.2.2.2.2.2.1) (Nat.ne_of_lt (Nat.lt_of_lt_of_le (World.block_lt_of_cell? wj _ (HF.out.2.2.2.2.2.2.2.2.2.1)) hga))), (put6_cell (hHeld.2.2.2.2.2.2.2.2.2.2.1) (Nat.ne_of_lt (Nat.lt_of_lt_of_le (World.block_lt_of_cell? wj _ (HF.out.2.2.2.2.2.2.2.2.2.2.1)) hga))), (put6_cell (hHeld.2.2.2.2.2.2.2.2.2.2.2.1) (Nat.ne_of_lt (Nat.lt_of_lt_of_le (World.block_lt_of_cell? wj _ (HF.out.2.2.2.2.2.2.2.2.2.2.2.1)) hga))), (put6_cell (hHeld.2.2.2.2.2.2.2.2.2.2.2.2.1) (Nat.ne_of_lt (Nat.lt_of_lt_of_le (World.block_lt_of_cell? wj _ (HF.out.2.2.2.2.2.2.2.2.2.2.2.2.1)) hga))), (put6_cell (hHeld.2.2.2.2.2.2.2.2.2.2.2.2.2.1) (Nat.ne_of_lt (Nat.lt_of_lt_of_le (World.block_lt_of_cell? wj _ (HF.out.2.2.2.2.2.2.2.2.2.2.2.2.2.1)) hga))), (put6_cell (hHeld.2.2.2.2.2.2.2.2.2.2.2.2.2.2.1) (Nat.ne_of_lt (Nat.lt_of_lt_of_le (World.block_lt_of_cell? wj _ (HF.out.2.2.2.2.2.2.2.2.2.2.2.2.2.2.1)) hga))), (put6_cell (hHeld.2.2.2.2.2.2.2.2.2.2.2.2.2.2.2) (Nat.ne_of_lt (Nat.lt_of_lt_of_le (World.block_lt_of_cell? wj _ (HF.out.2.2.2.2.2.2.2.2.2.2.2.2.2.2.2)) hga)))⟩
 generalize put6 w5 ga a = w6 at HEa6 hbb6 hbel6 hH6 ⊢
 refine hK.out _ _ ⟨hH6.1, hH6.2.1, hH6.2.2.1, hH6.2.2.2.1, hH6.2.2.2.2.1, hH6.2.2.2.2.2.1, hH6.2.2.2.2.2.2.1, hH6.2.2.2.2.2.2.2.1, hH6.2.2.2.2.2.2.2.2.1, hH6.2.2.2.2.2.2.2.2.2.1, hH6.2.2.2.2.2.2.2.2.2.2.1, hH6.2.2.2.2.2.2.2.2.2.2.2.1, hH6.2.2.2.2.2.2.2.2.2.2.2.2.1, hH6.2.2.2.2.2.2.2.2.2.2.2.2.2.1, hH6.2.2.2.2.2.2.2.2.2.2.2.2.2.2.1, hH6.2.2.2.2.2.2.2.2.2.2.2.2.2.2.2⟩ (fun hHeld => ?_)
 clear hK K
 refine last_ (i := 17) (N := none) (bl 18 262143) rfl rfl (by kernel_rfl) (by decide) (fun K hK => ?_)
 have hs0 : (w6).cell? ⟨gb, 0, none⟩ = some (.int .i64 0) := (blk_cell hbb6 0).trans rfl
 have hf0 : (w6).frozen? ⟨gb, 0, none⟩ = false := blk_frozen hbb6 0
 have hs1 : (w6).cell? ⟨gb, 1, none⟩ = some (.int .i64 0) := (blk_cell hbb6 1).trans rfl
 have hf1 : (w6).frozen? ⟨gb, 1, none⟩ = false := blk_frozen hbb6 1
 have hs2 : (w6).cell? ⟨gb, 2, none⟩ = some (.int .u8 0) := (blk_cell hbb6 2).trans rfl
 have hf2 : (w6).frozen? ⟨gb, 2, none⟩ = false := blk_frozen hbb6 2
 have hs3 : (w6).cell? ⟨gb, 3, none⟩ = some (.int .i64 0) := (blk_cell hbb6 3).trans rfl
 have hf3 : (w6).frozen? ⟨gb, 3, none⟩ = false := blk_frozen hbb6 3
 have hs4 : (w6).cell? ⟨gb, 4, none⟩ = some (.int .i64 0) := (blk_cell hbb6 4).trans rfl
 have hf4 : (w6).frozen? ⟨gb, 4, none⟩ = false := blk_frozen hbb6 4
 have hs5 : (w6).cell? ⟨gb, 5, none⟩ = some (.int .i64 0) := (blk_cell hbb6 5).trans rfl
 have hf5 : (w6).frozen? ⟨gb, 5, none⟩ = false := blk_frozen hbb6 5
 refine skip_ (w1 := put6 w6 gb b) (by rfl) rfl ?_ ?_
 · go_simp
   rfl
 clear hs0 hf0 hs1 hf1 hs2 hf2 hs3 hf3 hs4 hf4 hs5 hf5
 refine hK.out _ _ ?_
 clear hK K
 refine done_ (by kernel_rfl) ?_
 have HEa : Aside0 (EvAt (put6 w6 gb b) ga a) := ⟨put6_far (e := b) HEa6 hne⟩
 have HEb : Aside0 (EvAt (put6 w6 gb b) gb b) := ⟨put6_ev (e := b) hbb6⟩
 have HB7 := Aside0.mk (put6_below (e := b) hbel6 (Nat.le_trans HB3.out.size hgb))
 have hct7 : (put6 w6 gb b).cell? ⟨gt, 0, none⟩ = some (.pointer (some ⟨g, 0, none⟩)) := put6_cell hHeld.1 (Nat.ne_of_lt (Nat.lt_of_lt_of_le (World.block_lt_of_cell? wj _ HF.out.1) hgb))
 have hci7 : (put6 w6 gb b).cell? ⟨gi, 0, none⟩ = some (.int .i64 (i : Int)) := put6_cell hHeld.2.1 (Nat.ne_of_lt (Nat.lt_of_lt_of_le (World.block_lt_of_cell? wj _ HF.out.2.1) hgb))
 have hcj7 : (put6 w6 gb b).cell? ⟨gj, 0, none⟩ = some (.int .i64 (j : Int)) := put6_cell hHeld.2.2.1 (Nat.ne_of_lt (Nat.lt_of_lt_of_le (World.block_lt_of_cell? wj _ HF.out.2.2.1) hgb))
 have HT7 := Aside0.mk (HT.out.below HB7.out)
 generalize put6 w6 gb b = w7 at HEa HEb HB7 hct7 hci7 hcj7 HT7 ⊢
 clear hne hba hbb hga hgb hbel5 HEa6 hbel6 hH6 hHeld hbb6 HF
 obtain ⟨a0, a1, a2, a3, a4, a5⟩ := HEa.out.cells
 obtain ⟨b0, b1, b2, b3, b4, b5⟩ := HEb.out.cells
 cases h1 : a.f0 == b.f0 with
 | true =>
  go_wp2
  go_ret
  exact ⟨congrArg (fun x => Ending.returned (.bool x)) (show true = dirW c a b i xi xj yj by unfold dirW; rw [h1]; rfl), HB7.out⟩
 | false =>
  cases h2 : (a.f2 == 12 && a.f3 == b.f0) with
  | true =>
   have h2a : (a.f2 == 12) = true := (Bool.and_eq_true _ _ ▸ h2).1
   have h2b : (a.f3 == b.f0) = true := (Bool.and_eq_true _ _ ▸ h2).2
   go_wp2
   go_ret
   exact ⟨congrArg (fun x => Ending.returned (.bool x)) (show true = dirW c a b i xi xj yj by unfold dirW; rw [h1, h2]; rfl), HB7.out⟩
  | false =>
   have HD : Aside0 (dirW c a b i xi xj yj = (a.f3 == b.f3 && anyR c a b (i : Int) xi xj yj)) := ⟨by unfold dirW; rw [h1, h2]; rfl⟩
   have H2 := Aside0.mk h2
   clear h2
   cases h2a : a.f2 == 12 with
   | false =>
    cases h3 : a.f3 == b.f3 with
    | false =>
     go_wp2_with (first | ((with_reducible refine gate_dst (N := 9) rfl ?_); refine box_event ?hg (N := 9) ?hd (cs := #[.nilFunc, .nilFunc, .nilFunc, .nilFunc, .nilFunc, .nilFunc, .nilFunc, .nilFunc]) (t := 87) ?hr ?_; (case hd => rfl); (case hg => rfl); (case hr => first | (go_simp; done) | (go_simp; rfl)); intro gR hgR wR hbR hbelR; have HBR := Aside0.mk hbR; have HLR := Aside0.mk hbelR; have HGR := Aside0.mk hgR; clear hbR hbelR hgR) | ((with_reducible refine gate_store (t := 87) (p := 9) (v := .tmp 49) rfl ?_); have hs0 : wR.cell? ⟨gR, 0, none⟩ = some .nilFunc := (blk_cell HBR.out 0).trans rfl; have hf0 : wR.frozen? ⟨gR, 0, none⟩ = false := blk_frozen HBR.out 0; have hs1 : wR.cell? ⟨gR, 1, none⟩ = some .nilFunc := (blk_cell HBR.out 1).trans rfl; have hf1 : wR.frozen? ⟨gR, 1, none⟩ = false := blk_frozen HBR.out 1; have hs2 : wR.cell? ⟨gR, 2, none⟩ = some .nilFunc := (blk_cell HBR.out 2).trans rfl; have hf2 : wR.frozen? ⟨gR, 2, none⟩ = false := blk_frozen HBR.out 2; have hs3 : wR.cell? ⟨gR, 3, none⟩ = some .nilFunc := (blk_cell HBR.out 3).trans rfl; have hf3 : wR.frozen? ⟨gR, 3, none⟩ = false := blk_frozen HBR.out 3; have hs4 : wR.cell? ⟨gR, 4, none⟩ = some .nilFunc := (blk_cell HBR.out 4).trans rfl; have hf4 : wR.frozen? ⟨gR, 4, none⟩ = false := blk_frozen HBR.out 4; have hs5 : wR.cell? ⟨gR, 5, none⟩ = some .nilFunc := (blk_cell HBR.out 5).trans rfl; have hf5 : wR.frozen? ⟨gR, 5, none⟩ = false := blk_frozen HBR.out 5; have hs6 : wR.cell? ⟨gR, 6, none⟩ = some .nilFunc := (blk_cell HBR.out 6).trans rfl; have hf6 : wR.frozen? ⟨gR, 6, none⟩ = false := blk_frozen HBR.out 6; have hs7 : wR.cell? ⟨gR, 7, none⟩ = some .nilFunc := (blk_cell HBR.out 7).trans rfl; have hf7 : wR.frozen? ⟨gR, 7, none⟩ = false := blk_frozen HBR.out 7; refine skipL_ (w1 := put8 wR gR (.func (.func 45) #[] #[.pointer (some ⟨ga, 0, none⟩), .pointer (some ⟨gb, 0, none⟩)]) (.func (.func 46) #[] #[.pointer (some ⟨ga, 0, none⟩), .pointer (some ⟨gb, 0, none⟩)]) (.func (.func 47) #[] #[.pointer (some ⟨gb, 0, none⟩), .pointer (some ⟨gt, 0, none⟩), .pointer (some ⟨gj, 0, none⟩), .pointer (some ⟨gi, 0, none⟩)]) (.func (.func 48) #[] #[.pointer (some ⟨ga, 0, none⟩), .pointer (some ⟨gb, 0, none⟩), .pointer (some ⟨gt, 0, none⟩), .pointer (some ⟨gi, 0, none⟩), .pointer (some ⟨gj, 0, none⟩)]) (.func (.func 49) #[] #[.pointer (some ⟨ga, 0, none⟩), .pointer (some ⟨gb, 0, none⟩), .pointer (some ⟨gt, 0, none⟩), .pointer (some ⟨gi, 0, none⟩), .pointer (some ⟨gj, 0, none⟩)]) (.func (.func 51) #[] #[.pointer (some ⟨ga, 0, none⟩), .pointer (some ⟨gb, 0, none⟩)]) (.func (.func 52) #[] #[.pointer (some ⟨ga, 0, none⟩), .pointer (some ⟨gb, 0, none⟩)]) (.func (.func 53) #[] #[.pointer (some ⟨ga, 0, none⟩), .pointer (some ⟨gb, 0, none⟩)])) rfl rfl (by go_simp; rfl) ?_; clear hs0 hf0 hs1 hf1 hs2 hf2 hs3 hf3 hs4 hf4 hs5 hf5 hs6 hf6 hs7 hf7; have HB79 := Aside0.mk (put8_below (v0 := .func (.func 45) #[] #[.pointer (some ⟨ga, 0, none⟩), .pointer (some ⟨gb, 0, none⟩)]) (v1 := .func (.func 46) #[] #[.pointer (some ⟨ga, 0, none⟩), .pointer (some ⟨gb, 0, none⟩)]) (v2 := .func (.func 47) #[] #[.pointer (some ⟨gb, 0, none⟩), .pointer (some ⟨gt, 0, none⟩), .pointer (some ⟨gj, 0, none⟩), .pointer (some ⟨gi, 0, none⟩)]) (v3 := .func (.func 48) #[] #[.pointer (some ⟨ga, 0, none⟩), .pointer (some ⟨gb, 0, none⟩), .pointer (some ⟨gt, 0, none⟩), .pointer (some ⟨gi, 0, none⟩), .pointer (some ⟨gj, 0, none⟩)]) (v4 := .func (.func 49) #[] #[.pointer (some ⟨ga, 0, none⟩), .pointer (some ⟨gb, 0, none⟩), .pointer (some ⟨gt, 0, none⟩), .pointer (some ⟨gi, 0, none⟩), .pointer (some ⟨gj, 0, none⟩)]) (v5 := .func (.func 51) #[] #[.pointer (some ⟨ga, 0, none⟩), .pointer (some ⟨gb, 0, none⟩)]) (v6 := .func (.func 52) #[] #[.pointer (some ⟨ga, 0, none⟩), .pointer (some ⟨gb, 0, none⟩)]) (v7 := .func (.func 53) #[] #[.pointer (some ⟨ga, 0, none⟩), .pointer (some ⟨gb, 0, none⟩)]) HLR.out (Nat.le_of_eq HGR.out.symm)); have HR9 := Aside0.mk (put8_blk (v0 := .func (.func 45) #[] #[.pointer (some ⟨ga, 0, none⟩), .pointer (some ⟨gb, 0, none⟩)]) (v1 := .func (.func 46) #[] #[.pointer (some ⟨ga, 0, none⟩), .pointer (some ⟨gb, 0, none⟩)]) (v2 := .func (.func 47) #[] #[.pointer (some ⟨gb, 0, none⟩), .pointer (some ⟨gt, 0, none⟩), .pointer (some ⟨gj, 0, none⟩), .pointer (some ⟨gi, 0, none⟩)]) (v3 := .func (.func 48) #[] #[.pointer (some ⟨ga, 0, none⟩), .pointer (some ⟨gb, 0, none⟩), .pointer (some ⟨gt, 0, none⟩), .pointer (some ⟨gi, 0, none⟩), .pointer (some ⟨gj, 0, none⟩)]) (v4 := .func (.func 49) #[] #[.pointer (some ⟨ga, 0, none⟩), .pointer (some ⟨gb, 0, none⟩), .pointer (some ⟨gt, 0, none⟩), .pointer (some ⟨gi, 0, none⟩), .pointer (some ⟨gj, 0, none⟩)]) (v5 := .func (.func 51) #[] #[.pointer (some ⟨ga, 0, none⟩), .pointer (some ⟨gb, 0, none⟩)]) (v6 := .func (.func 52) #[] #[.pointer (some ⟨ga, 0, none⟩), .pointer (some ⟨gb, 0, none⟩)]) (v7 := .func (.func 53) #[] #[.pointer (some ⟨ga, 0, none⟩), .pointer (some ⟨gb, 0, none⟩)]) HBR.out); generalize put8 wR gR (.func (.func 45) #[] #[.pointer (some ⟨ga, 0, none⟩), .pointer (some ⟨gb, 0, none⟩)]) (.func (.func 46) #[] #[.pointer (some ⟨ga, 0, none⟩), .pointer (some ⟨gb, 0, none⟩)]) (.func (.func 47) #[] #[.pointer (some ⟨gb, 0, none⟩), .pointer (some ⟨gt, 0, none⟩), .pointer (some ⟨gj, 0, none⟩), .pointer (some ⟨gi, 0, none⟩)]) (.func (.func 48) #[] #[.pointer (some ⟨ga, 0, none⟩), .pointer (some ⟨gb, 0, none⟩), .pointer (some ⟨gt, 0, none⟩), .pointer (some ⟨gi, 0, none⟩), .pointer (some ⟨gj, 0, none⟩)]) (.func (.func 49) #[] #[.pointer (some ⟨ga, 0, none⟩), .pointer (some ⟨gb, 0, none⟩), .pointer (some ⟨gt, 0, none⟩), .pointer (some ⟨gi, 0, none⟩), .pointer (some ⟨gj, 0, none⟩)]) (.func (.func 51) #[] #[.pointer (some ⟨ga, 0, none⟩), .pointer (some ⟨gb, 0, none⟩)]) (.func (.func 52) #[] #[.pointer (some ⟨ga, 0, none⟩), .pointer (some ⟨gb, 0, none⟩)]) (.func (.func 53) #[] #[.pointer (some ⟨ga, 0, none⟩), .pointer (some ⟨gb, 0, none⟩)]) = w9 at HB79 HR9 ⊢; have a3n : w9.cell? ⟨ga, 3, none⟩ = some (.int .i64 a.f3) := pw_cell_below HB79.out a3; have b3n : w9.cell? ⟨gb, 3, none⟩ = some (.int .i64 b.f3) := pw_cell_below HB79.out b3))
     go_ret
     exact ⟨congrArg (fun x => Ending.returned (.bool x)) (show false = dirW c a b i xi xj yj by rw [HD.out, h3]; rfl), below_then HB7.out HB7.out.size HB79.out⟩
    | true =>
     go_wp2_with (first | ((with_reducible refine gate_dst (N := 9) rfl ?_); refine box_event ?hg (N := 9) ?hd (cs := #[.nilFunc, .nilFunc, .nilFunc, .nilFunc, .nilFunc, .nilFunc, .nilFunc, .nilFunc]) (t := 87) ?hr ?_; (case hd => rfl); (case hg => rfl); (case hr => first | (go_simp; done) | (go_simp; rfl)); intro gR hgR wR hbR hbelR; have HBR := Aside0.mk hbR; have HLR := Aside0.mk hbelR; have HGR := Aside0.mk hgR; clear hbR hbelR hgR) | ((with_reducible refine gate_store (t := 87) (p := 9) (v := .tmp 49) rfl ?_); have hs0 : wR.cell? ⟨gR, 0, none⟩ = some .nilFunc := (blk_cell HBR.out 0).trans rfl; have hf0 : wR.frozen? ⟨gR, 0, none⟩ = false := blk_frozen HBR.out 0; have hs1 : wR.cell? ⟨gR, 1, none⟩ = some .nilFunc := (blk_cell HBR.out 1).trans rfl; have hf1 : wR.frozen? ⟨gR, 1, none⟩ = false := blk_frozen HBR.out 1; have hs2 : wR.cell? ⟨gR, 2, none⟩ = some .nilFunc := (blk_cell HBR.out 2).trans rfl; have hf2 : wR.frozen? ⟨gR, 2, none⟩ = false := blk_frozen HBR.out 2; have hs3 : wR.cell? ⟨gR, 3, none⟩ = some .nilFunc := (blk_cell HBR.out 3).trans rfl; have hf3 : wR.frozen? ⟨gR, 3, none⟩ = false := blk_frozen HBR.out 3; have hs4 : wR.cell? ⟨gR, 4, none⟩ = some .nilFunc := (blk_cell HBR.out 4).trans rfl; have hf4 : wR.frozen? ⟨gR, 4, none⟩ = false := blk_frozen HBR.out 4; have hs5 : wR.cell? ⟨gR, 5, none⟩ = some .nilFunc := (blk_cell HBR.out 5).trans rfl; have hf5 : wR.frozen? ⟨gR, 5, none⟩ = false := blk_frozen HBR.out 5; have hs6 : wR.cell? ⟨gR, 6, none⟩ = some .nilFunc := (blk_cell HBR.out 6).trans rfl; have hf6 : wR.frozen? ⟨gR, 6, none⟩ = false := blk_frozen HBR.out 6; have hs7 : wR.cell? ⟨gR, 7, none⟩ = some .nilFunc := (blk_cell HBR.out 7).trans rfl; have hf7 : wR.frozen? ⟨gR, 7, none⟩ = false := blk_frozen HBR.out 7; refine skipL_ (w1 := put8 wR gR (.func (.func 45) #[] #[.pointer (some ⟨ga, 0, none⟩), .pointer (some ⟨gb, 0, none⟩)]) (.func (.func 46) #[] #[.pointer (some ⟨ga, 0, none⟩), .pointer (some ⟨gb, 0, none⟩)]) (.func (.func 47) #[] #[.pointer (some ⟨gb, 0, none⟩), .pointer (some ⟨gt, 0, none⟩), .pointer (some ⟨gj, 0, none⟩), .pointer (some ⟨gi, 0, none⟩)]) (.func (.func 48) #[] #[.pointer (some ⟨ga, 0, none⟩), .pointer (some ⟨gb, 0, none⟩), .pointer (some ⟨gt, 0, none⟩), .pointer (some ⟨gi, 0, none⟩), .pointer (some ⟨gj, 0, none⟩)]) (.func (.func 49) #[] #[.pointer (some ⟨ga, 0, none⟩), .pointer (some ⟨gb, 0, none⟩), .pointer (some ⟨gt, 0, none⟩), .pointer (some ⟨gi, 0, none⟩), .pointer (some ⟨gj, 0, none⟩)]) (.func (.func 51) #[] #[.pointer (some ⟨ga, 0, none⟩), .pointer (some ⟨gb, 0, none⟩)]) (.func (.func 52) #[] #[.pointer (some ⟨ga, 0, none⟩), .pointer (some ⟨gb, 0, none⟩)]) (.func (.func 53) #[] #[.pointer (some ⟨ga, 0, none⟩), .pointer (some ⟨gb, 0, none⟩)])) rfl rfl (by go_simp; rfl) ?_; clear hs0 hf0 hs1 hf1 hs2 hf2 hs3 hf3 hs4 hf4 hs5 hf5 hs6 hf6 hs7 hf7; have HB79 := Aside0.mk (put8_below (v0 := .func (.func 45) #[] #[.pointer (some ⟨ga, 0, none⟩), .pointer (some ⟨gb, 0, none⟩)]) (v1 := .func (.func 46) #[] #[.pointer (some ⟨ga, 0, none⟩), .pointer (some ⟨gb, 0, none⟩)]) (v2 := .func (.func 47) #[] #[.pointer (some ⟨gb, 0, none⟩), .pointer (some ⟨gt, 0, none⟩), .pointer (some ⟨gj, 0, none⟩), .pointer (some ⟨gi, 0, none⟩)]) (v3 := .func (.func 48) #[] #[.pointer (some ⟨ga, 0, none⟩), .pointer (some ⟨gb, 0, none⟩), .pointer (some ⟨gt, 0, none⟩), .pointer (some ⟨gi, 0, none⟩), .pointer (some ⟨gj, 0, none⟩)]) (v4 := .func (.func 49) #[] #[.pointer (some ⟨ga, 0, none⟩), .pointer (some ⟨gb, 0, none⟩), .pointer (some ⟨gt, 0, none⟩), .pointer (some ⟨gi, 0, none⟩), .pointer (some ⟨gj, 0, none⟩)]) (v5 := .func (.func 51) #[] #[.pointer (some ⟨ga, 0, none⟩), .pointer (some ⟨gb, 0, none⟩)]) (v6 := .func (.func 52) #[] #[.pointer (some ⟨ga, 0, none⟩), .pointer (some ⟨gb, 0, none⟩)]) (v7 := .func (.func 53) #[] #[.pointer (some ⟨ga, 0, none⟩), .pointer (some ⟨gb, 0, none⟩)]) HLR.out (Nat.le_of_eq HGR.out.symm)); have HR9 := Aside0.mk (put8_blk (v0 := .func (.func 45) #[] #[.pointer (some ⟨ga, 0, none⟩), .pointer (some ⟨gb, 0, none⟩)]) (v1 := .func (.func 46) #[] #[.pointer (some ⟨ga, 0, none⟩), .pointer (some ⟨gb, 0, none⟩)]) (v2 := .func (.func 47) #[] #[.pointer (some ⟨gb, 0, none⟩), .pointer (some ⟨gt, 0, none⟩), .pointer (some ⟨gj, 0, none⟩), .pointer (some ⟨gi, 0, none⟩)]) (v3 := .func (.func 48) #[] #[.pointer (some ⟨ga, 0, none⟩), .pointer (some ⟨gb, 0, none⟩), .pointer (some ⟨gt, 0, none⟩), .pointer (some ⟨gi, 0, none⟩), .pointer (some ⟨gj, 0, none⟩)]) (v4 := .func (.func 49) #[] #[.pointer (some ⟨ga, 0, none⟩), .pointer (some ⟨gb, 0, none⟩), .pointer (some ⟨gt, 0, none⟩), .pointer (some ⟨gi, 0, none⟩), .pointer (some ⟨gj, 0, none⟩)]) (v5 := .func (.func 51) #[] #[.pointer (some ⟨ga, 0, none⟩), .pointer (some ⟨gb, 0, none⟩)]) (v6 := .func (.func 52) #[] #[.pointer (some ⟨ga, 0, none⟩), .pointer (some ⟨gb, 0, none⟩)]) (v7 := .func (.func 53) #[] #[.pointer (some ⟨ga, 0, none⟩), .pointer (some ⟨gb, 0, none⟩)]) HBR.out); generalize put8 wR gR (.func (.func 45) #[] #[.pointer (some ⟨ga, 0, none⟩), .pointer (some ⟨gb, 0, none⟩)]) (.func (.func 46) #[] #[.pointer (some ⟨ga, 0, none⟩), .pointer (some ⟨gb, 0, none⟩)]) (.func (.func 47) #[] #[.pointer (some ⟨gb, 0, none⟩), .pointer (some ⟨gt, 0, none⟩), .pointer (some ⟨gj, 0, none⟩), .pointer (some ⟨gi, 0, none⟩)]) (.func (.func 48) #[] #[.pointer (some ⟨ga, 0, none⟩), .pointer (some ⟨gb, 0, none⟩), .pointer (some ⟨gt, 0, none⟩), .pointer (some ⟨gi, 0, none⟩), .pointer (some ⟨gj, 0, none⟩)]) (.func (.func 49) #[] #[.pointer (some ⟨ga, 0, none⟩), .pointer (some ⟨gb, 0, none⟩), .pointer (some ⟨gt, 0, none⟩), .pointer (some ⟨gi, 0, none⟩), .pointer (some ⟨gj, 0, none⟩)]) (.func (.func 51) #[] #[.pointer (some ⟨ga, 0, none⟩), .pointer (some ⟨gb, 0, none⟩)]) (.func (.func 52) #[] #[.pointer (some ⟨ga, 0, none⟩), .pointer (some ⟨gb, 0, none⟩)]) (.func (.func 53) #[] #[.pointer (some ⟨ga, 0, none⟩), .pointer (some ⟨gb, 0, none⟩)]) = w9 at HB79 HR9 ⊢; have a3n : w9.cell? ⟨ga, 3, none⟩ = some (.int .i64 a.f3) := pw_cell_below HB79.out a3; have b3n : w9.cell? ⟨gb, 3, none⟩ = some (.int .i64 b.f3) := pw_cell_below HB79.out b3) | ((with_reducible refine gate_callee (f := 54) rfl ?_); (try (refine gate_guard (by rfl) ?_; dsimp only)); refine goesL_ (some 57) rfl rfl Try.func54 (by kernel_rfl) rfl #[.slice (some ⟨gR, 0, none⟩) 8 8, .func (.func 55) #[] #[]] rfl (by simp [Act.eval]) ?_; refine (rules_any W w7 w9 g ga gb gt gi gj gR a b i j pl la c xi xj yj HXi.out HXj.out HYj.out (by have := Hpl.out; have := HI.out; omega) (by have := Hpl.out; have := HJ.out; omega) (by have := Hla.out; have := HJ.out; omega) HEa.out HEb.out HT7.out hct7 hci7 hcj7 HB79.out HR9.out).mono ?_; rintro e w' ⟨rfl, hb10⟩; have HB10 := Aside0.mk hb10; clear hb10; refine ⟨_, rfl, ?_⟩))
     go_ret
     exact ⟨congrArg (fun x => Ending.returned (.bool x)) (show anyR c a b (i : Int) xi xj yj = dirW c a b i xi xj yj by rw [HD.out, h3]; rfl), below_then (below_then HB7.out HB7.out.size HB79.out) (below_then HB7.out HB7.out.size HB79.out).size HB10.out⟩
   | true =>
    have h2b : (a.f3 == b.f0) = false := by have := H2.out; rw [h2a] at this; simpa using this
    cases h3 : a.f3 == b.f3 with
    | false =>
     go_wp2_with (first | ((with_reducible refine gate_dst (N := 9) rfl ?_); refine box_event ?hg (N := 9) ?hd (cs := #[.nilFunc, .nilFunc, .nilFunc, .nilFunc, .nilFunc, .nilFunc, .nilFunc, .nilFunc]) (t := 87) ?hr ?_; (case hd => rfl); (case hg => rfl); (case hr => first | (go_simp; done) | (go_simp; rfl)); intro gR hgR wR hbR hbelR; have HBR := Aside0.mk hbR; have HLR := Aside0.mk hbelR; have HGR := Aside0.mk hgR; clear hbR hbelR hgR) | ((with_reducible refine gate_store (t := 87) (p := 9) (v := .tmp 49) rfl ?_); have hs0 : wR.cell? ⟨gR, 0, none⟩ = some .nilFunc := (blk_cell HBR.out 0).trans rfl; have hf0 : wR.frozen? ⟨gR, 0, none⟩ = false := blk_frozen HBR.out 0; have hs1 : wR.cell? ⟨gR, 1, none⟩ = some .nilFunc := (blk_cell HBR.out 1).trans rfl; have hf1 : wR.frozen? ⟨gR, 1, none⟩ = false := blk_frozen HBR.out 1; have hs2 : wR.cell? ⟨gR, 2, none⟩ = some .nilFunc := (blk_cell HBR.out 2).trans rfl; have hf2 : wR.frozen? ⟨gR, 2, none⟩ = false := blk_frozen HBR.out 2; have hs3 : wR.cell? ⟨gR, 3, none⟩ = some .nilFunc := (blk_cell HBR.out 3).trans rfl; have hf3 : wR.frozen? ⟨gR, 3, none⟩ = false := blk_frozen HBR.out 3; have hs4 : wR.cell? ⟨gR, 4, none⟩ = some .nilFunc := (blk_cell HBR.out 4).trans rfl; have hf4 : wR.frozen? ⟨gR, 4, none⟩ = false := blk_frozen HBR.out 4; have hs5 : wR.cell? ⟨gR, 5, none⟩ = some .nilFunc := (blk_cell HBR.out 5).trans rfl; have hf5 : wR.frozen? ⟨gR, 5, none⟩ = false := blk_frozen HBR.out 5; have hs6 : wR.cell? ⟨gR, 6, none⟩ = some .nilFunc := (blk_cell HBR.out 6).trans rfl; have hf6 : wR.frozen? ⟨gR, 6, none⟩ = false := blk_frozen HBR.out 6; have hs7 : wR.cell? ⟨gR, 7, none⟩ = some .nilFunc := (blk_cell HBR.out 7).trans rfl; have hf7 : wR.frozen? ⟨gR, 7, none⟩ = false := blk_frozen HBR.out 7; refine skipL_ (w1 := put8 wR gR (.func (.func 45) #[] #[.pointer (some ⟨ga, 0, none⟩), .pointer (some ⟨gb, 0, none⟩)]) (.func (.func 46) #[] #[.pointer (some ⟨ga, 0, none⟩), .pointer (some ⟨gb, 0, none⟩)]) (.func (.func 47) #[] #[.pointer (some ⟨gb, 0, none⟩), .pointer (some ⟨gt, 0, none⟩), .pointer (some ⟨gj, 0, none⟩), .pointer (some ⟨gi, 0, none⟩)]) (.func (.func 48) #[] #[.pointer (some ⟨ga, 0, none⟩), .pointer (some ⟨gb, 0, none⟩), .pointer (some ⟨gt, 0, none⟩), .pointer (some ⟨gi, 0, none⟩), .pointer (some ⟨gj, 0, none⟩)]) (.func (.func 49) #[] #[.pointer (some ⟨ga, 0, none⟩), .pointer (some ⟨gb, 0, none⟩), .pointer (some ⟨gt, 0, none⟩), .pointer (some ⟨gi, 0, none⟩), .pointer (some ⟨gj, 0, none⟩)]) (.func (.func 51) #[] #[.pointer (some ⟨ga, 0, none⟩), .pointer (some ⟨gb, 0, none⟩)]) (.func (.func 52) #[] #[.pointer (some ⟨ga, 0, none⟩), .pointer (some ⟨gb, 0, none⟩)]) (.func (.func 53) #[] #[.pointer (some ⟨ga, 0, none⟩), .pointer (some ⟨gb, 0, none⟩)])) rfl rfl (by go_simp; rfl) ?_; clear hs0 hf0 hs1 hf1 hs2 hf2 hs3 hf3 hs4 hf4 hs5 hf5 hs6 hf6 hs7 hf7; have HB79 := Aside0.mk (put8_below (v0 := .func (.func 45) #[] #[.pointer (some ⟨ga, 0, none⟩), .pointer (some ⟨gb, 0, none⟩)]) (v1 := .func (.func 46) #[] #[.pointer (some ⟨ga, 0, none⟩), .pointer (some ⟨gb, 0, none⟩)]) (v2 := .func (.func 47) #[] #[.pointer (some ⟨gb, 0, none⟩), .pointer (some ⟨gt, 0, none⟩), .pointer (some ⟨gj, 0, none⟩), .pointer (some ⟨gi, 0, none⟩)]) (v3 := .func (.func 48) #[] #[.pointer (some ⟨ga, 0, none⟩), .pointer (some ⟨gb, 0, none⟩), .pointer (some ⟨gt, 0, none⟩), .pointer (some ⟨gi, 0, none⟩), .pointer (some ⟨gj, 0, none⟩)]) (v4 := .func (.func 49) #[] #[.pointer (some ⟨ga, 0, none⟩), .pointer (some ⟨gb, 0, none⟩), .pointer (some ⟨gt, 0, none⟩), .pointer (some ⟨gi, 0, none⟩), .pointer (some ⟨gj, 0, none⟩)]) (v5 := .func (.func 51) #[] #[.pointer (some ⟨ga, 0, none⟩), .pointer (some ⟨gb, 0, none⟩)]) (v6 := .func (.func 52) #[] #[.pointer (some ⟨ga, 0, none⟩), .pointer (some ⟨gb, 0, none⟩)]) (v7 := .func (.func 53) #[] #[.pointer (some ⟨ga, 0, none⟩), .pointer (some ⟨gb, 0, none⟩)]) HLR.out (Nat.le_of_eq HGR.out.symm)); have HR9 := Aside0.mk (put8_blk (v0 := .func (.func 45) #[] #[.pointer (some ⟨ga, 0, none⟩), .pointer (some ⟨gb, 0, none⟩)]) (v1 := .func (.func 46) #[] #[.pointer (some ⟨ga, 0, none⟩), .pointer (some ⟨gb, 0, none⟩)]) (v2 := .func (.func 47) #[] #[.pointer (some ⟨gb, 0, none⟩), .pointer (some ⟨gt, 0, none⟩), .pointer (some ⟨gj, 0, none⟩), .pointer (some ⟨gi, 0, none⟩)]) (v3 := .func (.func 48) #[] #[.pointer (some ⟨ga, 0, none⟩), .pointer (some ⟨gb, 0, none⟩), .pointer (some ⟨gt, 0, none⟩), .pointer (some ⟨gi, 0, none⟩), .pointer (some ⟨gj, 0, none⟩)]) (v4 := .func (.func 49) #[] #[.pointer (some ⟨ga, 0, none⟩), .pointer (some ⟨gb, 0, none⟩), .pointer (some ⟨gt, 0, none⟩), .pointer (some ⟨gi, 0, none⟩), .pointer (some ⟨gj, 0, none⟩)]) (v5 := .func (.func 51) #[] #[.pointer (some ⟨ga, 0, none⟩), .pointer (some ⟨gb, 0, none⟩)]) (v6 := .func (.func 52) #[] #[.pointer (some ⟨ga, 0, none⟩), .pointer (some ⟨gb, 0, none⟩)]) (v7 := .func (.func 53) #[] #[.pointer (some ⟨ga, 0, none⟩), .pointer (some ⟨gb, 0, none⟩)]) HBR.out); generalize put8 wR gR (.func (.func 45) #[] #[.pointer (some ⟨ga, 0, none⟩), .pointer (some ⟨gb, 0, none⟩)]) (.func (.func 46) #[] #[.pointer (some ⟨ga, 0, none⟩), .pointer (some ⟨gb, 0, none⟩)]) (.func (.func 47) #[] #[.pointer (some ⟨gb, 0, none⟩), .pointer (some ⟨gt, 0, none⟩), .pointer (some ⟨gj, 0, none⟩), .pointer (some ⟨gi, 0, none⟩)]) (.func (.func 48) #[] #[.pointer (some ⟨ga, 0, none⟩), .pointer (some ⟨gb, 0, none⟩), .pointer (some ⟨gt, 0, none⟩), .pointer (some ⟨gi, 0, none⟩), .pointer (some ⟨gj, 0, none⟩)]) (.func (.func 49) #[] #[.pointer (some ⟨ga, 0, none⟩), .pointer (some ⟨gb, 0, none⟩), .pointer (some ⟨gt, 0, none⟩), .pointer (some ⟨gi, 0, none⟩), .pointer (some ⟨gj, 0, none⟩)]) (.func (.func 51) #[] #[.pointer (some ⟨ga, 0, none⟩), .pointer (some ⟨gb, 0, none⟩)]) (.func (.func 52) #[] #[.pointer (some ⟨ga, 0, none⟩), .pointer (some ⟨gb, 0, none⟩)]) (.func (.func 53) #[] #[.pointer (some ⟨ga, 0, none⟩), .pointer (some ⟨gb, 0, none⟩)]) = w9 at HB79 HR9 ⊢; have a3n : w9.cell? ⟨ga, 3, none⟩ = some (.int .i64 a.f3) := pw_cell_below HB79.out a3; have b3n : w9.cell? ⟨gb, 3, none⟩ = some (.int .i64 b.f3) := pw_cell_below HB79.out b3))
     go_ret
     exact ⟨congrArg (fun x => Ending.returned (.bool x)) (show false = dirW c a b i xi xj yj by rw [HD.out, h3]; rfl), below_then HB7.out HB7.out.size HB79.out⟩
    | true =>
     go_wp2_with (first | ((with_reducible refine gate_dst (N := 9) rfl ?_); refine box_event ?hg (N := 9) ?hd (cs := #[.nilFunc, .nilFunc, .nilFunc, .nilFunc, .nilFunc, .nilFunc, .nilFunc, .nilFunc]) (t := 87) ?hr ?_; (case hd => rfl); (case hg => rfl); (case hr => first | (go_simp; done) | (go_simp; rfl)); intro gR hgR wR hbR hbelR; have HBR := Aside0.mk hbR; have HLR := Aside0.mk hbelR; have HGR := Aside0.mk hgR; clear hbR hbelR hgR) | ((with_reducible refine gate_store (t := 87) (p := 9) (v := .tmp 49) rfl ?_); have hs0 : wR.cell? ⟨gR, 0, none⟩ = some .nilFunc := (blk_cell HBR.out 0).trans rfl; have hf0 : wR.frozen? ⟨gR, 0, none⟩ = false := blk_frozen HBR.out 0; have hs1 : wR.cell? ⟨gR, 1, none⟩ = some .nilFunc := (blk_cell HBR.out 1).trans rfl; have hf1 : wR.frozen? ⟨gR, 1, none⟩ = false := blk_frozen HBR.out 1; have hs2 : wR.cell? ⟨gR, 2, none⟩ = some .nilFunc := (blk_cell HBR.out 2).trans rfl; have hf2 : wR.frozen? ⟨gR, 2, none⟩ = false := blk_frozen HBR.out 2; have hs3 : wR.cell? ⟨gR, 3, none⟩ = some .nilFunc := (blk_cell HBR.out 3).trans rfl; have hf3 : wR.frozen? ⟨gR, 3, none⟩ = false := blk_frozen HBR.out 3; have hs4 : wR.cell? ⟨gR, 4, none⟩ = some .nilFunc := (blk_cell HBR.out 4).trans rfl; have hf4 : wR.frozen? ⟨gR, 4, none⟩ = false := blk_frozen HBR.out 4; have hs5 : wR.cell? ⟨gR, 5, none⟩ = some .nilFunc := (blk_cell HBR.out 5).trans rfl; have hf5 : wR.frozen? ⟨gR, 5, none⟩ = false := blk_frozen HBR.out 5; have hs6 : wR.cell? ⟨gR, 6, none⟩ = some .nilFunc := (blk_cell HBR.out 6).trans rfl; have hf6 : wR.frozen? ⟨gR, 6, none⟩ = false := blk_frozen HBR.out 6; have hs7 : wR.cell? ⟨gR, 7, none⟩ = some .nilFunc := (blk_cell HBR.out 7).trans rfl; have hf7 : wR.frozen? ⟨gR, 7, none⟩ = false := blk_frozen HBR.out 7; refine skipL_ (w1 := put8 wR gR (.func (.func 45) #[] #[.pointer (some ⟨ga, 0, none⟩), .pointer (some ⟨gb, 0, none⟩)]) (.func (.func 46) #[] #[.pointer (some ⟨ga, 0, none⟩), .pointer (some ⟨gb, 0, none⟩)]) (.func (.func 47) #[] #[.pointer (some ⟨gb, 0, none⟩), .pointer (some ⟨gt, 0, none⟩), .pointer (some ⟨gj, 0, none⟩), .pointer (some ⟨gi, 0, none⟩)]) (.func (.func 48) #[] #[.pointer (some ⟨ga, 0, none⟩), .pointer (some ⟨gb, 0, none⟩), .pointer (some ⟨gt, 0, none⟩), .pointer (some ⟨gi, 0, none⟩), .pointer (some ⟨gj, 0, none⟩)]) (.func (.func 49) #[] #[.pointer (some ⟨ga, 0, none⟩), .pointer (some ⟨gb, 0, none⟩), .pointer (some ⟨gt, 0, none⟩), .pointer (some ⟨gi, 0, none⟩), .pointer (some ⟨gj, 0, none⟩)]) (.func (.func 51) #[] #[.pointer (some ⟨ga, 0, none⟩), .pointer (some ⟨gb, 0, none⟩)]) (.func (.func 52) #[] #[.pointer (some ⟨ga, 0, none⟩), .pointer (some ⟨gb, 0, none⟩)]) (.func (.func 53) #[] #[.pointer (some ⟨ga, 0, none⟩), .pointer (some ⟨gb, 0, none⟩)])) rfl rfl (by go_simp; rfl) ?_; clear hs0 hf0 hs1 hf1 hs2 hf2 hs3 hf3 hs4 hf4 hs5 hf5 hs6 hf6 hs7 hf7; have HB79 := Aside0.mk (put8_below (v0 := .func (.func 45) #[] #[.pointer (some ⟨ga, 0, none⟩), .pointer (some ⟨gb, 0, none⟩)]) (v1 := .func (.func 46) #[] #[.pointer (some ⟨ga, 0, none⟩), .pointer (some ⟨gb, 0, none⟩)]) (v2 := .func (.func 47) #[] #[.pointer (some ⟨gb, 0, none⟩), .pointer (some ⟨gt, 0, none⟩), .pointer (some ⟨gj, 0, none⟩), .pointer (some ⟨gi, 0, none⟩)]) (v3 := .func (.func 48) #[] #[.pointer (some ⟨ga, 0, none⟩), .pointer (some ⟨gb, 0, none⟩), .pointer (some ⟨gt, 0, none⟩), .pointer (some ⟨gi, 0, none⟩), .pointer (some ⟨gj, 0, none⟩)]) (v4 := .func (.func 49) #[] #[.pointer (some ⟨ga, 0, none⟩), .pointer (some ⟨gb, 0, none⟩), .pointer (some ⟨gt, 0, none⟩), .pointer (some ⟨gi, 0, none⟩), .pointer (some ⟨gj, 0, none⟩)]) (v5 := .func (.func 51) #[] #[.pointer (some ⟨ga, 0, none⟩), .pointer (some ⟨gb, 0, none⟩)]) (v6 := .func (.func 52) #[] #[.pointer (some ⟨ga, 0, none⟩), .pointer (some ⟨gb, 0, none⟩)]) (v7 := .func (.func 53) #[] #[.pointer (some ⟨ga, 0, none⟩), .pointer (some ⟨gb, 0, none⟩)]) HLR.out (Nat.le_of_eq HGR.out.symm)); have HR9 := Aside0.mk (put8_blk (v0 := .func (.func 45) #[] #[.pointer (some ⟨ga, 0, none⟩), .pointer (some ⟨gb, 0, none⟩)]) (v1 := .func (.func 46) #[] #[.pointer (some ⟨ga, 0, none⟩), .pointer (some ⟨gb, 0, none⟩)]) (v2 := .func (.func 47) #[] #[.pointer (some ⟨gb, 0, none⟩), .pointer (some ⟨gt, 0, none⟩), .pointer (some ⟨gj, 0, none⟩), .pointer (some ⟨gi, 0, none⟩)]) (v3 := .func (.func 48) #[] #[.pointer (some ⟨ga, 0, none⟩), .pointer (some ⟨gb, 0, none⟩), .pointer (some ⟨gt, 0, none⟩), .pointer (some ⟨gi, 0, none⟩), .pointer (some ⟨gj, 0, none⟩)]) (v4 := .func (.func 49) #[] #[.pointer (some ⟨ga, 0, none⟩), .pointer (some ⟨gb, 0, none⟩), .pointer (some ⟨gt, 0, none⟩), .pointer (some ⟨gi, 0, none⟩), .pointer (some ⟨gj, 0, none⟩)]) (v5 := .func (.func 51) #[] #[.pointer (some ⟨ga, 0, none⟩), .pointer (some ⟨gb, 0, none⟩)]) (v6 := .func (.func 52) #[] #[.pointer (some ⟨ga, 0, none⟩), .pointer (some ⟨gb, 0, none⟩)]) (v7 := .func (.func 53) #[] #[.pointer (some ⟨ga, 0, none⟩), .pointer (some ⟨gb, 0, none⟩)]) HBR.out); generalize put8 wR gR (.func (.func 45) #[] #[.pointer (some ⟨ga, 0, none⟩), .pointer (some ⟨gb, 0, none⟩)]) (.func (.func 46) #[] #[.pointer (some ⟨ga, 0, none⟩), .pointer (some ⟨gb, 0, none⟩)]) (.func (.func 47) #[] #[.pointer (some ⟨gb, 0, none⟩), .pointer (some ⟨gt, 0, none⟩), .pointer (some ⟨gj, 0, none⟩), .pointer (some ⟨gi, 0, none⟩)]) (.func (.func 48) #[] #[.pointer (some ⟨ga, 0, none⟩), .pointer (some ⟨gb, 0, none⟩), .pointer (some ⟨gt, 0, none⟩), .pointer (some ⟨gi, 0, none⟩), .pointer (some ⟨gj, 0, none⟩)]) (.func (.func 49) #[] #[.pointer (some ⟨ga, 0, none⟩), .pointer (some ⟨gb, 0, none⟩), .pointer (some ⟨gt, 0, none⟩), .pointer (some ⟨gi, 0, none⟩), .pointer (some ⟨gj, 0, none⟩)]) (.func (.func 51) #[] #[.pointer (some ⟨ga, 0, none⟩), .pointer (some ⟨gb, 0, none⟩)]) (.func (.func 52) #[] #[.pointer (some ⟨ga, 0, none⟩), .pointer (some ⟨gb, 0, none⟩)]) (.func (.func 53) #[] #[.pointer (some ⟨ga, 0, none⟩), .pointer (some ⟨gb, 0, none⟩)]) = w9 at HB79 HR9 ⊢; have a3n : w9.cell? ⟨ga, 3, none⟩ = some (.int .i64 a.f3) := pw_cell_below HB79.out a3; have b3n : w9.cell? ⟨gb, 3, none⟩ = some (.int .i64 b.f3) := pw_cell_below HB79.out b3) | ((with_reducible refine gate_callee (f := 54) rfl ?_); (try (refine gate_guard (by rfl) ?_; dsimp only)); refine goesL_ (some 57) rfl rfl Try.func54 (by kernel_rfl) rfl #[.slice (some ⟨gR, 0, none⟩) 8 8, .func (.func 55) #[] #[]] rfl (by simp [Act.eval]) ?_; refine (rules_any W w7 w9 g ga gb gt gi gj gR a b i j pl la c xi xj yj HXi.out HXj.out HYj.out (by have := Hpl.out; have := HI.out; omega) (by have := Hpl.out; have := HJ.out; omega) (by have := Hla.out; have := HJ.out; omega) HEa.out HEb.out HT7.out hct7 hci7 hcj7 HB79.out HR9.out).mono ?_; rintro e w' ⟨rfl, hb10⟩; have HB10 := Aside0.mk hb10; clear hb10; refine ⟨_, rfl, ?_⟩))
     go_ret
     exact ⟨congrArg (fun x => Ending.returned (.bool x)) (show anyR c a b (i : Int) xi xj yj = dirW c a b i xi xj yj by rw [HD.out, h3]; rfl), below_then (below_then HB7.out HB7.out.size HB79.out) (below_then HB7.out HB7.out.size HB79.out).size HB10.out⟩
end Go.Proofs.Ytojkeabecjlaeaa.P
