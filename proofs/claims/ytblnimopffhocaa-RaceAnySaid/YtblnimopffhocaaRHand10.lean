/- The document's Conflict, walked. -/
import Derived.Test.YtblnimopffhocaaRHand9
namespace Go.Proofs.Ytblnimopffhocaa.P
open Go.RowKit Go.Proofs.YtblnimopffhocaaW.PrintWords Go.Proofs.YtblnimopffhocaaW.PrintLast Go.Proofs.YtblnimopffhocaaW.PrintMore Go.Proofs.YtblnimopffhocaaX
set_option linter.unusedVariables false
set_option linter.unusedSimpArgs false
def conflP (a b : S40) : Bool := ((a.f2 == 7 || a.f2 == 8) && (b.f2 == 7 || b.f2 == 8)) && (a.f3 == b.f3 && (a.f0 != b.f0 && (a.f2 == 8 || b.f2 == 8)))
set_option maxHeartbeats 4000000 in
theorem Conflict_any (W : World) (a b : S40) : Calls Try.prog 22 #[.agg #[.int .i64 a.f0, .int .i64 a.f1, .int .u8 a.f2, .int .i64 a.f3, .int .i64 a.f4, .int .i64 a.f5], .agg #[.int .i64 b.f0, .int .i64 b.f1, .int .u8 b.f2, .int .i64 b.f3, .int .i64 b.f4, .int .i64 b.f5]] W fun e w' => e = .returned (.bool (conflP a b)) ∧ Below W.heap.size W w' := by
 have hne : (a.f0 != b.f0) = !(a.f0 == b.f0) := rfl
 cases p1 : a.f2 == 7 <;> cases p2 : a.f2 == 8 <;> cases q1 : b.f2 == 7 <;> cases q2 : b.f2 == 8 <;> cases r1 : a.f3 == b.f3 <;> cases s1 : a.f0 == b.f0
 all_goals
  have s2 := hne
  rw [s1] at s2
  clear hne
  obtain ⟨v, hv⟩ : ∃ v, conflP a b = v := ⟨_, rfl⟩
  have HV := Aside0.mk hv
  unfold conflP at hv
  simp only [p1, p2, q1, q2, r1, s1, s2, Bool.or_true, Bool.or_false, Bool.true_or, Bool.false_or, Bool.and_true, Bool.and_false, Bool.true_and, Bool.false_and, Bool.not_true, Bool.not_false, Bool.or_self, Bool.and_self] at hv
  rw [HV.out, ← hv]
  clear HV hv v
  go_enter Try.func22, Try.ntmps22
  go_wp2_with (first | ((with_reducible refine gate_dst (N := 2) rfl ?_); refine box_event ?hg (N := 2) ?hd (cs := #[.int .i64 a.f0, .int .i64 a.f1, .int .u8 a.f2, .int .i64 a.f3, .int .i64 a.f4, .int .i64 a.f5]) (t := 40) ?hr ?_; (case hd => rfl); (case hg => rfl); (case hr => first | (go_simp; done) | (go_simp; rfl)); intro g2 hg2_ w1 hbg2_ hlg2_; have HNg2 := Aside0.mk hg2_; have HBg2 := Aside0.mk hbg2_; have HLg2 := Aside0.mk hlg2_; clear hg2_ hbg2_ hlg2_) | ((with_reducible refine gate_dst (N := 3) rfl ?_); refine box_event ?hg (N := 3) ?hd (cs := #[.int .i64 b.f0, .int .i64 b.f1, .int .u8 b.f2, .int .i64 b.f3, .int .i64 b.f4, .int .i64 b.f5]) (t := 40) ?hr ?_; (case hd => rfl); (case hg => rfl); (case hr => first | (go_simp; done) | (go_simp; rfl)); intro g3 hg3_ w2 hbg3_ hlg3_; have HNg3 := Aside0.mk hg3_; have HBg3 := Aside0.mk hbg3_; have HLg3 := Aside0.mk hlg3_; clear hg3_ hbg3_ hlg3_; have a0 : w2.cell? ⟨g2, 0, none⟩ = some (.int .i64 a.f0) := (blk_cell ((HLg3.out.block g2 (blk_lt HBg2.out)).trans HBg2.out) 0).trans rfl; have a2 : w2.cell? ⟨g2, 2, none⟩ = some (.int .u8 a.f2) := (blk_cell ((HLg3.out.block g2 (blk_lt HBg2.out)).trans HBg2.out) 2).trans rfl; have a3 : w2.cell? ⟨g2, 3, none⟩ = some (.int .i64 a.f3) := (blk_cell ((HLg3.out.block g2 (blk_lt HBg2.out)).trans HBg2.out) 3).trans rfl; have b0 : w2.cell? ⟨g3, 0, none⟩ = some (.int .i64 b.f0) := (blk_cell HBg3.out 0).trans rfl; have b2 : w2.cell? ⟨g3, 2, none⟩ = some (.int .u8 b.f2) := (blk_cell HBg3.out 2).trans rfl; have b3 : w2.cell? ⟨g3, 3, none⟩ = some (.int .i64 b.f3) := (blk_cell HBg3.out 3).trans rfl))
  go_ret
  exact ⟨rfl, below_then HLg2.out HLg2.out.size HLg3.out⟩
end Go.Proofs.Ytblnimopffhocaa.P
