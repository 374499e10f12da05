/- Direct, Before and Past: what they answer. -/
import Derived.Test.YtojkeabecjlaeaaOHand8
import Derived.Test.YtojkeabecjlaeaaOPure
namespace Go.Proofs.Ytojkeabecjlaeaa.P
open Go.RowKit Go.Proofs.YtojkeabecjlaeaaW.PrintWords Go.Proofs.YtojkeabecjlaeaaW.PrintLast Go.Proofs.YtojkeabecjlaeaaW.PrintMore Go.Proofs.YtojkeabecjlaeaaX
set_option linter.unusedVariables false
set_option linter.unusedSimpArgs false
theorem there_any (W : World) (A1 : Option Addr) (t : List S24) (c1 : Nat) (i j : Int) (hm : t.length ≤ 1000000000) :
 Calls Try.prog 24 #[.slice A1 t.length c1, .int .i64 i, .int .i64 j] W fun e w' => e = .returned (.bool (thereB t i j)) ∧ w' = W := by
 have hm' : (t.length : Int) ≤ 1000000000 := by omega
 clear hm
 unfold thereB
 cases h1 : decide (0 ≤ i) with
 | false =>
  go_enter Try.func24, Try.ntmps24
  go_wp2
  go_ret
  exact ⟨rfl, rfl⟩
 | true =>
  cases h2 : decide (i < j) with
  | false =>
   go_enter Try.func24, Try.ntmps24
   go_wp2
   go_ret
   exact ⟨rfl, rfl⟩
  | true =>
   cases h3 : decide (j < (t.length : Int)) with
   | false =>
    go_enter Try.func24, Try.ntmps24
    go_wp2
    go_ret
    exact ⟨rfl, rfl⟩
   | true =>
    go_enter Try.func24, Try.ntmps24
    go_wp2
    go_ret
    exact ⟨rfl, rfl⟩
theorem made_at {W : World} {g gl ga : Nat} {p0 p1 p2 p4 p5 : Int} {A3 : Option Addr} {c3 : Nat} {l3 : List Int} {A6 : Option Addr} {n6 c6 : Nat} {A1 : Option Addr} {c1 : Nat} {t : List S24} {pl la : Nat → Int}
 (hg : W.heap[g]? = some (trBlk p0 p1 p2 A3 l3.length c3 p4 p5 A6 n6 c6 A1 t.length c1 (.slice (some ⟨gl, 0, none⟩) t.length t.length) (.slice (some ⟨ga, 0, none⟩) t.length t.length)))
 (hl : W.heap[gl]? = some (numsBlk (upTo pl t.length t.length))) (ha : W.heap[ga]? = some (numsBlk (upTo la t.length t.length))) (hC : Kd.C (Kd.int .i64) W A3 l3.length l3) (hc3 : l3.length ≤ c3) (hm : t.length ≤ 1000000000) :
 TrAt W g (upTo pl t.length t.length) (upTo la t.length t.length) l3 := by
 have h1 := numsBlk_C hl (by rw [upTo_length]; exact hm)
 have h2 := numsBlk_C ha (by rw [upTo_length]; exact hm)
 rw [upTo_length] at h1 h2
 exact ⟨⟨_, _, _, (blk_cell hg 8).trans rfl, h1⟩, ⟨_, _, _, (blk_cell hg 9).trans rfl, h2⟩, ⟨_, _, _, (blk_cell hg 3).trans rfl, hc3, hC⟩⟩
theorem upTo_get (F : Nat → Int) {n i : Nat} (hi : i < n) : (upTo F n n).getD i 0 = F i := by
 rw [List.getD_eq_getElem?_getD, List.getElem?_eq_getElem (by rw [upTo_length]; exact hi)]
 simp [upTo, hi]
theorem past_made (W : World) (g gl ga : Nat) (p0 p1 p2 p4 p5 : Int) (A3 : Option Addr) (c3 : Nat) (l3 : List Int) (A6 : Option Addr) (n6 c6 : Nat) (A1 : Option Addr) (c1 : Nat) (t : List S24) (j : Nat) (hj : j < t.length)
 (hg : W.heap[g]? = some (trBlk p0 p1 p2 A3 l3.length c3 p4 p5 A6 n6 c6 A1 t.length c1 (.slice (some ⟨gl, 0, none⟩) t.length t.length) (.slice (some ⟨ga, 0, none⟩) t.length t.length)))
 (hT : TrAt W g (upTo (plU t) t.length t.length) (upTo (laU t) t.length t.length) l3) (hE : Kd.C k24 W A1 t.length t) (hm : t.length ≤ 1000000000) :
 Calls Try.prog 26 #[.pointer (some ⟨g, 0, none⟩), .int .i64 (j : Int)] W fun e w' => ∃ v0_ : Value, e = .returned v0_ ∧ Kd.R Kd.bool 4 w' W.heap.size (fun _ => True) v0_ (marks (dirB l3 t) t.length j) ∧ Below W.heap.size W w' := by
 obtain ⟨r, h1, h2, h3⟩ := outer_reach (fun i k => dirW l3 (t.getD i z24) (t.getD k z24) (i : Int) ((upTo (plU t) t.length t.length).getD i 0) ((upTo (plU t) t.length t.length).getD k 0) ((upTo (laU t) t.length t.length).getD k 0)) t.length j hj
 have hDE : ∀ i k, i < k → k ≤ j → dirW l3 (t.getD i z24) (t.getD k z24) (i : Int) ((upTo (plU t) t.length t.length).getD i 0) ((upTo (plU t) t.length t.length).getD k 0) ((upTo (laU t) t.length t.length).getD k 0) = dirB l3 t i k := fun i k h4 h5 => by
  rw [upTo_get _ (by omega), upTo_get _ (by omega), upTo_get _ (by omega)]
  rfl
 have e : r = marks (dirB l3 t) t.length j := marks_unique hj h2 fun i => (h3 i).trans ⟨fun h => h.congr hDE (Nat.le_refl _), fun h => h.congr (fun i k h4 h5 => (hDE i k h4 h5).symm) (Nat.le_refl _)⟩
 have h4 := past_any W g t _ _ l3 A1 c1 j hT ((blk_cell hg 7).trans rfl) hE hj (upTo_length _ _ _) (upTo_length _ _ _) hm _ r h1
 rw [e] at h4
 exact h4
set_option maxHeartbeats 4000000 in
set_option maxRecDepth 100000 in
theorem Direct_any (W : World) (p0 p1 p2 p4 p5 : Int) (A3 : Option Addr) (c3 : Nat) (l3 : List Int) (A6 : Option Addr) (n6 c6 : Nat) (A1 : Option Addr) (c1 : Nat) (t : List S24) (i j : Int) (hC : Kd.C (Kd.int .i64) W A3 l3.length l3) (hc3 : l3.length ≤ c3) (hE : Kd.C k24 W A1 t.length t) (hm : t.length ≤ 1000000000) :
 Calls Try.prog 18 #[.agg #[.int .i64 p0, .int .i64 p1, .int .i64 p2, .slice A3 l3.length c3, .int .i64 p4, .int .i64 p5, .slice A6 n6 c6], .slice A1 t.length c1, .int .i64 i, .int .i64 j] W fun e w' => e = .returned (.bool (directI l3 t i j)) ∧ Below W.heap.size W w' := by
 have HM := Aside0.mk hm
 have HC := Aside0.mk hC
 have HC3 := Aside0.mk hc3
 have HE := Aside0.mk hE
 clear hm hC hc3 hE
 unfold directI
 cases hb : thereB t i j with
 | false =>
  have HTB := Aside0.mk hb
  clear hb
  go_enter Try.func18, Try.ntmps18
  go_wp2_with (first | ((with_reducible refine gate_dst (N := 4) rfl ?_); refine box_event ?hg (N := 4) ?hd (cs := #[.int .i64 p0, .int .i64 p1, .int .i64 p2, .slice A3 l3.length c3, .int .i64 p4, .int .i64 p5, .slice A6 n6 c6]) (t := 30) ?hr ?_; (case hd => rfl); (case hg => rfl); (case hr => first | (go_simp; done) | (go_simp; rfl)); intro gp hgp wp hbp hbelp; have HBP := Aside0.mk hbp; have HLP := Aside0.mk hbelp; have hp0 : wp.cell? ⟨gp, 0, none⟩ = some (.int .i64 p0) := (blk_cell HBP.out 0).trans rfl; have hp1 : wp.cell? ⟨gp, 1, none⟩ = some (.int .i64 p1) := (blk_cell HBP.out 1).trans rfl; have hp2 : wp.cell? ⟨gp, 2, none⟩ = some (.int .i64 p2) := (blk_cell HBP.out 2).trans rfl; have hp3 : wp.cell? ⟨gp, 3, none⟩ = some (.slice A3 l3.length c3) := (blk_cell HBP.out 3).trans rfl; have hp4 : wp.cell? ⟨gp, 4, none⟩ = some (.int .i64 p4) := (blk_cell HBP.out 4).trans rfl; have hp5 : wp.cell? ⟨gp, 5, none⟩ = some (.int .i64 p5) := (blk_cell HBP.out 5).trans rfl; have hp6 : wp.cell? ⟨gp, 6, none⟩ = some (.slice A6 n6 c6) := (blk_cell HBP.out 6).trans rfl; clear hbp hbelp hgp) | ((with_reducible refine gate_callee (f := 24) rfl ?_); (try (refine gate_guard (by rfl) ?_; dsimp only)); refine goesL_ (some 12) rfl rfl Try.func24 (by kernel_rfl) rfl #[.slice A1 t.length c1, .int .i64 i, .int .i64 j] rfl (by simp [Act.eval]) ?_; refine (there_any _ A1 t c1 i j HM.out).mono ?_; rintro e1 w1 ⟨he1, hw1⟩; rw [HTB.out] at he1; subst he1; subst hw1; refine ⟨_, rfl, ?_⟩))
  go_ret
  exact ⟨rfl, HLP.out⟩
 | true =>
  have HTB := Aside0.mk hb
  unfold thereB at hb
  rw [Bool.and_eq_true, Bool.and_eq_true, decide_eq_true_iff, decide_eq_true_iff, decide_eq_true_iff] at hb
  obtain ⟨⟨hb1, hb2⟩, hb3⟩ := hb
  obtain ⟨i, rfl⟩ := Int.eq_ofNat_of_zero_le hb1
  obtain ⟨j, rfl⟩ := Int.eq_ofNat_of_zero_le (a := j) (by omega)
  have HI : Aside0 (i < t.length) := ⟨by omega⟩
  have HJ : Aside0 (j < t.length) := ⟨by omega⟩
  clear hb1 hb2 hb3
  obtain ⟨b, hbb⟩ : ∃ b, dirB l3 t (i : Int).toNat (j : Int).toNat = b := ⟨_, rfl⟩
  rw [hbb]
  have HBB : Aside0 (dirW l3 (t.getD i z24) (t.getD j z24) (i : Int) ((upTo (plU t) t.length t.length).getD i 0) ((upTo (plU t) t.length t.length).getD j 0) ((upTo (laU t) t.length t.length).getD j 0) = b) := ⟨by
   rw [upTo_get _ HI.out, upTo_get _ HJ.out, upTo_get _ HJ.out]
   exact hbb⟩
  clear hbb
  go_enter Try.func18, Try.ntmps18
  go_wp2_with (first | ((with_reducible refine gate_dst (N := 4) rfl ?_); refine box_event ?hg (N := 4) ?hd (cs := #[.int .i64 p0, .int .i64 p1, .int .i64 p2, .slice A3 l3.length c3, .int .i64 p4, .int .i64 p5, .slice A6 n6 c6]) (t := 30) ?hr ?_; (case hd => rfl); (case hg => rfl); (case hr => first | (go_simp; done) | (go_simp; rfl)); intro gp hgp wp hbp hbelp; have HBP := Aside0.mk hbp; have HLP := Aside0.mk hbelp; have hp0 : wp.cell? ⟨gp, 0, none⟩ = some (.int .i64 p0) := (blk_cell HBP.out 0).trans rfl; have hp1 : wp.cell? ⟨gp, 1, none⟩ = some (.int .i64 p1) := (blk_cell HBP.out 1).trans rfl; have hp2 : wp.cell? ⟨gp, 2, none⟩ = some (.int .i64 p2) := (blk_cell HBP.out 2).trans rfl; have hp3 : wp.cell? ⟨gp, 3, none⟩ = some (.slice A3 l3.length c3) := (blk_cell HBP.out 3).trans rfl; have hp4 : wp.cell? ⟨gp, 4, none⟩ = some (.int .i64 p4) := (blk_cell HBP.out 4).trans rfl; have hp5 : wp.cell? ⟨gp, 5, none⟩ = some (.int .i64 p5) := (blk_cell HBP.out 5).trans rfl; have hp6 : wp.cell? ⟨gp, 6, none⟩ = some (.slice A6 n6 c6) := (blk_cell HBP.out 6).trans rfl; clear hbp hbelp hgp) | ((with_reducible refine gate_callee (f := 24) rfl ?_); (try (refine gate_guard (by rfl) ?_; dsimp only)); refine goesL_ (some 12) rfl rfl Try.func24 (by kernel_rfl) rfl #[.slice A1 t.length c1, .int .i64 i, .int .i64 j] rfl (by simp [Act.eval]) ?_; refine (there_any _ A1 t c1 i j HM.out).mono ?_; rintro e1 w1 ⟨he1, hw1⟩; rw [HTB.out] at he1; subst he1; subst hw1; refine ⟨_, rfl, ?_⟩) | ((with_reducible refine gate_callee (f := 25) rfl ?_); (try (refine gate_guard (by rfl) ?_; dsimp only)); refine goesL_ (some 16) rfl rfl Try.func25 (by kernel_rfl) rfl #[.agg #[.int .i64 p0, .int .i64 p1, .int .i64 p2, .slice A3 l3.length c3, .int .i64 p4, .int .i64 p5, .slice A6 n6 c6], .slice A1 t.length c1] rfl (by simp [Act.eval]) ?_; refine (newTrace_any _ p0 p1 p2 p4 p5 A3 l3.length c3 A6 n6 c6 A1 c1 t (Kd.C_below HE.out HLP.out) HM.out).mono ?_; rintro e2 w2 ⟨g, gl, ga, he2, hg2, hl2, ha2, hb2⟩; subst he2; have HG2 := Aside0.mk hg2; have HL2 := Aside0.mk hl2; have HA2 := Aside0.mk ha2; have HB2 := Aside0.mk (below_then HLP.out HLP.out.size hb2); have HT2 := Aside0.mk (made_at hg2 hl2 ha2 (Kd.C_below HC.out HB2.out) HC3.out HM.out); clear hg2 hl2 ha2 hb2; refine ⟨_, rfl, ?_⟩) | ((with_reducible refine gate_callee (f := 32) rfl ?_); (try (refine gate_guard (by rfl) ?_; dsimp only)); refine goesL_ (some 19) rfl rfl Try.func32 (by kernel_rfl) rfl #[.pointer (some ⟨g, 0, none⟩), .int .i64 (i : Int), .int .i64 (j : Int)] rfl (by simp [Act.eval]) ?_; refine (direct_any w2 g t _ _ l3 A1 c1 i j HT2.out ((blk_cell HG2.out 7).trans rfl) (Kd.C_below HE.out HB2.out) HI.out HJ.out (upTo_length _ _ _) (upTo_length _ _ _) HM.out).mono ?_; rintro e3 w3 ⟨he3, hb3⟩; rw [HBB.out] at he3; subst he3; have HB3 := Aside0.mk (below_then HB2.out HB2.out.size hb3); clear hb3; refine ⟨_, rfl, ?_⟩))
  go_ret
  exact ⟨rfl, HB3.out⟩
set_option maxHeartbeats 4000000 in
set_option maxRecDepth 100000 in
theorem Before_any (W : World) (p0 p1 p2 p4 p5 : Int) (A3 : Option Addr) (c3 : Nat) (l3 : List Int) (A6 : Option Addr) (n6 c6 : Nat) (A1 : Option Addr) (c1 : Nat) (t : List S24) (i j : Int) (hC : Kd.C (Kd.int .i64) W A3 l3.length l3) (hc3 : l3.length ≤ c3) (hE : Kd.C k24 W A1 t.length t) (hm : t.length ≤ 1000000000) :
 Calls Try.prog 11 #[.agg #[.int .i64 p0, .int .i64 p1, .int .i64 p2, .slice A3 l3.length c3, .int .i64 p4, .int .i64 p5, .slice A6 n6 c6], .slice A1 t.length c1, .int .i64 i, .int .i64 j] W fun e w' => e = .returned (.bool (beforeI l3 t i j)) ∧ Below W.heap.size W w' := by
 have HM := Aside0.mk hm
 have HC := Aside0.mk hC
 have HC3 := Aside0.mk hc3
 have HE := Aside0.mk hE
 clear hm hC hc3 hE
 unfold beforeI
 cases hb : thereB t i j with
 | false =>
  have HTB := Aside0.mk hb
  clear hb
  go_enter Try.func11, Try.ntmps11
  go_wp2_with (first | ((with_reducible refine gate_dst (N := 4) rfl ?_); refine box_event ?hg (N := 4) ?hd (cs := #[.int .i64 p0, .int .i64 p1, .int .i64 p2, .slice A3 l3.length c3, .int .i64 p4, .int .i64 p5, .slice A6 n6 c6]) (t := 30) ?hr ?_; (case hd => rfl); (case hg => rfl); (case hr => first | (go_simp; done) | (go_simp; rfl)); intro gp hgp wp hbp hbelp; have HBP := Aside0.mk hbp; have HLP := Aside0.mk hbelp; have hp0 : wp.cell? ⟨gp, 0, none⟩ = some (.int .i64 p0) := (blk_cell HBP.out 0).trans rfl; have hp1 : wp.cell? ⟨gp, 1, none⟩ = some (.int .i64 p1) := (blk_cell HBP.out 1).trans rfl; have hp2 : wp.cell? ⟨gp, 2, none⟩ = some (.int .i64 p2) := (blk_cell HBP.out 2).trans rfl; have hp3 : wp.cell? ⟨gp, 3, none⟩ = some (.slice A3 l3.length c3) := (blk_cell HBP.out 3).trans rfl; have hp4 : wp.cell? ⟨gp, 4, none⟩ = some (.int .i64 p4) := (blk_cell HBP.out 4).trans rfl; have hp5 : wp.cell? ⟨gp, 5, none⟩ = some (.int .i64 p5) := (blk_cell HBP.out 5).trans rfl; have hp6 : wp.cell? ⟨gp, 6, none⟩ = some (.slice A6 n6 c6) := (blk_cell HBP.out 6).trans rfl; clear hbp hbelp hgp) | ((with_reducible refine gate_callee (f := 24) rfl ?_); (try (refine gate_guard (by rfl) ?_; dsimp only)); refine goesL_ (some 12) rfl rfl Try.func24 (by kernel_rfl) rfl #[.slice A1 t.length c1, .int .i64 i, .int .i64 j] rfl (by simp [Act.eval]) ?_; refine (there_any _ A1 t c1 i j HM.out).mono ?_; rintro e1 w1 ⟨he1, hw1⟩; rw [HTB.out] at he1; subst he1; subst hw1; refine ⟨_, rfl, ?_⟩))
  go_ret
  exact ⟨rfl, HLP.out⟩
 | true =>
  have HTB := Aside0.mk hb
  unfold thereB at hb
  rw [Bool.and_eq_true, Bool.and_eq_true, decide_eq_true_iff, decide_eq_true_iff, decide_eq_true_iff] at hb
  obtain ⟨⟨hb1, hb2⟩, hb3⟩ := hb
  obtain ⟨i, rfl⟩ := Int.eq_ofNat_of_zero_le hb1
  obtain ⟨j, rfl⟩ := Int.eq_ofNat_of_zero_le (a := j) (by omega)
  have HI : Aside0 (i < t.length) := ⟨by omega⟩
  have HJ : Aside0 (j < t.length) := ⟨by omega⟩
  have hi0 : (0 : Int) ≤ (i : Int) := by omega
  have hi1 : (i : Int) < (t.length : Int) := by omega
  clear hb1 hb2 hb3
  obtain ⟨b, hbb⟩ : ∃ b, (marks (dirB l3 t) t.length (j : Int).toNat).getD (i : Int).toNat false = b := ⟨_, rfl⟩
  rw [hbb]
  have HBB := Aside0.mk hbb
  clear hbb
  go_enter Try.func11, Try.ntmps11
  go_wp2_with (first | ((with_reducible refine gate_dst (N := 4) rfl ?_); refine box_event ?hg (N := 4) ?hd (cs := #[.int .i64 p0, .int .i64 p1, .int .i64 p2, .slice A3 l3.length c3, .int .i64 p4, .int .i64 p5, .slice A6 n6 c6]) (t := 30) ?hr ?_; (case hd => rfl); (case hg => rfl); (case hr => first | (go_simp; done) | (go_simp; rfl)); intro gp hgp wp hbp hbelp; have HBP := Aside0.mk hbp; have HLP := Aside0.mk hbelp; have hp0 : wp.cell? ⟨gp, 0, none⟩ = some (.int .i64 p0) := (blk_cell HBP.out 0).trans rfl; have hp1 : wp.cell? ⟨gp, 1, none⟩ = some (.int .i64 p1) := (blk_cell HBP.out 1).trans rfl; have hp2 : wp.cell? ⟨gp, 2, none⟩ = some (.int .i64 p2) := (blk_cell HBP.out 2).trans rfl; have hp3 : wp.cell? ⟨gp, 3, none⟩ = some (.slice A3 l3.length c3) := (blk_cell HBP.out 3).trans rfl; have hp4 : wp.cell? ⟨gp, 4, none⟩ = some (.int .i64 p4) := (blk_cell HBP.out 4).trans rfl; have hp5 : wp.cell? ⟨gp, 5, none⟩ = some (.int .i64 p5) := (blk_cell HBP.out 5).trans rfl; have hp6 : wp.cell? ⟨gp, 6, none⟩ = some (.slice A6 n6 c6) := (blk_cell HBP.out 6).trans rfl; clear hbp hbelp hgp) | ((with_reducible refine gate_callee (f := 24) rfl ?_); (try (refine gate_guard (by rfl) ?_; dsimp only)); refine goesL_ (some 12) rfl rfl Try.func24 (by kernel_rfl) rfl #[.slice A1 t.length c1, .int .i64 i, .int .i64 j] rfl (by simp [Act.eval]) ?_; refine (there_any _ A1 t c1 i j HM.out).mono ?_; rintro e1 w1 ⟨he1, hw1⟩; rw [HTB.out] at he1; subst he1; subst hw1; refine ⟨_, rfl, ?_⟩) | ((with_reducible refine gate_callee (f := 25) rfl ?_); (try (refine gate_guard (by rfl) ?_; dsimp only)); refine goesL_ (some 16) rfl rfl Try.func25 (by kernel_rfl) rfl #[.agg #[.int .i64 p0, .int .i64 p1, .int .i64 p2, .slice A3 l3.length c3, .int .i64 p4, .int .i64 p5, .slice A6 n6 c6], .slice A1 t.length c1] rfl (by simp [Act.eval]) ?_; refine (newTrace_any _ p0 p1 p2 p4 p5 A3 l3.length c3 A6 n6 c6 A1 c1 t (Kd.C_below HE.out HLP.out) HM.out).mono ?_; rintro e2 w2 ⟨g, gl, ga, he2, hg2, hl2, ha2, hb2⟩; subst he2; have HG2 := Aside0.mk hg2; have HL2 := Aside0.mk hl2; have HA2 := Aside0.mk ha2; have HB2 := Aside0.mk (below_then HLP.out HLP.out.size hb2); have HT2 := Aside0.mk (made_at hg2 hl2 ha2 (Kd.C_below HC.out HB2.out) HC3.out HM.out); clear hg2 hl2 ha2 hb2; refine ⟨_, rfl, ?_⟩) | ((with_reducible refine gate_callee (f := 26) rfl ?_); (try (refine gate_guard (by rfl) ?_; dsimp only)); refine goesL_ (some 18) rfl rfl Try.func26 (by kernel_rfl) rfl #[.pointer (some ⟨g, 0, none⟩), .int .i64 (j : Int)] rfl (by simp [Act.eval]) ?_; refine (past_made w2 g gl ga p0 p1 p2 p4 p5 A3 c3 l3 A6 n6 c6 A1 c1 t j HJ.out HG2.out HT2.out (Kd.C_below HE.out HB2.out) HM.out).mono ?_; rintro e3 w3 ⟨v3, he3, hr3, hb3⟩; subst he3; have HB3 := Aside0.mk (below_then HB2.out HB2.out.size hb3); obtain ⟨hlen, hCC⟩ := (⟨(marks_reach (dirB l3 t) HJ.out).2.1, trivial⟩ : (marks (dirB l3 t) t.length j).length = t.length ∧ True); obtain ⟨gs, cs, hvs, _, _, _⟩ := Kd.R_form hr3 (by have := HJ.out; omega); rw [hlen] at hvs; subst hvs; obtain ⟨ad2, e2, hs2⟩ := Kd.at_bool (Kd.R_reads' hr3).2.2 (i : Int) (by omega) (by have := HI.out; omega); cases e2; rw [add_plain, Int.toNat_natCast] at hs2; rw [show rdOf false (marks (dirB l3 t) t.length j) (i : Int) = b from HBB.out] at hs2; clear hb3 hlen hCC hr3; refine ⟨_, rfl, ?_⟩))
  go_ret
  exact ⟨rfl, HB3.out⟩
theorem marked_drop (m : List Bool) (i : Nat) (hi : i < m.length) : marked (m.drop i) i = if m.getD i false = true then (i : Int) :: marked (m.drop (i + 1)) (i + 1) else marked (m.drop (i + 1)) (i + 1) := by
 rw [List.drop_eq_getElem_cons hi, marked, List.getD_eq_getElem?_getD, List.getElem?_eq_getElem hi]
 rfl
set_option maxHeartbeats 4000000 in
set_option maxRecDepth 100000 in
theorem Past_any (W : World) (p0 p1 p2 p4 p5 : Int) (A3 : Option Addr) (c3 : Nat) (l3 : List Int) (A6 : Option Addr) (n6 c6 : Nat) (A1 : Option Addr) (c1 : Nat) (t : List S24) (j : Int) (hC : Kd.C (Kd.int .i64) W A3 l3.length l3) (hc3 : l3.length ≤ c3) (hE : Kd.C k24 W A1 t.length t) (hm : t.length ≤ 1000000000) :
 Calls Try.prog 22 #[.agg #[.int .i64 p0, .int .i64 p1, .int .i64 p2, .slice A3 l3.length c3, .int .i64 p4, .int .i64 p5, .slice A6 n6 c6], .slice A1 t.length c1, .int .i64 j] W fun e w' => ∃ v0_ : Value, e = .returned v0_ ∧ Kd.R (Kd.int .i64) 3 w' W.heap.size (fun _ => True) v0_ (pastI l3 t j) ∧ Below W.heap.size W w' := by
 have HM := Aside0.mk hm
 have HC := Aside0.mk hC
 have HC3 := Aside0.mk hc3
 have HE := Aside0.mk hE
 have hm' : (t.length : Int) ≤ 1000000000 := by omega
 clear hm hC hc3 hE
 unfold pastI
 cases h1 : decide (j < 0) with
 | true =>
  go_enter Try.func22, Try.ntmps22
  go_wp2_with (first | ((with_reducible refine gate_dst (N := 3) rfl ?_); refine box_event ?hg (N := 3) ?hd (cs := #[.int .i64 p0, .int .i64 p1, .int .i64 p2, .slice A3 l3.length c3, .int .i64 p4, .int .i64 p5, .slice A6 n6 c6]) (t := 30) ?hr ?_; (case hd => rfl); (case hg => rfl); (case hr => first | (go_simp; done) | (go_simp; rfl)); intro gp hgp wp hbp hbelp; have HBP := Aside0.mk hbp; have HLP := Aside0.mk hbelp; have hp0 : wp.cell? ⟨gp, 0, none⟩ = some (.int .i64 p0) := (blk_cell HBP.out 0).trans rfl; have hp1 : wp.cell? ⟨gp, 1, none⟩ = some (.int .i64 p1) := (blk_cell HBP.out 1).trans rfl; have hp2 : wp.cell? ⟨gp, 2, none⟩ = some (.int .i64 p2) := (blk_cell HBP.out 2).trans rfl; have hp3 : wp.cell? ⟨gp, 3, none⟩ = some (.slice A3 l3.length c3) := (blk_cell HBP.out 3).trans rfl; have hp4 : wp.cell? ⟨gp, 4, none⟩ = some (.int .i64 p4) := (blk_cell HBP.out 4).trans rfl; have hp5 : wp.cell? ⟨gp, 5, none⟩ = some (.int .i64 p5) := (blk_cell HBP.out 5).trans rfl; have hp6 : wp.cell? ⟨gp, 6, none⟩ = some (.slice A6 n6 c6) := (blk_cell HBP.out 6).trans rfl; clear hbp hbelp hgp))
  go_ret
  exact ⟨_, rfl, Kd.R_nil _ _ _ _ _, HLP.out⟩
 | false =>
  cases h2 : decide ((t.length : Int) ≤ j) with
  | true =>
   go_enter Try.func22, Try.ntmps22
   go_wp2_with (first | ((with_reducible refine gate_dst (N := 3) rfl ?_); refine box_event ?hg (N := 3) ?hd (cs := #[.int .i64 p0, .int .i64 p1, .int .i64 p2, .slice A3 l3.length c3, .int .i64 p4, .int .i64 p5, .slice A6 n6 c6]) (t := 30) ?hr ?_; (case hd => rfl); (case hg => rfl); (case hr => first | (go_simp; done) | (go_simp; rfl)); intro gp hgp wp hbp hbelp; have HBP := Aside0.mk hbp; have HLP := Aside0.mk hbelp; have hp0 : wp.cell? ⟨gp, 0, none⟩ = some (.int .i64 p0) := (blk_cell HBP.out 0).trans rfl; have hp1 : wp.cell? ⟨gp, 1, none⟩ = some (.int .i64 p1) := (blk_cell HBP.out 1).trans rfl; have hp2 : wp.cell? ⟨gp, 2, none⟩ = some (.int .i64 p2) := (blk_cell HBP.out 2).trans rfl; have hp3 : wp.cell? ⟨gp, 3, none⟩ = some (.slice A3 l3.length c3) := (blk_cell HBP.out 3).trans rfl; have hp4 : wp.cell? ⟨gp, 4, none⟩ = some (.int .i64 p4) := (blk_cell HBP.out 4).trans rfl; have hp5 : wp.cell? ⟨gp, 5, none⟩ = some (.int .i64 p5) := (blk_cell HBP.out 5).trans rfl; have hp6 : wp.cell? ⟨gp, 6, none⟩ = some (.slice A6 n6 c6) := (blk_cell HBP.out 6).trans rfl; clear hbp hbelp hgp))
   go_ret
   exact ⟨_, rfl, Kd.R_nil _ _ _ _ _, HLP.out⟩
  | false =>
   have h3 := of_decide_eq_false h1
   have h4 := of_decide_eq_false h2
   obtain ⟨j, rfl⟩ := Int.eq_ofNat_of_zero_le (a := j) (by omega)
   have HJ : Aside0 (j < t.length) := ⟨by omega⟩
   have c2 : decide (t.length ≤ j) = false := decide_eq_false (by omega)
   clear h3 h4
   obtain ⟨m, hmm⟩ : ∃ m, marks (dirB l3 t) t.length (j : Int).toNat = m := ⟨_, rfl⟩
   rw [hmm]
   have HMM : Aside0 (marks (dirB l3 t) t.length j = m) := ⟨hmm⟩
   clear hmm
   go_enter Try.func22, Try.ntmps22
   go_wp2_with (first | ((with_reducible refine gate_dst (N := 3) rfl ?_); refine box_event ?hg (N := 3) ?hd (cs := #[.int .i64 p0, .int .i64 p1, .int .i64 p2, .slice A3 l3.length c3, .int .i64 p4, .int .i64 p5, .slice A6 n6 c6]) (t := 30) ?hr ?_; (case hd => rfl); (case hg => rfl); (case hr => first | (go_simp; done) | (go_simp; rfl)); intro gp hgp wp hbp hbelp; have HBP := Aside0.mk hbp; have HLP := Aside0.mk hbelp; have hp0 : wp.cell? ⟨gp, 0, none⟩ = some (.int .i64 p0) := (blk_cell HBP.out 0).trans rfl; have hp1 : wp.cell? ⟨gp, 1, none⟩ = some (.int .i64 p1) := (blk_cell HBP.out 1).trans rfl; have hp2 : wp.cell? ⟨gp, 2, none⟩ = some (.int .i64 p2) := (blk_cell HBP.out 2).trans rfl; have hp3 : wp.cell? ⟨gp, 3, none⟩ = some (.slice A3 l3.length c3) := (blk_cell HBP.out 3).trans rfl; have hp4 : wp.cell? ⟨gp, 4, none⟩ = some (.int .i64 p4) := (blk_cell HBP.out 4).trans rfl; have hp5 : wp.cell? ⟨gp, 5, none⟩ = some (.int .i64 p5) := (blk_cell HBP.out 5).trans rfl; have hp6 : wp.cell? ⟨gp, 6, none⟩ = some (.slice A6 n6 c6) := (blk_cell HBP.out 6).trans rfl; clear hbp hbelp hgp) | ((with_reducible refine gate_callee (f := 25) rfl ?_); (try (refine gate_guard (by rfl) ?_; dsimp only)); refine goesL_ (some 20) rfl rfl Try.func25 (by kernel_rfl) rfl #[.agg #[.int .i64 p0, .int .i64 p1, .int .i64 p2, .slice A3 l3.length c3, .int .i64 p4, .int .i64 p5, .slice A6 n6 c6], .slice A1 t.length c1] rfl (by simp [Act.eval]) ?_; refine (newTrace_any _ p0 p1 p2 p4 p5 A3 l3.length c3 A6 n6 c6 A1 c1 t (Kd.C_below HE.out HLP.out) HM.out).mono ?_; rintro e2 w2 ⟨g, gl, ga, he2, hg2, hl2, ha2, hb2⟩; subst he2; have HG2 := Aside0.mk hg2; have HL2 := Aside0.mk hl2; have HA2 := Aside0.mk ha2; have HB2 := Aside0.mk (below_then HLP.out HLP.out.size hb2); have HT2 := Aside0.mk (made_at hg2 hl2 ha2 (Kd.C_below HC.out HB2.out) HC3.out HM.out); clear hg2 hl2 ha2 hb2; refine ⟨_, rfl, ?_⟩) | ((with_reducible refine gate_callee (f := 26) rfl ?_); (try (refine gate_guard (by rfl) ?_; dsimp only)); refine goesL_ (some 22) rfl rfl Try.func26 (by kernel_rfl) rfl #[.pointer (some ⟨g, 0, none⟩), .int .i64 (j : Int)] rfl (by simp [Act.eval]) ?_; refine (past_made w2 g gl ga p0 p1 p2 p4 p5 A3 c3 l3 A6 n6 c6 A1 c1 t j HJ.out HG2.out HT2.out (Kd.C_below HE.out HB2.out) HM.out).mono ?_; rintro e3 w3 ⟨v3, he3, hr3, hb3⟩; subst he3; have HB3 := Aside0.mk (below_then HB2.out HB2.out.size hb3); rw [HMM.out] at hr3; have HLM : Aside0 (m.length = t.length) := ⟨by rw [← HMM.out]; exact (marks_reach (dirB l3 t) HJ.out).2.1⟩; obtain ⟨gs, cs, hvs, _, _, _⟩ := Kd.R_form hr3 (by have := HLM.out; have := HJ.out; omega); rw [HLM.out] at hvs; subst hvs; have HCM := Aside0.mk (Kd.R_reads' hr3).2.2; clear hb3 hr3; refine ⟨_, rfl, ?_⟩))
   clear hp0 hp1 hp2 hp3 hp4 hp5 hp6 HBP HG2 HL2 HA2 HT2
   go_loopg [7, 24] (t.length + 1) (fun kq v7 v24 w' => ∃ (i : Nat) (xs : List Int), v24 = .int .i64 (i : Int) ∧ Aside0 (kq + i = t.length + 1) ∧ Aside0 (i ≤ t.length) ∧ Aside0 (xs ++ marked (m.drop i) i = marked m 0) ∧ Aside0 (xs.length ≤ i) ∧ Aside0 (Kd.R (Kd.int .i64) 3 w' w3.heap.size (fun _ => True) v7 xs) ∧ Aside0 (Below w3.heap.size w3 w'))
   case atStart => exact ⟨0, [], rfl, ⟨by omega⟩, ⟨by omega⟩, ⟨rfl⟩, ⟨by simp⟩, ⟨Kd.R_nil _ _ _ _ _⟩, ⟨Below.refl _ _⟩⟩
   case round =>
    obtain ⟨wi, rfl⟩ : ∃ wi : World, wi = wr := ⟨_, rfl⟩
    obtain ⟨i, xs, rfl, HK, HI, HX, HXL, HR, HB⟩ := hrel
    cases gk with
    | zero => exact absurd HK.out (by have := HI.out; omega)
    | succ k1 =>
     by_cases hi : i < t.length
     · have c0 : decide ((i : Int) < (t.length : Int)) = true := decide_eq_true (by omega)
       have p1 : (0 : Int) ≤ (i : Int) := by omega
       have p2 : (i : Int) < (t.length : Int) := by omega
       obtain ⟨ad2, e2, hs2⟩ := Kd.at_bool (Kd.C_below HCM.out HB.out) (i : Int) (by omega) (by have := HLM.out; omega)
       cases e2
       rw [add_plain, Int.toNat_natCast] at hs2
       rw [show rdOf false m (i : Int) = m.getD i false from rfl] at hs2
       have hd := marked_drop m i (by have := HLM.out; omega)
       have HIN := Aside0.mk hi
       clear hi
       cases hb : m.getD i false with
       | false =>
        rw [hb] at hs2 hd
        have HX2 : Aside0 (xs ++ marked (m.drop (i + 1)) (i + 1) = marked m 0) := ⟨by rw [← HX.out, hd, if_neg (by simp)]⟩
        clear hb hd
        go_wp2
        go_roundg k1
        case measure => omega
        case rel => exact ⟨i + 1, xs, by go_num, ⟨by have := HK.out; omega⟩, ⟨by have := HIN.out; omega⟩, HX2, ⟨by have := HXL.out; omega⟩, HR, HB⟩
       | true =>
        rw [hb] at hs2 hd
        have HX2 : Aside0 ((xs ++ [(i : Int)]) ++ marked (m.drop (i + 1)) (i + 1) = marked m 0) := ⟨by rw [← HX.out, hd, if_pos rfl, List.append_assoc]; rfl⟩
        clear hb hd
        go_wp2_with (first | ((with_reducible refine gate_builtin (b := .append) (xs := #[.tmp 30, .tmp 32]) rfl ?_); at_builtin; refine Kd.R_append (Kd.int .i64) (w0 := w3) w3.heap.size rfl (.tmp 30) (.tmp 32) 27 3 (.int .i64 0) 8 rfl Try.underlying27 infoI8 rfl (by decide) (by omega) _ xs (i : Int) [.int .i64 (i : Int)] (fun _ => True) (fun _ => False) rfl rfl rfl (fun _ h => h.elim) (fun _ _ => trivial) HR.out HB.out HB.out.size (by have := HXL.out; have := HIN.out; have := HM.out; omega) ?_; intro v5 w5 hR5 hB5 _ _; have HR5 := Aside0.mk hR5; have HB5 := Aside0.mk hB5; clear hR5 hB5))
        go_roundg k1
        case measure => omega
        case rel => exact ⟨i + 1, xs ++ [(i : Int)], by go_num, ⟨by have := HK.out; omega⟩, ⟨by have := HIN.out; omega⟩, HX2, ⟨by have := HXL.out; rw [List.length_append]; simp; omega⟩, HR5, HB5⟩
     · have c0 : decide ((i : Int) < (t.length : Int)) = false := decide_eq_false (by omega)
       have e : xs = marked m 0 := by
        have h5 := HX.out
        rw [List.drop_eq_nil_of_le (by have := HLM.out; omega), marked, List.append_nil] at h5
        exact h5
       subst e
       go_wp2
       go_ret
       exact ⟨_, rfl, Kd.R_lower HR.out HB3.out.size, below_then HB3.out HB3.out.size HB.out⟩
end Go.Proofs.Ytojkeabecjlaeaa.P
