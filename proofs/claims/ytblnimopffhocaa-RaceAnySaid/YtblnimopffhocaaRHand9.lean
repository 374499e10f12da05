/- Find, walked. -/
import Derived.Test.YtblnimopffhocaaRHand8
namespace Go.Proofs.Ytblnimopffhocaa.P
open Go.RowKit Go.Proofs.YtblnimopffhocaaW.PrintWords Go.Proofs.YtblnimopffhocaaW.PrintLast Go.Proofs.YtblnimopffhocaaW.PrintMore Go.Proofs.YtblnimopffhocaaX Go.ChangeMaps
set_option linter.unusedVariables false
set_option linter.unusedSimpArgs false
theorem odd_any (W : World) (e : S40) : Calls Try.prog 28 #[.agg #[.int .i64 e.f0, .int .i64 e.f1, .int .u8 e.f2, .int .i64 e.f3, .int .i64 e.f4, .int .i64 e.f5]] W fun en w' => en = .returned (.bool (oddE e)) ∧ Below W.heap.size W w' := by
 unfold oddE
 cases h1 : decide (e.f0 < 0) with
 | true =>
  go_enter Try.func28, Try.ntmps28
  go_wp2_with (first | ((with_reducible refine gate_dst (N := 1) rfl ?_); refine box_event ?hg (N := 1) ?hd (cs := #[.int .i64 e.f0, .int .i64 e.f1, .int .u8 e.f2, .int .i64 e.f3, .int .i64 e.f4, .int .i64 e.f5]) (t := 40) ?hr ?_; (case hd => rfl); (case hg => rfl); (case hr => first | (go_simp; done) | (go_simp; rfl)); intro g1 hg1_ w1 hbg1_ hlg1_; have HNg1 := Aside0.mk hg1_; have HBg1 := Aside0.mk hbg1_; have HLg1 := Aside0.mk hlg1_; clear hg1_ hbg1_ hlg1_; have s10 : w1.cell? ⟨g1, 0, none⟩ = some (.int .i64 e.f0) := (blk_cell HBg1.out 0).trans rfl))
  go_ret
  exact ⟨rfl, HLg1.out⟩
 | false =>
  cases h2 : decide (6 ≤ e.f0) with
  | true =>
   go_enter Try.func28, Try.ntmps28
   go_wp2_with (first | ((with_reducible refine gate_dst (N := 1) rfl ?_); refine box_event ?hg (N := 1) ?hd (cs := #[.int .i64 e.f0, .int .i64 e.f1, .int .u8 e.f2, .int .i64 e.f3, .int .i64 e.f4, .int .i64 e.f5]) (t := 40) ?hr ?_; (case hd => rfl); (case hg => rfl); (case hr => first | (go_simp; done) | (go_simp; rfl)); intro g1 hg1_ w1 hbg1_ hlg1_; have HNg1 := Aside0.mk hg1_; have HBg1 := Aside0.mk hbg1_; have HLg1 := Aside0.mk hlg1_; clear hg1_ hbg1_ hlg1_; have s10 : w1.cell? ⟨g1, 0, none⟩ = some (.int .i64 e.f0) := (blk_cell HBg1.out 0).trans rfl))
   go_ret
   exact ⟨rfl, HLg1.out⟩
  | false =>
   go_enter Try.func28, Try.ntmps28
   go_wp2_with (first | ((with_reducible refine gate_dst (N := 1) rfl ?_); refine box_event ?hg (N := 1) ?hd (cs := #[.int .i64 e.f0, .int .i64 e.f1, .int .u8 e.f2, .int .i64 e.f3, .int .i64 e.f4, .int .i64 e.f5]) (t := 40) ?hr ?_; (case hd => rfl); (case hg => rfl); (case hr => first | (go_simp; done) | (go_simp; rfl)); intro g1 hg1_ w1 hbg1_ hlg1_; have HNg1 := Aside0.mk hg1_; have HBg1 := Aside0.mk hbg1_; have HLg1 := Aside0.mk hlg1_; clear hg1_ hbg1_ hlg1_; have s10 : w1.cell? ⟨g1, 0, none⟩ = some (.int .i64 e.f0) := (blk_cell HBg1.out 0).trans rfl))
   go_ret
   exact ⟨rfl, HLg1.out⟩
section
variable (W : World) (A1 : Option Addr) (c1 : Nat) (t : List S40)
theorem index_odd (hE : Kd.C k40 W A1 t.length t) (hm : t.length ≤ 2000) :
 Calls Try.prog 37 #[.slice A1 t.length c1, .func (.func 28) #[] #[]] W fun e w' => (∃ r : Int, e = .returned (.int .i64 r) ∧ (0 ≤ r ↔ ∃ j, j < t.length ∧ oddE (t.getD j z40) = true)) ∧ Below W.heap.size W w' := by
 have HM := Aside0.mk hm
 have HE := Aside0.mk hE
 have hm' : (t.length : Int) ≤ 2000 := by omega
 clear hm hE
 go_enter Try.func37, Try.ntmps37
 go_wp2
 go_loopg [8] (t.length + 1) (fun kq v8 w' => ∃ i : Nat, v8 = .int .i64 (i : Int) ∧ Aside0 (kq + i = t.length + 1) ∧ Aside0 (i ≤ t.length) ∧ Aside0 (∀ j, j < i → oddE (t.getD j z40) = false) ∧ Aside0 (Below W.heap.size W w'))
 case atStart => exact ⟨0, rfl, ⟨by omega⟩, ⟨by omega⟩, ⟨fun j h => by omega⟩, ⟨Below.refl _ _⟩⟩
 case round =>
  obtain ⟨i, rfl, HK, HI, HN, HB⟩ := hrel
  cases gk with
  | zero => exact absurd HK.out (by have := HI.out; omega)
  | succ k1 =>
   by_cases hi : i < t.length
   · have c0 : decide ((i : Int) < (t.length : Int)) = true := decide_eq_true (by omega)
     have p1 : (0 : Int) ≤ (i : Int) := by omega
     have p2 : (i : Int) < (t.length : Int) := by omega
     obtain ⟨ad, e', hx0, hx1, hx2, hx3, hx4, hx5⟩ := at_T40 (Kd.C_below HE.out HB.out) (i : Int) (by omega) (by omega)
     subst e'
     simp only [rd_T40, Int.toNat_natCast] at hx0 hx1 hx2 hx3 hx4 hx5
     obtain ⟨e, hev⟩ : ∃ e, t.getD i z40 = e := ⟨_, rfl⟩
     rw [hev] at hx0 hx1 hx2 hx3 hx4 hx5
     have HEV := Aside0.mk hev
     have HII := Aside0.mk hi
     clear hev hi
     obtain ⟨b, hb⟩ : ∃ b, oddE e = b := ⟨_, rfl⟩
     have HBO := Aside0.mk hb
     clear hb
     cases b with
     | true =>
      go_wp2_with ((refine goesV_ 11 (some 16) rfl rfl (by rfl) Try.func28 (by kernel_rfl) rfl #[.agg #[.int .i64 e.f0, .int .i64 e.f1, .int .u8 e.f2, .int .i64 e.f3, .int .i64 e.f4, .int .i64 e.f5]] rfl (by simp [Act.eval]) ?_); refine (odd_any _ e).mono ?_; rintro e9 w9 ⟨he9, hb2⟩; rw [HBO.out] at he9; subst he9; refine ⟨_, rfl, ?_⟩)
      go_ret
      refine ⟨⟨_, rfl, fun _ => ⟨i, HII.out, by rw [HEV.out]; exact HBO.out⟩, fun _ => by omega⟩, below_then HB.out HB.out.size hb2⟩
     | false =>
      go_wp2_with ((refine goesV_ 11 (some 16) rfl rfl (by rfl) Try.func28 (by kernel_rfl) rfl #[.agg #[.int .i64 e.f0, .int .i64 e.f1, .int .u8 e.f2, .int .i64 e.f3, .int .i64 e.f4, .int .i64 e.f5]] rfl (by simp [Act.eval]) ?_); refine (odd_any _ e).mono ?_; rintro e9 w9 ⟨he9, hb2⟩; rw [HBO.out] at he9; subst he9; refine ⟨_, rfl, ?_⟩)
      go_roundg k1
      case measure => omega
      case rel => exact ⟨i + 1, by go_num, ⟨by have := HK.out; omega⟩, ⟨by have := HII.out; omega⟩, ⟨fun j h => by
       by_cases hj : j < i
       · exact HN.out j hj
       · obtain rfl : j = i := by omega
         rw [HEV.out]; exact HBO.out⟩, ⟨below_then HB.out HB.out.size hb2⟩⟩
   · have c0 : decide ((i : Int) < (t.length : Int)) = false := decide_eq_false (by omega)
     have HII := Aside0.mk hi
     go_wp2
     go_ret
     refine ⟨⟨_, rfl, fun h => absurd h (by omega), fun ⟨j, h1, h2⟩ => ?_⟩, HB.out⟩
     rw [HN.out j (by have := HII.out; omega)] at h2
     cases h2
theorem any_odd (hE : Kd.C k40 W A1 t.length t) (hm : t.length ≤ 2000) (b : Bool) (hb : t.any oddE = b) :
 Calls Try.prog 29 #[.slice A1 t.length c1, .func (.func 28) #[] #[]] W fun e w' => e = .returned (.bool b) ∧ Below W.heap.size W w' := by
 have HI := Aside0.mk (index_odd W A1 c1 t hE hm)
 have Hbv := Aside0.mk hb
 clear hE hm hb
 go_enter Try.func29, Try.ntmps29
 go_wp2_with ((with_reducible refine gate_callee (f := 37) rfl ?_); refine goesL_ (some 7) rfl rfl Try.func37 (by kernel_rfl) rfl #[.slice A1 t.length c1, .func (.func 28) #[] #[]] rfl (by simp [Act.eval]) ?_; refine HI.out.mono ?_; rintro e w' ⟨⟨r, rfl, hr⟩, hb⟩; have Hr := Aside0.mk hr; clear hr; refine ⟨_, rfl, ?_⟩)
 go_ret
 refine ⟨?_, hb⟩
 have : decide (0 ≤ r) = b := by
  rw [← Hbv.out, Bool.eq_iff_iff, decide_eq_true_iff, Hr.out, List.any_eq_true]
  constructor
  · rintro ⟨j, h1, h2⟩
    rw [List.getD_eq_getElem?_getD, List.getElem?_eq_getElem h1] at h2
    exact ⟨_, List.getElem_mem h1, h2⟩
  · rintro ⟨x, h1, h2⟩
    obtain ⟨j, h3, rfl⟩ := List.getElem_of_mem h1
    exact ⟨j, h3, by rw [List.getD_eq_getElem?_getD, List.getElem?_eq_getElem h3]; exact h2⟩
 rw [← this]
 rfl
end
def put6 (w : World) (b : Nat) (e : S40) : World := (((((w.setCell ⟨b, 0, none⟩ (.int .i64 e.f0)).setCell ⟨b, 1, none⟩ (.int .i64 e.f1)).setCell ⟨b, 2, none⟩ (.int .u8 e.f2)).setCell ⟨b, 3, none⟩ (.int .i64 e.f3)).setCell ⟨b, 4, none⟩ (.int .i64 e.f4)).setCell ⟨b, 5, none⟩ (.int .i64 e.f5)
theorem put6_blk {w : World} {b : Nat} {e : S40} (h : w.heap[b]? = some (.cells #[.int .i64 0, .int .i64 0, .int .u8 0, .int .i64 0, .int .i64 0, .int .i64 0] 40 (0, 0))) : (put6 w b e).heap[b]? = some (.cells #[.int .i64 e.f0, .int .i64 e.f1, .int .u8 e.f2, .int .i64 e.f3, .int .i64 e.f4, .int .i64 e.f5] 40 (0, 0)) := (blk_set (blk_set (blk_set (blk_set (blk_set (blk_set h 0 _) 1 _) 2 _) 3 _) 4 _) 5 _).trans rfl
theorem put6_only (w : World) (b : Nat) (e : S40) : Only b w (put6 w b e) := (((((Only.set w b 0 _).trans (Only.set _ b 1 _)).trans (Only.set _ b 2 _)).trans (Only.set _ b 3 _)).trans (Only.set _ b 4 _)).trans (Only.set _ b 5 _)
theorem empty_map {κ : Type} {enc : κ → Value} {w : World} {b : Nat} (h : w.heap[b]? = some (.map #[] 0)) : IsMap enc w b (fun _ => none) := ⟨#[], 0, h, ⟨by simp, by simp, by simp⟩, by simp, by simp⟩
section
variable {P : Program} {ops : Array Oper} {rest : List Oper} {o : Oper} {a : Act} {Q : Exit → Act → World → Prop}
theorem map_event {W : World} (hgd : o.guard = none) (hrun : (execOp a.eval o).run P W = .ok (.value (.map (some W.heap.size))) (W.alloc (.map #[] 0)))
 (h : ∀ g, g = W.heap.size → ∀ w1, w1.heap[g]? = some (.map #[] 0) → Below W.heap.size W w1 → wpList P ops Q rest (a.put o.dst (.map (some g))) w1) : wpList P ops Q (o :: rest) a W :=
 Kd.event_run hgd hrun (h _ rfl _ (heap_alloc_new W _) (below_alloc (Below.refl _ _) _))
end
def prV (p0 p1 p2 p4 p5 : Int) (A3 : Option Addr) (n3 c3 : Nat) (A6 : Option Addr) (n6 c6 : Nat) : Nat → Value
 | 0 => .int .i64 p0
 | 1 => .int .i64 p1
 | 2 => .int .i64 p2
 | 3 => .slice A3 n3 c3
 | 4 => .int .i64 p4
 | 5 => .int .i64 p5
 | _ => .slice A6 n6 c6
theorem DetAt.start {W w : World} {g gk gc gl : Nat} {p : Nat → Value} (hg : w.heap[g]? = some (detBlk p (fun _ => nilV) gk gc gl nilV)) (hk : w.heap[gk]? = some (.map #[] 0)) (hc : w.heap[gc]? = some (.map #[] 0)) (hl : w.heap[gl]? = some (.map #[] 0))
 (ne : g ≠ gk ∧ g ≠ gc ∧ g ≠ gl ∧ gk ≠ gc ∧ gk ≠ gl ∧ gc ≠ gl) (ge : W.heap.size ≤ g ∧ W.heap.size ≤ gk ∧ W.heap.size ≤ gc ∧ W.heap.size ≤ gl) : DetAt W.heap.size w g gk gc gl p Det.init (fun _ => nilV) nilV :=
 ⟨hg, fun u _ => Kd.R_nil _ _ _ _ _, ⟨_, empty_map hk, fun _ => rfl⟩, ⟨_, empty_map hc, fun _ => rfl⟩, empty_map hl, Kd.R_nil _ _ _ _ _, ne, ge⟩
set_option maxHeartbeats 4000000 in
set_option maxRecDepth 100000 in
theorem Find_any (W : World) (p0 p1 p2 p4 p5 : Int) (A3 : Option Addr) (c3 : Nat) (l3 : List Int) (A6 : Option Addr) (n6 c6 : Nat) (A1 : Option Addr) (c1 : Nat) (t : List S40)
 (hC : Kd.C (Kd.int .i64) W A3 l3.length l3) (hc3 : l3.length ≤ c3) (hE : Kd.C k40 W A1 t.length t) (hc1 : t.length ≤ c1) :
 Calls Try.prog 17 #[.agg #[.int .i64 p0, .int .i64 p1, .int .i64 p2, .slice A3 l3.length c3, .int .i64 p4, .int .i64 p5, .slice A6 n6 c6], .slice A1 t.length c1] W fun e w' => ∃ v0_ : Value, e = .returned v0_ ∧ Kd.R k55 55 w' W.heap.size (fun _ => True) v0_ (findL l3 t) ∧ Below W.heap.size W w' := by
 have HC := Aside0.mk hC
 have HE := Aside0.mk hE
 have hm0 : (t.length : Int) ≤ 9223372036854775807 := by have := Kd.C_max hE; omega
 have q0 : (0 : Int) ≤ (t.length : Int) := by omega
 clear hC hc3 hE hc1
 unfold findL
 cases h1 : decide ((2000 : Int) < (t.length : Int)) with
 | true =>
  rw [Bool.true_or, if_pos rfl]
  go_enter Try.func17, Try.ntmps17
  go_wp2_with (first | ((with_reducible refine gate_dst (N := 2) rfl ?_); refine box_event ?hg (N := 2) ?hd (cs := #[.int .i64 p0, .int .i64 p1, .int .i64 p2, .slice A3 l3.length c3, .int .i64 p4, .int .i64 p5, .slice A6 n6 c6]) (t := 29) ?hr ?_; (case hd => rfl); (case hg => rfl); (case hr => first | (go_simp; done) | (go_simp; rfl)); intro g2 hg2_ w2 hbg2_ hlg2_; have HNg2 := Aside0.mk hg2_; have HBg2 := Aside0.mk hbg2_; have HLg2 := Aside0.mk hlg2_; clear hg2_ hbg2_ hlg2_))
  go_ret
  exact ⟨_, rfl, Kd.R_nil _ _ _ _ _, HLg2.out⟩
 | false =>
  have HM : Aside0 (t.length ≤ 2000) := ⟨by have := of_decide_eq_false h1; omega⟩
  rw [Bool.false_or]
  obtain ⟨b, hb⟩ : ∃ b, t.any oddE = b := ⟨_, rfl⟩
  have HAO := Aside0.mk hb
  rw [hb]
  clear hb
  cases b with
  | true =>
   rw [if_pos rfl]
   go_enter Try.func17, Try.ntmps17
   go_wp2_with (first | ((with_reducible refine gate_dst (N := 2) rfl ?_); refine box_event ?hg (N := 2) ?hd (cs := #[.int .i64 p0, .int .i64 p1, .int .i64 p2, .slice A3 l3.length c3, .int .i64 p4, .int .i64 p5, .slice A6 n6 c6]) (t := 29) ?hr ?_; (case hd => rfl); (case hg => rfl); (case hr => first | (go_simp; done) | (go_simp; rfl)); intro g2 hg2_ w2 hbg2_ hlg2_; have HNg2 := Aside0.mk hg2_; have HBg2 := Aside0.mk hbg2_; have HLg2 := Aside0.mk hlg2_; clear hg2_ hbg2_ hlg2_) | ((with_reducible refine gate_callee (f := 29) rfl ?_); (try (refine gate_guard (by rfl) ?_; dsimp only)); go_must (refine goesL_ (some 15) rfl rfl Try.func29 (by kernel_rfl) rfl #[.slice A1 t.length c1, .func (.func 28) #[] #[]] rfl (by simp [Act.eval]) ?_; refine (any_odd _ A1 c1 t (Kd.C_below HE.out HLg2.out) HM.out _ HAO.out).mono ?_; rintro e3 w3 ⟨rfl, hb3⟩; have HB3 := Aside0.mk (below_then HLg2.out HLg2.out.size hb3); have hq0 : w3.cell? ⟨g2, 0, none⟩ = some (.int .i64 p0) := (blk_cell ((hb3.block g2 (blk_lt HBg2.out)).trans HBg2.out) 0).trans rfl; have hq1 : w3.cell? ⟨g2, 1, none⟩ = some (.int .i64 p1) := (blk_cell ((hb3.block g2 (blk_lt HBg2.out)).trans HBg2.out) 1).trans rfl; have hq2 : w3.cell? ⟨g2, 2, none⟩ = some (.int .i64 p2) := (blk_cell ((hb3.block g2 (blk_lt HBg2.out)).trans HBg2.out) 2).trans rfl; have hq3 : w3.cell? ⟨g2, 3, none⟩ = some (.slice A3 l3.length c3) := (blk_cell ((hb3.block g2 (blk_lt HBg2.out)).trans HBg2.out) 3).trans rfl; have hq4 : w3.cell? ⟨g2, 4, none⟩ = some (.int .i64 p4) := (blk_cell ((hb3.block g2 (blk_lt HBg2.out)).trans HBg2.out) 4).trans rfl; have hq5 : w3.cell? ⟨g2, 5, none⟩ = some (.int .i64 p5) := (blk_cell ((hb3.block g2 (blk_lt HBg2.out)).trans HBg2.out) 5).trans rfl; have hq6 : w3.cell? ⟨g2, 6, none⟩ = some (.slice A6 n6 c6) := (blk_cell ((hb3.block g2 (blk_lt HBg2.out)).trans HBg2.out) 6).trans rfl; clear hb3; refine ⟨_, rfl, ?_⟩)))
   go_ret
   exact ⟨_, rfl, Kd.R_nil _ _ _ _ _, HB3.out⟩
  | false =>
   rw [if_neg (by decide)]
   obtain ⟨rr, hrr⟩ : ∃ rr, (runL l3 t t.length).out = rr := ⟨_, rfl⟩
   have HRR := Aside0.mk hrr
   rw [hrr]
   clear hrr
   go_enter Try.func17, Try.ntmps17
   go_wp2_with (first | ((with_reducible refine gate_dst (N := 2) rfl ?_); refine box_event ?hg (N := 2) ?hd (cs := #[.int .i64 p0, .int .i64 p1, .int .i64 p2, .slice A3 l3.length c3, .int .i64 p4, .int .i64 p5, .slice A6 n6 c6]) (t := 29) ?hr ?_; (case hd => rfl); (case hg => rfl); (case hr => first | (go_simp; done) | (go_simp; rfl)); intro g2 hg2_ w2 hbg2_ hlg2_; have HNg2 := Aside0.mk hg2_; have HBg2 := Aside0.mk hbg2_; have HLg2 := Aside0.mk hlg2_; clear hg2_ hbg2_ hlg2_) | ((with_reducible refine gate_callee (f := 29) rfl ?_); (try (refine gate_guard (by rfl) ?_; dsimp only)); go_must (refine goesL_ (some 15) rfl rfl Try.func29 (by kernel_rfl) rfl #[.slice A1 t.length c1, .func (.func 28) #[] #[]] rfl (by simp [Act.eval]) ?_; refine (any_odd _ A1 c1 t (Kd.C_below HE.out HLg2.out) HM.out _ HAO.out).mono ?_; rintro e3 w3 ⟨rfl, hb3⟩; have HB3 := Aside0.mk (below_then HLg2.out HLg2.out.size hb3); have hq0 : w3.cell? ⟨g2, 0, none⟩ = some (.int .i64 p0) := (blk_cell ((hb3.block g2 (blk_lt HBg2.out)).trans HBg2.out) 0).trans rfl; have hq1 : w3.cell? ⟨g2, 1, none⟩ = some (.int .i64 p1) := (blk_cell ((hb3.block g2 (blk_lt HBg2.out)).trans HBg2.out) 1).trans rfl; have hq2 : w3.cell? ⟨g2, 2, none⟩ = some (.int .i64 p2) := (blk_cell ((hb3.block g2 (blk_lt HBg2.out)).trans HBg2.out) 2).trans rfl; have hq3 : w3.cell? ⟨g2, 3, none⟩ = some (.slice A3 l3.length c3) := (blk_cell ((hb3.block g2 (blk_lt HBg2.out)).trans HBg2.out) 3).trans rfl; have hq4 : w3.cell? ⟨g2, 4, none⟩ = some (.int .i64 p4) := (blk_cell ((hb3.block g2 (blk_lt HBg2.out)).trans HBg2.out) 4).trans rfl; have hq5 : w3.cell? ⟨g2, 5, none⟩ = some (.int .i64 p5) := (blk_cell ((hb3.block g2 (blk_lt HBg2.out)).trans HBg2.out) 5).trans rfl; have hq6 : w3.cell? ⟨g2, 6, none⟩ = some (.slice A6 n6 c6) := (blk_cell ((hb3.block g2 (blk_lt HBg2.out)).trans HBg2.out) 6).trans rfl; clear hb3; refine ⟨_, rfl, ?_⟩)) | ((with_reducible refine gate_dst (N := 18) rfl ?_); refine map_event ?hgd ?hr ?_; (case hgd => rfl); (case hr => first | (go_simp; done) | (go_simp; rfl)); intro g18 hg_ w18 hb_ hl_; have HN18 := Aside0.mk hg_; have HB18 := Aside0.mk hb_; have HL18 := Aside0.mk hl_; clear hg_ hb_ hl_) | ((with_reducible refine gate_dst (N := 19) rfl ?_); refine map_event ?hgd ?hr ?_; (case hgd => rfl); (case hr => first | (go_simp; done) | (go_simp; rfl)); intro g19 hg_ w19 hb_ hl_; have HN19 := Aside0.mk hg_; have HB19 := Aside0.mk hb_; have HL19 := Aside0.mk hl_; clear hg_ hb_ hl_) | ((with_reducible refine gate_dst (N := 20) rfl ?_); refine map_event ?hgd ?hr ?_; (case hgd => rfl); (case hr => first | (go_simp; done) | (go_simp; rfl)); intro g20 hg_ w20 hb_ hl_; have HN20 := Aside0.mk hg_; have HB20 := Aside0.mk hb_; have HL20 := Aside0.mk hl_; clear hg_ hb_ hl_) | ((with_reducible refine gate_dst (N := 22) rfl ?_); refine box_event ?hg (N := 22) ?hd (cs := #[.int .i64 p0, .int .i64 p1, .int .i64 p2, .slice A3 l3.length c3, .int .i64 p4, .int .i64 p5, .slice A6 n6 c6, .slice none 0 0, .slice none 0 0, .slice none 0 0, .slice none 0 0, .slice none 0 0, .slice none 0 0, .map (some g18), .map (some g19), .map (some g20), .slice none 0 0]) (t := 79) ?hr ?_; (case hd => rfl); (case hg => rfl); (case hr => first | (go_simp; done) | (go_simp; rfl)); intro g hg_ w22 hbg_ hlg_; have HNg := Aside0.mk hg_; have HBg := Aside0.mk hbg_; have HLg := Aside0.mk hlg_; clear hg_ hbg_ hlg_))
   have HD0 : Aside0 (DetAt W.heap.size w22 g g18 g19 g20 (prV p0 p1 p2 p4 p5 A3 l3.length c3 A6 n6 c6) (runL l3 t 0) (fun _ => nilV) nilV) := ⟨by
    have a1 := HB3.out.size
    have a2 := HL18.out
    have a3 := HL19.out
    have a4 := HL20.out
    have a5 := HLg.out
    have n1 := HN18.out
    have n2 := HN19.out
    have n3 := HN20.out
    have n4 := HNg.out
    have b1 := blk_lt HB18.out
    have b2 := blk_lt HB19.out
    have b3 := blk_lt HB20.out
    have z2 := a2.size
    have z3 := a3.size
    have z4 := a4.size
    exact DetAt.start (HBg.out.trans rfl) ((a5.block _ (by omega)).trans ((a4.block _ (by omega)).trans ((a3.block _ b1).trans HB18.out))) ((a5.block _ (by omega)).trans ((a4.block _ b2).trans HB19.out)) ((a5.block _ b3).trans HB20.out) ⟨by omega, by omega, by omega, by omega, by omega, by omega⟩ ⟨by omega, by omega, by omega, by omega⟩⟩
   have HBD : Aside0 (Below W.heap.size W w22) := ⟨by
    have a1 := HB3.out.size
    have z2 := HL18.out.size
    have z3 := HL19.out.size
    have z4 := HL20.out.size
    exact below_then (below_then (below_then (below_then HB3.out a1 HL18.out) (by omega) HL19.out) (by omega) HL20.out) (by omega) HLg.out⟩
   have hm2 : (t.length : Int) ≤ 2000 := by have := HM.out; omega
   clear h1 hm0 HBg2 HLg2 HNg2 HB3 HN18 HN19 HN20 HL18 HL19 HL20 HB18 HB19 HB20 HNg HBg HLg
   go_loopg [25] (t.length + 1) (fun kq v25 w' => ∃ i : Nat, v25 = .int .i64 (i : Int) ∧ Aside0 (kq + i = t.length + 1) ∧ Aside0 (i ≤ t.length) ∧ Aside0 (∃ v vo, DetAt W.heap.size w' g g18 g19 g20 (prV p0 p1 p2 p4 p5 A3 l3.length c3 A6 n6 c6) (runL l3 t i) v vo) ∧ Aside0 (Below W.heap.size W w'))
   case atStart => exact ⟨0, rfl, ⟨by omega⟩, ⟨by omega⟩, ⟨_, _, HD0.out⟩, HBD⟩
   case round =>
    obtain ⟨wi, rfl⟩ : ∃ wi : World, wi = wr := ⟨_, rfl⟩
    obtain ⟨i, rfl, HK, HI, ⟨v, vo, hd⟩, HB⟩ := hrel
    have HD := Aside0.mk hd
    clear hd HD0 HBD
    cases gk with
    | zero => exact absurd HK.out (by have := HI.out; omega)
    | succ k1 =>
     by_cases hi : i < t.length
     · have c0 : decide ((i : Int) < (t.length : Int)) = true := decide_eq_true (by omega)
       have p1' : (0 : Int) ≤ (i : Int) := by omega
       have p2' : (i : Int) < (t.length : Int) := by omega
       obtain ⟨ad, e', hx0, hx1, hx2, hx3, hx4, hx5⟩ := at_T40 (Kd.C_below HE.out HB.out) (i : Int) (by omega) (by omega)
       subst e'
       simp only [rd_T40, Int.toNat_natCast] at hx0 hx1 hx2 hx3 hx4 hx5
       have hne : oddE (t.getD i z40) = false := by
        rw [List.getD_eq_getElem?_getD, List.getElem?_eq_getElem hi]
        simpa using List.any_eq_false.1 HAO.out t[i] (List.getElem_mem _)
       obtain ⟨e, hev⟩ : ∃ e, t.getD i z40 = e := ⟨_, rfl⟩
       rw [hev] at hx0 hx1 hx2 hx3 hx4 hx5 hne
       unfold oddE at hne
       simp only [Bool.or_eq_false_iff, decide_eq_false_iff_not] at hne
       obtain ⟨tt, htt⟩ := Int.eq_ofNat_of_zero_le (a := e.f0) (by omega)
       have HTT := Aside0.mk htt
       have HT6 : Aside0 (tt < 6) := ⟨by omega⟩
       have HEV := Aside0.mk hev
       have HII := Aside0.mk hi
       have HOK := Aside0.mk (runL_ok l3 t HAO.out i (by omega))
       obtain ⟨r, hr⟩ : ∃ r, (runL l3 t i).event l3 (i : Int) e = r := ⟨_, rfl⟩
       have HR := Aside0.mk hr
       have HRN : Aside0 (runL l3 t (i + 1) = r) := ⟨by rw [← hr, ← hev]; rfl⟩
       clear hev hi hne hr htt
       go_wp2_with (first | ((with_reducible refine gate_dst (N := 8) rfl ?_); refine box_event ?hg (N := 8) ?hd (cs := #[.int .i64 0, .int .i64 0, .int .u8 0, .int .i64 0, .int .i64 0, .int .i64 0]) (t := 40) ?hr ?_; (case hd => rfl); (case hg => rfl); (case hr => first | (go_simp; done) | (go_simp; rfl)); intro g8 hg8_ w8 hbg8_ hlg8_; have HNg8 := Aside0.mk hg8_; have HBg8 := Aside0.mk hbg8_; have HLg8 := Aside0.mk hlg8_; clear hg8_ hbg8_ hlg8_) | ((with_reducible refine gate_store (t := 40) (p := 8) rfl ?_); go_must (have hs0 : w8.cell? ⟨g8, 0, none⟩ = some (.int .i64 0) := (blk_cell HBg8.out 0).trans rfl; have hf0 : w8.frozen? ⟨g8, 0, none⟩ = false := blk_frozen HBg8.out 0; have hs1 : w8.cell? ⟨g8, 1, none⟩ = some (.int .i64 0) := (blk_cell HBg8.out 1).trans rfl; have hf1 : w8.frozen? ⟨g8, 1, none⟩ = false := blk_frozen HBg8.out 1; have hs2 : w8.cell? ⟨g8, 2, none⟩ = some (.int .u8 0) := (blk_cell HBg8.out 2).trans rfl; have hf2 : w8.frozen? ⟨g8, 2, none⟩ = false := blk_frozen HBg8.out 2; have hs3 : w8.cell? ⟨g8, 3, none⟩ = some (.int .i64 0) := (blk_cell HBg8.out 3).trans rfl; have hf3 : w8.frozen? ⟨g8, 3, none⟩ = false := blk_frozen HBg8.out 3; have hs4 : w8.cell? ⟨g8, 4, none⟩ = some (.int .i64 0) := (blk_cell HBg8.out 4).trans rfl; have hf4 : w8.frozen? ⟨g8, 4, none⟩ = false := blk_frozen HBg8.out 4; have hs5 : w8.cell? ⟨g8, 5, none⟩ = some (.int .i64 0) := (blk_cell HBg8.out 5).trans rfl; have hf5 : w8.frozen? ⟨g8, 5, none⟩ = false := blk_frozen HBg8.out 5; refine skipL_ (w1 := put6 w8 g8 e) rfl rfl (by go_simp; rfl) ?_; clear hs0 hs1 hs2 hs3 hs4 hs5 hf0 hf1 hf2 hf3 hf4 hf5; have HP8 := Aside0.mk (put6_blk (e := e) HBg8.out); have h_ab := (put6_only w8 g8 e).below HLg8.out (Nat.le_of_eq HNg8.out.symm); generalize put6 w8 g8 e = w9 at HP8 h_ab ⊢; have HD9 := Aside0.mk (HD.out.below h_ab); have HB9 := Aside0.mk (below_then HB.out HB.out.size h_ab); clear h_ab; have s80 : w9.cell? ⟨g8, 0, none⟩ = some (.int .i64 (tt : Int)) := (blk_cell HP8.out 0).trans (by first | rfl | simp [HTT.out]); have s81 : w9.cell? ⟨g8, 1, none⟩ = some (.int .i64 e.f1) := (blk_cell HP8.out 1).trans (by first | rfl | simp [HTT.out]); have s82 : w9.cell? ⟨g8, 2, none⟩ = some (.int .u8 e.f2) := (blk_cell HP8.out 2).trans (by first | rfl | simp [HTT.out]); have s83 : w9.cell? ⟨g8, 3, none⟩ = some (.int .i64 e.f3) := (blk_cell HP8.out 3).trans (by first | rfl | simp [HTT.out]); have s84 : w9.cell? ⟨g8, 4, none⟩ = some (.int .i64 e.f4) := (blk_cell HP8.out 4).trans (by first | rfl | simp [HTT.out]); have s85 : w9.cell? ⟨g8, 5, none⟩ = some (.int .i64 e.f5) := (blk_cell HP8.out 5).trans (by first | rfl | simp [HTT.out]))) | ((with_reducible refine gate_callee (f := 30) rfl ?_); (try (refine gate_guard (by rfl) ?_; dsimp only)); go_must (refine goesL_ (some 33) rfl rfl Try.func30 (by kernel_rfl) rfl #[.pointer (some ⟨g, 0, none⟩), .int .i64 (i : Int), .agg #[.int .i64 (tt : Int), .int .i64 e.f1, .int .u8 e.f2, .int .i64 e.f3, .int .i64 e.f4, .int .i64 e.f5]] rfl (by simp [Act.eval]) ?_; refine (event_any HD9.out HOK.out (by have := HII.out; have := HM.out; omega) HB9.out A3 c3 l3 rfl (fun w' hb => Kd.C_below HC.out hb) (i : Int) e tt HTT.out HT6.out r HR.out).mono ?_; rintro e10 w10 ⟨v10, vo10, rfl, hb10, hd10⟩; have HDN := Aside0.mk hd10; have HBN := Aside0.mk hb10; clear hb10 hd10; refine ⟨_, rfl, ?_⟩)))
       go_roundg k1
       case measure => omega
       case rel => exact ⟨i + 1, by go_num, ⟨by have := HK.out; omega⟩, ⟨by have := HII.out; omega⟩, ⟨by rw [HRN.out]; exact ⟨_, _, HDN.out⟩⟩, HBN⟩
     · have c0 : decide ((i : Int) < (t.length : Int)) = false := decide_eq_false (by omega)
       obtain rfl : i = t.length := by have := HI.out; omega
       obtain ⟨Av, cv, ev⟩ := Kd.R_slice HD.out.hout
       have hro := HD.out.hout
       have s16 : wi.cell? ⟨g, 16, none⟩ = some vo := (blk_cell HD.out.hg 16).trans rfl
       rw [ev] at s16 hro
       rw [HRR.out] at s16 hro
       have HRO := Aside0.mk hro
       clear ev hro
       go_wp2
       go_ret
       exact ⟨_, rfl, HRO.out, HB.out⟩
end Go.Proofs.Ytblnimopffhocaa.P
