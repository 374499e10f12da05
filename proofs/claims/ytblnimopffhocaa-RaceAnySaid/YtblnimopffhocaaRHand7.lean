/- The words for event: what a round keeps; At and Tick; what is told, with one more. -/
import Derived.Test.YtblnimopffhocaaRHand4
import Derived.Test.YtblnimopffhocaaRHand5
import Derived.Test.YtblnimopffhocaaRHand6
namespace Go.Proofs.Ytblnimopffhocaa.P
open Go.RowKit Go.Proofs.YtblnimopffhocaaW.PrintWords Go.Proofs.YtblnimopffhocaaW.PrintLast Go.Proofs.YtblnimopffhocaaW.PrintMore Go.Proofs.YtblnimopffhocaaX Go.ChangeMaps
set_option linter.unusedVariables false
set_option linter.unusedSimpArgs false
theorem at_any {B : Nat} (w : World) (A0 : Option Addr) (c0 : Nat) (l0 : List Int) (i : Int) (h0 : RI w B (.slice A0 l0.length c0) l0) :
 Calls Try.prog 41 #[.slice A0 l0.length c0, .int .i64 i] w fun e w' => e = .returned (.int .i64 (atL l0 i)) ∧ Below w.heap.size w w' := by
 obtain ⟨_, q0, r0⟩ := Kd.R_reads' h0
 exact (C.clock_At.calls A0 c0 l0 i (atL l0 i) w r0 q0 (C.at_eq l0 i)).mono fun _ _ h => ⟨h.1, h.2.below⟩
theorem tick_any {B : Nat} (w : World) (A0 : Option Addr) (c0 : Nat) (l0 : List Int) (i : Int) (h0 : RI w B (.slice A0 l0.length c0) l0) (n0 : l0.length ≤ 6) :
 Calls Try.prog 39 #[.slice A0 l0.length c0, .int .i64 i] w fun e w' => ∃ v : Value, e = .returned v ∧ RI w' w.heap.size v (tickL l0 i) ∧ Below w.heap.size w w' := by
 obtain ⟨_, q0, r0⟩ := Kd.R_reads' h0
 exact C.clock_Tick.calls 100 A0 c0 l0 i (tickL l0 i) w r0 q0 (C.tick_eq l0 i 100 (by omega) (by omega))
section
variable {B g gk gc gl : Nat} {w w1 : World} {p v : Nat → Value} {σ : Det} {vo : Value} {n : Nat}
theorem DetAt.setOut (h : DetAt B w g gk gc gl p σ v vo) (hg : w.grownBy w1 vo.ownBlock) (x : Value) (l : List S55) (hx : RO w1 B x l) : DetAt B (w1.setCell ⟨g, 16, none⟩ x) g gk gc gl p { σ with out := l } v x := by
 obtain ⟨M, hM, hR⟩ := h.hkn
 obtain ⟨N, hN, hNc⟩ := h.hct
 have hty := Kd.R_typed h.hout
 have hmap : ∀ {κ : Type} {enc : κ → Value} {b : Nat} {M : κ → Option Value}, IsMap enc w b M → IsMap enc w1 b M := fun {κ enc b M} hm => hm.move (hg.block b hm.lt fun he => by
  obtain ⟨cells, hc⟩ := hty b he.symm
  exact hm.ne hc rfl)
 have hrow : ∀ {v : Value} {l : List Int}, RI w B v l → RI w1 B v l := fun {v l} hr => Kd.R_over (d := Kd.int .i64) hr h.hout (one_type (by decide)) hg
 have hg1 : w1.heap[g]? = some (detBlk p v gk gc gl vo) := blk_grown h.hg hg (Kd.R_ne h.hout h.hg (by decide))
 have hD : DetAt B w1 g gk gc gl p { σ with out := l } v x → True := fun _ => trivial
 have far := fun k (hk : k ≠ g) => Below.heap_setCell w1 ⟨g, 16, none⟩ x k hk
 obtain ⟨n1, n2, n3, n4, n5, n6⟩ := h.ne
 refine ⟨(blk_set hg1 16 x).trans rfl, fun z hz => RI_set (hrow (h.hth z hz)) hg1 (by decide) _ _, ⟨M, (hmap hM).move (far _ (Ne.symm n1)), fun y => ?_⟩, ⟨N, (hmap hN).move (far _ (Ne.symm n2)), hNc⟩, (hmap h.hla).move (far _ (Ne.symm n3)), RO_set hx hg1 (by decide) _ _, h.ne, h.ge⟩
 have hy := hR y
 cases hm : M y with
 | none => rw [hm] at hy; exact hy
 | some u => rw [hm] at hy; exact RI_set (hrow hy) hg1 (by decide) _ _
structure Mid (B : Nat) (W w : World) (g gk gc gl : Nat) (p : Nat → Value) (σ : Det) (v : Nat → Value) (vo : Value) (g5 g6 : Nat) (e : S40) (k : Key) : Prop where
 det : DetAt B w g gk gc gl p σ v vo
 bel : Below B W w
 ev : w.heap[g5]? = some (.cells #[.int .i64 e.f0, .int .i64 e.f1, .int .u8 e.f2, .int .i64 e.f3, .int .i64 e.f4, .int .i64 e.f5] 40 (0, 0))
 key : KeyAt w g6 k
section
variable {W : World} {g5 g6 : Nat} {e : S40} {k : Key}
theorem Mid.size (h : Mid B W w g gk gc gl p σ v vo g5 g6 e k) : B ≤ w.heap.size := by have := h.det.ge; have := h.det.lt; omega
theorem Mid.below (h : Mid B W w g gk gc gl p σ v vo g5 g6 e k) (hb : Below w.heap.size w w1) : Mid B W w1 g gk gc gl p σ v vo g5 g6 e k :=
 ⟨h.det.below hb, below_then h.bel h.size hb, (hb.block _ (blk_lt h.ev)).trans h.ev, (hb.block _ (blk_lt h.key)).trans h.key⟩
theorem Mid.setOut (h : Mid B W w g gk gc gl p σ v vo g5 g6 e k) (hg : w.grownBy w1 vo.ownBlock) (x : Value) (l : List S55) (hx : RO w1 B x l) : Mid B W (w1.setCell ⟨g, 16, none⟩ x) g gk gc gl p { σ with out := l } v x g5 g6 e k := by
 have hg1 : w1.heap[g]? = some (detBlk p v gk gc gl vo) := blk_grown h.det.hg hg (Kd.R_ne h.det.hout h.det.hg (by decide))
 have far := fun k (hk : k ≠ g) => Below.heap_setCell w1 ⟨g, 16, none⟩ x k hk
 have ne : ∀ {b : Nat} {cs : Array Value} {t : TypeId}, w.heap[b]? = some (.cells cs t (0, 0)) → t ≠ 79 → b ≠ g := fun {b cs t} hb ht => by
  rintro rfl
  have := h.det.hg
  rw [hb] at this
  injection this with this
  injection this with _ h2 _
  exact ht h2
 refine ⟨h.det.setOut hg x l hx, ?_, (far _ (ne h.ev (by decide))).trans (blk_grown h.ev hg (Kd.R_ne h.det.hout h.ev (by decide))), (far _ (ne h.key (by decide))).trans (blk_grown h.key hg (Kd.R_ne h.det.hout h.key (by decide)))⟩
 exact (pw_below_grown h.bel vo.ownBlock h.size hg (Kd.R_base h.det.hout)).setCell h.det.ge.1 _
theorem Mid.away (h : Mid B W w g gk gc gl p σ v vo g5 g6 e k) : g5 ≠ g ∧ g6 ≠ g ∧ g5 ≠ gl ∧ g6 ≠ gl := by
 have ne : ∀ {b : Nat} {cs : Array Value} {t : TypeId}, w.heap[b]? = some (.cells cs t (0, 0)) → t ≠ 79 → b ≠ g := fun {b cs t} hb ht => by
  rintro rfl
  have := h.det.hg
  rw [hb] at this
  injection this with this
  injection this with _ h2 _
  exact ht h2
 exact ⟨ne h.ev (by decide), ne h.key (by decide), Ne.symm (h.det.hla.ne h.ev), Ne.symm (h.det.hla.ne h.key)⟩
theorem Mid.setTh (h : Mid B W w g gk gc gl p σ v vo g5 g6 e k) (u : Nat) (hu : u < 6) (x : Value) (l : List Int) (hx : RI w B x l) : Mid B W (w.setCell ⟨g, 7 + u, none⟩ x) g gk gc gl p { σ with th := up1 σ.th u l } (up1 v u x) vo g5 g6 e k :=
 ⟨h.det.setTh u hu x l hx, h.bel.setCell h.det.ge.1 _, (Below.heap_setCell w ⟨g, 7 + u, none⟩ x g5 h.away.1).trans h.ev, (Below.heap_setCell w ⟨g, 7 + u, none⟩ x g6 h.away.2.1).trans h.key⟩
theorem Mid.setLa (h : Mid B W w g gk gc gl p σ v vo g5 g6 e k) (q : Tch) (x : Int × Int) : ∃ o, (Instr.mapUpdate 76 (.map (some gl)) (encTch q) (accV x)).run Try.prog w = .ok () (setBlock w gl o) ∧ Mid B W (setBlock w gl o) g gk gc gl p { σ with la := up1 σ.la q (some x) } v vo g5 g6 e k := by
 obtain ⟨o, h1, h2⟩ := h.det.setLa q x
 exact ⟨o, h1, h2, setBlock_below h.bel h.det.ge.2.2.2, (heap_setBlock_ne h.away.2.2.1).trans h.ev, (heap_setBlock_ne h.away.2.2.2).trans h.key⟩
end
end
theorem look_no {d : Det} {e : S40} {i : Int} {u t : Nat} {q : (Int × Int) × Bool} (hq : d.latest u e = q) (het : e.f0 = (t : Int)) (h : q.2 = false ∨ u = t ∨ ¬ atL (d.th t) (u : Int) < q.1.2) : d.look e i u = d := by
 unfold Det.look
 rw [hq, het, Int.toNat_natCast, if_neg]
 simp only [Bool.and_eq_true, bne_iff_ne, decide_eq_true_iff, not_and]
 intro h1 h2 h3
 rcases h with h | h | h
 · rw [h] at h1; cases h1
 · exact h2 (by omega)
 · exact h h3
theorem look_yes {d : Det} {e : S40} {i : Int} {u t : Nat} {q : (Int × Int) × Bool} (hq : d.latest u e = q) (het : e.f0 = (t : Int)) (h1 : q.2 = true) (h2 : ¬ u = t) (h3 : atL (d.th t) (u : Int) < q.1.2) : d.look e i u = { d with out := d.out ++ [⟨q.1.1, i⟩] } := by
 unfold Det.look
 rw [hq, het, Int.toNat_natCast, if_pos]
 simp only [Bool.and_eq_true, bne_iff_ne, decide_eq_true_iff]
 exact ⟨h1, by omega, h3⟩
end Go.Proofs.Ytblnimopffhocaa.P
