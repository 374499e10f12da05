/- A trace with what is asked of channels and atoms counted: the words for the function that makes it. -/
import Derived.Test.YtojkeabecjlaeaaOHand4
import Derived.Test.YtojkeabecjlaeaaXMaps
import Derived.Test.YtojkeabecjlaeaaWEqStruct
namespace Go.Proofs.Ytojkeabecjlaeaa.P
open Go.RowKit Go.Proofs.YtojkeabecjlaeaaW.PrintWords Go.Proofs.YtojkeabecjlaeaaW.PrintLast Go.Proofs.YtojkeabecjlaeaaW.PrintMore Go.Proofs.YtojkeabecjlaeaaX Go.ChangeMaps
set_option linter.unusedVariables false
set_option linter.unusedSimpArgs false
def encK (x : Bool × Int) : Value := .agg #[.bool x.1, .int .i64 x.2]
def encI (x : Int) : Value := .int .i64 x
theorem eqA79 (d : Nat) (w : World) (x0 y0 : Bool) (x1 y1 : Int) :
 (Op.equalIn (d + 2) 79 (.agg #[.bool x0, .int .i64 x1]) (.agg #[.bool y0, .int .i64 y1])).run Try.prog w = .ok (x0 == y0 && (x1 == y1)) w := by
 refine eqA_of Try.underlying79 (by kernel_rfl) ?_
 refine eqf_cons (by rfl) (by go_simp; rfl) (by go_simp; rfl) (by go_simp) ?_
 exact eqf_last (by rfl) (by go_simp; rfl) (by go_simp; rfl) (by go_simp)
theorem klI : KL Try.prog 3 encI := int_kl Try.underlying3
theorem klK : KL Try.prog 79 encK := by
 refine agg_kl (fun {x y} h => ?_) (by kernel_rfl) (fun em w x => ?_) (fun w x y => ?_) (fun x => ?_)
 · obtain ⟨a, b⟩ := x
   obtain ⟨c, d⟩ := y
   simp only [encK, Value.agg.injEq] at h
   simp at h
   rw [h.1, h.2]
 · have hu := run_underlying (P := Try.prog) Try.underlying79
   have hb : ∀ (w : World) (x : Bool), (Instr.checkKey em 9999 4 (.bool x)).run Try.prog w = .ok () w := fun w x => MapKept.run_checkKey Try.underlying4 (by simp [MapKept.IsKey]) em 9998
   have hi : ∀ (w : World) (x : Int), (Instr.checkKey em 9999 3 (.int .i64 x)).run Try.prog w = .ok () w := fun w x => MapKept.run_checkKey Try.underlying3 (by simp [MapKept.IsKey]) em 9998
   unfold encK
   rw [show (10000 : Nat) = 9999 + 1 from rfl, Instr.checkKey]
   generalize (9999 : Nat) = m at hb hi ⊢
   rw [Sem.run_bind, hu]
   simp only [Result.andThen]
   go_simp
 · have h := eqA79 9998 w x.1 y.1 x.2 y.2
   have e : (x.1 == y.1 && (x.2 == y.2)) = decide (x = y) := by
    rw [Bool.eq_iff_iff, Bool.and_eq_true, beq_iff_eq, beq_iff_eq, decide_eq_true_iff, Prod.ext_iff]
   rw [← e]
   exact h
 · simp [encK, Instr.sameBits]
def trBlk (p0 p1 p2 : Int) (A3 : Option Addr) (n3 c3 : Nat) (p4 p5 : Int) (A6 : Option Addr) (n6 c6 : Nat) (A1 : Option Addr) (n1 c1 : Nat) (v8 v9 : Value) : Obj :=
 .cells #[.int .i64 p0, .int .i64 p1, .int .i64 p2, .slice A3 n3 c3, .int .i64 p4, .int .i64 p5, .slice A6 n6 c6, .slice A1 n1 c1, v8, v9] 75 (0, 0)
def numsBlk (xs : List Int) : Obj := .cells (nums .i64 xs).toArray 3 (0, 0)
structure Inv (W wr : World) (g gl ga gm gn : Nat) (o : Obj) (pl la : List Int) (M : Bool × Int → Option Value) (N : Int → Option Value) : Prop where
 bel : Below W.heap.size W wr
 hg : wr.heap[g]? = some o
 hpl : wr.heap[gl]? = some (numsBlk pl)
 hla : wr.heap[ga]? = some (numsBlk la)
 hM : IsMap encK wr gm M
 hN : IsMap encI wr gn N
 ne : g ≠ gl ∧ g ≠ ga ∧ gl ≠ ga ∧ g ≠ gm ∧ g ≠ gn ∧ gl ≠ gm ∧ gl ≠ gn ∧ ga ≠ gm ∧ ga ≠ gn ∧ gm ≠ gn
 ge : W.heap.size ≤ g ∧ W.heap.size ≤ gl ∧ W.heap.size ≤ ga ∧ W.heap.size ≤ gm ∧ W.heap.size ≤ gn
section
variable {W wr w1 : World} {g gl ga gm gn : Nat} {o : Obj} {pl la : List Int} {M : Bool × Int → Option Value} {N : Int → Option Value}
theorem lt_of_blk {w : World} {b : Nat} {o : Obj} (h : w.heap[b]? = some o) : b < w.heap.size := (Array.getElem?_eq_some_iff.1 h).1
theorem Inv.below (h : Inv W wr g gl ga gm gn o pl la M N) (hb : Below wr.heap.size wr w1) : Inv W w1 g gl ga gm gn o pl la M N :=
 ⟨below_then h.bel h.bel.size hb, (hb.block _ (lt_of_blk h.hg)).trans h.hg, (hb.block _ (lt_of_blk h.hpl)).trans h.hpl, (hb.block _ (lt_of_blk h.hla)).trans h.hla, h.hM.below hb, h.hN.below hb, h.ne, h.ge⟩
theorem nums_set (xs : List Int) (i : Nat) (x : Int) : (nums .i64 xs).toArray.setIfInBounds i (.int .i64 x) = (nums .i64 (xs.set i x)).toArray := by
 simp [nums, List.map_set]
theorem Inv.setPl (h : Inv W wr g gl ga gm gn o pl la M N) (i : Nat) (x : Int) : Inv W (wr.setCell ⟨gl, i, none⟩ (.int .i64 x)) g gl ga gm gn o (pl.set i x) la M N := by
 obtain ⟨n1, n2, n3, n4, n5, n6, n7, n8, n9, n10⟩ := h.ne
 have far := fun k (hk : k ≠ gl) => Below.heap_setCell wr ⟨gl, i, none⟩ (.int .i64 x) k hk
 refine ⟨h.bel.setCell h.ge.2.1 _, (far _ n1).trans h.hg, ?_, (far _ (Ne.symm n3)).trans h.hla, h.hM.move (far _ (Ne.symm n6)), h.hN.move (far _ (Ne.symm n7)), h.ne, h.ge⟩
 unfold numsBlk
 rw [← nums_set]
 exact blk_set h.hpl i _
theorem Inv.setLa (h : Inv W wr g gl ga gm gn o pl la M N) (i : Nat) (x : Int) : Inv W (wr.setCell ⟨ga, i, none⟩ (.int .i64 x)) g gl ga gm gn o pl (la.set i x) M N := by
 obtain ⟨n1, n2, n3, n4, n5, n6, n7, n8, n9, n10⟩ := h.ne
 have far := fun k (hk : k ≠ ga) => Below.heap_setCell wr ⟨ga, i, none⟩ (.int .i64 x) k hk
 refine ⟨h.bel.setCell h.ge.2.2.1 _, (far _ n2).trans h.hg, (far _ n3).trans h.hpl, ?_, h.hM.move (far _ (Ne.symm n8)), h.hN.move (far _ (Ne.symm n9)), h.ne, h.ge⟩
 unfold numsBlk
 rw [← nums_set]
 exact blk_set h.hla i _
theorem Inv.setM (h : Inv W wr g gl ga gm gn o pl la M N) {o2 : Obj} {M2 : Bool × Int → Option Value} (hM2 : ∀ w2 : World, w2.heap[gm]? = some o2 → IsMap encK w2 gm M2) : Inv W (setBlock wr gm o2) g gl ga gm gn o pl la M2 N := by
 obtain ⟨n1, n2, n3, n4, n5, n6, n7, n8, n9, n10⟩ := h.ne
 have far := fun k (hk : k ≠ gm) => heap_setBlock_ne (w := wr) (o' := o2) hk
 obtain ⟨es, cl, hb, _⟩ := h.hM
 exact ⟨setBlock_below h.bel h.ge.2.2.2.1, (far _ n4).trans h.hg, (far _ n6).trans h.hpl, (far _ n8).trans h.hla, hM2 _ (heap_setBlock hb), h.hN.move (far _ (Ne.symm n10)), h.ne, h.ge⟩
theorem Inv.setN (h : Inv W wr g gl ga gm gn o pl la M N) {o2 : Obj} {N2 : Int → Option Value} (hN2 : ∀ w2 : World, w2.heap[gn]? = some o2 → IsMap encI w2 gn N2) : Inv W (setBlock wr gn o2) g gl ga gm gn o pl la M N2 := by
 obtain ⟨n1, n2, n3, n4, n5, n6, n7, n8, n9, n10⟩ := h.ne
 have far := fun k (hk : k ≠ gn) => heap_setBlock_ne (w := wr) (o' := o2) hk
 obtain ⟨es, cl, hb, _⟩ := h.hN
 exact ⟨setBlock_below h.bel h.ge.2.2.2.2, (far _ n5).trans h.hg, (far _ n7).trans h.hpl, (far _ n9).trans h.hla, h.hM.move (far _ n10), hN2 _ (heap_setBlock hb), h.ne, h.ge⟩
theorem numsBlk_cell {w : World} {b : Nat} {xs : List Int} (h : w.heap[b]? = some (numsBlk xs)) (i : Nat) (hi : i < xs.length) : w.cell? ⟨b, i, none⟩ = some (.int .i64 (xs.getD i 0)) := by
 rw [blk_cell h i]
 simp [nums, List.getD_eq_getElem?_getD, List.getElem?_eq_getElem hi]
theorem numsBlk_frozen {w : World} {b : Nat} {xs : List Int} (h : w.heap[b]? = some (numsBlk xs)) (i : Nat) : w.frozen? ⟨b, i, none⟩ = false := blk_frozen h i
theorem numsBlk_C {w : World} {b : Nat} {xs : List Int} (h : w.heap[b]? = some (numsBlk xs)) (hm : xs.length ≤ 1000000000) : (Kd.int .i64).C w (some ⟨b, 0, none⟩) xs.length xs := by
 refine ⟨rfl, by omega, fun _ => ⟨_, rfl, fun j p hj => ⟨[.int .i64 p], rfl, rfl, fun i u hu => ?_⟩⟩⟩
 obtain ⟨hj1, hj2⟩ := List.getElem?_eq_some_iff.1 hj
 rcases i with _ | i
 · obtain rfl : Value.int .i64 p = u := by simpa using hu
   rw [add_plain]
   have := numsBlk_cell h j hj1
   rw [List.getD_eq_getElem?_getD, hj] at this
   simpa [show (Kd.int .i64).sz = 1 from rfl] using this
 · simp at hu
end
end Go.Proofs.Ytojkeabecjlaeaa.P
