/- A trace with what is asked of channels and atoms counted: what the function that makes it answers. -/
import Derived.Test.YtojkeabecjlaeaaOHand6
namespace Go.Proofs.Ytojkeabecjlaeaa.P
open Go.RowKit Go.Proofs.YtojkeabecjlaeaaW.PrintWords Go.Proofs.YtojkeabecjlaeaaW.PrintLast Go.Proofs.YtojkeabecjlaeaaW.PrintMore Go.Proofs.YtojkeabecjlaeaaX Go.ChangeMaps
set_option linter.unusedVariables false
set_option linter.unusedSimpArgs false
section
variable {P : Program} {ops : Array Oper} {rest : List Oper} {o : Oper} {a : Act} {Q : Exit → Act → World → Prop} {Kc : Act → World → Prop}
theorem madeBlk (m : Nat) : (Obj.cells (madeCells #[.int .i64 0] m) 3 (0, 0)) = numsBlk (List.replicate m 0) := by
 unfold numsBlk
 congr 1
 apply Array.ext'
 rw [List.toList_toArray]
 apply List.ext_getElem
 · simp [nums, madeCells]
 · intro i h1 h2
   simp [nums, madeCells, Nat.mod_one]
theorem make_step {W : World} (hw : Region.wanted o (yielded ops a.tmps) = true) {m : Nat}
 (hrun : (execOp a.eval o).run P W = .ok (.value (.slice (some ⟨W.heap.size, 0, none⟩) m m)) (W.alloc (.cells (madeCells #[.int .i64 0] m) 3)))
 (h : ∀ g, g = W.heap.size → ∀ w1, w1.heap[g]? = some (numsBlk (List.replicate m 0)) → Below W.heap.size W w1 → Kc (a.put o.dst (.slice (some ⟨g, 0, none⟩) m m)) w1) : if Region.wanted o (yielded ops a.tmps) = true then Oper.wp P o a W Kc Q else Kc (a.put o.dst undef) W :=
 event_step hw hrun (h _ rfl _ (by rw [← madeBlk]; exact heap_alloc_new W _) (below_alloc (Below.refl _ _) _))
theorem map_event {W : World} (hgd : o.guard = none) (hrun : (execOp a.eval o).run P W = .ok (.value (.map (some W.heap.size))) (W.alloc (.map #[] 0)))
 (h : ∀ g, g = W.heap.size → ∀ w1, w1.heap[g]? = some (.map #[] 0) → Below W.heap.size W w1 → wpList P ops Q rest (a.put o.dst (.map (some g))) w1) : wpList P ops Q (o :: rest) a W :=
 Kd.event_run hgd hrun (h _ rfl _ (heap_alloc_new W _) (below_alloc (Below.refl _ _) _))
theorem gate_update {t : TypeId} {x y z : Tmp} (_ho : o.op = .mapUpdate t (.tmp x) (.tmp y) (.tmp z)) {W : World} (h : wpList P ops Q (o :: rest) a W) : wpList P ops Q (o :: rest) a W := h
end
theorem empty_map {κ : Type} {enc : κ → Value} {w : World} {b : Nat} (h : w.heap[b]? = some (.map #[] 0)) : IsMap enc w b (fun _ => none) := ⟨#[], 0, h, ⟨by simp, by simp, by simp⟩, by simp, by simp⟩
def put2 (w : World) (g : Nat) (tk : Bool) (ob : Int) : World := (w.setCell ⟨g, 0, none⟩ (.bool tk)).setCell ⟨g, 1, none⟩ (.int .i64 ob)
theorem put2_blk {w : World} {g : Nat} {tk : Bool} {ob : Int} (h : w.heap[g]? = some (.cells #[.bool false, .int .i64 0] 79 (0, 0))) : (put2 w g tk ob).heap[g]? = some (.cells #[.bool tk, .int .i64 ob] 79 (0, 0)) := by
 have h1 := blk_set h 0 (.bool tk)
 exact (blk_set h1 1 (.int .i64 ob)).trans rfl
theorem put2_below {w W : World} {g : Nat} {tk : Bool} {ob : Int} (h : Below w.heap.size w W) (hg : w.heap.size ≤ g) : Below w.heap.size w (put2 W g tk ob) := below_set (below_set h hg) hg
theorem zeroI (w : World) : (zeroValue 3).run Try.prog w = .ok (.int .i64 0) w := by kernel_rfl
def kcnt (t : List S24) (i : Nat) (x : Bool × Int) : Nat := ((t.take i).filter fun e => goesB e && takesB e == x.1 && e.f3 == x.2).length
def lastU (t : List S24) : Nat → Int → Int
 | 0, _ => -1
 | i + 1, o => if (((t.getD i z24).f2 == 18 || (t.getD i z24).f2 == 19) && (t.getD i z24).f3 == o) = true then (i : Int) else lastU t i o
def keyB (e : S24) : Bool × Int := (takesB e, e.f3)
def plU (t : List S24) (i : Nat) : Int := if goesB (t.getD i z24) = true then (kcnt t i (keyB (t.getD i z24)) : Int) else 0
def laU (t : List S24) (i : Nat) : Int := lastU t i (t.getD i z24).f3
def upTo (F : Nat → Int) (n i : Nat) : List Int := (List.range n).map fun k => if k < i then F k else 0
theorem upTo_set (F : Nat → Int) (n i : Nat) (hi : i < n) : (upTo F n i).set i (F i) = upTo F n (i + 1) := by
 apply List.ext_getElem
 · simp [upTo]
 · intro k h1 h2
   simp only [upTo, List.length_set, List.length_map, List.length_range] at h1
   rw [List.getElem_set]
   simp only [upTo, List.getElem_map, List.getElem_range]
   by_cases h : i = k
   · subst h; simp
   · rw [if_neg h]
     by_cases h3 : k < i
     · rw [if_pos h3, if_pos (by omega)]
     · rw [if_neg h3, if_neg (by omega)]
theorem upTo_skip (F : Nat → Int) (n i : Nat) (h0 : F i = 0) : upTo F n i = upTo F n (i + 1) := by
 apply List.ext_getElem
 · simp [upTo]
 · intro k h1 h2
   simp only [upTo, List.getElem_map, List.getElem_range]
   by_cases h3 : k < i
   · rw [if_pos h3, if_pos (by omega)]
   · rw [if_neg h3]
     by_cases h : k = i
     · subst h; rw [if_pos (by omega), h0]
     · rw [if_neg (by omega)]
theorem upTo_length (F : Nat → Int) (n i : Nat) : (upTo F n i).length = n := by simp [upTo]
theorem upTo_zero (F : Nat → Int) (n : Nat) : List.replicate n 0 = upTo F n 0 := by
 apply List.ext_getElem
 · simp [upTo]
 · intro k h1 h2
   simp [upTo]
def MU (t : List S24) (i : Nat) : Bool × Int → Option Value := fun x => if kcnt t i x = 0 then none else some (.int .i64 (kcnt t i x : Int))
def NU (t : List S24) (i : Nat) : Int → Option Value := fun x => if lastU t i x < 0 then none else some (.int .i64 (lastU t i x))
theorem kcnt_succ (t : List S24) (i : Nat) (hi : i < t.length) (x : Bool × Int) : kcnt t (i + 1) x = kcnt t i x + if goesB (t.getD i z24) = true ∧ keyB (t.getD i z24) = x then 1 else 0 := by
 unfold kcnt keyB
 rw [List.take_succ_eq_append_getElem hi, List.filter_append, List.length_append, List.getD_eq_getElem?_getD, List.getElem?_eq_getElem hi]
 simp only [Option.getD_some, List.filter_cons, List.filter_nil]
 congr 1
 by_cases h : goesB t[i] = true ∧ (takesB t[i], t[i].f3) = x
 · obtain ⟨h1, h2⟩ := h
   subst h2
   simp [h1]
 · rw [if_neg h]
   split
   · rename_i hc
     simp only [Bool.and_eq_true, beq_iff_eq] at hc
     exact absurd ⟨hc.1.1, Prod.ext hc.1.2 hc.2⟩ h
   · rfl
theorem kcnt_le (t : List S24) (i : Nat) (x : Bool × Int) : kcnt t i x ≤ i := Nat.le_trans (List.length_filter_le _ _) (List.length_take_le _ _)
theorem MU_get (t : List S24) (i : Nat) (x : Bool × Int) : (MU t i x).getD (.int .i64 0) = .int .i64 (kcnt t i x : Int) := by
 unfold MU
 split
 · rename_i h; rw [h]; rfl
 · rfl
theorem MU_goes (t : List S24) (i : Nat) (hi : i < t.length) (hg : goesB (t.getD i z24) = true) : upd (MU t i) (keyB (t.getD i z24)) (.int .i64 ((kcnt t i (keyB (t.getD i z24)) : Int) + 1)) = MU t (i + 1) := by
 funext x
 unfold upd MU
 by_cases h : x = keyB (t.getD i z24)
 · subst h
   have hc : kcnt t (i + 1) (keyB (t.getD i z24)) = kcnt t i (keyB (t.getD i z24)) + 1 := by rw [kcnt_succ t i hi, if_pos ⟨hg, rfl⟩]
   rw [if_pos rfl, hc, if_neg (by omega)]
   rfl
 · have hc : kcnt t (i + 1) x = kcnt t i x := by rw [kcnt_succ t i hi, if_neg (fun hh => h hh.2.symm)]; rfl
   rw [if_neg h, hc]
theorem MU_skip (t : List S24) (i : Nat) (hi : i < t.length) (hg : goesB (t.getD i z24) = false) : MU t i = MU t (i + 1) := by
 funext x
 have hc : kcnt t (i + 1) x = kcnt t i x := by rw [kcnt_succ t i hi, if_neg (by rw [hg]; simp)]; rfl
 unfold MU
 rw [hc]
theorem lastU_lo (t : List S24) (o : Int) : ∀ i, -1 ≤ lastU t i o ∧ lastU t i o < (i : Int)
 | 0 => by simp [lastU]
 | i + 1 => by
  have := lastU_lo t o i
  unfold lastU
  split <;> omega
def wrB (e : S24) : Bool := e.f2 == 18 || e.f2 == 19
theorem lastU_succ (t : List S24) (i : Nat) (o : Int) : lastU t (i + 1) o = if (wrB (t.getD i z24) && (t.getD i z24).f3 == o) = true then (i : Int) else lastU t i o := rfl
theorem NU_write (t : List S24) (i : Nat) (hw : wrB (t.getD i z24) = true) : upd (NU t i) (t.getD i z24).f3 (.int .i64 (i : Int)) = NU t (i + 1) := by
 funext x
 unfold upd NU
 rw [lastU_succ, hw]
 by_cases h : x = (t.getD i z24).f3
 · subst h
   have hh : ¬ ((i : Int) < 0) := by omega
   simp only [beq_self_eq_true, Bool.and_self, if_true, if_neg hh]
 · have : ((t.getD i z24).f3 == x) = false := beq_eq_false_iff_ne.2 (fun e => h e.symm)
   rw [if_neg h, this]
   rfl
theorem NU_skip (t : List S24) (i : Nat) (hw : wrB (t.getD i z24) = false) : NU t i = NU t (i + 1) := by
 funext x
 unfold NU
 rw [lastU_succ, hw]
 rfl
theorem NU_zero (t : List S24) : NU t 0 = fun _ => none := by funext x; simp [NU, lastU]
theorem MU_zero (t : List S24) : MU t 0 = fun _ => none := by funext x; simp [MU, kcnt]
end Go.Proofs.Ytojkeabecjlaeaa.P
