/- The detector's block and maps: what is kept from call to call. -/
import Derived.Test.YtblnimopffhocaaRSpec
import Derived.Test.YtblnimopffhocaaXMaps
import Derived.Test.YtblnimopffhocaaWEqStruct
import Derived.Laws.EntriesVeiled
namespace Go.Proofs.Ytblnimopffhocaa.P
open Go.RowKit Go.Proofs.YtblnimopffhocaaW.PrintWords Go.Proofs.YtblnimopffhocaaW.PrintLast Go.Proofs.YtblnimopffhocaaW.PrintMore Go.Proofs.YtblnimopffhocaaX Go.ChangeMaps
set_option linter.unusedVariables false
set_option linter.unusedSimpArgs false
def encKey (x : Key) : Value := .agg #[.int .u8 x.1, .int .i64 x.2.1, .int .i64 x.2.2]
def encTch (x : Tch) : Value := .agg #[.int .i64 x.1, .int .i64 x.2.1, .bool x.2.2]
theorem eqA89 (d : Nat) (w : World) (x0 y0 : Int) (x1 y1 : Int) (x2 y2 : Int) :
 (Op.equalIn (d + 2) 89 (.agg #[.int .u8 x0, .int .i64 x1, .int .i64 x2]) (.agg #[.int .u8 y0, .int .i64 y1, .int .i64 y2])).run Try.prog w = .ok (x0 == y0 && (x1 == y1 && (x2 == y2))) w := by
 refine eqA_of Try.underlying89 (by kernel_rfl) ?_
 refine eqf_cons (by rfl) (by go_simp; rfl) (by go_simp; rfl) (by go_simp) ?_
 refine eqf_cons (by rfl) (by go_simp; rfl) (by go_simp; rfl) (by go_simp) ?_
 exact eqf_last (by rfl) (by go_simp; rfl) (by go_simp; rfl) (by go_simp)
theorem eqA98 (d : Nat) (w : World) (x0 y0 : Int) (x1 y1 : Int) (x2 y2 : Bool) :
 (Op.equalIn (d + 2) 98 (.agg #[.int .i64 x0, .int .i64 x1, .bool x2]) (.agg #[.int .i64 y0, .int .i64 y1, .bool y2])).run Try.prog w = .ok (x0 == y0 && (x1 == y1 && (x2 == y2))) w := by
 refine eqA_of Try.underlying98 (by kernel_rfl) ?_
 refine eqf_cons (by rfl) (by go_simp; rfl) (by go_simp; rfl) (by go_simp) ?_
 refine eqf_cons (by rfl) (by go_simp; rfl) (by go_simp; rfl) (by go_simp) ?_
 exact eqf_last (by rfl) (by go_simp; rfl) (by go_simp; rfl) (by go_simp)
theorem klKey : KL Try.prog 89 encKey := by
 refine agg_kl (fun {x y} h => ?_) (by kernel_rfl) (fun em w x => ?_) (fun w x y => ?_) (fun x => ?_)
 · obtain ⟨a, b, c⟩ := x
   obtain ⟨d, e, f⟩ := y
   simp only [encKey, Value.agg.injEq] at h
   simp at h
   rw [h.1, h.2.1, h.2.2]
 · have hu := run_underlying (P := Try.prog) Try.underlying89
   have hi : ∀ (w : World) (x : Int), (Instr.checkKey em 9999 3 (.int .i64 x)).run Try.prog w = .ok () w := fun w x => MapKept.run_checkKey Try.underlying3 (by simp [MapKept.IsKey]) em 9998
   have hk : ∀ (w : World) (x : Int), (Instr.checkKey em 9999 87 (.int .u8 x)).run Try.prog w = .ok () w := fun w x => MapKept.run_checkKey Try.underlying87 (by simp [MapKept.IsKey]) em 9998
   unfold encKey
   rw [show (10000 : Nat) = 9999 + 1 from rfl, Instr.checkKey]
   generalize (9999 : Nat) = m at hi hk ⊢
   rw [Sem.run_bind, hu]
   simp only [Result.andThen]
   go_simp
 · have h := eqA89 9998 w x.1 y.1 x.2.1 y.2.1 x.2.2 y.2.2
   have e : (x.1 == y.1 && (x.2.1 == y.2.1 && (x.2.2 == y.2.2))) = decide (x = y) := by
    rw [Bool.eq_iff_iff, Bool.and_eq_true, Bool.and_eq_true, beq_iff_eq, beq_iff_eq, beq_iff_eq, decide_eq_true_iff, Prod.ext_iff, Prod.ext_iff]
   rw [← e]
   exact h
 · simp [encKey, Instr.sameBits]
theorem klTch : KL Try.prog 98 encTch := by
 refine agg_kl (fun {x y} h => ?_) (by kernel_rfl) (fun em w x => ?_) (fun w x y => ?_) (fun x => ?_)
 · obtain ⟨a, b, c⟩ := x
   obtain ⟨d, e, f⟩ := y
   simp only [encTch, Value.agg.injEq] at h
   simp at h
   rw [h.1, h.2.1, h.2.2]
 · have hu := run_underlying (P := Try.prog) Try.underlying98
   have hb : ∀ (w : World) (x : Bool), (Instr.checkKey em 9999 4 (.bool x)).run Try.prog w = .ok () w := fun w x => MapKept.run_checkKey Try.underlying4 (by simp [MapKept.IsKey]) em 9998
   have hi : ∀ (w : World) (x : Int), (Instr.checkKey em 9999 3 (.int .i64 x)).run Try.prog w = .ok () w := fun w x => MapKept.run_checkKey Try.underlying3 (by simp [MapKept.IsKey]) em 9998
   unfold encTch
   rw [show (10000 : Nat) = 9999 + 1 from rfl, Instr.checkKey]
   generalize (9999 : Nat) = m at hb hi ⊢
   rw [Sem.run_bind, hu]
   simp only [Result.andThen]
   go_simp
 · have h := eqA98 9998 w x.1 y.1 x.2.1 y.2.1 x.2.2 y.2.2
   have e : (x.1 == y.1 && (x.2.1 == y.2.1 && (x.2.2 == y.2.2))) = decide (x = y) := by
    rw [Bool.eq_iff_iff, Bool.and_eq_true, Bool.and_eq_true, beq_iff_eq, beq_iff_eq, beq_iff_eq, decide_eq_true_iff, Prod.ext_iff, Prod.ext_iff]
   rw [← e]
   exact h
 · simp [encTch, Instr.sameBits]
abbrev RI (w : World) (B : Nat) (v : Value) (l : List Int) : Prop := Kd.R (Kd.int .i64) 3 w B (fun _ => True) v l
abbrev RO (w : World) (B : Nat) (v : Value) (l : List S55) : Prop := Kd.R k55 55 w B (fun _ => True) v l
def nilV : Value := .slice none 0 0
def RowOf (w : World) (B : Nat) (m : Option Value) (l : List Int) : Prop := match m with | none => l = [] | some v => RI w B v l
theorem RowOf.get {w : World} {B : Nat} {m : Option Value} {l : List Int} (h : RowOf w B m l) : RI w B (m.getD nilV) l := by
 cases m with
 | none =>
  have h : l = [] := h
  subst h
  exact Kd.R_nil _ _ _ _ _
 | some v => exact h
def detBlk (p v : Nat → Value) (gk gc gl : Nat) (vo : Value) : Obj :=
 .cells #[p 0, p 1, p 2, p 3, p 4, p 5, p 6, v 0, v 1, v 2, v 3, v 4, v 5, .map (some gk), .map (some gc), .map (some gl), vo] 79 (0, 0)
def accV (a : Int × Int) : Value := .agg #[.int .i64 a.1, .int .i64 a.2]
def laM (la : Tch → Option (Int × Int)) : Tch → Option Value := fun x => (la x).map accV
structure DetAt (B : Nat) (w : World) (g gk gc gl : Nat) (p : Nat → Value) (σ : Det) (v : Nat → Value) (vo : Value) : Prop where
 hg : w.heap[g]? = some (detBlk p v gk gc gl vo)
 hth : ∀ u, u < 6 → RI w B (v u) (σ.th u)
 hkn : ∃ M, IsMap encKey w gk M ∧ ∀ x, RowOf w B (M x) (σ.kn x)
 hct : ∃ M, IsMap encKey w gc M ∧ ∀ x, (M x).getD (.int .i64 0) = .int .i64 (σ.ct x)
 hla : IsMap encTch w gl (laM σ.la)
 hout : RO w B vo σ.out
 ne : g ≠ gk ∧ g ≠ gc ∧ g ≠ gl ∧ gk ≠ gc ∧ gk ≠ gl ∧ gc ≠ gl
 ge : B ≤ g ∧ B ≤ gk ∧ B ≤ gc ∧ B ≤ gl
structure Fr (g gk gc gl : Nat) (w w' : World) : Prop where
 os : w'.os = w.os
 tape : w'.tape = w.tape
 output : w'.output = w.output
 size : w.heap.size ≤ w'.heap.size
 block : ∀ b, b < w.heap.size → b ≠ g → b ≠ gk → b ≠ gc → b ≠ gl → w'.heap[b]? = w.heap[b]?
section
variable {g gk gc gl : Nat} {w w1 w2 : World}
theorem Fr.refl (w : World) : Fr g gk gc gl w w := ⟨rfl, rfl, rfl, Nat.le_refl _, fun _ _ _ _ _ _ => rfl⟩
theorem Fr.trans (h : Fr g gk gc gl w w1) (k : Fr g gk gc gl w1 w2) : Fr g gk gc gl w w2 :=
 ⟨k.os.trans h.os, k.tape.trans h.tape, k.output.trans h.output, Nat.le_trans h.size k.size, fun b hb a1 a2 a3 a4 => (k.block b (Nat.lt_of_lt_of_le hb h.size) a1 a2 a3 a4).trans (h.block b hb a1 a2 a3 a4)⟩
theorem Fr.of_below (h : Below w.heap.size w w1) : Fr g gk gc gl w w1 := ⟨h.os, h.tape, h.output, h.size, fun b hb _ _ _ _ => h.block b hb⟩
theorem Fr.below {B : Nat} {W : World} (h : Fr g gk gc gl w w1) (hb : Below B W w) (hB : B ≤ w.heap.size) (hg : B ≤ g ∧ B ≤ gk ∧ B ≤ gc ∧ B ≤ gl) : Below B W w1 :=
 ⟨h.os.trans hb.os, h.tape.trans hb.tape, h.output.trans hb.output, Nat.le_trans hb.size h.size, fun i hi => (h.block i (by omega) (by omega) (by omega) (by omega) (by omega)).trans (hb.block i hi)⟩
theorem Fr.setCell (h : Fr g gk gc gl w w1) (j : Nat) (u : Value) : Fr g gk gc gl w (w1.setCell ⟨g, j, none⟩ u) := by
 have hb := (Below.refl 0 w1).setCell (p := ⟨g, j, none⟩) (Nat.zero_le _) u
 exact ⟨hb.os.trans h.os, hb.tape.trans h.tape, hb.output.trans h.output, Nat.le_trans h.size hb.size, fun b hb a1 a2 a3 a4 => (Below.heap_setCell w1 ⟨g, j, none⟩ u b a1).trans (h.block b hb a1 a2 a3 a4)⟩
theorem Fr.setBlock (h : Fr g gk gc gl w w1) {b : Nat} (hb : b = gk ∨ b = gc ∨ b = gl) (o : Obj) : Fr g gk gc gl w (setBlock w1 b o) :=
 ⟨h.os, h.tape, h.output, by rw [setBlock_size]; exact h.size, fun i hi a1 a2 a3 a4 => (heap_setBlock_ne (by rcases hb with rfl | rfl | rfl <;> assumption)).trans (h.block i hi a1 a2 a3 a4)⟩
theorem R_map {α : Type} {d : Kd α} {e B : Nat} {ok : Nat → Prop} {v : Value} {xs : List α} (h : d.R e w B ok v xs) {b : Nat} {es : Array MapEntry} {cl : Nat} (hb : w.heap[b]? = some (.map es cl)) (o : Obj) : d.R e (setBlock w b o) B ok v xs := by
 refine Kd.R_mono (Kd.R_move (Kd.R_bound h) fun k hk => heap_setBlock_ne ?_) (fun _ hk => hk.1)
 rintro rfl
 obtain ⟨_, _, _, q, hq, cells, hc⟩ := hk
 rw [hb] at hc
 cases hc
theorem RowOf.map {B : Nat} {m : Option Value} {l : List Int} (h : RowOf w B m l) {b : Nat} {es : Array MapEntry} {cl : Nat} (hb : w.heap[b]? = some (.map es cl)) (o : Obj) : RowOf (setBlock w b o) B m l := by
 cases m with
 | none => exact h
 | some v => exact R_map (d := Kd.int .i64) h hb o
theorem RowOf.below {B : Nat} {m : Option Value} {l : List Int} (h : RowOf w B m l) (hb : Below w.heap.size w w1) : RowOf w1 B m l := by
 cases m with
 | none => exact h
 | some v => exact Kd.R_below (d := Kd.int .i64) h hb
theorem RI_set {B : Nat} {v : Value} {l : List Int} (h : RI w B v l) {b t : Nat} {cells : Array Value} (hb : w.heap[b]? = some (.cells cells t (0, 0))) (ht : 3 ≠ t) (j : Nat) (u : Value) : RI (w.setCell ⟨b, j, none⟩ u) B v l :=
 Kd.R_set h hb (fun q hq => by rcases List.mem_cons.1 hq with rfl | hq; exact ht; cases hq) j u
theorem RO_set {B : Nat} {v : Value} {l : List S55} (h : RO w B v l) {b t : Nat} {cells : Array Value} (hb : w.heap[b]? = some (.cells cells t (0, 0))) (ht : 55 ≠ t) (j : Nat) (u : Value) : RO (w.setCell ⟨b, j, none⟩ u) B v l :=
 Kd.R_set h hb (fun q hq => by rcases List.mem_cons.1 hq with rfl | hq; exact ht; cases hq) j u
theorem RowOf.set {B : Nat} {m : Option Value} {l : List Int} (h : RowOf w B m l) {b t : Nat} {cells : Array Value} (hb : w.heap[b]? = some (.cells cells t (0, 0))) (ht : 3 ≠ t) (j : Nat) (u : Value) : RowOf (w.setCell ⟨b, j, none⟩ u) B m l := by
 cases m with
 | none => exact h
 | some v => exact RI_set h hb ht j u
end
section
variable {B g gk gc gl : Nat} {w w1 : World} {p v : Nat → Value} {σ : Det} {vo : Value}
theorem DetAt.lt (h : DetAt B w g gk gc gl p σ v vo) : g < w.heap.size ∧ gk < w.heap.size ∧ gc < w.heap.size ∧ gl < w.heap.size := by
 obtain ⟨M, hM, _⟩ := h.hkn
 obtain ⟨N, hN, _⟩ := h.hct
 exact ⟨blk_lt h.hg, hM.lt, hN.lt, h.hla.lt⟩
theorem DetAt.below (h : DetAt B w g gk gc gl p σ v vo) (hb : Below w.heap.size w w1) : DetAt B w1 g gk gc gl p σ v vo := by
 obtain ⟨M, hM, hR⟩ := h.hkn
 obtain ⟨N, hN, hNc⟩ := h.hct
 exact ⟨(hb.block _ h.lt.1).trans h.hg, fun u hu => Kd.R_below (h.hth u hu) hb, ⟨M, hM.below hb, fun x => (hR x).below hb⟩, ⟨N, hN.below hb, hNc⟩, h.hla.below hb, Kd.R_below h.hout hb, h.ne, h.ge⟩
theorem DetAt.th_cell (h : DetAt B w g gk gc gl p σ v vo) (u : Nat) (hu : u < 6) : w.cell? ⟨g, 7 + u, none⟩ = some (v u) := by
 rw [blk_cell h.hg (7 + u)]
 match u, hu with
 | 0, _ => rfl
 | 1, _ => rfl
 | 2, _ => rfl
 | 3, _ => rfl
 | 4, _ => rfl
 | 5, _ => rfl
theorem DetAt.frozen (h : DetAt B w g gk gc gl p σ v vo) (j : Nat) : w.frozen? ⟨g, j, none⟩ = false := blk_frozen h.hg j
theorem detBlk_set (u : Nat) (hu : u < 6) (x : Value) : #[p 0, p 1, p 2, p 3, p 4, p 5, p 6, v 0, v 1, v 2, v 3, v 4, v 5, .map (some gk), .map (some gc), .map (some gl), vo].setIfInBounds (7 + u) x =
 #[p 0, p 1, p 2, p 3, p 4, p 5, p 6, up1 v u x 0, up1 v u x 1, up1 v u x 2, up1 v u x 3, up1 v u x 4, up1 v u x 5, .map (some gk), .map (some gc), .map (some gl), vo] := by
 match u, hu with
 | 0, _ => rfl
 | 1, _ => rfl
 | 2, _ => rfl
 | 3, _ => rfl
 | 4, _ => rfl
 | 5, _ => rfl
theorem DetAt.setTh (h : DetAt B w g gk gc gl p σ v vo) (u : Nat) (hu : u < 6) (x : Value) (l : List Int) (hx : RI w B x l) : DetAt B (w.setCell ⟨g, 7 + u, none⟩ x) g gk gc gl p { σ with th := up1 σ.th u l } (up1 v u x) vo := by
 obtain ⟨M, hM, hR⟩ := h.hkn
 obtain ⟨N, hN, hNc⟩ := h.hct
 obtain ⟨n1, n2, n3, n4, n5, n6⟩ := h.ne
 have far := fun k (hk : k ≠ g) => Below.heap_setCell w ⟨g, 7 + u, none⟩ x k hk
 refine ⟨?_, fun z hz => ?_, ⟨M, hM.move (far _ (Ne.symm n1)), fun y => (hR y).set h.hg (by decide) _ _⟩, ⟨N, hN.move (far _ (Ne.symm n2)), hNc⟩, h.hla.move (far _ (Ne.symm n3)), RO_set h.hout h.hg (by decide) _ _, h.ne, h.ge⟩
 · have h1 := blk_set h.hg (7 + u) x
   rw [detBlk_set u hu x] at h1
   exact h1
 · show RI _ _ (up1 v u x z) (up1 σ.th u l z)
   by_cases hzu : z = u
   · subst hzu
     rw [up1_self, up1_self]
     exact RI_set hx h.hg (by decide) _ _
   · rw [up1_ne _ _ hzu, up1_ne _ _ hzu]
     exact RI_set (h.hth z hz) h.hg (by decide) _ _
theorem DetAt.setKn (h : DetAt B w g gk gc gl p σ v vo) (k : Key) (x : Value) (l : List Int) (hx : RI w B x l) :
 ∃ o, (Instr.mapUpdate 74 (.map (some gk)) (encKey k) x).run Try.prog w = .ok () (setBlock w gk o) ∧ DetAt B (setBlock w gk o) g gk gc gl p { σ with kn := up1 σ.kn k l } v vo := by
 obtain ⟨M, hM, hR⟩ := h.hkn
 obtain ⟨N, hN, hNc⟩ := h.hct
 obtain ⟨n1, n2, n3, n4, n5, n6⟩ := h.ne
 obtain ⟨o, hrun, hM2⟩ := mapUpdate_run klKey Try.underlying74 hM k x
 obtain ⟨es, cl, hb, _⟩ := id hM
 have far := fun b (hk : b ≠ gk) => heap_setBlock_ne (w := w) (o' := o) hk
 refine ⟨o, hrun, (far _ n1).trans h.hg, fun u hu => R_map (h.hth u hu) hb o, ⟨upd M k x, hM2 _ (heap_setBlock hb), fun y => ?_⟩, ⟨N, hN.move (far _ (Ne.symm n4)), hNc⟩, h.hla.move (far _ (Ne.symm n5)), R_map h.hout hb o, h.ne, h.ge⟩
 unfold upd
 show RowOf _ _ _ (up1 σ.kn k l y)
 unfold up1
 split
 · exact R_map hx hb o
 · exact (hR y).map hb o
theorem DetAt.setLa (h : DetAt B w g gk gc gl p σ v vo) (k : Tch) (x : Int × Int) :
 ∃ o, (Instr.mapUpdate 76 (.map (some gl)) (encTch k) (accV x)).run Try.prog w = .ok () (setBlock w gl o) ∧ DetAt B (setBlock w gl o) g gk gc gl p { σ with la := up1 σ.la k (some x) } v vo := by
 obtain ⟨M, hM, hR⟩ := h.hkn
 obtain ⟨N, hN, hNc⟩ := h.hct
 obtain ⟨n1, n2, n3, n4, n5, n6⟩ := h.ne
 obtain ⟨o, hrun, hM2⟩ := mapUpdate_run klTch Try.underlying76 h.hla k (accV x)
 obtain ⟨es, cl, hb, _⟩ := id h.hla
 have far := fun b (hk : b ≠ gl) => heap_setBlock_ne (w := w) (o' := o) hk
 refine ⟨o, hrun, (far _ n3).trans h.hg, fun u hu => R_map (h.hth u hu) hb o, ⟨M, hM.move (far _ n5), fun y => (hR y).map hb o⟩, ⟨N, hN.move (far _ n6), hNc⟩, ?_, R_map h.hout hb o, h.ne, h.ge⟩
 have e : upd (laM σ.la) k (accV x) = laM (up1 σ.la k (some x)) := by
  funext y
  unfold upd laM up1
  split <;> rfl
 rw [← e]
 exact hM2 _ (heap_setBlock hb)
theorem DetAt.kn_look (h : DetAt B w g gk gc gl p σ v vo) (k : Key) : ∃ x, (Instr.lookup 74 (.map (some gk)) (encKey k) false).run Try.prog w = .ok x w ∧ RI w B x (σ.kn k) ∧ ∀ w1, Below w.heap.size w w1 → (Instr.lookup 74 (.map (some gk)) (encKey k) false).run Try.prog w1 = .ok x w1 := by
 obtain ⟨M, hM, hR⟩ := h.hkn
 obtain ⟨N, hN, hNc⟩ := h.hct
 exact ⟨(M k).getD nilV, lookup_run klKey Try.underlying74 nilV (fun w => by kernel_rfl) hM k, (hR k).get, fun w1 hb => lookup_run klKey Try.underlying74 nilV (fun w => by kernel_rfl) (hM.below hb) k⟩
end
end Go.Proofs.Ytblnimopffhocaa.P
