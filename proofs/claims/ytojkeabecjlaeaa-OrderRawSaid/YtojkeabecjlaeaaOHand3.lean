/- The row of functions that tell the rules: whether any of them answers true. -/
import Derived.Test.YtojkeabecjlaeaaOHand2
namespace Go.Proofs.Ytojkeabecjlaeaa.P
open Go.RowKit Go.Proofs.YtojkeabecjlaeaaW.PrintWords Go.Proofs.YtojkeabecjlaeaaW.PrintLast Go.Proofs.YtojkeabecjlaeaaW.PrintMore Go.Proofs.YtojkeabecjlaeaaX
set_option linter.unusedVariables false
set_option linter.unusedSimpArgs false
def Tells (W : World) (v : Value) (b : Bool) : Prop := ∃ f caps fn, v = .func (.func f) #[] caps ∧ Try.prog.funcs[f]? = some fn ∧ (fn.name == "runtime.NumGoroutine") = false ∧ fn.body.isSome = true ∧
 ∀ W1, Below W.heap.size W W1 → Calls Try.prog f caps W1 fun e w' => e = .returned (.bool b) ∧ Below W1.heap.size W1 w'
theorem call_it (W W1 : World) (v : Value) (b : Bool) (h : Tells W v b) (hW : Below W.heap.size W W1) : Calls Try.prog 55 #[v] W1 fun e w' => e = .returned (.bool b) ∧ Below W1.heap.size W1 w' := by
 obtain ⟨f, caps, fn, rfl, hf, hname, hbody, hc⟩ := h
 have HC := Aside0.mk (hc W1 hW)
 have HF := Aside0.mk hf
 have HN := Aside0.mk hname
 have HBo := Aside0.mk hbody
 clear hc hf hname hbody hW
 go_enter Try.func55, Try.ntmps55
 go_wp2_with (refine goesC_ 3 (some 4) rfl rfl (caps := caps) (f := f) (by rfl) HF.out HN.out HBo.out caps rfl (by simp) ?_; refine HC.out.mono ?_; rintro e w' ⟨rfl, hb⟩; refine ⟨_, rfl, ?_⟩)
 go_ret
 exact ⟨rfl, hb⟩
theorem index_funcs (W : World) (ad : Addr) (fs : List Value) (bs : List Bool) (cap : Nat) (hl : fs.length = bs.length) (hm : fs.length ≤ 1000) (hf : ∀ j, j < fs.length → Tells W (fs.getD j undef) (bs.getD j false))
 (hc : ∀ j, j < fs.length → W.cell? (ad.add j) = some (fs.getD j undef)) :
 Calls Try.prog 60 #[.slice (some ad) fs.length cap, .func (.func 55) #[] #[]] W fun e w' => (∃ r : Int, e = .returned (.int .i64 r) ∧ (0 ≤ r ↔ ∃ j, j < bs.length ∧ bs.getD j false = true)) ∧ Below W.heap.size W w' := by
 have HM := Aside0.mk hm
 have HL := Aside0.mk hl
 have HF := Aside0.mk hf
 have HC := Aside0.mk hc
 clear hf hc hl hm
 go_enter Try.func60, Try.ntmps60
 go_wp2
 go_loopg [8] (fs.length + 1) (fun kq v8 w' => ∃ i : Nat, v8 = .int .i64 (i : Int) ∧ Aside0 (kq + i = fs.length + 1) ∧ Aside0 (i ≤ fs.length) ∧ Aside0 (∀ j, j < i → bs.getD j false = false) ∧ Aside0 (Below W.heap.size W w'))
 case atStart => exact ⟨0, rfl, ⟨by omega⟩, ⟨by omega⟩, ⟨fun j h => by omega⟩, ⟨Below.refl _ _⟩⟩
 case round =>
  obtain ⟨i, rfl, HK, HI, HN, HB⟩ := hrel
  cases gk with
  | zero => exact absurd HK.out (by have := HI.out; omega)
  | succ k1 =>
   by_cases hi : i < fs.length
   · have c0 : decide ((i : Int) < (fs.length : Int)) = true := decide_eq_true (by omega)
     have p1 : (0 : Int) ≤ (i : Int) := by omega
     have hx := pw_cell_below HB.out (HC.out i hi)
     obtain ⟨v, hv⟩ : ∃ v, fs.getD i undef = v := ⟨_, rfl⟩
     obtain ⟨b, hbv⟩ : ∃ b, bs.getD i false = b := ⟨_, rfl⟩
     have HT := Aside0.mk (HF.out i hi)
     rw [hv] at hx
     rw [hv, hbv] at HT
     have Hbv := Aside0.mk hbv
     clear hv hbv
     have hmm := HM.out
     cases hb : b with
     | true =>
      subst hb
      go_wp2_with ((refine goesV_ 11 (some 16) rfl rfl (by rfl) Try.func55 (by kernel_rfl) rfl #[v] rfl (by simp [Act.eval]) ?_); refine (call_it W _ v true HT.out HB.out).mono ?_; rintro e w' ⟨rfl, hb2⟩; refine ⟨_, rfl, ?_⟩)
      go_ret
      refine ⟨⟨_, rfl, fun _ => ⟨i, ?_, Hbv.out⟩, fun _ => ?_⟩, below_then HB.out HB.out.size hb2⟩
      · have := HL.out; omega
      · omega
     | false =>
      subst hb
      go_wp2_with ((refine goesV_ 11 (some 16) rfl rfl (by rfl) Try.func55 (by kernel_rfl) rfl #[v] rfl (by simp [Act.eval]) ?_); refine (call_it W _ v false HT.out HB.out).mono ?_; rintro e w' ⟨rfl, hb2⟩; refine ⟨_, rfl, ?_⟩)
      go_roundg k1
      case measure => omega
      case rel => exact ⟨i + 1, by go_num, ⟨by have := HK.out; omega⟩, ⟨by omega⟩, ⟨fun j h => by
       by_cases hj : j < i
       · exact HN.out j hj
       · obtain rfl : j = i := by omega
         exact Hbv.out⟩, ⟨below_then HB.out HB.out.size hb2⟩⟩
   · have c0 : decide ((i : Int) < (fs.length : Int)) = false := decide_eq_false (by omega)
     go_wp2
     go_ret
     refine ⟨⟨_, rfl, fun h => absurd h (by omega), fun ⟨j, h1, h2⟩ => ?_⟩, HB.out⟩
     rw [HN.out j (by have := HL.out; omega)] at h2
     cases h2
theorem any_funcs (W : World) (ad : Addr) (fs : List Value) (bs : List Bool) (cap : Nat) (hl : fs.length = bs.length) (hm : fs.length ≤ 1000) (hf : ∀ j, j < fs.length → Tells W (fs.getD j undef) (bs.getD j false))
 (hc : ∀ j, j < fs.length → W.cell? (ad.add j) = some (fs.getD j undef)) :
 Calls Try.prog 54 #[.slice (some ad) fs.length cap, .func (.func 55) #[] #[]] W fun e w' => e = .returned (.bool (bs.any id)) ∧ Below W.heap.size W w' := by
 have HI := Aside0.mk (index_funcs W ad fs bs cap hl hm hf hc)
 clear hf hc hl hm
 obtain ⟨b, hbv⟩ : ∃ b, bs.any id = b := ⟨_, rfl⟩
 rw [hbv]
 have Hbv := Aside0.mk hbv
 clear hbv
 go_enter Try.func54, Try.ntmps54
 go_wp2_with ((with_reducible refine gate_callee (f := 60) rfl ?_); refine goesL_ (some 7) rfl rfl Try.func60 (by kernel_rfl) rfl #[.slice (some ad) fs.length cap, .func (.func 55) #[] #[]] rfl (by simp [Act.eval]) ?_; refine HI.out.mono ?_; rintro e w' ⟨⟨r, rfl, hr⟩, hb⟩; have Hr := Aside0.mk hr; clear hr; refine ⟨_, rfl, ?_⟩)
 go_ret
 refine ⟨?_, hb⟩
 have : decide (0 ≤ r) = b := by
  rw [← Hbv.out, Bool.eq_iff_iff, decide_eq_true_iff, Hr.out, List.any_eq_true]
  constructor
  · rintro ⟨j, h1, h2⟩
    rw [List.getD_eq_getElem?_getD, List.getElem?_eq_getElem h1] at h2
    exact ⟨_, List.getElem_mem h1, h2⟩
  · rintro ⟨x, h1, h2⟩
    obtain ⟨j, h3, rfl⟩ := List.getElem_of_mem h1
    exact ⟨j, h3, by rw [List.getD_eq_getElem?_getD, List.getElem?_eq_getElem h3]; exact h2⟩
 rw [← this]
 rfl
end Go.Proofs.Ytojkeabecjlaeaa.P
