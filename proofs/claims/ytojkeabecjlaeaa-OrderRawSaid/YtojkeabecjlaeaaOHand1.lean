/- The closures that tell the rules of what is ahead of what: what each of them answers. -/
import Derived.Test.YtojkeabecjlaeaaOSpec
import Derived.Test.YtojkeabecjlaeaaXWords
import Derived.Outline
import Derived.BigGuardPart
import Derived.Deep.RegionHeld3
namespace Go.Proofs.Ytojkeabecjlaeaa.P
open Go.RowKit Go.Proofs.YtojkeabecjlaeaaW.PrintWords Go.Proofs.YtojkeabecjlaeaaW.PrintLast Go.Proofs.YtojkeabecjlaeaaW.PrintMore Go.Proofs.YtojkeabecjlaeaaX
set_option linter.unusedVariables false
def EvAt (W : World) (g : Nat) (e : S24) : Prop := W.heap[g]? = some (.cells #[.int .i64 e.f0, .int .i64 e.f1, .int .u8 e.f2, .int .i64 e.f3, .int .i64 e.f4, .int .i64 e.f5] 24 (0, 0))
theorem EvAt.cells {W : World} {g : Nat} {e : S24} (h : EvAt W g e) :
 W.cell? ⟨g, 0, none⟩ = some (.int .i64 e.f0) ∧ W.cell? ⟨g, 1, none⟩ = some (.int .i64 e.f1) ∧ W.cell? ⟨g, 2, none⟩ = some (.int .u8 e.f2) ∧ W.cell? ⟨g, 3, none⟩ = some (.int .i64 e.f3) ∧ W.cell? ⟨g, 4, none⟩ = some (.int .i64 e.f4) ∧ W.cell? ⟨g, 5, none⟩ = some (.int .i64 e.f5) :=
 ⟨(blk_cell h 0).trans rfl, (blk_cell h 1).trans rfl, (blk_cell h 2).trans rfl, (blk_cell h 3).trans rfl, (blk_cell h 4).trans rfl, (blk_cell h 5).trans rfl⟩
theorem rule1 (W : World) (ga gb : Nat) (a b : S24) (ha : EvAt W ga a) (hb : EvAt W gb b) :
 Calls Try.prog 45 #[.pointer (some ⟨ga, 0, none⟩), .pointer (some ⟨gb, 0, none⟩)] W fun e w' => e = .returned (.bool (a.f2 == 14 && (b.f2 == 13 || b.f2 == 15))) ∧ W = w' := by
 obtain ⟨a0, a1, a2, a3, a4, a5⟩ := ha.cells
 obtain ⟨b0, b1, b2, b3, b4, b5⟩ := hb.cells
 clear ha hb
 cases h1 : a.f2 == 14 with
 | false =>
  go_enter Try.func45, Try.ntmps45
  go_wp2
  go_ret
  exact ⟨rfl, rfl⟩
 | true =>
  cases h2 : b.f2 == 13 with
  | false =>
   go_enter Try.func45, Try.ntmps45
   go_wp2
   go_ret
   exact ⟨rfl, rfl⟩
  | true =>
   go_enter Try.func45, Try.ntmps45
   go_wp2
   go_ret
   exact ⟨rfl, rfl⟩
theorem rule2 (W : World) (ga gb : Nat) (a b : S24) (ha : EvAt W ga a) (hb : EvAt W gb b) :
 Calls Try.prog 46 #[.pointer (some ⟨ga, 0, none⟩), .pointer (some ⟨gb, 0, none⟩)] W fun e w' => e = .returned (.bool (a.f2 == 16 && b.f2 == 13)) ∧ W = w' := by
 obtain ⟨a0, a1, a2, a3, a4, a5⟩ := ha.cells
 obtain ⟨b0, b1, b2, b3, b4, b5⟩ := hb.cells
 clear ha hb
 cases h1 : a.f2 == 16 with
 | false =>
  go_enter Try.func46, Try.ntmps46
  go_wp2
  go_ret
  exact ⟨rfl, rfl⟩
 | true =>
  go_enter Try.func46, Try.ntmps46
  go_wp2
  go_ret
  exact ⟨rfl, rfl⟩
theorem rule6 (W : World) (ga gb : Nat) (a b : S24) (ha : EvAt W ga a) (hb : EvAt W gb b) :
 Calls Try.prog 51 #[.pointer (some ⟨ga, 0, none⟩), .pointer (some ⟨gb, 0, none⟩)] W fun e w' => e = .returned (.bool (a.f2 == 23 && (b.f2 == 21 || b.f2 == 22) && b.f5 == 2)) ∧ W = w' := by
 obtain ⟨a0, a1, a2, a3, a4, a5⟩ := ha.cells
 obtain ⟨b0, b1, b2, b3, b4, b5⟩ := hb.cells
 clear ha hb
 cases h1 : a.f2 == 23 with
 | false =>
  go_enter Try.func51, Try.ntmps51
  go_wp2
  go_ret
  exact ⟨rfl, rfl⟩
 | true =>
  cases h2 : b.f2 == 21 with
  | false =>
   cases h3 : b.f2 == 22 with
   | false =>
    go_enter Try.func51, Try.ntmps51
    go_wp2
    go_ret
    exact ⟨rfl, rfl⟩
   | true =>
    go_enter Try.func51, Try.ntmps51
    go_wp2
    go_ret
    exact ⟨rfl, rfl⟩
  | true =>
   go_enter Try.func51, Try.ntmps51
   go_wp2
   go_ret
   exact ⟨rfl, rfl⟩
theorem rule7 (W : World) (ga gb : Nat) (a b : S24) (ha : EvAt W ga a) (hb : EvAt W gb b) :
 Calls Try.prog 52 #[.pointer (some ⟨ga, 0, none⟩), .pointer (some ⟨gb, 0, none⟩)] W fun e w' => e = .returned (.bool (a.f2 == 24 && decide (a.f4 < 0) && b.f2 == 25)) ∧ W = w' := by
 obtain ⟨a0, a1, a2, a3, a4, a5⟩ := ha.cells
 obtain ⟨b0, b1, b2, b3, b4, b5⟩ := hb.cells
 clear ha hb
 cases h1 : a.f2 == 24 with
 | false =>
  go_enter Try.func52, Try.ntmps52
  go_wp2
  go_ret
  exact ⟨rfl, rfl⟩
 | true =>
  cases h2 : decide (a.f4 < 0) with
  | false =>
   go_enter Try.func52, Try.ntmps52
   go_wp2
   go_ret
   exact ⟨rfl, rfl⟩
  | true =>
   go_enter Try.func52, Try.ntmps52
   go_wp2
   go_ret
   exact ⟨rfl, rfl⟩
theorem rule8 (W : World) (ga gb : Nat) (a b : S24) (ha : EvAt W ga a) (hb : EvAt W gb b) :
 Calls Try.prog 53 #[.pointer (some ⟨ga, 0, none⟩), .pointer (some ⟨gb, 0, none⟩)] W fun e w' => e = .returned (.bool (a.f2 == 27 && b.f2 == 26 && b.f5 == 0)) ∧ W = w' := by
 obtain ⟨a0, a1, a2, a3, a4, a5⟩ := ha.cells
 obtain ⟨b0, b1, b2, b3, b4, b5⟩ := hb.cells
 clear ha hb
 cases h1 : a.f2 == 27 with
 | false =>
  go_enter Try.func53, Try.ntmps53
  go_wp2
  go_ret
  exact ⟨rfl, rfl⟩
 | true =>
  cases h2 : b.f2 == 26 with
  | false =>
   go_enter Try.func53, Try.ntmps53
   go_wp2
   go_ret
   exact ⟨rfl, rfl⟩
  | true =>
   go_enter Try.func53, Try.ntmps53
   go_wp2
   go_ret
   exact ⟨rfl, rfl⟩
end Go.Proofs.Ytojkeabecjlaeaa.P
