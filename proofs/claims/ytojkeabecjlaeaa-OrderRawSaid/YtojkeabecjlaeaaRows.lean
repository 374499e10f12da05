/-
  No cell of these rows narrows 'for every input' (looked for: loops, veiled, ifaces, maps, wideKeys, modest, calm, conditions, laid).
  DERIVED. THE GIVEN ROWS OF THIS SEAT. 7 by the template 'for every input the law returns true; each argument reads behind the call as it read before'; 0 by the template 'total and deterministic' (their statements: YtojkeabecjlaeaaTotals.lean).
  GIVEN WITH THE SEED: the statements are not yours to turn. If you find one false, say at which input.
  Laid BY PROGRAM, IN A SANDBOX (cutbox-rows.mjs): the forced cells as the released guide's own fill.sh prints them over the translation a9a5800631150460… (all of the seat's roots in one cut). By AI agents, Wed Nov 11 2026. No macro, syntax, notation, axiom, sorry.
-/
import Derived.Test.YtojkeabecjlaeaaChecked
import GoSem.Claim
import GoSem.ClaimJoined
import GoSem.ClaimMapViews
import Derived.JoinedTies
import Derived.KernelRfl
namespace Go.Proofs.Ytojkeabecjlaeaa
/- THE CELL 'sum', in the pinned program and in every row, IS THE sha256 OF THE DUMP (.gsa) THAT YtojkeabecjlaeaaProg.lean LOADS. Nothing in Lean hashes anything: it is a label: what it is worth is what the hold of that sum in a sandbox is worth. -/
noncomputable def Try.pinned : Pinned := { name := "ytojkeabecjlaeaa", sum := "a9a580063115046050afdb935ce428375c822a602cbac4a88557a38b41e9c7e7", checked := Try.checked }
namespace Rows
def none {H : Type} : Left H := { results := [], args := [] }

/-- 'interlocklaw07.OrderGoes': WHATEVER THE INPUT: true; the input reads as it did. -/
def orderGoesSpec : ChangeSpec := { name := "orderGoes", fn := fun _ => fun
  | [d1, d2] => { results := [.lit (.bool true)], args := [d1, d2] }
  | _ => none }
def orderGoesRow : OpenClaim := { program := "ytojkeabecjlaeaa", sum := "a9a580063115046050afdb935ce428375c822a602cbac4a88557a38b41e9c7e7", func := "interlock/interlocklaw07.OrderGoes", spec := "orderGoes", unfollowed := true, recurses := true, plainKeys := false, apart := false }
def OrderGoesSaid : Prop := orderGoesRow.holds Try.pinned (OpenSpec.ofChange orderGoesSpec)

/-- ITS FALSE NEIGHBOUR: 'it returns false'. Refute it at one input. -/
def orderGoesWrong : ChangeSpec := { name := "orderGoes", fn := fun _ => fun
  | [d1, d2] => { results := [.lit (.bool false)], args := [d1, d2] }
  | _ => none }
def OrderGoesWrongFalsely : Prop := orderGoesRow.holds Try.pinned (OpenSpec.ofChange orderGoesWrong)

/-- 'interlocklaw07.OrderHands': WHATEVER THE INPUT: true; the input reads as it did. -/
def orderHandsSpec : ChangeSpec := { name := "orderHands", fn := fun _ => fun
  | [d1, d2] => { results := [.lit (.bool true)], args := [d1, d2] }
  | _ => none }
def orderHandsRow : OpenClaim := { program := "ytojkeabecjlaeaa", sum := "a9a580063115046050afdb935ce428375c822a602cbac4a88557a38b41e9c7e7", func := "interlock/interlocklaw07.OrderHands", spec := "orderHands", unfollowed := true, recurses := true, plainKeys := false, apart := false }
def OrderHandsSaid : Prop := orderHandsRow.holds Try.pinned (OpenSpec.ofChange orderHandsSpec)

/-- ITS FALSE NEIGHBOUR: 'it returns false'. Refute it at one input. -/
def orderHandsWrong : ChangeSpec := { name := "orderHands", fn := fun _ => fun
  | [d1, d2] => { results := [.lit (.bool false)], args := [d1, d2] }
  | _ => none }
def OrderHandsWrongFalsely : Prop := orderHandsRow.holds Try.pinned (OpenSpec.ofChange orderHandsWrong)

/-- 'interlocklaw07.OrderRuns': WHATEVER THE INPUT: true; the input reads as it did. -/
def orderRunsSpec : ChangeSpec := { name := "orderRuns", fn := fun _ => fun
  | [d1, d2] => { results := [.lit (.bool true)], args := [d1, d2] }
  | _ => none }
def orderRunsRow : OpenClaim := { program := "ytojkeabecjlaeaa", sum := "a9a580063115046050afdb935ce428375c822a602cbac4a88557a38b41e9c7e7", func := "interlock/interlocklaw07.OrderRuns", spec := "orderRuns", unfollowed := true, recurses := true, plainKeys := false, apart := false }
def OrderRunsSaid : Prop := orderRunsRow.holds Try.pinned (OpenSpec.ofChange orderRunsSpec)

/-- ITS FALSE NEIGHBOUR: 'it returns false'. Refute it at one input. -/
def orderRunsWrong : ChangeSpec := { name := "orderRuns", fn := fun _ => fun
  | [d1, d2] => { results := [.lit (.bool false)], args := [d1, d2] }
  | _ => none }
def OrderRunsWrongFalsely : Prop := orderRunsRow.holds Try.pinned (OpenSpec.ofChange orderRunsWrong)

/-- 'interlocklaw07.OrderRaw': WHATEVER THE INPUT: true; the input reads as it did. -/
def orderRawSpec : ChangeSpec := { name := "orderRaw", fn := fun _ => fun
  | [d1, d2, d3, d4, d5, d6, d7] => { results := [.lit (.bool true)], args := [d1, d2, d3, d4, d5, d6, d7] }
  | _ => none }
def orderRawRow : OpenClaim := { program := "ytojkeabecjlaeaa", sum := "a9a580063115046050afdb935ce428375c822a602cbac4a88557a38b41e9c7e7", func := "interlock/interlocklaw07.OrderRaw", spec := "orderRaw", unfollowed := true, recurses := true, plainKeys := false, apart := false }
def OrderRawSaid : Prop := orderRawRow.holds Try.pinned (OpenSpec.ofChange orderRawSpec)

/-- ITS FALSE NEIGHBOUR: 'it returns false'. Refute it at one input. -/
def orderRawWrong : ChangeSpec := { name := "orderRaw", fn := fun _ => fun
  | [d1, d2, d3, d4, d5, d6, d7] => { results := [.lit (.bool false)], args := [d1, d2, d3, d4, d5, d6, d7] }
  | _ => none }
def OrderRawWrongFalsely : Prop := orderRawRow.holds Try.pinned (OpenSpec.ofChange orderRawWrong)

/-- 'interlocklaw07.OrderThrough': WHATEVER THE INPUT: true; the input reads as it did. -/
def orderThroughSpec : ChangeSpec := { name := "orderThrough", fn := fun _ => fun
  | [d1, d2, d3, d4] => { results := [.lit (.bool true)], args := [d1, d2, d3, d4] }
  | _ => none }
def orderThroughRow : OpenClaim := { program := "ytojkeabecjlaeaa", sum := "a9a580063115046050afdb935ce428375c822a602cbac4a88557a38b41e9c7e7", func := "interlock/interlocklaw07.OrderThrough", spec := "orderThrough", unfollowed := true, recurses := true, plainKeys := false, apart := false }
def OrderThroughSaid : Prop := orderThroughRow.holds Try.pinned (OpenSpec.ofChange orderThroughSpec)

/-- ITS FALSE NEIGHBOUR: 'it returns false'. Refute it at one input. -/
def orderThroughWrong : ChangeSpec := { name := "orderThrough", fn := fun _ => fun
  | [d1, d2, d3, d4] => { results := [.lit (.bool false)], args := [d1, d2, d3, d4] }
  | _ => none }
def OrderThroughWrongFalsely : Prop := orderThroughRow.holds Try.pinned (OpenSpec.ofChange orderThroughWrong)

/-- 'interlocklaw07.OrderFronts': WHATEVER THE INPUT: true; the input reads as it did. -/
def orderFrontsSpec : ChangeSpec := { name := "orderFronts", fn := fun _ => fun
  | [d1, d2, d3] => { results := [.lit (.bool true)], args := [d1, d2, d3] }
  | _ => none }
def orderFrontsRow : OpenClaim := { program := "ytojkeabecjlaeaa", sum := "a9a580063115046050afdb935ce428375c822a602cbac4a88557a38b41e9c7e7", func := "interlock/interlocklaw07.OrderFronts", spec := "orderFronts", unfollowed := true, recurses := true, plainKeys := false, apart := false }
def OrderFrontsSaid : Prop := orderFrontsRow.holds Try.pinned (OpenSpec.ofChange orderFrontsSpec)

/-- ITS FALSE NEIGHBOUR: 'it returns false'. Refute it at one input. -/
def orderFrontsWrong : ChangeSpec := { name := "orderFronts", fn := fun _ => fun
  | [d1, d2, d3] => { results := [.lit (.bool false)], args := [d1, d2, d3] }
  | _ => none }
def OrderFrontsWrongFalsely : Prop := orderFrontsRow.holds Try.pinned (OpenSpec.ofChange orderFrontsWrong)

/-- 'interlocklaw07.OrderOwn': WHATEVER THE INPUT: true; the input reads as it did. -/
def orderOwnSpec : ChangeSpec := { name := "orderOwn", fn := fun _ => fun
  | [d1, d2, d3] => { results := [.lit (.bool true)], args := [d1, d2, d3] }
  | _ => none }
def orderOwnRow : OpenClaim := { program := "ytojkeabecjlaeaa", sum := "a9a580063115046050afdb935ce428375c822a602cbac4a88557a38b41e9c7e7", func := "interlock/interlocklaw07.OrderOwn", spec := "orderOwn", unfollowed := true, recurses := true, plainKeys := false, apart := false }
def OrderOwnSaid : Prop := orderOwnRow.holds Try.pinned (OpenSpec.ofChange orderOwnSpec)

/-- ITS FALSE NEIGHBOUR: 'it returns false'. Refute it at one input. -/
def orderOwnWrong : ChangeSpec := { name := "orderOwn", fn := fun _ => fun
  | [d1, d2, d3] => { results := [.lit (.bool false)], args := [d1, d2, d3] }
  | _ => none }
def OrderOwnWrongFalsely : Prop := orderOwnRow.holds Try.pinned (OpenSpec.ofChange orderOwnWrong)

/- THE SECOND FORM. 'bulk': how many values and letters a reading holds, each counted each time it is reached (what is shared counts as often as it is met; a slice's spare places count too). A statement '..UptoSaid' is the law's where the arguments, and the package variables that the reading takes, are together of bulk at most 1048576: NARROWER than '..Said'. Prove '..Said' where nothing that the law and all that it calls make is longer than what came in: it says more and counts as full. Else prove '..UptoSaid'. A law counts once. -/
mutual
def uptoBulk {H : Type} : DataW H → Nat
  | .lit (.string bytes) => bytes.length + 1
  | .lit _ => 1
  | .nil => 1
  | .ptr d => uptoBulk d + 1
  | .slice elems spare => uptoBulkAll elems + uptoBulkAll spare + 1
  | .agg parts => uptoBulkAll parts + 1
  | .iface _ d => uptoBulk d + 1
  | .map entries => uptoBulkEntries entries + 1
  | .held _ => 1
def uptoBulkAll {H : Type} : List (DataW H) → Nat
  | [] => 0
  | d :: r => uptoBulk d + uptoBulkAll r
def uptoBulkEntries {H : Type} : List (Lit × DataW H) → Nat
  | [] => 0
  | x :: r => uptoBulkEntry x + uptoBulkEntries r
def uptoBulkEntry {H : Type} : Lit × DataW H → Nat
  | (.string bytes, d) => bytes.length + uptoBulk d + 1
  | (_, d) => uptoBulk d + 1
 end
def uptoSmall : (H : Type) → List (DataW H) → Bool := fun _ ds => decide (uptoBulkAll ds ≤ 1048576)
def OpenSpec.upto (s : _root_.Go.ChangeSpec) : _root_.Go.OpenSpec := { _root_.Go.OpenSpec.ofChange s with cond := some uptoSmall }

/-- 'interlocklaw07.OrderGoes', WHERE WHAT IT READS IS OF BULK AT MOST 1048576: true; the input reads as it did. -/
def orderGoesUptoRow : OpenClaim := { program := "ytojkeabecjlaeaa", sum := "a9a580063115046050afdb935ce428375c822a602cbac4a88557a38b41e9c7e7", func := "interlock/interlocklaw07.OrderGoes", spec := "orderGoes", unfollowed := true, recurses := true, plainKeys := false, apart := false, narrowed := true }
def OrderGoesUptoSaid : Prop := orderGoesUptoRow.holds Try.pinned (OpenSpec.upto orderGoesSpec)

/-- 'interlocklaw07.OrderHands', WHERE WHAT IT READS IS OF BULK AT MOST 1048576: true; the input reads as it did. -/
def orderHandsUptoRow : OpenClaim := { program := "ytojkeabecjlaeaa", sum := "a9a580063115046050afdb935ce428375c822a602cbac4a88557a38b41e9c7e7", func := "interlock/interlocklaw07.OrderHands", spec := "orderHands", unfollowed := true, recurses := true, plainKeys := false, apart := false, narrowed := true }
def OrderHandsUptoSaid : Prop := orderHandsUptoRow.holds Try.pinned (OpenSpec.upto orderHandsSpec)

/-- 'interlocklaw07.OrderRuns', WHERE WHAT IT READS IS OF BULK AT MOST 1048576: true; the input reads as it did. -/
def orderRunsUptoRow : OpenClaim := { program := "ytojkeabecjlaeaa", sum := "a9a580063115046050afdb935ce428375c822a602cbac4a88557a38b41e9c7e7", func := "interlock/interlocklaw07.OrderRuns", spec := "orderRuns", unfollowed := true, recurses := true, plainKeys := false, apart := false, narrowed := true }
def OrderRunsUptoSaid : Prop := orderRunsUptoRow.holds Try.pinned (OpenSpec.upto orderRunsSpec)

/-- 'interlocklaw07.OrderRaw', WHERE WHAT IT READS IS OF BULK AT MOST 1048576: true; the input reads as it did. -/
def orderRawUptoRow : OpenClaim := { program := "ytojkeabecjlaeaa", sum := "a9a580063115046050afdb935ce428375c822a602cbac4a88557a38b41e9c7e7", func := "interlock/interlocklaw07.OrderRaw", spec := "orderRaw", unfollowed := true, recurses := true, plainKeys := false, apart := false, narrowed := true }
def OrderRawUptoSaid : Prop := orderRawUptoRow.holds Try.pinned (OpenSpec.upto orderRawSpec)

/-- 'interlocklaw07.OrderThrough', WHERE WHAT IT READS IS OF BULK AT MOST 1048576: true; the input reads as it did. -/
def orderThroughUptoRow : OpenClaim := { program := "ytojkeabecjlaeaa", sum := "a9a580063115046050afdb935ce428375c822a602cbac4a88557a38b41e9c7e7", func := "interlock/interlocklaw07.OrderThrough", spec := "orderThrough", unfollowed := true, recurses := true, plainKeys := false, apart := false, narrowed := true }
def OrderThroughUptoSaid : Prop := orderThroughUptoRow.holds Try.pinned (OpenSpec.upto orderThroughSpec)

/-- 'interlocklaw07.OrderFronts', WHERE WHAT IT READS IS OF BULK AT MOST 1048576: true; the input reads as it did. -/
def orderFrontsUptoRow : OpenClaim := { program := "ytojkeabecjlaeaa", sum := "a9a580063115046050afdb935ce428375c822a602cbac4a88557a38b41e9c7e7", func := "interlock/interlocklaw07.OrderFronts", spec := "orderFronts", unfollowed := true, recurses := true, plainKeys := false, apart := false, narrowed := true }
def OrderFrontsUptoSaid : Prop := orderFrontsUptoRow.holds Try.pinned (OpenSpec.upto orderFrontsSpec)

/-- 'interlocklaw07.OrderOwn', WHERE WHAT IT READS IS OF BULK AT MOST 1048576: true; the input reads as it did. -/
def orderOwnUptoRow : OpenClaim := { program := "ytojkeabecjlaeaa", sum := "a9a580063115046050afdb935ce428375c822a602cbac4a88557a38b41e9c7e7", func := "interlock/interlocklaw07.OrderOwn", spec := "orderOwn", unfollowed := true, recurses := true, plainKeys := false, apart := false, narrowed := true }
def OrderOwnUptoSaid : Prop := orderOwnUptoRow.holds Try.pinned (OpenSpec.upto orderOwnSpec)

end Rows
end Go.Proofs.Ytojkeabecjlaeaa
