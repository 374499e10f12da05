/-
  No cell of these rows narrows 'for every input' (looked for: loops, veiled, ifaces, maps, wideKeys, modest, calm, conditions, laid).
  DERIVED. THE GIVEN ROWS OF THIS SEAT. 8 by the template 'for every input the law returns true; each argument reads behind the call as it read before'; 0 by the template 'total and deterministic' (their statements: YtogfcpaalcebdaaTotals.lean).
  GIVEN WITH THE SEED: the statements are not yours to turn. If you find one false, say at which input.
  Laid BY PROGRAM, IN A SANDBOX (cutbox-rows.mjs): the forced cells as the released guide's own fill.sh prints them over the translation 0365be5b748d90ea… (all of the seat's roots in one cut). By AI agents, Wed Nov 11 2026. No macro, syntax, notation, axiom, sorry.
-/
import Derived.Test.YtogfcpaalcebdaaChecked
import GoSem.Claim
import GoSem.ClaimJoined
import GoSem.ClaimMapViews
import Derived.JoinedTies
import Derived.KernelRfl
namespace Go.Proofs.Ytogfcpaalcebdaa
/- THE CELL 'sum', in the pinned program and in every row, IS THE sha256 OF THE DUMP (.gsa) THAT YtogfcpaalcebdaaProg.lean LOADS. Nothing in Lean hashes anything: it is a label: what it is worth is what the hold of that sum in a sandbox is worth. -/
noncomputable def Try.pinned : Pinned := { name := "ytogfcpaalcebdaa", sum := "0365be5b748d90ea0ea32596407d469ddab7a77e87c85b09b760b958f09b57f9", checked := Try.checked }
namespace Rows
def none {H : Type} : Left H := { results := [], args := [] }

/-- 'interlocklaw05.PlayAlone': WHATEVER THE INPUT: true; the input reads as it did. -/
def playAloneSpec : ChangeSpec := { name := "playAlone", fn := fun _ => fun
  | [d1, d2] => { results := [.lit (.bool true)], args := [d1, d2] }
  | _ => none }
def playAloneRow : OpenClaim := { program := "ytogfcpaalcebdaa", sum := "0365be5b748d90ea0ea32596407d469ddab7a77e87c85b09b760b958f09b57f9", func := "interlock/interlocklaw05.PlayAlone", spec := "playAlone", unfollowed := true, recurses := true, apart := false }
def PlayAloneSaid : Prop := playAloneRow.holds Try.pinned (OpenSpec.ofChange playAloneSpec)

/-- ITS FALSE NEIGHBOUR: 'it returns false'. Refute it at one input. -/
def playAloneWrong : ChangeSpec := { name := "playAlone", fn := fun _ => fun
  | [d1, d2] => { results := [.lit (.bool false)], args := [d1, d2] }
  | _ => none }
def PlayAloneWrongFalsely : Prop := playAloneRow.holds Try.pinned (OpenSpec.ofChange playAloneWrong)

/-- 'interlocklaw05.PlayOthers': WHATEVER THE INPUT: true; the input reads as it did. -/
def playOthersSpec : ChangeSpec := { name := "playOthers", fn := fun _ => fun
  | [d1, d2, d3] => { results := [.lit (.bool true)], args := [d1, d2, d3] }
  | _ => none }
def playOthersRow : OpenClaim := { program := "ytogfcpaalcebdaa", sum := "0365be5b748d90ea0ea32596407d469ddab7a77e87c85b09b760b958f09b57f9", func := "interlock/interlocklaw05.PlayOthers", spec := "playOthers", unfollowed := true, recurses := true, apart := false }
def PlayOthersSaid : Prop := playOthersRow.holds Try.pinned (OpenSpec.ofChange playOthersSpec)

/-- ITS FALSE NEIGHBOUR: 'it returns false'. Refute it at one input. -/
def playOthersWrong : ChangeSpec := { name := "playOthers", fn := fun _ => fun
  | [d1, d2, d3] => { results := [.lit (.bool false)], args := [d1, d2, d3] }
  | _ => none }
def PlayOthersWrongFalsely : Prop := playOthersRow.holds Try.pinned (OpenSpec.ofChange playOthersWrong)

/-- 'interlocklaw05.PlayRuns': WHATEVER THE INPUT: true; the input reads as it did. -/
def playRunsSpec : ChangeSpec := { name := "playRuns", fn := fun _ => fun
  | [d1, d2, d3, d4, d5] => { results := [.lit (.bool true)], args := [d1, d2, d3, d4, d5] }
  | _ => none }
def playRunsRow : OpenClaim := { program := "ytogfcpaalcebdaa", sum := "0365be5b748d90ea0ea32596407d469ddab7a77e87c85b09b760b958f09b57f9", func := "interlock/interlocklaw05.PlayRuns", spec := "playRuns", unfollowed := true, recurses := true, apart := false }
def PlayRunsSaid : Prop := playRunsRow.holds Try.pinned (OpenSpec.ofChange playRunsSpec)

/-- ITS FALSE NEIGHBOUR: 'it returns false'. Refute it at one input. -/
def playRunsWrong : ChangeSpec := { name := "playRuns", fn := fun _ => fun
  | [d1, d2, d3, d4, d5] => { results := [.lit (.bool false)], args := [d1, d2, d3, d4, d5] }
  | _ => none }
def PlayRunsWrongFalsely : Prop := playRunsRow.holds Try.pinned (OpenSpec.ofChange playRunsWrong)

/-- 'interlocklaw05.PlayRaw': WHATEVER THE INPUT: true; the input reads as it did. -/
def playRawSpec : ChangeSpec := { name := "playRaw", fn := fun _ => fun
  | [d1, d2, d3, d4] => { results := [.lit (.bool true)], args := [d1, d2, d3, d4] }
  | _ => none }
def playRawRow : OpenClaim := { program := "ytogfcpaalcebdaa", sum := "0365be5b748d90ea0ea32596407d469ddab7a77e87c85b09b760b958f09b57f9", func := "interlock/interlocklaw05.PlayRaw", spec := "playRaw", unfollowed := true, recurses := true, apart := false }
def PlayRawSaid : Prop := playRawRow.holds Try.pinned (OpenSpec.ofChange playRawSpec)

/-- ITS FALSE NEIGHBOUR: 'it returns false'. Refute it at one input. -/
def playRawWrong : ChangeSpec := { name := "playRaw", fn := fun _ => fun
  | [d1, d2, d3, d4] => { results := [.lit (.bool false)], args := [d1, d2, d3, d4] }
  | _ => none }
def PlayRawWrongFalsely : Prop := playRawRow.holds Try.pinned (OpenSpec.ofChange playRawWrong)

/-- 'interlocklaw05.PlayPicks': WHATEVER THE INPUT: true; the input reads as it did. -/
def playPicksSpec : ChangeSpec := { name := "playPicks", fn := fun _ => fun
  | [d1, d2] => { results := [.lit (.bool true)], args := [d1, d2] }
  | _ => none }
def playPicksRow : OpenClaim := { program := "ytogfcpaalcebdaa", sum := "0365be5b748d90ea0ea32596407d469ddab7a77e87c85b09b760b958f09b57f9", func := "interlock/interlocklaw05.PlayPicks", spec := "playPicks", unfollowed := true, recurses := true, apart := false }
def PlayPicksSaid : Prop := playPicksRow.holds Try.pinned (OpenSpec.ofChange playPicksSpec)

/-- ITS FALSE NEIGHBOUR: 'it returns false'. Refute it at one input. -/
def playPicksWrong : ChangeSpec := { name := "playPicks", fn := fun _ => fun
  | [d1, d2] => { results := [.lit (.bool false)], args := [d1, d2] }
  | _ => none }
def PlayPicksWrongFalsely : Prop := playPicksRow.holds Try.pinned (OpenSpec.ofChange playPicksWrong)

/-- 'interlocklaw05.PlayFronts': WHATEVER THE INPUT: true; the input reads as it did. -/
def playFrontsSpec : ChangeSpec := { name := "playFronts", fn := fun _ => fun
  | [d1, d2, d3] => { results := [.lit (.bool true)], args := [d1, d2, d3] }
  | _ => none }
def playFrontsRow : OpenClaim := { program := "ytogfcpaalcebdaa", sum := "0365be5b748d90ea0ea32596407d469ddab7a77e87c85b09b760b958f09b57f9", func := "interlock/interlocklaw05.PlayFronts", spec := "playFronts", unfollowed := true, recurses := true, apart := false }
def PlayFrontsSaid : Prop := playFrontsRow.holds Try.pinned (OpenSpec.ofChange playFrontsSpec)

/-- ITS FALSE NEIGHBOUR: 'it returns false'. Refute it at one input. -/
def playFrontsWrong : ChangeSpec := { name := "playFronts", fn := fun _ => fun
  | [d1, d2, d3] => { results := [.lit (.bool false)], args := [d1, d2, d3] }
  | _ => none }
def PlayFrontsWrongFalsely : Prop := playFrontsRow.holds Try.pinned (OpenSpec.ofChange playFrontsWrong)

/-- 'interlocklaw05.PlayRounds': WHATEVER THE INPUT: true; the input reads as it did. -/
def playRoundsSpec : ChangeSpec := { name := "playRounds", fn := fun _ => fun
  | [d1, d2] => { results := [.lit (.bool true)], args := [d1, d2] }
  | _ => none }
def playRoundsRow : OpenClaim := { program := "ytogfcpaalcebdaa", sum := "0365be5b748d90ea0ea32596407d469ddab7a77e87c85b09b760b958f09b57f9", func := "interlock/interlocklaw05.PlayRounds", spec := "playRounds", unfollowed := true, recurses := true, apart := false }
def PlayRoundsSaid : Prop := playRoundsRow.holds Try.pinned (OpenSpec.ofChange playRoundsSpec)

/-- ITS FALSE NEIGHBOUR: 'it returns false'. Refute it at one input. -/
def playRoundsWrong : ChangeSpec := { name := "playRounds", fn := fun _ => fun
  | [d1, d2] => { results := [.lit (.bool false)], args := [d1, d2] }
  | _ => none }
def PlayRoundsWrongFalsely : Prop := playRoundsRow.holds Try.pinned (OpenSpec.ofChange playRoundsWrong)

/-- 'interlocklaw05.PlayPrints': WHATEVER THE INPUT: true; the input reads as it did. -/
def playPrintsSpec : ChangeSpec := { name := "playPrints", fn := fun _ => fun
  | [d1, d2] => { results := [.lit (.bool true)], args := [d1, d2] }
  | _ => none }
def playPrintsRow : OpenClaim := { program := "ytogfcpaalcebdaa", sum := "0365be5b748d90ea0ea32596407d469ddab7a77e87c85b09b760b958f09b57f9", func := "interlock/interlocklaw05.PlayPrints", spec := "playPrints", unfollowed := true, recurses := true, apart := false }
def PlayPrintsSaid : Prop := playPrintsRow.holds Try.pinned (OpenSpec.ofChange playPrintsSpec)

/-- ITS FALSE NEIGHBOUR: 'it returns false'. Refute it at one input. -/
def playPrintsWrong : ChangeSpec := { name := "playPrints", fn := fun _ => fun
  | [d1, d2] => { results := [.lit (.bool false)], args := [d1, d2] }
  | _ => none }
def PlayPrintsWrongFalsely : Prop := playPrintsRow.holds Try.pinned (OpenSpec.ofChange playPrintsWrong)

/- THE SECOND FORM. 'bulk': how many values and letters a reading holds, each counted each time it is reached (what is shared counts as often as it is met; a slice's spare places count too). A statement '..UptoSaid' is the law's where the arguments, and the package variables that the reading takes, are together of bulk at most 1048576: NARROWER than '..Said'. Prove '..Said' where nothing that the law and all that it calls make is longer than what came in: it says more and counts as full. Else prove '..UptoSaid'. A law counts once. -/
mutual
def uptoBulk {H : Type} : DataW H → Nat
  | .lit (.string bytes) => bytes.length + 1
  | .lit _ => 1
  | .nil => 1
  | .ptr d => uptoBulk d + 1
  | .slice elems spare => uptoBulkAll elems + uptoBulkAll spare + 1
  | .agg parts => uptoBulkAll parts + 1
  | .iface _ d => uptoBulk d + 1
  | .map entries => uptoBulkEntries entries + 1
  | .held _ => 1
def uptoBulkAll {H : Type} : List (DataW H) → Nat
  | [] => 0
  | d :: r => uptoBulk d + uptoBulkAll r
def uptoBulkEntries {H : Type} : List (Lit × DataW H) → Nat
  | [] => 0
  | x :: r => uptoBulkEntry x + uptoBulkEntries r
def uptoBulkEntry {H : Type} : Lit × DataW H → Nat
  | (.string bytes, d) => bytes.length + uptoBulk d + 1
  | (_, d) => uptoBulk d + 1
 end
def uptoSmall : (H : Type) → List (DataW H) → Bool := fun _ ds => decide (uptoBulkAll ds ≤ 1048576)
def OpenSpec.upto (s : _root_.Go.ChangeSpec) : _root_.Go.OpenSpec := { _root_.Go.OpenSpec.ofChange s with cond := some uptoSmall }

/-- 'interlocklaw05.PlayAlone', WHERE WHAT IT READS IS OF BULK AT MOST 1048576: true; the input reads as it did. -/
def playAloneUptoRow : OpenClaim := { program := "ytogfcpaalcebdaa", sum := "0365be5b748d90ea0ea32596407d469ddab7a77e87c85b09b760b958f09b57f9", func := "interlock/interlocklaw05.PlayAlone", spec := "playAlone", unfollowed := true, recurses := true, apart := false, narrowed := true }
def PlayAloneUptoSaid : Prop := playAloneUptoRow.holds Try.pinned (OpenSpec.upto playAloneSpec)

/-- 'interlocklaw05.PlayOthers', WHERE WHAT IT READS IS OF BULK AT MOST 1048576: true; the input reads as it did. -/
def playOthersUptoRow : OpenClaim := { program := "ytogfcpaalcebdaa", sum := "0365be5b748d90ea0ea32596407d469ddab7a77e87c85b09b760b958f09b57f9", func := "interlock/interlocklaw05.PlayOthers", spec := "playOthers", unfollowed := true, recurses := true, apart := false, narrowed := true }
def PlayOthersUptoSaid : Prop := playOthersUptoRow.holds Try.pinned (OpenSpec.upto playOthersSpec)

/-- 'interlocklaw05.PlayRuns', WHERE WHAT IT READS IS OF BULK AT MOST 1048576: true; the input reads as it did. -/
def playRunsUptoRow : OpenClaim := { program := "ytogfcpaalcebdaa", sum := "0365be5b748d90ea0ea32596407d469ddab7a77e87c85b09b760b958f09b57f9", func := "interlock/interlocklaw05.PlayRuns", spec := "playRuns", unfollowed := true, recurses := true, apart := false, narrowed := true }
def PlayRunsUptoSaid : Prop := playRunsUptoRow.holds Try.pinned (OpenSpec.upto playRunsSpec)

/-- 'interlocklaw05.PlayRaw', WHERE WHAT IT READS IS OF BULK AT MOST 1048576: true; the input reads as it did. -/
def playRawUptoRow : OpenClaim := { program := "ytogfcpaalcebdaa", sum := "0365be5b748d90ea0ea32596407d469ddab7a77e87c85b09b760b958f09b57f9", func := "interlock/interlocklaw05.PlayRaw", spec := "playRaw", unfollowed := true, recurses := true, apart := false, narrowed := true }
def PlayRawUptoSaid : Prop := playRawUptoRow.holds Try.pinned (OpenSpec.upto playRawSpec)

/-- 'interlocklaw05.PlayPicks', WHERE WHAT IT READS IS OF BULK AT MOST 1048576: true; the input reads as it did. -/
def playPicksUptoRow : OpenClaim := { program := "ytogfcpaalcebdaa", sum := "0365be5b748d90ea0ea32596407d469ddab7a77e87c85b09b760b958f09b57f9", func := "interlock/interlocklaw05.PlayPicks", spec := "playPicks", unfollowed := true, recurses := true, apart := false, narrowed := true }
def PlayPicksUptoSaid : Prop := playPicksUptoRow.holds Try.pinned (OpenSpec.upto playPicksSpec)

/-- 'interlocklaw05.PlayFronts', WHERE WHAT IT READS IS OF BULK AT MOST 1048576: true; the input reads as it did. -/
def playFrontsUptoRow : OpenClaim := { program := "ytogfcpaalcebdaa", sum := "0365be5b748d90ea0ea32596407d469ddab7a77e87c85b09b760b958f09b57f9", func := "interlock/interlocklaw05.PlayFronts", spec := "playFronts", unfollowed := true, recurses := true, apart := false, narrowed := true }
def PlayFrontsUptoSaid : Prop := playFrontsUptoRow.holds Try.pinned (OpenSpec.upto playFrontsSpec)

/-- 'interlocklaw05.PlayRounds', WHERE WHAT IT READS IS OF BULK AT MOST 1048576: true; the input reads as it did. -/
def playRoundsUptoRow : OpenClaim := { program := "ytogfcpaalcebdaa", sum := "0365be5b748d90ea0ea32596407d469ddab7a77e87c85b09b760b958f09b57f9", func := "interlock/interlocklaw05.PlayRounds", spec := "playRounds", unfollowed := true, recurses := true, apart := false, narrowed := true }
def PlayRoundsUptoSaid : Prop := playRoundsUptoRow.holds Try.pinned (OpenSpec.upto playRoundsSpec)

/-- 'interlocklaw05.PlayPrints', WHERE WHAT IT READS IS OF BULK AT MOST 1048576: true; the input reads as it did. -/
def playPrintsUptoRow : OpenClaim := { program := "ytogfcpaalcebdaa", sum := "0365be5b748d90ea0ea32596407d469ddab7a77e87c85b09b760b958f09b57f9", func := "interlock/interlocklaw05.PlayPrints", spec := "playPrints", unfollowed := true, recurses := true, apart := false, narrowed := true }
def PlayPrintsUptoSaid : Prop := playPrintsUptoRow.holds Try.pinned (OpenSpec.upto playPrintsSpec)

end Rows
end Go.Proofs.Ytogfcpaalcebdaa
