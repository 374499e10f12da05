/-
  No cell of these rows narrows 'for every input' (looked for: loops, veiled, ifaces, maps, wideKeys, modest, calm, conditions, laid).
  DERIVED. THE GIVEN ROWS OF THIS SEAT. 8 by the template 'for every input the law returns true; each argument reads behind the call as it read before'; 0 by the template 'total and deterministic' (their statements: YtblnimopffhocaaTotals.lean).
  GIVEN WITH THE SEED: the statements are not yours to turn. If you find one false, say at which input.
  Laid BY PROGRAM, IN A SANDBOX (cutbox-rows.mjs): the forced cells as the released guide's own fill.sh prints them over the translation 3f9f0eeb7c24c2f8… (all of the seat's roots in one cut). By AI agents, Wed Nov 11 2026. No macro, syntax, notation, axiom, sorry.
-/
import Derived.Test.YtblnimopffhocaaChecked
import GoSem.Claim
import GoSem.ClaimJoined
import GoSem.ClaimMapViews
import Derived.JoinedTies
import Derived.KernelRfl
namespace Go.Proofs.Ytblnimopffhocaa
/- THE CELL 'sum', in the pinned program and in every row, IS THE sha256 OF THE DUMP (.gsa) THAT YtblnimopffhocaaProg.lean LOADS. Nothing in Lean hashes anything: it is a label: what it is worth is what the hold of that sum in a sandbox is worth. -/
noncomputable def Try.pinned : Pinned := { name := "ytblnimopffhocaa", sum := "3f9f0eeb7c24c2f83f0c8f68b5715419d54db625883e1c60f1af6d71581e0ede", checked := Try.checked }
namespace Rows
def none {H : Type} : Left H := { results := [], args := [] }

/-- 'interlocklaw08.RaceHands': WHATEVER THE INPUT: true; the input reads as it did. -/
def raceHandsSpec : ChangeSpec := { name := "raceHands", fn := fun _ => fun
  | [d1, d2] => { results := [.lit (.bool true)], args := [d1, d2] }
  | _ => none }
def raceHandsRow : OpenClaim := { program := "ytblnimopffhocaa", sum := "3f9f0eeb7c24c2f83f0c8f68b5715419d54db625883e1c60f1af6d71581e0ede", func := "interlock/interlocklaw08.RaceHands", spec := "raceHands", unfollowed := true, recurses := true, plainKeys := false, apart := false }
def RaceHandsSaid : Prop := raceHandsRow.holds Try.pinned (OpenSpec.ofChange raceHandsSpec)

/-- ITS FALSE NEIGHBOUR: 'it returns false'. Refute it at one input. -/
def raceHandsWrong : ChangeSpec := { name := "raceHands", fn := fun _ => fun
  | [d1, d2] => { results := [.lit (.bool false)], args := [d1, d2] }
  | _ => none }
def RaceHandsWrongFalsely : Prop := raceHandsRow.holds Try.pinned (OpenSpec.ofChange raceHandsWrong)

/-- 'interlocklaw08.RaceReads': WHATEVER THE INPUT: true; the input reads as it did. -/
def raceReadsSpec : ChangeSpec := { name := "raceReads", fn := fun _ => fun
  | [d1, d2] => { results := [.lit (.bool true)], args := [d1, d2] }
  | _ => none }
def raceReadsRow : OpenClaim := { program := "ytblnimopffhocaa", sum := "3f9f0eeb7c24c2f83f0c8f68b5715419d54db625883e1c60f1af6d71581e0ede", func := "interlock/interlocklaw08.RaceReads", spec := "raceReads", unfollowed := true, recurses := true, plainKeys := false, apart := false }
def RaceReadsSaid : Prop := raceReadsRow.holds Try.pinned (OpenSpec.ofChange raceReadsSpec)

/-- ITS FALSE NEIGHBOUR: 'it returns false'. Refute it at one input. -/
def raceReadsWrong : ChangeSpec := { name := "raceReads", fn := fun _ => fun
  | [d1, d2] => { results := [.lit (.bool false)], args := [d1, d2] }
  | _ => none }
def RaceReadsWrongFalsely : Prop := raceReadsRow.holds Try.pinned (OpenSpec.ofChange raceReadsWrong)

/-- 'interlocklaw08.RaceRuns': WHATEVER THE INPUT: true; the input reads as it did. -/
def raceRunsSpec : ChangeSpec := { name := "raceRuns", fn := fun _ => fun
  | [d1, d2] => { results := [.lit (.bool true)], args := [d1, d2] }
  | _ => none }
def raceRunsRow : OpenClaim := { program := "ytblnimopffhocaa", sum := "3f9f0eeb7c24c2f83f0c8f68b5715419d54db625883e1c60f1af6d71581e0ede", func := "interlock/interlocklaw08.RaceRuns", spec := "raceRuns", unfollowed := true, recurses := true, plainKeys := false, apart := false }
def RaceRunsSaid : Prop := raceRunsRow.holds Try.pinned (OpenSpec.ofChange raceRunsSpec)

/-- ITS FALSE NEIGHBOUR: 'it returns false'. Refute it at one input. -/
def raceRunsWrong : ChangeSpec := { name := "raceRuns", fn := fun _ => fun
  | [d1, d2] => { results := [.lit (.bool false)], args := [d1, d2] }
  | _ => none }
def RaceRunsWrongFalsely : Prop := raceRunsRow.holds Try.pinned (OpenSpec.ofChange raceRunsWrong)

/-- 'interlocklaw08.RaceRaw': WHATEVER THE INPUT: true; the input reads as it did. -/
def raceRawSpec : ChangeSpec := { name := "raceRaw", fn := fun _ => fun
  | [d1, d2, d3] => { results := [.lit (.bool true)], args := [d1, d2, d3] }
  | _ => none }
def raceRawRow : OpenClaim := { program := "ytblnimopffhocaa", sum := "3f9f0eeb7c24c2f83f0c8f68b5715419d54db625883e1c60f1af6d71581e0ede", func := "interlock/interlocklaw08.RaceRaw", spec := "raceRaw", unfollowed := true, recurses := true, plainKeys := false, apart := false }
def RaceRawSaid : Prop := raceRawRow.holds Try.pinned (OpenSpec.ofChange raceRawSpec)

/-- ITS FALSE NEIGHBOUR: 'it returns false'. Refute it at one input. -/
def raceRawWrong : ChangeSpec := { name := "raceRaw", fn := fun _ => fun
  | [d1, d2, d3] => { results := [.lit (.bool false)], args := [d1, d2, d3] }
  | _ => none }
def RaceRawWrongFalsely : Prop := raceRawRow.holds Try.pinned (OpenSpec.ofChange raceRawWrong)

/-- 'interlocklaw08.RaceAny': WHATEVER THE INPUT: true; the input reads as it did. -/
def raceAnySpec : ChangeSpec := { name := "raceAny", fn := fun _ => fun
  | [d] => { results := [.lit (.bool true)], args := [d] }
  | _ => none }
def raceAnyRow : OpenClaim := { program := "ytblnimopffhocaa", sum := "3f9f0eeb7c24c2f83f0c8f68b5715419d54db625883e1c60f1af6d71581e0ede", func := "interlock/interlocklaw08.RaceAny", spec := "raceAny", unfollowed := true, recurses := true, plainKeys := false, apart := false }
def RaceAnySaid : Prop := raceAnyRow.holds Try.pinned (OpenSpec.ofChange raceAnySpec)

/-- ITS FALSE NEIGHBOUR: 'it returns false'. Refute it at one input. -/
def raceAnyWrong : ChangeSpec := { name := "raceAny", fn := fun _ => fun
  | [d] => { results := [.lit (.bool false)], args := [d] }
  | _ => none }
def RaceAnyWrongFalsely : Prop := raceAnyRow.holds Try.pinned (OpenSpec.ofChange raceAnyWrong)

/-- 'interlocklaw08.RaceFronts': WHATEVER THE INPUT: true; the input reads as it did. -/
def raceFrontsSpec : ChangeSpec := { name := "raceFronts", fn := fun _ => fun
  | [d1, d2] => { results := [.lit (.bool true)], args := [d1, d2] }
  | _ => none }
def raceFrontsRow : OpenClaim := { program := "ytblnimopffhocaa", sum := "3f9f0eeb7c24c2f83f0c8f68b5715419d54db625883e1c60f1af6d71581e0ede", func := "interlock/interlocklaw08.RaceFronts", spec := "raceFronts", unfollowed := true, recurses := true, plainKeys := false, apart := false }
def RaceFrontsSaid : Prop := raceFrontsRow.holds Try.pinned (OpenSpec.ofChange raceFrontsSpec)

/-- ITS FALSE NEIGHBOUR: 'it returns false'. Refute it at one input. -/
def raceFrontsWrong : ChangeSpec := { name := "raceFronts", fn := fun _ => fun
  | [d1, d2] => { results := [.lit (.bool false)], args := [d1, d2] }
  | _ => none }
def RaceFrontsWrongFalsely : Prop := raceFrontsRow.holds Try.pinned (OpenSpec.ofChange raceFrontsWrong)

/-- 'interlocklaw08.RaceAlone': WHATEVER THE INPUT: true; the input reads as it did. -/
def raceAloneSpec : ChangeSpec := { name := "raceAlone", fn := fun _ => fun
  | [d1, d2] => { results := [.lit (.bool true)], args := [d1, d2] }
  | _ => none }
def raceAloneRow : OpenClaim := { program := "ytblnimopffhocaa", sum := "3f9f0eeb7c24c2f83f0c8f68b5715419d54db625883e1c60f1af6d71581e0ede", func := "interlock/interlocklaw08.RaceAlone", spec := "raceAlone", unfollowed := true, recurses := true, plainKeys := false, apart := false }
def RaceAloneSaid : Prop := raceAloneRow.holds Try.pinned (OpenSpec.ofChange raceAloneSpec)

/-- ITS FALSE NEIGHBOUR: 'it returns false'. Refute it at one input. -/
def raceAloneWrong : ChangeSpec := { name := "raceAlone", fn := fun _ => fun
  | [d1, d2] => { results := [.lit (.bool false)], args := [d1, d2] }
  | _ => none }
def RaceAloneWrongFalsely : Prop := raceAloneRow.holds Try.pinned (OpenSpec.ofChange raceAloneWrong)

/-- 'interlocklaw08.RaceLocked': WHATEVER THE INPUT: true; the input reads as it did. -/
def raceLockedSpec : ChangeSpec := { name := "raceLocked", fn := fun _ => fun
  | [d] => { results := [.lit (.bool true)], args := [d] }
  | _ => none }
def raceLockedRow : OpenClaim := { program := "ytblnimopffhocaa", sum := "3f9f0eeb7c24c2f83f0c8f68b5715419d54db625883e1c60f1af6d71581e0ede", func := "interlock/interlocklaw08.RaceLocked", spec := "raceLocked", unfollowed := true, recurses := true, plainKeys := false, apart := false }
def RaceLockedSaid : Prop := raceLockedRow.holds Try.pinned (OpenSpec.ofChange raceLockedSpec)

/-- ITS FALSE NEIGHBOUR: 'it returns false'. Refute it at one input. -/
def raceLockedWrong : ChangeSpec := { name := "raceLocked", fn := fun _ => fun
  | [d] => { results := [.lit (.bool false)], args := [d] }
  | _ => none }
def RaceLockedWrongFalsely : Prop := raceLockedRow.holds Try.pinned (OpenSpec.ofChange raceLockedWrong)

/- THE SECOND FORM. 'bulk': how many values and letters a reading holds, each counted each time it is reached (what is shared counts as often as it is met; a slice's spare places count too). A statement '..UptoSaid' is the law's where the arguments, and the package variables that the reading takes, are together of bulk at most 1048576: NARROWER than '..Said'. Prove '..Said' where nothing that the law and all that it calls make is longer than what came in: it says more and counts as full. Else prove '..UptoSaid'. A law counts once. -/
mutual
def uptoBulk {H : Type} : DataW H → Nat
  | .lit (.string bytes) => bytes.length + 1
  | .lit _ => 1
  | .nil => 1
  | .ptr d => uptoBulk d + 1
  | .slice elems spare => uptoBulkAll elems + uptoBulkAll spare + 1
  | .agg parts => uptoBulkAll parts + 1
  | .iface _ d => uptoBulk d + 1
  | .map entries => uptoBulkEntries entries + 1
  | .held _ => 1
def uptoBulkAll {H : Type} : List (DataW H) → Nat
  | [] => 0
  | d :: r => uptoBulk d + uptoBulkAll r
def uptoBulkEntries {H : Type} : List (Lit × DataW H) → Nat
  | [] => 0
  | x :: r => uptoBulkEntry x + uptoBulkEntries r
def uptoBulkEntry {H : Type} : Lit × DataW H → Nat
  | (.string bytes, d) => bytes.length + uptoBulk d + 1
  | (_, d) => uptoBulk d + 1
 end
def uptoSmall : (H : Type) → List (DataW H) → Bool := fun _ ds => decide (uptoBulkAll ds ≤ 1048576)
def OpenSpec.upto (s : _root_.Go.ChangeSpec) : _root_.Go.OpenSpec := { _root_.Go.OpenSpec.ofChange s with cond := some uptoSmall }

/-- 'interlocklaw08.RaceHands', WHERE WHAT IT READS IS OF BULK AT MOST 1048576: true; the input reads as it did. -/
def raceHandsUptoRow : OpenClaim := { program := "ytblnimopffhocaa", sum := "3f9f0eeb7c24c2f83f0c8f68b5715419d54db625883e1c60f1af6d71581e0ede", func := "interlock/interlocklaw08.RaceHands", spec := "raceHands", unfollowed := true, recurses := true, plainKeys := false, apart := false, narrowed := true }
def RaceHandsUptoSaid : Prop := raceHandsUptoRow.holds Try.pinned (OpenSpec.upto raceHandsSpec)

/-- 'interlocklaw08.RaceReads', WHERE WHAT IT READS IS OF BULK AT MOST 1048576: true; the input reads as it did. -/
def raceReadsUptoRow : OpenClaim := { program := "ytblnimopffhocaa", sum := "3f9f0eeb7c24c2f83f0c8f68b5715419d54db625883e1c60f1af6d71581e0ede", func := "interlock/interlocklaw08.RaceReads", spec := "raceReads", unfollowed := true, recurses := true, plainKeys := false, apart := false, narrowed := true }
def RaceReadsUptoSaid : Prop := raceReadsUptoRow.holds Try.pinned (OpenSpec.upto raceReadsSpec)

/-- 'interlocklaw08.RaceRuns', WHERE WHAT IT READS IS OF BULK AT MOST 1048576: true; the input reads as it did. -/
def raceRunsUptoRow : OpenClaim := { program := "ytblnimopffhocaa", sum := "3f9f0eeb7c24c2f83f0c8f68b5715419d54db625883e1c60f1af6d71581e0ede", func := "interlock/interlocklaw08.RaceRuns", spec := "raceRuns", unfollowed := true, recurses := true, plainKeys := false, apart := false, narrowed := true }
def RaceRunsUptoSaid : Prop := raceRunsUptoRow.holds Try.pinned (OpenSpec.upto raceRunsSpec)

/-- 'interlocklaw08.RaceRaw', WHERE WHAT IT READS IS OF BULK AT MOST 1048576: true; the input reads as it did. -/
def raceRawUptoRow : OpenClaim := { program := "ytblnimopffhocaa", sum := "3f9f0eeb7c24c2f83f0c8f68b5715419d54db625883e1c60f1af6d71581e0ede", func := "interlock/interlocklaw08.RaceRaw", spec := "raceRaw", unfollowed := true, recurses := true, plainKeys := false, apart := false, narrowed := true }
def RaceRawUptoSaid : Prop := raceRawUptoRow.holds Try.pinned (OpenSpec.upto raceRawSpec)

/-- 'interlocklaw08.RaceAny', WHERE WHAT IT READS IS OF BULK AT MOST 1048576: true; the input reads as it did. -/
def raceAnyUptoRow : OpenClaim := { program := "ytblnimopffhocaa", sum := "3f9f0eeb7c24c2f83f0c8f68b5715419d54db625883e1c60f1af6d71581e0ede", func := "interlock/interlocklaw08.RaceAny", spec := "raceAny", unfollowed := true, recurses := true, plainKeys := false, apart := false, narrowed := true }
def RaceAnyUptoSaid : Prop := raceAnyUptoRow.holds Try.pinned (OpenSpec.upto raceAnySpec)

/-- 'interlocklaw08.RaceFronts', WHERE WHAT IT READS IS OF BULK AT MOST 1048576: true; the input reads as it did. -/
def raceFrontsUptoRow : OpenClaim := { program := "ytblnimopffhocaa", sum := "3f9f0eeb7c24c2f83f0c8f68b5715419d54db625883e1c60f1af6d71581e0ede", func := "interlock/interlocklaw08.RaceFronts", spec := "raceFronts", unfollowed := true, recurses := true, plainKeys := false, apart := false, narrowed := true }
def RaceFrontsUptoSaid : Prop := raceFrontsUptoRow.holds Try.pinned (OpenSpec.upto raceFrontsSpec)

/-- 'interlocklaw08.RaceAlone', WHERE WHAT IT READS IS OF BULK AT MOST 1048576: true; the input reads as it did. -/
def raceAloneUptoRow : OpenClaim := { program := "ytblnimopffhocaa", sum := "3f9f0eeb7c24c2f83f0c8f68b5715419d54db625883e1c60f1af6d71581e0ede", func := "interlock/interlocklaw08.RaceAlone", spec := "raceAlone", unfollowed := true, recurses := true, plainKeys := false, apart := false, narrowed := true }
def RaceAloneUptoSaid : Prop := raceAloneUptoRow.holds Try.pinned (OpenSpec.upto raceAloneSpec)

/-- 'interlocklaw08.RaceLocked', WHERE WHAT IT READS IS OF BULK AT MOST 1048576: true; the input reads as it did. -/
def raceLockedUptoRow : OpenClaim := { program := "ytblnimopffhocaa", sum := "3f9f0eeb7c24c2f83f0c8f68b5715419d54db625883e1c60f1af6d71581e0ede", func := "interlock/interlocklaw08.RaceLocked", spec := "raceLocked", unfollowed := true, recurses := true, plainKeys := false, apart := false, narrowed := true }
def RaceLockedUptoSaid : Prop := raceLockedUptoRow.holds Try.pinned (OpenSpec.upto raceLockedSpec)

end Rows
end Go.Proofs.Ytblnimopffhocaa
