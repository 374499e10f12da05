/-
  No cell of these rows narrows 'for every input' (looked for: loops, veiled, ifaces, maps, wideKeys, modest, calm, conditions, laid).
  DERIVED. THE GIVEN ROWS OF THIS SEAT. 6 by the template 'for every input the law returns true; each argument reads behind the call as it read before'; 0 by the template 'total and deterministic' (their statements: YtjfgnpnlabklpaaTotals.lean).
  GIVEN WITH THE SEED: the statements are not yours to turn. If you find one false, say at which input.
  Laid BY PROGRAM, IN A SANDBOX (cutbox-rows.mjs): the forced cells as the released guide's own fill.sh prints them over the translation 7d803621c0880388… (all of the seat's roots in one cut). By AI agents, Wed Nov 11 2026. No macro, syntax, notation, axiom, sorry.
-/
import Derived.Test.YtjfgnpnlabklpaaChecked
import GoSem.Claim
import GoSem.ClaimJoined
import GoSem.ClaimMapViews
import Derived.JoinedTies
import Derived.KernelRfl
namespace Go.Proofs.Ytjfgnpnlabklpaa
/- THE CELL 'sum', in the pinned program and in every row, IS THE sha256 OF THE DUMP (.gsa) THAT YtjfgnpnlabklpaaProg.lean LOADS. Nothing in Lean hashes anything: it is a label: what it is worth is what the hold of that sum in a sandbox is worth. -/
noncomputable def Try.pinned : Pinned := { name := "ytjfgnpnlabklpaa", sum := "7d803621c0880388881d72ecff362bc3836e76c71f2bd6e3418cbeefef4c945f", checked := Try.checked }
namespace Rows
def none {H : Type} : Left H := { results := [], args := [] }

/-- 'interlocklaw04.StateLocks': WHATEVER THE INPUT: true; the input reads as it did. -/
def stateLocksSpec : ChangeSpec := { name := "stateLocks", fn := fun _ => fun
  | [d] => { results := [.lit (.bool true)], args := [d] }
  | _ => none }
def stateLocksRow : OpenClaim := { program := "ytjfgnpnlabklpaa", sum := "7d803621c0880388881d72ecff362bc3836e76c71f2bd6e3418cbeefef4c945f", func := "interlock/interlocklaw04.StateLocks", spec := "stateLocks", unfollowed := true, recurses := true, apart := false }
def StateLocksSaid : Prop := stateLocksRow.holds Try.pinned (OpenSpec.ofChange stateLocksSpec)

/-- ITS FALSE NEIGHBOUR: 'it returns false'. Refute it at one input. -/
def stateLocksWrong : ChangeSpec := { name := "stateLocks", fn := fun _ => fun
  | [d] => { results := [.lit (.bool false)], args := [d] }
  | _ => none }
def StateLocksWrongFalsely : Prop := stateLocksRow.holds Try.pinned (OpenSpec.ofChange stateLocksWrong)

/-- 'interlocklaw04.StateOnce': WHATEVER THE INPUT: true; the input reads as it did. -/
def stateOnceSpec : ChangeSpec := { name := "stateOnce", fn := fun _ => fun
  | [d] => { results := [.lit (.bool true)], args := [d] }
  | _ => none }
def stateOnceRow : OpenClaim := { program := "ytjfgnpnlabklpaa", sum := "7d803621c0880388881d72ecff362bc3836e76c71f2bd6e3418cbeefef4c945f", func := "interlock/interlocklaw04.StateOnce", spec := "stateOnce", unfollowed := true, recurses := true, apart := false }
def StateOnceSaid : Prop := stateOnceRow.holds Try.pinned (OpenSpec.ofChange stateOnceSpec)

/-- ITS FALSE NEIGHBOUR: 'it returns false'. Refute it at one input. -/
def stateOnceWrong : ChangeSpec := { name := "stateOnce", fn := fun _ => fun
  | [d] => { results := [.lit (.bool false)], args := [d] }
  | _ => none }
def StateOnceWrongFalsely : Prop := stateOnceRow.holds Try.pinned (OpenSpec.ofChange stateOnceWrong)

/-- 'interlocklaw04.StateChans': WHATEVER THE INPUT: true; the input reads as it did. -/
def stateChansSpec : ChangeSpec := { name := "stateChans", fn := fun _ => fun
  | [d1, d2, d3] => { results := [.lit (.bool true)], args := [d1, d2, d3] }
  | _ => none }
def stateChansRow : OpenClaim := { program := "ytjfgnpnlabklpaa", sum := "7d803621c0880388881d72ecff362bc3836e76c71f2bd6e3418cbeefef4c945f", func := "interlock/interlocklaw04.StateChans", spec := "stateChans", unfollowed := true, recurses := true, apart := false }
def StateChansSaid : Prop := stateChansRow.holds Try.pinned (OpenSpec.ofChange stateChansSpec)

/-- ITS FALSE NEIGHBOUR: 'it returns false'. Refute it at one input. -/
def stateChansWrong : ChangeSpec := { name := "stateChans", fn := fun _ => fun
  | [d1, d2, d3] => { results := [.lit (.bool false)], args := [d1, d2, d3] }
  | _ => none }
def StateChansWrongFalsely : Prop := stateChansRow.holds Try.pinned (OpenSpec.ofChange stateChansWrong)

/-- 'interlocklaw04.StateNone': WHATEVER THE INPUT: true; the input reads as it did. -/
def stateNoneSpec : ChangeSpec := { name := "stateNone", fn := fun _ => fun
  | [d1, d2, d3] => { results := [.lit (.bool true)], args := [d1, d2, d3] }
  | _ => none }
def stateNoneRow : OpenClaim := { program := "ytjfgnpnlabklpaa", sum := "7d803621c0880388881d72ecff362bc3836e76c71f2bd6e3418cbeefef4c945f", func := "interlock/interlocklaw04.StateNone", spec := "stateNone", unfollowed := true, recurses := true, apart := false }
def StateNoneSaid : Prop := stateNoneRow.holds Try.pinned (OpenSpec.ofChange stateNoneSpec)

/-- ITS FALSE NEIGHBOUR: 'it returns false'. Refute it at one input. -/
def stateNoneWrong : ChangeSpec := { name := "stateNone", fn := fun _ => fun
  | [d1, d2, d3] => { results := [.lit (.bool false)], args := [d1, d2, d3] }
  | _ => none }
def StateNoneWrongFalsely : Prop := stateNoneRow.holds Try.pinned (OpenSpec.ofChange stateNoneWrong)

/-- 'interlocklaw04.StateTraps': WHATEVER THE INPUT: true; the input reads as it did. -/
def stateTrapsSpec : ChangeSpec := { name := "stateTraps", fn := fun _ => fun
  | [d1, d2, d3] => { results := [.lit (.bool true)], args := [d1, d2, d3] }
  | _ => none }
def stateTrapsRow : OpenClaim := { program := "ytjfgnpnlabklpaa", sum := "7d803621c0880388881d72ecff362bc3836e76c71f2bd6e3418cbeefef4c945f", func := "interlock/interlocklaw04.StateTraps", spec := "stateTraps", unfollowed := true, recurses := true, apart := false }
def StateTrapsSaid : Prop := stateTrapsRow.holds Try.pinned (OpenSpec.ofChange stateTrapsSpec)

/-- ITS FALSE NEIGHBOUR: 'it returns false'. Refute it at one input. -/
def stateTrapsWrong : ChangeSpec := { name := "stateTraps", fn := fun _ => fun
  | [d1, d2, d3] => { results := [.lit (.bool false)], args := [d1, d2, d3] }
  | _ => none }
def StateTrapsWrongFalsely : Prop := stateTrapsRow.holds Try.pinned (OpenSpec.ofChange stateTrapsWrong)

/-- 'interlocklaw04.StateOwn': WHATEVER THE INPUT: true; the input reads as it did. -/
def stateOwnSpec : ChangeSpec := { name := "stateOwn", fn := fun _ => fun
  | [d1, d2, d3, d4] => { results := [.lit (.bool true)], args := [d1, d2, d3, d4] }
  | _ => none }
def stateOwnRow : OpenClaim := { program := "ytjfgnpnlabklpaa", sum := "7d803621c0880388881d72ecff362bc3836e76c71f2bd6e3418cbeefef4c945f", func := "interlock/interlocklaw04.StateOwn", spec := "stateOwn", unfollowed := true, recurses := true, apart := false }
def StateOwnSaid : Prop := stateOwnRow.holds Try.pinned (OpenSpec.ofChange stateOwnSpec)

/-- ITS FALSE NEIGHBOUR: 'it returns false'. Refute it at one input. -/
def stateOwnWrong : ChangeSpec := { name := "stateOwn", fn := fun _ => fun
  | [d1, d2, d3, d4] => { results := [.lit (.bool false)], args := [d1, d2, d3, d4] }
  | _ => none }
def StateOwnWrongFalsely : Prop := stateOwnRow.holds Try.pinned (OpenSpec.ofChange stateOwnWrong)

/- THE SECOND FORM. 'bulk': how many values and letters a reading holds, each counted each time it is reached (what is shared counts as often as it is met; a slice's spare places count too). A statement '..UptoSaid' is the law's where the arguments, and the package variables that the reading takes, are together of bulk at most 1048576: NARROWER than '..Said'. Prove '..Said' where nothing that the law and all that it calls make is longer than what came in: it says more and counts as full. Else prove '..UptoSaid'. A law counts once. -/
mutual
def uptoBulk {H : Type} : DataW H → Nat
  | .lit (.string bytes) => bytes.length + 1
  | .lit _ => 1
  | .nil => 1
  | .ptr d => uptoBulk d + 1
  | .slice elems spare => uptoBulkAll elems + uptoBulkAll spare + 1
  | .agg parts => uptoBulkAll parts + 1
  | .iface _ d => uptoBulk d + 1
  | .map entries => uptoBulkEntries entries + 1
  | .held _ => 1
def uptoBulkAll {H : Type} : List (DataW H) → Nat
  | [] => 0
  | d :: r => uptoBulk d + uptoBulkAll r
def uptoBulkEntries {H : Type} : List (Lit × DataW H) → Nat
  | [] => 0
  | x :: r => uptoBulkEntry x + uptoBulkEntries r
def uptoBulkEntry {H : Type} : Lit × DataW H → Nat
  | (.string bytes, d) => bytes.length + uptoBulk d + 1
  | (_, d) => uptoBulk d + 1
 end
def uptoSmall : (H : Type) → List (DataW H) → Bool := fun _ ds => decide (uptoBulkAll ds ≤ 1048576)
def OpenSpec.upto (s : _root_.Go.ChangeSpec) : _root_.Go.OpenSpec := { _root_.Go.OpenSpec.ofChange s with cond := some uptoSmall }

/-- 'interlocklaw04.StateLocks', WHERE WHAT IT READS IS OF BULK AT MOST 1048576: true; the input reads as it did. -/
def stateLocksUptoRow : OpenClaim := { program := "ytjfgnpnlabklpaa", sum := "7d803621c0880388881d72ecff362bc3836e76c71f2bd6e3418cbeefef4c945f", func := "interlock/interlocklaw04.StateLocks", spec := "stateLocks", unfollowed := true, recurses := true, apart := false, narrowed := true }
def StateLocksUptoSaid : Prop := stateLocksUptoRow.holds Try.pinned (OpenSpec.upto stateLocksSpec)

/-- 'interlocklaw04.StateOnce', WHERE WHAT IT READS IS OF BULK AT MOST 1048576: true; the input reads as it did. -/
def stateOnceUptoRow : OpenClaim := { program := "ytjfgnpnlabklpaa", sum := "7d803621c0880388881d72ecff362bc3836e76c71f2bd6e3418cbeefef4c945f", func := "interlock/interlocklaw04.StateOnce", spec := "stateOnce", unfollowed := true, recurses := true, apart := false, narrowed := true }
def StateOnceUptoSaid : Prop := stateOnceUptoRow.holds Try.pinned (OpenSpec.upto stateOnceSpec)

/-- 'interlocklaw04.StateChans', WHERE WHAT IT READS IS OF BULK AT MOST 1048576: true; the input reads as it did. -/
def stateChansUptoRow : OpenClaim := { program := "ytjfgnpnlabklpaa", sum := "7d803621c0880388881d72ecff362bc3836e76c71f2bd6e3418cbeefef4c945f", func := "interlock/interlocklaw04.StateChans", spec := "stateChans", unfollowed := true, recurses := true, apart := false, narrowed := true }
def StateChansUptoSaid : Prop := stateChansUptoRow.holds Try.pinned (OpenSpec.upto stateChansSpec)

/-- 'interlocklaw04.StateNone', WHERE WHAT IT READS IS OF BULK AT MOST 1048576: true; the input reads as it did. -/
def stateNoneUptoRow : OpenClaim := { program := "ytjfgnpnlabklpaa", sum := "7d803621c0880388881d72ecff362bc3836e76c71f2bd6e3418cbeefef4c945f", func := "interlock/interlocklaw04.StateNone", spec := "stateNone", unfollowed := true, recurses := true, apart := false, narrowed := true }
def StateNoneUptoSaid : Prop := stateNoneUptoRow.holds Try.pinned (OpenSpec.upto stateNoneSpec)

/-- 'interlocklaw04.StateTraps', WHERE WHAT IT READS IS OF BULK AT MOST 1048576: true; the input reads as it did. -/
def stateTrapsUptoRow : OpenClaim := { program := "ytjfgnpnlabklpaa", sum := "7d803621c0880388881d72ecff362bc3836e76c71f2bd6e3418cbeefef4c945f", func := "interlock/interlocklaw04.StateTraps", spec := "stateTraps", unfollowed := true, recurses := true, apart := false, narrowed := true }
def StateTrapsUptoSaid : Prop := stateTrapsUptoRow.holds Try.pinned (OpenSpec.upto stateTrapsSpec)

/-- 'interlocklaw04.StateOwn', WHERE WHAT IT READS IS OF BULK AT MOST 1048576: true; the input reads as it did. -/
def stateOwnUptoRow : OpenClaim := { program := "ytjfgnpnlabklpaa", sum := "7d803621c0880388881d72ecff362bc3836e76c71f2bd6e3418cbeefef4c945f", func := "interlock/interlocklaw04.StateOwn", spec := "stateOwn", unfollowed := true, recurses := true, apart := false, narrowed := true }
def StateOwnUptoSaid : Prop := stateOwnUptoRow.holds Try.pinned (OpenSpec.upto stateOwnSpec)

end Rows
end Go.Proofs.Ytjfgnpnlabklpaa
