/-
  No cell of these rows narrows 'for every input' (looked for: loops, veiled, ifaces, maps, wideKeys, modest, calm, conditions, laid).
  DERIVED. THE GIVEN ROWS OF THIS SEAT. 9 by the template 'for every input the law returns true; each argument reads behind the call as it read before'; 0 by the template 'total and deterministic' (their statements: YtofegigbhohebaaTotals.lean).
  GIVEN WITH THE SEED: the statements are not yours to turn. If you find one false, say at which input.
  Laid BY PROGRAM, IN A SANDBOX (cutbox-rows.mjs): the forced cells as the released guide's own fill.sh prints them over the translation 1e1b0791eae9ac11… (all of the seat's roots in one cut). By AI agents, Wed Nov 11 2026. No macro, syntax, notation, axiom, sorry.
-/
import Derived.Test.YtofegigbhohebaaChecked
import GoSem.Claim
import GoSem.ClaimJoined
import GoSem.ClaimMapViews
import Derived.JoinedTies
import Derived.KernelRfl
namespace Go.Proofs.Ytofegigbhohebaa
/- THE CELL 'sum', in the pinned program and in every row, IS THE sha256 OF THE DUMP (.gsa) THAT YtofegigbhohebaaProg.lean LOADS. Nothing in Lean hashes anything: it is a label: what it is worth is what the hold of that sum in a sandbox is worth. -/
noncomputable def Try.pinned : Pinned := { name := "ytofegigbhohebaa", sum := "1e1b0791eae9ac1192890ead7eb131088f8a4b770c47e0f576063182e7c8716a", checked := Try.checked }
namespace Rows
def none {H : Type} : Left H := { results := [], args := [] }

/-- 'gazettelaw16.TxnOnce': WHATEVER THE INPUT: true; the input reads as it did. -/
def txnOnceSpec : ChangeSpec := { name := "txnOnce", fn := fun _ => fun
  | [d] => { results := [.lit (.bool true)], args := [d] }
  | _ => none }
def txnOnceRow : OpenClaim := { program := "ytofegigbhohebaa", sum := "1e1b0791eae9ac1192890ead7eb131088f8a4b770c47e0f576063182e7c8716a", func := "gazette/gazettelaw16.TxnOnce", spec := "txnOnce", inPlace := ["slices.overlaps[int]"], unfollowed := true, recurses := true, apart := false }
def TxnOnceSaid : Prop := txnOnceRow.holds Try.pinned (OpenSpec.ofChange txnOnceSpec)

/-- ITS FALSE NEIGHBOUR: 'it returns false'. Refute it at one input. -/
def txnOnceWrong : ChangeSpec := { name := "txnOnce", fn := fun _ => fun
  | [d] => { results := [.lit (.bool false)], args := [d] }
  | _ => none }
def TxnOnceWrongFalsely : Prop := txnOnceRow.holds Try.pinned (OpenSpec.ofChange txnOnceWrong)

/-- 'gazettelaw16.TxnFences': WHATEVER THE INPUT: true; the input reads as it did. -/
def txnFencesSpec : ChangeSpec := { name := "txnFences", fn := fun _ => fun
  | [d1, d2] => { results := [.lit (.bool true)], args := [d1, d2] }
  | _ => none }
def txnFencesRow : OpenClaim := { program := "ytofegigbhohebaa", sum := "1e1b0791eae9ac1192890ead7eb131088f8a4b770c47e0f576063182e7c8716a", func := "gazette/gazettelaw16.TxnFences", spec := "txnFences", inPlace := ["slices.overlaps[int]"], unfollowed := true, recurses := true, apart := false }
def TxnFencesSaid : Prop := txnFencesRow.holds Try.pinned (OpenSpec.ofChange txnFencesSpec)

/-- ITS FALSE NEIGHBOUR: 'it returns false'. Refute it at one input. -/
def txnFencesWrong : ChangeSpec := { name := "txnFences", fn := fun _ => fun
  | [d1, d2] => { results := [.lit (.bool false)], args := [d1, d2] }
  | _ => none }
def TxnFencesWrongFalsely : Prop := txnFencesRow.holds Try.pinned (OpenSpec.ofChange txnFencesWrong)

/-- 'gazettelaw16.TxnTimes': WHATEVER THE INPUT: true; the input reads as it did. -/
def txnTimesSpec : ChangeSpec := { name := "txnTimes", fn := fun _ => fun
  | [d1, d2, d3, d4] => { results := [.lit (.bool true)], args := [d1, d2, d3, d4] }
  | _ => none }
def txnTimesRow : OpenClaim := { program := "ytofegigbhohebaa", sum := "1e1b0791eae9ac1192890ead7eb131088f8a4b770c47e0f576063182e7c8716a", func := "gazette/gazettelaw16.TxnTimes", spec := "txnTimes", inPlace := ["slices.overlaps[int]"], unfollowed := true, recurses := true, apart := false }
def TxnTimesSaid : Prop := txnTimesRow.holds Try.pinned (OpenSpec.ofChange txnTimesSpec)

/-- ITS FALSE NEIGHBOUR: 'it returns false'. Refute it at one input. -/
def txnTimesWrong : ChangeSpec := { name := "txnTimes", fn := fun _ => fun
  | [d1, d2, d3, d4] => { results := [.lit (.bool false)], args := [d1, d2, d3, d4] }
  | _ => none }
def TxnTimesWrongFalsely : Prop := txnTimesRow.holds Try.pinned (OpenSpec.ofChange txnTimesWrong)

/-- 'gazettelaw16.TxnMarks': WHATEVER THE INPUT: true; the input reads as it did. -/
def txnMarksSpec : ChangeSpec := { name := "txnMarks", fn := fun _ => fun
  | [d1, d2, d3] => { results := [.lit (.bool true)], args := [d1, d2, d3] }
  | _ => none }
def txnMarksRow : OpenClaim := { program := "ytofegigbhohebaa", sum := "1e1b0791eae9ac1192890ead7eb131088f8a4b770c47e0f576063182e7c8716a", func := "gazette/gazettelaw16.TxnMarks", spec := "txnMarks", inPlace := ["slices.overlaps[int]"], unfollowed := true, recurses := true, apart := false }
def TxnMarksSaid : Prop := txnMarksRow.holds Try.pinned (OpenSpec.ofChange txnMarksSpec)

/-- ITS FALSE NEIGHBOUR: 'it returns false'. Refute it at one input. -/
def txnMarksWrong : ChangeSpec := { name := "txnMarks", fn := fun _ => fun
  | [d1, d2, d3] => { results := [.lit (.bool false)], args := [d1, d2, d3] }
  | _ => none }
def TxnMarksWrongFalsely : Prop := txnMarksRow.holds Try.pinned (OpenSpec.ofChange txnMarksWrong)

/-- 'gazettelaw16.TxnPlays': WHATEVER THE INPUT: true; the input reads as it did. -/
def txnPlaysSpec : ChangeSpec := { name := "txnPlays", fn := fun _ => fun
  | [d1, d2] => { results := [.lit (.bool true)], args := [d1, d2] }
  | _ => none }
def txnPlaysRow : OpenClaim := { program := "ytofegigbhohebaa", sum := "1e1b0791eae9ac1192890ead7eb131088f8a4b770c47e0f576063182e7c8716a", func := "gazette/gazettelaw16.TxnPlays", spec := "txnPlays", inPlace := ["slices.overlaps[int]"], unfollowed := true, recurses := true, apart := false }
def TxnPlaysSaid : Prop := txnPlaysRow.holds Try.pinned (OpenSpec.ofChange txnPlaysSpec)

/-- ITS FALSE NEIGHBOUR: 'it returns false'. Refute it at one input. -/
def txnPlaysWrong : ChangeSpec := { name := "txnPlays", fn := fun _ => fun
  | [d1, d2] => { results := [.lit (.bool false)], args := [d1, d2] }
  | _ => none }
def TxnPlaysWrongFalsely : Prop := txnPlaysRow.holds Try.pinned (OpenSpec.ofChange txnPlaysWrong)

/-- 'gazettelaw16.TxnNil': WHATEVER THE INPUT: true; the input reads as it did. -/
def txnNilSpec : ChangeSpec := { name := "txnNil", fn := fun _ => fun
  | [d1, d2] => { results := [.lit (.bool true)], args := [d1, d2] }
  | _ => none }
def txnNilRow : OpenClaim := { program := "ytofegigbhohebaa", sum := "1e1b0791eae9ac1192890ead7eb131088f8a4b770c47e0f576063182e7c8716a", func := "gazette/gazettelaw16.TxnNil", spec := "txnNil", inPlace := ["slices.overlaps[int]"], unfollowed := true, recurses := true, apart := false }
def TxnNilSaid : Prop := txnNilRow.holds Try.pinned (OpenSpec.ofChange txnNilSpec)

/-- ITS FALSE NEIGHBOUR: 'it returns false'. Refute it at one input. -/
def txnNilWrong : ChangeSpec := { name := "txnNil", fn := fun _ => fun
  | [d1, d2] => { results := [.lit (.bool false)], args := [d1, d2] }
  | _ => none }
def TxnNilWrongFalsely : Prop := txnNilRow.holds Try.pinned (OpenSpec.ofChange txnNilWrong)

/-- 'gazettelaw16.TxnBytes': WHATEVER THE INPUT: true; the input reads as it did. -/
def txnBytesSpec : ChangeSpec := { name := "txnBytes", fn := fun _ => fun
  | [d1, d2] => { results := [.lit (.bool true)], args := [d1, d2] }
  | _ => none }
def txnBytesRow : OpenClaim := { program := "ytofegigbhohebaa", sum := "1e1b0791eae9ac1192890ead7eb131088f8a4b770c47e0f576063182e7c8716a", func := "gazette/gazettelaw16.TxnBytes", spec := "txnBytes", inPlace := ["slices.overlaps[int]"], unfollowed := true, recurses := true, apart := false }
def TxnBytesSaid : Prop := txnBytesRow.holds Try.pinned (OpenSpec.ofChange txnBytesSpec)

/-- ITS FALSE NEIGHBOUR: 'it returns false'. Refute it at one input. -/
def txnBytesWrong : ChangeSpec := { name := "txnBytes", fn := fun _ => fun
  | [d1, d2] => { results := [.lit (.bool false)], args := [d1, d2] }
  | _ => none }
def TxnBytesWrongFalsely : Prop := txnBytesRow.holds Try.pinned (OpenSpec.ofChange txnBytesWrong)

/-- 'gazettelaw16.TxnReplayed': WHATEVER THE INPUT: true; the input reads as it did. -/
def txnReplayedSpec : ChangeSpec := { name := "txnReplayed", fn := fun _ => fun
  | [d] => { results := [.lit (.bool true)], args := [d] }
  | _ => none }
def txnReplayedRow : OpenClaim := { program := "ytofegigbhohebaa", sum := "1e1b0791eae9ac1192890ead7eb131088f8a4b770c47e0f576063182e7c8716a", func := "gazette/gazettelaw16.TxnReplayed", spec := "txnReplayed", inPlace := ["slices.overlaps[int]"], unfollowed := true, recurses := true, apart := false }
def TxnReplayedSaid : Prop := txnReplayedRow.holds Try.pinned (OpenSpec.ofChange txnReplayedSpec)

/-- ITS FALSE NEIGHBOUR: 'it returns false'. Refute it at one input. -/
def txnReplayedWrong : ChangeSpec := { name := "txnReplayed", fn := fun _ => fun
  | [d] => { results := [.lit (.bool false)], args := [d] }
  | _ => none }
def TxnReplayedWrongFalsely : Prop := txnReplayedRow.holds Try.pinned (OpenSpec.ofChange txnReplayedWrong)

/-- 'gazettelaw16.TxnReads': WHATEVER THE INPUT: true; the input reads as it did. -/
def txnReadsSpec : ChangeSpec := { name := "txnReads", fn := fun _ => fun
  | [d] => { results := [.lit (.bool true)], args := [d] }
  | _ => none }
def txnReadsRow : OpenClaim := { program := "ytofegigbhohebaa", sum := "1e1b0791eae9ac1192890ead7eb131088f8a4b770c47e0f576063182e7c8716a", func := "gazette/gazettelaw16.TxnReads", spec := "txnReads", inPlace := ["slices.overlaps[int]"], unfollowed := true, recurses := true, apart := false }
def TxnReadsSaid : Prop := txnReadsRow.holds Try.pinned (OpenSpec.ofChange txnReadsSpec)

/-- ITS FALSE NEIGHBOUR: 'it returns false'. Refute it at one input. -/
def txnReadsWrong : ChangeSpec := { name := "txnReads", fn := fun _ => fun
  | [d] => { results := [.lit (.bool false)], args := [d] }
  | _ => none }
def TxnReadsWrongFalsely : Prop := txnReadsRow.holds Try.pinned (OpenSpec.ofChange txnReadsWrong)

/- THE SECOND FORM. 'bulk': how many values and letters a reading holds, each counted each time it is reached (what is shared counts as often as it is met; a slice's spare places count too). A statement '..UptoSaid' is the law's where the arguments, and the package variables that the reading takes, are together of bulk at most 1048576: NARROWER than '..Said'. Prove '..Said' where nothing that the law and all that it calls make is longer than what came in: it says more and counts as full. Else prove '..UptoSaid'. A law counts once. -/
mutual
def uptoBulk {H : Type} : DataW H → Nat
  | .lit (.string bytes) => bytes.length + 1
  | .lit _ => 1
  | .nil => 1
  | .ptr d => uptoBulk d + 1
  | .slice elems spare => uptoBulkAll elems + uptoBulkAll spare + 1
  | .agg parts => uptoBulkAll parts + 1
  | .iface _ d => uptoBulk d + 1
  | .map entries => uptoBulkEntries entries + 1
  | .held _ => 1
def uptoBulkAll {H : Type} : List (DataW H) → Nat
  | [] => 0
  | d :: r => uptoBulk d + uptoBulkAll r
def uptoBulkEntries {H : Type} : List (Lit × DataW H) → Nat
  | [] => 0
  | x :: r => uptoBulkEntry x + uptoBulkEntries r
def uptoBulkEntry {H : Type} : Lit × DataW H → Nat
  | (.string bytes, d) => bytes.length + uptoBulk d + 1
  | (_, d) => uptoBulk d + 1
 end
def uptoSmall : (H : Type) → List (DataW H) → Bool := fun _ ds => decide (uptoBulkAll ds ≤ 1048576)
def OpenSpec.upto (s : _root_.Go.ChangeSpec) : _root_.Go.OpenSpec := { _root_.Go.OpenSpec.ofChange s with cond := some uptoSmall }

/-- 'gazettelaw16.TxnOnce', WHERE WHAT IT READS IS OF BULK AT MOST 1048576: true; the input reads as it did. -/
def txnOnceUptoRow : OpenClaim := { program := "ytofegigbhohebaa", sum := "1e1b0791eae9ac1192890ead7eb131088f8a4b770c47e0f576063182e7c8716a", func := "gazette/gazettelaw16.TxnOnce", spec := "txnOnce", inPlace := ["slices.overlaps[int]"], unfollowed := true, recurses := true, apart := false, narrowed := true }
def TxnOnceUptoSaid : Prop := txnOnceUptoRow.holds Try.pinned (OpenSpec.upto txnOnceSpec)

/-- 'gazettelaw16.TxnFences', WHERE WHAT IT READS IS OF BULK AT MOST 1048576: true; the input reads as it did. -/
def txnFencesUptoRow : OpenClaim := { program := "ytofegigbhohebaa", sum := "1e1b0791eae9ac1192890ead7eb131088f8a4b770c47e0f576063182e7c8716a", func := "gazette/gazettelaw16.TxnFences", spec := "txnFences", inPlace := ["slices.overlaps[int]"], unfollowed := true, recurses := true, apart := false, narrowed := true }
def TxnFencesUptoSaid : Prop := txnFencesUptoRow.holds Try.pinned (OpenSpec.upto txnFencesSpec)

/-- 'gazettelaw16.TxnTimes', WHERE WHAT IT READS IS OF BULK AT MOST 1048576: true; the input reads as it did. -/
def txnTimesUptoRow : OpenClaim := { program := "ytofegigbhohebaa", sum := "1e1b0791eae9ac1192890ead7eb131088f8a4b770c47e0f576063182e7c8716a", func := "gazette/gazettelaw16.TxnTimes", spec := "txnTimes", inPlace := ["slices.overlaps[int]"], unfollowed := true, recurses := true, apart := false, narrowed := true }
def TxnTimesUptoSaid : Prop := txnTimesUptoRow.holds Try.pinned (OpenSpec.upto txnTimesSpec)

/-- 'gazettelaw16.TxnMarks', WHERE WHAT IT READS IS OF BULK AT MOST 1048576: true; the input reads as it did. -/
def txnMarksUptoRow : OpenClaim := { program := "ytofegigbhohebaa", sum := "1e1b0791eae9ac1192890ead7eb131088f8a4b770c47e0f576063182e7c8716a", func := "gazette/gazettelaw16.TxnMarks", spec := "txnMarks", inPlace := ["slices.overlaps[int]"], unfollowed := true, recurses := true, apart := false, narrowed := true }
def TxnMarksUptoSaid : Prop := txnMarksUptoRow.holds Try.pinned (OpenSpec.upto txnMarksSpec)

/-- 'gazettelaw16.TxnPlays', WHERE WHAT IT READS IS OF BULK AT MOST 1048576: true; the input reads as it did. -/
def txnPlaysUptoRow : OpenClaim := { program := "ytofegigbhohebaa", sum := "1e1b0791eae9ac1192890ead7eb131088f8a4b770c47e0f576063182e7c8716a", func := "gazette/gazettelaw16.TxnPlays", spec := "txnPlays", inPlace := ["slices.overlaps[int]"], unfollowed := true, recurses := true, apart := false, narrowed := true }
def TxnPlaysUptoSaid : Prop := txnPlaysUptoRow.holds Try.pinned (OpenSpec.upto txnPlaysSpec)

/-- 'gazettelaw16.TxnNil', WHERE WHAT IT READS IS OF BULK AT MOST 1048576: true; the input reads as it did. -/
def txnNilUptoRow : OpenClaim := { program := "ytofegigbhohebaa", sum := "1e1b0791eae9ac1192890ead7eb131088f8a4b770c47e0f576063182e7c8716a", func := "gazette/gazettelaw16.TxnNil", spec := "txnNil", inPlace := ["slices.overlaps[int]"], unfollowed := true, recurses := true, apart := false, narrowed := true }
def TxnNilUptoSaid : Prop := txnNilUptoRow.holds Try.pinned (OpenSpec.upto txnNilSpec)

/-- 'gazettelaw16.TxnBytes', WHERE WHAT IT READS IS OF BULK AT MOST 1048576: true; the input reads as it did. -/
def txnBytesUptoRow : OpenClaim := { program := "ytofegigbhohebaa", sum := "1e1b0791eae9ac1192890ead7eb131088f8a4b770c47e0f576063182e7c8716a", func := "gazette/gazettelaw16.TxnBytes", spec := "txnBytes", inPlace := ["slices.overlaps[int]"], unfollowed := true, recurses := true, apart := false, narrowed := true }
def TxnBytesUptoSaid : Prop := txnBytesUptoRow.holds Try.pinned (OpenSpec.upto txnBytesSpec)

/-- 'gazettelaw16.TxnReplayed', WHERE WHAT IT READS IS OF BULK AT MOST 1048576: true; the input reads as it did. -/
def txnReplayedUptoRow : OpenClaim := { program := "ytofegigbhohebaa", sum := "1e1b0791eae9ac1192890ead7eb131088f8a4b770c47e0f576063182e7c8716a", func := "gazette/gazettelaw16.TxnReplayed", spec := "txnReplayed", inPlace := ["slices.overlaps[int]"], unfollowed := true, recurses := true, apart := false, narrowed := true }
def TxnReplayedUptoSaid : Prop := txnReplayedUptoRow.holds Try.pinned (OpenSpec.upto txnReplayedSpec)

/-- 'gazettelaw16.TxnReads', WHERE WHAT IT READS IS OF BULK AT MOST 1048576: true; the input reads as it did. -/
def txnReadsUptoRow : OpenClaim := { program := "ytofegigbhohebaa", sum := "1e1b0791eae9ac1192890ead7eb131088f8a4b770c47e0f576063182e7c8716a", func := "gazette/gazettelaw16.TxnReads", spec := "txnReads", inPlace := ["slices.overlaps[int]"], unfollowed := true, recurses := true, apart := false, narrowed := true }
def TxnReadsUptoSaid : Prop := txnReadsUptoRow.holds Try.pinned (OpenSpec.upto txnReadsSpec)

end Rows
end Go.Proofs.Ytofegigbhohebaa
