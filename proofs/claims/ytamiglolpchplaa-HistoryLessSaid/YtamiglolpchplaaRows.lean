/-
  No cell of these rows narrows 'for every input' (looked for: loops, veiled, ifaces, maps, wideKeys, modest, calm, conditions, laid).
  DERIVED. THE GIVEN ROWS OF THIS SEAT. 5 by the template 'for every input the law returns true; each argument reads behind the call as it read before'; 0 by the template 'total and deterministic' (their statements: YtamiglolpchplaaTotals.lean).
  GIVEN WITH THE SEED: the statements are not yours to turn. If you find one false, say at which input.
  Laid BY PROGRAM, IN A SANDBOX (cutbox-rows.mjs): the forced cells as the released guide's own fill.sh prints them over the translation 3fa4e1a3d6a20547… (all of the seat's roots in one cut). By AI agents, Wed Nov 11 2026. No macro, syntax, notation, axiom, sorry.
-/
import Derived.Test.YtamiglolpchplaaChecked
import GoSem.Claim
import GoSem.ClaimJoined
import GoSem.ClaimMapViews
import Derived.JoinedTies
import Derived.KernelRfl
namespace Go.Proofs.Ytamiglolpchplaa
/- THE CELL 'sum', in the pinned program and in every row, IS THE sha256 OF THE DUMP (.gsa) THAT YtamiglolpchplaaProg.lean LOADS. Nothing in Lean hashes anything: it is a label: what it is worth is what the hold of that sum in a sandbox is worth. -/
noncomputable def Try.pinned : Pinned := { name := "ytamiglolpchplaa", sum := "3fa4e1a3d6a20547b2b0c9150c14060bf6454d167a2124cf7b9a5986c604813f", checked := Try.checked }
namespace Rows
def none {H : Type} : Left H := { results := [], args := [] }

/-- 'gazettelaw20.HistoryChecks': WHATEVER THE INPUT: true; the input reads as it did. -/
def historyChecksSpec : ChangeSpec := { name := "historyChecks", fn := fun _ => fun
  | [d] => { results := [.lit (.bool true)], args := [d] }
  | _ => none }
def historyChecksRow : OpenClaim := { program := "ytamiglolpchplaa", sum := "3fa4e1a3d6a20547b2b0c9150c14060bf6454d167a2124cf7b9a5986c604813f", func := "gazette/gazettelaw20.HistoryChecks", spec := "historyChecks", unfollowed := true, recurses := true, apart := false }
def HistoryChecksSaid : Prop := historyChecksRow.holds Try.pinned (OpenSpec.ofChange historyChecksSpec)

/-- ITS FALSE NEIGHBOUR: 'it returns false'. Refute it at one input. -/
def historyChecksWrong : ChangeSpec := { name := "historyChecks", fn := fun _ => fun
  | [d] => { results := [.lit (.bool false)], args := [d] }
  | _ => none }
def HistoryChecksWrongFalsely : Prop := historyChecksRow.holds Try.pinned (OpenSpec.ofChange historyChecksWrong)

/-- 'gazettelaw20.HistoryJust': WHATEVER THE INPUT: true; the input reads as it did. -/
def historyJustSpec : ChangeSpec := { name := "historyJust", fn := fun _ => fun
  | [d] => { results := [.lit (.bool true)], args := [d] }
  | _ => none }
def historyJustRow : OpenClaim := { program := "ytamiglolpchplaa", sum := "3fa4e1a3d6a20547b2b0c9150c14060bf6454d167a2124cf7b9a5986c604813f", func := "gazette/gazettelaw20.HistoryJust", spec := "historyJust", unfollowed := true, recurses := true, apart := false }
def HistoryJustSaid : Prop := historyJustRow.holds Try.pinned (OpenSpec.ofChange historyJustSpec)

/-- ITS FALSE NEIGHBOUR: 'it returns false'. Refute it at one input. -/
def historyJustWrong : ChangeSpec := { name := "historyJust", fn := fun _ => fun
  | [d] => { results := [.lit (.bool false)], args := [d] }
  | _ => none }
def HistoryJustWrongFalsely : Prop := historyJustRow.holds Try.pinned (OpenSpec.ofChange historyJustWrong)

/-- 'gazettelaw20.HistoryHappened': WHATEVER THE INPUT: true; the input reads as it did. -/
def historyHappenedSpec : ChangeSpec := { name := "historyHappened", fn := fun _ => fun
  | [d1, d2] => { results := [.lit (.bool true)], args := [d1, d2] }
  | _ => none }
def historyHappenedRow : OpenClaim := { program := "ytamiglolpchplaa", sum := "3fa4e1a3d6a20547b2b0c9150c14060bf6454d167a2124cf7b9a5986c604813f", func := "gazette/gazettelaw20.HistoryHappened", spec := "historyHappened", unfollowed := true, recurses := true, apart := false }
def HistoryHappenedSaid : Prop := historyHappenedRow.holds Try.pinned (OpenSpec.ofChange historyHappenedSpec)

/-- ITS FALSE NEIGHBOUR: 'it returns false'. Refute it at one input. -/
def historyHappenedWrong : ChangeSpec := { name := "historyHappened", fn := fun _ => fun
  | [d1, d2] => { results := [.lit (.bool false)], args := [d1, d2] }
  | _ => none }
def HistoryHappenedWrongFalsely : Prop := historyHappenedRow.holds Try.pinned (OpenSpec.ofChange historyHappenedWrong)

/-- 'gazettelaw20.HistoryLess': WHATEVER THE INPUT: true; the input reads as it did. -/
def historyLessSpec : ChangeSpec := { name := "historyLess", fn := fun _ => fun
  | [d1, d2] => { results := [.lit (.bool true)], args := [d1, d2] }
  | _ => none }
def historyLessRow : OpenClaim := { program := "ytamiglolpchplaa", sum := "3fa4e1a3d6a20547b2b0c9150c14060bf6454d167a2124cf7b9a5986c604813f", func := "gazette/gazettelaw20.HistoryLess", spec := "historyLess", unfollowed := true, recurses := true, apart := false }
def HistoryLessSaid : Prop := historyLessRow.holds Try.pinned (OpenSpec.ofChange historyLessSpec)

/-- ITS FALSE NEIGHBOUR: 'it returns false'. Refute it at one input. -/
def historyLessWrong : ChangeSpec := { name := "historyLess", fn := fun _ => fun
  | [d1, d2] => { results := [.lit (.bool false)], args := [d1, d2] }
  | _ => none }
def HistoryLessWrongFalsely : Prop := historyLessRow.holds Try.pinned (OpenSpec.ofChange historyLessWrong)

/-- 'gazettelaw20.HistoryWrong': WHATEVER THE INPUT: true; the input reads as it did. -/
def historyWrongSpec : ChangeSpec := { name := "historyWrong", fn := fun _ => fun
  | [d1, d2] => { results := [.lit (.bool true)], args := [d1, d2] }
  | _ => none }
def historyWrongRow : OpenClaim := { program := "ytamiglolpchplaa", sum := "3fa4e1a3d6a20547b2b0c9150c14060bf6454d167a2124cf7b9a5986c604813f", func := "gazette/gazettelaw20.HistoryWrong", spec := "historyWrong", unfollowed := true, recurses := true, apart := false }
def HistoryWrongSaid : Prop := historyWrongRow.holds Try.pinned (OpenSpec.ofChange historyWrongSpec)

/-- ITS FALSE NEIGHBOUR: 'it returns false'. Refute it at one input. -/
def historyWrongWrong : ChangeSpec := { name := "historyWrong", fn := fun _ => fun
  | [d1, d2] => { results := [.lit (.bool false)], args := [d1, d2] }
  | _ => none }
def HistoryWrongWrongFalsely : Prop := historyWrongRow.holds Try.pinned (OpenSpec.ofChange historyWrongWrong)

/- THE SECOND FORM. 'bulk': how many values and letters a reading holds, each counted each time it is reached (what is shared counts as often as it is met; a slice's spare places count too). A statement '..UptoSaid' is the law's where the arguments, and the package variables that the reading takes, are together of bulk at most 1048576: NARROWER than '..Said'. Prove '..Said' where nothing that the law and all that it calls make is longer than what came in: it says more and counts as full. Else prove '..UptoSaid'. A law counts once. -/
mutual
def uptoBulk {H : Type} : DataW H → Nat
  | .lit (.string bytes) => bytes.length + 1
  | .lit _ => 1
  | .nil => 1
  | .ptr d => uptoBulk d + 1
  | .slice elems spare => uptoBulkAll elems + uptoBulkAll spare + 1
  | .agg parts => uptoBulkAll parts + 1
  | .iface _ d => uptoBulk d + 1
  | .map entries => uptoBulkEntries entries + 1
  | .held _ => 1
def uptoBulkAll {H : Type} : List (DataW H) → Nat
  | [] => 0
  | d :: r => uptoBulk d + uptoBulkAll r
def uptoBulkEntries {H : Type} : List (Lit × DataW H) → Nat
  | [] => 0
  | x :: r => uptoBulkEntry x + uptoBulkEntries r
def uptoBulkEntry {H : Type} : Lit × DataW H → Nat
  | (.string bytes, d) => bytes.length + uptoBulk d + 1
  | (_, d) => uptoBulk d + 1
 end
def uptoSmall : (H : Type) → List (DataW H) → Bool := fun _ ds => decide (uptoBulkAll ds ≤ 1048576)
def OpenSpec.upto (s : _root_.Go.ChangeSpec) : _root_.Go.OpenSpec := { _root_.Go.OpenSpec.ofChange s with cond := some uptoSmall }

/-- 'gazettelaw20.HistoryChecks', WHERE WHAT IT READS IS OF BULK AT MOST 1048576: true; the input reads as it did. -/
def historyChecksUptoRow : OpenClaim := { program := "ytamiglolpchplaa", sum := "3fa4e1a3d6a20547b2b0c9150c14060bf6454d167a2124cf7b9a5986c604813f", func := "gazette/gazettelaw20.HistoryChecks", spec := "historyChecks", unfollowed := true, recurses := true, apart := false, narrowed := true }
def HistoryChecksUptoSaid : Prop := historyChecksUptoRow.holds Try.pinned (OpenSpec.upto historyChecksSpec)

/-- 'gazettelaw20.HistoryJust', WHERE WHAT IT READS IS OF BULK AT MOST 1048576: true; the input reads as it did. -/
def historyJustUptoRow : OpenClaim := { program := "ytamiglolpchplaa", sum := "3fa4e1a3d6a20547b2b0c9150c14060bf6454d167a2124cf7b9a5986c604813f", func := "gazette/gazettelaw20.HistoryJust", spec := "historyJust", unfollowed := true, recurses := true, apart := false, narrowed := true }
def HistoryJustUptoSaid : Prop := historyJustUptoRow.holds Try.pinned (OpenSpec.upto historyJustSpec)

/-- 'gazettelaw20.HistoryHappened', WHERE WHAT IT READS IS OF BULK AT MOST 1048576: true; the input reads as it did. -/
def historyHappenedUptoRow : OpenClaim := { program := "ytamiglolpchplaa", sum := "3fa4e1a3d6a20547b2b0c9150c14060bf6454d167a2124cf7b9a5986c604813f", func := "gazette/gazettelaw20.HistoryHappened", spec := "historyHappened", unfollowed := true, recurses := true, apart := false, narrowed := true }
def HistoryHappenedUptoSaid : Prop := historyHappenedUptoRow.holds Try.pinned (OpenSpec.upto historyHappenedSpec)

/-- 'gazettelaw20.HistoryLess', WHERE WHAT IT READS IS OF BULK AT MOST 1048576: true; the input reads as it did. -/
def historyLessUptoRow : OpenClaim := { program := "ytamiglolpchplaa", sum := "3fa4e1a3d6a20547b2b0c9150c14060bf6454d167a2124cf7b9a5986c604813f", func := "gazette/gazettelaw20.HistoryLess", spec := "historyLess", unfollowed := true, recurses := true, apart := false, narrowed := true }
def HistoryLessUptoSaid : Prop := historyLessUptoRow.holds Try.pinned (OpenSpec.upto historyLessSpec)

/-- 'gazettelaw20.HistoryWrong', WHERE WHAT IT READS IS OF BULK AT MOST 1048576: true; the input reads as it did. -/
def historyWrongUptoRow : OpenClaim := { program := "ytamiglolpchplaa", sum := "3fa4e1a3d6a20547b2b0c9150c14060bf6454d167a2124cf7b9a5986c604813f", func := "gazette/gazettelaw20.HistoryWrong", spec := "historyWrong", unfollowed := true, recurses := true, apart := false, narrowed := true }
def HistoryWrongUptoSaid : Prop := historyWrongUptoRow.holds Try.pinned (OpenSpec.upto historyWrongSpec)

end Rows
end Go.Proofs.Ytamiglolpchplaa
