/- What the book of transactions does, in plain words. -/
import Derived.Test.YtofegigbhohebaaHW
import Derived.Test.YtofegigbhohebaaWTab
import Derived.Test.YtofegigbhohebaaWGuard
import Derived.Test.YtofegigbhohebaaWRepsOne
import Derived.Test.YtofegigbhohebaaWEqStruct
import Derived.Test.YtofegigbhohebaaChecked
namespace Go.Proofs.Ytofegigbhohebaa.Hand
open Go.RowKit Go.Proofs.Ytofegigbhohebaa Go.Proofs.YtofegigbhohebaaW.PrintWords Go.Proofs.YtofegigbhohebaaW.PrintLast
set_option linter.unusedVariables false
set_option linter.unusedSimpArgs false
instance decBA : DecidableEq ByteArray := fun a b => if h : a.data = b.data then .isTrue (by cases a; cases b; simp_all) else .isFalse (fun e => h (by rw [e]))
theorem beq_ba (a b : ByteArray) : (a == b) = (a.data == b.data) := by cases a; cases b; rfl
instance lawBA : LawfulBEq ByteArray where
  eq_of_beq {a b} h := by
    rw [beq_ba] at h
    have := eq_of_beq h
    cases a; cases b; simp_all
  rfl {a} := by rw [beq_ba]; exact beq_self_eq_true _
/-- An event. -/
structure EvV where
  kind : Int
  name : ByteArray
  producer : Int
  epoch : Int
  place : Int
  timeout : Int
  now : Int
  yes : Bool
def evE (x : EvV) : Value := .agg #[.int .i64 x.kind, .string x.name, .int .i64 x.producer, .int .i64 x.epoch, .int .i64 x.place, .int .i64 x.timeout, .int .i64 x.now, .bool x.yes]
/-- What is known of a producer. -/
structure ProdV where
  name : ByteArray
  timeout : Int
  epoch : Int
  status : Int
  since : Int
  places : List Int
def inE (n below : Int) : Bool := decide (0 ≤ n) && decide (n < below)
def noName (x : EvV) : Bool := x.name.toList.isEmpty
/-- May an event be? -/
def rightE (x : EvV) : Bool :=
  inE x.producer 281474976710656 && inE x.epoch 2147483648 && inE x.place 281474976710656 && inE x.timeout 3601 && inE x.now 281474976710656 &&
  (if x.kind = 1 then decide (1 ≤ x.timeout) && !noName x && decide (x.name.size ≤ 64) && (decide (x.producer = 0) && decide (x.epoch = 0) && decide (x.place = 0) && !x.yes)
   else if x.kind = 2 then noName x && decide (x.timeout = 0) && !x.yes
   else if x.kind = 3 then noName x && decide (x.place = 0) && decide (x.timeout = 0) && decide (x.now = 0)
   else if x.kind = 4 then noName x && decide (x.timeout = 0) && decide (x.now = 0) && !x.yes
   else if x.kind = 5 then noName x && decide (x.producer = 0) && decide (x.epoch = 0) && decide (x.place = 0) && decide (x.timeout = 0) && !x.yes
   else false)
end Go.Proofs.Ytofegigbhohebaa.Hand
