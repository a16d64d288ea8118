/- Words of the print's for structs (dce.py). -/
import Derived.Test.YtpcoelimabojcaaHV
import Derived.Laws.StructEq
namespace Go.Proofs.YtpcoelimabojcaaW.PrintWords
open Go.RowKit
section
variable {P : Program} {d : Nat} {xs ys : Array Value} {f : Field} {fs : List Field} {a b : Value} {r s : Bool} {w : World}
end
end Go.Proofs.YtpcoelimabojcaaW.PrintWords
