/- Numbers as bytes and back, and the sum of any bytes, lent with marked room behind them that stays: the program answers as the document says. No condition. -/
import Derived.Test.YthlfhlnalmpmdaaPWireNumbersx1
namespace Go.Proofs.Ythlfhlnalmpmdaa.Pure
theorem WireNumbers : PWireNumbers.gazettelaw01_WireNumbers.Pure := trivial
end Go.Proofs.Ythlfhlnalmpmdaa.Pure
