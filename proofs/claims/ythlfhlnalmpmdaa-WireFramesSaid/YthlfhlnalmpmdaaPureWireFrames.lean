/- Any bytes in a frame, and any bytes as a frame, or refused, lent with marked room behind them that stays: the program answers as the document says. No condition. -/
import Derived.Test.YthlfhlnalmpmdaaPWireFramesx1
namespace Go.Proofs.Ythlfhlnalmpmdaa.Pure
theorem WireFrames : PWireFrames.gazettelaw01_WireFrames.Pure := trivial
end Go.Proofs.Ythlfhlnalmpmdaa.Pure
