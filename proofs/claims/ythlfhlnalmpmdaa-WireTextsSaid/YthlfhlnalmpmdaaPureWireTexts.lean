/- Texts as bytes and back: the program answers as the document says, for any text, any bytes, any place. No condition. -/
import Derived.Test.YthlfhlnalmpmdaaPWireTextsx1
import Derived.Test.YthlfhlnalmpmdaaHPure
namespace Go.Proofs.Ythlfhlnalmpmdaa.Pure
open Go.RowKit Go.Proofs.Ythlfhlnalmpmdaa.Hand Go.Proofs.Ythlfhlnalmpmdaa.PWireTexts Go.Proofs.YthlfhlnalmpmdaaW.PrintWords Go.Proofs.YthlfhlnalmpmdaaW.PrintLast

theorem WireTexts : gazettelaw01_WireTexts.Pure := by
  intro a0 l1 a2 hs _ hlen hwf _
  have hb := isB_of_wf hwf
  unfold gazettelaw01_WireTexts.f refGetText.f wire_GetText.f gazetteref01_Text.f wire_Text.f gazettelaw01_num.f gazettelaw01_knows.f
  rw [if_pos hs]
  simp only [Option.bind_some]
  rw [if_pos (by rw [List.length_nil]; omega), List.nil_append, if_pos hb]
  simp
end Go.Proofs.Ythlfhlnalmpmdaa.Pure
