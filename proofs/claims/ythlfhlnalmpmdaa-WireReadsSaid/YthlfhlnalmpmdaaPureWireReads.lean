/- Texts and numbers out of any bytes, at any place: the program answers as the document says. No condition. -/
import Derived.Test.YthlfhlnalmpmdaaPWireReadsx1
import Derived.Test.YthlfhlnalmpmdaaHPure
namespace Go.Proofs.Ythlfhlnalmpmdaa.Pure
open Go.RowKit Go.Proofs.Ythlfhlnalmpmdaa.Hand Go.Proofs.Ythlfhlnalmpmdaa.PWireReads Go.Proofs.YthlfhlnalmpmdaaW.PrintWords Go.Proofs.YthlfhlnalmpmdaaW.PrintLast

theorem WireReads : gazettelaw01_WireReads.Pure := by
  intro l0 a1 a2 _ _ hb _ _
  have hb := isB_of_wf hb
  unfold gazettelaw01_WireReads.f gazetteref01_GetText.f wire_GetText.f gazetteref01_Get.f wire_Get.f gazettelaw01_num.f gazettelaw01_knows.f
  rw [if_pos hb, if_pos hb]
  simp
end Go.Proofs.Ythlfhlnalmpmdaa.Pure
