-- Written by a program of this session (hprint.py, over the kit's print.py). Not trusted: Lean checks it.
import Derived.Test.YtpcoelimabojcaaR0x0
import Derived.Test.YtpcoelimabojcaaR0x1
import Derived.Test.YtpcoelimabojcaaR0x2
import Derived.Test.YtpcoelimabojcaaR0x3
import Derived.Test.YtpcoelimabojcaaR0x4
import Derived.Test.YtpcoelimabojcaaR0x4b
import Derived.Test.YtpcoelimabojcaaR0x5
namespace Go.Proofs.Ytpcoelimabojcaa.R0
open Go.RowKit Go.Proofs.YtpcoelimabojcaaW.PrintWords Go.Proofs.YtpcoelimabojcaaW.PrintLast Go.Proofs.YtpcoelimabojcaaW.PrintMore
attribute [local go_sem] max2_int min2_int max_two min_two max_three min_three max_four min_four   -- for this text's walks alone
set_option linter.unusedVariables false
set_option linter.unusedSimpArgs false

end Go.Proofs.Ytpcoelimabojcaa.R0
