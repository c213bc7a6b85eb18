-- Written by wip/mprint.py (the kit's printer, and texts of this claim's own for what it does not take). Not trusted: Lean checks it.
import Derived.Test.YtmkmefdajbdceaaPHGx0
import Derived.Test.YtmkmefdajbdceaaPHGx1
import Derived.Test.YtmkmefdajbdceaaPHGx2
import Derived.Test.YtmkmefdajbdceaaPHGx3
import Derived.Test.YtmkmefdajbdceaaPHGx4
import Derived.Test.YtmkmefdajbdceaaPHGx5
import Derived.Test.YtmkmefdajbdceaaPHGx6
import Derived.Test.YtmkmefdajbdceaaPHGx7
import Derived.Test.YtmkmefdajbdceaaPHGx8
import Derived.Test.YtmkmefdajbdceaaPHGx9
namespace Go.Proofs.Ytmkmefdajbdceaa.PHG
open Go.RowKit Go.Proofs.YtmkmefdajbdceaaW.PrintWords Go.Proofs.YtmkmefdajbdceaaW.PrintLast Go.Proofs.YtmkmefdajbdceaaW.PrintMore
attribute [local go_sem] max2_int min2_int max_two min_two max_three min_three max_four min_four   -- for this text's walks alone
set_option linter.unusedVariables false
set_option linter.unusedSimpArgs false

end Go.Proofs.Ytmkmefdajbdceaa.PHG
