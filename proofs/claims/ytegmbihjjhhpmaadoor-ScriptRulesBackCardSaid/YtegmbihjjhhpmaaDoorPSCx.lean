-- Written by wip/mprint.py (the kit's printer, and texts of this claim's own for what it does not take). Not trusted: Lean checks it.
import Derived.Test.YtegmbihjjhhpmaaDoorPSCx0
import Derived.Test.YtegmbihjjhhpmaaDoorPSCx1
import Derived.Test.YtegmbihjjhhpmaaDoorPSCx2
import Derived.Test.YtegmbihjjhhpmaaDoorPSCx3
import Derived.Test.YtegmbihjjhhpmaaDoorPSCx4
import Derived.Test.YtegmbihjjhhpmaaDoorPSCx5
import Derived.Test.YtegmbihjjhhpmaaDoorPSCx6
import Derived.Test.YtegmbihjjhhpmaaDoorPSCx7
import Derived.Test.YtegmbihjjhhpmaaDoorPSCx8
import Derived.Test.YtegmbihjjhhpmaaDoorPSCx9
import Derived.Test.YtegmbihjjhhpmaaDoorPSCx10
import Derived.Test.YtegmbihjjhhpmaaDoorPSCx11
import Derived.Test.YtegmbihjjhhpmaaDoorPSCx12
namespace Go.Proofs.YtegmbihjjhhpmaaDoor.PSC
open Go.RowKit Go.Proofs.YtegmbihjjhhpmaaDoorW.PrintWords Go.Proofs.YtegmbihjjhhpmaaDoorW.PrintLast Go.Proofs.YtegmbihjjhhpmaaDoorW.PrintMore
attribute [local go_sem] max2_int min2_int max_two min_two max_three min_three max_four min_four   -- for this text's walks alone
set_option linter.unusedVariables false
set_option linter.unusedSimpArgs false

end Go.Proofs.YtegmbihjjhhpmaaDoor.PSC
