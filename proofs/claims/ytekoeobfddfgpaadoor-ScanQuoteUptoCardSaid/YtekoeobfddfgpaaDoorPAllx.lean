-- Written by the kit's print program over this seat's translation (several laws in one print).
import Derived.Test.YtekoeobfddfgpaaDoorPAllx0
import Derived.Test.YtekoeobfddfgpaaDoorPAllx1
import Derived.Test.YtekoeobfddfgpaaDoorPAllx2
import Derived.Test.YtekoeobfddfgpaaDoorPAllx3
import Derived.Test.YtekoeobfddfgpaaDoorPAllx4
import Derived.Test.YtekoeobfddfgpaaDoorPAllx5
import Derived.Test.YtekoeobfddfgpaaDoorPAllx6
namespace Go.Proofs.YtekoeobfddfgpaaDoor.PAll
open Go.RowKit Go.Proofs.YtekoeobfddfgpaaDoorW.PrintWords Go.Proofs.YtekoeobfddfgpaaDoorW.PrintLast Go.Proofs.YtekoeobfddfgpaaDoorW.PrintMore
attribute [local go_sem] max2_int min2_int max_two min_two max_three min_three max_four min_four   -- for this text's walks alone
set_option linter.unusedVariables false
set_option linter.unusedSimpArgs false

end Go.Proofs.YtekoeobfddfgpaaDoor.PAll
