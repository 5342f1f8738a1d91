-- Written by the kit's print program over this seat's translation (several laws in one print).
import Derived.Test.YtbkimhbpcmbflaaDoorPAllx0
import Derived.Test.YtbkimhbpcmbflaaDoorPAllx1
import Derived.Test.YtbkimhbpcmbflaaDoorPAllx2
import Derived.Test.YtbkimhbpcmbflaaDoorPAllx3
import Derived.Test.YtbkimhbpcmbflaaDoorPAllx4
import Derived.Test.YtbkimhbpcmbflaaDoorPAllx5
import Derived.Test.YtbkimhbpcmbflaaDoorPAllx6
import Derived.Test.YtbkimhbpcmbflaaDoorPAllx7
import Derived.Test.YtbkimhbpcmbflaaDoorPAllx8
namespace Go.Proofs.YtbkimhbpcmbflaaDoor.PAll
open Go.RowKit Go.Proofs.YtbkimhbpcmbflaaDoorW.PrintWords Go.Proofs.YtbkimhbpcmbflaaDoorW.PrintLast Go.Proofs.YtbkimhbpcmbflaaDoorW.PrintMore
attribute [local go_sem] max2_int min2_int max_two min_two max_three min_three max_four min_four   -- for this text's walks alone
set_option linter.unusedVariables false
set_option linter.unusedSimpArgs false

end Go.Proofs.YtbkimhbpcmbflaaDoor.PAll
