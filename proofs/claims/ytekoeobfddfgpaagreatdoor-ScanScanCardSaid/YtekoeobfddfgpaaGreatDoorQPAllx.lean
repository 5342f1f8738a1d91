/-
  Of this seat's texts what the claim wants (printed by a program): PAllx.
-/
import Derived.Test.YtekoeobfddfgpaaGreatDoorQPAllx0
import Derived.Test.YtekoeobfddfgpaaGreatDoorQPAllx1
import Derived.Test.YtekoeobfddfgpaaGreatDoorQPAllx2
import Derived.Test.YtekoeobfddfgpaaGreatDoorQPAllx3
import Derived.Test.YtekoeobfddfgpaaGreatDoorQPAllx4
import Derived.Test.YtekoeobfddfgpaaGreatDoorQPAllx5
import Derived.Test.YtekoeobfddfgpaaGreatDoorQPAllx6
import Derived.Test.YtekoeobfddfgpaaGreatDoorQPAllx7
import Derived.Test.YtekoeobfddfgpaaGreatDoorQPAllx8
import Derived.Test.YtekoeobfddfgpaaGreatDoorQPAllx9
import Derived.Test.YtekoeobfddfgpaaGreatDoorQPAllx10
import Derived.Test.YtekoeobfddfgpaaGreatDoorQPAllx11
import Derived.Test.YtekoeobfddfgpaaGreatDoorQPAllx12
namespace Go.Proofs.YtekoeobfddfgpaaGreatDoor.PAll
open Go.RowKit Go.Proofs.YtekoeobfddfgpaaGreatDoorW.PrintWords Go.Proofs.YtekoeobfddfgpaaGreatDoorW.PrintLast Go.Proofs.YtekoeobfddfgpaaGreatDoorW.PrintMore
attribute [local go_sem] max2_int min2_int max_two min_two max_three min_three max_four min_four   -- for this text's walks alone
set_option linter.unusedVariables false
set_option linter.unusedSimpArgs false
end Go.Proofs.YtekoeobfddfgpaaGreatDoor.PAll
