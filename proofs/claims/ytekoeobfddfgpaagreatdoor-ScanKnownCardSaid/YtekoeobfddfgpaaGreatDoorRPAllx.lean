/-
  Of this seat's texts what the claim wants (printed by a program): PAllx.
-/
import Derived.Test.YtekoeobfddfgpaaGreatDoorRPAllx0
import Derived.Test.YtekoeobfddfgpaaGreatDoorRPAllx1
import Derived.Test.YtekoeobfddfgpaaGreatDoorRPAllx2
import Derived.Test.YtekoeobfddfgpaaGreatDoorRPAllx3
import Derived.Test.YtekoeobfddfgpaaGreatDoorRPAllx4
import Derived.Test.YtekoeobfddfgpaaGreatDoorRPAllx5
import Derived.Test.YtekoeobfddfgpaaGreatDoorRPAllx6
import Derived.Test.YtekoeobfddfgpaaGreatDoorRPAllx7
import Derived.Test.YtekoeobfddfgpaaGreatDoorRPAllx8
import Derived.Test.YtekoeobfddfgpaaGreatDoorRPAllx9
import Derived.Test.YtekoeobfddfgpaaGreatDoorRPAllx12
namespace Go.Proofs.YtekoeobfddfgpaaGreatDoor.PAll
open Go.RowKit Go.Proofs.YtekoeobfddfgpaaGreatDoorW.PrintWords Go.Proofs.YtekoeobfddfgpaaGreatDoorW.PrintLast Go.Proofs.YtekoeobfddfgpaaGreatDoorW.PrintMore
attribute [local go_sem] max2_int min2_int max_two min_two max_three min_three max_four min_four   -- for this text's walks alone
set_option linter.unusedVariables false
set_option linter.unusedSimpArgs false
end Go.Proofs.YtekoeobfddfgpaaGreatDoor.PAll
