/-
  Of this seat's texts what the claim wants (printed by a program): PAllx.
-/
import Derived.Test.YtlomjbfhalmalaaGreatDoortPAllx0
import Derived.Test.YtlomjbfhalmalaaGreatDoortPAllx4
import Derived.Test.YtlomjbfhalmalaaGreatDoortPAllx5
import Derived.Test.YtlomjbfhalmalaaGreatDoortPAllx6
import Derived.Test.YtlomjbfhalmalaaGreatDoortPAllx11
namespace Go.Proofs.YtlomjbfhalmalaaGreatDoor.PAll
open Go.RowKit Go.Proofs.YtlomjbfhalmalaaGreatDoorW.PrintWords Go.Proofs.YtlomjbfhalmalaaGreatDoorW.PrintLast Go.Proofs.YtlomjbfhalmalaaGreatDoorW.PrintMore
attribute [local go_sem] max2_int min2_int max_two min_two max_three min_three max_four min_four   -- for this text's walks alone
set_option linter.unusedVariables false
set_option linter.unusedSimpArgs false
end Go.Proofs.YtlomjbfhalmalaaGreatDoor.PAll
