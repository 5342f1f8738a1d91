/-
  Of this seat's texts what the claim wants (printed by a program): WInvWords.
-/
import Derived.Test.YtlomjbfhalmalaaGreatDoortWInv
import Derived.Test.YtlomjbfhalmalaaGreatDoortWFootNe
namespace Go.Proofs.YtlomjbfhalmalaaGreatDoorW.PrintWords
open Go.RowKit
end Go.Proofs.YtlomjbfhalmalaaGreatDoorW.PrintWords
namespace Go.Proofs.YtlomjbfhalmalaaGreatDoorW.PrintLast
section
variable {ops : Array Oper} {a : Act} {o og : Oper} {g : Nat} {t : Tmp} {u : Bool}
end
end Go.Proofs.YtlomjbfhalmalaaGreatDoorW.PrintLast
