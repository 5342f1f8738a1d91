/-
  Of this seat's texts what the claim wants (printed by a program): WInvWords.
-/
import Derived.Test.YtekoeobfddfgpaaGreatDoorRWInv
import Derived.Test.YtekoeobfddfgpaaGreatDoorRWFootNe
namespace Go.Proofs.YtekoeobfddfgpaaGreatDoorW.PrintWords
open Go.RowKit
end Go.Proofs.YtekoeobfddfgpaaGreatDoorW.PrintWords
namespace Go.Proofs.YtekoeobfddfgpaaGreatDoorW.PrintLast
section
variable {ops : Array Oper} {a : Act} {o og : Oper} {g : Nat} {t : Tmp} {u : Bool}
end
end Go.Proofs.YtekoeobfddfgpaaGreatDoorW.PrintLast
