/-
  Of this seat's texts what the claim wants (printed by a program): WFour.
-/
import Derived.Test.YtekoeobfddfgpaaGreatDoorRWTab
namespace Go.Proofs.YtekoeobfddfgpaaGreatDoorW.PrintLast
section
variable {P : Program} {ops : Array Oper} {Q : Exit → Act → World → Prop} {md : Region.Mode} {S : World → Prop} {ds : List Nat} {T : Bool × List (List Nat × List Nat)}
end
end Go.Proofs.YtekoeobfddfgpaaGreatDoorW.PrintLast
