/-
  Of this seat's texts what the claim wants (printed by a program): WFour.
-/
import Derived.Test.YtlomjbfhalmalaaGreatDoortWTab
namespace Go.Proofs.YtlomjbfhalmalaaGreatDoorW.PrintLast
section
variable {P : Program} {ops : Array Oper} {Q : Exit → Act → World → Prop} {md : Region.Mode} {S : World → Prop} {ds : List Nat} {T : Bool × List (List Nat × List Nat)}
end
end Go.Proofs.YtlomjbfhalmalaaGreatDoorW.PrintLast
