/-
  Of this seat's texts what the claim wants (printed by a program): WInv.
-/
import Derived.Test.YtlomjbfhalmalaaGreatDoortWTab
namespace Go.Proofs.YtlomjbfhalmalaaGreatDoorW.PrintLast
section
variable {P : Program} {ops : Array Oper} {Q : Exit → Act → World → Prop} {md : Region.Mode} {T : Bool × List (List Nat × List Nat)} {B : List Nat} {O : List Nat} {b : Nat → Bool} {i j n : Nat}
end
end Go.Proofs.YtlomjbfhalmalaaGreatDoorW.PrintLast
