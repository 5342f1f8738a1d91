/-
  Of this seat's texts what the claim wants (printed by a program): WEqStruct.
-/
import Derived.Test.YtlomjbfhalmalaaGreatDoortWWords
import Derived.Laws.StructEq
namespace Go.Proofs.YtlomjbfhalmalaaGreatDoorW.PrintWords
open Go.RowKit
section
variable {P : Program} {d : Nat} {xs ys : Array Value} {f : Field} {fs : List Field} {a b : Value} {r s : Bool} {w : World}
end
end Go.Proofs.YtlomjbfhalmalaaGreatDoorW.PrintWords
