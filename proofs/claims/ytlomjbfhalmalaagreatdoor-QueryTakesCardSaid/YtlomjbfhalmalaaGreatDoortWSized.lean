/-
  Of this seat's texts what the claim wants (printed by a program): WSized.
-/
import Derived.SizedLaws
import Derived.ChangeSlices
namespace Go.Proofs.YtlomjbfhalmalaaGreatDoorW.PrintWords
open Go.ChangeShapes Go.WideShapes
end Go.Proofs.YtlomjbfhalmalaaGreatDoorW.PrintWords
