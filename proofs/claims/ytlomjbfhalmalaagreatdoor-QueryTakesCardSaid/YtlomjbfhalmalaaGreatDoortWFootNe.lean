/-
  Of this seat's texts what the claim wants (printed by a program): WFootNe.
-/
import Derived.Test.YtlomjbfhalmalaaGreatDoortWN
namespace Go.Proofs.YtlomjbfhalmalaaGreatDoorW.PrintWords
open Go.RowKit
namespace Kd
section
variable {α : Type} {d : Kd α} {W : World} {g n : Nat} {S ok : Nat → Prop} {A : Option Addr} {ad : Addr} {xs : List α}
end
end Kd
end Go.Proofs.YtlomjbfhalmalaaGreatDoorW.PrintWords
