/-
  Of this seat's texts what the claim wants (printed by a program): WArr.
-/
import Derived.Test.YtlomjbfhalmalaaGreatDoortWWords
namespace Go.Proofs.YtlomjbfhalmalaaGreatDoorW.PrintWords
open Go.RowKit
namespace Kd
section
variable {α : Type} {n : Nat} {d : Kd α} {hs : 0 < d.sz} {w : World} {base : Nat} {ok : Nat → Prop} {xs : List α} {cs : List Value}
end
section
variable {α : Type} {n : Nat} {enc : α → Value} {h1 : ∀ x, (enc x).oneCell' = true} {hs : 0 < (scalar enc h1).sz} {w : World} {base : Nat} {ok : Nat → Prop} {xs : List α} {cs : List Value}
end
end Kd
end Go.Proofs.YtlomjbfhalmalaaGreatDoorW.PrintWords
