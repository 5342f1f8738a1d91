/-
  Of this seat's texts what the claim wants (printed by a program): JT.
-/
import Derived.Test.YtlomjbfhalmalaaGreatDoortJ1
import Derived.Test.YtlomjbfhalmalaaGreatDoortPAllx
set_option linter.unusedVariables false
set_option linter.unusedSimpArgs false
namespace Go.Proofs.YtlomjbfhalmalaaGreatDoor.C
open Go Go.RowKit Go.Proofs.YtlomjbfhalmalaaGreatDoor.M
end Go.Proofs.YtlomjbfhalmalaaGreatDoor.C
set_option linter.unusedVariables false
set_option linter.unusedSimpArgs false
namespace Go.Proofs.YtlomjbfhalmalaaGreatDoor.C
open Go Go.RowKit Go.Proofs.YtlomjbfhalmalaaGreatDoor.M
end Go.Proofs.YtlomjbfhalmalaaGreatDoor.C
set_option linter.unusedVariables false
set_option linter.unusedSimpArgs false
namespace Go.Proofs.YtlomjbfhalmalaaGreatDoor.C
open Go Go.RowKit Go.Proofs.YtlomjbfhalmalaaGreatDoor.M
end Go.Proofs.YtlomjbfhalmalaaGreatDoor.C
set_option linter.unusedVariables false
set_option linter.unusedSimpArgs false
namespace Go.Proofs.YtlomjbfhalmalaaGreatDoor.C
open Go Go.RowKit Go.Proofs.YtlomjbfhalmalaaGreatDoor.M Go.Proofs.YtlomjbfhalmalaaGreatDoor.PAll Go.Proofs.YtlomjbfhalmalaaGreatDoorW.PrintWords
theorem bt_eq {s : ByteArray} {p : Nat} (h : p < s.size) : Go.Proofs.YtlomjbfhalmalaaGreatDoorW.PrintWords.bt s (p : Int) = (b0 ((bl s).drop p) : Nat) := by
  unfold Go.Proofs.YtlomjbfhalmalaaGreatDoorW.PrintWords.bt
  rw [Int.toNat_natCast, dif_pos h, byte_at h]
section
variable (s : ByteArray) (p : Nat) (hs : s.size ≤ 140737488351232)
end
section
variable (s : ByteArray) (p : Nat) (hs : s.size ≤ 140737488351232) (hp : p < s.size)
def x2 (a b : Nat) : Nat := a % 32 * 64 + b % 64
def x3 (a b c : Nat) : Nat := a % 16 * 4096 + b % 64 * 64 + c % 64
def x4 (a b c d : Nat) : Nat := a % 8 * 262144 + b % 64 * 4096 + c % 64 * 64 + d % 64
end
end Go.Proofs.YtlomjbfhalmalaaGreatDoor.C
set_option linter.unusedVariables false
set_option linter.unusedSimpArgs false
namespace Go.Proofs.YtlomjbfhalmalaaGreatDoor.C
open Go Go.RowKit Go.Proofs.YtlomjbfhalmalaaGreatDoor.M Go.Proofs.YtlomjbfhalmalaaGreatDoor.E Go.Proofs.YtlomjbfhalmalaaGreatDoor.PAll Go.Proofs.YtlomjbfhalmalaaGreatDoorW.PrintWords
end Go.Proofs.YtlomjbfhalmalaaGreatDoor.C
set_option linter.unusedVariables false
set_option linter.unusedSimpArgs false
namespace Go.Proofs.YtlomjbfhalmalaaGreatDoor.C
open Go Go.RowKit Go.Proofs.YtlomjbfhalmalaaGreatDoor.M Go.Proofs.YtlomjbfhalmalaaGreatDoor.E Go.Proofs.YtlomjbfhalmalaaGreatDoor.PAll Go.Proofs.YtlomjbfhalmalaaGreatDoorW.PrintWords
theorem rd_nat (xs : List Int) (i : Nat) : rd xs (i : Int) = xs.getD i 0 := by unfold rd; rw [Int.toNat_natCast]
theorem rd_some {xs : List Int} {i : Nat} {u : Int} (h : xs[i]? = some u) : rd xs (i : Int) = u := by rw [rd_nat, List.getD_eq_getElem?_getD, h]; rfl
end Go.Proofs.YtlomjbfhalmalaaGreatDoor.C
