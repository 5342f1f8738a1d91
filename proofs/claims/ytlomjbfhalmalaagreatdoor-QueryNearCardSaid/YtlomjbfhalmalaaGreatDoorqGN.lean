/-
  What the claim wants beyond the texts shaken for its neighbour.
-/
import Derived.Test.YtlomjbfhalmalaaGreatDoorqH4
import Derived.Test.YtlomjbfhalmalaaGreatDoorqJ1
set_option linter.unusedVariables false
set_option linter.unusedSimpArgs false
namespace Go.Proofs.YtlomjbfhalmalaaGreatDoor.H
end Go.Proofs.YtlomjbfhalmalaaGreatDoor.H
set_option linter.unusedVariables false
set_option linter.unusedSimpArgs false
namespace Go.Proofs.YtlomjbfhalmalaaGreatDoor.H
end Go.Proofs.YtlomjbfhalmalaaGreatDoor.H
set_option linter.unusedVariables false
set_option linter.unusedSimpArgs false
namespace Go.Proofs.YtlomjbfhalmalaaGreatDoor.H
section
end
end Go.Proofs.YtlomjbfhalmalaaGreatDoor.H
set_option linter.unusedVariables false
set_option linter.unusedSimpArgs false
namespace Go.Proofs.YtlomjbfhalmalaaGreatDoor.H
theorem ed_ge (x y : Nat → Int) : ∀ i k, i ≤ ed x y i k + k ∧ k ≤ ed x y i k + i := by
  intro i k
  induction h : i + k using Nat.strongRecOn generalizing i k with
  | _ n ih =>
    match i, k with
    | 0, k => rw [ed_0]; omega
    | i + 1, 0 => rw [ed_s0]; omega
    | i + 1, k + 1 =>
      have h1 := ih (i + (k + 1)) (by omega) i (k + 1) rfl
      have h2 := ih (i + 1 + k) (by omega) (i + 1) k rfl
      have h3 := ih (i + k) (by omega) i k rfl
      have h4 := ih (i - 1 + (k - 1)) (by omega) (i - 1) (k - 1) rfl
      rw [ed_ss]
      generalize (if x i = y k then 0 else 1) = c
      split <;> omega
theorem ed_zero (x y : Nat → Int) : ∀ i k, ed x y i k = 0 ↔ i = k ∧ ∀ j, j < i → x j = y j
  | 0, k => by
    rw [ed_0]
    exact ⟨fun h => ⟨h.symm, fun j hj => by omega⟩, fun h => h.1.symm⟩
  | i + 1, 0 => by
    rw [ed_s0]
    exact ⟨fun h => by omega, fun h => by omega⟩
  | i + 1, k + 1 => by
    have h1 := ed_zero x y i k
    rw [ed_ss]
    by_cases h : x i = y k
    · rw [if_pos h]
      constructor
      · intro h0
        have : ed x y i k = 0 := by split at h0 <;> omega
        obtain ⟨e, hj⟩ := h1.1 this
        subst e
        exact ⟨rfl, fun j hj2 => by
          by_cases e : j = i
          · rw [e]; exact h
          · exact hj j (by omega)⟩
      · rintro ⟨e, hj⟩
        have : ed x y i k = 0 := h1.2 ⟨by omega, fun j h2 => hj j (by omega)⟩
        split <;> omega
    · rw [if_neg h]
      constructor
      · intro h0; split at h0 <;> omega
      · rintro ⟨e, hj⟩
        have : k = i := by omega
        subst this
        exact absurd (hj k (by omega)) h
theorem ed_sym (x y : Nat → Int) : ∀ i k, ed x y i k = ed y x k i := by
  intro i k
  induction h : i + k using Nat.strongRecOn generalizing i k with
  | _ n ih =>
    match i, k with
    | 0, k => rw [ed_0, ed_i0]
    | i + 1, 0 => rw [ed_s0, ed_0]
    | i + 1, k + 1 =>
      have h1 := ih (i + (k + 1)) (by omega) i (k + 1) rfl
      have h2 := ih (i + 1 + k) (by omega) (i + 1) k rfl
      have h3 := ih (i + k) (by omega) i k rfl
      have h4 := ih (i - 1 + (k - 1)) (by omega) (i - 1) (k - 1) rfl
      rw [ed_ss, ed_ss, h1, h2, h3, h4]
      have e1 : (if x i = y k then 0 else 1) = (if y k = x i then 0 else 1) := by
        by_cases e : x i = y k
        · rw [if_pos e, if_pos e.symm]
        · rw [if_neg e, if_neg (fun a => e a.symm)]
      rw [e1]
      generalize (if y k = x i then 0 else 1) = c
      by_cases e : 0 < i ∧ 0 < k ∧ x i = y (k - 1) ∧ x (i - 1) = y k
      · rw [if_pos e, if_pos ⟨e.2.1, e.1, e.2.2.2.symm, e.2.2.1.symm⟩]
        omega
      · rw [if_neg e, if_neg (fun a => e ⟨a.2.1, a.1, a.2.2.2.symm, a.2.2.1.symm⟩)]
        omega
theorem ed_congr {x y x' y' : Nat → Int} : ∀ i k, (∀ j, j < i → x j = x' j) → (∀ j, j < k → y j = y' j) → ed x y i k = ed x' y' i k := by
  intro i k
  induction h : i + k using Nat.strongRecOn generalizing i k with
  | _ n ih =>
    intro hx hy
    match i, k, h, hx, hy with
    | 0, k, _, _, _ => rw [ed_0, ed_0]
    | i + 1, 0, _, _, _ => rw [ed_s0, ed_s0]
    | i + 1, k + 1, h, hx, hy =>
      rw [ed_ss, ed_ss, ih (i + (k + 1)) (by omega) i (k + 1) rfl (fun j hj => hx j (by omega)) hy, ih (i + 1 + k) (by omega) (i + 1) k rfl hx (fun j hj => hy j (by omega)),
        ih (i + k) (by omega) i k rfl (fun j hj => hx j (by omega)) (fun j hj => hy j (by omega)),
        ih (i - 1 + (k - 1)) (by omega) (i - 1) (k - 1) rfl (fun j hj => hx j (by omega)) (fun j hj => hy j (by omega)),
        hx i (by omega), hy k (by omega), hx (i - 1) (by omega), hy (k - 1) (by omega)]
end Go.Proofs.YtlomjbfhalmalaaGreatDoor.H
set_option linter.unusedVariables false
set_option linter.unusedSimpArgs false
set_option maxRecDepth 100000
namespace Go.Proofs.YtlomjbfhalmalaaGreatDoor.M
open Go Go.Lib
end Go.Proofs.YtlomjbfhalmalaaGreatDoor.M
set_option linter.unusedVariables false
set_option linter.unusedSimpArgs false
set_option maxRecDepth 100000
namespace Go.Proofs.YtlomjbfhalmalaaGreatDoor.M
open Go Go.Lib
end Go.Proofs.YtlomjbfhalmalaaGreatDoor.M
set_option linter.unusedVariables false
set_option linter.unusedSimpArgs false
set_option maxRecDepth 100000
namespace Go.Proofs.YtlomjbfhalmalaaGreatDoor.M
open Go Go.Lib
end Go.Proofs.YtlomjbfhalmalaaGreatDoor.M
set_option linter.unusedVariables false
set_option linter.unusedSimpArgs false
set_option maxRecDepth 100000
namespace Go.Proofs.YtlomjbfhalmalaaGreatDoor.M
open Go Go.Lib
end Go.Proofs.YtlomjbfhalmalaaGreatDoor.M
set_option linter.unusedVariables false
set_option linter.unusedSimpArgs false
set_option maxRecDepth 100000
namespace Go.Proofs.YtlomjbfhalmalaaGreatDoor.M
open Go Go.Lib
end Go.Proofs.YtlomjbfhalmalaaGreatDoor.M
set_option linter.unusedVariables false
set_option linter.unusedSimpArgs false
set_option maxRecDepth 100000
namespace Go.Proofs.YtlomjbfhalmalaaGreatDoor.M
open Go Go.Lib
end Go.Proofs.YtlomjbfhalmalaaGreatDoor.M
set_option linter.unusedVariables false
set_option linter.unusedSimpArgs false
set_option maxRecDepth 100000
namespace Go.Proofs.YtlomjbfhalmalaaGreatDoor.M
open Go Go.Lib
end Go.Proofs.YtlomjbfhalmalaaGreatDoor.M
set_option linter.unusedVariables false
set_option linter.unusedSimpArgs false
set_option maxRecDepth 100000
namespace Go.Proofs.YtlomjbfhalmalaaGreatDoor.M
open Go Go.Lib
end Go.Proofs.YtlomjbfhalmalaaGreatDoor.M
set_option linter.unusedVariables false
namespace Go.Proofs.YtlomjbfhalmalaaGreatDoor.Z
open Go
section
end
end Go.Proofs.YtlomjbfhalmalaaGreatDoor.Z
set_option linter.unusedVariables false
set_option linter.unusedSimpArgs false
namespace Go.Proofs.YtlomjbfhalmalaaGreatDoor.C
open Go Go.RowKit Go.Proofs.YtlomjbfhalmalaaGreatDoor.M
end Go.Proofs.YtlomjbfhalmalaaGreatDoor.C
set_option linter.unusedVariables false
set_option linter.unusedSimpArgs false
namespace Go.Proofs.YtlomjbfhalmalaaGreatDoor.C
open Go Go.RowKit Go.Proofs.YtlomjbfhalmalaaGreatDoor.M
end Go.Proofs.YtlomjbfhalmalaaGreatDoor.C
set_option linter.unusedVariables false
set_option linter.unusedSimpArgs false
namespace Go.Proofs.YtlomjbfhalmalaaGreatDoor.C
open Go Go.RowKit Go.Proofs.YtlomjbfhalmalaaGreatDoor.M
end Go.Proofs.YtlomjbfhalmalaaGreatDoor.C
set_option linter.unusedVariables false
set_option linter.unusedSimpArgs false
namespace Go.Proofs.YtlomjbfhalmalaaGreatDoor.E
open Go Go.RowKit Go.Extern.Stop Go.Stop Go.Extern
end Go.Proofs.YtlomjbfhalmalaaGreatDoor.E
set_option linter.unusedVariables false
set_option linter.unusedSimpArgs false
namespace Go.Proofs.YtlomjbfhalmalaaGreatDoor.E
open Go Go.RowKit Go.Extern.Stop Go.Stop Go.Extern
end Go.Proofs.YtlomjbfhalmalaaGreatDoor.E
set_option linter.unusedVariables false
set_option linter.unusedSimpArgs false
namespace Go.Proofs.YtlomjbfhalmalaaGreatDoor.E
open Go Go.RowKit
end Go.Proofs.YtlomjbfhalmalaaGreatDoor.E
set_option linter.unusedVariables false
set_option linter.unusedSimpArgs false
namespace Go.Proofs.YtlomjbfhalmalaaGreatDoor.C
open Go Go.RowKit Go.Proofs.YtlomjbfhalmalaaGreatDoor.M Go.Proofs.YtlomjbfhalmalaaGreatDoor.E
end Go.Proofs.YtlomjbfhalmalaaGreatDoor.C
set_option linter.unusedVariables false
set_option linter.unusedSimpArgs false
namespace Go.Proofs.YtlomjbfhalmalaaGreatDoor.C
open Go Go.RowKit Go.Proofs.YtlomjbfhalmalaaGreatDoor.M Go.Proofs.YtlomjbfhalmalaaGreatDoor.PAll Go.Proofs.YtlomjbfhalmalaaGreatDoorW.PrintWords
section
end
section
end
end Go.Proofs.YtlomjbfhalmalaaGreatDoor.C
set_option linter.unusedVariables false
set_option linter.unusedSimpArgs false
namespace Go.Proofs.YtlomjbfhalmalaaGreatDoor.C
open Go Go.RowKit Go.Proofs.YtlomjbfhalmalaaGreatDoor.M Go.Proofs.YtlomjbfhalmalaaGreatDoor.E Go.Proofs.YtlomjbfhalmalaaGreatDoor.PAll Go.Proofs.YtlomjbfhalmalaaGreatDoorW.PrintWords
end Go.Proofs.YtlomjbfhalmalaaGreatDoor.C
set_option linter.unusedVariables false
set_option linter.unusedSimpArgs false
namespace Go.Proofs.YtlomjbfhalmalaaGreatDoor.C
open Go Go.RowKit Go.Proofs.YtlomjbfhalmalaaGreatDoor.M Go.Proofs.YtlomjbfhalmalaaGreatDoor.E Go.Proofs.YtlomjbfhalmalaaGreatDoor.PAll Go.Proofs.YtlomjbfhalmalaaGreatDoorW.PrintWords
end Go.Proofs.YtlomjbfhalmalaaGreatDoor.C
set_option linter.unusedVariables false
set_option linter.unusedSimpArgs false
namespace Go.Proofs.YtlomjbfhalmalaaGreatDoor.C
open Go Go.RowKit Go.Proofs.YtlomjbfhalmalaaGreatDoor.M Go.Proofs.YtlomjbfhalmalaaGreatDoor.E Go.Proofs.YtlomjbfhalmalaaGreatDoor.PAll Go.Proofs.YtlomjbfhalmalaaGreatDoorW.PrintWords
theorem wi (n : Nat) (h : (n : Int) + 1 ≤ 9223372036854775807) : wrap64 ((n : Int) + 1) = ((n + 1 : Nat) : Int) := by rw [w64 (by omega) (by omega)]; omega
end Go.Proofs.YtlomjbfhalmalaaGreatDoor.C
set_option linter.unusedVariables false
set_option linter.unusedSimpArgs false
namespace Go.Proofs.YtlomjbfhalmalaaGreatDoor.C
open Go Go.RowKit Go.Proofs.YtlomjbfhalmalaaGreatDoor.M Go.Proofs.YtlomjbfhalmalaaGreatDoor.E Go.Proofs.YtlomjbfhalmalaaGreatDoor.PAll Go.Proofs.YtlomjbfhalmalaaGreatDoorW.PrintWords
end Go.Proofs.YtlomjbfhalmalaaGreatDoor.C
set_option linter.unusedVariables false
set_option linter.unusedSimpArgs false
namespace Go.Proofs.YtlomjbfhalmalaaGreatDoor.C
open Go Go.RowKit Go.Proofs.YtlomjbfhalmalaaGreatDoor.M Go.Proofs.YtlomjbfhalmalaaGreatDoor.E Go.Proofs.YtlomjbfhalmalaaGreatDoor.PAll Go.Proofs.YtlomjbfhalmalaaGreatDoorW.PrintWords
end Go.Proofs.YtlomjbfhalmalaaGreatDoor.C
set_option linter.unusedVariables false
set_option linter.unusedSimpArgs false
namespace Go.Proofs.YtlomjbfhalmalaaGreatDoor.C
open Go Go.RowKit Go.Proofs.YtlomjbfhalmalaaGreatDoor.M
end Go.Proofs.YtlomjbfhalmalaaGreatDoor.C
set_option linter.unusedVariables false
set_option linter.unusedSimpArgs false
namespace Go.Proofs.YtlomjbfhalmalaaGreatDoor.C
open Go Go.RowKit Go.Proofs.YtlomjbfhalmalaaGreatDoor.M
end Go.Proofs.YtlomjbfhalmalaaGreatDoor.C
set_option linter.unusedVariables false
set_option linter.unusedSimpArgs false
namespace Go.Proofs.YtlomjbfhalmalaaGreatDoor.C
open Go Go.RowKit Go.Proofs.YtlomjbfhalmalaaGreatDoor.M
end Go.Proofs.YtlomjbfhalmalaaGreatDoor.C
set_option linter.unusedVariables false
set_option linter.unusedSimpArgs false
namespace Go.Proofs.YtlomjbfhalmalaaGreatDoor.E
open Go Go.RowKit Go.Extern.Stop Go.Stop Go.Extern
end Go.Proofs.YtlomjbfhalmalaaGreatDoor.E
set_option linter.unusedVariables false
set_option linter.unusedSimpArgs false
namespace Go.Proofs.YtlomjbfhalmalaaGreatDoor.E
open Go Go.RowKit Go.Extern.Stop Go.Stop Go.Extern
end Go.Proofs.YtlomjbfhalmalaaGreatDoor.E
set_option linter.unusedVariables false
set_option linter.unusedSimpArgs false
namespace Go.Proofs.YtlomjbfhalmalaaGreatDoor.E
open Go Go.RowKit
end Go.Proofs.YtlomjbfhalmalaaGreatDoor.E
set_option linter.unusedVariables false
set_option linter.unusedSimpArgs false
namespace Go.Proofs.YtlomjbfhalmalaaGreatDoor.C
open Go Go.RowKit Go.Proofs.YtlomjbfhalmalaaGreatDoor.M Go.Proofs.YtlomjbfhalmalaaGreatDoor.E
end Go.Proofs.YtlomjbfhalmalaaGreatDoor.C
set_option linter.unusedVariables false
set_option linter.unusedSimpArgs false
namespace Go.Proofs.YtlomjbfhalmalaaGreatDoor.C
open Go Go.RowKit Go.Proofs.YtlomjbfhalmalaaGreatDoor.M Go.Proofs.YtlomjbfhalmalaaGreatDoor.PAll Go.Proofs.YtlomjbfhalmalaaGreatDoorW.PrintWords
section
end
section
end
end Go.Proofs.YtlomjbfhalmalaaGreatDoor.C
set_option linter.unusedVariables false
set_option linter.unusedSimpArgs false
namespace Go.Proofs.YtlomjbfhalmalaaGreatDoor.C
open Go Go.RowKit Go.Proofs.YtlomjbfhalmalaaGreatDoor.M Go.Proofs.YtlomjbfhalmalaaGreatDoor.E Go.Proofs.YtlomjbfhalmalaaGreatDoor.PAll Go.Proofs.YtlomjbfhalmalaaGreatDoorW.PrintWords
end Go.Proofs.YtlomjbfhalmalaaGreatDoor.C
set_option linter.unusedVariables false
set_option linter.unusedSimpArgs false
namespace Go.Proofs.YtlomjbfhalmalaaGreatDoor.C
open Go Go.RowKit Go.Proofs.YtlomjbfhalmalaaGreatDoor.M Go.Proofs.YtlomjbfhalmalaaGreatDoor.E Go.Proofs.YtlomjbfhalmalaaGreatDoor.PAll Go.Proofs.YtlomjbfhalmalaaGreatDoorW.PrintWords
end Go.Proofs.YtlomjbfhalmalaaGreatDoor.C
set_option linter.unusedVariables false
set_option linter.unusedSimpArgs false
namespace Go.Proofs.YtlomjbfhalmalaaGreatDoor.C
open Go Go.RowKit Go.Proofs.YtlomjbfhalmalaaGreatDoor.M Go.Proofs.YtlomjbfhalmalaaGreatDoor.E Go.Proofs.YtlomjbfhalmalaaGreatDoor.PAll Go.Proofs.YtlomjbfhalmalaaGreatDoorW.PrintWords
end Go.Proofs.YtlomjbfhalmalaaGreatDoor.C
set_option linter.unusedVariables false
set_option linter.unusedSimpArgs false
namespace Go.Proofs.YtlomjbfhalmalaaGreatDoor.C
open Go Go.RowKit Go.Proofs.YtlomjbfhalmalaaGreatDoor.M Go.Proofs.YtlomjbfhalmalaaGreatDoor.E Go.Proofs.YtlomjbfhalmalaaGreatDoor.PAll Go.Proofs.YtlomjbfhalmalaaGreatDoorW.PrintWords
end Go.Proofs.YtlomjbfhalmalaaGreatDoor.C
set_option linter.unusedVariables false
set_option linter.unusedSimpArgs false
namespace Go.Proofs.YtlomjbfhalmalaaGreatDoor.C
open Go Go.RowKit Go.Proofs.YtlomjbfhalmalaaGreatDoor.M Go.Proofs.YtlomjbfhalmalaaGreatDoor.E Go.Proofs.YtlomjbfhalmalaaGreatDoor.PAll Go.Proofs.YtlomjbfhalmalaaGreatDoorW.PrintWords
end Go.Proofs.YtlomjbfhalmalaaGreatDoor.C
set_option linter.unusedVariables false
namespace Go.Proofs.YtlomjbfhalmalaaGreatDoor.Z
open Go Go.RowKit
namespace Keeps
end Keeps
end Go.Proofs.YtlomjbfhalmalaaGreatDoor.Z
set_option linter.unusedVariables false
set_option linter.unusedSimpArgs false
namespace Go.Proofs.YtlomjbfhalmalaaGreatDoor.C
open Go Go.RowKit Go.Shelf Go.Proofs.YtlomjbfhalmalaaGreatDoor.M Go.Proofs.YtlomjbfhalmalaaGreatDoor.Z
attribute [local go_sem] Oper.semAt_some
end Go.Proofs.YtlomjbfhalmalaaGreatDoor.C
set_option linter.unusedVariables false
set_option linter.unusedSimpArgs false
namespace Go.Proofs.YtlomjbfhalmalaaGreatDoor.C
open Go Go.RowKit Go.Proofs.YtlomjbfhalmalaaGreatDoor.M Go.Proofs.YtlomjbfhalmalaaGreatDoor.E
end Go.Proofs.YtlomjbfhalmalaaGreatDoor.C
set_option linter.unusedVariables false
set_option linter.unusedSimpArgs false
namespace Go.Proofs.YtlomjbfhalmalaaGreatDoor.C
open Go Go.RowKit Go.Shelf Go.Proofs.YtlomjbfhalmalaaGreatDoor.M Go.Proofs.YtlomjbfhalmalaaGreatDoor.Z
attribute [local go_sem] Oper.semAt_some
end Go.Proofs.YtlomjbfhalmalaaGreatDoor.C
set_option linter.unusedVariables false
set_option linter.unusedSimpArgs false
namespace Go.Proofs.YtlomjbfhalmalaaGreatDoor.C
open Go Go.RowKit Go.Shelf Go.Proofs.YtlomjbfhalmalaaGreatDoor.M Go.Proofs.YtlomjbfhalmalaaGreatDoor.Z
section
end
end Go.Proofs.YtlomjbfhalmalaaGreatDoor.C
set_option linter.unusedVariables false
set_option linter.unusedSimpArgs false
namespace Go.Proofs.YtlomjbfhalmalaaGreatDoor.C
open Go Go.RowKit Go.Shelf Go.Proofs.YtlomjbfhalmalaaGreatDoor.M Go.Proofs.YtlomjbfhalmalaaGreatDoor.Z
attribute [local go_sem] Oper.semAt_some
end Go.Proofs.YtlomjbfhalmalaaGreatDoor.C
set_option linter.unusedVariables false
set_option linter.unusedSimpArgs false
namespace Go.Proofs.YtlomjbfhalmalaaGreatDoor.C
open Go Go.RowKit Go.Shelf Go.Proofs.YtlomjbfhalmalaaGreatDoor.M Go.Proofs.YtlomjbfhalmalaaGreatDoor.Z Go.Proofs.YtlomjbfhalmalaaGreatDoor.PAll Go.Proofs.YtlomjbfhalmalaaGreatDoorW.PrintWords
end Go.Proofs.YtlomjbfhalmalaaGreatDoor.C
set_option linter.unusedVariables false
set_option linter.unusedSimpArgs false
namespace Go.Proofs.YtlomjbfhalmalaaGreatDoor.C
open Go Go.RowKit Go.Shelf Go.Proofs.YtlomjbfhalmalaaGreatDoor.M Go.Proofs.YtlomjbfhalmalaaGreatDoor.Z
end Go.Proofs.YtlomjbfhalmalaaGreatDoor.C
set_option linter.unusedVariables false
set_option linter.unusedSimpArgs false
namespace Go.Proofs.YtlomjbfhalmalaaGreatDoor.C
open Go Go.RowKit Go.Shelf Go.Proofs.YtlomjbfhalmalaaGreatDoor.M Go.Proofs.YtlomjbfhalmalaaGreatDoor.Z
end Go.Proofs.YtlomjbfhalmalaaGreatDoor.C
set_option linter.unusedVariables false
set_option linter.unusedSimpArgs false
namespace Go.Proofs.YtlomjbfhalmalaaGreatDoor.C
open Go Go.RowKit Go.Shelf Go.Proofs.YtlomjbfhalmalaaGreatDoor.M Go.Proofs.YtlomjbfhalmalaaGreatDoor.Z
end Go.Proofs.YtlomjbfhalmalaaGreatDoor.C
