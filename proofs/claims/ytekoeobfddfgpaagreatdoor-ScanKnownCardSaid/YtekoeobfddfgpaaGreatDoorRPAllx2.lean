/-
  Of this seat's texts what the claim wants (printed by a program): PAllx2.
-/
import Derived.Test.YtekoeobfddfgpaaGreatDoorRPAllx0
namespace Go.Proofs.YtekoeobfddfgpaaGreatDoor.PAll
open Go.RowKit Go.Proofs.YtekoeobfddfgpaaGreatDoorW.PrintWords Go.Proofs.YtekoeobfddfgpaaGreatDoorW.PrintLast Go.Proofs.YtekoeobfddfgpaaGreatDoorW.PrintMore
attribute [local go_sem] max2_int min2_int max_two min_two max_three min_three max_four min_four   -- for this text's walks alone
set_option linter.unusedVariables false
set_option linter.unusedSimpArgs false
def glossarylaw05_small.f (a0 : ByteArray) : Option (Bool) := if (a0.size : Int) ≤ 20000 then (some true) else (some (decide ((a0.size : Int) > 1048576)))
set_option maxHeartbeats 8000000 in
set_option maxRecDepth 100000 in
theorem glossarylaw05_small.calls (a0 : ByteArray) (r : Bool) (w : World) (h : glossarylaw05_small.f a0 = some r) :
    Calls Tryz.prog 5 #[.string a0] w fun e w' => e = .returned (.bool r) ∧ Drawn0 w w' := by
  have H : (if (a0.size : Int) ≤ 20000 then (some true) else (some (decide ((a0.size : Int) > 1048576)))) = some r := h
  clear h
  by_cases c2 : (a0.size : Int) ≤ 20000
  · rw [if_pos c2] at H
    have c2b0 : decide ((a0.size : Int) ≤ 20000) = true := decide_eq_true c2
    have c2b1 : decide (a0.size ≤ 20000) = true := decide_eq_true (by omega)
    clear c2
    obtain rfl := Option.some.inj H
    go_enter Tryz.func5, Tryz.ntmps5
    go_wp2
    go_ret
    exact ⟨by first | rfl | (simp; done) | (simp [*]; done), by repeat (first | exact Drawn0.refl _ | apply Drawn0.step)⟩
  · rw [if_neg c2] at H
    have c2b0 : decide ((a0.size : Int) ≤ 20000) = false := decide_eq_false c2
    have c2b1 : decide (a0.size ≤ 20000) = false := decide_eq_false (by omega)
    clear c2
    obtain rfl := Option.some.inj H
    go_enter Tryz.func5, Tryz.ntmps5
    go_wp2
    go_ret
    exact ⟨by first | rfl | (simp; done) | (simp [*]; done), by repeat (first | exact Drawn0.refl _ | apply Drawn0.step)⟩
end Go.Proofs.YtekoeobfddfgpaaGreatDoor.PAll
