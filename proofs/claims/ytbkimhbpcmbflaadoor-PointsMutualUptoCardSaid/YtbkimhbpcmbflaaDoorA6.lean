/-
  glossarykit.Num, Place, At: at an api.Fault and at nil.
-/
import Derived.Test.YtbkimhbpcmbflaaDoorA5
import Derived.Deep.RegionHeld3
set_option linter.unusedVariables false
set_option linter.unusedSimpArgs false
namespace Go.Proofs.YtbkimhbpcmbflaaDoor.E
open Go Go.RowKit

set_option maxHeartbeats 4000000 in
set_option maxRecDepth 1000000 in
theorem num_fault (no line at_ : Int) (w : World) (h1 : 1 ≤ no) (h2 : no ≤ 25) :
    Calls Tryd.prog 84 #[flt no line at_] w fun e w' => e = .returned (.int .i64 no) ∧ Below w.heap.size w w' := by
  have cI := is_fault no line at_
  have hn0 : (no == 0) = false := beq_eq_false_iff_ne.2 (by omega)
  go_enter Tryd.func84, Tryd.ntmps84
  go_wp2
  go_loopw [3, 4] (fun f v wr => ∃ n : Nat, 1 ≤ n ∧ n ≤ 26 ∧ v = .int .i64 n ∧ f = .int .i64 (if no < n then no else 0) ∧ Below w.heap.size w wr) (fun _ v _ => 26 - (intOf v).toNat)
  case atStart => exact ⟨1, by omega, by omega, rfl, by rw [if_neg (by omega)], Below.refl _ _⟩
  case round =>
    obtain ⟨n, hn1, hn2, rfl, rfl, hbw⟩ := hrel
    by_cases hlt : n ≤ 25
    · have hltI : (n : Int) ≤ 25 := by omega
      have hbs := hbw.size
      by_cases he : no = n
      · have e1 : (if no < (n : Int) then no else 0) = 0 := if_neg (by omega)
        have e2 : (if no < ((n : Int) + 1) then no else 0) = (n : Int) := by rw [if_pos (by omega)]; exact he
        have E2 := Lib.hid e2
        have cI2 : ∀ W, Calls Tryd.prog 114 #[flt no line at_, erno n] W fun e w' => e = .returned (.bool true) ∧ Below W.heap.size W w' := fun W => by
          have := cI n W
          rw [show (no == (n : Int)) = true from beq_iff_eq.2 he] at this
          exact this
        rw [e1]
        clear e1 e2 he cI hn0
        go_wp2_with (go_at_call 114; refine (cI2 _).mono ?_; rintro e w' ⟨rfl, hb⟩)
        go_roundw
        case rel => exact ⟨n + 1, by omega, by omega, by go_num, by rw [show ((n + 1 : Nat) : Int) = (n : Int) + 1 by omega, E2.out], hbw.trans (hb.mono hbs)⟩
        case measure => simp [intOf]; omega
      · have cI2 : ∀ W, Calls Tryd.prog 114 #[flt no line at_, erno n] W fun e w' => e = .returned (.bool false) ∧ Below W.heap.size W w' := fun W => by
          have := cI n W
          rw [show (no == (n : Int)) = false from beq_eq_false_iff_ne.2 he] at this
          exact this
        have e2 : (if no < ((n : Int) + 1) then no else 0) = (if no < (n : Int) then no else 0) := by
          by_cases h : no < n
          · rw [if_pos h, if_pos (by omega)]
          · rw [if_neg h, if_neg (by omega)]
        have E2 := Lib.hid e2
        clear e2 he cI hn0
        go_wp2_with (go_at_call 114; refine (cI2 _).mono ?_; rintro e w' ⟨rfl, hb⟩)
        go_roundw
        case rel => exact ⟨n + 1, by omega, by omega, by go_num, by rw [show ((n + 1 : Nat) : Int) = (n : Int) + 1 by omega, E2.out], hbw.trans (hb.mono hbs)⟩
        case measure => simp [intOf]; omega
    · obtain rfl : n = 26 := by omega
      have e1 : (if no < ((26 : Nat) : Int) then no else 0) = no := if_pos (by omega)
      have cI2 : ∀ W, Calls Tryd.prog 114 #[flt no line at_, erno 0] W fun e w' => e = .returned (.bool false) ∧ Below W.heap.size W w' := fun W => by
        have := cI 0 W
        rw [hn0] at this
        exact this
      have hbs := hbw.size
      rw [e1]
      clear e1 cI
      go_wp2_with (go_at_call 114; refine (cI2 _).mono ?_; rintro e w' ⟨rfl, hb⟩)
      go_ret
      exact ⟨rfl, hbw.trans (hb.mono hbs)⟩

set_option maxHeartbeats 4000000 in
set_option maxRecDepth 1000000 in
theorem place_fault (no line at_ : Int) (w : World) (h1 : 1 ≤ no) (h2 : no ≤ 25) (hg : w.cell? ⟨2, 0, none⟩ = some (.iface 146 (.agg #[.pointer (some ⟨4, 33, none⟩)]))) :
    Calls Tryd.prog 83 #[flt no line at_] w fun e w' => e = .returned (.tuple #[.int .i64 line, .int .i64 at_, .bool true]) ∧ Below w.heap.size w w' := by
  have hlt : 2 < w.heap.size := by
    rcases Nat.lt_or_ge 2 w.heap.size with h | h
    · exact h
    · simp [World.cell?, Array.getElem?_eq_none h] at hg
  have cA := as_fault w.heap.size #[.int .i64 0, .int .i64 0, .int .i64 0] no line at_ (w.alloc (.cells #[.int .i64 0, .int .i64 0, .int .i64 0] 81)) ((World.cell?_alloc_lt _ _ ⟨2, 0, none⟩ hlt).trans hg) (heap_alloc_new _ _) rfl
  have cN := num_fault no line at_
  have e0 : (no == no) = true := by simp
  clear hg
  go_enter Tryd.func83, Tryd.ntmps83
  go_wp2_with (go_at_call 113; refine cA.mono ?_; rintro e w2 ⟨rfl, hblk, hgr⟩)
  have hbs : w.heap.size < w2.heap.size := (Array.getElem?_eq_some_iff.1 hblk).1
  have hb2 : Below w.heap.size w w2 := ((Below.refl _ w).alloc (Nat.le_refl _) _).grown hgr (by simp) (fun k hk => by cases hk; exact Nat.le_refl _)
  have k0 : w2.cell? ⟨w.heap.size, 0, none⟩ = some (.int .i64 no) := cell_of_row _ _ _ _ _ _ hblk
  have k1 : w2.cell? ⟨w.heap.size, 1, none⟩ = some (.int .i64 line) := cell_of_row _ _ _ _ _ _ hblk
  have k2 : w2.cell? ⟨w.heap.size, 2, none⟩ = some (.int .i64 at_) := cell_of_row _ _ _ _ _ _ hblk
  clear hblk hgr cA
  have cNS : ∀ W : World, (w2.heap.size ≤ W.heap.size ∧ Below w.heap.size w W ∧ W.cell? ⟨w.heap.size, 0, none⟩ = some (.int .i64 no) ∧ W.cell? ⟨w.heap.size, 1, none⟩ = some (.int .i64 line) ∧ W.cell? ⟨w.heap.size, 2, none⟩ = some (.int .i64 at_)) →
      Calls Tryd.prog 84 #[flt no line at_] W fun e w3 => e = .returned (.int .i64 no) ∧ (w2.heap.size ≤ w3.heap.size ∧ Below w.heap.size w w3 ∧ w3.cell? ⟨w.heap.size, 0, none⟩ = some (.int .i64 no) ∧ w3.cell? ⟨w.heap.size, 1, none⟩ = some (.int .i64 line) ∧ w3.cell? ⟨w.heap.size, 2, none⟩ = some (.int .i64 at_)) := fun W ⟨s1, s2, s3, s4, s5⟩ =>
    (cN W h1 h2).mono fun e w3 ⟨he, hb3⟩ => ⟨he, Nat.le_trans s1 hb3.size, s2.trans (hb3.mono (by omega)), (hb3.cell (p := ⟨w.heap.size, 0, none⟩) (by show w.heap.size < W.heap.size; omega)).trans s3, (hb3.cell (p := ⟨w.heap.size, 1, none⟩) (by show w.heap.size < W.heap.size; omega)).trans s4, (hb3.cell (p := ⟨w.heap.size, 2, none⟩) (by show w.heap.size < W.heap.size; omega)).trans s5⟩
  have hb2d : Below w.heap.size w w2.drew := hb2.drew
  clear cN
  go_wp2
  go_region_held3 (fun W => w2.heap.size ≤ W.heap.size ∧ Below w.heap.size w W ∧ W.cell? ⟨w.heap.size, 0, none⟩ = some (.int .i64 no) ∧ W.cell? ⟨w.heap.size, 1, none⟩ = some (.int .i64 line) ∧ W.cell? ⟨w.heap.size, 2, none⟩ = some (.int .i64 at_)) (first | exact ⟨by assumption, by assumption, by assumption, by assumption, by assumption⟩ | exact ⟨Nat.le_refl _, by assumption, by assumption, by assumption, by assumption⟩)
    (first | (go_at_call 84; refine (cNS _ ?_).mono ?_; (first | exact ⟨by assumption, by assumption, by assumption, by assumption, by assumption⟩ | exact ⟨Nat.le_refl _, by assumption, by assumption, by assumption, by assumption⟩); rintro e w3 ⟨rfl, s1, s2, s3, s4, s5⟩))
  all_goals go_wp2
  all_goals go_ret3
  all_goals exact ⟨rfl, s2⟩

set_option maxHeartbeats 4000000 in
set_option maxRecDepth 1000000 in
/-- At: the number and the place of a Fault are its own. -/
theorem at_fault (no line at_ : Int) (w : World) (h1 : 1 ≤ no) (h2 : no ≤ 25) (hg : w.cell? ⟨2, 0, none⟩ = some (.iface 146 (.agg #[.pointer (some ⟨4, 33, none⟩)]))) :
    Calls Tryd.prog 33 #[flt no line at_, .int .i64 no, .int .i64 line, .int .i64 at_] w fun e w' => e = .returned (.bool true) ∧ Below w.heap.size w w' := by
  have cP := place_fault no line at_ w h1 h2 hg
  have cN := num_fault no line at_
  have n0 : (no == 0) = false := beq_eq_false_iff_ne.2 (by omega)
  have e0 : (no == no) = true := by simp
  have e1 : (line == line) = true := by simp
  have e2 : (at_ == at_) = true := by simp
  clear hg
  go_enter Tryd.func33, Tryd.ntmps33
  go_wp2_with (first | (go_at_call 83; refine cP.mono ?_; rintro e w2 ⟨rfl, hb⟩) | (go_at_call 84; refine (cN _ h1 h2).mono ?_; rintro e w3 ⟨rfl, hb3⟩))
  go_ret
  exact ⟨rfl, hb.trans (hb3.mono hb.size)⟩
end Go.Proofs.YtbkimhbpcmbflaaDoor.E
