/-
  glossarylaw02.placed: all answers about a number are the document's.
-/
import Derived.Test.YtbkimhbpcmbflaaDoorK8
set_option linter.unusedVariables false
set_option linter.unusedSimpArgs false
namespace Go.Proofs.YtbkimhbpcmbflaaDoor.C
open Go Go.RowKit Go.Proofs.YtbkimhbpcmbflaaDoor.M Go.Proofs.YtbkimhbpcmbflaaDoor.E Go.Proofs.YtbkimhbpcmbflaaDoor.PAll Go.Proofs.YtbkimhbpcmbflaaDoorW.PrintWords

def Sp (w W : World) (B p : Nat) (us : List (List UInt8)) : Prop := PL W B p us ∧ Below w.heap.size w W
theorem Sp.next {w W w' : World} {B p : Nat} {us : List (List UInt8)} (h : Sp w W B p us) (hB : B ≤ w.heap.size) (hb : Below W.heap.size W w') : Sp w w' B p us :=
  ⟨h.1.below hb (Nat.le_trans hB h.2.size), h.2.trans (hb.mono h.2.size)⟩

set_option maxHeartbeats 2000000 in
set_option maxRecDepth 1000000 in
theorem placed_any (w : World) (B p : Nat) (s : ByteArray) (h : PL w B p (sfx (bl s))) (hB : B ≤ w.heap.size) (hs : s.size ≤ 1048576) (n : Int) :
    Calls Tryd.prog 65 #[.pointer (some ⟨p, 0, none⟩), .string s, .int .i64 n] w fun e w' => e = .returned (.bool true) ∧ Below w.heap.size w w' := by
  have hS : Sp w w B p (sfx (bl s)) := ⟨h, Below.refl _ _⟩
  have hl : (bl s).length ≤ 1048576 := by rw [bl_len]; exact hs
  have hsl := sfx_len (bl s)
  obtain ⟨k1, u, hu, hk1⟩ := unit_ref s (by omega) n
  obtain ⟨k2, hk2⟩ := byte_ref s (by omega) n
  obtain ⟨k3, hk3⟩ := wide_ref s hs n u hu
  obtain ⟨k4, hk4⟩ := line_ref s hs n u hu
  have c101 := fun W (h : Sp w W B p (sfx (bl s))) => (glossaryref02_Unit.calls k1 s n _ _ W hk1).mono (R' := fun e w' => e = .returned (.tuple #[.int .i64 (u : Nat), .int .i64 (off (sfx (bl s)) u : Nat)]) ∧ Sp w w' B p (sfx (bl s))) (fun e w' ⟨he, hd⟩ => ⟨he, h.next hB hd.below⟩)
  have c64 := fun W (h : Sp w W B p (sfx (bl s))) => (unit_any W B p (bl s) h.1 hl n).mono (R' := fun e w' => e = .returned (.tuple #[.int .i64 (u : Nat), .bool ((off (sfx (bl s)) u : Int) == (clampA (bl s).length n : Int))]) ∧ Sp w w' B p (sfx (bl s))) (fun e w' ⟨j, hj, he, hb⟩ => by
    obtain rfl := hj.unique hu
    exact ⟨he, h.next hB hb⟩)
  have c102 := fun W (h : Sp w W B p (sfx (bl s))) => (glossaryref02_Line.calls k4 s n (lfold 1 1 ((pts (bl s)).take u)).1 (lfold 1 1 ((pts (bl s)).take u)).2 W hk4).mono (R' := fun e w' => e = .returned (.tuple #[.int .i64 (lfold 1 1 ((pts (bl s)).take u)).1, .int .i64 (lfold 1 1 ((pts (bl s)).take u)).2]) ∧ Sp w w' B p (sfx (bl s))) (fun e w' ⟨he, hd⟩ => ⟨he, h.next hB hd⟩)
  have c103 := fun W (h : Sp w W B p (sfx (bl s))) => (line_any W B p (bl s) h.1 (Nat.le_trans hB h.2.size) hl n u hu).mono (R' := fun e w' => e = .returned (.tuple #[.int .i64 (lfold 1 1 ((pts (bl s)).take u)).1, .int .i64 (lfold 1 1 ((pts (bl s)).take u)).2]) ∧ Sp w w' B p (sfx (bl s))) (fun e w' ⟨he, hd⟩ => ⟨he, h.next hB hd⟩)
  have c55 := fun W (h : Sp w W B p (sfx (bl s))) => (byte_any W B p (sfx (bl s)) h.1 (by omega) n).mono (R' := fun e w' => e = .returned (.int .i64 (off (sfx (bl s)) (clampN (sfx (bl s)).length n) : Nat)) ∧ Sp w w' B p (sfx (bl s))) (fun e w' ⟨he, hd⟩ => ⟨he, h.next hB hd⟩)
  have c104 := fun W (h : Sp w W B p (sfx (bl s))) => (glossaryref02_Byte.calls k2 s n _ W hk2).mono (R' := fun e w' => e = .returned (.int .i64 (off (sfx (bl s)) (clampN (sfx (bl s)).length n) : Nat)) ∧ Sp w w' B p (sfx (bl s))) (fun e w' ⟨he, hd⟩ => ⟨he, h.next hB hd.below⟩)
  have c62 := fun W (h : Sp w W B p (sfx (bl s))) => (wide_any W B p (bl s) h.1 (Nat.le_trans hB h.2.size) hl n u hu).mono (R' := fun e w' => e = .returned (.int .i64 (wsum ((pts (bl s)).take u))) ∧ Sp w w' B p (sfx (bl s))) (fun e w' ⟨he, hd⟩ => ⟨he, h.next hB hd⟩)
  have c105 := fun W (h : Sp w W B p (sfx (bl s))) => (glossaryref02_Wide.calls k3 s n _ W hk3).mono (R' := fun e w' => e = .returned (.int .i64 (wsum ((pts (bl s)).take u))) ∧ Sp w w' B p (sfx (bl s))) (fun e w' ⟨he, hd⟩ => ⟨he, h.next hB hd⟩)
  have hcases : (n < 0 ∧ ((off (sfx (bl s)) u : Int) == (clampA (bl s).length n : Int)) = true) ∨ (0 ≤ n ∧ (s.size : Int) ≤ n ∧ ((off (sfx (bl s)) u : Int) == (clampA (bl s).length n : Int)) = true) ∨ (0 ≤ n ∧ n < (s.size : Int) ∧ ((off (sfx (bl s)) u : Int) == (clampA (bl s).length n : Int)) = ((off (sfx (bl s)) u : Int) == n)) := by
    have hbl := bl_len s
    have hol := off_le (bl s) hu.1
    by_cases h0 : n < 0
    · left
      refine ⟨h0, ?_⟩
      have : u = 0 := by
        rcases hu.2.1 with h | h <;> omega
      rw [this, off_zero]
      have : clampA (bl s).length n = 0 := by unfold clampA; omega
      rw [this]; rfl
    · by_cases h1 : (s.size : Int) ≤ n
      · right; left
        refine ⟨by omega, h1, ?_⟩
        have e1 : clampA (bl s).length n = (bl s).length := by unfold clampA; omega
        have e2 : u = (sfx (bl s)).length := by
          rcases Nat.lt_or_ge u (sfx (bl s)).length with h | h
          · have h2 := hu.2.2 h
            have h3 := off_le (bl s) (i := u + 1) (by omega)
            omega
          · have := hu.1; omega
        rw [e1, e2, off_total]
        simp
      · right; right
        refine ⟨by omega, by omega, ?_⟩
        have e1 : (clampA (bl s).length n : Int) = n := by unfold clampA; omega
        rw [e1]
  clear hk1 hk2 hk3 hk4 hl hsl h hu
  generalize off (sfx (bl s)) (clampN (sfx (bl s)).length n) = z1 at c55 c104
  generalize wsum ((pts (bl s)).take u) = z2 at c62 c105
  generalize (lfold 1 1 ((pts (bl s)).take u)).1 = z3 at c102 c103
  generalize (lfold 1 1 ((pts (bl s)).take u)).2 = z4 at c102 c103
  generalize ((off (sfx (bl s)) u : Int) == (clampA (bl s).length n : Int)) = ok at c64 hcases
  generalize off (sfx (bl s)) u = z5 at c101 hcases
  generalize sfx (bl s) = us at c101 c64 c102 c103 c55 c104 c62 c105 hS
  have r0 : ((u : Int) == (u : Int)) = true := by simp
  rcases hcases with ⟨d1, d2⟩ | ⟨d1, d2, d3⟩ | ⟨d1, d2, d3⟩
  · subst d2
    go_enter Tryd.func65, Tryd.ntmps65
    go_wp2_with (first | (go_at_call 101; refine (c101 _ (by assumption)).mono ?_; rintro e w1 ⟨rfl, hS1⟩) | (go_at_call 64; refine (c64 _ (by assumption)).mono ?_; rintro e w1 ⟨rfl, hS1⟩) | (go_at_call 102; refine (c102 _ (by assumption)).mono ?_; rintro e w1 ⟨rfl, hS1⟩) | (go_at_call 103; refine (c103 _ (by assumption)).mono ?_; rintro e w1 ⟨rfl, hS1⟩) | (go_at_call 55; refine (c55 _ (by assumption)).mono ?_; rintro e w1 ⟨rfl, hS1⟩) | (go_at_call 104; refine (c104 _ (by assumption)).mono ?_; rintro e w1 ⟨rfl, hS1⟩) | (go_at_call 62; refine (c62 _ (by assumption)).mono ?_; rintro e w1 ⟨rfl, hS1⟩) | (go_at_call 105; refine (c105 _ (by assumption)).mono ?_; rintro e w1 ⟨rfl, hS1⟩))
    go_ret
    exact ⟨rfl, by first | exact hS1.2⟩
  · subst d3
    go_enter Tryd.func65, Tryd.ntmps65
    go_wp2_with (first | (go_at_call 101; refine (c101 _ (by assumption)).mono ?_; rintro e w1 ⟨rfl, hS1⟩) | (go_at_call 64; refine (c64 _ (by assumption)).mono ?_; rintro e w1 ⟨rfl, hS1⟩) | (go_at_call 102; refine (c102 _ (by assumption)).mono ?_; rintro e w1 ⟨rfl, hS1⟩) | (go_at_call 103; refine (c103 _ (by assumption)).mono ?_; rintro e w1 ⟨rfl, hS1⟩) | (go_at_call 55; refine (c55 _ (by assumption)).mono ?_; rintro e w1 ⟨rfl, hS1⟩) | (go_at_call 104; refine (c104 _ (by assumption)).mono ?_; rintro e w1 ⟨rfl, hS1⟩) | (go_at_call 62; refine (c62 _ (by assumption)).mono ?_; rintro e w1 ⟨rfl, hS1⟩) | (go_at_call 105; refine (c105 _ (by assumption)).mono ?_; rintro e w1 ⟨rfl, hS1⟩))
    go_ret
    exact ⟨rfl, by first | exact hS1.2⟩
  · by_cases d4 : (z5 : Int) = n
    · subst d4
      have d5 : ok = true := by rw [d3]; simp
      subst d5
      clear d3
      go_enter Tryd.func65, Tryd.ntmps65
      go_wp2_with (first | (go_at_call 101; refine (c101 _ (by assumption)).mono ?_; rintro e w1 ⟨rfl, hS1⟩) | (go_at_call 64; refine (c64 _ (by assumption)).mono ?_; rintro e w1 ⟨rfl, hS1⟩) | (go_at_call 102; refine (c102 _ (by assumption)).mono ?_; rintro e w1 ⟨rfl, hS1⟩) | (go_at_call 103; refine (c103 _ (by assumption)).mono ?_; rintro e w1 ⟨rfl, hS1⟩) | (go_at_call 55; refine (c55 _ (by assumption)).mono ?_; rintro e w1 ⟨rfl, hS1⟩) | (go_at_call 104; refine (c104 _ (by assumption)).mono ?_; rintro e w1 ⟨rfl, hS1⟩) | (go_at_call 62; refine (c62 _ (by assumption)).mono ?_; rintro e w1 ⟨rfl, hS1⟩) | (go_at_call 105; refine (c105 _ (by assumption)).mono ?_; rintro e w1 ⟨rfl, hS1⟩))
      go_ret
      exact ⟨rfl, by first | exact hS1.2⟩
    · have d5 : ((z5 : Int) == n) = false := beq_eq_false_iff_ne.2 d4
      have d6 : ok = false := by rw [d3, d5]
      subst d6
      clear d3
      go_enter Tryd.func65, Tryd.ntmps65
      go_wp2_with (first | (go_at_call 101; refine (c101 _ (by assumption)).mono ?_; rintro e w1 ⟨rfl, hS1⟩) | (go_at_call 64; refine (c64 _ (by assumption)).mono ?_; rintro e w1 ⟨rfl, hS1⟩) | (go_at_call 102; refine (c102 _ (by assumption)).mono ?_; rintro e w1 ⟨rfl, hS1⟩) | (go_at_call 103; refine (c103 _ (by assumption)).mono ?_; rintro e w1 ⟨rfl, hS1⟩) | (go_at_call 55; refine (c55 _ (by assumption)).mono ?_; rintro e w1 ⟨rfl, hS1⟩) | (go_at_call 104; refine (c104 _ (by assumption)).mono ?_; rintro e w1 ⟨rfl, hS1⟩) | (go_at_call 62; refine (c62 _ (by assumption)).mono ?_; rintro e w1 ⟨rfl, hS1⟩) | (go_at_call 105; refine (c105 _ (by assumption)).mono ?_; rintro e w1 ⟨rfl, hS1⟩))
      go_ret
      exact ⟨rfl, by first | exact hS1.2⟩
end Go.Proofs.YtbkimhbpcmbflaaDoor.C
