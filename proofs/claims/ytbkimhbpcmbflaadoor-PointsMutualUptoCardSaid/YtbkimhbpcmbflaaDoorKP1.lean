/-
  K8, K9, K10, K11, K12, joined to one text.
-/
import Derived.Test.YtbkimhbpcmbflaaDoorK7
/-
  points.Places: Wide and Line.
-/
set_option linter.unusedVariables false
set_option linter.unusedSimpArgs false
namespace Go.Proofs.YtbkimhbpcmbflaaDoor.C
open Go Go.RowKit Go.Proofs.YtbkimhbpcmbflaaDoor.M Go.Proofs.YtbkimhbpcmbflaaDoor.E Go.Proofs.YtbkimhbpcmbflaaDoor.PAll Go.Proofs.YtbkimhbpcmbflaaDoorW.PrintWords

theorem qpts_take (l : List UInt8) (i : Nat) : qpts ((sfx l).take i) = (pts l).take i := by unfold qpts pts; rw [List.map_take]
set_option maxHeartbeats 1000000 in
set_option maxRecDepth 1000000 in
theorem wide_any (w : World) (B p : Nat) (l : List UInt8) (h : PL w B p (sfx l)) (hBw : B ≤ w.heap.size) (hl : l.length ≤ 1048576) (a : Int) (i : Nat) (hi : IsU l a i) :
    Calls Tryd.prog 62 #[.pointer (some ⟨p, 0, none⟩), .int .i64 a] w fun e w' => e = .returned (.int .i64 (wsum ((pts l).take i))) ∧ Below w.heap.size w w' := by
  have hsl := sfx_len l
  have cU := (unit_any w B p l h hl a).mono (R' := fun e w' => ∃ b, e = .returned (.tuple #[.int .i64 (i : Nat), .bool b]) ∧ PL w' B p (sfx l) ∧ Below w.heap.size w w') (fun e w' ⟨j, hj, he, hb⟩ => by
    obtain rfl := hj.unique hi
    exact ⟨_, he, h.below hb hBw, hb⟩)
  have e1 := (accQ_what ((sfx l).take i)).2.1
  rw [qpts_take] at e1
  rw [← e1]
  have hin := hi.1
  obtain ⟨n, hn⟩ : ∃ n, (sfx l).length = n := ⟨_, rfl⟩
  rw [hn] at hin
  go_enter Tryd.func62, Tryd.ntmps62
  go_wp2_with fail
  refine cU.mono ?_
  rintro e w1 ⟨b, rfl, hp, hb1⟩
  obtain ⟨g, cap, h1, h2, h3, h4, h5⟩ := hp
  have k1 := (h5 i (by omega)).2.1
  rw [hn] at h4
  clear h5 e1 hi cU
  go_wp2
  go_ret
  exact ⟨rfl, hb1⟩
set_option maxHeartbeats 1000000 in
set_option maxRecDepth 1000000 in
theorem line_any (w : World) (B p : Nat) (l : List UInt8) (h : PL w B p (sfx l)) (hBw : B ≤ w.heap.size) (hl : l.length ≤ 1048576) (a : Int) (i : Nat) (hi : IsU l a i) :
    Calls Tryd.prog 103 #[.pointer (some ⟨p, 0, none⟩), .int .i64 a] w fun e w' => e = .returned (.tuple #[.int .i64 (lfold 1 1 ((pts l).take i)).1, .int .i64 (lfold 1 1 ((pts l).take i)).2]) ∧ Below w.heap.size w w' := by
  have hsl := sfx_len l
  have cU := (unit_any w B p l h hl a).mono (R' := fun e w' => ∃ b, e = .returned (.tuple #[.int .i64 (i : Nat), .bool b]) ∧ PL w' B p (sfx l) ∧ Below w.heap.size w w') (fun e w' ⟨j, hj, he, hb⟩ => by
    obtain rfl := hj.unique hi
    exact ⟨_, he, h.below hb hBw, hb⟩)
  have e1 := (accQ_what ((sfx l).take i)).2.2
  have hin := hi.1
  rw [qpts_take, List.length_take, Nat.min_eq_left hin] at e1
  rw [e1]
  have hbd := accQ_bounds ((sfx l).take i)
  rw [List.length_take, Nat.min_eq_left hin] at hbd
  obtain ⟨-, -, b1, b2, b3, b4⟩ := hbd
  obtain ⟨n, hn⟩ : ∃ n, (sfx l).length = n := ⟨_, rfl⟩
  rw [hn] at hin
  have w1 : wrap64 ((accQ ((sfx l).take i)).2.ln + 1) = (accQ ((sfx l).take i)).2.ln + 1 := w64 (by omega) (by omega)
  show Calls _ _ _ _ fun e w' => e = .returned (.tuple #[.int .i64 ((accQ ((sfx l).take i)).2.ln + 1), .int .i64 ((i : Int) - (accQ ((sfx l).take i)).2.st + 1)]) ∧ Below w.heap.size w w'
  have hk : ∀ W : World, PL W B p (sfx l) → ∃ g cap, n + 1 ≤ cap ∧ W.cell? ⟨p, 0, none⟩ = some (.slice (some ⟨g, 0, none⟩) (n + 1) cap) ∧ W.cell? ⟨g, i * 4 + 2, none⟩ = some (.int .i64 (accQ ((sfx l).take i)).2.ln) ∧ W.cell? ⟨g, i * 4 + 3, none⟩ = some (.int .i64 (accQ ((sfx l).take i)).2.st) := fun W hp => by
    obtain ⟨g, cap, h1, h2, h3, h4, h5⟩ := hp
    obtain ⟨-, -, k2, k3⟩ := h5 i (by omega)
    rw [hn] at h4 h3
    exact ⟨g, cap, h3, h4, k2, k3⟩
  generalize (accQ ((sfx l).take i)).2.ln = x at b1 b2 hk w1 ⊢
  generalize (accQ ((sfx l).take i)).2.st = y at b3 b4 hk ⊢
  go_enter Tryd.func103, Tryd.ntmps103
  go_wp2_with fail
  refine cU.mono ?_
  rintro e w1 ⟨b, rfl, hp, hb1⟩
  obtain ⟨g, cap, h3, h4, k2, k3⟩ := hk _ hp
  clear e1 hi cU hk
  go_wp2_with fail
  go_quiet (fail)
  go_wp2
  go_ret2
  exact ⟨rfl, hb1.trans ((Drawn0.below ⟨⟨_, rfl⟩⟩).mono hb1.size)⟩
end Go.Proofs.YtbkimhbpcmbflaaDoor.C

/-
  glossarylaw02.placed: all answers about a number are the document's.
-/
set_option linter.unusedVariables false
set_option linter.unusedSimpArgs false
namespace Go.Proofs.YtbkimhbpcmbflaaDoor.C
open Go Go.RowKit Go.Proofs.YtbkimhbpcmbflaaDoor.M Go.Proofs.YtbkimhbpcmbflaaDoor.E Go.Proofs.YtbkimhbpcmbflaaDoor.PAll Go.Proofs.YtbkimhbpcmbflaaDoorW.PrintWords

def Sp (w W : World) (B p : Nat) (us : List (List UInt8)) : Prop := PL W B p us ∧ Below w.heap.size w W
theorem Sp.next {w W w' : World} {B p : Nat} {us : List (List UInt8)} (h : Sp w W B p us) (hB : B ≤ w.heap.size) (hb : Below W.heap.size W w') : Sp w w' B p us :=
  ⟨h.1.below hb (Nat.le_trans hB h.2.size), h.2.trans (hb.mono h.2.size)⟩

set_option maxHeartbeats 2000000 in
set_option maxRecDepth 1000000 in
theorem placed_any (w : World) (B p : Nat) (s : ByteArray) (h : PL w B p (sfx (bl s))) (hB : B ≤ w.heap.size) (hs : s.size ≤ 1048576) (n : Int) :
    Calls Tryd.prog 65 #[.pointer (some ⟨p, 0, none⟩), .string s, .int .i64 n] w fun e w' => e = .returned (.bool true) ∧ Below w.heap.size w w' := by
  have hS : Sp w w B p (sfx (bl s)) := ⟨h, Below.refl _ _⟩
  have hl : (bl s).length ≤ 1048576 := by rw [bl_len]; exact hs
  have hsl := sfx_len (bl s)
  obtain ⟨k1, u, hu, hk1⟩ := unit_ref s (by omega) n
  obtain ⟨k2, hk2⟩ := byte_ref s (by omega) n
  obtain ⟨k3, hk3⟩ := wide_ref s hs n u hu
  obtain ⟨k4, hk4⟩ := line_ref s hs n u hu
  have c101 := fun W (h : Sp w W B p (sfx (bl s))) => (glossaryref02_Unit.calls k1 s n _ _ W hk1).mono (R' := fun e w' => e = .returned (.tuple #[.int .i64 (u : Nat), .int .i64 (off (sfx (bl s)) u : Nat)]) ∧ Sp w w' B p (sfx (bl s))) (fun e w' ⟨he, hd⟩ => ⟨he, h.next hB hd.below⟩)
  have c64 := fun W (h : Sp w W B p (sfx (bl s))) => (unit_any W B p (bl s) h.1 hl n).mono (R' := fun e w' => e = .returned (.tuple #[.int .i64 (u : Nat), .bool ((off (sfx (bl s)) u : Int) == (clampA (bl s).length n : Int))]) ∧ Sp w w' B p (sfx (bl s))) (fun e w' ⟨j, hj, he, hb⟩ => by
    obtain rfl := hj.unique hu
    exact ⟨he, h.next hB hb⟩)
  have c102 := fun W (h : Sp w W B p (sfx (bl s))) => (glossaryref02_Line.calls k4 s n (lfold 1 1 ((pts (bl s)).take u)).1 (lfold 1 1 ((pts (bl s)).take u)).2 W hk4).mono (R' := fun e w' => e = .returned (.tuple #[.int .i64 (lfold 1 1 ((pts (bl s)).take u)).1, .int .i64 (lfold 1 1 ((pts (bl s)).take u)).2]) ∧ Sp w w' B p (sfx (bl s))) (fun e w' ⟨he, hd⟩ => ⟨he, h.next hB hd⟩)
  have c103 := fun W (h : Sp w W B p (sfx (bl s))) => (line_any W B p (bl s) h.1 (Nat.le_trans hB h.2.size) hl n u hu).mono (R' := fun e w' => e = .returned (.tuple #[.int .i64 (lfold 1 1 ((pts (bl s)).take u)).1, .int .i64 (lfold 1 1 ((pts (bl s)).take u)).2]) ∧ Sp w w' B p (sfx (bl s))) (fun e w' ⟨he, hd⟩ => ⟨he, h.next hB hd⟩)
  have c55 := fun W (h : Sp w W B p (sfx (bl s))) => (byte_any W B p (sfx (bl s)) h.1 (by omega) n).mono (R' := fun e w' => e = .returned (.int .i64 (off (sfx (bl s)) (clampN (sfx (bl s)).length n) : Nat)) ∧ Sp w w' B p (sfx (bl s))) (fun e w' ⟨he, hd⟩ => ⟨he, h.next hB hd⟩)
  have c104 := fun W (h : Sp w W B p (sfx (bl s))) => (glossaryref02_Byte.calls k2 s n _ W hk2).mono (R' := fun e w' => e = .returned (.int .i64 (off (sfx (bl s)) (clampN (sfx (bl s)).length n) : Nat)) ∧ Sp w w' B p (sfx (bl s))) (fun e w' ⟨he, hd⟩ => ⟨he, h.next hB hd.below⟩)
  have c62 := fun W (h : Sp w W B p (sfx (bl s))) => (wide_any W B p (bl s) h.1 (Nat.le_trans hB h.2.size) hl n u hu).mono (R' := fun e w' => e = .returned (.int .i64 (wsum ((pts (bl s)).take u))) ∧ Sp w w' B p (sfx (bl s))) (fun e w' ⟨he, hd⟩ => ⟨he, h.next hB hd⟩)
  have c105 := fun W (h : Sp w W B p (sfx (bl s))) => (glossaryref02_Wide.calls k3 s n _ W hk3).mono (R' := fun e w' => e = .returned (.int .i64 (wsum ((pts (bl s)).take u))) ∧ Sp w w' B p (sfx (bl s))) (fun e w' ⟨he, hd⟩ => ⟨he, h.next hB hd⟩)
  have hcases : (n < 0 ∧ ((off (sfx (bl s)) u : Int) == (clampA (bl s).length n : Int)) = true) ∨ (0 ≤ n ∧ (s.size : Int) ≤ n ∧ ((off (sfx (bl s)) u : Int) == (clampA (bl s).length n : Int)) = true) ∨ (0 ≤ n ∧ n < (s.size : Int) ∧ ((off (sfx (bl s)) u : Int) == (clampA (bl s).length n : Int)) = ((off (sfx (bl s)) u : Int) == n)) := by
    have hbl := bl_len s
    have hol := off_le (bl s) hu.1
    by_cases h0 : n < 0
    · left
      refine ⟨h0, ?_⟩
      have : u = 0 := by
        rcases hu.2.1 with h | h <;> omega
      rw [this, off_zero]
      have : clampA (bl s).length n = 0 := by unfold clampA; omega
      rw [this]; rfl
    · by_cases h1 : (s.size : Int) ≤ n
      · right; left
        refine ⟨by omega, h1, ?_⟩
        have e1 : clampA (bl s).length n = (bl s).length := by unfold clampA; omega
        have e2 : u = (sfx (bl s)).length := by
          rcases Nat.lt_or_ge u (sfx (bl s)).length with h | h
          · have h2 := hu.2.2 h
            have h3 := off_le (bl s) (i := u + 1) (by omega)
            omega
          · have := hu.1; omega
        rw [e1, e2, off_total]
        simp
      · right; right
        refine ⟨by omega, by omega, ?_⟩
        have e1 : (clampA (bl s).length n : Int) = n := by unfold clampA; omega
        rw [e1]
  clear hk1 hk2 hk3 hk4 hl hsl h hu
  generalize off (sfx (bl s)) (clampN (sfx (bl s)).length n) = z1 at c55 c104
  generalize wsum ((pts (bl s)).take u) = z2 at c62 c105
  generalize (lfold 1 1 ((pts (bl s)).take u)).1 = z3 at c102 c103
  generalize (lfold 1 1 ((pts (bl s)).take u)).2 = z4 at c102 c103
  generalize ((off (sfx (bl s)) u : Int) == (clampA (bl s).length n : Int)) = ok at c64 hcases
  generalize off (sfx (bl s)) u = z5 at c101 hcases
  generalize sfx (bl s) = us at c101 c64 c102 c103 c55 c104 c62 c105 hS
  have r0 : ((u : Int) == (u : Int)) = true := by simp
  rcases hcases with ⟨d1, d2⟩ | ⟨d1, d2, d3⟩ | ⟨d1, d2, d3⟩
  · subst d2
    go_enter Tryd.func65, Tryd.ntmps65
    go_wp2_with (first | (go_at_call 101; refine (c101 _ (by assumption)).mono ?_; rintro e w1 ⟨rfl, hS1⟩) | (go_at_call 64; refine (c64 _ (by assumption)).mono ?_; rintro e w1 ⟨rfl, hS1⟩) | (go_at_call 102; refine (c102 _ (by assumption)).mono ?_; rintro e w1 ⟨rfl, hS1⟩) | (go_at_call 103; refine (c103 _ (by assumption)).mono ?_; rintro e w1 ⟨rfl, hS1⟩) | (go_at_call 55; refine (c55 _ (by assumption)).mono ?_; rintro e w1 ⟨rfl, hS1⟩) | (go_at_call 104; refine (c104 _ (by assumption)).mono ?_; rintro e w1 ⟨rfl, hS1⟩) | (go_at_call 62; refine (c62 _ (by assumption)).mono ?_; rintro e w1 ⟨rfl, hS1⟩) | (go_at_call 105; refine (c105 _ (by assumption)).mono ?_; rintro e w1 ⟨rfl, hS1⟩))
    go_ret
    exact ⟨rfl, by first | exact hS1.2⟩
  · subst d3
    go_enter Tryd.func65, Tryd.ntmps65
    go_wp2_with (first | (go_at_call 101; refine (c101 _ (by assumption)).mono ?_; rintro e w1 ⟨rfl, hS1⟩) | (go_at_call 64; refine (c64 _ (by assumption)).mono ?_; rintro e w1 ⟨rfl, hS1⟩) | (go_at_call 102; refine (c102 _ (by assumption)).mono ?_; rintro e w1 ⟨rfl, hS1⟩) | (go_at_call 103; refine (c103 _ (by assumption)).mono ?_; rintro e w1 ⟨rfl, hS1⟩) | (go_at_call 55; refine (c55 _ (by assumption)).mono ?_; rintro e w1 ⟨rfl, hS1⟩) | (go_at_call 104; refine (c104 _ (by assumption)).mono ?_; rintro e w1 ⟨rfl, hS1⟩) | (go_at_call 62; refine (c62 _ (by assumption)).mono ?_; rintro e w1 ⟨rfl, hS1⟩) | (go_at_call 105; refine (c105 _ (by assumption)).mono ?_; rintro e w1 ⟨rfl, hS1⟩))
    go_ret
    exact ⟨rfl, by first | exact hS1.2⟩
  · by_cases d4 : (z5 : Int) = n
    · subst d4
      have d5 : ok = true := by rw [d3]; simp
      subst d5
      clear d3
      go_enter Tryd.func65, Tryd.ntmps65
      go_wp2_with (first | (go_at_call 101; refine (c101 _ (by assumption)).mono ?_; rintro e w1 ⟨rfl, hS1⟩) | (go_at_call 64; refine (c64 _ (by assumption)).mono ?_; rintro e w1 ⟨rfl, hS1⟩) | (go_at_call 102; refine (c102 _ (by assumption)).mono ?_; rintro e w1 ⟨rfl, hS1⟩) | (go_at_call 103; refine (c103 _ (by assumption)).mono ?_; rintro e w1 ⟨rfl, hS1⟩) | (go_at_call 55; refine (c55 _ (by assumption)).mono ?_; rintro e w1 ⟨rfl, hS1⟩) | (go_at_call 104; refine (c104 _ (by assumption)).mono ?_; rintro e w1 ⟨rfl, hS1⟩) | (go_at_call 62; refine (c62 _ (by assumption)).mono ?_; rintro e w1 ⟨rfl, hS1⟩) | (go_at_call 105; refine (c105 _ (by assumption)).mono ?_; rintro e w1 ⟨rfl, hS1⟩))
      go_ret
      exact ⟨rfl, by first | exact hS1.2⟩
    · have d5 : ((z5 : Int) == n) = false := beq_eq_false_iff_ne.2 d4
      have d6 : ok = false := by rw [d3, d5]
      subst d6
      clear d3
      go_enter Tryd.func65, Tryd.ntmps65
      go_wp2_with (first | (go_at_call 101; refine (c101 _ (by assumption)).mono ?_; rintro e w1 ⟨rfl, hS1⟩) | (go_at_call 64; refine (c64 _ (by assumption)).mono ?_; rintro e w1 ⟨rfl, hS1⟩) | (go_at_call 102; refine (c102 _ (by assumption)).mono ?_; rintro e w1 ⟨rfl, hS1⟩) | (go_at_call 103; refine (c103 _ (by assumption)).mono ?_; rintro e w1 ⟨rfl, hS1⟩) | (go_at_call 55; refine (c55 _ (by assumption)).mono ?_; rintro e w1 ⟨rfl, hS1⟩) | (go_at_call 104; refine (c104 _ (by assumption)).mono ?_; rintro e w1 ⟨rfl, hS1⟩) | (go_at_call 62; refine (c62 _ (by assumption)).mono ?_; rintro e w1 ⟨rfl, hS1⟩) | (go_at_call 105; refine (c105 _ (by assumption)).mono ?_; rintro e w1 ⟨rfl, hS1⟩))
      go_ret
      exact ⟨rfl, by first | exact hS1.2⟩
end Go.Proofs.YtbkimhbpcmbflaaDoor.C

/-
  The statement PointsPlaces, walked.
-/
set_option linter.unusedVariables false
set_option linter.unusedSimpArgs false
namespace Go.Proofs.YtbkimhbpcmbflaaDoor.C
open Go Go.RowKit Go.Proofs.YtbkimhbpcmbflaaDoor.M Go.Proofs.YtbkimhbpcmbflaaDoor.E Go.Proofs.YtbkimhbpcmbflaaDoor.PAll Go.Proofs.YtbkimhbpcmbflaaDoorW.PrintWords

def Sp2 (w W : World) (B p q : Nat) (us vs : List (List UInt8)) : Prop := PL W B p us ∧ PL W B q vs ∧ Below w.heap.size w W
theorem Sp2.next {w W w' : World} {B p q : Nat} {us vs : List (List UInt8)} (h : Sp2 w W B p q us vs) (hB : B ≤ w.heap.size) (hb : Below W.heap.size W w') : Sp2 w w' B p q us vs :=
  ⟨h.1.below hb (Nat.le_trans hB h.2.2.size), h.2.1.below hb (Nat.le_trans hB h.2.2.size), h.2.2.trans (hb.mono h.2.2.size)⟩
/-- Measure, as the others read it -/
theorem measure_PL (s : ByteArray) (w : World) (hT : Lib.Utf8Tabs 0 1 w) (hs : s.size ≤ 1048576) :
    Calls Tryd.prog 51 #[.string s] w fun e w' => ∃ p, e = .returned (.pointer (some ⟨p, 0, none⟩)) ∧ PL w' w'.heap.size p (sfx (bl s)) ∧ Below w.heap.size w w' :=
  (measure_any s w hT hs).mono fun e w' ⟨he, hb, v, h1, h2⟩ => ⟨_, he, PL_of h1 h2, hb⟩
theorem of_len (s : ByteArray) (W : World) (hs : s.size ≤ 1048576) : Calls Tryd.prog 24 #[.string s] W fun e w' => ∃ A c, e = .returned (.slice A (sfx (bl s)).length c) ∧ Below W.heap.size W w' := by
  obtain ⟨k, hk⟩ := of_ref s (by omega)
  refine (glossaryref02_Of.calls k s _ W hk).mono fun e w' ⟨v, he, hr, hb⟩ => ?_
  obtain ⟨A, c, rfl⟩ := Kd.R_slice hr
  have : (pts (bl s)).length = (sfx (bl s)).length := by unfold pts; rw [List.length_map]
  rw [this] at he
  exact ⟨A, c, he, hb⟩

set_option maxHeartbeats 2000000 in
set_option maxRecDepth 1000000 in
theorem PointsPlaces_of (w : World) (hT : Lib.Utf8Tabs 0 1 w) (hE : HE w) (s : ByteArray) (hs : s.size ≤ 1048576) (t : ByteArray) (ht : t.size ≤ 1048576) (A : Option Addr) (cap : Nat) (xs : List Int) (hl : xs.length ≤ 9223372036854775806) (hR : Rd w w.heap.size .i64 A xs) :
    Calls Tryd.prog 18 #[.string s, .string t, .slice A xs.length cap] w fun e w' => e = .returned (.bool true) ∧ Below w.heap.size w w' := by
  have hsl := sfx_len (bl s)
  have htl := sfx_len (bl t)
  rw [bl_len] at hsl htl
  have cM1 := measure_PL s w hT hs
  have cM2 := fun W (h : Lib.Utf8Tabs 0 1 W) => measure_PL t W h ht
  obtain ⟨n, hn⟩ : ∃ n, xs.length = n := ⟨_, rfl⟩
  rw [hn]
  have HR := Lib.hid hR
  have Hn := Lib.hid hn
  have hln : n ≤ 9223372036854775806 := by omega
  clear hR hn
  go_enter Tryd.func18, Tryd.ntmps18
  go_wp2_with fail
  refine cM1.mono ?_
  rintro e w1 ⟨p, rfl, hp1, hb1⟩
  have hT1 := tabs_below hT hb1 (Nat.le_refl _)
  go_wp2_with fail
  refine (cM2 _ hT1).mono ?_
  rintro e w2 ⟨q, rfl, hq2, hb2⟩
  have hb12 := hb1.trans (hb2.mono hb1.size)
  have hp2 := (hp1.below hb2 (Nat.le_refl _)).more hb2.size
  have hS : Sp2 w2 w2 w2.heap.size p q (sfx (bl s)) (sfx (bl t)) := ⟨hp2, hq2, Below.refl _ _⟩
  have cUp := fun W (h : Sp2 w2 W w2.heap.size p q (sfx (bl s)) (sfx (bl t))) => (units_any W w2.heap.size p (sfx (bl s)) h.1 (by omega)).mono (R' := fun e w' => e = .returned (.int .i64 ((sfx (bl s)).length : Nat)) ∧ Sp2 w2 w' w2.heap.size p q (sfx (bl s)) (sfx (bl t))) (fun e w' ⟨he, hd⟩ => ⟨he, hd ▸ h⟩)
  have cUq := fun W (h : Sp2 w2 W w2.heap.size p q (sfx (bl s)) (sfx (bl t))) => (units_any W w2.heap.size q (sfx (bl t)) h.2.1 (by omega)).mono (R' := fun e w' => e = .returned (.int .i64 ((sfx (bl t)).length : Nat)) ∧ Sp2 w2 w' w2.heap.size p q (sfx (bl s)) (sfx (bl t))) (fun e w' ⟨he, hd⟩ => ⟨he, hd ▸ h⟩)
  have cOs := fun W (h : Sp2 w2 W w2.heap.size p q (sfx (bl s)) (sfx (bl t))) => (of_len s W hs).mono (R' := fun e w' => ∃ A c, e = .returned (.slice A (sfx (bl s)).length c) ∧ Sp2 w2 w' w2.heap.size p q (sfx (bl s)) (sfx (bl t))) (fun e w' ⟨A, c, he, hd⟩ => ⟨A, c, he, h.next (Nat.le_refl _) hd⟩)
  have cOt := fun W (h : Sp2 w2 W w2.heap.size p q (sfx (bl s)) (sfx (bl t))) => (of_len t W ht).mono (R' := fun e w' => ∃ A c, e = .returned (.slice A (sfx (bl t)).length c) ∧ Sp2 w2 w' w2.heap.size p q (sfx (bl s)) (sfx (bl t))) (fun e w' ⟨A, c, he, hd⟩ => ⟨A, c, he, h.next (Nat.le_refl _) hd⟩)
  have cPp := fun W x (h : Sp2 w2 W w2.heap.size p q (sfx (bl s)) (sfx (bl t))) => (placed_any W w2.heap.size p s h.1 h.2.2.size hs x).mono (R' := fun e w' => e = .returned (.bool true) ∧ Sp2 w2 w' w2.heap.size p q (sfx (bl s)) (sfx (bl t))) (fun e w' ⟨he, hd⟩ => ⟨he, h.next (Nat.le_refl _) hd⟩)
  have cPq := fun W x (h : Sp2 w2 W w2.heap.size p q (sfx (bl s)) (sfx (bl t))) => (placed_any W w2.heap.size q t h.2.1 h.2.2.size ht x).mono (R' := fun e w' => e = .returned (.bool true) ∧ Sp2 w2 w' w2.heap.size p q (sfx (bl s)) (sfx (bl t))) (fun e w' ⟨he, hd⟩ => ⟨he, h.next (Nat.le_refl _) hd⟩)
  obtain ⟨a, ha⟩ : ∃ a, (sfx (bl s)).length = a := ⟨_, rfl⟩
  obtain ⟨b, hb⟩ : ∃ b, (sfx (bl t)).length = b := ⟨_, rfl⟩
  rw [ha] at cUp cOs
  rw [hb] at cUq cOt
  generalize sfx (bl s) = us at cUp cUq cOs cOt cPp cPq hS
  generalize sfx (bl t) = vs at cUp cUq cOs cOt cPp cPq hS
  clear cM1 cM2 hp1 hq2 hp2 ha hb hsl htl hT1
  go_wp2_with fail
  refine (cUp _ hS).mono ?_
  rintro e w3 ⟨rfl, hS3⟩
  go_wp2_with fail
  refine (cOs _ hS3).mono ?_
  rintro e w4 ⟨A4, c4, rfl, hS4⟩
  go_wp2_with fail
  refine (cUq _ hS4).mono ?_
  rintro e w5 ⟨rfl, hS5⟩
  go_wp2_with fail
  refine (cOt _ hS5).mono ?_
  rintro e w6 ⟨A6, c6, rfl, hS6⟩
  clear hS hS3 hS4 hS5
  go_wp2_with fail
  go_loopw [9] (fun kv wr => ∃ k : Nat, kv = .int .i64 k ∧ k ≤ n ∧ Sp2 w2 wr w2.heap.size p q us vs) (fun kv _ => n - (intOf kv).toNat)
  case atStart => exact ⟨0, rfl, Nat.zero_le _, hS6⟩
  case round =>
    obtain ⟨k, rfl, hk, hSr⟩ := hrel
    have hbr := hb12.trans (hSr.2.2.mono hb12.size)
    have hEr : HE wr := hE.below hbr (Nat.le_refl _)
    by_cases hlt : k < n
    · by_cases h60 : k < 60
      · rcases HR.out with h0 | ⟨ad, rfl, hbl, hc⟩
        · have := Hn.out; rw [h0] at this; simp at this; omega
        · obtain ⟨x, hxk⟩ : ∃ x, xs[k]? = some x := ⟨_, List.getElem?_eq_getElem (show k < xs.length by have := Hn.out; omega)⟩
          have hcell : ∀ W, Sp2 w2 W w2.heap.size p q us vs → W.cell? (ad.add k) = some (.int .i64 x) := fun W h => ((hb12.trans (h.2.2.mono hb12.size)).cell (p := ad.add k) (by rw [add_block]; exact hbl)).trans (hc k x hxk)
          have hltI : (k : Int) < n := by omega
          have k1 := hcell _ hSr
          have HC := Lib.hid hcell
          clear hcell hc hxk HR
          go_wp2_with fail
          refine (cPp _ _ hSr).mono ?_
          rintro e w7 ⟨rfl, hS7⟩
          have k2 := HC.out _ hS7
          go_wp2_with fail
          refine (cPq _ _ hS7).mono ?_
          rintro e w8 ⟨rfl, hS8⟩
          have k3 := HC.out _ hS8
          go_wp2_with fail
          refine (cPp _ _ hS8).mono ?_
          rintro e w9 ⟨rfl, hS9⟩
          go_wp2
          go_roundw
          case rel => exact ⟨k + 1, by go_num, by omega, hS9⟩
          case measure => simp [intOf]; omega
      · go_wp2_with fail
        refine (works_any _ hEr).mono ?_
        rintro e w7 ⟨rfl, hb7⟩
        go_wp2
        go_ret
        exact ⟨rfl, hbr.trans (hb7.mono hbr.size)⟩
    · go_wp2_with fail
      refine (works_any _ hEr).mono ?_
      rintro e w7 ⟨rfl, hb7⟩
      go_wp2
      go_ret
      exact ⟨rfl, hbr.trans (hb7.mono hbr.size)⟩
theorem law_PointsPlaces (w : World) (hT : Lib.Utf8Tabs 0 1 w) (hE : HE w) (s : ByteArray) (hs : s.size ≤ 140737488351232) (hsb : s.size ≤ 1048576) (t : ByteArray) (ht : t.size ≤ 140737488351232) (htb : t.size ≤ 1048576)
    (a : Option Addr) (len cap : Nat) (zs : List Int) (h : IsRow .i64 w a len cap zs) (hy : len * 8 ≤ 140737488351232) :
    Calls Tryd.prog 18 #[.string s, .string t, .slice a len cap] w fun e w' => e = .returned (.bool true) ∧ Below w.heap.size w w' := by
  obtain ⟨hl, hR, hc, hw⟩ := h.rd
  have := PointsPlaces_of w hT hE s hsb t htb a cap (zs.take len) (by omega) hR
  rw [hl] at this
  exact this
end Go.Proofs.YtbkimhbpcmbflaaDoor.C

/-
  The statement PointsMutual, walked.
-/
set_option linter.unusedVariables false
set_option linter.unusedSimpArgs false
namespace Go.Proofs.YtbkimhbpcmbflaaDoor.C
open Go Go.RowKit Go.Proofs.YtbkimhbpcmbflaaDoor.M Go.Proofs.YtbkimhbpcmbflaaDoor.E Go.Proofs.YtbkimhbpcmbflaaDoor.PAll Go.Proofs.YtbkimhbpcmbflaaDoorW.PrintWords

theorem wsum_bounds : ∀ xs : List Int, 0 ≤ wsum xs ∧ wsum xs ≤ 2 * xs.length
  | [] => by simp [wsum]
  | x :: xs => by
    have := wsum_bounds xs
    rw [wsum, List.length_cons]
    split <;> omega
theorem wide_dc {t : List UInt8} (h : t ≠ []) : (65535 < (pt t : Int) ∧ (pt t : Int) ≤ 1114111) ↔ 65535 < (dc t : Int) := by
  have hd := dc_lt t
  cases hi : ill t with
  | true =>
    have h1 := (ill_b0 h hi).1
    have e : pt t = 1114112 + b0 t := by simp [pt, hi]
    have e2 : dc t = 65533 ∧ dw t = 1 := by simpa [ill] using hi
    omega
  | false =>
    have e : pt t = dc t := pt_of_ok hi
    omega
theorem qpts_all (l : List UInt8) : qpts (sfx l) = pts l := rfl
set_option maxHeartbeats 2000000 in
set_option maxRecDepth 1000000 in
theorem pairs_any (s : ByteArray) (w : World) (hs : s.size ≤ 1048576) :
    Calls Tryd.prog 63 #[.string s] w fun e w' => e = .returned (.int .i64 (wsum (pts (bl s)))) ∧ Below w.heap.size w w' := by
  have hbl := bl_len s
  have hsl := sfx_len (bl s)
  go_enter Tryd.func63, Tryd.ntmps63
  go_wp2
  go_loopw [3] (fun nv wr => ∃ (pos : Nat) (pre : List (List UInt8)), nv = .int .i64 (wsum (qpts pre)) ∧ Hid (sfx (bl s) = pre ++ sfx ((bl s).drop pos)) ∧ wr.heap[w.heap.size]? = some (.stringIter s pos) ∧ Below w.heap.size w wr) (fun _ wr => s.size - wr.iterPos w.heap.size)
  case atStart =>
    refine ⟨0, [], rfl, by simp [Hid], ?_, ?_⟩
    · simpa using World.iter_heap w s 0
    · exact (Below.refl _ w).alloc (Nat.le_refl _) (.stringIter s 0)
  case round =>
    obtain ⟨pos, pre, rfl, hpre, hit, hbw⟩ := hrel
    have hpl : pre.length ≤ 1048576 := by
      have := congrArg List.length hpre.out
      rw [List.length_append] at this
      omega
    have hwb := wsum_bounds (qpts pre)
    have hql : (qpts pre).length = pre.length := by simp [qpts]
    by_cases hp : pos < s.size
    · obtain ⟨t, ht⟩ : ∃ t, (bl s).drop pos = t := ⟨_, rfl⟩
      have hne : t ≠ [] := by rw [← ht]; exact bl_nonempty hp
      have hd : Utf8.decode s pos = (dc t, dw t) := by rw [← ht]; exact (Lib.decodeL_drop s pos).symm
      have hnx : ∀ ty, (Instr.next (.pointer (some ⟨w.heap.size, 0, none⟩)) true ty).run Tryd.prog wr = .ok (.tuple #[.bool true, .int .i64 pos, .int .i32 (dc t : Nat)]) (wr.iterAt w.heap.size s (pos + dw t)) := fun ty => by
        have := Lib.run_next_any_at (P := Tryd.prog) wr w.heap.size s pos ty hit hp
        rw [hd] at this
        exact this
      have hw1 := dw_pos hne
      have hpre2 : Hid (sfx (bl s) = (pre ++ [t]) ++ sfx ((bl s).drop (pos + dw t))) := by
        show sfx (bl s) = _
        rw [← List.drop_drop, ht, hpre.out, ht, sfx_cons hne]; simp
      have Hit2 := Lib.hid (Lib.iterAt_heap wr w.heap.size s pos (pos + dw t) hit)
      have hbw2 : Below w.heap.size w (wr.iterAt w.heap.size s (pos + dw t)) := Lib.below_iterAt hbw (Nat.le_refl _) s _
      have Hhit := Lib.hid hit
      have eq1 : Hid (wsum (qpts (pre ++ [t])) = wsum (qpts pre) + (if 65535 < (pt t : Int) ∧ (pt t : Int) ≤ 1114111 then 2 else 1)) := by
        show _ = _
        have : qpts (pre ++ [t]) = qpts pre ++ [(pt t : Int)] := by simp [qpts]
        rw [this, wsum_append, wsum, wsum]; omega
      have Hwd := Lib.hid (wide_dc hne)
      have Hm := Lib.hid (show s.size - (pos + dw t) < s.size - pos by omega)
      by_cases hc : 65535 < (dc t : Int)
      · have e2 : Hid (wsum (qpts (pre ++ [t])) = wsum (qpts pre) + 1 + 1) := by
          show _ = _
          rw [eq1.out, if_pos (Hwd.out.2 hc)]; omega
        clear hd hit ht eq1 Hwd hne hbl hsl
        go_wp2
        go_roundw
        case rel => exact ⟨pos + dw t, pre ++ [t], by rw [e2.out], hpre2, Hit2.out, hbw2⟩
        case measure =>
          simp only [World.iterPos, Hit2.out, Hhit.out]
          exact Hm.out
      · have hc' : (dc t : Int) ≤ 65535 := by omega
        have e2 : Hid (wsum (qpts (pre ++ [t])) = wsum (qpts pre) + 1) := by
          show _ = _
          rw [eq1.out, if_neg (fun hh => hc (Hwd.out.1 hh))]
        clear hd hit ht eq1 Hwd hne hbl hsl hc
        go_wp2
        go_roundw
        case rel => exact ⟨pos + dw t, pre ++ [t], by rw [e2.out], hpre2, Hit2.out, hbw2⟩
        case measure =>
          simp only [World.iterPos, Hit2.out, Hhit.out]
          exact Hm.out
    · have hnx : ∀ ty, (Instr.next (.pointer (some ⟨w.heap.size, 0, none⟩)) true ty).run Tryd.prog wr = _ := fun ty => Lib.run_next_end_at wr w.heap.size s pos ty hit hp
      have hdone : Hid (pts (bl s) = qpts pre) := by
        show _ = _
        have h1 := hpre.out
        rw [List.drop_of_length_le (by omega), sfx_nil, List.append_nil] at h1
        rw [← qpts_all, h1]
      go_wp2
      go_ret
      exact ⟨by rw [hdone.out]; rfl, by assumption⟩
end Go.Proofs.YtbkimhbpcmbflaaDoor.C

/-
  The statement PointsMutual, walked.
-/
set_option linter.unusedVariables false
set_option linter.unusedSimpArgs false
namespace Go.Proofs.YtbkimhbpcmbflaaDoor.C
open Go Go.RowKit Go.Proofs.YtbkimhbpcmbflaaDoor.M Go.Proofs.YtbkimhbpcmbflaaDoor.E Go.Proofs.YtbkimhbpcmbflaaDoor.PAll Go.Proofs.YtbkimhbpcmbflaaDoorW.PrintWords

theorem IsU_end (l : List UInt8) : IsU l (l.length : Nat) (sfx l).length := by
  refine ⟨Nat.le_refl _, .inr ?_, fun h => by omega⟩
  rw [off_total]
  omega
theorem IsU_off {l : List UInt8} {k : Nat} (hk : k ≤ (sfx l).length) : IsU l (off (sfx l) k : Nat) k := by
  refine ⟨hk, .inr (by omega), fun h => ?_⟩
  have := off_step h
  omega
theorem off_four {l : List UInt8} {k : Nat} (hk : k < (sfx l).length) : off (sfx l) (k + 1) ≤ off (sfx l) k + 4 := by
  obtain ⟨t, ht⟩ : ∃ t, (sfx l)[k]? = some t := ⟨_, List.getElem?_eq_getElem hk⟩
  have := d_facts (sfx_ne (List.mem_of_getElem? ht))
  rw [off_succ ht]
  omega

set_option maxHeartbeats 2000000 in
set_option maxRecDepth 1000000 in
theorem law_PointsMutual (w : World) (hT : Lib.Utf8Tabs 0 1 w) (hE : HE w) (s : ByteArray) (hs0 : s.size ≤ 140737488351232) (hs : s.size ≤ 1048576) :
    Calls Tryd.prog 17 #[.string s] w fun e w' => e = .returned (.bool true) ∧ Below w.heap.size w w' := by
  have hsl := sfx_len (bl s)
  have hbl := bl_len s
  have hl : (bl s).length ≤ 1048576 := by omega
  have cM1 := measure_PL s w hT hs
  have cP := fun W => pairs_any s W hs
  go_enter Tryd.func17, Tryd.ntmps17
  go_wp2_with fail
  refine cM1.mono ?_
  rintro e w1 ⟨p, rfl, hp1, hb1⟩
  have hS : Sp w1 w1 w1.heap.size p (sfx (bl s)) := ⟨hp1, Below.refl _ _⟩
  have cU := fun W (h : Sp w1 W w1.heap.size p (sfx (bl s))) => (units_any W w1.heap.size p (sfx (bl s)) h.1 (by omega)).mono (R' := fun e w' => e = .returned (.int .i64 ((sfx (bl s)).length : Nat)) ∧ Sp w1 w' w1.heap.size p (sfx (bl s))) (fun e w' ⟨he, hd⟩ => ⟨he, hd ▸ h⟩)
  have cB := fun W (x : Int) (c : Nat) (hc : clampN (sfx (bl s)).length x = c) (h : Sp w1 W w1.heap.size p (sfx (bl s))) => (byte_any W w1.heap.size p (sfx (bl s)) h.1 (by omega) x).mono (R' := fun e w' => e = .returned (.int .i64 (off (sfx (bl s)) c : Nat)) ∧ Sp w1 w' w1.heap.size p (sfx (bl s))) (fun e w' ⟨he, hd⟩ => ⟨hc ▸ he, h.next (Nat.le_refl _) hd⟩)
  have cW := fun W (h : Sp w1 W w1.heap.size p (sfx (bl s))) => (wide_any W w1.heap.size p (bl s) h.1 h.2.size hl _ _ (IsU_end (bl s))).mono (R' := fun e w' => e = .returned (.int .i64 (wsum (pts (bl s)))) ∧ Sp w1 w' w1.heap.size p (sfx (bl s))) (fun e w' ⟨he, hd⟩ => ⟨by
    rw [List.take_of_length_le (by unfold pts; rw [List.length_map]; exact Nat.le_refl _)] at he; exact he, h.next (Nat.le_refl _) hd⟩)
  have cPr := fun W (h : Sp w1 W w1.heap.size p (sfx (bl s))) => (cP W).mono (R' := fun e w' => e = .returned (.int .i64 (wsum (pts (bl s)))) ∧ Sp w1 w' w1.heap.size p (sfx (bl s))) (fun e w' ⟨he, hd⟩ => ⟨he, h.next (Nat.le_refl _) hd⟩)
  have cI := fun W (k : Nat) (hk : k ≤ (sfx (bl s)).length) (h : Sp w1 W w1.heap.size p (sfx (bl s))) => (unit_any W w1.heap.size p (bl s) h.1 hl (off (sfx (bl s)) k : Nat)).mono (R' := fun e w' => e = .returned (.tuple #[.int .i64 (k : Nat), .bool true]) ∧ Sp w1 w' w1.heap.size p (sfx (bl s))) (fun e w' ⟨j, hj, he, hd⟩ => by
    obtain rfl := hj.unique (IsU_off hk)
    have hle := off_le (bl s) hk
    have : clampA (bl s).length (off (sfx (bl s)) j : Nat) = off (sfx (bl s)) j := by unfold clampA; omega
    rw [this] at he
    refine ⟨by rw [he]; simp, h.next (Nat.le_refl _) hd⟩)
  have hB0 := fun W => cB W 0 0 (by unfold clampN; omega)
  have hBN := fun W => cB W ((sfx (bl s)).length : Nat) (sfx (bl s)).length (by unfold clampN; omega)
  have hBk := fun W (k : Nat) (hk : k ≤ (sfx (bl s)).length) => cB W (k : Nat) k (by unfold clampN; omega)
  have hBp := fun W (k : Nat) (h0 : 0 < k) (hk : k ≤ (sfx (bl s)).length) => cB W ((k : Int) - 1) (k - 1) (by unfold clampN; omega)
  rw [hbl] at cW
  rw [off_zero] at hB0
  rw [off_total, hbl] at hBN
  have hst := fun k (hk : k + 1 ≤ (sfx (bl s)).length) => off_step (l := bl s) (i := k) (by omega)
  have hfo := fun k (hk : k + 1 ≤ (sfx (bl s)).length) => off_four (l := bl s) (k := k) (by omega)
  have hof := fun k (hk : k ≤ (sfx (bl s)).length) => off_le (bl s) (i := k) hk
  obtain ⟨n, hn⟩ : ∃ n, (sfx (bl s)).length = n := ⟨_, rfl⟩
  have hn20 : n ≤ 1048576 := by omega
  rw [hn] at cU cI hBN hBk hBp hst hfo hof
  rw [hbl] at hof
  generalize wsum (pts (bl s)) = z at cW cPr
  generalize hus : sfx (bl s) = us at cU cI hB0 hBN hBk hBp hS cW cPr hst hfo hof
  have Hst := Lib.hid hst
  have Hfo := Lib.hid hfo
  have Hof := Lib.hid hof
  clear cB cM1 cP hn hus hsl hl hbl hp1 hst hfo hof
  go_wp2_with fail
  refine (hB0 _ hS).mono ?_
  rintro e w2 ⟨rfl, hS2⟩
  go_wp2_with fail
  refine (cU _ hS2).mono ?_
  rintro e w3 ⟨rfl, hS3⟩
  go_wp2_with fail
  refine (hBN _ hS3).mono ?_
  rintro e w4 ⟨rfl, hS4⟩
  go_wp2_with fail
  refine (cW _ hS4).mono ?_
  rintro e w5 ⟨rfl, hS5⟩
  go_wp2_with fail
  refine (cPr _ hS5).mono ?_
  rintro e w6 ⟨rfl, hS6⟩
  clear hS hS2 hS3 hS4 hS5
  go_wp2_with fail
  go_loopw [4] (fun kv wr => ∃ k : Nat, kv = .int .i64 k ∧ k ≤ n + 1 ∧ Sp w1 wr w1.heap.size p us) (fun kv _ => n + 1 - (intOf kv).toNat)
  case atStart => exact ⟨0, rfl, Nat.zero_le _, hS6⟩
  case round =>
    obtain ⟨k, rfl, hk, hSr⟩ := hrel
    go_wp2_with fail
    refine (cU _ hSr).mono ?_
    rintro e w7 ⟨rfl, hS7⟩
    by_cases hlt : k ≤ n
    · have hltI : (k : Int) ≤ n := by omega
      go_wp2_with fail
      refine (hBk _ k hlt hS7).mono ?_
      rintro e w8 ⟨rfl, hS8⟩
      go_wp2_with fail
      refine (cI _ k hlt hS8).mono ?_
      rintro e w9 ⟨rfl, hS9⟩
      by_cases h0 : k = 0
      · subst h0
        go_wp2
        go_roundw
        case rel => exact ⟨1, by go_num, by omega, hS9⟩
        case measure => simp [intOf]
      · have h0k : 0 < k := by omega
        have h0I : (0 : Int) < (k : Int) := by omega
        have hk1 : k - 1 + 1 = k := by omega
        have hs1 := Hst.out (k - 1) (by omega)
        have hs2 := Hfo.out (k - 1) (by omega)
        have hs3 := Hof.out k hlt
        rw [hk1] at hs1 hs2
        obtain ⟨x, hx⟩ : ∃ x, off us k = x := ⟨_, rfl⟩
        obtain ⟨y, hy⟩ : ∃ y, off us (k - 1) = y := ⟨_, rfl⟩
        have dB := fun W => hBk W k hlt
        have dP := fun W => hBp W k h0k hlt
        rw [hx] at hs1 hs2 hs3 dB
        rw [hy] at hs1 hs2 dP
        have hs1I : (y : Int) < (x : Int) := by omega
        have hs2I : (x : Int) ≤ (y : Int) + 4 := by omega
        have hw : wrap64 ((k : Int) - 1) = (k : Int) - 1 := w64 (by omega) (by omega)
        clear Hst Hfo Hof hk1 hx hy h0 h0k
        go_wp2_with fail
        refine (dB _ hS9).mono ?_
        rintro e w10 ⟨rfl, hS10⟩
        go_wp2_with fail
        refine (dP _ hS10).mono ?_
        rintro e w11 ⟨rfl, hS11⟩
        go_wp2_with fail
        refine (dB _ hS11).mono ?_
        rintro e w12 ⟨rfl, hS12⟩
        go_wp2_with fail
        refine (dP _ hS12).mono ?_
        rintro e w13 ⟨rfl, hS13⟩
        go_wp2
        go_roundw
        case rel => exact ⟨k + 1, by go_num, by omega, hS13⟩
        case measure => simp [intOf]; omega
    · have hgt : (n : Int) < (k : Int) := by omega
      have hb7 := hb1.trans (hS7.2.mono hb1.size)
      have hE7 : HE w7 := hE.below hb7 (Nat.le_refl _)
      go_wp2_with fail
      refine (works_any _ hE7).mono ?_
      rintro e w8 ⟨rfl, hb8⟩
      go_wp2
      go_ret
      exact ⟨rfl, hb7.trans (hb8.mono hb7.size)⟩
end Go.Proofs.YtbkimhbpcmbflaaDoor.C
