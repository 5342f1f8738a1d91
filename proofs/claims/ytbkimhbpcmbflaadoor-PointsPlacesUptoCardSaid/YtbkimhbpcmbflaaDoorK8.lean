/-
  points.Places: Wide and Line.
-/
import Derived.Test.YtbkimhbpcmbflaaDoorK7
set_option linter.unusedVariables false
set_option linter.unusedSimpArgs false
namespace Go.Proofs.YtbkimhbpcmbflaaDoor.C
open Go Go.RowKit Go.Proofs.YtbkimhbpcmbflaaDoor.M Go.Proofs.YtbkimhbpcmbflaaDoor.E Go.Proofs.YtbkimhbpcmbflaaDoor.PAll Go.Proofs.YtbkimhbpcmbflaaDoorW.PrintWords

theorem qpts_take (l : List UInt8) (i : Nat) : qpts ((sfx l).take i) = (pts l).take i := by unfold qpts pts; rw [List.map_take]
set_option maxHeartbeats 1000000 in
set_option maxRecDepth 1000000 in
theorem wide_any (w : World) (B p : Nat) (l : List UInt8) (h : PL w B p (sfx l)) (hBw : B ≤ w.heap.size) (hl : l.length ≤ 1048576) (a : Int) (i : Nat) (hi : IsU l a i) :
    Calls Tryd.prog 62 #[.pointer (some ⟨p, 0, none⟩), .int .i64 a] w fun e w' => e = .returned (.int .i64 (wsum ((pts l).take i))) ∧ Below w.heap.size w w' := by
  have hsl := sfx_len l
  have cU := (unit_any w B p l h hl a).mono (R' := fun e w' => ∃ b, e = .returned (.tuple #[.int .i64 (i : Nat), .bool b]) ∧ PL w' B p (sfx l) ∧ Below w.heap.size w w') (fun e w' ⟨j, hj, he, hb⟩ => by
    obtain rfl := hj.unique hi
    exact ⟨_, he, h.below hb hBw, hb⟩)
  have e1 := (accQ_what ((sfx l).take i)).2.1
  rw [qpts_take] at e1
  rw [← e1]
  have hin := hi.1
  obtain ⟨n, hn⟩ : ∃ n, (sfx l).length = n := ⟨_, rfl⟩
  rw [hn] at hin
  go_enter Tryd.func62, Tryd.ntmps62
  go_wp2_with fail
  refine cU.mono ?_
  rintro e w1 ⟨b, rfl, hp, hb1⟩
  obtain ⟨g, cap, h1, h2, h3, h4, h5⟩ := hp
  have k1 := (h5 i (by omega)).2.1
  rw [hn] at h4
  clear h5 e1 hi cU
  go_wp2
  go_ret
  exact ⟨rfl, hb1⟩
set_option maxHeartbeats 1000000 in
set_option maxRecDepth 1000000 in
theorem line_any (w : World) (B p : Nat) (l : List UInt8) (h : PL w B p (sfx l)) (hBw : B ≤ w.heap.size) (hl : l.length ≤ 1048576) (a : Int) (i : Nat) (hi : IsU l a i) :
    Calls Tryd.prog 103 #[.pointer (some ⟨p, 0, none⟩), .int .i64 a] w fun e w' => e = .returned (.tuple #[.int .i64 (lfold 1 1 ((pts l).take i)).1, .int .i64 (lfold 1 1 ((pts l).take i)).2]) ∧ Below w.heap.size w w' := by
  have hsl := sfx_len l
  have cU := (unit_any w B p l h hl a).mono (R' := fun e w' => ∃ b, e = .returned (.tuple #[.int .i64 (i : Nat), .bool b]) ∧ PL w' B p (sfx l) ∧ Below w.heap.size w w') (fun e w' ⟨j, hj, he, hb⟩ => by
    obtain rfl := hj.unique hi
    exact ⟨_, he, h.below hb hBw, hb⟩)
  have e1 := (accQ_what ((sfx l).take i)).2.2
  have hin := hi.1
  rw [qpts_take, List.length_take, Nat.min_eq_left hin] at e1
  rw [e1]
  have hbd := accQ_bounds ((sfx l).take i)
  rw [List.length_take, Nat.min_eq_left hin] at hbd
  obtain ⟨-, -, b1, b2, b3, b4⟩ := hbd
  obtain ⟨n, hn⟩ : ∃ n, (sfx l).length = n := ⟨_, rfl⟩
  rw [hn] at hin
  have w1 : wrap64 ((accQ ((sfx l).take i)).2.ln + 1) = (accQ ((sfx l).take i)).2.ln + 1 := w64 (by omega) (by omega)
  show Calls _ _ _ _ fun e w' => e = .returned (.tuple #[.int .i64 ((accQ ((sfx l).take i)).2.ln + 1), .int .i64 ((i : Int) - (accQ ((sfx l).take i)).2.st + 1)]) ∧ Below w.heap.size w w'
  have hk : ∀ W : World, PL W B p (sfx l) → ∃ g cap, n + 1 ≤ cap ∧ W.cell? ⟨p, 0, none⟩ = some (.slice (some ⟨g, 0, none⟩) (n + 1) cap) ∧ W.cell? ⟨g, i * 4 + 2, none⟩ = some (.int .i64 (accQ ((sfx l).take i)).2.ln) ∧ W.cell? ⟨g, i * 4 + 3, none⟩ = some (.int .i64 (accQ ((sfx l).take i)).2.st) := fun W hp => by
    obtain ⟨g, cap, h1, h2, h3, h4, h5⟩ := hp
    obtain ⟨-, -, k2, k3⟩ := h5 i (by omega)
    rw [hn] at h4 h3
    exact ⟨g, cap, h3, h4, k2, k3⟩
  generalize (accQ ((sfx l).take i)).2.ln = x at b1 b2 hk w1 ⊢
  generalize (accQ ((sfx l).take i)).2.st = y at b3 b4 hk ⊢
  go_enter Tryd.func103, Tryd.ntmps103
  go_wp2_with fail
  refine cU.mono ?_
  rintro e w1 ⟨b, rfl, hp, hb1⟩
  obtain ⟨g, cap, h3, h4, k2, k3⟩ := hk _ hp
  clear e1 hi cU hk
  go_wp2_with fail
  go_quiet (fail)
  go_wp2
  go_ret2
  exact ⟨rfl, hb1.trans ((Drawn0.below ⟨⟨_, rfl⟩⟩).mono hb1.size)⟩
end Go.Proofs.YtbkimhbpcmbflaaDoor.C
