/-
  The statement PointsNext, walked.
-/
import Derived.Test.YtbkimhbpcmbflaaDoorA7
import Derived.Test.YtbkimhbpcmbflaaDoorB1
set_option linter.unusedVariables false
set_option linter.unusedSimpArgs false
namespace Go.Proofs.YtbkimhbpcmbflaaDoor.C
open Go Go.RowKit Go.Proofs.YtbkimhbpcmbflaaDoor.M Go.Proofs.YtbkimhbpcmbflaaDoor.E Go.Proofs.YtbkimhbpcmbflaaDoor.PAll Go.Proofs.YtbkimhbpcmbflaaDoorW.PrintWords

theorem cell_lt {w : World} {b o : Nat} {v : Value} (h : w.cell? ⟨b, o, none⟩ = some v) : b < w.heap.size := by
  rcases Nat.lt_or_ge b w.heap.size with h' | h'
  · exact h'
  · simp [World.cell?, Array.getElem?_eq_none h'] at h
theorem tabs_below {w w' : World} {g3 g4 B : Nat} (h : Lib.Utf8Tabs g3 g4 w) (hb : Below B w w') (hB : w.heap.size ≤ B) : Lib.Utf8Tabs g3 g4 w' := by
  have l3 := cell_lt (h.1 0 (by omega))
  have l4 := cell_lt (h.2 0 (by omega)).1
  exact ⟨fun c hc => (hb.cell (p := ⟨g3, c, none⟩) (by show g3 < B; omega)).trans (h.1 c hc), fun i hi => ⟨(hb.cell (p := ⟨g4, 2 * i, none⟩) (by show g4 < B; omega)).trans (h.2 i hi).1, (hb.cell (p := ⟨g4, 2 * i + 1, none⟩) (by show g4 < B; omega)).trans (h.2 i hi).2⟩⟩

set_option maxHeartbeats 4000000 in
set_option maxRecDepth 1000000 in
theorem law_PointsNext (w : World) (hT : Lib.Utf8Tabs 0 1 w) (hE : HE w) (s : ByteArray) (hs : s.size ≤ 140737488351232) (a : Int) (ha : (Lit.int .i64 a).wf = true) :
    Calls Tryd.prog 12 #[.string s, .int .i64 a] w fun e w' => e = .returned (.bool true) ∧ Below w.heap.size w w' := by
  have c1 := fun W => glossaryref02_Next.calls 12 s a (nextP (bl s) a).1 (nextP (bl s) a).2 W (next_ref s hs a 0)
  have c2 := fun W (h : Lib.Utf8Tabs 0 1 W) => next_any s a W h hs
  generalize nextP (bl s) a = z at c1 c2
  obtain ⟨z1, z2⟩ := z
  go_enter Tryd.func12, Tryd.ntmps12
  go_wp2_with (first | (go_at_call 48; refine (c1 _).mono ?_; rintro e w1 ⟨rfl, hb1⟩))
  have hT1 : Lib.Utf8Tabs 0 1 w1 := tabs_below hT hb1.below (Nat.le_refl _)
  go_wp2_with (first | (go_at_call 49; refine (c2 _ hT1).mono ?_; rintro e w2 ⟨rfl, hb2⟩))
  have hE2 : HE w2 := (hE.below hb1.below (Nat.le_refl _)).below hb2 (Nat.le_refl _)
  go_wp2_with (first | (go_at_call 28; refine (works_any _ hE2).mono ?_; rintro e w3 ⟨rfl, hb3⟩))
  all_goals go_ret
  exact ⟨rfl, (hb1.below.trans (hb2.mono hb1.below.size)).trans (hb3.mono (hb1.below.trans (hb2.mono hb1.below.size)).size)⟩
end Go.Proofs.YtbkimhbpcmbflaaDoor.C
