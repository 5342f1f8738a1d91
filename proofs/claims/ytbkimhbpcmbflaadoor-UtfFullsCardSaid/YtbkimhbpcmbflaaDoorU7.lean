/-
  The statement UtfFulls, walked.
-/
import Derived.Test.YtbkimhbpcmbflaaDoorUU
import Derived.Test.YtbkimhbpcmbflaaDoorQ1
set_option linter.unusedVariables false
set_option linter.unusedSimpArgs false
namespace Go.Proofs.YtbkimhbpcmbflaaDoor.C
open Go Go.RowKit Go.Shelf Go.Proofs.YtbkimhbpcmbflaaDoor.M Go.Proofs.YtbkimhbpcmbflaaDoor.PAll Go.Proofs.YtbkimhbpcmbflaaDoorW.PrintWords

set_option maxHeartbeats 1000000 in
set_option maxRecDepth 100000 in
theorem law_UtfFulls (w : World) (hT : Lib.Utf8Tabs 0 1 w) (s : ByteArray) (hs : s.size ≤ 140737488351232) :
    Calls Tryd.prog 7 #[.string s] w fun e w' => e = .returned (.bool true) ∧ Below w.heap.size w w' := by
  have c1 := full_any s w hT hs
  have c2 := fun W => (glossaryref01_Full.calls 4 s _ W (utfull_ref s hs)).mono (R' := fun e w' => e = .returned (.bool (fullP (bl s))) ∧ Below W.heap.size W w') (fun e w' ⟨he, hd⟩ => ⟨he, hd.below⟩)
  obtain ⟨r, hr⟩ : ∃ r, fullP (bl s) = r := ⟨_, rfl⟩
  rw [hr] at c1 c2
  have cW := fun W (h : Below w.heap.size w W) => works01_any W (tabs_below hT h (Nat.le_refl _))
  clear hr hT
  go_enter Tryd.func7, Tryd.ntmps7
  go_wp2_with fail
  refine c1.mono ?_
  rintro e w1 ⟨rfl, b1⟩
  go_wp2_with fail
  refine (c2 _).mono ?_
  rintro e w2 ⟨rfl, b2⟩
  have b2 := b1.trans (b2.mono b1.size)
  have hrr : (r == r) = true := by simp
  go_wp2_with fail
  refine (cW _ b2).mono ?_
  rintro e w3 ⟨rfl, b3⟩
  go_wp2
  go_ret
  exact ⟨rfl, b2.trans (b3.mono b2.size)⟩
end Go.Proofs.YtbkimhbpcmbflaaDoor.C
