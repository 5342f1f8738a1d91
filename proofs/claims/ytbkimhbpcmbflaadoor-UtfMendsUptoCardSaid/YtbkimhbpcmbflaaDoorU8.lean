/-
  The statement UtfMends, walked.
-/
import Derived.Test.YtbkimhbpcmbflaaDoorQ2
set_option linter.unusedVariables false
set_option linter.unusedSimpArgs false
namespace Go.Proofs.YtbkimhbpcmbflaaDoor.C
open Go Go.RowKit Go.Shelf Go.Proofs.YtbkimhbpcmbflaaDoor.M Go.Proofs.YtbkimhbpcmbflaaDoor.PAll Go.Proofs.YtbkimhbpcmbflaaDoorW.PrintWords

theorem mend_bound {a b : Nat} (ha : a ≤ 1048576) (hb : b ≤ 1048576) (h : a ≤ 4096 ∨ b ≤ 4096) : a + a * (3 * b) < 140737488355328 := by
  rcases h with h | h
  · have := Nat.mul_le_mul h (show 3 * b ≤ 3145728 by omega)
    omega
  · have := Nat.mul_le_mul ha (show 3 * b ≤ 12288 by omega)
    omega
set_option maxHeartbeats 1000000 in
set_option maxRecDepth 100000 in
theorem law_UtfMends (w : World) (hT : Lib.Utf8Tabs 0 1 w) (s : ByteArray) (hs0 : s.size ≤ 140737488351232) (hs : s.size ≤ 1048576) (t : ByteArray) (ht0 : t.size ≤ 140737488351232) (ht : t.size ≤ 1048576) :
    Calls Tryd.prog 9 #[.string s, .string t] w fun e w' => e = .returned (.bool true) ∧ Below w.heap.size w w' := by
  by_cases hbig : 4096 < s.size ∧ 4096 < t.size
  · have h1 : (4096 : Int) < s.size := by omega
    have h2 : (4096 : Int) < t.size := by omega
    clear hT
    go_enter Tryd.func9, Tryd.ntmps9
    go_wp2
    go_ret
    exact ⟨rfl, Below.refl _ _⟩
  · have hlen := mend_bound hs ht (by omega)
    have tb : ∀ {W : World}, Below w.heap.size w W → Tabs W := fun h => tabs_below hT h (Nat.le_refl _)
    have cM := fun (b : Bool) W (h : Below w.heap.size w W) => mend_any s t b W (tb h) (by omega) (by omega) (by omega)
    have cR : ∀ (b : Bool) W, Calls Tryd.prog 41 #[.string s, .string t, .bool b] W fun e w' => e = .returned (.string ⟨(mend (bl s) (repB t b)).toArray⟩) ∧ Below W.heap.size W w' := fun b W => by
      obtain ⟨k, hk⟩ := mend_ref s t b hs hlen
      exact glossaryref01_Mend.calls k s t b _ W hk
    have cM1 := cM true
    have cM2 := cM false
    have cR1 := cR true
    have cR2 := cR false
    have cW := fun W (h : Below w.heap.size w W) => works01_any W (tb h)
    obtain ⟨B1, hB1⟩ : ∃ B : ByteArray, ⟨(mend (bl s) (repB t true)).toArray⟩ = B := ⟨_, rfl⟩
    obtain ⟨B2, hB2⟩ : ∃ B : ByteArray, ⟨(mend (bl s) (repB t false)).toArray⟩ = B := ⟨_, rfl⟩
    rw [hB1] at cM1 cR1
    rw [hB2] at cM2 cR2
    have hb : decide ((4096 : Int) < s.size) = true → decide ((4096 : Int) < t.size) = false := by intro h; have := of_decide_eq_true h; simp; omega
    clear hB1 hB2 cM cR tb hT hlen
    by_cases h1 : 4096 < s.size
    · have h1I : (4096 : Int) < s.size := by omega
      have h2I : (t.size : Int) ≤ 4096 := by omega
      have h2B : decide ((4096 : Int) < t.size) = false := by simp; omega
      clear hb hbig
      go_enter Tryd.func9, Tryd.ntmps9
      go_wp2_with fail
      refine (cM1 _ (Below.refl _ _)).mono ?_
      rintro e w1 ⟨rfl, b1⟩
      go_wp2_with fail
      refine (cR1 _).mono ?_
      rintro e w2 ⟨rfl, b2⟩
      have b2 := b1.trans (b2.mono b1.size)
      go_wp2_with fail
      refine (cM2 _ b2).mono ?_
      rintro e w3 ⟨rfl, b3⟩
      have b3 := b2.trans (b3.mono b2.size)
      go_wp2_with fail
      refine (cR2 _).mono ?_
      rintro e w4 ⟨rfl, b4⟩
      have b4 := b3.trans (b4.mono b3.size)
      go_wp2_with fail
      refine (cW _ b4).mono ?_
      rintro e w5 ⟨rfl, b5⟩
      go_wp2
      go_ret
      exact ⟨rfl, b4.trans (b5.mono b4.size)⟩
    · have h1I : (s.size : Int) ≤ 4096 := by omega
      have h1B : decide ((4096 : Int) < s.size) = false := by simp; omega
      clear hb hbig
      go_enter Tryd.func9, Tryd.ntmps9
      go_wp2_with fail
      refine (cM1 _ (Below.refl _ _)).mono ?_
      rintro e w1 ⟨rfl, b1⟩
      go_wp2_with fail
      refine (cR1 _).mono ?_
      rintro e w2 ⟨rfl, b2⟩
      have b2 := b1.trans (b2.mono b1.size)
      go_wp2_with fail
      refine (cM2 _ b2).mono ?_
      rintro e w3 ⟨rfl, b3⟩
      have b3 := b2.trans (b3.mono b2.size)
      go_wp2_with fail
      refine (cR2 _).mono ?_
      rintro e w4 ⟨rfl, b4⟩
      have b4 := b3.trans (b4.mono b3.size)
      go_wp2_with fail
      refine (cW _ b4).mono ?_
      rintro e w5 ⟨rfl, b5⟩
      go_wp2
      go_ret
      exact ⟨rfl, b4.trans (b5.mono b4.size)⟩
end Go.Proofs.YtbkimhbpcmbflaaDoor.C
