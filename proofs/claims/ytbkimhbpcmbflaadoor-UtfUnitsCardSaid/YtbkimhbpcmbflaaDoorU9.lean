/-
  The statement UtfUnits, walked.
-/
import Derived.Test.YtbkimhbpcmbflaaDoorQ3
set_option linter.unusedVariables false
set_option linter.unusedSimpArgs false
namespace Go.Proofs.YtbkimhbpcmbflaaDoor.C
open Go Go.RowKit Go.Shelf Go.Proofs.YtbkimhbpcmbflaaDoor.M Go.Proofs.YtbkimhbpcmbflaaDoor.PAll Go.Proofs.YtbkimhbpcmbflaaDoorW.PrintWords

set_option maxHeartbeats 1000000 in
set_option maxRecDepth 100000 in
/-- utf.Before -/
theorem beforefn_any (s : ByteArray) (a : Int) (w : World) (hT : Tabs w) (hs : s.size ≤ 140737488351232) :
    Calls Tryd.prog 73 #[.string s, .int .i64 a] w fun e w' => e = .returned (.tuple #[.int .i32 (befU (bl s) a).1, .int .i64 (befU (bl s) a).2]) ∧ Below w.heap.size w w' := by
  have hbl := bl_len s
  by_cases h : a < 1 ∨ (s.size : Int) < a
  · have e : befU (bl s) a = (65533, 0) := by unfold befU; rw [hbl, if_pos h]
    rw [e]
    clear e hbl
    by_cases h1 : a < 1
    · clear h
      go_enter Tryd.func73, Tryd.ntmps73
      go_wp2
      go_ret2
      exact ⟨rfl, Below.refl _ _⟩
    · have h2 : (s.size : Int) < a := by omega
      have h1' : 1 ≤ a := by omega
      have h1b : decide (a < 1) = false := by simp; omega
      clear h h1
      go_enter Tryd.func73, Tryd.ntmps73
      go_wp2
      go_ret2
      exact ⟨rfl, Below.refl _ _⟩
  · obtain ⟨p, rfl⟩ : ∃ p : Nat, a = p := ⟨a.toNat, by omega⟩
    have h1 : (1 : Int) ≤ (p : Int) := by omega
    have h2 : (p : Int) ≤ s.size := by omega
    have h1b : decide ((p : Int) < 1) = false := by simp; omega
    have h2b : decide ((s.size : Int) < (p : Int)) = false := by simp; omega
    have e : befU (bl s) (p : Int) = ((((Lib.decodeLastL ((bl s).take p)).1 : Nat) : Int), (((Lib.decodeLastL ((bl s).take p)).2 : Nat) : Int)) := by unfold befU; rw [hbl, if_neg h, Int.toNat_natCast]
    have hx : bl (s.extract 0 p) = (bl s).take p := by rw [bl_cut (by omega), List.drop_zero]
    have cL := Tryd.utf8_DecodeLastRuneInString (s.extract 0 p) w (by simp; omega) hT
    have hx2 : (s.extract 0 p).data.toList = (bl s).take p := hx
    rw [hx2] at cL
    rw [e]
    obtain ⟨c, hc⟩ : ∃ c, (Lib.decodeLastL ((bl s).take p)).1 = c := ⟨_, rfl⟩
    obtain ⟨d, hd⟩ : ∃ d, (Lib.decodeLastL ((bl s).take p)).2 = d := ⟨_, rfl⟩
    rw [hc, hd] at cL ⊢
    clear e hx hx2 hc hd h hbl
    go_enter Tryd.func73, Tryd.ntmps73
    go_wp2_with fail
    refine cL.mono ?_
    rintro e w1 ⟨rfl, hb⟩
    go_wp2
    go_ret2
    exact ⟨rfl, hb⟩
set_option maxHeartbeats 1000000 in
set_option maxRecDepth 100000 in
theorem unit01_any (s : ByteArray) (a : Int) (ha : -9223372036854775808 ≤ a ∧ a ≤ 9223372036854775807) (w : World) (hT : Tabs w) (hs : s.size ≤ 140737488351232) :
    Calls Tryd.prog 56 #[.string s, .int .i64 a] w fun e w' => e = .returned (.bool true) ∧ Below w.heap.size w w' := by
  have tb : ∀ {W : World}, Below w.heap.size w W → Tabs W := fun h => tabs_below hT h (Nat.le_refl _)
  have c1 := fun W => (glossaryref01_Decode.calls 8 s a _ _ W (decode_ref s hs a ha)).mono (R' := fun e w' => e = .returned (.tuple #[.int .i32 (decU (bl s) a).1, .int .i64 (decU (bl s) a).2]) ∧ Below W.heap.size W w') (fun e w' ⟨he, hd⟩ => ⟨he, hd.below⟩)
  have c2 := fun W (h : Below w.heap.size w W) => decode_any s a W (tb h) hs
  have c3 := fun W => (glossaryref01_Before.calls 20 s a _ _ W (before_ref s hs a)).mono (R' := fun e w' => e = .returned (.tuple #[.int .i32 (befU (bl s) a).1, .int .i64 (befU (bl s) a).2]) ∧ Below W.heap.size W w') (fun e w' ⟨he, hd⟩ => ⟨he, hd.below⟩)
  have c4 := fun W (h : Below w.heap.size w W) => beforefn_any s a W (tb h) hs
  obtain ⟨p1, hp1⟩ : ∃ c, (decU (bl s) a).1 = c := ⟨_, rfl⟩
  obtain ⟨p2, hp2⟩ : ∃ c, (decU (bl s) a).2 = c := ⟨_, rfl⟩
  obtain ⟨p3, hp3⟩ : ∃ c, (befU (bl s) a).1 = c := ⟨_, rfl⟩
  obtain ⟨p4, hp4⟩ : ∃ c, (befU (bl s) a).2 = c := ⟨_, rfl⟩
  rw [hp1, hp2] at c1 c2
  rw [hp3, hp4] at c3 c4
  clear hp1 hp2 hp3 hp4 tb hT ha
  go_enter Tryd.func56, Tryd.ntmps56
  go_wp2_with fail
  refine (c1 _).mono ?_
  rintro e w1 ⟨rfl, b1⟩
  go_wp2_with fail
  refine (c2 _ b1).mono ?_
  rintro e w2 ⟨rfl, b2⟩
  have b2 := b1.trans (b2.mono b1.size)
  go_wp2_with fail
  refine (c3 _).mono ?_
  rintro e w3 ⟨rfl, b3⟩
  have b3 := b2.trans (b3.mono b2.size)
  go_wp2_with fail
  refine (c4 _ b3).mono ?_
  rintro e w4 ⟨rfl, b4⟩
  have b4 := b3.trans (b4.mono b3.size)
  go_wp2
  go_ret
  exact ⟨rfl, b4⟩
set_option maxHeartbeats 1000000 in
set_option maxRecDepth 100000 in
theorem law_UtfUnits (w : World) (hT : Lib.Utf8Tabs 0 1 w) (s : ByteArray) (hs : s.size ≤ 140737488351232) (a : Int) (ha : (Lit.int .i64 a).wf = true) :
    Calls Tryd.prog 15 #[.string s, .int .i64 a] w fun e w' => e = .returned (.bool true) ∧ Below w.heap.size w w' := by
  have ha' : -9223372036854775808 ≤ a ∧ a ≤ 9223372036854775807 := by
    simpa [Lit.wf, IntKind.min, IntKind.max, IntKind.signed, IntKind.bits] using ha
  have tb : ∀ {W : World}, Below w.heap.size w W → Tabs W := fun h => tabs_below hT h (Nat.le_refl _)
  have cU := fun (i : Int) (hi : -9223372036854775808 ≤ i ∧ i ≤ 9223372036854775807) W (h : Below w.heap.size w W) => unit01_any s i hi W (tb h) hs
  have cA := cU a ha'
  have cW := fun W (h : Below w.heap.size w W) => works01_any W (tb h)
  obtain ⟨n, hn⟩ : ∃ n, s.size = n := ⟨_, rfl⟩
  clear tb hT ha ha'
  go_enter Tryd.func15, Tryd.ntmps15
  go_wp2
  go_loopw [5] (fun kv wr => ∃ k : Int, kv = .int .i64 k ∧ -1 ≤ k ∧ k ≤ (s.size : Int) + 2 ∧ Below w.heap.size w wr) (fun kv _ => ((s.size : Int) + 2 - intOf kv).toNat)
  case atStart => exact ⟨-1, rfl, by omega, by omega, Below.refl _ _⟩
  case round =>
    obtain ⟨k, rfl, hk1, hk2, hbw⟩ := hrel
    by_cases hlt : k ≤ (s.size : Int) + 1
    · have cK := cU k (by omega) wr hbw
      clear cU cA
      go_wp2_with fail
      refine cK.mono ?_
      rintro e w1 ⟨rfl, b1⟩
      go_wp2
      go_roundw
      case rel => exact ⟨k + 1, rfl, by omega, by omega, hbw.trans (b1.mono hbw.size)⟩
      case measure => simp [intOf]; omega
    · have hgt : (s.size : Int) + 1 < k := by omega
      have cK := cA wr hbw
      clear cU cA
      go_wp2_with fail
      refine cK.mono ?_
      rintro e w1 ⟨rfl, b1⟩
      have b1 := hbw.trans (b1.mono hbw.size)
      go_wp2_with fail
      refine (cW _ b1).mono ?_
      rintro e w2 ⟨rfl, b2⟩
      go_wp2
      go_ret
      exact ⟨rfl, b1.trans (b2.mono b1.size)⟩
end Go.Proofs.YtbkimhbpcmbflaaDoor.C
