/-
  glossarylaw05.ScanBack, walked.
-/
import Derived.Test.YtekoeobfddfgpaaDoorDX
import Derived.Test.YtekoeobfddfgpaaDoorEQ
set_option linter.unusedVariables false
set_option linter.unusedSimpArgs false
namespace Go.Proofs.YtekoeobfddfgpaaDoor.C
open Go Go.RowKit Go.Shelf Go.Proofs.YtekoeobfddfgpaaDoor.M Go.Proofs.YtekoeobfddfgpaaDoor.Z

theorem quote_lines (l : List UInt8) : linesN (quoteM l) ≤ 1 := by
  unfold linesN
  rw [quoteM_no10]
  split <;> omega
theorem scanE_q {l : List UInt8} (h : (quoteM l).length ≤ 1048576) : scanE (quoteM l) = none := by
  have := quote_lines l
  unfold scanE
  rw [if_neg (by omega), if_neg (by omega), scanM_q]
set_option maxHeartbeats 4000000 in
set_option maxRecDepth 100000 in
theorem back_any (w : World) (hT : Lib.Utf8Tabs 1 2 w) (hE : HE w) (s : ByteArray) (hs : s.size ≤ 1000000000000) :
    Calls Tryd.prog 7 #[.string s] w fun e w' => e = .returned (.bool true) ∧ Below w.heap.size w w' := by
  have hL : Laid w := ⟨hT, hE⟩
  clear hE
  have cQ := quote_any s hs w hT
  obtain ⟨t, ht⟩ : ∃ t, ba (quoteM (bl s)) = t := ⟨_, rfl⟩
  rw [ht] at cQ
  have hbt : bl t = quoteM (bl s) := by rw [← ht, bl_ba]
  have hts : t.size = (quoteM (bl s)).length := by rw [← bl_len, hbt]
  have hle : t.size ≤ 140737488351232 := by have := quoteM_len (bl s); rw [bl_len] at this; omega
  have cS : ∀ W, Below w.heap.size w W → Calls Tryd.prog 8 #[.string t] W (ScanP t W) := fun W hb => scan_any t W hle (hL.below hb).1
  have cW : ∀ W, Below w.heap.size w W → Calls Tryd.prog 10 #[] W fun e w' => e = .returned (.bool true) ∧ Below W.heap.size W w' := fun W hb => works_any W (hL.below hb).1 (hL.below hb).2
  have cA : ∀ W, Below w.heap.size w W → Calls Tryd.prog 14 #[Go.Proofs.YtekoeobfddfgpaaDoor.E.flt 5 0 0, .int .i64 5, .int .i64 0, .int .i64 0] W fun e w' => e = .returned (.bool true) ∧ Below W.heap.size W w' := fun W hb => (Go.Proofs.YtekoeobfddfgpaaDoor.E.at_fault 5 0 0 W (by decide) (by decide) (hL.below hb).2).mono (fun e w' h => by simpa using h)
  have Hts := Lib.hid hts
  have Hbt := Lib.hid hbt
  clear hL hT ht hbt hts
  go_enter Tryd.func7, Tryd.ntmps7
  go_wp2_with fail
  refine cQ.mono ?_
  rintro e w1 ⟨rfl, hb1⟩
  have cS1 := cS w1 hb1
  clear cQ cS
  go_wp2_with fail
  refine cS1.mono ?_
  rintro e w2 ⟨hb2, hr⟩
  have hb12 := hb1.trans (hb2.mono hb1.size)
  clear cS1
  by_cases hbig : 1048576 < t.size
  · have i1 : (1048576 : Int) < (t.size : Int) := by omega
    have hE5 : scanE (bl t) = some (5, 0, 0) := by unfold scanE; rw [if_pos (by rw [bl_len]; exact hbig)]
    rw [hE5] at hr
    have hr' : e = .returned (.tuple #[.slice none 0 0, Go.Proofs.YtekoeobfddfgpaaDoor.E.flt (5 : Nat) (0 : Nat) (0 : Nat)]) := by
      rcases hr with ⟨no, ln, cl, hr, he⟩ | ⟨hr, _⟩
      · simp only [Option.some.injEq, Prod.mk.injEq] at hr
        obtain ⟨rfl, rfl, rfl⟩ := hr
        exact he
      · cases hr
    subst hr'
    have cA2 := cA w2 hb12
    have HB := Lib.hid hb12
    clear hr hb1 hb2 hb12 hE5 hbig cA
    go_wp2_with fail
    refine cA2.mono ?_
    rintro e w3 ⟨rfl, hb3⟩
    have hb4 := HB.out.trans (hb3.mono HB.out.size)
    have cW1 := cW w3 hb4
    have HC := Lib.hid hb4
    clear hb3 hb4 cW
    go_wp2_with fail
    refine cW1.mono ?_
    rintro e w4 ⟨rfl, hb5⟩
    have HD := Lib.hid (HC.out.trans (hb5.mono HC.out.size))
    clear hb5
    go_wp2_with fail
    go_ret
    exact ⟨rfl, HD.out⟩
  · have i1 : (t.size : Int) ≤ 1048576 := by omega
    have hEn : scanE (bl t) = none := by rw [Hbt.out]; exact scanE_q (by rw [← Hts.out]; omega)
    rcases hr with ⟨no, ln, cl, hr, _⟩ | ⟨_, v, rfl, hown⟩
    · rw [hEn] at hr; cases hr
    rw [Hbt.out, scanM_q] at hown
    obtain ⟨g, cap, hK⟩ := toks_of hown (by simp)
    have hv : v = .slice (some ⟨g, 0, none⟩) (2 : Nat) cap := hK.v
    obtain rfl := hv
    have k0 : w2.cell? ⟨g, 0, none⟩ = some (.int .i64 1) := hK.c0 0 _ rfl
    have k1 : w2.cell? ⟨g, 1, none⟩ = some (.string s) := by
      have := hK.c1 0 _ rfl
      simp only [ba_bl] at this
      exact this
    have k4 : w2.cell? ⟨g, 4, none⟩ = some (.int .i64 0) := by
      have := hK.c4 0 _ rfl
      simp only [Nat.sub_self] at this
      exact this
    have k5 : w2.cell? ⟨g, 5, none⟩ = some (.int .i64 0) := hK.c0 1 _ rfl
    have k9 : w2.cell? ⟨g, 9, none⟩ = some (.int .i64 (t.size : Nat)) := by
      have := hK.c4 1 _ rfl
      simp only [List.length_nil, Nat.sub_zero, ← Hts.out] at this
      exact this
    have cW1 := cW w2 hb12
    have HB := Lib.hid hb12
    clear hK hown hEn cW cA hb1 hb2 hb12 hbig
    go_wp2_with fail
    all_goals first | (refine cW1.mono ?_) | skip
    rintro e w3 ⟨rfl, hb3⟩
    have HC := Lib.hid (HB.out.trans (hb3.mono HB.out.size))
    clear hb3
    go_wp2_with fail
    go_ret
    exact ⟨rfl, HC.out⟩
theorem law_ScanBack (w : World) (hT : Lib.Utf8Tabs 1 2 w) (hE : HE w) (s : ByteArray) (hs0 : s.size ≤ 140737488351232) (hs : s.size ≤ 1048576) :
    Calls Tryd.prog 7 #[.string s] w fun e w' => e = .returned (.bool true) ∧ Below w.heap.size w w' :=
  back_any w hT hE s (by omega)
end Go.Proofs.YtekoeobfddfgpaaDoor.C
