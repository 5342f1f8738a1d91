/-
  glossarylaw05.ScanQuote, walked.
-/
import Derived.Test.YtekoeobfddfgpaaDoorDX
import Derived.Test.YtekoeobfddfgpaaDoorE7
set_option linter.unusedVariables false
set_option linter.unusedSimpArgs false
namespace Go.Proofs.YtekoeobfddfgpaaDoor.C
open Go Go.RowKit Go.Shelf Go.Proofs.YtekoeobfddfgpaaDoor.M Go.Proofs.YtekoeobfddfgpaaDoor.Z

set_option maxHeartbeats 4000000 in
set_option maxRecDepth 100000 in
theorem quotelaw_any (w : World) (hT : Lib.Utf8Tabs 1 2 w) (hE : HE w) (s : ByteArray) (hs : s.size ≤ 1000000000000) :
    Calls Tryd.prog 6 #[.string s] w fun e w' => e = .returned (.bool true) ∧ Below w.heap.size w w' := by
  have hL : Laid w := ⟨hT, hE⟩
  clear hE
  have cQ := quote_any s hs w hT
  have cR := fun W => refq_any s hs W
  obtain ⟨t, ht⟩ : ∃ t, ba (quoteM (bl s)) = t := ⟨_, rfl⟩
  rw [ht] at cQ cR
  have cW : ∀ W, Below w.heap.size w W → Calls Tryd.prog 10 #[] W fun e w' => e = .returned (.bool true) ∧ Below W.heap.size W w' := fun W hb => works_any W (hL.below hb).1 (hL.below hb).2
  clear hL hT ht
  go_enter Tryd.func6, Tryd.ntmps6
  go_wp2_with fail
  refine cQ.mono ?_
  rintro e w1 ⟨rfl, hb1⟩
  clear cQ
  go_wp2_with fail
  refine (cR _).mono ?_
  rintro e w2 ⟨rfl, hb2⟩
  have hb12 := hb1.trans (hb2.mono hb1.size)
  have cW2 := cW w2 hb12
  have HB := Lib.hid hb12
  clear cR cW hb1 hb2 hb12
  go_wp2_with fail
  refine cW2.mono ?_
  rintro e w3 ⟨rfl, hb3⟩
  have HC := Lib.hid (HB.out.trans (hb3.mono HB.out.size))
  clear hb3
  go_wp2_with fail
  go_ret
  exact ⟨rfl, HC.out⟩
theorem law_ScanQuote (w : World) (hT : Lib.Utf8Tabs 1 2 w) (hE : HE w) (s : ByteArray) (hs0 : s.size ≤ 140737488351232) (hs : s.size ≤ 1048576) :
    Calls Tryd.prog 6 #[.string s] w fun e w' => e = .returned (.bool true) ∧ Below w.heap.size w w' :=
  quotelaw_any w hT hE s (by omega)
end Go.Proofs.YtekoeobfddfgpaaDoor.C
