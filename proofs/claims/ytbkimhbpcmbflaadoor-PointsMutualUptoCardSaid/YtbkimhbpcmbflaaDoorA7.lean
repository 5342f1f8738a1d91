/-
  glossarylaw02.works; the statements PointsBack and PointsNext walked.
-/
import Derived.Test.YtbkimhbpcmbflaaDoorA3
import Derived.Test.YtbkimhbpcmbflaaDoorA6
set_option linter.unusedVariables false
set_option linter.unusedSimpArgs false
namespace Go.Proofs.YtbkimhbpcmbflaaDoor.C
open Go Go.RowKit Go.Proofs.YtbkimhbpcmbflaaDoor.M Go.Proofs.YtbkimhbpcmbflaaDoor.E

/-- errors.errorType as it is laid -/
def HE (w : World) : Prop := w.cell? ⟨2, 0, none⟩ = some (.iface 146 (.agg #[.pointer (some ⟨4, 33, none⟩)]))
theorem HE.lt {w : World} (h : HE w) : 2 < w.heap.size := by
  rcases Nat.lt_or_ge 2 w.heap.size with h' | h'
  · exact h'
  · unfold HE at h
    simp [World.cell?, Array.getElem?_eq_none h'] at h
theorem HE.below {w w' : World} {B : Nat} (h : HE w) (hb : Below B w w') (hB : w.heap.size ≤ B) : HE w' :=
  (hb.cell (p := ⟨2, 0, none⟩) (by have := h.lt; show 2 < B; omega)).trans h
theorem Row.below {w w' : World} {base : Nat} {e : TypeId} {k : IntKind} {v : Value} {xs : List Int} (h : Row w base e k v xs) (hb : Below w.heap.size w w') : Row w' base e k v xs := by
  refine ⟨h.1, ?_⟩
  rcases h.2 with h | ⟨g, cap, cur, h1, h2, h3, h4⟩
  · exact .inl h
  · exact .inr ⟨g, cap, cur, h1, h2, (hb.block g (Array.getElem?_eq_some_iff.1 h3).1).trans h3, h4⟩

set_option maxRecDepth 100000 in
theorem pts_works : pts (bl ⟨#[97, 255]⟩) = [97, 1114367] := by
  have h : pts [97, 255] = [97, 1114367] := by
    unfold pts
    rw [sfx_cons (by simp), sfx_cons (by simp [show dw [97, 255] = 1 from by decide]), ]
    simp only [show dw [97, 255] = 1 from by decide, List.drop_succ_cons, List.drop_zero, show dw [255] = 1 from by decide]
    rw [sfx_nil]
    decide
  exact h

set_option maxHeartbeats 4000000 in
set_option maxRecDepth 1000000 in
theorem works_any (w : World) (hE : HE w) :
    Calls Tryd.prog 28 #[] w fun e w' => e = .returned (.bool true) ∧ Below w.heap.size w w' := by
  have cO := of_any ⟨#[97, 255]⟩ w (by decide) (Nat.le_trans (sfx_len _) (by decide))
  rw [pts_works] at cO
  have cO2 : Calls Tryd.prog 25 #[.string ⟨#[97, 255]⟩] w fun e w' => ∃ (x : Nat) (c : Nat), e = .returned (.slice (some ⟨x, 0, none⟩) 2 c) ∧ w'.cell? ⟨x, 0, none⟩ = some (.int .i32 97) ∧ w'.cell? ⟨x, 1, none⟩ = some (.int .i32 1114367) ∧ x < w'.heap.size ∧ Below w.heap.size w w' := by
    refine cO.mono ?_
    rintro e w' ⟨v, rfl, hr, hb⟩
    rcases hr.2 with ⟨rfl, hn⟩ | ⟨g, cap, cur, rfl, hg, hh, hnc, hm, hcs, ht⟩
    · simp at hn
    · refine ⟨g, cap, rfl, ?_, ?_, (Array.getElem?_eq_some_iff.1 hh).1, hb⟩
      · exact World.ownsRow.cells hr (g := g) rfl 0 (.int .i32 97) rfl
      · exact World.ownsRow.cells hr (g := g) rfl 1 (.int .i32 1114367) rfl
  have cT : ∀ W : World, Calls Tryd.prog 31 #[.slice (some ⟨W.heap.size, 0, none⟩) 2 2] (W.alloc (.cells #[.int .i32 97, .int .i32 55296] 21)) fun e w' => e = .returned (.tuple #[.string ⟨#[]⟩, flt 8 0 1]) ∧ Below W.heap.size W w' := fun W => by
    have := text_some (W.alloc (.cells #[.int .i32 97, .int .i32 55296] 21)) ⟨W.heap.size, 0, none⟩ 2 2 [97, 55296] rfl (by decide) (by simp) (by decide) (fun j u hj => by
      have ea : (⟨W.heap.size, 0, none⟩ : Addr).add j = ⟨W.heap.size, j, none⟩ := by unfold Addr.add; split <;> simp_all
      rw [ea, cell_of_row _ _ _ _ _ _ (heap_alloc_new W (.cells #[.int .i32 97, .int .i32 55296] 21))]
      rcases j with _ | _ | j
      · cases hj; rfl
      · cases hj; rfl
      · simp at hj)
    refine this.mono ?_
    rintro e w' ⟨h, hb⟩
    refine ⟨?_, ((Below.refl _ W).alloc (Nat.le_refl _) _).trans (hb.mono (by simp))⟩
    rcases h with ⟨h, _⟩ | ⟨k, x, hk, hp, hall, rfl⟩
    · exact absurd (h 55296 (by simp)) (by decide)
    · rcases k with _ | _ | k
      · cases hk; exact absurd hp (by decide)
      · rfl
      · simp at hk
  clear cO
  have hE0 := hE
  unfold HE at hE0
  go_enter Tryd.func28, Tryd.ntmps28
  go_wp2_with (first | (go_at_call 25; refine cO2.mono ?_; rintro e w1 ⟨x, c, rfl, k0, k1, hlt, hb1⟩))
  refine (cT w1).mono ?_
  rintro e w2 ⟨rfl, hb2⟩
  have k0' := (hb2.cell (p := ⟨x, 0, none⟩) hlt).trans k0
  have k1' := (hb2.cell (p := ⟨x, 1, none⟩) hlt).trans k1
  have hEw := (hE.below hb1 (Nat.le_refl _)).below hb2 (Nat.le_refl _)
  have cA := at_fault 8 0 1 w2 (by decide) (by decide) hEw
  have hb12 := hb1.trans (hb2.mono hb1.size)
  clear k0 k1 hE0 hE cO2 cT
  go_wp2_with (first | (go_at_call 33; refine cA.mono ?_; rintro e w3 ⟨rfl, hb3⟩))
  go_ret
  exact ⟨rfl, hb12.trans (hb3.mono hb12.size)⟩
end Go.Proofs.YtbkimhbpcmbflaaDoor.C
