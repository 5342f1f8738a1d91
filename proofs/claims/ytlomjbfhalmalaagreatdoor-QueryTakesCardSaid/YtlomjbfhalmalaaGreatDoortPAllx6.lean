/-
  Of this seat's texts what the claim wants (printed by a program): PAllx6.
-/
import Derived.Test.YtlomjbfhalmalaaGreatDoortPAllx0
import Derived.Test.YtlomjbfhalmalaaGreatDoortPAllx5
namespace Go.Proofs.YtlomjbfhalmalaaGreatDoor.PAll
open Go.RowKit Go.Proofs.YtlomjbfhalmalaaGreatDoorW.PrintWords Go.Proofs.YtlomjbfhalmalaaGreatDoorW.PrintLast Go.Proofs.YtlomjbfhalmalaaGreatDoorW.PrintMore
attribute [local go_sem] max2_int min2_int max_two min_two max_three min_three max_four min_four   -- for this text's walks alone
set_option linter.unusedVariables false
set_option linter.unusedSimpArgs false
mutual
def glossaryref28_Like.l0 : Nat → List Int → List Int → List Bool → Int → Option (Bool)
  | 0, _, _, _, _ => none
  | k + 1, x5, x6, x7, x8 => if x8 < (x5.length : Int) then (if 0 ≤ (wrap64 ((x6.length : Int) + 1)) then (if (wrap64 ((x6.length : Int) + 1) : Int).toNat ≤ 281474976710656 then ((some (List.replicate (wrap64 ((x6.length : Int) + 1) : Int).toNat false : List Bool)).bind fun y174 => (if 0 ≤ x8 then (if (rd x5 x8) = 42 then (glossaryref28_Like.j1 k x5 x6 x7 x8 y174 (rd x5 x8) false) else (glossaryref28_Like.j1 k x5 x6 x7 x8 y174 (rd x5 x8) ((rd x5 x8) != 63))) else (none))) else (none)) else (none)) else (if 0 ≤ (x6.length : Int) then (if (x6.length : Int) < (x7.length : Int) then (some (rdOf false x7 (x6.length : Int))) else (none)) else (none))
def glossaryref28_Like.j1 : Nat → List Int → List Int → List Bool → Int → List Bool → Int → Bool → Option (Bool)
  | 0, _, _, _, _, _, _, _ => none
  | k + 1, x5, x6, x7, x8, x9, x10, x11 => if x10 = 92 then (glossaryref28_Like.j2 k x5 x6 x7 x8 x9 x10 x11 (decide ((wrap64 (x8 + 1)) < (x5.length : Int)))) else (glossaryref28_Like.j2 k x5 x6 x7 x8 x9 x10 x11 false)
def glossaryref28_Like.j2 : Nat → List Int → List Int → List Bool → Int → List Bool → Int → Bool → Bool → Option (Bool)
  | 0, _, _, _, _, _, _, _, _ => none
  | k + 1, x5, x6, x7, x8, x9, x10, x11, x51 => if x51 = true then (if 0 ≤ (wrap64 (x8 + 1)) then (if (wrap64 (x8 + 1)) < (x5.length : Int) then (glossaryref28_Like.j3 k x5 x6 x7 (wrap64 (x8 + 1)) x9 (rd x5 (wrap64 (x8 + 1))) x11) else (none)) else (none)) else (glossaryref28_Like.j3 k x5 x6 x7 x8 x9 x10 x11)
def glossaryref28_Like.j3 : Nat → List Int → List Int → List Bool → Int → List Bool → Int → Bool → Option (Bool)
  | 0, _, _, _, _, _, _, _ => none
  | k + 1, x5, x6, x7, x8, x9, x10, x11 => glossaryref28_Like.l1 k x5 x6 x7 x8 x9 x10 x11 0
def glossaryref28_Like.l1 : Nat → List Int → List Int → List Bool → Int → List Bool → Int → Bool → Int → Option (Bool)
  | 0, _, _, _, _, _, _, _, _ => none
  | k + 1, x5, x6, x7, x8, x9, x10, x11, x12 => if x12 ≤ (x6.length : Int) then (if x11 = true then (glossaryref28_Like.j5 k x5 x6 x7 x8 x9 x10 x11 x12 false) else (glossaryref28_Like.j5 k x5 x6 x7 x8 x9 x10 x11 x12 (x10 == 42))) else (glossaryref28_Like.l0 k x5 x6 x9 (wrap64 (x8 + 1)))
def glossaryref28_Like.j5 : Nat → List Int → List Int → List Bool → Int → List Bool → Int → Bool → Int → Bool → Option (Bool)
  | 0, _, _, _, _, _, _, _, _, _ => none
  | k + 1, x5, x6, x7, x8, x9, x10, x11, x12, x85 => if x85 = true then (if 0 ≤ x12 then (if x12 < (x7.length : Int) then (if rdOf false x7 x12 = true then (if x12 < (x9.length : Int) then (glossaryref28_Like.l1 k x5 x6 x7 x8 (x9.set (x12 : Int).toNat true) x10 x11 (wrap64 (x12 + 1))) else (none)) else (if x12 > 0 then (if 0 ≤ (wrap64 (x12 - 1)) then (if (wrap64 (x12 - 1)) < (x9.length : Int) then (if x12 < (x9.length : Int) then (glossaryref28_Like.l1 k x5 x6 x7 x8 (x9.set (x12 : Int).toNat (rdOf false x9 (wrap64 (x12 - 1)))) x10 x11 (wrap64 (x12 + 1))) else (none)) else (none)) else (none)) else (if x12 < (x9.length : Int) then (glossaryref28_Like.l1 k x5 x6 x7 x8 (x9.set (x12 : Int).toNat false) x10 x11 (wrap64 (x12 + 1))) else (none)))) else (none)) else (none)) else (if x11 = true then (if x12 > 0 then (if 0 ≤ (wrap64 (x12 - 1)) then (if (wrap64 (x12 - 1)) < (x7.length : Int) then (if rdOf false x7 (wrap64 (x12 - 1)) = true then (if (wrap64 (x12 - 1)) < (x6.length : Int) then (if 0 ≤ x12 then (if x12 < (x9.length : Int) then (glossaryref28_Like.l1 k x5 x6 x7 x8 (x9.set (x12 : Int).toNat ((rd x6 (wrap64 (x12 - 1))) == x10)) x10 x11 (wrap64 (x12 + 1))) else (none)) else (none)) else (none)) else (if 0 ≤ x12 then (if x12 < (x9.length : Int) then (glossaryref28_Like.l1 k x5 x6 x7 x8 (x9.set (x12 : Int).toNat false) x10 x11 (wrap64 (x12 + 1))) else (none)) else (none))) else (none)) else (none)) else (if 0 ≤ x12 then (if x12 < (x9.length : Int) then (glossaryref28_Like.l1 k x5 x6 x7 x8 (x9.set (x12 : Int).toNat false) x10 x11 (wrap64 (x12 + 1))) else (none)) else (none))) else (if x12 > 0 then (if 0 ≤ (wrap64 (x12 - 1)) then (if (wrap64 (x12 - 1)) < (x7.length : Int) then (if 0 ≤ x12 then (if x12 < (x9.length : Int) then (glossaryref28_Like.l1 k x5 x6 x7 x8 (x9.set (x12 : Int).toNat (rdOf false x7 (wrap64 (x12 - 1)))) x10 x11 (wrap64 (x12 + 1))) else (none)) else (none)) else (none)) else (none)) else (if 0 ≤ x12 then (if x12 < (x9.length : Int) then (glossaryref28_Like.l1 k x5 x6 x7 x8 (x9.set (x12 : Int).toNat false) x10 x11 (wrap64 (x12 + 1))) else (none)) else (none))))
end
def glossaryref28_Like.f (k : Nat) (a0 : ByteArray) (a1 : ByteArray) : Option (Bool) := (glossaryref02_Of.f k a0).bind fun t163 => ((glossaryref02_Of.f k a1).bind fun t166 => (if 0 ≤ (wrap64 ((t166.length : Int) + 1)) then (if (wrap64 ((t166.length : Int) + 1) : Int).toNat ≤ 281474976710656 then ((some (List.replicate (wrap64 ((t166.length : Int) + 1) : Int).toNat false : List Bool)).bind fun y169 => (if 0 < (y169.length : Int) then (glossaryref28_Like.l0 k t163 t166 (y169.set (0 : Int).toNat true) 0) else (none))) else (none)) else (none)))
theorem glossaryref28_Like.mono_l : ∀ k, (∀ y0 y1 y2 y3, LeO (glossaryref28_Like.l0 k y0 y1 y2 y3) (glossaryref28_Like.l0 (k + 1) y0 y1 y2 y3)) ∧ (∀ y0 y1 y2 y3 y4 y5 y6, LeO (glossaryref28_Like.j1 k y0 y1 y2 y3 y4 y5 y6) (glossaryref28_Like.j1 (k + 1) y0 y1 y2 y3 y4 y5 y6)) ∧ (∀ y0 y1 y2 y3 y4 y5 y6 y7, LeO (glossaryref28_Like.j2 k y0 y1 y2 y3 y4 y5 y6 y7) (glossaryref28_Like.j2 (k + 1) y0 y1 y2 y3 y4 y5 y6 y7)) ∧ (∀ y0 y1 y2 y3 y4 y5 y6, LeO (glossaryref28_Like.j3 k y0 y1 y2 y3 y4 y5 y6) (glossaryref28_Like.j3 (k + 1) y0 y1 y2 y3 y4 y5 y6)) ∧ (∀ y0 y1 y2 y3 y4 y5 y6 y7, LeO (glossaryref28_Like.l1 k y0 y1 y2 y3 y4 y5 y6 y7) (glossaryref28_Like.l1 (k + 1) y0 y1 y2 y3 y4 y5 y6 y7)) ∧ (∀ y0 y1 y2 y3 y4 y5 y6 y7 y8, LeO (glossaryref28_Like.j5 k y0 y1 y2 y3 y4 y5 y6 y7 y8) (glossaryref28_Like.j5 (k + 1) y0 y1 y2 y3 y4 y5 y6 y7 y8))
  | 0 => ⟨fun _ _ _ _ r h => by simp [glossaryref28_Like.l0] at h, fun _ _ _ _ _ _ _ r h => by simp [glossaryref28_Like.j1] at h, fun _ _ _ _ _ _ _ _ r h => by simp [glossaryref28_Like.j2] at h, fun _ _ _ _ _ _ _ r h => by simp [glossaryref28_Like.j3] at h, fun _ _ _ _ _ _ _ _ r h => by simp [glossaryref28_Like.l1] at h, fun _ _ _ _ _ _ _ _ _ r h => by simp [glossaryref28_Like.j5] at h⟩
  | k + 1 => by
    obtain ⟨ih0, ih1, ih2, ih3, ih4, ih5⟩ := glossaryref28_Like.mono_l k
    refine ⟨?_, ?_, ?_, ?_, ?_, ?_⟩
    · intro y0 y1 y2 y3
      unfold glossaryref28_Like.l0
      repeat' first
      | (with_reducible exact ih0 _ _ _ _)
      | (with_reducible exact ih1 _ _ _ _ _ _ _)
      | (with_reducible exact ih2 _ _ _ _ _ _ _ _)
      | (with_reducible exact ih3 _ _ _ _ _ _ _)
      | (with_reducible exact ih4 _ _ _ _ _ _ _ _)
      | (with_reducible exact ih5 _ _ _ _ _ _ _ _ _)
      | (with_reducible exact glossaryref02_Of.mono _ _)
      | (with_reducible exact LeO.refl _)
      | (with_reducible exact LeO.none _)
      | (with_reducible refine LeO.ite ?_ ?_)
      | (with_reducible refine LeO.bind ?_ (fun _ => ?_))
      | exact ih0 _ _ _ _
      | exact ih1 _ _ _ _ _ _ _
      | exact ih2 _ _ _ _ _ _ _ _
      | exact ih3 _ _ _ _ _ _ _
      | exact ih4 _ _ _ _ _ _ _ _
      | exact ih5 _ _ _ _ _ _ _ _ _
      | exact glossaryref02_Of.mono _ _
      | exact LeO.none _
      | refine LeO.ite ?_ ?_
      | refine LeO.bind ?_ (fun _ => ?_)
    · intro y0 y1 y2 y3 y4 y5 y6
      unfold glossaryref28_Like.j1
      repeat' first
      | (with_reducible exact ih0 _ _ _ _)
      | (with_reducible exact ih1 _ _ _ _ _ _ _)
      | (with_reducible exact ih2 _ _ _ _ _ _ _ _)
      | (with_reducible exact ih3 _ _ _ _ _ _ _)
      | (with_reducible exact ih4 _ _ _ _ _ _ _ _)
      | (with_reducible exact ih5 _ _ _ _ _ _ _ _ _)
      | (with_reducible exact glossaryref02_Of.mono _ _)
      | (with_reducible exact LeO.refl _)
      | (with_reducible exact LeO.none _)
      | (with_reducible refine LeO.ite ?_ ?_)
      | (with_reducible refine LeO.bind ?_ (fun _ => ?_))
      | exact ih0 _ _ _ _
      | exact ih1 _ _ _ _ _ _ _
      | exact ih2 _ _ _ _ _ _ _ _
      | exact ih3 _ _ _ _ _ _ _
      | exact ih4 _ _ _ _ _ _ _ _
      | exact ih5 _ _ _ _ _ _ _ _ _
      | exact glossaryref02_Of.mono _ _
      | exact LeO.none _
      | refine LeO.ite ?_ ?_
      | refine LeO.bind ?_ (fun _ => ?_)
    · intro y0 y1 y2 y3 y4 y5 y6 y7
      unfold glossaryref28_Like.j2
      repeat' first
      | (with_reducible exact ih0 _ _ _ _)
      | (with_reducible exact ih1 _ _ _ _ _ _ _)
      | (with_reducible exact ih2 _ _ _ _ _ _ _ _)
      | (with_reducible exact ih3 _ _ _ _ _ _ _)
      | (with_reducible exact ih4 _ _ _ _ _ _ _ _)
      | (with_reducible exact ih5 _ _ _ _ _ _ _ _ _)
      | (with_reducible exact glossaryref02_Of.mono _ _)
      | (with_reducible exact LeO.refl _)
      | (with_reducible exact LeO.none _)
      | (with_reducible refine LeO.ite ?_ ?_)
      | (with_reducible refine LeO.bind ?_ (fun _ => ?_))
      | exact ih0 _ _ _ _
      | exact ih1 _ _ _ _ _ _ _
      | exact ih2 _ _ _ _ _ _ _ _
      | exact ih3 _ _ _ _ _ _ _
      | exact ih4 _ _ _ _ _ _ _ _
      | exact ih5 _ _ _ _ _ _ _ _ _
      | exact glossaryref02_Of.mono _ _
      | exact LeO.none _
      | refine LeO.ite ?_ ?_
      | refine LeO.bind ?_ (fun _ => ?_)
    · intro y0 y1 y2 y3 y4 y5 y6
      unfold glossaryref28_Like.j3
      repeat' first
      | (with_reducible exact ih0 _ _ _ _)
      | (with_reducible exact ih1 _ _ _ _ _ _ _)
      | (with_reducible exact ih2 _ _ _ _ _ _ _ _)
      | (with_reducible exact ih3 _ _ _ _ _ _ _)
      | (with_reducible exact ih4 _ _ _ _ _ _ _ _)
      | (with_reducible exact ih5 _ _ _ _ _ _ _ _ _)
      | (with_reducible exact glossaryref02_Of.mono _ _)
      | (with_reducible exact LeO.refl _)
      | (with_reducible exact LeO.none _)
      | (with_reducible refine LeO.ite ?_ ?_)
      | (with_reducible refine LeO.bind ?_ (fun _ => ?_))
      | exact ih0 _ _ _ _
      | exact ih1 _ _ _ _ _ _ _
      | exact ih2 _ _ _ _ _ _ _ _
      | exact ih3 _ _ _ _ _ _ _
      | exact ih4 _ _ _ _ _ _ _ _
      | exact ih5 _ _ _ _ _ _ _ _ _
      | exact glossaryref02_Of.mono _ _
      | exact LeO.none _
      | refine LeO.ite ?_ ?_
      | refine LeO.bind ?_ (fun _ => ?_)
    · intro y0 y1 y2 y3 y4 y5 y6 y7
      unfold glossaryref28_Like.l1
      repeat' first
      | (with_reducible exact ih0 _ _ _ _)
      | (with_reducible exact ih1 _ _ _ _ _ _ _)
      | (with_reducible exact ih2 _ _ _ _ _ _ _ _)
      | (with_reducible exact ih3 _ _ _ _ _ _ _)
      | (with_reducible exact ih4 _ _ _ _ _ _ _ _)
      | (with_reducible exact ih5 _ _ _ _ _ _ _ _ _)
      | (with_reducible exact glossaryref02_Of.mono _ _)
      | (with_reducible exact LeO.refl _)
      | (with_reducible exact LeO.none _)
      | (with_reducible refine LeO.ite ?_ ?_)
      | (with_reducible refine LeO.bind ?_ (fun _ => ?_))
      | exact ih0 _ _ _ _
      | exact ih1 _ _ _ _ _ _ _
      | exact ih2 _ _ _ _ _ _ _ _
      | exact ih3 _ _ _ _ _ _ _
      | exact ih4 _ _ _ _ _ _ _ _
      | exact ih5 _ _ _ _ _ _ _ _ _
      | exact glossaryref02_Of.mono _ _
      | exact LeO.none _
      | refine LeO.ite ?_ ?_
      | refine LeO.bind ?_ (fun _ => ?_)
    · intro y0 y1 y2 y3 y4 y5 y6 y7 y8
      unfold glossaryref28_Like.j5
      repeat' first
      | (with_reducible exact ih0 _ _ _ _)
      | (with_reducible exact ih1 _ _ _ _ _ _ _)
      | (with_reducible exact ih2 _ _ _ _ _ _ _ _)
      | (with_reducible exact ih3 _ _ _ _ _ _ _)
      | (with_reducible exact ih4 _ _ _ _ _ _ _ _)
      | (with_reducible exact ih5 _ _ _ _ _ _ _ _ _)
      | (with_reducible exact glossaryref02_Of.mono _ _)
      | (with_reducible exact LeO.refl _)
      | (with_reducible exact LeO.none _)
      | (with_reducible refine LeO.ite ?_ ?_)
      | (with_reducible refine LeO.bind ?_ (fun _ => ?_))
      | exact ih0 _ _ _ _
      | exact ih1 _ _ _ _ _ _ _
      | exact ih2 _ _ _ _ _ _ _ _
      | exact ih3 _ _ _ _ _ _ _
      | exact ih4 _ _ _ _ _ _ _ _
      | exact ih5 _ _ _ _ _ _ _ _ _
      | exact glossaryref02_Of.mono _ _
      | exact LeO.none _
      | refine LeO.ite ?_ ?_
      | refine LeO.bind ?_ (fun _ => ?_)
theorem glossaryref28_Like.mono : ∀ a0 a1 k, LeO (glossaryref28_Like.f k a0 a1) (glossaryref28_Like.f (k + 1) a0 a1) := by
  intro a0 a1 k
  obtain ⟨ih0, ih1, ih2, ih3, ih4, ih5⟩ := glossaryref28_Like.mono_l k
  unfold glossaryref28_Like.f
  repeat' first
      | (with_reducible exact ih0 _ _ _ _)
      | (with_reducible exact ih1 _ _ _ _ _ _ _)
      | (with_reducible exact ih2 _ _ _ _ _ _ _ _)
      | (with_reducible exact ih3 _ _ _ _ _ _ _)
      | (with_reducible exact ih4 _ _ _ _ _ _ _ _)
      | (with_reducible exact ih5 _ _ _ _ _ _ _ _ _)
      | (with_reducible exact glossaryref02_Of.mono _ _)
      | (with_reducible exact LeO.refl _)
      | (with_reducible exact LeO.none _)
      | (with_reducible refine LeO.ite ?_ ?_)
      | (with_reducible refine LeO.bind ?_ (fun _ => ?_))
      | exact ih0 _ _ _ _
      | exact ih1 _ _ _ _ _ _ _
      | exact ih2 _ _ _ _ _ _ _ _
      | exact ih3 _ _ _ _ _ _ _
      | exact ih4 _ _ _ _ _ _ _ _
      | exact ih5 _ _ _ _ _ _ _ _ _
      | exact glossaryref02_Of.mono _ _
      | exact LeO.none _
      | refine LeO.ite ?_ ?_
      | refine LeO.bind ?_ (fun _ => ?_)
set_option maxHeartbeats 8000000 in
set_option maxRecDepth 100000 in
theorem glossaryref28_Like.calls (k : Nat) (a0 : ByteArray) (a1 : ByteArray) (r : Bool) (w : World) (h : glossaryref28_Like.f k a0 a1 = some r) :
    Calls Tryz.prog 19 #[.string a0, .string a1] w fun e w' => e = .returned (.bool r) ∧ Below w.heap.size w w' := by
  have HB := Aside0.mk (Below.refl w.heap.size w)
  have H : ((glossaryref02_Of.f k a0).bind fun t163 => ((glossaryref02_Of.f k a1).bind fun t166 => (if 0 ≤ (wrap64 ((t166.length : Int) + 1)) then (if (wrap64 ((t166.length : Int) + 1) : Int).toNat ≤ 281474976710656 then ((some (List.replicate (wrap64 ((t166.length : Int) + 1) : Int).toNat false : List Bool)).bind fun y169 => (if 0 < (y169.length : Int) then (glossaryref28_Like.l0 k t163 t166 (y169.set (0 : Int).toNat true) 0) else (none))) else (none)) else (none)))) = some r := h
  clear h
  replace H := Option.bind_eq_some_iff.mp H
  obtain ⟨t163, A30, H⟩ := H
  replace H : ((glossaryref02_Of.f k a1).bind fun t166 => (if 0 ≤ (wrap64 ((t166.length : Int) + 1)) then (if (wrap64 ((t166.length : Int) + 1) : Int).toNat ≤ 281474976710656 then ((some (List.replicate (wrap64 ((t166.length : Int) + 1) : Int).toNat false : List Bool)).bind fun y169 => (if 0 < (y169.length : Int) then (glossaryref28_Like.l0 k t163 t166 (y169.set (0 : Int).toNat true) 0) else (none))) else (none)) else (none))) = some r := H
  have A3 := Aside0.mk A30
  clear A30
  replace H := Option.bind_eq_some_iff.mp H
  obtain ⟨t166, A40, H⟩ := H
  replace H : (if 0 ≤ (wrap64 ((t166.length : Int) + 1)) then (if (wrap64 ((t166.length : Int) + 1) : Int).toNat ≤ 281474976710656 then ((some (List.replicate (wrap64 ((t166.length : Int) + 1) : Int).toNat false : List Bool)).bind fun y169 => (if 0 < (y169.length : Int) then (glossaryref28_Like.l0 k t163 t166 (y169.set (0 : Int).toNat true) 0) else (none))) else (none)) else (none)) = some r := H
  have A4 := Aside0.mk A40
  clear A40
  obtain ⟨ji5, hji5⟩ : ∃ j_ : Int, (wrap64 ((t166.length : Int) + 1)) = j_ := ⟨_, rfl⟩
  replace H : (if 0 ≤ (ji5) then (if (ji5 : Int).toNat ≤ 281474976710656 then ((some (List.replicate (ji5 : Int).toNat false : List Bool)).bind fun y169 => (if 0 < (y169.length : Int) then (glossaryref28_Like.l0 k t163 t166 (y169.set (0 : Int).toNat true) 0) else (none))) else (none)) else (none)) = some r := by first | (rw [hji5] at H; exact H) | (simp only [hji5] at H ⊢; exact H)
  (try rw [hji5] at A3)
  (try rw [hji5] at A4)
  have hji5w : (IntKind.i64.wrap ((t166.length : Int) + 1)) = ji5 := (i64_w _).trans hji5
  by_cases c6 : 0 ≤ (ji5)
  · rw [if_pos c6] at H
    have c6b0 := eq_true c6
    have c6b1 : decide (0 ≤ (ji5)) = true := decide_eq_true c6
    clear c6
    by_cases c7 : (ji5 : Int).toNat ≤ 281474976710656
    · rw [if_pos c7] at H
      have c7b0 := eq_true c7
      have c7b1 : decide ((ji5 : Int).toNat ≤ 281474976710656) = true := decide_eq_true c7
      clear c7
      obtain ⟨y169, hy169⟩ : ∃ y_ : List Bool, y_ = (List.replicate (ji5 : Int).toNat false) := ⟨_, rfl⟩
      replace H : (if 0 < (y169.length : Int) then (glossaryref28_Like.l0 k t163 t166 (y169.set (0 : Int).toNat true) 0) else (none)) = some r := by first | (rw [hy169]; with_reducible exact H) | (have H2_ := (Option.bind_some _ _).symm.trans H; rw [hy169]; with_reducible exact H2_) | (have H2_ := (Option.bind_some _ _).symm.trans H; with_reducible exact H2_) | with_reducible exact H | (rw [hy169]; exact H) | exact H
      have Ny169 := Aside0.mk hy169
      clear hy169
      by_cases c8 : 0 < (y169.length : Int)
      · rw [if_pos c8] at H
        have c8b0 : decide (0 < (y169.length : Int)) = true := decide_eq_true c8
        have c8b1 : decide (0 < y169.length) = true := decide_eq_true (by omega)
        clear c8
        obtain ⟨y172, hy172⟩ : ∃ y_ : List Bool, y_ = (y169.set (0 : Int).toNat true) := ⟨_, rfl⟩
        replace H : (glossaryref28_Like.l0 k t163 t166 y172 0) = some r := by first | (rw [hy172]; with_reducible exact H) | (have H2_ := (Option.bind_some _ _).symm.trans H; rw [hy172]; with_reducible exact H2_) | (have H2_ := (Option.bind_some _ _).symm.trans H; with_reducible exact H2_) | with_reducible exact H | (rw [hy172]; exact H) | exact H
        have Ny172 := Aside0.mk hy172
        clear hy172
        have H' := Aside0.mk H
        clear H
        go_enter Tryz.func19, Tryz.ntmps19
        go_wp2_with (first | ((with_reducible refine gate_callee (f := 50) rfl ?_); refine goesL_ (some 14) rfl rfl Tryz.func50 (by kernel_rfl) rfl #[.string a0] rfl (by (try simp only [List.map_toArray, List.map_cons, List.map_nil]); first | done | rfl | (simp only [List.length_drop, List.length_take]; rfl)) ?_; (with_reducible refine (glossaryref02_Of.calls k a0 t163 _ A3.out).mono ?_); rintro e w10 ⟨v164, rfl, ho0, hb⟩; refine ⟨_, rfl, ?_⟩; have n0_ := Aside0.mk (Kd.R_lower ho0 (below_size (by repeat (first | (with_reducible first | exact HB.out | apply below_alloc | apply pw_below_drewN | apply below_drew1) | exact HB.out)))); have n1_ := Aside0.mk (below_step (by repeat (first | (with_reducible first | exact HB.out | apply below_alloc | apply pw_below_drewN | apply below_drew1) | exact HB.out)) hb); clear HB; have HO165 := n0_; have HB := n1_; clear n0_ n1_; (try clear hb); (try clear hb2); (try clear hk); (try clear hi); (try clear ho0)) | ((with_reducible refine gate_callee (f := 50) rfl ?_); refine goesL_ (some 16) rfl rfl Tryz.func50 (by kernel_rfl) rfl #[.string a1] rfl (by (try simp only [List.map_toArray, List.map_cons, List.map_nil]); first | done | rfl | (simp only [List.length_drop, List.length_take]; rfl)) ?_; (with_reducible refine (glossaryref02_Of.calls k a1 t166 _ A4.out).mono ?_); rintro e w11 ⟨v167, rfl, ho0, hb⟩; refine ⟨_, rfl, ?_⟩; have n0_ := Aside0.mk (Kd.R_elder' (by (with_reducible repeat (first | apply Kd.R_alloc | apply Kd.R_drewN | apply Kd.R_drew)); exact HO165.out) (Kd.R_base ho0) hb); have n1_ := Aside0.mk (Kd.R_lower (Kd.R_new' ho0 (Kd.R_lt (by (with_reducible repeat (first | apply Kd.R_alloc | apply Kd.R_drewN | apply Kd.R_drew)); exact HO165.out))) (below_size (by repeat (first | (with_reducible first | exact HB.out | apply below_alloc | apply pw_below_drewN | apply below_drew1) | exact HB.out)))); have n2_ := Aside0.mk (below_step (by repeat (first | (with_reducible first | exact HB.out | apply below_alloc | apply pw_below_drewN | apply below_drew1) | exact HB.out)) hb); clear HO165; clear HB; have HO165 := n0_; have HO168 := n1_; have HB := n2_; clear n0_ n1_ n2_; (try clear hb); (try clear hb2); (try clear hk); (try clear hi); (try clear ho0); obtain ⟨Ao12, co12, eo12⟩ := Kd.R_slice HO168.out; subst eo12) | ((with_reducible refine gate_dst (N := 20) rfl ?_); (try (refine gate_guard (by rfl) ?_; dsimp only)); refine Kd.R_make Kd.bool _ 4 rfl (N := 20) rfl 80 _ _ rfl ji5 rfl rfl Tryz.underlying80 (.bool false) 1 info4 rfl (by decide) (by omega) false (ok := fun _ => True) (okp := fun _ => True) rfl (fun _ hk => hk) trivial (of_decide_eq_true (by first | (with_reducible assumption) | assumption)) (Nat.le_trans (Nat.mul_le_mul_right _ (of_decide_eq_true (by first | (with_reducible assumption) | assumption) : ji5.toNat ≤ 281474976710656)) (by omega)) (Below.refl _ _) (Nat.le_refl _) ?_; intro v170 w13 ho14 hb hg_ hnew_; clear hg_ hnew_; (first | rw [← Ny169.out] at ho14 | (simp only [Int.reduceToNat] at ho14; rw [← Ny169.out] at ho14)); have n0_ := Aside0.mk (Kd.R_below (by (with_reducible repeat (first | apply Kd.R_alloc | apply Kd.R_drewN | apply Kd.R_drew)); exact HO165.out) hb); have n1_ := Aside0.mk (Kd.R_below (by (with_reducible repeat (first | apply Kd.R_alloc | apply Kd.R_drewN | apply Kd.R_drew)); exact HO168.out) hb); have n2_ := Aside0.mk (Kd.R_lower ho14 (below_size (by repeat (first | (with_reducible first | exact HB.out | apply below_alloc | apply pw_below_drewN | apply below_drew1) | exact HB.out)))); have n3_ := Aside0.mk (below_step (by repeat (first | (with_reducible first | exact HB.out | apply below_alloc | apply pw_below_drewN | apply below_drew1) | exact HB.out)) hb); clear HO165; clear HO168; clear HB; have HO165 := n0_; have HO168 := n1_; have HO171 := n2_; have HB := n3_; clear n0_ n1_ n2_ n3_; clear hb ho14; have p9 : 0 ≤ (0 : Int) := (by omega); have q9 : (0 : Int) < ((y169.length : Int) : Int) := of_decide_eq_true (by first | (with_reducible assumption) | assumption); have qi9 : (0 < y169.length) = True := eq_true (by omega); obtain ⟨go9, co9, eo9, gb9, gl9, cl9, HG9⟩ := Kd.R_form HO171.out (by omega); (first | cases eo9 | (injection eo9 with ea_ en_ ec_; (first | subst ea_ | (injection ea_ with ea_; subst ea_)); subst ec_; clear en_)); have GB9 := Aside0.mk gb9; have GG9 := Aside0.mk HG9; clear gb9 gl9 HG9; obtain ⟨hx9_0, hf9_0⟩ := Kd.R_celln false HO171.out (0 : Int) p9 q9; (try rw [show ((0 : Int)).toNat = 0 from rfl] at hx9_0); (try simp only [Nat.reduceMul, Nat.zero_mul, Nat.zero_add, Nat.reduceAdd] at hx9_0); (try rw [show ((0 : Int)).toNat = 0 from rfl] at hf9_0); (try simp only [Nat.reduceMul, Nat.zero_mul, Nat.zero_add, Nat.reduceAdd] at hf9_0); replace p9 := eq_true p9; replace q9 := eq_true q9; obtain ⟨hy15_, hz15_⟩ := Kd.R_celln false HO171.out (0 : Int) (by omega) (of_decide_eq_true (by first | (with_reducible assumption) | assumption)); (try simp only [Int.reduceToNat, Int.toNat_zero, Int.toNat_ofNat, Nat.reduceMul, Nat.zero_mul, Nat.zero_add] at hy15_ hz15_); (try rw [show ((0 : Int)).toNat = 0 from rfl] at hy15_); (try rw [show ((0 : Int)).toNat = 0 from rfl] at hz15_); have HP15 := Kd.R_putg HO171.out (0 : Int) true) | ((with_reducible refine gate_store (t := 4) (p := 22) rfl ?_); refine store_event (t := 4) (p := 22) (v := ?vo_w16) (w1 := (w13.setCell ⟨go9, (0 : Int).toNat, none⟩ (.bool true))) ?hg ?ho ?hn ?hr ?_; (case ho => rfl); (case hg => rfl); (case hn => rfl); (case hr => first | (go_simp; done) | (go_simp; rfl)); intro w16 hw; have hg : w13.grownBy w16 (some go9) := (by rw [hw]; exact HP15.2); have hp_ : Kd.R Kd.bool 4 w16 w.heap.size (fun _ => True) (.slice (some ⟨go9, 0, none⟩) y169.length co9) y172 := (by rw [hw, Ny172.out]; exact HP15.1); clear HP15; have n0_ := Aside0.mk (Kd.R_over' (v := (.slice (some ⟨go9, 0, none⟩) y169.length co9)) (by (with_reducible repeat (first | apply Kd.R_alloc | apply Kd.R_drewN | apply Kd.R_drew)); exact HO165.out) (Kd.R_typed HO171.out) (by decide) hg); have n1_ := Aside0.mk (Kd.R_over' (v := (.slice (some ⟨go9, 0, none⟩) y169.length co9)) (by (with_reducible repeat (first | apply Kd.R_alloc | apply Kd.R_drewN | apply Kd.R_drew)); exact HO168.out) (Kd.R_typed HO171.out) (by decide) hg); have n2_ := Aside0.mk (hp_); have n3_ := Aside0.mk ((by rw [hw]; exact below_set (HB.out) GB9.out : Below w.heap.size w w16)); clear HO165; clear HO168; clear HO171; clear HB; have HO165 := n0_; have HO168 := n1_; have HO171 := n2_; have HB := n3_; clear n0_ n1_ n2_ n3_; clear hg hw hp_))
        go_loopg [7, 8] k (fun kq v7 v8 w' => ∃ (x7_1 : List Bool) (x8_1 : Int), v8 = .int .i64 x8_1 ∧ Aside0 (glossaryref28_Like.l0 kq t163 t166 x7_1 x8_1 = some r) ∧ Aside0 (kq ≤ k) ∧ Aside0 (Kd.R (Kd.int .i32) 21 w' w.heap.size (fun k_ => some k_ ≠ ((.slice Ao12 t166.length co12) : Value).ownBlock) v164 t163) ∧ Aside0 (Kd.R (Kd.int .i32) 21 w' w.heap.size (fun k_ => some k_ ≠ (v164 : Value).ownBlock) (.slice Ao12 t166.length co12) t166) ∧ Aside0 (Kd.R Kd.bool 4 w' w.heap.size (fun _ => True) v7 x7_1) ∧ Aside0 (Below w.heap.size w w'))
        case atStart => exact ⟨(y172), (0), (by first | rfl | (simp; done) | (simp [*]; done)), H', ⟨Nat.le_refl _⟩, ⟨by (with_reducible repeat (first | apply Kd.R_alloc | apply Kd.R_drewN | apply Kd.R_drew)); exact Kd.R_mono HO165.out (fun _ hk => hk.2)⟩, ⟨by (with_reducible repeat (first | apply Kd.R_alloc | apply Kd.R_drewN | apply Kd.R_drew)); exact Kd.R_mono HO168.out (fun _ hk => hk.2)⟩, ⟨by (with_reducible repeat (first | apply Kd.R_alloc | apply Kd.R_drewN | apply Kd.R_drew)); exact HO171.out⟩, ⟨by repeat (first | (with_reducible first | exact HB.out | apply below_alloc | apply pw_below_drewN | apply below_drew1) | exact HB.out)⟩⟩
        case round =>
          clear H'
          try clear c1
          try clear p2
          try clear c5
          try clear c6
          try clear c6b0
          try clear c6b1
          try clear p6
          try clear c7
          try clear c7b0
          try clear c7b1
          try clear c8
          try clear c8b0
          try clear c8b1
          try clear p9
          try clear q9
          try clear hx9
          try clear qi9
          try clear hf9
          try clear hx9_0
          try clear p9
          try clear q9
          obtain ⟨x7_1, x8_1, rfl, HA, HK1, HO_5, HO_6, HO_7, HB⟩ := hrel
          cases gk with
          | zero => exact absurd HA.out (by simp [glossaryref28_Like.l0])
          | succ k1 =>
            have H := HA.out
            clear HA
            simp only [glossaryref28_Like.l0] at H
            by_cases c17 : x8_1 < (t163.length : Int)
            · rw [if_pos c17] at H
              have c17b0 : decide (x8_1 < (t163.length : Int)) = true := decide_eq_true c17
              clear c17
              obtain ⟨ji18, hji18⟩ : ∃ j_ : Int, (wrap64 ((t166.length : Int) + 1)) = j_ := ⟨_, rfl⟩
              replace H : (if 0 ≤ (ji18) then (if (ji18 : Int).toNat ≤ 281474976710656 then ((some (List.replicate (ji18 : Int).toNat false : List Bool)).bind fun y174 => (if 0 ≤ x8_1 then (if (rd t163 x8_1) = 42 then (glossaryref28_Like.j1 k1 t163 t166 x7_1 x8_1 y174 (rd t163 x8_1) false) else (glossaryref28_Like.j1 k1 t163 t166 x7_1 x8_1 y174 (rd t163 x8_1) ((rd t163 x8_1) != 63))) else (none))) else (none)) else (none)) = some r := by first | (rw [hji18] at H; exact H) | (simp only [hji18] at H ⊢; exact H)
              have hji18w : (IntKind.i64.wrap ((t166.length : Int) + 1)) = ji18 := (i64_w _).trans hji18
              have hjj : ji18 = ji5 := hji18.symm.trans hji5
              subst hjj
              by_cases c19 : 0 ≤ (ji18)
              · rw [if_pos c19] at H
                have c19b0 := eq_true c19
                have c19b1 : decide (0 ≤ (ji18)) = true := decide_eq_true c19
                clear c19
                by_cases c20 : (ji18 : Int).toNat ≤ 281474976710656
                · rw [if_pos c20] at H
                  have c20b0 := eq_true c20
                  have c20b1 : decide ((ji18 : Int).toNat ≤ 281474976710656) = true := decide_eq_true c20
                  clear c20
                  obtain ⟨y174, hy174⟩ : ∃ y_ : List Bool, y_ = (List.replicate (ji18 : Int).toNat false) := ⟨_, rfl⟩
                  replace H : (if 0 ≤ x8_1 then (if (rd t163 x8_1) = 42 then (glossaryref28_Like.j1 k1 t163 t166 x7_1 x8_1 y174 (rd t163 x8_1) false) else (glossaryref28_Like.j1 k1 t163 t166 x7_1 x8_1 y174 (rd t163 x8_1) ((rd t163 x8_1) != 63))) else (none)) = some r := by first | (rw [hy174]; with_reducible exact H) | (have H2_ := (Option.bind_some _ _).symm.trans H; rw [hy174]; with_reducible exact H2_) | (have H2_ := (Option.bind_some _ _).symm.trans H; with_reducible exact H2_) | with_reducible exact H | (rw [hy174]; exact H) | exact H
                  have Ny174 := Aside0.mk hy174
                  clear hy174
                  by_cases c21 : 0 ≤ x8_1
                  · rw [if_pos c21] at H
                    have c21b0 : decide (0 ≤ x8_1) = true := decide_eq_true c21
                    clear c21
                    have HC22 := Aside0.mk H
                    clear H
                    obtain ⟨Ao23, co23, eo23⟩ := Kd.R_slice HO_5.out
                    subst eo23
                    go_upto_region 10 with (first | ((with_reducible refine gate_dst (N := 32) rfl ?_); (try (refine gate_guard (by rfl) ?_; dsimp only)); refine Kd.R_make Kd.bool _ 4 rfl (N := 32) rfl 80 _ _ rfl ji18 rfl rfl Tryz.underlying80 (.bool false) 1 info4 rfl (by decide) (by omega) false (ok := fun _ => True) (okp := fun _ => True) rfl (fun _ hk => hk) trivial (of_decide_eq_true (by first | (with_reducible assumption) | assumption)) (Nat.le_trans (Nat.mul_le_mul_right _ (of_decide_eq_true (by first | (with_reducible assumption) | assumption) : ji18.toNat ≤ 281474976710656)) (by omega)) (Below.refl _ _) (Nat.le_refl _) ?_; intro v175 w24 ho25 hb hg_ hnew_; clear hg_ hnew_; (first | rw [← Ny174.out] at ho25 | (simp only [Int.reduceToNat] at ho25; rw [← Ny174.out] at ho25)); have n0_ := Aside0.mk (Kd.R_below (by (with_reducible repeat (first | apply Kd.R_alloc | apply Kd.R_drewN | apply Kd.R_drew)); exact HO_5.out) hb); have n1_ := Aside0.mk (Kd.R_below (by (with_reducible repeat (first | apply Kd.R_alloc | apply Kd.R_drewN | apply Kd.R_drew)); exact HO_6.out) hb); have n2_ := Aside0.mk (Kd.R_elder' (by (with_reducible repeat (first | apply Kd.R_alloc | apply Kd.R_drewN | apply Kd.R_drew)); exact HO_7.out) (Kd.R_base ho25) hb); have n3_ := Aside0.mk (Kd.R_lower (Kd.R_new' ho25 (Kd.R_lt (by (with_reducible repeat (first | apply Kd.R_alloc | apply Kd.R_drewN | apply Kd.R_drew)); exact HO_7.out))) (below_size (by repeat (first | (with_reducible first | exact HB.out | apply below_alloc | apply pw_below_drewN | apply below_drew1) | exact HB.out)))); have n4_ := Aside0.mk (below_step (by repeat (first | (with_reducible first | exact HB.out | apply below_alloc | apply pw_below_drewN | apply below_drew1) | exact HB.out)) hb); clear HO_5; clear HO_6; clear HO_7; clear HB; have HO_5 := n0_; have HO_6 := n1_; have HO_7 := n2_; have HO176 := n3_; have HB := n4_; clear n0_ n1_ n2_ n3_ n4_; clear hb ho25; have p177 : 0 ≤ (x8_1 : Int) := of_decide_eq_true (by first | (with_reducible assumption) | assumption); have q177 : x8_1 < (t163.length : Int) := of_decide_eq_true (by first | (with_reducible assumption) | assumption); obtain ⟨ad177, e177, hx177_0⟩ := Kd.at_int (Kd.R_reads' HO_5.out).2.2 x8_1 p177 q177; cases e177; replace p177 := eq_true p177; replace q177 := eq_true q177))
                    (try simp only [Act.put, List.setIfInBounds_toArray, List.set_cons_zero, List.set_cons_succ])
                    go_cut [11] (fun v11 wc => ∃ (kq : Nat) (x11_21 : Bool), v11 = .bool x11_21 ∧ Aside0 (glossaryref28_Like.j1 kq t163 t166 x7_1 x8_1 y174 (rd t163 x8_1) x11_21 = some r) ∧ Aside0 (kq ≤ k1) ∧ Aside0 (Kd.R (Kd.int .i32) 21 wc w.heap.size (fun k_ => some k_ ≠ ((.slice Ao12 t166.length co12) : Value).ownBlock) (.slice (some ad177) t163.length co23) t163) ∧ Aside0 (Kd.R (Kd.int .i32) 21 wc w.heap.size (fun k_ => some k_ ≠ ((.slice (some ad177) t163.length co23) : Value).ownBlock) (.slice Ao12 t166.length co12) t166) ∧ Aside0 (Kd.R Kd.bool 4 wc w.heap.size (fun k_ => some k_ ≠ (v175 : Value).ownBlock) u7 x7_1) ∧ Aside0 (Kd.R Kd.bool 4 wc w.heap.size (fun k_ => some k_ ≠ (u7 : Value).ownBlock) v175 y174) ∧ Aside0 (Below w.heap.size w wc))
                    case first =>
                      have H := HC22.out
                      clear HC22
                      by_cases c26 : (rd t163 x8_1) = 42
                      · rw [if_pos c26] at H
                        have c26b0 : ((rd t163 x8_1) == 42) = true := beq_iff_eq.mpr c26
                        have c26b1 : ((rd t163 x8_1) != 42) = false := bne_eq_false_iff_eq.mpr c26
                        clear c26
                        (first | rw [c26b0] | (simp only [i64_w, i32_w]; rw [c26b0]) | skip)
                        have H' := Aside0.mk H
                        clear H
                        go_wp2
                        go_meet
                        case rel => exact ⟨_, (false), (by first | rfl | (simp; done) | (simp [*]; done)), H', ⟨by have := HK1.out; first | omega | exact Nat.le_refl _⟩, ⟨by (with_reducible repeat (first | apply Kd.R_alloc | apply Kd.R_drewN | apply Kd.R_drew)); exact HO_5.out⟩, ⟨by (with_reducible repeat (first | apply Kd.R_alloc | apply Kd.R_drewN | apply Kd.R_drew)); exact HO_6.out⟩, ⟨by (with_reducible repeat (first | apply Kd.R_alloc | apply Kd.R_drewN | apply Kd.R_drew)); exact Kd.R_mono HO_7.out (fun _ hk => hk.2)⟩, ⟨by (with_reducible repeat (first | apply Kd.R_alloc | apply Kd.R_drewN | apply Kd.R_drew)); exact Kd.R_mono HO176.out (fun _ hk => hk.2)⟩, ⟨by repeat (first | (with_reducible first | exact HB.out | apply below_alloc | apply pw_below_drewN | apply below_drew1) | exact HB.out)⟩⟩
                      · rw [if_neg c26] at H
                        have c26b0 : ((rd t163 x8_1) == 42) = false := beq_eq_false_iff_ne.mpr c26
                        have c26b1 : ((rd t163 x8_1) != 42) = true := bne_iff_ne.mpr c26
                        (first | rw [c26b0] | (simp only [i64_w, i32_w]; rw [c26b0]) | skip)
                        have H' := Aside0.mk H
                        clear H
                        go_wp2
                        go_meet
                        case rel => exact ⟨_, (((rd t163 x8_1) != 63)), (by first | rfl | (simp; done) | (simp [*]; done)), H', ⟨by have := HK1.out; first | omega | exact Nat.le_refl _⟩, ⟨by (with_reducible repeat (first | apply Kd.R_alloc | apply Kd.R_drewN | apply Kd.R_drew)); exact HO_5.out⟩, ⟨by (with_reducible repeat (first | apply Kd.R_alloc | apply Kd.R_drewN | apply Kd.R_drew)); exact HO_6.out⟩, ⟨by (with_reducible repeat (first | apply Kd.R_alloc | apply Kd.R_drewN | apply Kd.R_drew)); exact Kd.R_mono HO_7.out (fun _ hk => hk.2)⟩, ⟨by (with_reducible repeat (first | apply Kd.R_alloc | apply Kd.R_drewN | apply Kd.R_drew)); exact Kd.R_mono HO176.out (fun _ hk => hk.2)⟩, ⟨by repeat (first | (with_reducible first | exact HB.out | apply below_alloc | apply pw_below_drewN | apply below_drew1) | exact HB.out)⟩⟩
                    case rest =>
                      clear HC22
                      try clear c1
                      try clear p1
                      try clear q1
                      try clear hx1
                      try clear c2
                      try clear p2
                      try clear c5
                      try clear c6
                      try clear c6b0
                      try clear c6b1
                      try clear p6
                      try clear c7
                      try clear c7b0
                      try clear c7b1
                      try clear c8
                      try clear c8b0
                      try clear c8b1
                      try clear p9
                      try clear q9
                      try clear hx9
                      try clear qi9
                      try clear hf9
                      try clear c17
                      try clear c17b0
                      try clear p17
                      try clear q17
                      try clear hx17
                      try clear c19
                      try clear c19b0
                      try clear c19b1
                      try clear c20
                      try clear c20b0
                      try clear c20b1
                      try clear c21
                      try clear c21b0
                      try clear c26
                      try clear c26b0
                      try clear c26b1
                      try clear hx177_0
                      try clear hx9_0
                      try clear p177
                      try clear p2
                      try clear p6
                      try clear p9
                      try clear q177
                      try clear q9
                      obtain ⟨kq, x11_21, rfl, HA, HJ21, HO_5, HO_6, HO_7, HO_9, HB⟩ := hcut
                      cases kq with
                      | zero => exact absurd HA.out (by simp [glossaryref28_Like.j1])
                      | succ kj21 =>
                        have H := HA.out
                        clear HA
                        simp only [glossaryref28_Like.j1] at H
                        have HC27 := Aside0.mk H
                        clear H
                        go_upto_region 11 with (fail)
                        go_cut [51] (fun v51 wc => ∃ (kq : Nat) (x51_26 : Bool), v51 = .bool x51_26 ∧ Aside0 (glossaryref28_Like.j2 kq t163 t166 x7_1 x8_1 y174 (rd t163 x8_1) x11_21 x51_26 = some r) ∧ Aside0 (kq ≤ kj21) ∧ Aside0 (Kd.R (Kd.int .i32) 21 wc w.heap.size (fun k_ => some k_ ≠ ((.slice Ao12 t166.length co12) : Value).ownBlock) (.slice (some ad177) t163.length co23) t163) ∧ Aside0 (Kd.R (Kd.int .i32) 21 wc w.heap.size (fun k_ => some k_ ≠ ((.slice (some ad177) t163.length co23) : Value).ownBlock) (.slice Ao12 t166.length co12) t166) ∧ Aside0 (Kd.R Kd.bool 4 wc w.heap.size (fun k_ => some k_ ≠ (v175 : Value).ownBlock) u7 x7_1) ∧ Aside0 (Kd.R Kd.bool 4 wc w.heap.size (fun k_ => some k_ ≠ (u7 : Value).ownBlock) v175 y174) ∧ Aside0 (Below w.heap.size w wc))
                        case first =>
                          have H := HC27.out
                          clear HC27
                          by_cases c28 : (rd t163 x8_1) = 92
                          · rw [if_pos c28] at H
                            have c28b0 : ((rd t163 x8_1) == 92) = true := beq_iff_eq.mpr c28
                            have c28b1 : ((rd t163 x8_1) != 92) = false := bne_eq_false_iff_eq.mpr c28
                            clear c28
                            (first | rw [c28b0] | (simp only [i64_w, i32_w]; rw [c28b0]) | skip)
                            have H' := Aside0.mk H
                            clear H
                            go_wp2
                            go_meet
                            case rel => exact ⟨_, (decide ((wrap64 (x8_1 + 1)) < (t163.length : Int))), (by first | rfl | (simp; done) | (simp [*]; done)), H', ⟨by have := HK1.out; have := HJ21.out; first | omega | exact Nat.le_refl _⟩, ⟨by (with_reducible repeat (first | apply Kd.R_alloc | apply Kd.R_drewN | apply Kd.R_drew)); exact HO_5.out⟩, ⟨by (with_reducible repeat (first | apply Kd.R_alloc | apply Kd.R_drewN | apply Kd.R_drew)); exact HO_6.out⟩, ⟨by (with_reducible repeat (first | apply Kd.R_alloc | apply Kd.R_drewN | apply Kd.R_drew)); exact HO_7.out⟩, ⟨by (with_reducible repeat (first | apply Kd.R_alloc | apply Kd.R_drewN | apply Kd.R_drew)); exact HO_9.out⟩, ⟨by repeat (first | (with_reducible first | exact HB.out | apply below_alloc | apply pw_below_drewN | apply below_drew1) | exact HB.out)⟩⟩
                          · rw [if_neg c28] at H
                            have c28b0 : ((rd t163 x8_1) == 92) = false := beq_eq_false_iff_ne.mpr c28
                            have c28b1 : ((rd t163 x8_1) != 92) = true := bne_iff_ne.mpr c28
                            (first | rw [c28b0] | (simp only [i64_w, i32_w]; rw [c28b0]) | skip)
                            have H' := Aside0.mk H
                            clear H
                            go_wp2
                            go_meet
                            case rel => exact ⟨_, (false), (by first | rfl | (simp; done) | (simp [*]; done)), H', ⟨by have := HK1.out; have := HJ21.out; first | omega | exact Nat.le_refl _⟩, ⟨by (with_reducible repeat (first | apply Kd.R_alloc | apply Kd.R_drewN | apply Kd.R_drew)); exact HO_5.out⟩, ⟨by (with_reducible repeat (first | apply Kd.R_alloc | apply Kd.R_drewN | apply Kd.R_drew)); exact HO_6.out⟩, ⟨by (with_reducible repeat (first | apply Kd.R_alloc | apply Kd.R_drewN | apply Kd.R_drew)); exact HO_7.out⟩, ⟨by (with_reducible repeat (first | apply Kd.R_alloc | apply Kd.R_drewN | apply Kd.R_drew)); exact HO_9.out⟩, ⟨by repeat (first | (with_reducible first | exact HB.out | apply below_alloc | apply pw_below_drewN | apply below_drew1) | exact HB.out)⟩⟩
                        case rest =>
                          clear HC27
                          try clear c1
                          try clear p1
                          try clear q1
                          try clear hx1
                          try clear c2
                          try clear p2
                          try clear c5
                          try clear c6
                          try clear c6b0
                          try clear c6b1
                          try clear p6
                          try clear c7
                          try clear c7b0
                          try clear c7b1
                          try clear c8
                          try clear c8b0
                          try clear c8b1
                          try clear p9
                          try clear q9
                          try clear hx9
                          try clear qi9
                          try clear hf9
                          try clear c17
                          try clear c17b0
                          try clear p17
                          try clear q17
                          try clear hx17
                          try clear c19
                          try clear c19b0
                          try clear c19b1
                          try clear c20
                          try clear c20b0
                          try clear c20b1
                          try clear c21
                          try clear c21b0
                          try clear c26
                          try clear c26b0
                          try clear c26b1
                          try clear c28
                          try clear c28b0
                          try clear c28b1
                          try clear hx177_0
                          try clear hx9_0
                          try clear p1
                          try clear p17
                          try clear p177
                          try clear p2
                          try clear p6
                          try clear p9
                          try clear q1
                          try clear q17
                          try clear q177
                          try clear q9
                          obtain ⟨kq, x51_26, rfl, HA, HJ26, HO_5, HO_6, HO_7, HO_9, HB⟩ := hcut
                          cases kq with
                          | zero => exact absurd HA.out (by simp [glossaryref28_Like.j2])
                          | succ kj26 =>
                            have H := HA.out
                            clear HA
                            simp only [glossaryref28_Like.j2] at H
                            have HC29 := Aside0.mk H
                            clear H
                            go_upto_if 51 with (fail)
                            go_cut [8, 10] (fun v8 v10 wc => ∃ (kq : Nat) (x8_28 : Int) (x10_28 : Int), v8 = .int .i64 x8_28 ∧ v10 = .int .i32 x10_28 ∧ Aside0 (glossaryref28_Like.j3 kq t163 t166 x7_1 x8_28 y174 x10_28 x11_21 = some r) ∧ Aside0 (kq ≤ kj26) ∧ Aside0 (Kd.R (Kd.int .i32) 21 wc w.heap.size (fun k_ => some k_ ≠ ((.slice Ao12 t166.length co12) : Value).ownBlock) (.slice (some ad177) t163.length co23) t163) ∧ Aside0 (Kd.R (Kd.int .i32) 21 wc w.heap.size (fun k_ => some k_ ≠ ((.slice (some ad177) t163.length co23) : Value).ownBlock) (.slice Ao12 t166.length co12) t166) ∧ Aside0 (Kd.R Kd.bool 4 wc w.heap.size (fun k_ => some k_ ≠ (v175 : Value).ownBlock) u7 x7_1) ∧ Aside0 (Kd.R Kd.bool 4 wc w.heap.size (fun k_ => some k_ ≠ (u7 : Value).ownBlock) v175 y174) ∧ Aside0 (Below w.heap.size w wc))
                            case first =>
                              have H := HC29.out
                              clear HC29
                              by_cases c30 : x51_26 = true
                              · subst c30
                                have H1 : (if 0 ≤ (wrap64 (x8_1 + 1)) then (if (wrap64 (x8_1 + 1)) < (t163.length : Int) then (glossaryref28_Like.j3 kj26 t163 t166 x7_1 (wrap64 (x8_1 + 1)) y174 (rd t163 (wrap64 (x8_1 + 1))) x11_21) else (none)) else (none)) = some r := by rw [if_pos rfl] at H; exact H
                                clear H
                                have H := H1
                                clear H1
                                obtain ⟨ji31, hji31⟩ : ∃ j_ : Int, (wrap64 (x8_1 + 1)) = j_ := ⟨_, rfl⟩
                                replace H : (if 0 ≤ (ji31) then (if (ji31) < (t163.length : Int) then (glossaryref28_Like.j3 kj26 t163 t166 x7_1 ji31 y174 (rd t163 (ji31)) x11_21) else (none)) else (none)) = some r := by first | (rw [hji31] at H; exact H) | (simp only [hji31] at H ⊢; exact H)
                                have hji31w : (IntKind.i64.wrap (x8_1 + 1)) = ji31 := (i64_w _).trans hji31
                                by_cases c32 : 0 ≤ (ji31)
                                · rw [if_pos c32] at H
                                  have c32b0 : decide (0 ≤ (ji31)) = true := decide_eq_true c32
                                  clear c32
                                  (first | rw [c32b0] | (simp only [i64_w, i32_w]; rw [c32b0]) | skip)
                                  by_cases c33 : (ji31) < (t163.length : Int)
                                  · rw [if_pos c33] at H
                                    have c33b0 : decide ((ji31) < (t163.length : Int)) = true := decide_eq_true c33
                                    clear c33
                                    have H' := Aside0.mk H
                                    clear H
                                    have p178 : 0 ≤ ((ji31) : Int) := of_decide_eq_true (by first | (with_reducible assumption) | assumption)
                                    have q178 : (ji31) < (t163.length : Int) := of_decide_eq_true (by first | (with_reducible assumption) | assumption)
                                    obtain ⟨ad178, e178, hx178_0⟩ := Kd.at_int (Kd.R_reads' HO_5.out).2.2 (ji31) p178 q178
                                    obtain rfl : ad177 = ad178 := (by injection e178)
                                    replace p178 := eq_true p178
                                    replace q178 := eq_true q178
                                    go_wp2
                                    go_meet
                                    case rel => exact ⟨_, (ji31), (rd t163 (ji31)), (by first | rfl | (simp; done) | (simp only [← hji31] <;> (first | rfl | simp)) | (simp [*]; done)), (by first | rfl | (simp; done) | (simp only [← hji31] <;> (first | rfl | simp)) | (simp [*]; done)), H', ⟨by have := HK1.out; have := HJ21.out; have := HJ26.out; first | omega | exact Nat.le_refl _⟩, ⟨by (with_reducible repeat (first | apply Kd.R_alloc | apply Kd.R_drewN | apply Kd.R_drew)); exact HO_5.out⟩, ⟨by (with_reducible repeat (first | apply Kd.R_alloc | apply Kd.R_drewN | apply Kd.R_drew)); exact HO_6.out⟩, ⟨by (with_reducible repeat (first | apply Kd.R_alloc | apply Kd.R_drewN | apply Kd.R_drew)); exact HO_7.out⟩, ⟨by (with_reducible repeat (first | apply Kd.R_alloc | apply Kd.R_drewN | apply Kd.R_drew)); exact HO_9.out⟩, ⟨by repeat (first | (with_reducible first | exact HB.out | apply below_alloc | apply pw_below_drewN | apply below_drew1) | exact HB.out)⟩⟩
                                  · rw [if_neg c33] at H
                                    exact absurd H (by simp)
                                · rw [if_neg c32] at H
                                  exact absurd H (by simp)
                              · replace c30 := Bool.eq_false_iff.mpr c30
                                subst c30
                                have H1 : (glossaryref28_Like.j3 kj26 t163 t166 x7_1 x8_1 y174 (rd t163 x8_1) x11_21) = some r := by rw [if_neg (show ¬ (false = true) by decide)] at H; exact H
                                clear H
                                have H := H1
                                clear H1
                                have H' := Aside0.mk H
                                clear H
                                go_wp2
                                go_meet
                                case rel => exact ⟨_, (x8_1), ((rd t163 x8_1)), (by first | rfl | (simp; done) | (simp [*]; done)), (by first | rfl | (simp; done) | (simp [*]; done)), H', ⟨by have := HK1.out; have := HJ21.out; have := HJ26.out; first | omega | exact Nat.le_refl _⟩, ⟨by (with_reducible repeat (first | apply Kd.R_alloc | apply Kd.R_drewN | apply Kd.R_drew)); exact HO_5.out⟩, ⟨by (with_reducible repeat (first | apply Kd.R_alloc | apply Kd.R_drewN | apply Kd.R_drew)); exact HO_6.out⟩, ⟨by (with_reducible repeat (first | apply Kd.R_alloc | apply Kd.R_drewN | apply Kd.R_drew)); exact HO_7.out⟩, ⟨by (with_reducible repeat (first | apply Kd.R_alloc | apply Kd.R_drewN | apply Kd.R_drew)); exact HO_9.out⟩, ⟨by repeat (first | (with_reducible first | exact HB.out | apply below_alloc | apply pw_below_drewN | apply below_drew1) | exact HB.out)⟩⟩
                            case rest =>
                              clear HC29
                              try clear c1
                              try clear p1
                              try clear q1
                              try clear hx1
                              try clear c2
                              try clear p2
                              try clear c3
                              try clear c5
                              try clear c6
                              try clear c6b0
                              try clear c6b1
                              try clear p6
                              try clear c7
                              try clear c7b0
                              try clear c7b1
                              try clear c8
                              try clear c8b0
                              try clear c8b1
                              try clear p9
                              try clear q9
                              try clear hx9
                              try clear qi9
                              try clear hf9
                              try clear c17
                              try clear c17b0
                              try clear p17
                              try clear q17
                              try clear hx17
                              try clear c19
                              try clear c19b0
                              try clear c19b1
                              try clear c20
                              try clear c20b0
                              try clear c20b1
                              try clear c21
                              try clear c21b0
                              try clear c26
                              try clear c26b0
                              try clear c26b1
                              try clear c28
                              try clear c28b0
                              try clear c28b1
                              try clear c30
                              try clear c32
                              try clear c32b0
                              try clear c33
                              try clear c33b0
                              try clear hx177_0
                              try clear hx178_0
                              try clear hx9_0
                              try clear p1
                              try clear p17
                              try clear p177
                              try clear p178
                              try clear p2
                              try clear p6
                              try clear p9
                              try clear q1
                              try clear q17
                              try clear q177
                              try clear q178
                              try clear q9
                              obtain ⟨kq, x8_28, x10_28, rfl, rfl, HA, HJ28, HO_5, HO_6, HO_7, HO_9, HB⟩ := hcut
                              cases kq with
                              | zero => exact absurd HA.out (by simp [glossaryref28_Like.j3])
                              | succ kj28 =>
                                have H := HA.out
                                clear HA
                                simp only [glossaryref28_Like.j3] at H
                                have H' := Aside0.mk H
                                clear H
                                go_wp2
                                go_loopg [12] kj28 (fun kq v12 w' => ∃ (x9_5 : List Bool) (x12_5 : Int), v12 = .int .i64 x12_5 ∧ Aside0 (glossaryref28_Like.l1 kq t163 t166 x7_1 x8_28 x9_5 x10_28 x11_21 x12_5 = some r) ∧ Aside0 (kq ≤ kj28) ∧ Aside0 (Kd.R (Kd.int .i32) 21 w' w.heap.size (fun k_ => some k_ ≠ ((.slice Ao12 t166.length co12) : Value).ownBlock) (.slice (some ad177) t163.length co23) t163) ∧ Aside0 (Kd.R (Kd.int .i32) 21 w' w.heap.size (fun k_ => some k_ ≠ ((.slice (some ad177) t163.length co23) : Value).ownBlock) (.slice Ao12 t166.length co12) t166) ∧ Aside0 (Kd.R Kd.bool 4 w' w.heap.size (fun k_ => some k_ ≠ (v175 : Value).ownBlock) u7 x7_1) ∧ Aside0 (Kd.R Kd.bool 4 w' w.heap.size (fun k_ => some k_ ≠ (u7 : Value).ownBlock) v175 x9_5) ∧ Aside0 (Below w.heap.size w w'))
                                case atStart => exact ⟨(y174), (0), (by first | rfl | (simp; done) | (simp [*]; done)), H', ⟨Nat.le_refl _⟩, ⟨by (with_reducible repeat (first | apply Kd.R_alloc | apply Kd.R_drewN | apply Kd.R_drew)); exact HO_5.out⟩, ⟨by (with_reducible repeat (first | apply Kd.R_alloc | apply Kd.R_drewN | apply Kd.R_drew)); exact HO_6.out⟩, ⟨by (with_reducible repeat (first | apply Kd.R_alloc | apply Kd.R_drewN | apply Kd.R_drew)); exact HO_7.out⟩, ⟨by (with_reducible repeat (first | apply Kd.R_alloc | apply Kd.R_drewN | apply Kd.R_drew)); exact HO_9.out⟩, ⟨by repeat (first | (with_reducible first | exact HB.out | apply below_alloc | apply pw_below_drewN | apply below_drew1) | exact HB.out)⟩⟩
                                case round =>
                                  clear H'
                                  try clear c1
                                  try clear p1
                                  try clear q1
                                  try clear hx1
                                  try clear c2
                                  try clear p2
                                  try clear c3
                                  try clear c5
                                  try clear c6
                                  try clear c6b0
                                  try clear c6b1
                                  try clear p6
                                  try clear c7
                                  try clear c7b0
                                  try clear c7b1
                                  try clear c8
                                  try clear c8b0
                                  try clear c8b1
                                  try clear p9
                                  try clear q9
                                  try clear hx9
                                  try clear qi9
                                  try clear hf9
                                  try clear c17
                                  try clear c17b0
                                  try clear p17
                                  try clear q17
                                  try clear hx17
                                  try clear c19
                                  try clear c19b0
                                  try clear c19b1
                                  try clear c20
                                  try clear c20b0
                                  try clear c20b1
                                  try clear c21
                                  try clear c21b0
                                  try clear c26
                                  try clear c26b0
                                  try clear c26b1
                                  try clear c28
                                  try clear c28b0
                                  try clear c28b1
                                  try clear c30
                                  try clear c32
                                  try clear c32b0
                                  try clear c33
                                  try clear c33b0
                                  try clear hx177_0
                                  try clear hx178_0
                                  try clear hx9_0
                                  try clear p1
                                  try clear p17
                                  try clear p177
                                  try clear p178
                                  try clear p2
                                  try clear p6
                                  try clear p9
                                  try clear q1
                                  try clear q17
                                  try clear q177
                                  try clear q178
                                  try clear q9
                                  obtain ⟨x9_5, x12_5, rfl, HA, HK5, HO_5, HO_6, HO_7, HO_9, HB⟩ := hrel
                                  cases gk with
                                  | zero => exact absurd HA.out (by simp [glossaryref28_Like.l1])
                                  | succ k5 =>
                                    have H := HA.out
                                    clear HA
                                    simp only [glossaryref28_Like.l1] at H
                                    by_cases c34 : x12_5 ≤ (t166.length : Int)
                                    · rw [if_pos c34] at H
                                      have c34b0 : decide (x12_5 ≤ (t166.length : Int)) = true := decide_eq_true c34
                                      clear c34
                                      have HC35 := Aside0.mk H
                                      clear H
                                      go_upto_region 18 with (fail)
                                      go_cut [85] (fun v85 wc => ∃ (kq : Nat) (x85_34 : Bool), v85 = .bool x85_34 ∧ Aside0 (glossaryref28_Like.j5 kq t163 t166 x7_1 x8_28 x9_5 x10_28 x11_21 x12_5 x85_34 = some r) ∧ Aside0 (kq ≤ k5) ∧ Aside0 (Kd.R (Kd.int .i32) 21 wc w.heap.size (fun k_ => some k_ ≠ ((.slice Ao12 t166.length co12) : Value).ownBlock) (.slice (some ad177) t163.length co23) t163) ∧ Aside0 (Kd.R (Kd.int .i32) 21 wc w.heap.size (fun k_ => some k_ ≠ ((.slice (some ad177) t163.length co23) : Value).ownBlock) (.slice Ao12 t166.length co12) t166) ∧ Aside0 (Kd.R Kd.bool 4 wc w.heap.size (fun k_ => some k_ ≠ (v175 : Value).ownBlock) u7 x7_1) ∧ Aside0 (Kd.R Kd.bool 4 wc w.heap.size (fun k_ => some k_ ≠ (u7 : Value).ownBlock) v175 x9_5) ∧ Aside0 (Below w.heap.size w wc))
                                      case first =>
                                        have H := HC35.out
                                        clear HC35
                                        by_cases c36 : x11_21 = true
                                        · subst c36
                                          have H1 : (glossaryref28_Like.j5 k5 t163 t166 x7_1 x8_28 x9_5 x10_28 true x12_5 false) = some r := by rw [if_pos rfl] at H; exact H
                                          clear H
                                          have H := H1
                                          clear H1
                                          have H' := Aside0.mk H
                                          clear H
                                          go_wp2
                                          go_meet
                                          case rel => exact ⟨_, (false), (by first | rfl | (simp; done) | (simp [*]; done)), H', ⟨by have := HK1.out; have := HJ21.out; have := HJ26.out; have := HJ28.out; have := HK5.out; first | omega | exact Nat.le_refl _⟩, ⟨by (with_reducible repeat (first | apply Kd.R_alloc | apply Kd.R_drewN | apply Kd.R_drew)); exact HO_5.out⟩, ⟨by (with_reducible repeat (first | apply Kd.R_alloc | apply Kd.R_drewN | apply Kd.R_drew)); exact HO_6.out⟩, ⟨by (with_reducible repeat (first | apply Kd.R_alloc | apply Kd.R_drewN | apply Kd.R_drew)); exact HO_7.out⟩, ⟨by (with_reducible repeat (first | apply Kd.R_alloc | apply Kd.R_drewN | apply Kd.R_drew)); exact HO_9.out⟩, ⟨by repeat (first | (with_reducible first | exact HB.out | apply below_alloc | apply pw_below_drewN | apply below_drew1) | exact HB.out)⟩⟩
                                        · replace c36 := Bool.eq_false_iff.mpr c36
                                          subst c36
                                          have H1 : (glossaryref28_Like.j5 k5 t163 t166 x7_1 x8_28 x9_5 x10_28 false x12_5 (x10_28 == 42)) = some r := by rw [if_neg (show ¬ (false = true) by decide)] at H; exact H
                                          clear H
                                          have H := H1
                                          clear H1
                                          have H' := Aside0.mk H
                                          clear H
                                          go_wp2
                                          go_meet
                                          case rel => exact ⟨_, ((x10_28 == 42)), (by first | rfl | (simp; done) | (simp [*]; done)), H', ⟨by have := HK1.out; have := HJ21.out; have := HJ26.out; have := HJ28.out; have := HK5.out; first | omega | exact Nat.le_refl _⟩, ⟨by (with_reducible repeat (first | apply Kd.R_alloc | apply Kd.R_drewN | apply Kd.R_drew)); exact HO_5.out⟩, ⟨by (with_reducible repeat (first | apply Kd.R_alloc | apply Kd.R_drewN | apply Kd.R_drew)); exact HO_6.out⟩, ⟨by (with_reducible repeat (first | apply Kd.R_alloc | apply Kd.R_drewN | apply Kd.R_drew)); exact HO_7.out⟩, ⟨by (with_reducible repeat (first | apply Kd.R_alloc | apply Kd.R_drewN | apply Kd.R_drew)); exact HO_9.out⟩, ⟨by repeat (first | (with_reducible first | exact HB.out | apply below_alloc | apply pw_below_drewN | apply below_drew1) | exact HB.out)⟩⟩
                                      case rest =>
                                        clear HC35
                                        try clear c1
                                        try clear p1
                                        try clear q1
                                        try clear hx1
                                        try clear c2
                                        try clear p2
                                        try clear c3
                                        try clear c5
                                        try clear c6
                                        try clear c6b0
                                        try clear c6b1
                                        try clear p6
                                        try clear c7
                                        try clear c7b0
                                        try clear c7b1
                                        try clear c8
                                        try clear c8b0
                                        try clear c8b1
                                        try clear p9
                                        try clear q9
                                        try clear hx9
                                        try clear qi9
                                        try clear hf9
                                        try clear c17
                                        try clear c17b0
                                        try clear p17
                                        try clear q17
                                        try clear hx17
                                        try clear c19
                                        try clear c19b0
                                        try clear c19b1
                                        try clear c20
                                        try clear c20b0
                                        try clear c20b1
                                        try clear c21
                                        try clear c21b0
                                        try clear c26
                                        try clear c26b0
                                        try clear c26b1
                                        try clear c28
                                        try clear c28b0
                                        try clear c28b1
                                        try clear c30
                                        try clear c32
                                        try clear c32b0
                                        try clear c33
                                        try clear c33b0
                                        try clear c34
                                        try clear c34b0
                                        try clear c36
                                        try clear hx177_0
                                        try clear hx178_0
                                        try clear hx9_0
                                        try clear p1
                                        try clear p17
                                        try clear p177
                                        try clear p178
                                        try clear p2
                                        try clear p6
                                        try clear p9
                                        try clear q1
                                        try clear q17
                                        try clear q177
                                        try clear q178
                                        try clear q9
                                        obtain ⟨kq, x85_34, rfl, HA, HJ34, HO_5, HO_6, HO_7, HO_9, HB⟩ := hcut
                                        cases kq with
                                        | zero => exact absurd HA.out (by simp [glossaryref28_Like.j5])
                                        | succ kj34 =>
                                          have H := HA.out
                                          clear HA
                                          simp only [glossaryref28_Like.j5] at H
                                          by_cases c37 : x85_34 = true
                                          · subst c37
                                            have H1 : (if 0 ≤ x12_5 then (if x12_5 < (x7_1.length : Int) then (if rdOf false x7_1 x12_5 = true then (if x12_5 < (x9_5.length : Int) then (glossaryref28_Like.l1 kj34 t163 t166 x7_1 x8_28 (x9_5.set (x12_5 : Int).toNat true) x10_28 x11_21 (wrap64 (x12_5 + 1))) else (none)) else (if x12_5 > 0 then (if 0 ≤ (wrap64 (x12_5 - 1)) then (if (wrap64 (x12_5 - 1)) < (x9_5.length : Int) then (if x12_5 < (x9_5.length : Int) then (glossaryref28_Like.l1 kj34 t163 t166 x7_1 x8_28 (x9_5.set (x12_5 : Int).toNat (rdOf false x9_5 (wrap64 (x12_5 - 1)))) x10_28 x11_21 (wrap64 (x12_5 + 1))) else (none)) else (none)) else (none)) else (if x12_5 < (x9_5.length : Int) then (glossaryref28_Like.l1 kj34 t163 t166 x7_1 x8_28 (x9_5.set (x12_5 : Int).toNat false) x10_28 x11_21 (wrap64 (x12_5 + 1))) else (none)))) else (none)) else (none)) = some r := by rw [if_pos rfl] at H; exact H
                                            clear H
                                            have H := H1
                                            clear H1
                                            by_cases c38 : 0 ≤ x12_5
                                            · rw [if_pos c38] at H
                                              have c38b0 : decide (0 ≤ x12_5) = true := decide_eq_true c38
                                              clear c38
                                              by_cases c39 : x12_5 < (x7_1.length : Int)
                                              · rw [if_pos c39] at H
                                                have c39b0 : decide (x12_5 < (x7_1.length : Int)) = true := decide_eq_true c39
                                                clear c39
                                                obtain ⟨bq40, hbq40⟩ : ∃ b_ : Bool, b_ = (rdOf false x7_1 x12_5) := ⟨_, rfl⟩
                                                replace H : (if bq40 = true then (if x12_5 < (x9_5.length : Int) then (glossaryref28_Like.l1 kj34 t163 t166 x7_1 x8_28 (x9_5.set (x12_5 : Int).toNat true) x10_28 x11_21 (wrap64 (x12_5 + 1))) else (none)) else (if x12_5 > 0 then (if 0 ≤ (wrap64 (x12_5 - 1)) then (if (wrap64 (x12_5 - 1)) < (x9_5.length : Int) then (if x12_5 < (x9_5.length : Int) then (glossaryref28_Like.l1 kj34 t163 t166 x7_1 x8_28 (x9_5.set (x12_5 : Int).toNat (rdOf false x9_5 (wrap64 (x12_5 - 1)))) x10_28 x11_21 (wrap64 (x12_5 + 1))) else (none)) else (none)) else (none)) else (if x12_5 < (x9_5.length : Int) then (glossaryref28_Like.l1 kj34 t163 t166 x7_1 x8_28 (x9_5.set (x12_5 : Int).toNat false) x10_28 x11_21 (wrap64 (x12_5 + 1))) else (none)))) = some r := by rw [← hbq40] at H; exact H
                                                have Nbq40 := Aside0.mk hbq40
                                                clear hbq40
                                                by_cases c41 : bq40 = true
                                                · subst c41
                                                  have H1 : (if x12_5 < (x9_5.length : Int) then (glossaryref28_Like.l1 kj34 t163 t166 x7_1 x8_28 (x9_5.set (x12_5 : Int).toNat true) x10_28 x11_21 (wrap64 (x12_5 + 1))) else (none)) = some r := by rw [if_pos rfl] at H; exact H
                                                  clear H
                                                  have H := H1
                                                  clear H1
                                                  by_cases c42 : x12_5 < (x9_5.length : Int)
                                                  · rw [if_pos c42] at H
                                                    have c42b0 : decide (x12_5 < (x9_5.length : Int)) = true := decide_eq_true c42
                                                    clear c42
                                                    obtain ⟨y180, hy180⟩ : ∃ y_ : List Bool, y_ = (x9_5.set (x12_5 : Int).toNat true) := ⟨_, rfl⟩
                                                    replace H : (glossaryref28_Like.l1 kj34 t163 t166 x7_1 x8_28 y180 x10_28 x11_21 (wrap64 (x12_5 + 1))) = some r := by first | (rw [hy180]; with_reducible exact H) | (have H2_ := (Option.bind_some _ _).symm.trans H; rw [hy180]; with_reducible exact H2_) | (have H2_ := (Option.bind_some _ _).symm.trans H; with_reducible exact H2_) | with_reducible exact H | (rw [hy180]; exact H) | exact H
                                                    have Ny180 := Aside0.mk hy180
                                                    clear hy180
                                                    have H' := Aside0.mk H
                                                    clear H
                                                    obtain ⟨Ao44, co44, eo44⟩ := Kd.R_slice HO_7.out
                                                    subst eo44
                                                    have p179 : 0 ≤ (x12_5 : Int) := of_decide_eq_true (by first | (with_reducible assumption) | assumption)
                                                    have q179 : x12_5 < (x7_1.length : Int) := of_decide_eq_true (by first | (with_reducible assumption) | assumption)
                                                    obtain ⟨ad179, e179, hx179_0⟩ := Kd.at_bool (Kd.R_reads' HO_7.out).2.2 x12_5 p179 q179
                                                    (try rw [← Nbq40.out] at hx179_0)
                                                    cases e179
                                                    replace p179 := eq_true p179
                                                    replace q179 := eq_true q179
                                                    have p43 : 0 ≤ (x12_5 : Int) := of_decide_eq_true (by first | (with_reducible assumption) | assumption)
                                                    have q43 : (x12_5 : Int) < ((x9_5.length : Int) : Int) := of_decide_eq_true (by first | (with_reducible assumption) | assumption)
                                                    obtain ⟨go43, co43, eo43, gb43, gl43, cl43, HG43⟩ := Kd.R_form HO_9.out (by omega)
                                                    (first | cases eo43 | (injection eo43 with ea_ en_ ec_; (first | subst ea_ | (injection ea_ with ea_; subst ea_)); subst ec_; clear en_))
                                                    have GB43 := Aside0.mk gb43
                                                    have GG43 := Aside0.mk HG43
                                                    clear gb43 gl43 HG43
                                                    obtain ⟨hx43_0, hf43_0⟩ := Kd.R_celln false HO_9.out (x12_5 : Int) p43 q43
                                                    replace p43 := eq_true p43
                                                    replace q43 := eq_true q43
                                                    have HP45 := Kd.R_putg HO_9.out (x12_5 : Int) true
                                                    go_wp2_with (first | ((with_reducible refine gate_store (t := 4) (p := 109) rfl ?_); refine store_event (t := 4) (p := 109) (v := ?vo_w46) (w1 := (wc.setCell ⟨go43, (x12_5 : Int).toNat, none⟩ (.bool true))) ?hg ?ho ?hn ?hr ?_; (case ho => rfl); (case hg => rfl); (case hn => rfl); (case hr => first | (go_simp; done) | (go_simp; rfl)); intro w46 hw; have hg : wc.grownBy w46 (some go43) := (by rw [hw]; exact HP45.2); have hp_ : Kd.R Kd.bool 4 w46 w.heap.size (fun k_ => some k_ ≠ (.slice (some ad179) x7_1.length co44 : Value).ownBlock) (.slice (some ⟨go43, 0, none⟩) x9_5.length co43) y180 := (by rw [hw, Ny180.out]; exact HP45.1); clear HP45; have n0_ := Aside0.mk (Kd.R_over' (v := (.slice (some ⟨go43, 0, none⟩) x9_5.length co43)) (by (with_reducible repeat (first | apply Kd.R_alloc | apply Kd.R_drewN | apply Kd.R_drew)); exact HO_5.out) (Kd.R_typed HO_9.out) (by decide) hg); have n1_ := Aside0.mk (Kd.R_over' (v := (.slice (some ⟨go43, 0, none⟩) x9_5.length co43)) (by (with_reducible repeat (first | apply Kd.R_alloc | apply Kd.R_drewN | apply Kd.R_drew)); exact HO_6.out) (Kd.R_typed HO_9.out) (by decide) hg); have n2_ := Aside0.mk (Kd.R_after (v := (.slice (some ⟨go43, 0, none⟩) x9_5.length co43)) (v1 := (.slice (some ⟨go43, 0, none⟩) x9_5.length co43)) (ok := (fun _ => True)) (by (with_reducible repeat (first | apply Kd.R_alloc | apply Kd.R_drewN | apply Kd.R_drew)); exact Kd.R_mono HO_7.out (fun _ hk => ⟨trivial, hk⟩)) hg (.inl rfl)); have n3_ := Aside0.mk (hp_); have n4_ := Aside0.mk ((by rw [hw]; exact below_set (HB.out) GB43.out : Below w.heap.size w w46)); clear HO_5; clear HO_6; clear HO_7; clear HO_9; clear HB; have HO_5 := n0_; have HO_6 := n1_; have HO_7 := n2_; have HO_9 := n3_; have HB := n4_; clear n0_ n1_ n2_ n3_ n4_; clear hg hw hp_))
                                                    go_roundg kj34
                                                    case measure => have := HK1.out; have := HJ21.out; have := HJ26.out; have := HJ28.out; have := HK5.out; have := HJ34.out; omega
                                                    case rel => exact ⟨(y180), (wrap64 (x12_5 + 1)), (by first | rfl | (simp; done) | (simp [*]; done)), H', ⟨by have := HK1.out; have := HJ21.out; have := HJ26.out; have := HJ28.out; have := HK5.out; have := HJ34.out; omega⟩, ⟨by (with_reducible repeat (first | apply Kd.R_alloc | apply Kd.R_drewN | apply Kd.R_drew)); exact HO_5.out⟩, ⟨by (with_reducible repeat (first | apply Kd.R_alloc | apply Kd.R_drewN | apply Kd.R_drew)); exact HO_6.out⟩, ⟨by (with_reducible repeat (first | apply Kd.R_alloc | apply Kd.R_drewN | apply Kd.R_drew)); exact Kd.R_mono HO_7.out (fun _ hk => hk.2)⟩, ⟨by (with_reducible repeat (first | apply Kd.R_alloc | apply Kd.R_drewN | apply Kd.R_drew)); exact HO_9.out⟩, ⟨by repeat (first | (with_reducible first | exact HB.out | apply below_alloc | apply pw_below_drewN | apply below_drew1) | exact HB.out)⟩⟩
                                                  · rw [if_neg c42] at H
                                                    exact absurd H (by simp)
                                                · replace c41 := Bool.eq_false_iff.mpr c41
                                                  subst c41
                                                  have H1 : (if x12_5 > 0 then (if 0 ≤ (wrap64 (x12_5 - 1)) then (if (wrap64 (x12_5 - 1)) < (x9_5.length : Int) then (if x12_5 < (x9_5.length : Int) then (glossaryref28_Like.l1 kj34 t163 t166 x7_1 x8_28 (x9_5.set (x12_5 : Int).toNat (rdOf false x9_5 (wrap64 (x12_5 - 1)))) x10_28 x11_21 (wrap64 (x12_5 + 1))) else (none)) else (none)) else (none)) else (if x12_5 < (x9_5.length : Int) then (glossaryref28_Like.l1 kj34 t163 t166 x7_1 x8_28 (x9_5.set (x12_5 : Int).toNat false) x10_28 x11_21 (wrap64 (x12_5 + 1))) else (none))) = some r := by rw [if_neg (show ¬ (false = true) by decide)] at H; exact H
                                                  clear H
                                                  have H := H1
                                                  clear H1
                                                  by_cases c47 : x12_5 > 0
                                                  · rw [if_pos c47] at H
                                                    have c47b0 : decide (0 < x12_5) = true := decide_eq_true c47
                                                    clear c47
                                                    obtain ⟨ji48, hji48⟩ : ∃ j_ : Int, (wrap64 (x12_5 - 1)) = j_ := ⟨_, rfl⟩
                                                    replace H : (if 0 ≤ (ji48) then (if (ji48) < (x9_5.length : Int) then (if x12_5 < (x9_5.length : Int) then (glossaryref28_Like.l1 kj34 t163 t166 x7_1 x8_28 (x9_5.set (x12_5 : Int).toNat (rdOf false x9_5 (ji48))) x10_28 x11_21 (wrap64 (x12_5 + 1))) else (none)) else (none)) else (none)) = some r := by first | (rw [hji48] at H; exact H) | (simp only [hji48] at H ⊢; exact H)
                                                    have hji48w : (IntKind.i64.wrap (x12_5 - 1)) = ji48 := (i64_w _).trans hji48
                                                    by_cases c49 : 0 ≤ (ji48)
                                                    · rw [if_pos c49] at H
                                                      have c49b0 : decide (0 ≤ (ji48)) = true := decide_eq_true c49
                                                      clear c49
                                                      by_cases c50 : (ji48) < (x9_5.length : Int)
                                                      · rw [if_pos c50] at H
                                                        have c50b0 : decide ((ji48) < (x9_5.length : Int)) = true := decide_eq_true c50
                                                        clear c50
                                                        by_cases c51 : x12_5 < (x9_5.length : Int)
                                                        · rw [if_pos c51] at H
                                                          have c51b0 : decide (x12_5 < (x9_5.length : Int)) = true := decide_eq_true c51
                                                          clear c51
                                                          obtain ⟨y182, hy182⟩ : ∃ y_ : List Bool, y_ = (x9_5.set (x12_5 : Int).toNat (rdOf false x9_5 (ji48))) := ⟨_, rfl⟩
                                                          replace H : (glossaryref28_Like.l1 kj34 t163 t166 x7_1 x8_28 y182 x10_28 x11_21 (wrap64 (x12_5 + 1))) = some r := by first | (rw [hy182]; with_reducible exact H) | (have H2_ := (Option.bind_some _ _).symm.trans H; rw [hy182]; with_reducible exact H2_) | (have H2_ := (Option.bind_some _ _).symm.trans H; with_reducible exact H2_) | with_reducible exact H | (rw [hy182]; exact H) | exact H
                                                          have Ny182 := Aside0.mk hy182
                                                          clear hy182
                                                          have H' := Aside0.mk H
                                                          clear H
                                                          obtain ⟨Ao53, co53, eo53⟩ := Kd.R_slice HO_7.out
                                                          subst eo53
                                                          have p179 : 0 ≤ (x12_5 : Int) := of_decide_eq_true (by first | (with_reducible assumption) | assumption)
                                                          have q179 : x12_5 < (x7_1.length : Int) := of_decide_eq_true (by first | (with_reducible assumption) | assumption)
                                                          obtain ⟨ad179, e179, hx179_0⟩ := Kd.at_bool (Kd.R_reads' HO_7.out).2.2 x12_5 p179 q179
                                                          (try rw [← Nbq40.out] at hx179_0)
                                                          cases e179
                                                          replace p179 := eq_true p179
                                                          replace q179 := eq_true q179
                                                          obtain ⟨Ao54, co54, eo54⟩ := Kd.R_slice HO_9.out
                                                          subst eo54
                                                          have p181 : 0 ≤ ((ji48) : Int) := of_decide_eq_true (by first | (with_reducible assumption) | assumption)
                                                          have q181 : (ji48) < (x9_5.length : Int) := of_decide_eq_true (by first | (with_reducible assumption) | assumption)
                                                          obtain ⟨ad181, e181, hx181_0⟩ := Kd.at_bool (Kd.R_reads' HO_9.out).2.2 (ji48) p181 q181
                                                          (try rw [← Nbq40.out] at hx181_0)
                                                          cases e181
                                                          replace p181 := eq_true p181
                                                          replace q181 := eq_true q181
                                                          have p52 : 0 ≤ (x12_5 : Int) := of_decide_eq_true (by first | (with_reducible assumption) | assumption)
                                                          have q52 : (x12_5 : Int) < ((x9_5.length : Int) : Int) := of_decide_eq_true (by first | (with_reducible assumption) | assumption)
                                                          obtain ⟨go52, co52, eo52, gb52, gl52, cl52, HG52⟩ := Kd.R_form HO_9.out (by omega)
                                                          (first | cases eo52 | (injection eo52 with ea_ en_ ec_; (first | subst ea_ | (injection ea_ with ea_; subst ea_)); subst ec_; clear en_))
                                                          have GB52 := Aside0.mk gb52
                                                          have GG52 := Aside0.mk HG52
                                                          clear gb52 gl52 HG52
                                                          (first | simp only [add_plain] at hx181_0 | skip)
                                                          obtain ⟨hx52_0, hf52_0⟩ := Kd.R_celln false HO_9.out (x12_5 : Int) p52 q52
                                                          replace p52 := eq_true p52
                                                          replace q52 := eq_true q52
                                                          have HP55 := Kd.R_putg HO_9.out (x12_5 : Int) (rdOf false x9_5 (ji48))
                                                          go_wp2_with (first | ((with_reducible refine gate_store (t := 4) (p := 109) rfl ?_); refine store_event (t := 4) (p := 109) (v := ?vo_w56) (w1 := (wc.setCell ⟨go52, (x12_5 : Int).toNat, none⟩ (.bool (rdOf false x9_5 (ji48))))) ?hg ?ho ?hn ?hr ?_; (case ho => rfl); (case hg => rfl); (case hn => rfl); (case hr => first | (go_simp; done) | (go_simp; rfl)); intro w56 hw; have hg : wc.grownBy w56 (some go52) := (by rw [hw]; exact HP55.2); have hp_ : Kd.R Kd.bool 4 w56 w.heap.size (fun k_ => some k_ ≠ (.slice (some ad179) x7_1.length co53 : Value).ownBlock) (.slice (some ⟨go52, 0, none⟩) x9_5.length co54) y182 := (by rw [hw, Ny182.out]; exact HP55.1); clear HP55; have n0_ := Aside0.mk (Kd.R_over' (v := (.slice (some ⟨go52, 0, none⟩) x9_5.length co54)) (by (with_reducible repeat (first | apply Kd.R_alloc | apply Kd.R_drewN | apply Kd.R_drew)); exact HO_5.out) (Kd.R_typed HO_9.out) (by decide) hg); have n1_ := Aside0.mk (Kd.R_over' (v := (.slice (some ⟨go52, 0, none⟩) x9_5.length co54)) (by (with_reducible repeat (first | apply Kd.R_alloc | apply Kd.R_drewN | apply Kd.R_drew)); exact HO_6.out) (Kd.R_typed HO_9.out) (by decide) hg); have n2_ := Aside0.mk (Kd.R_after (v := (.slice (some ⟨go52, 0, none⟩) x9_5.length co54)) (v1 := (.slice (some ⟨go52, 0, none⟩) x9_5.length co54)) (ok := (fun _ => True)) (by (with_reducible repeat (first | apply Kd.R_alloc | apply Kd.R_drewN | apply Kd.R_drew)); exact Kd.R_mono HO_7.out (fun _ hk => ⟨trivial, hk⟩)) hg (.inl rfl)); have n3_ := Aside0.mk (hp_); have n4_ := Aside0.mk ((by rw [hw]; exact below_set (HB.out) GB52.out : Below w.heap.size w w56)); clear HO_5; clear HO_6; clear HO_7; clear HO_9; clear HB; have HO_5 := n0_; have HO_6 := n1_; have HO_7 := n2_; have HO_9 := n3_; have HB := n4_; clear n0_ n1_ n2_ n3_ n4_; clear hg hw hp_))
                                                          go_roundg kj34
                                                          case measure => have := HK1.out; have := HJ21.out; have := HJ26.out; have := HJ28.out; have := HK5.out; have := HJ34.out; omega
                                                          case rel => exact ⟨(y182), (wrap64 (x12_5 + 1)), (by first | rfl | (simp; done) | (simp [*]; done)), H', ⟨by have := HK1.out; have := HJ21.out; have := HJ26.out; have := HJ28.out; have := HK5.out; have := HJ34.out; omega⟩, ⟨by (with_reducible repeat (first | apply Kd.R_alloc | apply Kd.R_drewN | apply Kd.R_drew)); exact HO_5.out⟩, ⟨by (with_reducible repeat (first | apply Kd.R_alloc | apply Kd.R_drewN | apply Kd.R_drew)); exact HO_6.out⟩, ⟨by (with_reducible repeat (first | apply Kd.R_alloc | apply Kd.R_drewN | apply Kd.R_drew)); exact Kd.R_mono HO_7.out (fun _ hk => hk.2)⟩, ⟨by (with_reducible repeat (first | apply Kd.R_alloc | apply Kd.R_drewN | apply Kd.R_drew)); exact HO_9.out⟩, ⟨by repeat (first | (with_reducible first | exact HB.out | apply below_alloc | apply pw_below_drewN | apply below_drew1) | exact HB.out)⟩⟩
                                                        · rw [if_neg c51] at H
                                                          exact absurd H (by simp)
                                                      · rw [if_neg c50] at H
                                                        exact absurd H (by simp)
                                                    · rw [if_neg c49] at H
                                                      exact absurd H (by simp)
                                                  · rw [if_neg c47] at H
                                                    have c47b0 : decide (0 < x12_5) = false := decide_eq_false c47
                                                    clear c47
                                                    by_cases c57 : x12_5 < (x9_5.length : Int)
                                                    · rw [if_pos c57] at H
                                                      have c57b0 : decide (x12_5 < (x9_5.length : Int)) = true := decide_eq_true c57
                                                      clear c57
                                                      obtain ⟨y183, hy183⟩ : ∃ y_ : List Bool, y_ = (x9_5.set (x12_5 : Int).toNat false) := ⟨_, rfl⟩
                                                      replace H : (glossaryref28_Like.l1 kj34 t163 t166 x7_1 x8_28 y183 x10_28 x11_21 (wrap64 (x12_5 + 1))) = some r := by first | (rw [hy183]; with_reducible exact H) | (have H2_ := (Option.bind_some _ _).symm.trans H; rw [hy183]; with_reducible exact H2_) | (have H2_ := (Option.bind_some _ _).symm.trans H; with_reducible exact H2_) | with_reducible exact H | (rw [hy183]; exact H) | exact H
                                                      have Ny183 := Aside0.mk hy183
                                                      clear hy183
                                                      have H' := Aside0.mk H
                                                      clear H
                                                      obtain ⟨Ao59, co59, eo59⟩ := Kd.R_slice HO_7.out
                                                      subst eo59
                                                      have p179 : 0 ≤ (x12_5 : Int) := of_decide_eq_true (by first | (with_reducible assumption) | assumption)
                                                      have q179 : x12_5 < (x7_1.length : Int) := of_decide_eq_true (by first | (with_reducible assumption) | assumption)
                                                      obtain ⟨ad179, e179, hx179_0⟩ := Kd.at_bool (Kd.R_reads' HO_7.out).2.2 x12_5 p179 q179
                                                      (try rw [← Nbq40.out] at hx179_0)
                                                      cases e179
                                                      replace p179 := eq_true p179
                                                      replace q179 := eq_true q179
                                                      have p58 : 0 ≤ (x12_5 : Int) := of_decide_eq_true (by first | (with_reducible assumption) | assumption)
                                                      have q58 : (x12_5 : Int) < ((x9_5.length : Int) : Int) := of_decide_eq_true (by first | (with_reducible assumption) | assumption)
                                                      obtain ⟨go58, co58, eo58, gb58, gl58, cl58, HG58⟩ := Kd.R_form HO_9.out (by omega)
                                                      (first | cases eo58 | (injection eo58 with ea_ en_ ec_; (first | subst ea_ | (injection ea_ with ea_; subst ea_)); subst ec_; clear en_))
                                                      have GB58 := Aside0.mk gb58
                                                      have GG58 := Aside0.mk HG58
                                                      clear gb58 gl58 HG58
                                                      obtain ⟨hx58_0, hf58_0⟩ := Kd.R_celln false HO_9.out (x12_5 : Int) p58 q58
                                                      replace p58 := eq_true p58
                                                      replace q58 := eq_true q58
                                                      have HP60 := Kd.R_putg HO_9.out (x12_5 : Int) false
                                                      go_wp2_with (first | ((with_reducible refine gate_store (t := 4) (p := 109) rfl ?_); refine store_event (t := 4) (p := 109) (v := ?vo_w61) (w1 := (wc.setCell ⟨go58, (x12_5 : Int).toNat, none⟩ (.bool false))) ?hg ?ho ?hn ?hr ?_; (case ho => rfl); (case hg => rfl); (case hn => rfl); (case hr => first | (go_simp; done) | (go_simp; rfl)); intro w61 hw; have hg : wc.grownBy w61 (some go58) := (by rw [hw]; exact HP60.2); have hp_ : Kd.R Kd.bool 4 w61 w.heap.size (fun k_ => some k_ ≠ (.slice (some ad179) x7_1.length co59 : Value).ownBlock) (.slice (some ⟨go58, 0, none⟩) x9_5.length co58) y183 := (by rw [hw, Ny183.out]; exact HP60.1); clear HP60; have n0_ := Aside0.mk (Kd.R_over' (v := (.slice (some ⟨go58, 0, none⟩) x9_5.length co58)) (by (with_reducible repeat (first | apply Kd.R_alloc | apply Kd.R_drewN | apply Kd.R_drew)); exact HO_5.out) (Kd.R_typed HO_9.out) (by decide) hg); have n1_ := Aside0.mk (Kd.R_over' (v := (.slice (some ⟨go58, 0, none⟩) x9_5.length co58)) (by (with_reducible repeat (first | apply Kd.R_alloc | apply Kd.R_drewN | apply Kd.R_drew)); exact HO_6.out) (Kd.R_typed HO_9.out) (by decide) hg); have n2_ := Aside0.mk (Kd.R_after (v := (.slice (some ⟨go58, 0, none⟩) x9_5.length co58)) (v1 := (.slice (some ⟨go58, 0, none⟩) x9_5.length co58)) (ok := (fun _ => True)) (by (with_reducible repeat (first | apply Kd.R_alloc | apply Kd.R_drewN | apply Kd.R_drew)); exact Kd.R_mono HO_7.out (fun _ hk => ⟨trivial, hk⟩)) hg (.inl rfl)); have n3_ := Aside0.mk (hp_); have n4_ := Aside0.mk ((by rw [hw]; exact below_set (HB.out) GB58.out : Below w.heap.size w w61)); clear HO_5; clear HO_6; clear HO_7; clear HO_9; clear HB; have HO_5 := n0_; have HO_6 := n1_; have HO_7 := n2_; have HO_9 := n3_; have HB := n4_; clear n0_ n1_ n2_ n3_ n4_; clear hg hw hp_))
                                                      go_roundg kj34
                                                      case measure => have := HK1.out; have := HJ21.out; have := HJ26.out; have := HJ28.out; have := HK5.out; have := HJ34.out; omega
                                                      case rel => exact ⟨(y183), (wrap64 (x12_5 + 1)), (by first | rfl | (simp; done) | (simp [*]; done)), H', ⟨by have := HK1.out; have := HJ21.out; have := HJ26.out; have := HJ28.out; have := HK5.out; have := HJ34.out; omega⟩, ⟨by (with_reducible repeat (first | apply Kd.R_alloc | apply Kd.R_drewN | apply Kd.R_drew)); exact HO_5.out⟩, ⟨by (with_reducible repeat (first | apply Kd.R_alloc | apply Kd.R_drewN | apply Kd.R_drew)); exact HO_6.out⟩, ⟨by (with_reducible repeat (first | apply Kd.R_alloc | apply Kd.R_drewN | apply Kd.R_drew)); exact Kd.R_mono HO_7.out (fun _ hk => hk.2)⟩, ⟨by (with_reducible repeat (first | apply Kd.R_alloc | apply Kd.R_drewN | apply Kd.R_drew)); exact HO_9.out⟩, ⟨by repeat (first | (with_reducible first | exact HB.out | apply below_alloc | apply pw_below_drewN | apply below_drew1) | exact HB.out)⟩⟩
                                                    · rw [if_neg c57] at H
                                                      exact absurd H (by simp)
                                              · rw [if_neg c39] at H
                                                exact absurd H (by simp)
                                            · rw [if_neg c38] at H
                                              exact absurd H (by simp)
                                          · replace c37 := Bool.eq_false_iff.mpr c37
                                            subst c37
                                            have H1 : (if x11_21 = true then (if x12_5 > 0 then (if 0 ≤ (wrap64 (x12_5 - 1)) then (if (wrap64 (x12_5 - 1)) < (x7_1.length : Int) then (if rdOf false x7_1 (wrap64 (x12_5 - 1)) = true then (if (wrap64 (x12_5 - 1)) < (t166.length : Int) then (if 0 ≤ x12_5 then (if x12_5 < (x9_5.length : Int) then (glossaryref28_Like.l1 kj34 t163 t166 x7_1 x8_28 (x9_5.set (x12_5 : Int).toNat ((rd t166 (wrap64 (x12_5 - 1))) == x10_28)) x10_28 x11_21 (wrap64 (x12_5 + 1))) else (none)) else (none)) else (none)) else (if 0 ≤ x12_5 then (if x12_5 < (x9_5.length : Int) then (glossaryref28_Like.l1 kj34 t163 t166 x7_1 x8_28 (x9_5.set (x12_5 : Int).toNat false) x10_28 x11_21 (wrap64 (x12_5 + 1))) else (none)) else (none))) else (none)) else (none)) else (if 0 ≤ x12_5 then (if x12_5 < (x9_5.length : Int) then (glossaryref28_Like.l1 kj34 t163 t166 x7_1 x8_28 (x9_5.set (x12_5 : Int).toNat false) x10_28 x11_21 (wrap64 (x12_5 + 1))) else (none)) else (none))) else (if x12_5 > 0 then (if 0 ≤ (wrap64 (x12_5 - 1)) then (if (wrap64 (x12_5 - 1)) < (x7_1.length : Int) then (if 0 ≤ x12_5 then (if x12_5 < (x9_5.length : Int) then (glossaryref28_Like.l1 kj34 t163 t166 x7_1 x8_28 (x9_5.set (x12_5 : Int).toNat (rdOf false x7_1 (wrap64 (x12_5 - 1)))) x10_28 x11_21 (wrap64 (x12_5 + 1))) else (none)) else (none)) else (none)) else (none)) else (if 0 ≤ x12_5 then (if x12_5 < (x9_5.length : Int) then (glossaryref28_Like.l1 kj34 t163 t166 x7_1 x8_28 (x9_5.set (x12_5 : Int).toNat false) x10_28 x11_21 (wrap64 (x12_5 + 1))) else (none)) else (none)))) = some r := by rw [if_neg (show ¬ (false = true) by decide)] at H; exact H
                                            clear H
                                            have H := H1
                                            clear H1
                                            by_cases c62 : x11_21 = true
                                            · subst c62
                                              have H1 : (if x12_5 > 0 then (if 0 ≤ (wrap64 (x12_5 - 1)) then (if (wrap64 (x12_5 - 1)) < (x7_1.length : Int) then (if rdOf false x7_1 (wrap64 (x12_5 - 1)) = true then (if (wrap64 (x12_5 - 1)) < (t166.length : Int) then (if 0 ≤ x12_5 then (if x12_5 < (x9_5.length : Int) then (glossaryref28_Like.l1 kj34 t163 t166 x7_1 x8_28 (x9_5.set (x12_5 : Int).toNat ((rd t166 (wrap64 (x12_5 - 1))) == x10_28)) x10_28 true (wrap64 (x12_5 + 1))) else (none)) else (none)) else (none)) else (if 0 ≤ x12_5 then (if x12_5 < (x9_5.length : Int) then (glossaryref28_Like.l1 kj34 t163 t166 x7_1 x8_28 (x9_5.set (x12_5 : Int).toNat false) x10_28 true (wrap64 (x12_5 + 1))) else (none)) else (none))) else (none)) else (none)) else (if 0 ≤ x12_5 then (if x12_5 < (x9_5.length : Int) then (glossaryref28_Like.l1 kj34 t163 t166 x7_1 x8_28 (x9_5.set (x12_5 : Int).toNat false) x10_28 true (wrap64 (x12_5 + 1))) else (none)) else (none))) = some r := by rw [if_pos rfl] at H; exact H
                                              clear H
                                              have H := H1
                                              clear H1
                                              by_cases c63 : x12_5 > 0
                                              · rw [if_pos c63] at H
                                                have c63b0 : decide (0 < x12_5) = true := decide_eq_true c63
                                                clear c63
                                                obtain ⟨ji64, hji64⟩ : ∃ j_ : Int, (wrap64 (x12_5 - 1)) = j_ := ⟨_, rfl⟩
                                                replace H : (if 0 ≤ (ji64) then (if (ji64) < (x7_1.length : Int) then (if rdOf false x7_1 (ji64) = true then (if (ji64) < (t166.length : Int) then (if 0 ≤ x12_5 then (if x12_5 < (x9_5.length : Int) then (glossaryref28_Like.l1 kj34 t163 t166 x7_1 x8_28 (x9_5.set (x12_5 : Int).toNat ((rd t166 (ji64)) == x10_28)) x10_28 true (wrap64 (x12_5 + 1))) else (none)) else (none)) else (none)) else (if 0 ≤ x12_5 then (if x12_5 < (x9_5.length : Int) then (glossaryref28_Like.l1 kj34 t163 t166 x7_1 x8_28 (x9_5.set (x12_5 : Int).toNat false) x10_28 true (wrap64 (x12_5 + 1))) else (none)) else (none))) else (none)) else (none)) = some r := by first | (rw [hji64] at H; exact H) | (simp only [hji64] at H ⊢; exact H)
                                                have hji64w : (IntKind.i64.wrap (x12_5 - 1)) = ji64 := (i64_w _).trans hji64
                                                by_cases c65 : 0 ≤ (ji64)
                                                · rw [if_pos c65] at H
                                                  have c65b0 : decide (0 ≤ (ji64)) = true := decide_eq_true c65
                                                  clear c65
                                                  by_cases c66 : (ji64) < (x7_1.length : Int)
                                                  · rw [if_pos c66] at H
                                                    have c66b0 : decide ((ji64) < (x7_1.length : Int)) = true := decide_eq_true c66
                                                    clear c66
                                                    obtain ⟨bq67, hbq67⟩ : ∃ b_ : Bool, b_ = (rdOf false x7_1 (ji64)) := ⟨_, rfl⟩
                                                    replace H : (if bq67 = true then (if (ji64) < (t166.length : Int) then (if 0 ≤ x12_5 then (if x12_5 < (x9_5.length : Int) then (glossaryref28_Like.l1 kj34 t163 t166 x7_1 x8_28 (x9_5.set (x12_5 : Int).toNat ((rd t166 (ji64)) == x10_28)) x10_28 true (wrap64 (x12_5 + 1))) else (none)) else (none)) else (none)) else (if 0 ≤ x12_5 then (if x12_5 < (x9_5.length : Int) then (glossaryref28_Like.l1 kj34 t163 t166 x7_1 x8_28 (x9_5.set (x12_5 : Int).toNat false) x10_28 true (wrap64 (x12_5 + 1))) else (none)) else (none))) = some r := by rw [← hbq67] at H; exact H
                                                    have Nbq67 := Aside0.mk hbq67
                                                    clear hbq67
                                                    by_cases c68 : bq67 = true
                                                    · subst c68
                                                      have H1 : (if (ji64) < (t166.length : Int) then (if 0 ≤ x12_5 then (if x12_5 < (x9_5.length : Int) then (glossaryref28_Like.l1 kj34 t163 t166 x7_1 x8_28 (x9_5.set (x12_5 : Int).toNat ((rd t166 (ji64)) == x10_28)) x10_28 true (wrap64 (x12_5 + 1))) else (none)) else (none)) else (none)) = some r := by rw [if_pos rfl] at H; exact H
                                                      clear H
                                                      have H := H1
                                                      clear H1
                                                      by_cases c69 : (ji64) < (t166.length : Int)
                                                      · rw [if_pos c69] at H
                                                        have c69b0 : decide ((ji64) < (t166.length : Int)) = true := decide_eq_true c69
                                                        clear c69
                                                        by_cases c70 : 0 ≤ x12_5
                                                        · rw [if_pos c70] at H
                                                          have c70b0 : decide (0 ≤ x12_5) = true := decide_eq_true c70
                                                          clear c70
                                                          by_cases c71 : x12_5 < (x9_5.length : Int)
                                                          · rw [if_pos c71] at H
                                                            have c71b0 : decide (x12_5 < (x9_5.length : Int)) = true := decide_eq_true c71
                                                            clear c71
                                                            obtain ⟨y186, hy186⟩ : ∃ y_ : List Bool, y_ = (x9_5.set (x12_5 : Int).toNat ((rd t166 (ji64)) == x10_28)) := ⟨_, rfl⟩
                                                            replace H : (glossaryref28_Like.l1 kj34 t163 t166 x7_1 x8_28 y186 x10_28 true (wrap64 (x12_5 + 1))) = some r := by first | (rw [hy186]; with_reducible exact H) | (have H2_ := (Option.bind_some _ _).symm.trans H; rw [hy186]; with_reducible exact H2_) | (have H2_ := (Option.bind_some _ _).symm.trans H; with_reducible exact H2_) | with_reducible exact H | (rw [hy186]; exact H) | exact H
                                                            have Ny186 := Aside0.mk hy186
                                                            clear hy186
                                                            have H' := Aside0.mk H
                                                            clear H
                                                            obtain ⟨Ao73, co73, eo73⟩ := Kd.R_slice HO_7.out
                                                            subst eo73
                                                            have p184 : 0 ≤ ((ji64) : Int) := of_decide_eq_true (by first | (with_reducible assumption) | assumption)
                                                            have q184 : (ji64) < (x7_1.length : Int) := of_decide_eq_true (by first | (with_reducible assumption) | assumption)
                                                            obtain ⟨ad184, e184, hx184_0⟩ := Kd.at_bool (Kd.R_reads' HO_7.out).2.2 (ji64) p184 q184
                                                            (try rw [← Nbq67.out] at hx184_0)
                                                            cases e184
                                                            replace p184 := eq_true p184
                                                            replace q184 := eq_true q184
                                                            have p185 : 0 ≤ ((ji64) : Int) := of_decide_eq_true (by first | (with_reducible assumption) | assumption)
                                                            have q185 : (ji64) < (t166.length : Int) := of_decide_eq_true (by first | (with_reducible assumption) | assumption)
                                                            obtain ⟨ad185, e185, hx185_0⟩ := Kd.at_int (Kd.R_reads' HO_6.out).2.2 (ji64) p185 q185
                                                            cases e185
                                                            replace p185 := eq_true p185
                                                            replace q185 := eq_true q185
                                                            have p72 : 0 ≤ (x12_5 : Int) := of_decide_eq_true (by first | (with_reducible assumption) | assumption)
                                                            have q72 : (x12_5 : Int) < ((x9_5.length : Int) : Int) := of_decide_eq_true (by first | (with_reducible assumption) | assumption)
                                                            obtain ⟨go72, co72, eo72, gb72, gl72, cl72, HG72⟩ := Kd.R_form HO_9.out (by omega)
                                                            (first | cases eo72 | (injection eo72 with ea_ en_ ec_; (first | subst ea_ | (injection ea_ with ea_; subst ea_)); subst ec_; clear en_))
                                                            have GB72 := Aside0.mk gb72
                                                            have GG72 := Aside0.mk HG72
                                                            clear gb72 gl72 HG72
                                                            obtain ⟨hx72_0, hf72_0⟩ := Kd.R_celln false HO_9.out (x12_5 : Int) p72 q72
                                                            replace p72 := eq_true p72
                                                            replace q72 := eq_true q72
                                                            have HP74 := Kd.R_putg HO_9.out (x12_5 : Int) ((rd t166 (ji64)) == x10_28)
                                                            go_wp2_with (first | ((with_reducible refine gate_store (t := 4) (p := 84) rfl ?_); refine store_event (t := 4) (p := 84) (v := ?vo_w75) (w1 := (wc.setCell ⟨go72, (x12_5 : Int).toNat, none⟩ (.bool ((rd t166 (ji64)) == x10_28)))) ?hg ?ho ?hn ?hr ?_; (case ho => rfl); (case hg => rfl); (case hn => rfl); (case hr => first | (go_simp; done) | (go_simp; rfl)); intro w75 hw; have hg : wc.grownBy w75 (some go72) := (by rw [hw]; exact HP74.2); have hp_ : Kd.R Kd.bool 4 w75 w.heap.size (fun k_ => some k_ ≠ (.slice (some ad184) x7_1.length co73 : Value).ownBlock) (.slice (some ⟨go72, 0, none⟩) x9_5.length co72) y186 := (by rw [hw, Ny186.out]; exact HP74.1); clear HP74; have n0_ := Aside0.mk (Kd.R_over' (v := (.slice (some ⟨go72, 0, none⟩) x9_5.length co72)) (by (with_reducible repeat (first | apply Kd.R_alloc | apply Kd.R_drewN | apply Kd.R_drew)); exact HO_5.out) (Kd.R_typed HO_9.out) (by decide) hg); have n1_ := Aside0.mk (Kd.R_over' (v := (.slice (some ⟨go72, 0, none⟩) x9_5.length co72)) (by (with_reducible repeat (first | apply Kd.R_alloc | apply Kd.R_drewN | apply Kd.R_drew)); exact HO_6.out) (Kd.R_typed HO_9.out) (by decide) hg); have n2_ := Aside0.mk (Kd.R_after (v := (.slice (some ⟨go72, 0, none⟩) x9_5.length co72)) (v1 := (.slice (some ⟨go72, 0, none⟩) x9_5.length co72)) (ok := (fun _ => True)) (by (with_reducible repeat (first | apply Kd.R_alloc | apply Kd.R_drewN | apply Kd.R_drew)); exact Kd.R_mono HO_7.out (fun _ hk => ⟨trivial, hk⟩)) hg (.inl rfl)); have n3_ := Aside0.mk (hp_); have n4_ := Aside0.mk ((by rw [hw]; exact below_set (HB.out) GB72.out : Below w.heap.size w w75)); clear HO_5; clear HO_6; clear HO_7; clear HO_9; clear HB; have HO_5 := n0_; have HO_6 := n1_; have HO_7 := n2_; have HO_9 := n3_; have HB := n4_; clear n0_ n1_ n2_ n3_ n4_; clear hg hw hp_))
                                                            go_roundg kj34
                                                            case measure => have := HK1.out; have := HJ21.out; have := HJ26.out; have := HJ28.out; have := HK5.out; have := HJ34.out; omega
                                                            case rel => exact ⟨(y186), (wrap64 (x12_5 + 1)), (by first | rfl | (simp; done) | (simp [*]; done)), H', ⟨by have := HK1.out; have := HJ21.out; have := HJ26.out; have := HJ28.out; have := HK5.out; have := HJ34.out; omega⟩, ⟨by (with_reducible repeat (first | apply Kd.R_alloc | apply Kd.R_drewN | apply Kd.R_drew)); exact HO_5.out⟩, ⟨by (with_reducible repeat (first | apply Kd.R_alloc | apply Kd.R_drewN | apply Kd.R_drew)); exact HO_6.out⟩, ⟨by (with_reducible repeat (first | apply Kd.R_alloc | apply Kd.R_drewN | apply Kd.R_drew)); exact Kd.R_mono HO_7.out (fun _ hk => hk.2)⟩, ⟨by (with_reducible repeat (first | apply Kd.R_alloc | apply Kd.R_drewN | apply Kd.R_drew)); exact HO_9.out⟩, ⟨by repeat (first | (with_reducible first | exact HB.out | apply below_alloc | apply pw_below_drewN | apply below_drew1) | exact HB.out)⟩⟩
                                                          · rw [if_neg c71] at H
                                                            exact absurd H (by simp)
                                                        · rw [if_neg c70] at H
                                                          exact absurd H (by simp)
                                                      · rw [if_neg c69] at H
                                                        exact absurd H (by simp)
                                                    · replace c68 := Bool.eq_false_iff.mpr c68
                                                      subst c68
                                                      have H1 : (if 0 ≤ x12_5 then (if x12_5 < (x9_5.length : Int) then (glossaryref28_Like.l1 kj34 t163 t166 x7_1 x8_28 (x9_5.set (x12_5 : Int).toNat false) x10_28 true (wrap64 (x12_5 + 1))) else (none)) else (none)) = some r := by rw [if_neg (show ¬ (false = true) by decide)] at H; exact H
                                                      clear H
                                                      have H := H1
                                                      clear H1
                                                      by_cases c76 : 0 ≤ x12_5
                                                      · rw [if_pos c76] at H
                                                        have c76b0 : decide (0 ≤ x12_5) = true := decide_eq_true c76
                                                        clear c76
                                                        by_cases c77 : x12_5 < (x9_5.length : Int)
                                                        · rw [if_pos c77] at H
                                                          have c77b0 : decide (x12_5 < (x9_5.length : Int)) = true := decide_eq_true c77
                                                          clear c77
                                                          obtain ⟨y187, hy187⟩ : ∃ y_ : List Bool, y_ = (x9_5.set (x12_5 : Int).toNat false) := ⟨_, rfl⟩
                                                          replace H : (glossaryref28_Like.l1 kj34 t163 t166 x7_1 x8_28 y187 x10_28 true (wrap64 (x12_5 + 1))) = some r := by first | (rw [hy187]; with_reducible exact H) | (have H2_ := (Option.bind_some _ _).symm.trans H; rw [hy187]; with_reducible exact H2_) | (have H2_ := (Option.bind_some _ _).symm.trans H; with_reducible exact H2_) | with_reducible exact H | (rw [hy187]; exact H) | exact H
                                                          have Ny187 := Aside0.mk hy187
                                                          clear hy187
                                                          have H' := Aside0.mk H
                                                          clear H
                                                          obtain ⟨Ao79, co79, eo79⟩ := Kd.R_slice HO_7.out
                                                          subst eo79
                                                          have p184 : 0 ≤ ((ji64) : Int) := of_decide_eq_true (by first | (with_reducible assumption) | assumption)
                                                          have q184 : (ji64) < (x7_1.length : Int) := of_decide_eq_true (by first | (with_reducible assumption) | assumption)
                                                          obtain ⟨ad184, e184, hx184_0⟩ := Kd.at_bool (Kd.R_reads' HO_7.out).2.2 (ji64) p184 q184
                                                          (try rw [← Nbq67.out] at hx184_0)
                                                          cases e184
                                                          replace p184 := eq_true p184
                                                          replace q184 := eq_true q184
                                                          have p78 : 0 ≤ (x12_5 : Int) := of_decide_eq_true (by first | (with_reducible assumption) | assumption)
                                                          have q78 : (x12_5 : Int) < ((x9_5.length : Int) : Int) := of_decide_eq_true (by first | (with_reducible assumption) | assumption)
                                                          obtain ⟨go78, co78, eo78, gb78, gl78, cl78, HG78⟩ := Kd.R_form HO_9.out (by omega)
                                                          (first | cases eo78 | (injection eo78 with ea_ en_ ec_; (first | subst ea_ | (injection ea_ with ea_; subst ea_)); subst ec_; clear en_))
                                                          have GB78 := Aside0.mk gb78
                                                          have GG78 := Aside0.mk HG78
                                                          clear gb78 gl78 HG78
                                                          obtain ⟨hx78_0, hf78_0⟩ := Kd.R_celln false HO_9.out (x12_5 : Int) p78 q78
                                                          replace p78 := eq_true p78
                                                          replace q78 := eq_true q78
                                                          have HP80 := Kd.R_putg HO_9.out (x12_5 : Int) false
                                                          go_wp2_with (first | ((with_reducible refine gate_store (t := 4) (p := 84) rfl ?_); refine store_event (t := 4) (p := 84) (v := ?vo_w81) (w1 := (wc.setCell ⟨go78, (x12_5 : Int).toNat, none⟩ (.bool false))) ?hg ?ho ?hn ?hr ?_; (case ho => rfl); (case hg => rfl); (case hn => rfl); (case hr => first | (go_simp; done) | (go_simp; rfl)); intro w81 hw; have hg : wc.grownBy w81 (some go78) := (by rw [hw]; exact HP80.2); have hp_ : Kd.R Kd.bool 4 w81 w.heap.size (fun k_ => some k_ ≠ (.slice (some ad184) x7_1.length co79 : Value).ownBlock) (.slice (some ⟨go78, 0, none⟩) x9_5.length co78) y187 := (by rw [hw, Ny187.out]; exact HP80.1); clear HP80; have n0_ := Aside0.mk (Kd.R_over' (v := (.slice (some ⟨go78, 0, none⟩) x9_5.length co78)) (by (with_reducible repeat (first | apply Kd.R_alloc | apply Kd.R_drewN | apply Kd.R_drew)); exact HO_5.out) (Kd.R_typed HO_9.out) (by decide) hg); have n1_ := Aside0.mk (Kd.R_over' (v := (.slice (some ⟨go78, 0, none⟩) x9_5.length co78)) (by (with_reducible repeat (first | apply Kd.R_alloc | apply Kd.R_drewN | apply Kd.R_drew)); exact HO_6.out) (Kd.R_typed HO_9.out) (by decide) hg); have n2_ := Aside0.mk (Kd.R_after (v := (.slice (some ⟨go78, 0, none⟩) x9_5.length co78)) (v1 := (.slice (some ⟨go78, 0, none⟩) x9_5.length co78)) (ok := (fun _ => True)) (by (with_reducible repeat (first | apply Kd.R_alloc | apply Kd.R_drewN | apply Kd.R_drew)); exact Kd.R_mono HO_7.out (fun _ hk => ⟨trivial, hk⟩)) hg (.inl rfl)); have n3_ := Aside0.mk (hp_); have n4_ := Aside0.mk ((by rw [hw]; exact below_set (HB.out) GB78.out : Below w.heap.size w w81)); clear HO_5; clear HO_6; clear HO_7; clear HO_9; clear HB; have HO_5 := n0_; have HO_6 := n1_; have HO_7 := n2_; have HO_9 := n3_; have HB := n4_; clear n0_ n1_ n2_ n3_ n4_; clear hg hw hp_))
                                                          go_roundg kj34
                                                          case measure => have := HK1.out; have := HJ21.out; have := HJ26.out; have := HJ28.out; have := HK5.out; have := HJ34.out; omega
                                                          case rel => exact ⟨(y187), (wrap64 (x12_5 + 1)), (by first | rfl | (simp; done) | (simp [*]; done)), H', ⟨by have := HK1.out; have := HJ21.out; have := HJ26.out; have := HJ28.out; have := HK5.out; have := HJ34.out; omega⟩, ⟨by (with_reducible repeat (first | apply Kd.R_alloc | apply Kd.R_drewN | apply Kd.R_drew)); exact HO_5.out⟩, ⟨by (with_reducible repeat (first | apply Kd.R_alloc | apply Kd.R_drewN | apply Kd.R_drew)); exact HO_6.out⟩, ⟨by (with_reducible repeat (first | apply Kd.R_alloc | apply Kd.R_drewN | apply Kd.R_drew)); exact Kd.R_mono HO_7.out (fun _ hk => hk.2)⟩, ⟨by (with_reducible repeat (first | apply Kd.R_alloc | apply Kd.R_drewN | apply Kd.R_drew)); exact HO_9.out⟩, ⟨by repeat (first | (with_reducible first | exact HB.out | apply below_alloc | apply pw_below_drewN | apply below_drew1) | exact HB.out)⟩⟩
                                                        · rw [if_neg c77] at H
                                                          exact absurd H (by simp)
                                                      · rw [if_neg c76] at H
                                                        exact absurd H (by simp)
                                                  · rw [if_neg c66] at H
                                                    exact absurd H (by simp)
                                                · rw [if_neg c65] at H
                                                  exact absurd H (by simp)
                                              · rw [if_neg c63] at H
                                                have c63b0 : decide (0 < x12_5) = false := decide_eq_false c63
                                                clear c63
                                                by_cases c82 : 0 ≤ x12_5
                                                · rw [if_pos c82] at H
                                                  have c82b0 : decide (0 ≤ x12_5) = true := decide_eq_true c82
                                                  clear c82
                                                  by_cases c83 : x12_5 < (x9_5.length : Int)
                                                  · rw [if_pos c83] at H
                                                    have c83b0 : decide (x12_5 < (x9_5.length : Int)) = true := decide_eq_true c83
                                                    clear c83
                                                    obtain ⟨y188, hy188⟩ : ∃ y_ : List Bool, y_ = (x9_5.set (x12_5 : Int).toNat false) := ⟨_, rfl⟩
                                                    replace H : (glossaryref28_Like.l1 kj34 t163 t166 x7_1 x8_28 y188 x10_28 true (wrap64 (x12_5 + 1))) = some r := by first | (rw [hy188]; with_reducible exact H) | (have H2_ := (Option.bind_some _ _).symm.trans H; rw [hy188]; with_reducible exact H2_) | (have H2_ := (Option.bind_some _ _).symm.trans H; with_reducible exact H2_) | with_reducible exact H | (rw [hy188]; exact H) | exact H
                                                    have Ny188 := Aside0.mk hy188
                                                    clear hy188
                                                    have H' := Aside0.mk H
                                                    clear H
                                                    have p84 : 0 ≤ (x12_5 : Int) := of_decide_eq_true (by first | (with_reducible assumption) | assumption)
                                                    have q84 : (x12_5 : Int) < ((x9_5.length : Int) : Int) := of_decide_eq_true (by first | (with_reducible assumption) | assumption)
                                                    obtain ⟨go84, co84, eo84, gb84, gl84, cl84, HG84⟩ := Kd.R_form HO_9.out (by omega)
                                                    (first | cases eo84 | (injection eo84 with ea_ en_ ec_; (first | subst ea_ | (injection ea_ with ea_; subst ea_)); subst ec_; clear en_))
                                                    have GB84 := Aside0.mk gb84
                                                    have GG84 := Aside0.mk HG84
                                                    clear gb84 gl84 HG84
                                                    obtain ⟨hx84_0, hf84_0⟩ := Kd.R_celln false HO_9.out (x12_5 : Int) p84 q84
                                                    replace p84 := eq_true p84
                                                    replace q84 := eq_true q84
                                                    have HP85 := Kd.R_putg HO_9.out (x12_5 : Int) false
                                                    go_wp2_with (first | ((with_reducible refine gate_store (t := 4) (p := 84) rfl ?_); refine store_event (t := 4) (p := 84) (v := ?vo_w86) (w1 := (wc.setCell ⟨go84, (x12_5 : Int).toNat, none⟩ (.bool false))) ?hg ?ho ?hn ?hr ?_; (case ho => rfl); (case hg => rfl); (case hn => rfl); (case hr => first | (go_simp; done) | (go_simp; rfl)); intro w86 hw; have hg : wc.grownBy w86 (some go84) := (by rw [hw]; exact HP85.2); have hp_ : Kd.R Kd.bool 4 w86 w.heap.size (fun k_ => some k_ ≠ (u7 : Value).ownBlock) (.slice (some ⟨go84, 0, none⟩) x9_5.length co84) y188 := (by rw [hw, Ny188.out]; exact HP85.1); clear HP85; have n0_ := Aside0.mk (Kd.R_over' (v := (.slice (some ⟨go84, 0, none⟩) x9_5.length co84)) (by (with_reducible repeat (first | apply Kd.R_alloc | apply Kd.R_drewN | apply Kd.R_drew)); exact HO_5.out) (Kd.R_typed HO_9.out) (by decide) hg); have n1_ := Aside0.mk (Kd.R_over' (v := (.slice (some ⟨go84, 0, none⟩) x9_5.length co84)) (by (with_reducible repeat (first | apply Kd.R_alloc | apply Kd.R_drewN | apply Kd.R_drew)); exact HO_6.out) (Kd.R_typed HO_9.out) (by decide) hg); have n2_ := Aside0.mk (Kd.R_after (v := (.slice (some ⟨go84, 0, none⟩) x9_5.length co84)) (v1 := (.slice (some ⟨go84, 0, none⟩) x9_5.length co84)) (ok := (fun _ => True)) (by (with_reducible repeat (first | apply Kd.R_alloc | apply Kd.R_drewN | apply Kd.R_drew)); exact Kd.R_mono HO_7.out (fun _ hk => ⟨trivial, hk⟩)) hg (.inl rfl)); have n3_ := Aside0.mk (hp_); have n4_ := Aside0.mk ((by rw [hw]; exact below_set (HB.out) GB84.out : Below w.heap.size w w86)); clear HO_5; clear HO_6; clear HO_7; clear HO_9; clear HB; have HO_5 := n0_; have HO_6 := n1_; have HO_7 := n2_; have HO_9 := n3_; have HB := n4_; clear n0_ n1_ n2_ n3_ n4_; clear hg hw hp_))
                                                    go_roundg kj34
                                                    case measure => have := HK1.out; have := HJ21.out; have := HJ26.out; have := HJ28.out; have := HK5.out; have := HJ34.out; omega
                                                    case rel => exact ⟨(y188), (wrap64 (x12_5 + 1)), (by first | rfl | (simp; done) | (simp [*]; done)), H', ⟨by have := HK1.out; have := HJ21.out; have := HJ26.out; have := HJ28.out; have := HK5.out; have := HJ34.out; omega⟩, ⟨by (with_reducible repeat (first | apply Kd.R_alloc | apply Kd.R_drewN | apply Kd.R_drew)); exact HO_5.out⟩, ⟨by (with_reducible repeat (first | apply Kd.R_alloc | apply Kd.R_drewN | apply Kd.R_drew)); exact HO_6.out⟩, ⟨by (with_reducible repeat (first | apply Kd.R_alloc | apply Kd.R_drewN | apply Kd.R_drew)); exact Kd.R_mono HO_7.out (fun _ hk => hk.2)⟩, ⟨by (with_reducible repeat (first | apply Kd.R_alloc | apply Kd.R_drewN | apply Kd.R_drew)); exact HO_9.out⟩, ⟨by repeat (first | (with_reducible first | exact HB.out | apply below_alloc | apply pw_below_drewN | apply below_drew1) | exact HB.out)⟩⟩
                                                  · rw [if_neg c83] at H
                                                    exact absurd H (by simp)
                                                · rw [if_neg c82] at H
                                                  exact absurd H (by simp)
                                            · replace c62 := Bool.eq_false_iff.mpr c62
                                              subst c62
                                              have H1 : (if x12_5 > 0 then (if 0 ≤ (wrap64 (x12_5 - 1)) then (if (wrap64 (x12_5 - 1)) < (x7_1.length : Int) then (if 0 ≤ x12_5 then (if x12_5 < (x9_5.length : Int) then (glossaryref28_Like.l1 kj34 t163 t166 x7_1 x8_28 (x9_5.set (x12_5 : Int).toNat (rdOf false x7_1 (wrap64 (x12_5 - 1)))) x10_28 false (wrap64 (x12_5 + 1))) else (none)) else (none)) else (none)) else (none)) else (if 0 ≤ x12_5 then (if x12_5 < (x9_5.length : Int) then (glossaryref28_Like.l1 kj34 t163 t166 x7_1 x8_28 (x9_5.set (x12_5 : Int).toNat false) x10_28 false (wrap64 (x12_5 + 1))) else (none)) else (none))) = some r := by rw [if_neg (show ¬ (false = true) by decide)] at H; exact H
                                              clear H
                                              have H := H1
                                              clear H1
                                              by_cases c87 : x12_5 > 0
                                              · rw [if_pos c87] at H
                                                have c87b0 : decide (0 < x12_5) = true := decide_eq_true c87
                                                clear c87
                                                obtain ⟨ji88, hji88⟩ : ∃ j_ : Int, (wrap64 (x12_5 - 1)) = j_ := ⟨_, rfl⟩
                                                replace H : (if 0 ≤ (ji88) then (if (ji88) < (x7_1.length : Int) then (if 0 ≤ x12_5 then (if x12_5 < (x9_5.length : Int) then (glossaryref28_Like.l1 kj34 t163 t166 x7_1 x8_28 (x9_5.set (x12_5 : Int).toNat (rdOf false x7_1 (ji88))) x10_28 false (wrap64 (x12_5 + 1))) else (none)) else (none)) else (none)) else (none)) = some r := by first | (rw [hji88] at H; exact H) | (simp only [hji88] at H ⊢; exact H)
                                                have hji88w : (IntKind.i64.wrap (x12_5 - 1)) = ji88 := (i64_w _).trans hji88
                                                by_cases c89 : 0 ≤ (ji88)
                                                · rw [if_pos c89] at H
                                                  have c89b0 : decide (0 ≤ (ji88)) = true := decide_eq_true c89
                                                  clear c89
                                                  by_cases c90 : (ji88) < (x7_1.length : Int)
                                                  · rw [if_pos c90] at H
                                                    have c90b0 : decide ((ji88) < (x7_1.length : Int)) = true := decide_eq_true c90
                                                    clear c90
                                                    by_cases c91 : 0 ≤ x12_5
                                                    · rw [if_pos c91] at H
                                                      have c91b0 : decide (0 ≤ x12_5) = true := decide_eq_true c91
                                                      clear c91
                                                      by_cases c92 : x12_5 < (x9_5.length : Int)
                                                      · rw [if_pos c92] at H
                                                        have c92b0 : decide (x12_5 < (x9_5.length : Int)) = true := decide_eq_true c92
                                                        clear c92
                                                        obtain ⟨y190, hy190⟩ : ∃ y_ : List Bool, y_ = (x9_5.set (x12_5 : Int).toNat (rdOf false x7_1 (ji88))) := ⟨_, rfl⟩
                                                        replace H : (glossaryref28_Like.l1 kj34 t163 t166 x7_1 x8_28 y190 x10_28 false (wrap64 (x12_5 + 1))) = some r := by first | (rw [hy190]; with_reducible exact H) | (have H2_ := (Option.bind_some _ _).symm.trans H; rw [hy190]; with_reducible exact H2_) | (have H2_ := (Option.bind_some _ _).symm.trans H; with_reducible exact H2_) | with_reducible exact H | (rw [hy190]; exact H) | exact H
                                                        have Ny190 := Aside0.mk hy190
                                                        clear hy190
                                                        have H' := Aside0.mk H
                                                        clear H
                                                        obtain ⟨Ao94, co94, eo94⟩ := Kd.R_slice HO_7.out
                                                        subst eo94
                                                        have p189 : 0 ≤ ((ji88) : Int) := of_decide_eq_true (by first | (with_reducible assumption) | assumption)
                                                        have q189 : (ji88) < (x7_1.length : Int) := of_decide_eq_true (by first | (with_reducible assumption) | assumption)
                                                        obtain ⟨ad189, e189, hx189_0⟩ := Kd.at_bool (Kd.R_reads' HO_7.out).2.2 (ji88) p189 q189
                                                        cases e189
                                                        replace p189 := eq_true p189
                                                        replace q189 := eq_true q189
                                                        have p93 : 0 ≤ (x12_5 : Int) := of_decide_eq_true (by first | (with_reducible assumption) | assumption)
                                                        have q93 : (x12_5 : Int) < ((x9_5.length : Int) : Int) := of_decide_eq_true (by first | (with_reducible assumption) | assumption)
                                                        obtain ⟨go93, co93, eo93, gb93, gl93, cl93, HG93⟩ := Kd.R_form HO_9.out (by omega)
                                                        (first | cases eo93 | (injection eo93 with ea_ en_ ec_; (first | subst ea_ | (injection ea_ with ea_; subst ea_)); subst ec_; clear en_))
                                                        have GB93 := Aside0.mk gb93
                                                        have GG93 := Aside0.mk HG93
                                                        clear gb93 gl93 HG93
                                                        obtain ⟨hx93_0, hf93_0⟩ := Kd.R_celln false HO_9.out (x12_5 : Int) p93 q93
                                                        replace p93 := eq_true p93
                                                        replace q93 := eq_true q93
                                                        have HP95 := Kd.R_putg HO_9.out (x12_5 : Int) (rdOf false x7_1 (ji88))
                                                        go_wp2_with (first | ((with_reducible refine gate_store (t := 4) (p := 124) rfl ?_); refine store_event (t := 4) (p := 124) (v := ?vo_w96) (w1 := (wc.setCell ⟨go93, (x12_5 : Int).toNat, none⟩ (.bool (rdOf false x7_1 (ji88))))) ?hg ?ho ?hn ?hr ?_; (case ho => rfl); (case hg => rfl); (case hn => rfl); (case hr => first | (go_simp; done) | (go_simp; rfl)); intro w96 hw; have hg : wc.grownBy w96 (some go93) := (by rw [hw]; exact HP95.2); have hp_ : Kd.R Kd.bool 4 w96 w.heap.size (fun k_ => some k_ ≠ (.slice (some ad189) x7_1.length co94 : Value).ownBlock) (.slice (some ⟨go93, 0, none⟩) x9_5.length co93) y190 := (by rw [hw, Ny190.out]; exact HP95.1); clear HP95; have n0_ := Aside0.mk (Kd.R_over' (v := (.slice (some ⟨go93, 0, none⟩) x9_5.length co93)) (by (with_reducible repeat (first | apply Kd.R_alloc | apply Kd.R_drewN | apply Kd.R_drew)); exact HO_5.out) (Kd.R_typed HO_9.out) (by decide) hg); have n1_ := Aside0.mk (Kd.R_over' (v := (.slice (some ⟨go93, 0, none⟩) x9_5.length co93)) (by (with_reducible repeat (first | apply Kd.R_alloc | apply Kd.R_drewN | apply Kd.R_drew)); exact HO_6.out) (Kd.R_typed HO_9.out) (by decide) hg); have n2_ := Aside0.mk (Kd.R_after (v := (.slice (some ⟨go93, 0, none⟩) x9_5.length co93)) (v1 := (.slice (some ⟨go93, 0, none⟩) x9_5.length co93)) (ok := (fun _ => True)) (by (with_reducible repeat (first | apply Kd.R_alloc | apply Kd.R_drewN | apply Kd.R_drew)); exact Kd.R_mono HO_7.out (fun _ hk => ⟨trivial, hk⟩)) hg (.inl rfl)); have n3_ := Aside0.mk (hp_); have n4_ := Aside0.mk ((by rw [hw]; exact below_set (HB.out) GB93.out : Below w.heap.size w w96)); clear HO_5; clear HO_6; clear HO_7; clear HO_9; clear HB; have HO_5 := n0_; have HO_6 := n1_; have HO_7 := n2_; have HO_9 := n3_; have HB := n4_; clear n0_ n1_ n2_ n3_ n4_; clear hg hw hp_))
                                                        go_roundg kj34
                                                        case measure => have := HK1.out; have := HJ21.out; have := HJ26.out; have := HJ28.out; have := HK5.out; have := HJ34.out; omega
                                                        case rel => exact ⟨(y190), (wrap64 (x12_5 + 1)), (by first | rfl | (simp; done) | (simp [*]; done)), H', ⟨by have := HK1.out; have := HJ21.out; have := HJ26.out; have := HJ28.out; have := HK5.out; have := HJ34.out; omega⟩, ⟨by (with_reducible repeat (first | apply Kd.R_alloc | apply Kd.R_drewN | apply Kd.R_drew)); exact HO_5.out⟩, ⟨by (with_reducible repeat (first | apply Kd.R_alloc | apply Kd.R_drewN | apply Kd.R_drew)); exact HO_6.out⟩, ⟨by (with_reducible repeat (first | apply Kd.R_alloc | apply Kd.R_drewN | apply Kd.R_drew)); exact Kd.R_mono HO_7.out (fun _ hk => hk.2)⟩, ⟨by (with_reducible repeat (first | apply Kd.R_alloc | apply Kd.R_drewN | apply Kd.R_drew)); exact HO_9.out⟩, ⟨by repeat (first | (with_reducible first | exact HB.out | apply below_alloc | apply pw_below_drewN | apply below_drew1) | exact HB.out)⟩⟩
                                                      · rw [if_neg c92] at H
                                                        exact absurd H (by simp)
                                                    · rw [if_neg c91] at H
                                                      exact absurd H (by simp)
                                                  · rw [if_neg c90] at H
                                                    exact absurd H (by simp)
                                                · rw [if_neg c89] at H
                                                  exact absurd H (by simp)
                                              · rw [if_neg c87] at H
                                                have c87b0 : decide (0 < x12_5) = false := decide_eq_false c87
                                                clear c87
                                                by_cases c97 : 0 ≤ x12_5
                                                · rw [if_pos c97] at H
                                                  have c97b0 : decide (0 ≤ x12_5) = true := decide_eq_true c97
                                                  clear c97
                                                  by_cases c98 : x12_5 < (x9_5.length : Int)
                                                  · rw [if_pos c98] at H
                                                    have c98b0 : decide (x12_5 < (x9_5.length : Int)) = true := decide_eq_true c98
                                                    clear c98
                                                    obtain ⟨y191, hy191⟩ : ∃ y_ : List Bool, y_ = (x9_5.set (x12_5 : Int).toNat false) := ⟨_, rfl⟩
                                                    replace H : (glossaryref28_Like.l1 kj34 t163 t166 x7_1 x8_28 y191 x10_28 false (wrap64 (x12_5 + 1))) = some r := by first | (rw [hy191]; with_reducible exact H) | (have H2_ := (Option.bind_some _ _).symm.trans H; rw [hy191]; with_reducible exact H2_) | (have H2_ := (Option.bind_some _ _).symm.trans H; with_reducible exact H2_) | with_reducible exact H | (rw [hy191]; exact H) | exact H
                                                    have Ny191 := Aside0.mk hy191
                                                    clear hy191
                                                    have H' := Aside0.mk H
                                                    clear H
                                                    have p99 : 0 ≤ (x12_5 : Int) := of_decide_eq_true (by first | (with_reducible assumption) | assumption)
                                                    have q99 : (x12_5 : Int) < ((x9_5.length : Int) : Int) := of_decide_eq_true (by first | (with_reducible assumption) | assumption)
                                                    obtain ⟨go99, co99, eo99, gb99, gl99, cl99, HG99⟩ := Kd.R_form HO_9.out (by omega)
                                                    (first | cases eo99 | (injection eo99 with ea_ en_ ec_; (first | subst ea_ | (injection ea_ with ea_; subst ea_)); subst ec_; clear en_))
                                                    have GB99 := Aside0.mk gb99
                                                    have GG99 := Aside0.mk HG99
                                                    clear gb99 gl99 HG99
                                                    obtain ⟨hx99_0, hf99_0⟩ := Kd.R_celln false HO_9.out (x12_5 : Int) p99 q99
                                                    replace p99 := eq_true p99
                                                    replace q99 := eq_true q99
                                                    have HP100 := Kd.R_putg HO_9.out (x12_5 : Int) false
                                                    go_wp2_with (first | ((with_reducible refine gate_store (t := 4) (p := 124) rfl ?_); refine store_event (t := 4) (p := 124) (v := ?vo_w101) (w1 := (wc.setCell ⟨go99, (x12_5 : Int).toNat, none⟩ (.bool false))) ?hg ?ho ?hn ?hr ?_; (case ho => rfl); (case hg => rfl); (case hn => rfl); (case hr => first | (go_simp; done) | (go_simp; rfl)); intro w101 hw; have hg : wc.grownBy w101 (some go99) := (by rw [hw]; exact HP100.2); have hp_ : Kd.R Kd.bool 4 w101 w.heap.size (fun k_ => some k_ ≠ (u7 : Value).ownBlock) (.slice (some ⟨go99, 0, none⟩) x9_5.length co99) y191 := (by rw [hw, Ny191.out]; exact HP100.1); clear HP100; have n0_ := Aside0.mk (Kd.R_over' (v := (.slice (some ⟨go99, 0, none⟩) x9_5.length co99)) (by (with_reducible repeat (first | apply Kd.R_alloc | apply Kd.R_drewN | apply Kd.R_drew)); exact HO_5.out) (Kd.R_typed HO_9.out) (by decide) hg); have n1_ := Aside0.mk (Kd.R_over' (v := (.slice (some ⟨go99, 0, none⟩) x9_5.length co99)) (by (with_reducible repeat (first | apply Kd.R_alloc | apply Kd.R_drewN | apply Kd.R_drew)); exact HO_6.out) (Kd.R_typed HO_9.out) (by decide) hg); have n2_ := Aside0.mk (Kd.R_after (v := (.slice (some ⟨go99, 0, none⟩) x9_5.length co99)) (v1 := (.slice (some ⟨go99, 0, none⟩) x9_5.length co99)) (ok := (fun _ => True)) (by (with_reducible repeat (first | apply Kd.R_alloc | apply Kd.R_drewN | apply Kd.R_drew)); exact Kd.R_mono HO_7.out (fun _ hk => ⟨trivial, hk⟩)) hg (.inl rfl)); have n3_ := Aside0.mk (hp_); have n4_ := Aside0.mk ((by rw [hw]; exact below_set (HB.out) GB99.out : Below w.heap.size w w101)); clear HO_5; clear HO_6; clear HO_7; clear HO_9; clear HB; have HO_5 := n0_; have HO_6 := n1_; have HO_7 := n2_; have HO_9 := n3_; have HB := n4_; clear n0_ n1_ n2_ n3_ n4_; clear hg hw hp_))
                                                    go_roundg kj34
                                                    case measure => have := HK1.out; have := HJ21.out; have := HJ26.out; have := HJ28.out; have := HK5.out; have := HJ34.out; omega
                                                    case rel => exact ⟨(y191), (wrap64 (x12_5 + 1)), (by first | rfl | (simp; done) | (simp [*]; done)), H', ⟨by have := HK1.out; have := HJ21.out; have := HJ26.out; have := HJ28.out; have := HK5.out; have := HJ34.out; omega⟩, ⟨by (with_reducible repeat (first | apply Kd.R_alloc | apply Kd.R_drewN | apply Kd.R_drew)); exact HO_5.out⟩, ⟨by (with_reducible repeat (first | apply Kd.R_alloc | apply Kd.R_drewN | apply Kd.R_drew)); exact HO_6.out⟩, ⟨by (with_reducible repeat (first | apply Kd.R_alloc | apply Kd.R_drewN | apply Kd.R_drew)); exact Kd.R_mono HO_7.out (fun _ hk => hk.2)⟩, ⟨by (with_reducible repeat (first | apply Kd.R_alloc | apply Kd.R_drewN | apply Kd.R_drew)); exact HO_9.out⟩, ⟨by repeat (first | (with_reducible first | exact HB.out | apply below_alloc | apply pw_below_drewN | apply below_drew1) | exact HB.out)⟩⟩
                                                  · rw [if_neg c98] at H
                                                    exact absurd H (by simp)
                                                · rw [if_neg c97] at H
                                                  exact absurd H (by simp)
                                    · rw [if_neg c34] at H
                                      have c34b0 : decide (x12_5 ≤ (t166.length : Int)) = false := decide_eq_false c34
                                      clear c34
                                      have H' := Aside0.mk H
                                      clear H
                                      go_wp2
                                      go_roundg k5
                                      case measure => have := HK1.out; have := HJ21.out; have := HJ26.out; have := HJ28.out; have := HK5.out; omega
                                      case rel => exact ⟨(x9_5), (wrap64 (x8_28 + 1)), (by first | rfl | (simp; done) | (simp [*]; done)), H', ⟨by have := HK1.out; have := HJ21.out; have := HJ26.out; have := HJ28.out; have := HK5.out; omega⟩, ⟨by (with_reducible repeat (first | apply Kd.R_alloc | apply Kd.R_drewN | apply Kd.R_drew)); exact HO_5.out⟩, ⟨by (with_reducible repeat (first | apply Kd.R_alloc | apply Kd.R_drewN | apply Kd.R_drew)); exact HO_6.out⟩, ⟨by (with_reducible repeat (first | apply Kd.R_alloc | apply Kd.R_drewN | apply Kd.R_drew)); exact Kd.R_mono HO_9.out (fun _ hk => trivial)⟩, ⟨by repeat (first | (with_reducible first | exact HB.out | apply below_alloc | apply pw_below_drewN | apply below_drew1) | exact HB.out)⟩⟩
                  · rw [if_neg c21] at H
                    exact absurd H (by simp)
                · rw [if_neg c20] at H
                  exact absurd H (by simp)
              · rw [if_neg c19] at H
                exact absurd H (by simp)
            · rw [if_neg c17] at H
              have c17b0 : decide (x8_1 < (t163.length : Int)) = false := decide_eq_false c17
              clear c17
              by_cases c102 : 0 ≤ (t166.length : Int)
              · rw [if_pos c102] at H
                have c102b0 : decide (0 ≤ (t166.length : Int)) = true := decide_eq_true c102
                have c102b1 : decide (0 ≤ t166.length) = true := decide_eq_true (by omega)
                clear c102
                by_cases c103 : (t166.length : Int) < (x7_1.length : Int)
                · rw [if_pos c103] at H
                  have c103b0 : decide ((t166.length : Int) < (x7_1.length : Int)) = true := decide_eq_true c103
                  have c103b1 : decide (t166.length < x7_1.length) = true := decide_eq_true (Int.ofNat_lt.mp c103)
                  clear c103
                  obtain rfl := Option.some.inj H
                  obtain ⟨Ao104, co104, eo104⟩ := Kd.R_slice HO_5.out
                  subst eo104
                  obtain ⟨Ao105, co105, eo105⟩ := Kd.R_slice HO_7.out
                  subst eo105
                  have p173 : 0 ≤ ((t166.length : Int) : Int) := of_decide_eq_true (by first | (with_reducible assumption) | assumption)
                  have q173 : (t166.length : Int) < (x7_1.length : Int) := of_decide_eq_true (by first | (with_reducible assumption) | assumption)
                  obtain ⟨ad173, e173, hx173_0⟩ := Kd.at_bool (Kd.R_reads' HO_7.out).2.2 (t166.length : Int) p173 q173
                  cases e173
                  (try simp only [Go.IntWalk.toNatUp] at hx173_0)
                  replace p173 := eq_true p173
                  replace q173 := eq_true q173
                  go_wp2
                  go_ret
                  exact ⟨by first | rfl | (simp [errW_none, errW_some] <;> rfl) | (simp only [← hji5]; first | rfl | (simp [errW_none, errW_some] <;> rfl)) | (simp [*, errW_none, errW_some] <;> rfl), by repeat (first | (with_reducible first | exact HB.out | apply below_alloc | apply pw_below_drewN | apply below_drew1) | exact HB.out)⟩
                · rw [if_neg c103] at H
                  exact absurd H (by simp)
              · rw [if_neg c102] at H
                exact absurd H (by simp)
      · rw [if_neg c8] at H
        exact absurd H (by simp)
    · rw [if_neg c7] at H
      exact absurd H (by simp)
  · rw [if_neg c6] at H
    exact absurd H (by simp)
end Go.Proofs.YtlomjbfhalmalaaGreatDoor.PAll
