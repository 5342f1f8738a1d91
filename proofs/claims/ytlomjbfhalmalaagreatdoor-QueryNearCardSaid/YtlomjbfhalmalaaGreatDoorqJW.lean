/-
  Of this seat's texts what the claim wants (printed by a program): JW.
-/
import Derived.Test.YtlomjbfhalmalaaGreatDoorqJR
import Derived.Test.YtlomjbfhalmalaaGreatDoorqJS
import Derived.Test.YtlomjbfhalmalaaGreatDoorqJV
set_option linter.unusedVariables false
set_option linter.unusedSimpArgs false
namespace Go.Proofs.YtlomjbfhalmalaaGreatDoor.C
open Go Go.RowKit Go.Shelf Go.Proofs.YtlomjbfhalmalaaGreatDoor.M Go.Proofs.YtlomjbfhalmalaaGreatDoor.Z Go.Proofs.YtlomjbfhalmalaaGreatDoor.H Go.Proofs.YtlomjbfhalmalaaGreatDoor.PAll Go.Proofs.YtlomjbfhalmalaaGreatDoorW.PrintWords Go.Proofs.YtlomjbfhalmalaaGreatDoorW.PrintLast Go.Proofs.YtlomjbfhalmalaaGreatDoorW.PrintMore
theorem like1 : glob (toks (pts (bl ⟨#[99, 42, 116]⟩))) (pts (bl ⟨#[99, 97, 116]⟩)) = true := by decide +kernel
theorem like2 : glob (toks (pts (bl ⟨#[99, 63, 116]⟩))) (pts (bl ⟨#[99, 116]⟩)) = false := by decide +kernel
theorem pcat : pts (bl ⟨#[99, 97, 116]⟩) = [99, 97, 116] := by decide +kernel
theorem pcart : pts (bl ⟨#[99, 97, 114, 116]⟩) = [99, 97, 114, 116] := by decide +kernel
theorem edcat : ed (gX [99, 97, 116]) (gX [99, 97, 114, 116]) 3 4 = 1 := by
  simp [ed, gX]
theorem same_A : glossaryref0_SameQuery.f 60 7 ⟨#[]⟩ ⟨#[]⟩ 0 [notS 1 [97], lfS 2 [98]] 7 ⟨#[]⟩ ⟨#[]⟩ 0 [notS 1 [97], lfS 2 [98]] = some true := by decide +kernel
set_option maxHeartbeats 1000000 in
theorem word_any (s : ByteArray) (w : World) : Calls Tryz.prog 27 #[.string s] w fun e w' => e = .returned (.agg #[.int .i64 1, .string s, .string ⟨#[]⟩, .int .i64 0, .slice none 0 0]) ∧ w' = w.alloc (.cells #[.int .i64 1, .string s, .string ⟨#[]⟩, .int .i64 0, .slice none 0 0] 24) := by
  go_enter Tryz.func27, Tryz.ntmps27
  go_wp2
  simp [bodyPost, results, Tryz.results27, go_sem]
set_option maxHeartbeats 8000000 in
set_option maxRecDepth 100000 in
theorem works_any (w : World) (hT' : hT w) (hE : HE w) :
    Calls Tryz.prog 17 #[] w fun e w' => e = .returned (.bool true) ∧ Below w.heap.size w w' := by
  obtain ⟨wu, hu⟩ : ∃ wu, w.alloc (.cells (leafC 1 [97]) 24) = wu := ⟨_, rfl⟩
  have ku : Keeps none' w wu := by rw [← hu]; exact Keeps.alloc _ _ _
  have hTu := hT_keeps hT' ku (fun h => h) (fun h => h)
  have hEu : HE wu := ku.cell hE (fun h => h)
  have Hu := Lib.hid hu
  clear hu
  have hlt := hT_lt hTu
  have kA : Keeps none' wu (wu.alloc (.cells (leafC 1 [97]) 24)) := Keeps.alloc _ _ _
  have kB : Keeps none' (wu.alloc (.cells (leafC 1 [97]) 24)) ((wu.alloc (.cells (leafC 1 [97]) 24)).alloc (.cells (notC wu.heap.size ++ leafL 2 [98]).toArray 24)) := Keeps.alloc _ _ _
  have kC : Keeps none' ((wu.alloc (.cells (leafC 1 [97]) 24)).alloc (.cells (notC wu.heap.size ++ leafL 2 [98]).toArray 24)) (((wu.alloc (.cells (leafC 1 [97]) 24)).alloc (.cells (notC wu.heap.size ++ leafL 2 [98]).toArray 24)).alloc (.cells #[.int .i64 7, .string ⟨#[]⟩, .string ⟨#[]⟩, .int .i64 0, .slice (some ⟨wu.heap.size + 1, 0, none⟩) 2 2] 24)) := Keeps.alloc _ _ _
  have z1 : (wu.alloc (.cells (leafC 1 [97]) 24)).heap.size = wu.heap.size + 1 := by simp
  have z2 : ((wu.alloc (.cells (leafC 1 [97]) 24)).alloc (.cells (notC wu.heap.size ++ leafL 2 [98]).toArray 24)).heap.size = wu.heap.size + 2 := by simp
  have hA := kC.obj (kB.obj (heap_alloc_new wu (.cells (leafC 1 [97]) 24)) (fun h => h)) (fun h => h)
  have hB := kC.obj (heap_alloc_new (wu.alloc (.cells (leafC 1 [97]) 24)) (.cells (notC wu.heap.size ++ leafL 2 [98]).toArray 24)) (fun h => h)
  have hC := heap_alloc_new ((wu.alloc (.cells (leafC 1 [97]) 24)).alloc (.cells (notC wu.heap.size ++ leafL 2 [98]).toArray 24)) (.cells #[.int .i64 7, .string ⟨#[]⟩, .string ⟨#[]⟩, .int .i64 0, .slice (some ⟨wu.heap.size + 1, 0, none⟩) 2 2] 24)
  rw [z1] at hB
  rw [z2] at hC
  have k3 := (kA.trans kB (fun _ _ h => h)).trans kC (fun _ _ h => h)
  obtain ⟨wA, hwA⟩ : ∃ wA, (((wu.alloc (.cells (leafC 1 [97]) 24)).alloc (.cells (notC wu.heap.size ++ leafL 2 [98]).toArray 24)).alloc (.cells #[.int .i64 7, .string ⟨#[]⟩, .string ⟨#[]⟩, .int .i64 0, .slice (some ⟨wu.heap.size + 1, 0, none⟩) 2 2] 24)) = wA := ⟨_, rfl⟩
  rw [hwA] at hA hB hC k3
  have cP := parse_A wA (hT_keeps hTu k3 (fun h => h) (fun h => h))
  rw [← hwA] at cP
  have HwA := Lib.hid hwA
  have cEd : ∀ W, Calls Tryz.prog 20 #[.string ⟨#[99, 97, 116]⟩, .string ⟨#[99, 97, 114, 116]⟩, .int .i64 3] W fun e wu' => e = .returned (.tuple #[.int .i64 1, .bool true]) ∧ Below W.heap.size W wu' := fun W => by
    have := edits_any ⟨#[99, 97, 116]⟩ ⟨#[99, 97, 114, 116]⟩ 3 W (by decide) (by decide)
    rw [pcat, pcart, show [(99 : Int), 97, 116].length = 3 from rfl, show [(99 : Int), 97, 114, 116].length = 4 from rfl, edcat, if_pos (by decide)] at this
    exact this
  have cL1 : ∀ W, Calls Tryz.prog 18 #[.string ⟨#[99, 42, 116]⟩, .string ⟨#[99, 97, 116]⟩] W fun e wu' => e = .returned (.bool true) ∧ Below W.heap.size W wu' := fun W => by
    have := like_any ⟨#[99, 42, 116]⟩ ⟨#[99, 97, 116]⟩ W (by decide) (by decide)
    rw [like1] at this
    exact this
  have cL2 : ∀ W, Calls Tryz.prog 18 #[.string ⟨#[99, 63, 116]⟩, .string ⟨#[99, 116]⟩] W fun e wu' => e = .returned (.bool false) ∧ Below W.heap.size W wu' := fun W => by
    have := like_any ⟨#[99, 63, 116]⟩ ⟨#[99, 116]⟩ W (by decide) (by decide)
    rw [like2] at this
    exact this
  have cells : ∀ W, Keeps none' wA W → ∀ j u, (notC wu.heap.size ++ leafL 2 [98])[j]? = some u → W.cell? ⟨wu.heap.size + 1, j, none⟩ = some u := fun W hW j u hj => by
    have h1 := hW.obj hB (fun h => h)
    simp only [World.cell?, h1]
    simpa using hj
  have cwant : ∀ W, Keeps none' wA W → W.cell? ⟨wu.heap.size + 1 + 1, 0, none⟩ = some (.int .i64 7) ∧ W.cell? ⟨wu.heap.size + 1 + 1, 1, none⟩ = some (.string ⟨#[]⟩) ∧ W.cell? ⟨wu.heap.size + 1 + 1, 2, none⟩ = some (.string ⟨#[]⟩) ∧ W.cell? ⟨wu.heap.size + 1 + 1, 3, none⟩ = some (.int .i64 0) ∧ W.cell? ⟨wu.heap.size + 1 + 1, 4, none⟩ = some (.slice (some ⟨wu.heap.size + 1, 0, none⟩) 2 2) := fun W hW => by
    have h1 := hW.obj hC (fun h => h)
    exact ⟨cell_of_row _ _ _ _ _ _ h1, cell_of_row _ _ _ _ _ _ h1, cell_of_row _ _ _ _ _ _ h1, cell_of_row _ _ _ _ _ _ h1, cell_of_row _ _ _ _ _ _ h1⟩
  have cA' : ∀ W, Keeps none' wA W → W.heap[wu.heap.size]? = some (.cells (leafC 1 [97]) 24 (0, 0)) := fun W hW => hW.obj hA (fun h => h)
  have sA' : wu.heap.size + 3 ≤ wA.heap.size := by
    rw [← hwA]; simp
  clear hwA kA kB kC z1 z2 hA hB hC
  go_enter Tryz.func17, Tryz.ntmps17
  go_wp2_with fail
  refine (word_any _ _).mono ?_
  rintro e w0 ⟨rfl, h0⟩
  have h0' : wu = w0 := (Hu.out).symm.trans h0.symm
  clear h0
  subst h0'
  go_wp2_with fail
  refine cP.mono ?_
  rintro e w1 ⟨v, rfl, hq, hb1⟩
  rw [HwA.out] at hq hb1
  obtain ⟨g, cap, rfl, _, _⟩ := hq.C
  have k1 := Keeps.of_below0 hb1
  have kq : Keeps none' w1 (w1.alloc (.cells #[.int .i64 7, .string ⟨#[]⟩, .string ⟨#[]⟩, .int .i64 0, .slice (some ⟨g, 0, none⟩) 2 cap] 24)) := Keeps.alloc _ _ _
  have bq := heap_alloc_new w1 (.cells #[.int .i64 7, .string ⟨#[]⟩, .string ⟨#[]⟩, .int .i64 0, .slice (some ⟨g, 0, none⟩) 2 cap] 24)
  have k2 := k1.trans kq (fun _ _ h => h)
  have hq2 := hq.keeps kq (fun k _ h => h)
  obtain ⟨c0, c1, c2, c3, c4⟩ := cwant _ k2
  have hT2 := hT_keeps hTu (k3.trans k2 (fun _ _ h => h)) (fun h => h) (fun h => h)
  have hsz1 := k1.size
  have hlb : w1.heap.size < (w1.alloc (.cells #[.int .i64 7, .string ⟨#[]⟩, .string ⟨#[]⟩, .int .i64 0, .slice (some ⟨g, 0, none⟩) 2 cap] 24)).heap.size := by simp
  go_wp2_with fail
  refine (print_A _ hT2 (wu.heap.size + 1) wu.heap.size 2 (Nat.le_refl _) (by omega) (cA' _ k2) (cells _ k2)).mono ?_
  rintro e w2 ⟨rfl, hb2⟩
  have kp := Keeps.of_below0 hb2
  have k4 := k2.trans kp (fun _ _ h => h)
  have hq3 := hq2.keeps kp (fun k _ h => h)
  have bq2 := kp.obj bq (fun h => h)
  have hT3 := hT_keeps hT2 kp (fun h => h) (fun h => h)
  clear c0 c1 c2 c3 c4
  go_wp2_with fail
  refine (parse_B _ hT3).mono ?_
  rintro e w5 ⟨rfl, hb5⟩
  have kz : Keeps none' w5 (w5.alloc (.cells zeroQ 24)) := Keeps.alloc _ _ _
  have k5 := (Keeps.of_below0 hb5).trans kz (fun _ _ h => h)
  have k6 := k4.trans k5 (fun _ _ h => h)
  have hq4 := hq3.keeps k5 (fun k _ h => h)
  have bq3 := k5.obj bq2 (fun h => h)
  go_wp2_with fail
  refine (cEd _).mono ?_
  rintro e w6 ⟨rfl, hb6⟩
  have k7 := Keeps.of_below0 hb6
  have k8 := k6.trans k7 (fun _ _ h => h)
  have hq5 := hq4.keeps k7 (fun k _ h => h)
  have bq4 := k7.obj bq3 (fun h => h)
  obtain ⟨c0, c1, c2, c3, c4⟩ := cwant _ k8
  have d0 : w6.cell? ⟨w1.heap.size, 0, none⟩ = some (.int .i64 7) := cell_of_row _ _ _ _ _ _ bq4
  have d1 : w6.cell? ⟨w1.heap.size, 1, none⟩ = some (.string ⟨#[]⟩) := cell_of_row _ _ _ _ _ _ bq4
  have d2 : w6.cell? ⟨w1.heap.size, 2, none⟩ = some (.string ⟨#[]⟩) := cell_of_row _ _ _ _ _ _ bq4
  have d3 : w6.cell? ⟨w1.heap.size, 3, none⟩ = some (.int .i64 0) := cell_of_row _ _ _ _ _ _ bq4
  have d4 : w6.cell? ⟨w1.heap.size, 4, none⟩ = some (.slice (some ⟨g, 0, none⟩) 2 cap) := cell_of_row _ _ _ _ _ _ bq4
  have hE6 : HE w6 := k8.cell (k3.cell hEu (fun h => h)) (fun h => h)
  have cS := glossaryref0_SameQuery.calls 60 7 ⟨#[]⟩ ⟨#[]⟩ 0 (some ⟨g, 0, none⟩) cap [notS 1 [97], lfS 2 [98]] 7 ⟨#[]⟩ ⟨#[]⟩ 0 (some ⟨wu.heap.size + 1, 0, none⟩) 2 [notS 1 [97], lfS 2 [98]] true w6 hq5.at.2 hq5.at.1 (C_two (cA' _ k8) (cells _ k8)) (Nat.le_refl _) same_A
  go_wp2_with fail
  refine cS.mono ?_
  rintro e w7 ⟨rfl, hb7⟩
  have k9 := Keeps.of_below0 hb7
  have hE7 : HE w7 := k9.cell hE6 (fun h => h)
  go_wp2_with fail
  refine (Go.Proofs.YtlomjbfhalmalaaGreatDoor.E.at_fault 25 0 2 w7 (by decide) (by decide) hE7).mono ?_
  rintro e w8 ⟨rfl, hb8⟩
  have k10 := k9.trans (Keeps.of_below0 hb8) (fun _ _ h => h)
  go_wp2_with fail
  refine (cL1 _).mono ?_
  rintro e w9 ⟨rfl, hb9⟩
  have k11 := k10.trans (Keeps.of_below0 hb9) (fun _ _ h => h)
  go_wp2_with fail
  refine (cL2 _).mono ?_
  rintro e w10 ⟨rfl, hb10⟩
  have k12 := ((k3.trans k8 (fun _ _ h => h)).trans k11 (fun _ _ h => h)).trans (Keeps.of_below0 hb10) (fun _ _ h => h)
  have fin : Below w.heap.size w w10 := (ku.trans k12 (fun _ _ h => h)).below (Nat.le_refl _) (fun _ h => h.elim)
  clear cL1 cL2 cEd cells cwant cA' cS cP
  go_wp2_with fail
  go_ret
  exact ⟨rfl, fin⟩
end Go.Proofs.YtlomjbfhalmalaaGreatDoor.C
