/-
  Of this seat's texts what the claim wants (printed by a program): JH.
-/
import Derived.Test.YtlomjbfhalmalaaGreatDoortJE
set_option linter.unusedVariables false
set_option linter.unusedSimpArgs false
namespace Go.Proofs.YtlomjbfhalmalaaGreatDoor.C
open Go Go.RowKit Go.Shelf Go.Proofs.YtlomjbfhalmalaaGreatDoor.M Go.Proofs.YtlomjbfhalmalaaGreatDoor.Z Go.Proofs.YtlomjbfhalmalaaGreatDoor.PAll Go.Proofs.YtlomjbfhalmalaaGreatDoorW.PrintWords Go.Proofs.YtlomjbfhalmalaaGreatDoorW.PrintLast Go.Proofs.YtlomjbfhalmalaaGreatDoorW.PrintMore
theorem at0 (g j : Nat) : (⟨g, 0, none⟩ : Addr).add j = ⟨g, j, none⟩ := by unfold Addr.add; split <;> simp_all
abbrev lfS (K : Int) (wd : List UInt8) : S24 := ⟨K, ba wd, ⟨#[]⟩, 0, []⟩
theorem K_leaf (W : World) (K : Int) (wd : List UInt8) : k24.K W (lfS K wd) (leafL K wd) := k24_mk W (lfS K wd) (A4 := none) (c4 := 0) (Nat.le_refl _) (Kd.C_nil _ _)
theorem C_leaf {W : World} {g : Nat} {K : Int} {wd : List UInt8} (h : W.heap[g]? = some (.cells (leafC K wd) 24 (0, 0))) : Kd.C k24 W (some ⟨g, 0, none⟩) 1 [lfS K wd] := by
  refine ⟨rfl, by decide, fun _ => ⟨_, rfl, fun j p hj => ?_⟩⟩
  cases j with
  | succ j => simp at hj
  | zero =>
    injection hj with hj
    subst hj
    refine ⟨leafL K wd, rfl, K_leaf _ _ _, fun i u hu => ?_⟩
    have e5 : k24.sz = 5 := rfl
    rw [e5, Nat.zero_mul, Nat.zero_add, at0]
    match i, hu with
    | 0, hu => injection hu with hu; rw [← hu]; exact cell_of_row _ _ _ _ _ _ h
    | 1, hu => injection hu with hu; rw [← hu]; exact cell_of_row _ _ _ _ _ _ h
    | 2, hu => injection hu with hu; rw [← hu]; exact cell_of_row _ _ _ _ _ _ h
    | 3, hu => injection hu with hu; rw [← hu]; exact cell_of_row _ _ _ _ _ _ h
    | 4, hu => injection hu with hu; rw [← hu]; exact cell_of_row _ _ _ _ _ _ h
    | i + 5, hu => simp at hu
abbrev notS (K : Int) (wd : List UInt8) : S24 := ⟨9, ⟨#[]⟩, ⟨#[]⟩, 0, [lfS K wd]⟩
theorem C_two {W : World} {g g1 : Nat} {K1 K2 : Int} {wd1 wd2 : List UInt8} (h1 : W.heap[g1]? = some (.cells (leafC K1 wd1) 24 (0, 0)))
    (h : ∀ j u, (notC g1 ++ leafL K2 wd2)[j]? = some u → W.cell? ⟨g, j, none⟩ = some u) : Kd.C k24 W (some ⟨g, 0, none⟩) 2 [notS K1 wd1, lfS K2 wd2] := by
  refine ⟨rfl, by decide, fun _ => ⟨_, rfl, fun j p hj => ?_⟩⟩
  have e5 : k24.sz = 5 := rfl
  match j, hj with
  | 0, hj =>
    injection hj with hj
    subst hj
    refine ⟨notC g1, rfl, k24_mk W (notS K1 wd1) (c4 := 1) (Nat.le_refl _) (C_leaf h1), fun i u hu => ?_⟩
    rw [e5, Nat.zero_mul, Nat.zero_add, at0]
    refine h i u ?_
    rw [List.getElem?_append_left (List.getElem?_eq_some_iff.1 hu).1]; exact hu
  | 1, hj =>
    injection hj with hj
    subst hj
    refine ⟨leafL K2 wd2, rfl, K_leaf _ _ _, fun i u hu => ?_⟩
    rw [e5, Nat.one_mul, at0]
    refine h (5 + i) u ?_
    rw [List.getElem?_append_right (by simp)]
    simpa using hu
  | j + 2, hj => simp at hj
theorem QA.C {lo : Nat} {K1 K2 : Int} {wd1 wd2 : List UInt8} {v : Value} {W : World} (h : QA lo K1 K2 wd1 wd2 v W) : ∃ g cap, v = .agg #[.int .i64 7, .string ⟨#[]⟩, .string ⟨#[]⟩, .int .i64 0, .slice (some ⟨g, 0, none⟩) 2 cap] ∧ 2 ≤ cap ∧ Kd.C k24 W (some ⟨g, 0, none⟩) 2 [notS K1 wd1, lfS K2 wd2] := by
  obtain ⟨g1, g, cap, rfl, h1, h2, h3⟩ := h
  have hc : 2 ≤ cap := by
    rcases h3.2 with ⟨e, _⟩ | ⟨g', cap', cur, e, _, _, h, _⟩
    · cases e
    · injection e with _ _ e3; omega
  refine ⟨g, cap, rfl, hc, C_two h2 fun j u hj => ?_⟩
  have := h3.cells (g := g) rfl j u hj
  rwa [at0] at this
abbrev allV (g cap : Nat) : Value := .agg #[.int .i64 7, .string ⟨#[]⟩, .string ⟨#[]⟩, .int .i64 0, .slice (some ⟨g, 0, none⟩) 2 cap]
theorem QA.at {lo : Nat} {K1 K2 : Int} {wd1 wd2 : List UInt8} {g cap : Nat} {W : World} (h : QA lo K1 K2 wd1 wd2 (allV g cap) W) : 2 ≤ cap ∧ Kd.C k24 W (some ⟨g, 0, none⟩) 2 [notS K1 wd1, lfS K2 wd2] := by
  obtain ⟨g', cap', e, h2, h3⟩ := h.C
  injection e with e
  have e := congrArg (fun x : Array Value => x[4]?) e
  simp at e
  obtain ⟨rfl, rfl⟩ := e
  exact ⟨h2, h3⟩
theorem QA.weak {lo lo' : Nat} {K1 K2 : Int} {wd1 wd2 : List UInt8} {v : Value} {W : World} (h : QA lo K1 K2 wd1 wd2 v W) (hl : lo' ≤ lo) : QA lo' K1 K2 wd1 wd2 v W := by
  obtain ⟨g1, g, cap, rfl, h1, h2, h3⟩ := h
  refine ⟨g1, g, cap, rfl, by omega, h2, h3.1, ?_⟩
  rcases h3.2 with h | ⟨g', cap', cur, e, hb, r⟩
  · exact .inl h
  · exact .inr ⟨g', cap', cur, e, by omega, r⟩
theorem parts_A : query_parts.f 20 7 ⟨#[]⟩ ⟨#[]⟩ 0 [notS 1 [97], lfS 2 [98]] 64 = some 4 := by decide +kernel
theorem hT_lt {w : World} (h : hT w) : 1 < w.heap.size ∧ 2 < w.heap.size :=
  ⟨World.block_lt_of_cell? w _ (h.1 0 (by decide)), World.block_lt_of_cell? w _ (h.2 0 (by decide)).1⟩
set_option maxHeartbeats 4000000 in
set_option maxRecDepth 100000 in
theorem parse_A (w : World) (hT' : hT w) :
    Calls Tryz.prog 22 #[.string sA] w fun e w' => ∃ v, e = .returned (.tuple #[v, .nilIface]) ∧ QA w.heap.size 1 2 [97] [98] v w' ∧ Below w.heap.size w w' := by
  have hmf : ∀ (fn : Fn) (first cap : Array Value) (w : World), (Instr.makeFunc fn first cap).run Tryz.prog w = .ok (.func fn first cap) w := fun _ _ _ _ => rfl
  have hlt := hT_lt hT'
  let w1 := w.alloc (.cells zeroQ 24)
  let w2 := w1.alloc (.cells #[.nilIface] 30)
  let w3 := w2.alloc (.cells #[.string sA, .int .i64 0, .int .i64 0] 85)
  have z1 : w1.heap.size = w.heap.size + 1 := by simp [w1]
  have z2 : w2.heap.size = w.heap.size + 2 := by simp [w2, z1]
  have k1 : Keeps none' w w1 := Keeps.alloc _ _ _
  have k2 : Keeps none' w1 w2 := Keeps.alloc _ _ _
  have k3 : Keeps none' w2 w3 := Keeps.alloc _ _ _
  have k03 := (k1.trans k2 (fun _ _ h => h)).trans k3 (fun _ _ h => h)
  have b0 : w3.heap[w.heap.size]? = some (.cells zeroQ 24 (0, 0)) := k3.obj (k2.obj (heap_alloc_new w _) (fun h => h)) (fun h => h)
  have b1 : w3.heap[w.heap.size + 1]? = some (.cells #[.nilIface] 30 (0, 0)) := k3.obj (by rw [← z1]; exact heap_alloc_new w1 _) (fun h => h)
  have hP : Ps w3 (w.heap.size + 2) sA 0 0 := by rw [← z2]; exact heap_alloc_new w2 _
  have cA := any_A hP (hT_keeps hT' k03 (fun h => h) (fun h => h)) ⟨by omega, by omega⟩
  go_enter_defers Tryz.func22, Tryz.ntmps22
  go_wp2_with fail
  refine cA.mono ?_
  rintro e w4 ⟨v, rfl, hq4, hP4, hk4⟩
  obtain ⟨g, cap, rfl, _, _⟩ := hq4.C
  have b04 := hk4.obj b0 (by omega)
  have b14 := hk4.obj b1 (by omega)
  have p1 : w4.cell? ⟨w.heap.size + 1 + 1, 1, none⟩ = some (.int .i64 5) := hP4.c1
  have c0 : w4.cell? ⟨w.heap.size, 0, none⟩ = some (.int .i64 0) := cell_of_row _ _ _ _ _ _ b04
  have c1 : w4.cell? ⟨w.heap.size, 1, none⟩ = some (.string ⟨#[]⟩) := cell_of_row _ _ _ _ _ _ b04
  have c2 : w4.cell? ⟨w.heap.size, 2, none⟩ = some (.string ⟨#[]⟩) := cell_of_row _ _ _ _ _ _ b04
  have c3 : w4.cell? ⟨w.heap.size, 3, none⟩ = some (.int .i64 0) := cell_of_row _ _ _ _ _ _ b04
  have c4 : w4.cell? ⟨w.heap.size, 4, none⟩ = some (.slice none 0 0) := cell_of_row _ _ _ _ _ _ b04
  have f0 := frozen_cells b04 0
  have f1 := frozen_cells b04 1
  have f2 := frozen_cells b04 2
  have f3 := frozen_cells b04 3
  have f4 := frozen_cells b04 4
  have z3 : w3.heap.size = w.heap.size + 3 := by simp [w3, z2]
  have k5 := Keeps.set5 w4 w.heap.size (.int .i64 7) (.string ⟨#[]⟩) (.string ⟨#[]⟩) (.int .i64 0) (.slice (some ⟨g, 0, none⟩) 2 cap)
  have hq5 := hq4.keeps k5 (fun k hk e => by omega)
  have b15 := k5.obj b14 (by omega)
  have b05 := cell_modify (cell_modify (cell_modify (cell_modify (cell_modify b04 0 (.int .i64 7)) 1 (.string ⟨#[]⟩)) 2 (.string ⟨#[]⟩)) 3 (.int .i64 0)) 4 (.slice (some ⟨g, 0, none⟩) 2 cap)
  have kw5 := ((k03.mono (Z' := fun k => w.heap.size ≤ k) (fun _ _ h => h.elim)).trans hk4 (fun _ _ e => by omega)).trans k5 (fun _ _ e => by omega)
  go_wp2_with fail
  refine (query_parts.calls 20 7 ⟨#[]⟩ ⟨#[]⟩ 0 (some ⟨g, 0, none⟩) cap [notS 1 [97], lfS 2 [98]] 64 4 _ hq5.at.2 hq5.at.1 parts_A).mono ?_
  rintro e w6 ⟨rfl, hb6⟩
  have k6 := Keeps.of_below0 hb6
  have b06 := k6.obj b05 (fun h => h)
  have b16 := k6.obj b15 (fun h => h)
  have hq6 := hq5.keeps k6 (fun k _ h => h)
  have kw6 := kw5.trans k6 (fun _ _ h => h.elim)
  clear kw5 hq5 b05 b15 k5 c0 c1 c2 c3 c4 f0 f1 f2 f3 f4 hq4 b04 b14
  have c0 : w6.cell? ⟨w.heap.size, 0, none⟩ = some (.int .i64 7) := cell_of_row _ _ _ _ _ _ b06
  have c1 : w6.cell? ⟨w.heap.size, 1, none⟩ = some (.string ⟨#[]⟩) := cell_of_row _ _ _ _ _ _ b06
  have c2 : w6.cell? ⟨w.heap.size, 2, none⟩ = some (.string ⟨#[]⟩) := cell_of_row _ _ _ _ _ _ b06
  have c3 : w6.cell? ⟨w.heap.size, 3, none⟩ = some (.int .i64 0) := cell_of_row _ _ _ _ _ _ b06
  have c4 : w6.cell? ⟨w.heap.size, 4, none⟩ = some (.slice (some ⟨g, 0, none⟩) 2 cap) := cell_of_row _ _ _ _ _ _ b06
  have f0 := frozen_cells b06 0
  have f1 := frozen_cells b06 1
  have f2 := frozen_cells b06 2
  have f3 := frozen_cells b06 3
  have f4 := frozen_cells b06 4
  have d0 : w6.cell? ⟨w.heap.size + 1, 0, none⟩ = some .nilIface := cell_of_row _ _ _ _ _ _ b16
  have y0 := frozen_cells b16 0
  have k7 := Keeps.set5 w6 w.heap.size (.int .i64 7) (.string ⟨#[]⟩) (.string ⟨#[]⟩) (.int .i64 0) (.slice (some ⟨g, 0, none⟩) 2 cap)
  have k8 : Keeps (fun k => k = w.heap.size + 1) _ ((((((w6.setCell ⟨w.heap.size, 0, none⟩ (.int .i64 7)).setCell ⟨w.heap.size, 1, none⟩ (.string ⟨#[]⟩)).setCell ⟨w.heap.size, 2, none⟩ (.string ⟨#[]⟩)).setCell ⟨w.heap.size, 3, none⟩ (.int .i64 0)).setCell ⟨w.heap.size, 4, none⟩ (.slice (some ⟨g, 0, none⟩) 2 cap)).setCell ⟨w.heap.size + 1, 0, none⟩ .nilIface) := Keeps.setCell _ _ _ rfl
  have hq8 := (hq6.keeps k7 (fun k hk e => by omega)).keeps k8 (fun k hk e => by omega)
  have b07 := k8.obj (cell_modify (cell_modify (cell_modify (cell_modify (cell_modify b06 0 (.int .i64 7)) 1 (.string ⟨#[]⟩)) 2 (.string ⟨#[]⟩)) 3 (.int .i64 0)) 4 (.slice (some ⟨g, 0, none⟩) 2 cap)) (by omega)
  have b17 := cell_modify (k7.obj b16 (by omega)) 0 .nilIface
  have kw8 := (kw6.trans k7 (fun _ _ e => by omega)).trans k8 (fun _ _ e => by omega)
  obtain ⟨w8, hw8⟩ : ∃ w8, ((((((w6.setCell ⟨w.heap.size, 0, none⟩ (.int .i64 7)).setCell ⟨w.heap.size, 1, none⟩ (.string ⟨#[]⟩)).setCell ⟨w.heap.size, 2, none⟩ (.string ⟨#[]⟩)).setCell ⟨w.heap.size, 3, none⟩ (.int .i64 0)).setCell ⟨w.heap.size, 4, none⟩ (.slice (some ⟨g, 0, none⟩) 2 cap)).setCell ⟨w.heap.size + 1, 0, none⟩ .nilIface) = w8 := ⟨_, rfl⟩
  rw [hw8] at hq8 b07 b17 kw8
  have HW := Lib.hid hw8
  clear hw8 k7 k8
  go_wp2
  rw [HW.out]
  refine leaves_cons (f := 51) (args := #[.pointer (some ⟨w.heap.size, 0, none⟩), .pointer (some ⟨w.heap.size + 1, 0, none⟩)]) (by simp) (by simp [go_sem]) ?_
  refine (catch_idle w.heap.size _).mono ?_
  rintro e u w9 ⟨rfl, rfl, rfl⟩
  have s0 : w9.cell? ⟨w.heap.size, 0, none⟩ = some (.int .i64 7) := cell_of_row _ _ _ _ _ _ b07
  have s1 : w9.cell? ⟨w.heap.size, 1, none⟩ = some (.string ⟨#[]⟩) := cell_of_row _ _ _ _ _ _ b07
  have s2 : w9.cell? ⟨w.heap.size, 2, none⟩ = some (.string ⟨#[]⟩) := cell_of_row _ _ _ _ _ _ b07
  have s3 : w9.cell? ⟨w.heap.size, 3, none⟩ = some (.int .i64 0) := cell_of_row _ _ _ _ _ _ b07
  have s4 : w9.cell? ⟨w.heap.size, 4, none⟩ = some (.slice (some ⟨g, 0, none⟩) 2 cap) := cell_of_row _ _ _ _ _ _ b07
  have s5 : w9.cell? ⟨w.heap.size + 1, 0, none⟩ = some .nilIface := cell_of_row _ _ _ _ _ _ b17
  simp [Leaves, settle, results, Tryz.results22, go_sem, s0, s1, s2, s3, s4, s5]
  exact ⟨hq8.weak (by omega), kw8.below (Nat.le_refl _) (fun k h => h)⟩
end Go.Proofs.YtlomjbfhalmalaaGreatDoor.C
set_option linter.unusedVariables false
set_option linter.unusedSimpArgs false
namespace Go.Proofs.YtlomjbfhalmalaaGreatDoor.C
open Go Go.RowKit Go.Shelf Go.Proofs.YtlomjbfhalmalaaGreatDoor.M Go.Proofs.YtlomjbfhalmalaaGreatDoor.Z
set_option maxHeartbeats 4000000 in
set_option maxRecDepth 100000 in
theorem parse_B (w : World) (hT' : hT w) :
    Calls Tryz.prog 22 #[.string sB] w fun e w' => e = .returned (.tuple #[.agg zeroQ, fault 25 2]) ∧ Below w.heap.size w w' := by
  have hmf : ∀ (fn : Fn) (first cap : Array Value) (w : World), (Instr.makeFunc fn first cap).run Tryz.prog w = .ok (.func fn first cap) w := fun _ _ _ _ => rfl
  have hlt := hT_lt hT'
  let w1 := w.alloc (.cells zeroQ 24)
  let w2 := w1.alloc (.cells #[.nilIface] 30)
  let w3 := w2.alloc (.cells #[.string sB, .int .i64 0, .int .i64 0] 85)
  have z1 : w1.heap.size = w.heap.size + 1 := by simp [w1]
  have z2 : w2.heap.size = w.heap.size + 2 := by simp [w2, z1]
  have k1 : Keeps none' w w1 := Keeps.alloc _ _ _
  have k2 : Keeps none' w1 w2 := Keeps.alloc _ _ _
  have k3 : Keeps none' w2 w3 := Keeps.alloc _ _ _
  have k03 := (k1.trans k2 (fun _ _ h => h)).trans k3 (fun _ _ h => h)
  have b0 : w3.heap[w.heap.size]? = some (.cells zeroQ 24 (0, 0)) := k3.obj (k2.obj (heap_alloc_new w _) (fun h => h)) (fun h => h)
  have b1 : w3.heap[w.heap.size + 1]? = some (.cells #[.nilIface] 30 (0, 0)) := k3.obj (by rw [← z1]; exact heap_alloc_new w1 _) (fun h => h)
  have hP : Ps w3 (w.heap.size + 2) sB 0 0 := by rw [← z2]; exact heap_alloc_new w2 _
  have cA := any_B hP (hT_keeps hT' k03 (fun h => h) (fun h => h)) ⟨by omega, by omega⟩
  go_enter_defers Tryz.func22, Tryz.ntmps22
  go_wp2_with fail
  refine cA.mono ?_
  rintro e w4 ⟨v, rfl, rfl, hP4, hk4⟩
  have b04 := hk4.obj b0 (by omega)
  have b14 := hk4.obj b1 (by omega)
  have p1 : w4.cell? ⟨w.heap.size + 1 + 1, 1, none⟩ = some (.int .i64 2) := hP4.c1
  have c0 : w4.cell? ⟨w.heap.size, 0, none⟩ = some (.int .i64 0) := cell_of_row _ _ _ _ _ _ b04
  have c1 : w4.cell? ⟨w.heap.size, 1, none⟩ = some (.string ⟨#[]⟩) := cell_of_row _ _ _ _ _ _ b04
  have c2 : w4.cell? ⟨w.heap.size, 2, none⟩ = some (.string ⟨#[]⟩) := cell_of_row _ _ _ _ _ _ b04
  have c3 : w4.cell? ⟨w.heap.size, 3, none⟩ = some (.int .i64 0) := cell_of_row _ _ _ _ _ _ b04
  have c4 : w4.cell? ⟨w.heap.size, 4, none⟩ = some (.slice none 0 0) := cell_of_row _ _ _ _ _ _ b04
  have f0 := frozen_cells b04 0
  have f1 := frozen_cells b04 1
  have f2 := frozen_cells b04 2
  have f3 := frozen_cells b04 3
  have f4 := frozen_cells b04 4
  have k5 := Keeps.set5 w4 w.heap.size (.int .i64 1) (.string (ba [97])) (.string ⟨#[]⟩) (.int .i64 0) (.slice none 0 0)
  have b15 := k5.obj b14 (by omega)
  have b05 := cell_modify (cell_modify (cell_modify (cell_modify (cell_modify b04 0 (.int .i64 1)) 1 (.string (ba [97]))) 2 (.string ⟨#[]⟩)) 3 (.int .i64 0)) 4 (.slice none 0 0)
  have kw5 := ((k03.mono (Z' := fun k => w.heap.size ≤ k) (fun _ _ h => h.elim)).trans hk4 (fun _ _ e => by omega)).trans k5 (fun _ _ e => by omega)
  go_wp2_with fail
  refine (wrong_any 25 2 _).mono ?_
  rintro e w6 ⟨rfl, rfl⟩
  go_wp2
  refine leaves_cons (f := 51) (args := #[.pointer (some ⟨w.heap.size, 0, none⟩), .pointer (some ⟨w.heap.size + 1, 0, none⟩)]) (by simp) (by simp [go_sem]) ?_
  refine (catch_fault w.heap.size 25 2 _ _ _ _ _ _ _ b05 b15).mono ?_
  rintro e u w9 ⟨rfl, rfl, b07, b17, hk9⟩
  have s0 : w9.cell? ⟨w.heap.size, 0, none⟩ = some (.int .i64 0) := cell_of_row _ _ _ _ _ _ b07
  have s1 : w9.cell? ⟨w.heap.size, 1, none⟩ = some (.string ⟨#[]⟩) := cell_of_row _ _ _ _ _ _ b07
  have s2 : w9.cell? ⟨w.heap.size, 2, none⟩ = some (.string ⟨#[]⟩) := cell_of_row _ _ _ _ _ _ b07
  have s3 : w9.cell? ⟨w.heap.size, 3, none⟩ = some (.int .i64 0) := cell_of_row _ _ _ _ _ _ b07
  have s4 : w9.cell? ⟨w.heap.size, 4, none⟩ = some (.slice none 0 0) := cell_of_row _ _ _ _ _ _ b07
  have s5 : w9.cell? ⟨w.heap.size + 1, 0, none⟩ = some (fault 25 2) := cell_of_row _ _ _ _ _ _ b17
  simp [Leaves, settle, results, Tryz.results22, go_sem, s0, s1, s2, s3, s4, s5]
  exact (kw5.trans hk9 (fun _ _ e => by omega)).below (Nat.le_refl _) (fun k h => h)
end Go.Proofs.YtlomjbfhalmalaaGreatDoor.C
set_option linter.unusedVariables false
set_option linter.unusedSimpArgs false
namespace Go.Proofs.YtlomjbfhalmalaaGreatDoor.C
open Go Go.RowKit Go.Shelf Go.Proofs.YtlomjbfhalmalaaGreatDoor.M Go.Proofs.YtlomjbfhalmalaaGreatDoor.Z
theorem new5 (w : World) (c0 c1 c2 c3 c4 : Value) :
    (w.alloc (.cells #[c0, c1, c2, c3, c4] 24)).cell? ⟨w.heap.size, 0, none⟩ = some c0 ∧ (w.alloc (.cells #[c0, c1, c2, c3, c4] 24)).cell? ⟨w.heap.size, 1, none⟩ = some c1 ∧ (w.alloc (.cells #[c0, c1, c2, c3, c4] 24)).cell? ⟨w.heap.size, 2, none⟩ = some c2 ∧
    (w.alloc (.cells #[c0, c1, c2, c3, c4] 24)).cell? ⟨w.heap.size, 3, none⟩ = some c3 ∧ (w.alloc (.cells #[c0, c1, c2, c3, c4] 24)).cell? ⟨w.heap.size, 4, none⟩ = some c4 := by
  have b := heap_alloc_new w (.cells #[c0, c1, c2, c3, c4] 24)
  exact ⟨cell_of_row _ _ _ _ _ _ b, cell_of_row _ _ _ _ _ _ b, cell_of_row _ _ _ _ _ _ b, cell_of_row _ _ _ _ _ _ b, cell_of_row _ _ _ _ _ _ b⟩
set_option maxHeartbeats 8000000 in
set_option maxRecDepth 100000 in
theorem check_leaf (K : Int) (hK : K = 1 ∨ K = 2) (x : UInt8) (w : World) :
    Calls Tryz.prog 42 #[leafV K [x]] w fun e w' => e = .returned .nilIface ∧ Keeps none' w w' := by
  have hz0 : (ba [x]).toList = [x] := by rw [ByteArray.toList_eq]; exact bl_ba [x]
  have hz : (ba [x]).toList.isEmpty = false := by rw [hz0]; rfl
  have hn : ¬ (ba [x]).toList = [] := by rw [hz0]; simp
  have kA : Keeps none' w (w.alloc (.cells (leafC K [x]) 24)) := Keeps.alloc _ _ _
  obtain ⟨c0, c1, c2, c3, c4⟩ := new5 w (.int .i64 K) (.string (ba [x])) (.string ⟨#[]⟩) (.int .i64 0) (.slice none 0 0)
  clear hz0
  rcases hK with rfl | rfl
  all_goals
    go_enter Tryz.func42, Tryz.ntmps42
    go_wp2
    refine wp_loop_rounds 1 ?_
    rw [rounds_succ]
    go_wp2
    go_ret
    exact ⟨rfl, kA⟩
set_option maxHeartbeats 8000000 in
set_option maxRecDepth 100000 in
theorem check_not (g : Nat) (x : UInt8) (w : World) (hg : w.heap[g]? = some (.cells (leafC 1 [x]) 24 (0, 0))) :
    Calls Tryz.prog 42 #[notV g] w fun e w' => e = .returned .nilIface ∧ Keeps none' w w' := by
  have k1 : Keeps none' w (w.alloc (.cells #[.int .i64 9, .string ⟨#[]⟩, .string ⟨#[]⟩, .int .i64 0, .slice (some ⟨g, 0, none⟩) 1 1] 24)) := Keeps.alloc _ _ _
  have k2 : Keeps none' (w.alloc (.cells #[.int .i64 9, .string ⟨#[]⟩, .string ⟨#[]⟩, .int .i64 0, .slice (some ⟨g, 0, none⟩) 1 1] 24)) ((w.alloc (.cells #[.int .i64 9, .string ⟨#[]⟩, .string ⟨#[]⟩, .int .i64 0, .slice (some ⟨g, 0, none⟩) 1 1] 24)).alloc (.cells #[.int .i64 1, .string (ba [x]), .string ⟨#[]⟩, .int .i64 0, .slice none 0 0] 24)) := Keeps.alloc _ _ _
  have z1 : (w.alloc (.cells #[.int .i64 9, .string ⟨#[]⟩, .string ⟨#[]⟩, .int .i64 0, .slice (some ⟨g, 0, none⟩) 1 1] 24)).heap.size = w.heap.size + 1 := by simp
  obtain ⟨c0, c1, c2, c3, c4⟩ := new5 w (.int .i64 9) (.string ⟨#[]⟩) (.string ⟨#[]⟩) (.int .i64 0) (.slice (some ⟨g, 0, none⟩) 1 1)
  have hg1 : (w.alloc (.cells #[.int .i64 9, .string ⟨#[]⟩, .string ⟨#[]⟩, .int .i64 0, .slice (some ⟨g, 0, none⟩) 1 1] 24)).heap[g]? = _ := k1.obj hg (fun h => h)
  have e0 : (w.alloc (.cells #[.int .i64 9, .string ⟨#[]⟩, .string ⟨#[]⟩, .int .i64 0, .slice (some ⟨g, 0, none⟩) 1 1] 24)).cell? ⟨g, 0, none⟩ = some (.int .i64 1) := cell_of_row _ _ _ _ _ _ hg1
  have e1 : (w.alloc (.cells #[.int .i64 9, .string ⟨#[]⟩, .string ⟨#[]⟩, .int .i64 0, .slice (some ⟨g, 0, none⟩) 1 1] 24)).cell? ⟨g, 1, none⟩ = some (.string (ba [x])) := cell_of_row _ _ _ _ _ _ hg1
  have e2 : (w.alloc (.cells #[.int .i64 9, .string ⟨#[]⟩, .string ⟨#[]⟩, .int .i64 0, .slice (some ⟨g, 0, none⟩) 1 1] 24)).cell? ⟨g, 2, none⟩ = some (.string ⟨#[]⟩) := cell_of_row _ _ _ _ _ _ hg1
  have e3 : (w.alloc (.cells #[.int .i64 9, .string ⟨#[]⟩, .string ⟨#[]⟩, .int .i64 0, .slice (some ⟨g, 0, none⟩) 1 1] 24)).cell? ⟨g, 3, none⟩ = some (.int .i64 0) := cell_of_row _ _ _ _ _ _ hg1
  have e4 : (w.alloc (.cells #[.int .i64 9, .string ⟨#[]⟩, .string ⟨#[]⟩, .int .i64 0, .slice (some ⟨g, 0, none⟩) 1 1] 24)).cell? ⟨g, 4, none⟩ = some (.slice none 0 0) := cell_of_row _ _ _ _ _ _ hg1
  obtain ⟨d0, d1, d2, d3, d4⟩ := new5 (w.alloc (.cells #[.int .i64 9, .string ⟨#[]⟩, .string ⟨#[]⟩, .int .i64 0, .slice (some ⟨g, 0, none⟩) 1 1] 24)) (.int .i64 1) (.string (ba [x])) (.string ⟨#[]⟩) (.int .i64 0) (.slice none 0 0)
  rw [z1] at d0 d1 d2 d3 d4
  have cL := check_leaf 1 (.inl rfl) x
  go_enter Tryz.func42, Tryz.ntmps42
  go_wp2
  refine wp_loop_rounds 2 ?_
  rw [rounds_succ]
  go_wp2_with fail
  refine (cL _).mono ?_
  rintro e w3 ⟨rfl, hk3⟩
  go_wp2_with fail
  rw [rounds_succ]
  go_wp2
  go_ret
  exact ⟨rfl, (k1.trans k2 (fun _ _ h => h)).trans hk3 (fun _ _ h => h)⟩
set_option maxHeartbeats 8000000 in
set_option maxRecDepth 100000 in
theorem check_all (g g1 cap : Nat) (x y : UInt8) (w : World) (hc : 2 ≤ cap) (hg1 : w.heap[g1]? = some (.cells (leafC 1 [x]) 24 (0, 0)))
    (hg : ∀ j u, (notC g1 ++ leafL 2 [y])[j]? = some u → w.cell? ⟨g, j, none⟩ = some u) :
    Calls Tryz.prog 42 #[allV g cap] w fun e w' => e = .returned .nilIface ∧ Keeps none' w w' := by
  have k1 : Keeps none' w (w.alloc (.cells #[.int .i64 7, .string ⟨#[]⟩, .string ⟨#[]⟩, .int .i64 0, .slice (some ⟨g, 0, none⟩) 2 cap] 24)) := Keeps.alloc _ _ _
  have k2 : Keeps none' (w.alloc (.cells #[.int .i64 7, .string ⟨#[]⟩, .string ⟨#[]⟩, .int .i64 0, .slice (some ⟨g, 0, none⟩) 2 cap] 24)) ((w.alloc (.cells #[.int .i64 7, .string ⟨#[]⟩, .string ⟨#[]⟩, .int .i64 0, .slice (some ⟨g, 0, none⟩) 2 cap] 24)).alloc (.cells #[.int .i64 9, .string ⟨#[]⟩, .string ⟨#[]⟩, .int .i64 0, .slice (some ⟨g1, 0, none⟩) 1 1] 24)) := Keeps.alloc _ _ _
  have z1 : (w.alloc (.cells #[.int .i64 7, .string ⟨#[]⟩, .string ⟨#[]⟩, .int .i64 0, .slice (some ⟨g, 0, none⟩) 2 cap] 24)).heap.size = w.heap.size + 1 := by simp
  have cc : ∀ W, Keeps none' w W → ∀ j u, (notC g1 ++ leafL 2 [y])[j]? = some u → W.cell? ⟨g, j, none⟩ = some u := fun W hk j u hj => hk.cell (hg j u hj) (fun h => h)
  obtain ⟨c0, c1, c2, c3, c4⟩ := new5 w (.int .i64 7) (.string ⟨#[]⟩) (.string ⟨#[]⟩) (.int .i64 0) (.slice (some ⟨g, 0, none⟩) 2 cap)
  have e0 := cc (w.alloc (.cells #[.int .i64 7, .string ⟨#[]⟩, .string ⟨#[]⟩, .int .i64 0, .slice (some ⟨g, 0, none⟩) 2 cap] 24)) k1 0 _ rfl
  have e1 := cc (w.alloc (.cells #[.int .i64 7, .string ⟨#[]⟩, .string ⟨#[]⟩, .int .i64 0, .slice (some ⟨g, 0, none⟩) 2 cap] 24)) k1 1 _ rfl
  have e2 := cc (w.alloc (.cells #[.int .i64 7, .string ⟨#[]⟩, .string ⟨#[]⟩, .int .i64 0, .slice (some ⟨g, 0, none⟩) 2 cap] 24)) k1 2 _ rfl
  have e3 := cc (w.alloc (.cells #[.int .i64 7, .string ⟨#[]⟩, .string ⟨#[]⟩, .int .i64 0, .slice (some ⟨g, 0, none⟩) 2 cap] 24)) k1 3 _ rfl
  have e4 := cc (w.alloc (.cells #[.int .i64 7, .string ⟨#[]⟩, .string ⟨#[]⟩, .int .i64 0, .slice (some ⟨g, 0, none⟩) 2 cap] 24)) k1 4 _ rfl
  obtain ⟨d0, d1, d2, d3, d4⟩ := new5 (w.alloc (.cells #[.int .i64 7, .string ⟨#[]⟩, .string ⟨#[]⟩, .int .i64 0, .slice (some ⟨g, 0, none⟩) 2 cap] 24)) (.int .i64 9) (.string ⟨#[]⟩) (.string ⟨#[]⟩) (.int .i64 0) (.slice (some ⟨g1, 0, none⟩) 1 1)
  rw [z1] at d0 d1 d2 d3 d4
  have cN := check_not g1 x ((w.alloc (.cells #[.int .i64 7, .string ⟨#[]⟩, .string ⟨#[]⟩, .int .i64 0, .slice (some ⟨g, 0, none⟩) 2 cap] 24)).alloc (.cells #[.int .i64 9, .string ⟨#[]⟩, .string ⟨#[]⟩, .int .i64 0, .slice (some ⟨g1, 0, none⟩) 1 1] 24)) (k2.obj (k1.obj hg1 (fun h => h)) (fun h => h))
  have cL := check_leaf 2 (.inr rfl) y
  go_enter Tryz.func42, Tryz.ntmps42
  go_wp2
  refine wp_loop_rounds 3 ?_
  rw [rounds_succ]
  go_wp2_with fail
  refine cN.mono ?_
  rintro e w3 ⟨rfl, hk3⟩
  have k3 := (k1.trans k2 (fun _ _ h => h)).trans hk3 (fun _ _ h => h)
  have m0 := cc w3 k3 5 _ rfl
  have m1 := cc w3 k3 6 _ rfl
  have m2 := cc w3 k3 7 _ rfl
  have m3 := cc w3 k3 8 _ rfl
  have m4 := cc w3 k3 9 _ rfl
  obtain ⟨n0, n1, n2, n3, n4⟩ := new5 w3 (.int .i64 2) (.string (ba [y])) (.string ⟨#[]⟩) (.int .i64 0) (.slice none 0 0)
  go_wp2_with fail
  rw [rounds_succ]
  go_wp2_with fail
  refine (cL _).mono ?_
  rintro e w4 ⟨rfl, hk4⟩
  go_wp2_with fail
  rw [rounds_succ]
  go_wp2
  go_ret
  exact ⟨rfl, (k3.trans (Keeps.alloc none' w3 _) (fun _ _ h => h)).trans hk4 (fun _ _ h => h)⟩
end Go.Proofs.YtlomjbfhalmalaaGreatDoor.C
